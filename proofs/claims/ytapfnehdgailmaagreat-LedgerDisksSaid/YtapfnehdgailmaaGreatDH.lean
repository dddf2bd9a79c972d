/- The document's disk: Append, whole. The document's disk: a file goes. (Its walk is printed by mkr3.py.) The document's disk: Remove. The document's disk: Rename. The document's disk: Crash. The document's disk: Copy. (Its walk is printed by mkr5.py.) The contract of frame.Scan. The document's check sum (satrapyref1.Sum) is the program's. The document's Four and FromFour. The document's Encode (satrapyref2). The document's order of a record's checks comes to the same (plain laws). -/
import Derived.Test.YtapfnehdgailmaaGreatDD
import Derived.Test.YtapfnehdgailmaaGreatDF
import Derived.Test.YtapfnehdgailmaaGreatDG
set_option maxRecDepth 100000
set_option maxHeartbeats 64000000
namespace Go.Proofs.YtapfnehdgailmaaGreat
open Go.RowKit Go.Sat Go.Maps
section
variable {w:World} {r:Nat} {v:Value} {L:List zAH} {own:Nat→Prop} {D:zAA}
theorem rappend_calls (h:zAS w r v L own D) (s:ByteArray) (hs:s.size≤9223372036854775807) {pb:Option Addr} {m cb:Nat} {l:Bs} (hl:HasB w (.slice pb m cb) l) (hlm:l.length≤140737488355328) (hno:l≠[]→∀ k,(Value.slice pb m cb).ownBlock=some k→¬ own k) :
  Calls Tryz.prog 16 #[.pointer (some ⟨r,0,none⟩),.string s,.slice pb m cb] w (zCu w r own (D.append (nm s) l)):=by
 have hml:m=l.length:=(zBe hl).1
 by_cases hm:D.may [nm s]=0
 ·by_cases hf:D.full (nm s) l=true
  ·have hR:D.append (nm s) l=(D,6):=by unfold zAA.append;rw [if_neg (by rw [hm];simp),if_pos hf]
   rw [hR]
   refine rappend_full h s hs (by omega) hm ?_
   unfold zAA.full at hf
   rw [Bool.or_eq_true,Bool.and_eq_true,decide_eq_true_eq,decide_eq_true_eq,Option.isNone_iff_eq_none] at hf
   rw [hml]
   exact hf
  ·have hf0:D.full (nm s) l=false:=by simpa using hf
   have hok:=ok_append h.ok hm hf0
   have hR:D.append (nm s) l=(zAA.done { D with files:=put (nm s) ⟨(D.cur (nm s)).data ++ l,(D.cur (nm s)).lasts⟩ D.files },0):=by unfold zAA.append;rw [if_neg (by rw [hm];simp),if_neg hf]
   rw [hR]
   unfold zAA.full at hf
   rw [Bool.or_eq_true,Bool.and_eq_true,decide_eq_true_eq,decide_eq_true_eq,Option.isNone_iff_eq_none,not_or] at hf
   have hroom:D.used+m≤D.room:=by omega
   cases hg:Sat.get (nm s) D.files with
   | some f =>
    have hc:D.cur (nm s)=f:=by unfold zAA.cur;rw [hg];rfl
    rw [hc] at hok ⊢
    exact rappend_is h s hs hl hm hg hroom hok
   | none =>
    have hc:D.cur (nm s)=⟨[],0⟩:=by unfold zAA.cur;rw [hg];rfl
    rw [hc] at hok ⊢
    exact rappend_new h s hs hl hno hm hg hroom (Nat.lt_of_not_le fun h4=>hf.2 ⟨hg,h4⟩) hok
 ·have hR:D.append (nm s) l=(D,D.may [nm s]):=by unfold zAA.append;rw [if_pos hm]
  rw [hR]
  have h1:zAS (w.alloc (.cells #[.string s] 9)) r v L own D:=h.below ((Below.refl _ _).alloc (Nat.le_refl _) _)
  have hmay:=zBc h1 (some ⟨w.heap.size,0,none⟩) [s] 1 (zAu w s) (by simp) (by simpa using hs)
  simp only [List.map_cons,List.map_nil] at hmay
  have Hf:=zh (zBL h ((Below.refl _ _).alloc (Nat.le_refl _) (.cells #[.string s] 9)) (D.may [nm s]))
  have Hmay:=zh hmay
  generalize D.may [nm s]=e0 at *
  have hne:((e0:Int) != 0)=true:=by simp;omega
  clear h h1 hmay hR hl
  go_enter Tryz.func16,Tryz.ntmps16
  go_wp2_with fail
  refine Hmay.out.mono ?_
  rintro e w2 ⟨rfl,rfl⟩
  go_wp2_with fail
  go_ret
  exact Hf.out
end
end Go.Proofs.YtapfnehdgailmaaGreat
namespace Go.Sat
open Go Go.RowKit
theorem ord_three {P:Program} {l:List Oper} {Q:Exit→Act→World→Prop} {md:Region.Mode} {S:World→Prop} {fuel:Nat} {listed:Array Bool} {a:Act} {w:World} (i j k:Nat) {oi oj ok:Oper} {ri rj rk:List Oper} (hdi:l.drop i=oi :: ri) (hdj:l.drop j=oj :: rj) (hdk:l.drop k=ok :: rk) (hr:Region.ready md l.toArray listed=[i,j,k])
  (hwi:Region.wanted oi (yielded l.toArray a.tmps)=true) (hwj:Region.wanted oj (yielded l.toArray a.tmps)=true) (hwk:Region.wanted ok (yielded l.toArray a.tmps)=true)
  (hi:∀ K:Act→World→Prop,Shut (∀ a w,S w→(S w→wpAnyH P md l.toArray Q S fuel (listed.setIfInBounds i true) a w)→K a w)→Oper.wp P oi a w K Q)
  (hj:∀ K:Act→World→Prop,Shut (∀ a w,S w→(S w→wpAnyH P md l.toArray Q S fuel (listed.setIfInBounds j true) a w)→K a w)→Oper.wp P oj a w K Q)
  (hk:∀ K:Act→World→Prop,Shut (∀ a w,S w→(S w→wpAnyH P md l.toArray Q S fuel (listed.setIfInBounds k true) a w)→K a w)→Oper.wp P ok a w K Q):wpAnyH P md l.toArray Q S (fuel+1) listed a w :=
 wpAnyH_ready hr (by simp) (AllReadyH.cons (zBW hdi) (fun K hK=>by rw [if_pos hwi];exact hi K hK) (AllReadyH.cons (zBW hdj) (fun K hK=>by rw [if_pos hwj];exact hj K hK) (AllReadyH.cons (zBW hdk) (fun K hK=>by rw [if_pos hwk];exact hk K hK) AllReadyH.nil)))
end Go.Sat
namespace Go.Proofs.YtapfnehdgailmaaGreat
open Go.RowKit Go.Sat Go.Maps
section
variable {w:World} {r:Nat} {v:Value} {L:List zAH} {own:Nat→Prop} {D:zAA}
theorem wrap_small {z:Int} (h0:-9223372036854775808≤z) (h1:z≤9223372036854775807):IntKind.i64.wrap z=z:=IntWalk.i64_in z ⟨h0,h1⟩
def RGone (w:World) (r:Nat) (own:Nat→Prop) (D:zAA) (e:Ending) (w':World):Prop :=
 e=.returned (.tuple #[])∧∃ own' v' L',zAS w' r v' L' own' D∧Chg (fun k=>k=r) w w'∧(∀ k,own k→own' k)∧∀ k,own' k→own k∨w.heap.size≤k
theorem rremove_calls (h:zAS w r v L own D) (s:ByteArray) :
  Calls Tryz.prog 161 #[.pointer (some ⟨r,0,none⟩),.string s] w (RGone w r own { D with files:=del (nm s) D.files }):=by
 have hsp:=zBR h s
 rw [h.is] at hsp
 cases hg:Sat.get (nm s) D.files with
 | none =>
  rw [hg] at hsp
  have hD:({ D with files:=del (nm s) D.files }:zAA)=D:=by rw [zB6 hg]
  rw [hD]
  have Hf:=zh (fun q=>show RGone w r own D (.returned (.tuple #[])) (w.drewN q) from ⟨rfl,own,v,L,h.below ⟨rfl,rfl,rfl,Nat.le_refl _,fun _ _=>rfl⟩,⟨rfl,rfl,rfl,Nat.le_refl _,fun _ _ _=>rfl⟩,fun _ h=>h,fun _ h=>.inl h⟩)
  have Hsp:=zh hsp
  clear h hsp hg hD
  go_enter Tryz.func161,Tryz.ntmps161
  go_wp2_with fail
  refine Hsp.out.mono ?_
  rintro e w3 ⟨rfl,q,rfl⟩
  go_wp2_with fail
  go_end0
  exact Hf.out q
 | some f =>
  rw [hg] at hsp
  obtain ⟨x,hx,hxn,rfl⟩:=h.hit hg
  have hN1:zAh (nm s) (L.map zAH.n) < L.length:=(List.getElem?_eq_some_iff.1 hx).1
  have hdel:del (nm s) D.files=(L.take (zAh (nm s) (L.map zAH.n)) ++ L.drop (zAh (nm s) (L.map zAH.n)+1)).map zAH.key:=by
   have h1:isAt (nm s) (D.files.map (·.1))=true:=by rw [(zDK (nm s) h.ok.srt).1,hg];rfl
   rw [del_at (nm s) h.ok.srt h1,← h.names,List.map_append,List.map_take,List.map_drop,← h.files]
  obtain ⟨pv,cv,hgv⟩:=h.slice
  have hNc:L.length≤cv:=by
   rcases h.at with h0 | ⟨g,c0,e,hc,-⟩
   ·rw [h0];exact Nat.zero_le _
   ·rw [hgv] at e;cases e;exact hc
  have hfit:=h.fit
  have hok:=ok_del h.ok (nm s)
  generalize zAh (nm s) (L.map zAH.n)=i at *
  have Hc1:=zh (show ∀ W,Below w.heap.size w W→W.cell? ⟨r,1,none⟩=some (.slice pv L.length cv) from fun W hb=>(h.below hb).c1.trans (by rw [hgv]))
  have Hfr:=zh (show ∀ W,Below w.heap.size w W→W.frozen? ⟨r,1,none⟩=false from fun W hb=>zAK (h.below hb).cells 1)
  have Hrow:=zh (show ∀ W,Below w.heap.size w W→OwnR W 127 3 (.slice pv L.length cv) L.length (L.flatMap zAH.cells) from fun W hb=>by rw [← hgv];exact (h.below hb).row)
  have Hone:=zh (cells_one h.core.one)
  have Hend:=zh (show ∀ w7 v7,Below w.heap.size w w7→OwnR w7 127 3 v7 (i+(L.length - (i+1))) ((L.flatMap zAH.cells).take (i * 3) ++ (L.flatMap zAH.cells).drop ((i+1) * 3))→(∀ k,v7.ownBlock=some k→w.heap.size≤k)→RGone w r own { D with files:=del (nm s) D.files } (.returned (.tuple #[])) (w7.setCell ⟨r,1,none⟩ v7) from fun w7 v7 hb h7 hn7=>by
   have hlen':(L.take i ++ L.drop (i+1)).length=i+(L.length - (i+1)):=by
    rw [List.length_append,List.length_take,List.length_drop]
    omega
   have hcore:=(h.below hb).core.relist (v':=v7) (L':=L.take i ++ L.drop (i+1)) (by rw [hlen',List.flatMap_append,cells_take,cells_drop];exact h7) (fun x hx=>by
    rcases List.mem_append.1 hx with hx | hx
    ·exact .inl (List.mem_of_mem_take hx)
    ·exact .inl (List.mem_of_mem_drop hx)) (fun k hk ho=>by
     have h1:=hn7 k hk
     have h2:=h.olt k ho
     omega)
   exact ⟨rfl,_,_,_,hcore.full rfl rfl hdel hok,zBy hb (zCa (own:=fun k=>k=r) rfl),fun _ h=>.inl h,fun k hk=>hk.imp id (hn7 k)⟩)
  obtain ⟨iF,hFi,hF0,hF1,hF2⟩:=info_parts (show (Tryz.prog.info? 127).map (fun i=>(i.zero,i.size,i.bytes))=some (some (.agg #[.string ⟨#[]⟩,.slice none 0 0,.int .i64 0]),3,48) by kernel_rfl)
  have hs1:∀ W,(Instr.slice 116 (.slice pv L.length cv) none (some (.int .i64 (i:Int))) none).run Tryz.prog W=.ok (.slice pv i cv) W:=fun W=>zB8 W Tryz.underlying116 hFi pv _ cv i (by omega)
  have hs2:∀ W,(Instr.slice 116 (.slice pv L.length cv) (some (.int .i64 ((i:Int)+1))) none none).run Tryz.prog W=.ok (.slice (if cv - (i+1)=0 then pv else pv.map fun x=>x.add ((i+1) * 3)) (L.length - (i+1)) (cv - (i+1))) W:=fun W=>by
   have:=run_from_any (P:=Tryz.prog) W Tryz.underlying116 hFi pv L.length cv (i+1) (by omega) hNc
   rw [hF1] at this
   exact this
  have hwr:IntKind.i64.wrap ((i:Int)+1)=(i:Int)+1:=wrap_small (by omega) (by omega)
  have Hup:=zh (show ∀ W,Below w.heap.size w W→zAX W 3 (.slice pv i cv) i ((L.flatMap zAH.cells).take (i * 3)) from fun W hb=>zAX.upto (OwnR.holds (Hrow.out _ hb)) (by omega) cv)
  have Hfrom:=zh (show ∀ W,Below w.heap.size w W→zAX W 3 (.slice (if cv - (i+1)=0 then pv else pv.map fun x=>x.add ((i+1) * 3)) (L.length - (i+1)) (cv - (i+1))) (L.length - (i+1)) ((L.flatMap zAH.cells).drop ((i+1) * 3)) from fun W hb=>OwnR.cut_from (Hrow.out W hb) (by omega))
  generalize hpF:(if cv - (i+1)=0 then pv else pv.map fun x=>x.add ((i+1) * 3))=pF at *
  have Hsp:=zh hsp
  clear h hg hok hsp hdel hpF hx
  subst hgv
  generalize hN:L.length=N at *
  clear hN
  go_enter Tryz.func161,Tryz.ntmps161
  go_wp2_with fail
  refine Hsp.out.mono ?_
  rintro e w3 ⟨rfl,q,rfl⟩
  have X0:=zh (show Below w.heap.size w (w.drewN q).drew from ⟨rfl,rfl,rfl,Nat.le_refl _,fun _ _=>rfl⟩)
  go_wp2_with fail
  refine zAJ (fun _:World=>True) (n:=20) (by kernel_rfl) rfl trivial (fun _=>?_)
  generalize (w.drewN q).drew=Wd at *
  refine pl [0,2,3,4,6,9,10,11,13,14] ?_
  iterate 10 (refine pc rfl ?_;simp only [Act.put,uA,uB,uC])
  refine pn ?_
  refine ord_three 1 5 12 rfl rfl rfl (by kernel_rfl) (by rfl) (by rfl) (by rfl) (fun K hK=>?_) (fun K hK=>?_) (fun K hK=>?_)
  ·go_wp2_with fail
   have X1:=zh (X0.out.alloc X0.out.size (.cells #[] 127))
   refine hK.out _ _ trivial (fun _=>?_)
   clear hK
   try simp only [Act.put,uA,uB,uC]
   refine zCc 5 12 rfl rfl (by kernel_rfl) (by rfl) (by rfl) (fun K hK=>?_) (fun K hK=>?_)
   ·have hc2:=Hc1.out _ X1.out
    go_wp2_with fail
    clear hc2
    refine hK.out _ _ trivial (fun _=>?_)
    clear hK
    try simp only [Act.put,uA,uB,uC]
    refine zA7 7 (v:=?v2x7) rfl (by kernel_rfl) (by kernel_rfl) (by kernel_rfl) (fun _ _ _ h=>h) (by rfl) trivial ?y2x7 ?_
    case y2x7=>(intro w hSw;clear hSw;go_simp;try with_reducible rfl)
    simp only [Act.put,uA,uB,uC]
    refine zCc 8 12 rfl rfl (by kernel_rfl) (by rfl) (by rfl) (fun K hK=>?_) (fun K hK=>?_)
    ·have hown0:=zBK Wd 127 3
     have hup:=Hup.out _ X1.out
     refine zAi (.tmp 14) (.tmp 20) 116 (by rfl) 127 iF _ 3 48 Tryz.underlying116 hFi hF0 hF1 hF2 rfl (by decide) (.slice (some ⟨Wd.heap.size,0,none⟩) 0 0) 0 [] (by rfl) hown0 (.slice pv i cv) i _ (by rfl) hup (fun u hu=>Hone.out u (List.mem_of_mem_take hu)) (by unfold maxLen;omega) (by omega) ?_
     clear hown0 hup
     intro v6 w6 hown6 hgrow6 hloc6
     have X6:=zh (X1.out.grown hgrow6 X1.out.size (fun j e=>by have:=X0.out.size;simp [Value.ownBlock] at e;omega))
     have hnew6:=zAn (B:=w.heap.size) hloc6 (fun k hk=>by have:=X0.out.size;simp [Value.ownBlock] at hk;omega) X1.out.size
     rw [Nat.zero_add,List.nil_append] at hown6
     obtain ⟨p6,c6,rfl⟩:=OwnR.shape hown6
     have Hown6:=zh hown6
     have Hnew6:=zh hnew6
     clear hgrow6 hloc6 hown6 hnew6
     refine hK.out _ _ trivial (fun _=>?_)
     clear hK
     try simp only [Act.put,uA,uB,uC]
     refine zAB 12 rfl (by kernel_rfl) (by rfl) (fun K hK=>?_)
     have hc2:=Hc1.out _ X6.out
     go_wp2_with fail
     clear hc2
     refine hK.out _ _ trivial (fun _=>?_)
     clear hK
     try simp only [Act.put,uA,uB,uC]
     refine zA7 15 (v:=?v4x15) rfl (by kernel_rfl) (by kernel_rfl) (by kernel_rfl) (fun _ _ _ h=>h) (by rfl) trivial ?y4x15 ?_
     case y4x15=>(intro w hSw;clear hSw;go_simp;try with_reducible rfl)
     simp only [Act.put,uA,uB,uC]
     refine zAB 16 rfl (by kernel_rfl) (by rfl) (fun K hK=>?_)
     have hfrom:=Hfrom.out _ X6.out
     refine zAi (.tmp 21) (.tmp 28) 116 (by rfl) 127 iF _ 3 48 Tryz.underlying116 hFi hF0 hF1 hF2 rfl (by decide) (.slice p6 i c6) i _ (by rfl) Hown6.out (.slice pF (N - (i+1)) (cv - (i+1))) (N - (i+1)) _ (by rfl) hfrom (fun u hu=>Hone.out u (List.mem_of_mem_drop hu)) (by unfold maxLen;omega) (by omega) ?_
     clear hfrom
     intro v7 w7 hown7 hgrow7 hloc7
     have X7:=zh (X6.out.grown hgrow7 X6.out.size Hnew6.out)
     have hnew7:=zAn (B:=w.heap.size) hloc7 Hnew6.out X6.out.size
     obtain ⟨p7,c7,rfl⟩:=OwnR.shape hown7
     have Hend7:=zh (Hend.out w7 _ X7.out hown7 hnew7)
     clear hgrow7 hloc7 hown7 hnew7
     refine hK.out _ _ trivial (fun _=>?_)
     clear hK
     try simp only [Act.put,uA,uB,uC]
     refine pl [17,18] ?_
     iterate 2 (refine pc rfl ?_;simp only [Act.put,uA,uB,uC])
     refine pn ?_
     refine zAB 19 rfl (by kernel_rfl) (by rfl) (fun K hK=>?_)
     have hc2:=Hc1.out _ X7.out
     have hfz1:=Hfr.out _ X7.out
     go_wp2_with fail
     clear hc2 hfz1
     refine hK.out _ _ trivial (fun _=>?_)
     clear hK
     try simp only [Act.put,uA,uB,uC]
     refine wpAnyH_done (by kernel_rfl) ?_ _
     go_wp2_with fail
     go_end0
     exact Hend7.out
    ·have hc2:=Hc1.out _ X1.out
     go_wp2_with fail
     clear hc2
     refine hK.out _ _ trivial (fun _=>?_)
     clear hK
     try simp only [Act.put,uA,uB,uC]
     refine zA7 15 (v:=?v6x15) rfl (by kernel_rfl) (by kernel_rfl) (by kernel_rfl) (fun _ _ _ h=>h) (by rfl) trivial ?y6x15 ?_
     case y6x15=>(intro w hSw;clear hSw;go_simp;try with_reducible rfl)
     simp only [Act.put,uA,uB,uC]
     refine zAB 8 rfl (by kernel_rfl) (by rfl) (fun K hK=>?_)
     have hown0:=zBK Wd 127 3
     have hup:=Hup.out _ X1.out
     refine zAi (.tmp 14) (.tmp 20) 116 (by rfl) 127 iF _ 3 48 Tryz.underlying116 hFi hF0 hF1 hF2 rfl (by decide) (.slice (some ⟨Wd.heap.size,0,none⟩) 0 0) 0 [] (by rfl) hown0 (.slice pv i cv) i _ (by rfl) hup (fun u hu=>Hone.out u (List.mem_of_mem_take hu)) (by unfold maxLen;omega) (by omega) ?_
     clear hown0 hup
     intro v6 w6 hown6 hgrow6 hloc6
     have X6:=zh (X1.out.grown hgrow6 X1.out.size (fun j e=>by have:=X0.out.size;simp [Value.ownBlock] at e;omega))
     have hnew6:=zAn (B:=w.heap.size) hloc6 (fun k hk=>by have:=X0.out.size;simp [Value.ownBlock] at hk;omega) X1.out.size
     rw [Nat.zero_add,List.nil_append] at hown6
     obtain ⟨p6,c6,rfl⟩:=OwnR.shape hown6
     have Hown6:=zh hown6
     have Hnew6:=zh hnew6
     clear hgrow6 hloc6 hown6 hnew6
     refine hK.out _ _ trivial (fun _=>?_)
     clear hK
     try simp only [Act.put,uA,uB,uC]
     refine zAB 16 rfl (by kernel_rfl) (by rfl) (fun K hK=>?_)
     have hfrom:=Hfrom.out _ X6.out
     refine zAi (.tmp 21) (.tmp 28) 116 (by rfl) 127 iF _ 3 48 Tryz.underlying116 hFi hF0 hF1 hF2 rfl (by decide) (.slice p6 i c6) i _ (by rfl) Hown6.out (.slice pF (N - (i+1)) (cv - (i+1))) (N - (i+1)) _ (by rfl) hfrom (fun u hu=>Hone.out u (List.mem_of_mem_drop hu)) (by unfold maxLen;omega) (by omega) ?_
     clear hfrom
     intro v7 w7 hown7 hgrow7 hloc7
     have X7:=zh (X6.out.grown hgrow7 X6.out.size Hnew6.out)
     have hnew7:=zAn (B:=w.heap.size) hloc7 Hnew6.out X6.out.size
     obtain ⟨p7,c7,rfl⟩:=OwnR.shape hown7
     have Hend7:=zh (Hend.out w7 _ X7.out hown7 hnew7)
     clear hgrow7 hloc7 hown7 hnew7
     refine hK.out _ _ trivial (fun _=>?_)
     clear hK
     try simp only [Act.put,uA,uB,uC]
     refine pl [17,18] ?_
     iterate 2 (refine pc rfl ?_;simp only [Act.put,uA,uB,uC])
     refine pn ?_
     refine zAB 19 rfl (by kernel_rfl) (by rfl) (fun K hK=>?_)
     have hc2:=Hc1.out _ X7.out
     have hfz1:=Hfr.out _ X7.out
     go_wp2_with fail
     clear hc2 hfz1
     refine hK.out _ _ trivial (fun _=>?_)
     clear hK
     try simp only [Act.put,uA,uB,uC]
     refine wpAnyH_done (by kernel_rfl) ?_ _
     go_wp2_with fail
     go_end0
     exact Hend7.out
   ·have hc2:=Hc1.out _ X1.out
    go_wp2_with fail
    clear hc2
    refine hK.out _ _ trivial (fun _=>?_)
    clear hK
    try simp only [Act.put,uA,uB,uC]
    refine zA7 15 (v:=?v9x15) rfl (by kernel_rfl) (by kernel_rfl) (by kernel_rfl) (fun _ _ _ h=>h) (by rfl) trivial ?y9x15 ?_
    case y9x15=>(intro w hSw;clear hSw;go_simp;try with_reducible rfl)
    simp only [Act.put,uA,uB,uC]
    refine zAB 5 rfl (by kernel_rfl) (by rfl) (fun K hK=>?_)
    have hc2:=Hc1.out _ X1.out
    go_wp2_with fail
    clear hc2
    refine hK.out _ _ trivial (fun _=>?_)
    clear hK
    try simp only [Act.put,uA,uB,uC]
    refine zA7 7 (v:=?v10x7) rfl (by kernel_rfl) (by kernel_rfl) (by kernel_rfl) (fun _ _ _ h=>h) (by rfl) trivial ?y10x7 ?_
    case y10x7=>(intro w hSw;clear hSw;go_simp;try with_reducible rfl)
    simp only [Act.put,uA,uB,uC]
    refine zAB 8 rfl (by kernel_rfl) (by rfl) (fun K hK=>?_)
    have hown0:=zBK Wd 127 3
    have hup:=Hup.out _ X1.out
    refine zAi (.tmp 14) (.tmp 20) 116 (by rfl) 127 iF _ 3 48 Tryz.underlying116 hFi hF0 hF1 hF2 rfl (by decide) (.slice (some ⟨Wd.heap.size,0,none⟩) 0 0) 0 [] (by rfl) hown0 (.slice pv i cv) i _ (by rfl) hup (fun u hu=>Hone.out u (List.mem_of_mem_take hu)) (by unfold maxLen;omega) (by omega) ?_
    clear hown0 hup
    intro v6 w6 hown6 hgrow6 hloc6
    have X6:=zh (X1.out.grown hgrow6 X1.out.size (fun j e=>by have:=X0.out.size;simp [Value.ownBlock] at e;omega))
    have hnew6:=zAn (B:=w.heap.size) hloc6 (fun k hk=>by have:=X0.out.size;simp [Value.ownBlock] at hk;omega) X1.out.size
    rw [Nat.zero_add,List.nil_append] at hown6
    obtain ⟨p6,c6,rfl⟩:=OwnR.shape hown6
    have Hown6:=zh hown6
    have Hnew6:=zh hnew6
    clear hgrow6 hloc6 hown6 hnew6
    refine hK.out _ _ trivial (fun _=>?_)
    clear hK
    try simp only [Act.put,uA,uB,uC]
    refine zAB 16 rfl (by kernel_rfl) (by rfl) (fun K hK=>?_)
    have hfrom:=Hfrom.out _ X6.out
    refine zAi (.tmp 21) (.tmp 28) 116 (by rfl) 127 iF _ 3 48 Tryz.underlying116 hFi hF0 hF1 hF2 rfl (by decide) (.slice p6 i c6) i _ (by rfl) Hown6.out (.slice pF (N - (i+1)) (cv - (i+1))) (N - (i+1)) _ (by rfl) hfrom (fun u hu=>Hone.out u (List.mem_of_mem_drop hu)) (by unfold maxLen;omega) (by omega) ?_
    clear hfrom
    intro v7 w7 hown7 hgrow7 hloc7
    have X7:=zh (X6.out.grown hgrow7 X6.out.size Hnew6.out)
    have hnew7:=zAn (B:=w.heap.size) hloc7 Hnew6.out X6.out.size
    obtain ⟨p7,c7,rfl⟩:=OwnR.shape hown7
    have Hend7:=zh (Hend.out w7 _ X7.out hown7 hnew7)
    clear hgrow7 hloc7 hown7 hnew7
    refine hK.out _ _ trivial (fun _=>?_)
    clear hK
    try simp only [Act.put,uA,uB,uC]
    refine pl [17,18] ?_
    iterate 2 (refine pc rfl ?_;simp only [Act.put,uA,uB,uC])
    refine pn ?_
    refine zAB 19 rfl (by kernel_rfl) (by rfl) (fun K hK=>?_)
    have hc2:=Hc1.out _ X7.out
    have hfz1:=Hfr.out _ X7.out
    go_wp2_with fail
    clear hc2 hfz1
    refine hK.out _ _ trivial (fun _=>?_)
    clear hK
    try simp only [Act.put,uA,uB,uC]
    refine wpAnyH_done (by kernel_rfl) ?_ _
    go_wp2_with fail
    go_end0
    exact Hend7.out
  ·have hc2:=Hc1.out _ X0.out
   go_wp2_with fail
   clear hc2
   refine hK.out _ _ trivial (fun _=>?_)
   clear hK
   try simp only [Act.put,uA,uB,uC]
   refine zA7 7 (v:=?v13x7) rfl (by kernel_rfl) (by kernel_rfl) (by kernel_rfl) (fun _ _ _ h=>h) (by rfl) trivial ?y13x7 ?_
   case y13x7=>(intro w hSw;clear hSw;go_simp;try with_reducible rfl)
   simp only [Act.put,uA,uB,uC]
   refine zCc 1 12 rfl rfl (by kernel_rfl) (by rfl) (by rfl) (fun K hK=>?_) (fun K hK=>?_)
   ·go_wp2_with fail
    have X1:=zh (X0.out.alloc X0.out.size (.cells #[] 127))
    refine hK.out _ _ trivial (fun _=>?_)
    clear hK
    try simp only [Act.put,uA,uB,uC]
    refine zCc 8 12 rfl rfl (by kernel_rfl) (by rfl) (by rfl) (fun K hK=>?_) (fun K hK=>?_)
    ·have hown0:=zBK Wd 127 3
     have hup:=Hup.out _ X1.out
     refine zAi (.tmp 14) (.tmp 20) 116 (by rfl) 127 iF _ 3 48 Tryz.underlying116 hFi hF0 hF1 hF2 rfl (by decide) (.slice (some ⟨Wd.heap.size,0,none⟩) 0 0) 0 [] (by rfl) hown0 (.slice pv i cv) i _ (by rfl) hup (fun u hu=>Hone.out u (List.mem_of_mem_take hu)) (by unfold maxLen;omega) (by omega) ?_
     clear hown0 hup
     intro v6 w6 hown6 hgrow6 hloc6
     have X6:=zh (X1.out.grown hgrow6 X1.out.size (fun j e=>by have:=X0.out.size;simp [Value.ownBlock] at e;omega))
     have hnew6:=zAn (B:=w.heap.size) hloc6 (fun k hk=>by have:=X0.out.size;simp [Value.ownBlock] at hk;omega) X1.out.size
     rw [Nat.zero_add,List.nil_append] at hown6
     obtain ⟨p6,c6,rfl⟩:=OwnR.shape hown6
     have Hown6:=zh hown6
     have Hnew6:=zh hnew6
     clear hgrow6 hloc6 hown6 hnew6
     refine hK.out _ _ trivial (fun _=>?_)
     clear hK
     try simp only [Act.put,uA,uB,uC]
     refine zAB 12 rfl (by kernel_rfl) (by rfl) (fun K hK=>?_)
     have hc2:=Hc1.out _ X6.out
     go_wp2_with fail
     clear hc2
     refine hK.out _ _ trivial (fun _=>?_)
     clear hK
     try simp only [Act.put,uA,uB,uC]
     refine zA7 15 (v:=?v16x15) rfl (by kernel_rfl) (by kernel_rfl) (by kernel_rfl) (fun _ _ _ h=>h) (by rfl) trivial ?y16x15 ?_
     case y16x15=>(intro w hSw;clear hSw;go_simp;try with_reducible rfl)
     simp only [Act.put,uA,uB,uC]
     refine zAB 16 rfl (by kernel_rfl) (by rfl) (fun K hK=>?_)
     have hfrom:=Hfrom.out _ X6.out
     refine zAi (.tmp 21) (.tmp 28) 116 (by rfl) 127 iF _ 3 48 Tryz.underlying116 hFi hF0 hF1 hF2 rfl (by decide) (.slice p6 i c6) i _ (by rfl) Hown6.out (.slice pF (N - (i+1)) (cv - (i+1))) (N - (i+1)) _ (by rfl) hfrom (fun u hu=>Hone.out u (List.mem_of_mem_drop hu)) (by unfold maxLen;omega) (by omega) ?_
     clear hfrom
     intro v7 w7 hown7 hgrow7 hloc7
     have X7:=zh (X6.out.grown hgrow7 X6.out.size Hnew6.out)
     have hnew7:=zAn (B:=w.heap.size) hloc7 Hnew6.out X6.out.size
     obtain ⟨p7,c7,rfl⟩:=OwnR.shape hown7
     have Hend7:=zh (Hend.out w7 _ X7.out hown7 hnew7)
     clear hgrow7 hloc7 hown7 hnew7
     refine hK.out _ _ trivial (fun _=>?_)
     clear hK
     try simp only [Act.put,uA,uB,uC]
     refine pl [17,18] ?_
     iterate 2 (refine pc rfl ?_;simp only [Act.put,uA,uB,uC])
     refine pn ?_
     refine zAB 19 rfl (by kernel_rfl) (by rfl) (fun K hK=>?_)
     have hc2:=Hc1.out _ X7.out
     have hfz1:=Hfr.out _ X7.out
     go_wp2_with fail
     clear hc2 hfz1
     refine hK.out _ _ trivial (fun _=>?_)
     clear hK
     try simp only [Act.put,uA,uB,uC]
     refine wpAnyH_done (by kernel_rfl) ?_ _
     go_wp2_with fail
     go_end0
     exact Hend7.out
    ·have hc2:=Hc1.out _ X1.out
     go_wp2_with fail
     clear hc2
     refine hK.out _ _ trivial (fun _=>?_)
     clear hK
     try simp only [Act.put,uA,uB,uC]
     refine zA7 15 (v:=?v18x15) rfl (by kernel_rfl) (by kernel_rfl) (by kernel_rfl) (fun _ _ _ h=>h) (by rfl) trivial ?y18x15 ?_
     case y18x15=>(intro w hSw;clear hSw;go_simp;try with_reducible rfl)
     simp only [Act.put,uA,uB,uC]
     refine zAB 8 rfl (by kernel_rfl) (by rfl) (fun K hK=>?_)
     have hown0:=zBK Wd 127 3
     have hup:=Hup.out _ X1.out
     refine zAi (.tmp 14) (.tmp 20) 116 (by rfl) 127 iF _ 3 48 Tryz.underlying116 hFi hF0 hF1 hF2 rfl (by decide) (.slice (some ⟨Wd.heap.size,0,none⟩) 0 0) 0 [] (by rfl) hown0 (.slice pv i cv) i _ (by rfl) hup (fun u hu=>Hone.out u (List.mem_of_mem_take hu)) (by unfold maxLen;omega) (by omega) ?_
     clear hown0 hup
     intro v6 w6 hown6 hgrow6 hloc6
     have X6:=zh (X1.out.grown hgrow6 X1.out.size (fun j e=>by have:=X0.out.size;simp [Value.ownBlock] at e;omega))
     have hnew6:=zAn (B:=w.heap.size) hloc6 (fun k hk=>by have:=X0.out.size;simp [Value.ownBlock] at hk;omega) X1.out.size
     rw [Nat.zero_add,List.nil_append] at hown6
     obtain ⟨p6,c6,rfl⟩:=OwnR.shape hown6
     have Hown6:=zh hown6
     have Hnew6:=zh hnew6
     clear hgrow6 hloc6 hown6 hnew6
     refine hK.out _ _ trivial (fun _=>?_)
     clear hK
     try simp only [Act.put,uA,uB,uC]
     refine zAB 16 rfl (by kernel_rfl) (by rfl) (fun K hK=>?_)
     have hfrom:=Hfrom.out _ X6.out
     refine zAi (.tmp 21) (.tmp 28) 116 (by rfl) 127 iF _ 3 48 Tryz.underlying116 hFi hF0 hF1 hF2 rfl (by decide) (.slice p6 i c6) i _ (by rfl) Hown6.out (.slice pF (N - (i+1)) (cv - (i+1))) (N - (i+1)) _ (by rfl) hfrom (fun u hu=>Hone.out u (List.mem_of_mem_drop hu)) (by unfold maxLen;omega) (by omega) ?_
     clear hfrom
     intro v7 w7 hown7 hgrow7 hloc7
     have X7:=zh (X6.out.grown hgrow7 X6.out.size Hnew6.out)
     have hnew7:=zAn (B:=w.heap.size) hloc7 Hnew6.out X6.out.size
     obtain ⟨p7,c7,rfl⟩:=OwnR.shape hown7
     have Hend7:=zh (Hend.out w7 _ X7.out hown7 hnew7)
     clear hgrow7 hloc7 hown7 hnew7
     refine hK.out _ _ trivial (fun _=>?_)
     clear hK
     try simp only [Act.put,uA,uB,uC]
     refine pl [17,18] ?_
     iterate 2 (refine pc rfl ?_;simp only [Act.put,uA,uB,uC])
     refine pn ?_
     refine zAB 19 rfl (by kernel_rfl) (by rfl) (fun K hK=>?_)
     have hc2:=Hc1.out _ X7.out
     have hfz1:=Hfr.out _ X7.out
     go_wp2_with fail
     clear hc2 hfz1
     refine hK.out _ _ trivial (fun _=>?_)
     clear hK
     try simp only [Act.put,uA,uB,uC]
     refine wpAnyH_done (by kernel_rfl) ?_ _
     go_wp2_with fail
     go_end0
     exact Hend7.out
   ·have hc2:=Hc1.out _ X0.out
    go_wp2_with fail
    clear hc2
    refine hK.out _ _ trivial (fun _=>?_)
    clear hK
    try simp only [Act.put,uA,uB,uC]
    refine zA7 15 (v:=?v21x15) rfl (by kernel_rfl) (by kernel_rfl) (by kernel_rfl) (fun _ _ _ h=>h) (by rfl) trivial ?y21x15 ?_
    case y21x15=>(intro w hSw;clear hSw;go_simp;try with_reducible rfl)
    simp only [Act.put,uA,uB,uC]
    refine zAB 1 rfl (by kernel_rfl) (by rfl) (fun K hK=>?_)
    go_wp2_with fail
    have X1:=zh (X0.out.alloc X0.out.size (.cells #[] 127))
    refine hK.out _ _ trivial (fun _=>?_)
    clear hK
    try simp only [Act.put,uA,uB,uC]
    refine zAB 8 rfl (by kernel_rfl) (by rfl) (fun K hK=>?_)
    have hown0:=zBK Wd 127 3
    have hup:=Hup.out _ X1.out
    refine zAi (.tmp 14) (.tmp 20) 116 (by rfl) 127 iF _ 3 48 Tryz.underlying116 hFi hF0 hF1 hF2 rfl (by decide) (.slice (some ⟨Wd.heap.size,0,none⟩) 0 0) 0 [] (by rfl) hown0 (.slice pv i cv) i _ (by rfl) hup (fun u hu=>Hone.out u (List.mem_of_mem_take hu)) (by unfold maxLen;omega) (by omega) ?_
    clear hown0 hup
    intro v6 w6 hown6 hgrow6 hloc6
    have X6:=zh (X1.out.grown hgrow6 X1.out.size (fun j e=>by have:=X0.out.size;simp [Value.ownBlock] at e;omega))
    have hnew6:=zAn (B:=w.heap.size) hloc6 (fun k hk=>by have:=X0.out.size;simp [Value.ownBlock] at hk;omega) X1.out.size
    rw [Nat.zero_add,List.nil_append] at hown6
    obtain ⟨p6,c6,rfl⟩:=OwnR.shape hown6
    have Hown6:=zh hown6
    have Hnew6:=zh hnew6
    clear hgrow6 hloc6 hown6 hnew6
    refine hK.out _ _ trivial (fun _=>?_)
    clear hK
    try simp only [Act.put,uA,uB,uC]
    refine zAB 16 rfl (by kernel_rfl) (by rfl) (fun K hK=>?_)
    have hfrom:=Hfrom.out _ X6.out
    refine zAi (.tmp 21) (.tmp 28) 116 (by rfl) 127 iF _ 3 48 Tryz.underlying116 hFi hF0 hF1 hF2 rfl (by decide) (.slice p6 i c6) i _ (by rfl) Hown6.out (.slice pF (N - (i+1)) (cv - (i+1))) (N - (i+1)) _ (by rfl) hfrom (fun u hu=>Hone.out u (List.mem_of_mem_drop hu)) (by unfold maxLen;omega) (by omega) ?_
    clear hfrom
    intro v7 w7 hown7 hgrow7 hloc7
    have X7:=zh (X6.out.grown hgrow7 X6.out.size Hnew6.out)
    have hnew7:=zAn (B:=w.heap.size) hloc7 Hnew6.out X6.out.size
    obtain ⟨p7,c7,rfl⟩:=OwnR.shape hown7
    have Hend7:=zh (Hend.out w7 _ X7.out hown7 hnew7)
    clear hgrow7 hloc7 hown7 hnew7
    refine hK.out _ _ trivial (fun _=>?_)
    clear hK
    try simp only [Act.put,uA,uB,uC]
    refine pl [17,18] ?_
    iterate 2 (refine pc rfl ?_;simp only [Act.put,uA,uB,uC])
    refine pn ?_
    refine zAB 19 rfl (by kernel_rfl) (by rfl) (fun K hK=>?_)
    have hc2:=Hc1.out _ X7.out
    have hfz1:=Hfr.out _ X7.out
    go_wp2_with fail
    clear hc2 hfz1
    refine hK.out _ _ trivial (fun _=>?_)
    clear hK
    try simp only [Act.put,uA,uB,uC]
    refine wpAnyH_done (by kernel_rfl) ?_ _
    go_wp2_with fail
    go_end0
    exact Hend7.out
  ·have hc2:=Hc1.out _ X0.out
   go_wp2_with fail
   clear hc2
   refine hK.out _ _ trivial (fun _=>?_)
   clear hK
   try simp only [Act.put,uA,uB,uC]
   refine zA7 15 (v:=?v25x15) rfl (by kernel_rfl) (by kernel_rfl) (by kernel_rfl) (fun _ _ _ h=>h) (by rfl) trivial ?y25x15 ?_
   case y25x15=>(intro w hSw;clear hSw;go_simp;try with_reducible rfl)
   simp only [Act.put,uA,uB,uC]
   refine zCc 1 5 rfl rfl (by kernel_rfl) (by rfl) (by rfl) (fun K hK=>?_) (fun K hK=>?_)
   ·go_wp2_with fail
    have X1:=zh (X0.out.alloc X0.out.size (.cells #[] 127))
    refine hK.out _ _ trivial (fun _=>?_)
    clear hK
    try simp only [Act.put,uA,uB,uC]
    refine zAB 5 rfl (by kernel_rfl) (by rfl) (fun K hK=>?_)
    have hc2:=Hc1.out _ X1.out
    go_wp2_with fail
    clear hc2
    refine hK.out _ _ trivial (fun _=>?_)
    clear hK
    try simp only [Act.put,uA,uB,uC]
    refine zA7 7 (v:=?v27x7) rfl (by kernel_rfl) (by kernel_rfl) (by kernel_rfl) (fun _ _ _ h=>h) (by rfl) trivial ?y27x7 ?_
    case y27x7=>(intro w hSw;clear hSw;go_simp;try with_reducible rfl)
    simp only [Act.put,uA,uB,uC]
    refine zAB 8 rfl (by kernel_rfl) (by rfl) (fun K hK=>?_)
    have hown0:=zBK Wd 127 3
    have hup:=Hup.out _ X1.out
    refine zAi (.tmp 14) (.tmp 20) 116 (by rfl) 127 iF _ 3 48 Tryz.underlying116 hFi hF0 hF1 hF2 rfl (by decide) (.slice (some ⟨Wd.heap.size,0,none⟩) 0 0) 0 [] (by rfl) hown0 (.slice pv i cv) i _ (by rfl) hup (fun u hu=>Hone.out u (List.mem_of_mem_take hu)) (by unfold maxLen;omega) (by omega) ?_
    clear hown0 hup
    intro v6 w6 hown6 hgrow6 hloc6
    have X6:=zh (X1.out.grown hgrow6 X1.out.size (fun j e=>by have:=X0.out.size;simp [Value.ownBlock] at e;omega))
    have hnew6:=zAn (B:=w.heap.size) hloc6 (fun k hk=>by have:=X0.out.size;simp [Value.ownBlock] at hk;omega) X1.out.size
    rw [Nat.zero_add,List.nil_append] at hown6
    obtain ⟨p6,c6,rfl⟩:=OwnR.shape hown6
    have Hown6:=zh hown6
    have Hnew6:=zh hnew6
    clear hgrow6 hloc6 hown6 hnew6
    refine hK.out _ _ trivial (fun _=>?_)
    clear hK
    try simp only [Act.put,uA,uB,uC]
    refine zAB 16 rfl (by kernel_rfl) (by rfl) (fun K hK=>?_)
    have hfrom:=Hfrom.out _ X6.out
    refine zAi (.tmp 21) (.tmp 28) 116 (by rfl) 127 iF _ 3 48 Tryz.underlying116 hFi hF0 hF1 hF2 rfl (by decide) (.slice p6 i c6) i _ (by rfl) Hown6.out (.slice pF (N - (i+1)) (cv - (i+1))) (N - (i+1)) _ (by rfl) hfrom (fun u hu=>Hone.out u (List.mem_of_mem_drop hu)) (by unfold maxLen;omega) (by omega) ?_
    clear hfrom
    intro v7 w7 hown7 hgrow7 hloc7
    have X7:=zh (X6.out.grown hgrow7 X6.out.size Hnew6.out)
    have hnew7:=zAn (B:=w.heap.size) hloc7 Hnew6.out X6.out.size
    obtain ⟨p7,c7,rfl⟩:=OwnR.shape hown7
    have Hend7:=zh (Hend.out w7 _ X7.out hown7 hnew7)
    clear hgrow7 hloc7 hown7 hnew7
    refine hK.out _ _ trivial (fun _=>?_)
    clear hK
    try simp only [Act.put,uA,uB,uC]
    refine pl [17,18] ?_
    iterate 2 (refine pc rfl ?_;simp only [Act.put,uA,uB,uC])
    refine pn ?_
    refine zAB 19 rfl (by kernel_rfl) (by rfl) (fun K hK=>?_)
    have hc2:=Hc1.out _ X7.out
    have hfz1:=Hfr.out _ X7.out
    go_wp2_with fail
    clear hc2 hfz1
    refine hK.out _ _ trivial (fun _=>?_)
    clear hK
    try simp only [Act.put,uA,uB,uC]
    refine wpAnyH_done (by kernel_rfl) ?_ _
    go_wp2_with fail
    go_end0
    exact Hend7.out
   ·have hc2:=Hc1.out _ X0.out
    go_wp2_with fail
    clear hc2
    refine hK.out _ _ trivial (fun _=>?_)
    clear hK
    try simp only [Act.put,uA,uB,uC]
    refine zA7 7 (v:=?v30x7) rfl (by kernel_rfl) (by kernel_rfl) (by kernel_rfl) (fun _ _ _ h=>h) (by rfl) trivial ?y30x7 ?_
    case y30x7=>(intro w hSw;clear hSw;go_simp;try with_reducible rfl)
    simp only [Act.put,uA,uB,uC]
    refine zAB 1 rfl (by kernel_rfl) (by rfl) (fun K hK=>?_)
    go_wp2_with fail
    have X1:=zh (X0.out.alloc X0.out.size (.cells #[] 127))
    refine hK.out _ _ trivial (fun _=>?_)
    clear hK
    try simp only [Act.put,uA,uB,uC]
    refine zAB 8 rfl (by kernel_rfl) (by rfl) (fun K hK=>?_)
    have hown0:=zBK Wd 127 3
    have hup:=Hup.out _ X1.out
    refine zAi (.tmp 14) (.tmp 20) 116 (by rfl) 127 iF _ 3 48 Tryz.underlying116 hFi hF0 hF1 hF2 rfl (by decide) (.slice (some ⟨Wd.heap.size,0,none⟩) 0 0) 0 [] (by rfl) hown0 (.slice pv i cv) i _ (by rfl) hup (fun u hu=>Hone.out u (List.mem_of_mem_take hu)) (by unfold maxLen;omega) (by omega) ?_
    clear hown0 hup
    intro v6 w6 hown6 hgrow6 hloc6
    have X6:=zh (X1.out.grown hgrow6 X1.out.size (fun j e=>by have:=X0.out.size;simp [Value.ownBlock] at e;omega))
    have hnew6:=zAn (B:=w.heap.size) hloc6 (fun k hk=>by have:=X0.out.size;simp [Value.ownBlock] at hk;omega) X1.out.size
    rw [Nat.zero_add,List.nil_append] at hown6
    obtain ⟨p6,c6,rfl⟩:=OwnR.shape hown6
    have Hown6:=zh hown6
    have Hnew6:=zh hnew6
    clear hgrow6 hloc6 hown6 hnew6
    refine hK.out _ _ trivial (fun _=>?_)
    clear hK
    try simp only [Act.put,uA,uB,uC]
    refine zAB 16 rfl (by kernel_rfl) (by rfl) (fun K hK=>?_)
    have hfrom:=Hfrom.out _ X6.out
    refine zAi (.tmp 21) (.tmp 28) 116 (by rfl) 127 iF _ 3 48 Tryz.underlying116 hFi hF0 hF1 hF2 rfl (by decide) (.slice p6 i c6) i _ (by rfl) Hown6.out (.slice pF (N - (i+1)) (cv - (i+1))) (N - (i+1)) _ (by rfl) hfrom (fun u hu=>Hone.out u (List.mem_of_mem_drop hu)) (by unfold maxLen;omega) (by omega) ?_
    clear hfrom
    intro v7 w7 hown7 hgrow7 hloc7
    have X7:=zh (X6.out.grown hgrow7 X6.out.size Hnew6.out)
    have hnew7:=zAn (B:=w.heap.size) hloc7 Hnew6.out X6.out.size
    obtain ⟨p7,c7,rfl⟩:=OwnR.shape hown7
    have Hend7:=zh (Hend.out w7 _ X7.out hown7 hnew7)
    clear hgrow7 hloc7 hown7 hnew7
    refine hK.out _ _ trivial (fun _=>?_)
    clear hK
    try simp only [Act.put,uA,uB,uC]
    refine pl [17,18] ?_
    iterate 2 (refine pc rfl ?_;simp only [Act.put,uA,uB,uC])
    refine pn ?_
    refine zAB 19 rfl (by kernel_rfl) (by rfl) (fun K hK=>?_)
    have hc2:=Hc1.out _ X7.out
    have hfz1:=Hfr.out _ X7.out
    go_wp2_with fail
    clear hc2 hfz1
    refine hK.out _ _ trivial (fun _=>?_)
    clear hK
    try simp only [Act.put,uA,uB,uC]
    refine wpAnyH_done (by kernel_rfl) ?_ _
    go_wp2_with fail
    go_end0
    exact Hend7.out
end
section
variable {w:World} {r:Nat} {v:Value} {L:List zAH} {own:Nat→Prop} {D:zAA}
theorem zCG (h:zAS w r v L own D) (s:ByteArray) (hs:s.size≤9223372036854775807) :
  Calls Tryz.prog 82 #[.pointer (some ⟨r,0,none⟩),.string s] w (zCu w r own (D.remove [nm s])):=by
 have h1:zAS (w.alloc (.cells #[.string s] 9)) r v L own D:=h.below ((Below.refl _ _).alloc (Nat.le_refl _) _)
 have hmay:=zBc h1 (some ⟨w.heap.size,0,none⟩) [s] 1 (zAu w s) (by simp) (by simpa using hs)
 simp only [List.map_cons,List.map_nil] at hmay
 have hE:D.remove [nm s]=D.each1 zAA.gRemove (nm s):=each_one _ _ _
 rw [hE]
 by_cases hm:D.may [nm s]=0
 ·have hsp:=zBR h1 s
  rw [h.is] at hsp
  rw [hm] at hmay
  cases hg:Sat.get (nm s) D.files with
  | none =>
   rw [hg] at hsp
   have hR:zAA.each1 zAA.gRemove D (nm s)=(D,7):=by unfold zAA.each1;rw [if_neg (by rw [hm];simp),hg]
   rw [hR]
   have Hf:=zh (fun q=>zBL h (zAj w (.cells #[.string s] 9) q) 7)
   have Hmay:=zh hmay
   have Hsp:=zh hsp
   clear h h1 hmay hsp hm hR hg hE
   go_enter Tryz.func82,Tryz.ntmps82
   go_wp2_with fail
   refine Hmay.out.mono ?_
   rintro e w2 ⟨rfl,rfl⟩
   go_wp2_with fail
   refine Hsp.out.mono ?_
   rintro e w3 ⟨rfl,q,rfl⟩
   go_wp2_with fail
   go_ret
   exact Hf.out q
  | some f =>
   rw [hg] at hsp
   have hR:zAA.each1 zAA.gRemove D (nm s)=(zAA.done { D with files:=del (nm s) D.files },0):=by unfold zAA.each1;rw [if_neg (by rw [hm];simp),hg];rfl
   rw [hR]
   have Hrm:=zh (fun q=>rremove_calls (h.below (zAj w (.cells #[.string s] 9) q)) s)
   have hfz:=zDE hm
   have Hdid:=zh (show ∀ q e w',RGone ((w.alloc (.cells #[.string s] 9)).drewN q) r own { D with files:=del (nm s) D.files } e w'→Calls Tryz.prog 72 #[.pointer (some ⟨r,0,none⟩)] w' (zCu w r own (zAA.done { D with files:=del (nm s) D.files },0)) from fun q e w' hgn=>by
    obtain ⟨-,own',v',L',hin,hch,-,hx⟩:=hgn
    have hb:=zAj w (.cells #[.string s] 9) q
    refine (zCE hin hfz).mono fun e2 w2 h2=>?_
    have hc2:Chg own w w':=zBy hb (hch.mono fun k _ e=>by rw [e];exact h.or)
    exact zCd hc2 (fun k hk=>(hx k hk).imp id fun hh=>Nat.le_trans hb.size hh) hc2.size h2)
   have Hmay:=zh hmay
   have Hsp:=zh hsp
   clear h h1 hmay hsp hm hR hg hE
   go_enter Tryz.func82,Tryz.ntmps82
   go_wp2_with fail
   refine Hmay.out.mono ?_
   rintro e w2 ⟨rfl,rfl⟩
   go_wp2_with fail
   refine Hsp.out.mono ?_
   rintro e w3 ⟨rfl,q,rfl⟩
   go_wp2_with fail
   refine (Hrm.out q).mono ?_
   intro e w4 h4
   have Hd:=zh (Hdid.out q e w4 h4)
   obtain ⟨rfl,-⟩:=h4
   clear Hrm Hdid
   go_wp2_with fail
   refine Hd.out.mono ?_
   intro e w5 h5
   have HE:=zh h5
   obtain ⟨rfl,-⟩:=h5
   go_wp2_with fail
   go_ret
   exact HE.out
 ·have hR:zAA.each1 zAA.gRemove D (nm s)=(D,D.may [nm s]):=by unfold zAA.each1;rw [if_pos hm]
  rw [hR]
  have Hf:=zh (zBL h ((Below.refl _ _).alloc (Nat.le_refl _) (.cells #[.string s] 9)) (D.may [nm s]))
  have Hmay:=zh hmay
  generalize D.may [nm s]=m at *
  have hne:((m:Int) != 0)=true:=by simp;omega
  clear h h1 hmay hR hE
  go_enter Tryz.func82,Tryz.ntmps82
  go_wp2_with fail
  refine Hmay.out.mono ?_
  rintro e w2 ⟨rfl,rfl⟩
  go_wp2_with fail
  go_ret
  exact Hf.out
end
section
variable {w:World} {r:Nat} {v:Value} {L:List zAH} {own:Nat→Prop} {D:zAA}
theorem zAd.left {room:Nat} {fuse:Option Nat} (h:zAd w r v L own room fuse) (f:Option Nat):zAd (w.setCell ⟨r,2,none⟩ (.int .i64 (leftOf f))) r v L own room f where
 cells:=zAP h.cells 2 _
 row:=h.row.keep fun k hk=>zAD _ (h.ov k hk).2
 data:=fun x hx=>OwnR.keep (h.data x hx) fun k hk=>zAD _ (h.ob x hx k hk).2.1
 or:=h.or
 ov:=h.ov
 ob:=h.ob
 olt:=fun k hk=>by
  have:=h.olt k hk
  simpa [World.setCell] using this
end
section
variable {w:World} {r:Nat} {v:Value} {L:List zAH} {own:Nat→Prop} {D:zAA}
structure RCopy (w W:World) (r2:Nat) (v2:Value) (L:List zAH) (D:zAA) (k:Nat) (M:List zAH) (own2:Nat→Prop):Prop where
 core:zAd W r2 v2 M own2 D.room none
 keys:M.map zAH.key=(L.take k).map zAH.key
 new:∀ j,own2 j→w.heap.size≤j
 bel:Below w.heap.size w W
theorem RCopy.len {W:World} {r2:Nat} {v2:Value} {k:Nat} {M:List zAH} {own2:Nat→Prop} (h:RCopy w W r2 v2 L D k M own2) (hk:k≤L.length):M.length=k:=by
 have:=congrArg List.length h.keys
 rw [List.length_map,List.length_map,List.length_take,Nat.min_eq_left hk] at this
 exact this
end
structure zAz (w:World) (v:Value) (vs:List Value) (ls:List Bs):Prop where
 row:OwnR w 22 1 v ls.length vs
 has:∀ (i:Nat) u b,vs[i]?=some u→ls[i]?=some b→OwnB w 5 u b
 sep:∀ u ∈ vs,∀ k,u.ownBlock=some k→v.ownBlock≠some k
theorem zAF (w:World) (o:Obj):Below w.heap.size w (w.alloc o):=(Below.refl _ _).alloc (Nat.le_refl _) o
theorem zBN (w:World) (u:Value) (e:TypeId) (fr:Nat × Nat):zAX (w.alloc (.cells #[u] e fr)) 1 (.slice (some ⟨w.heap.size,0,none⟩) 1 1) 1 [u]:=by
 refine ⟨rfl,some ⟨w.heap.size,0,none⟩,1,rfl,fun e=>(by cases e),fun a ha i x hx=>?_⟩
 cases ha
 rw [add_zero]
 refine zAC (zAU w _) ?_
 simpa using hx
section
variable {w w0 w1:World} {v v' u:Value} {vs:List Value} {ls:List Bs} {b:Bs}
theorem zAz.len (h:zAz w v vs ls):vs.length=ls.length:=by have:=h.row.1;omega
theorem zAz.below (h:zAz w v vs ls) (hb:Below w.heap.size w w1):zAz w1 v vs ls :=
 ⟨h.row.keep fun k hk=>hb.block k (OwnR.lt h.row hk),fun i u b hu hl=>OwnR.keep (h.has i u b hu hl) fun k hk=>hb.block k (OwnR.lt (h.has i u b hu hl) hk),h.sep⟩
theorem zAz.nil (w:World):zAz w (.slice none 0 0) [] []:=⟨OwnR.nil _ _ _,fun i u b hu=>(by simp at hu),fun u hu=>(by simp at hu)⟩
theorem mem_rows (h:zAz w v vs ls) {u:Value} (hu:u ∈ vs):∃ b,OwnB w 5 u b:=by
 obtain ⟨i,hi,rfl⟩:=List.getElem_of_mem hu
 have hl:i < ls.length:=by rw [← h.len];exact hi
 exact ⟨ls[i],h.has i _ _ (List.getElem?_eq_getElem hi) (List.getElem?_eq_getElem hl)⟩
theorem zAz.push (h:zAz w0 v vs ls) (hu:OwnB w0 5 u b) (hne:∀ k,u.ownBlock=some k→v.ownBlock≠some k) (hown:OwnR w1 22 1 v' (ls.length+1) (vs ++ [u])) (hg:w0.grownBy w1 v.ownBlock) (hloc:v'.ownBlock=v.ownBlock∨∃ g,v'.ownBlock=some g∧w0.heap.size≤g) :
  zAz w1 v' (vs ++ [u]) (ls ++ [b]):=by
 have hlen:=h.len
 have hk:∀ x c,OwnB w0 5 x c→(∀ k,x.ownBlock=some k→v.ownBlock≠some k)→OwnB w1 5 x c:=fun x c hx hs=>OwnR.keep hx fun k hk=>hg.block k (OwnR.lt hx hk) fun e=>hs k hk e.symm
 have hs':∀ x c,OwnB w0 5 x c→(∀ k,x.ownBlock=some k→v.ownBlock≠some k)→∀ k,x.ownBlock=some k→v'.ownBlock≠some k:=fun x c hx hs k hk e=>by
  rcases hloc with e1 | ⟨g,e1,hge⟩
  ·exact hs k hk (e1 ▸ e)
  ·rw [e] at e1
   cases e1
   have:=OwnR.lt hx hk
   omega
 refine ⟨by rw [List.length_append];exact hown,fun i x c hx hc=>?_,fun x hx k hk'=>?_⟩
 ·by_cases hi:i < vs.length
  ·rw [List.getElem?_append_left hi] at hx
   rw [List.getElem?_append_left (by omega)] at hc
   exact hk x c (h.has i x c hx hc) (h.sep x (List.mem_of_getElem? hx))
  ·rw [List.getElem?_append_right (by omega)] at hx
   rw [List.getElem?_append_right (by omega)] at hc
   have hi0:i - vs.length=0:=by
    have:=(List.getElem?_eq_some_iff.1 hx).1
    simp at this
    omega
   rw [hi0] at hx
   rw [show i - ls.length=0 by omega] at hc
   cases hx
   cases hc
   exact hk u b hu hne
 ·rcases List.mem_append.1 hx with hx | hx
  ·obtain ⟨c,hc⟩:=mem_rows h hx
   exact hs' x c hc (h.sep x hx) k hk'
  ·have:x=u:=by simpa using hx
   subst this
   exact hs' x b hu hne k hk'
end
def zCK (B:Nat) (v:Value) (vs:List Value):Prop:=(∀ k,v.ownBlock=some k→B≤k)∧∀ u ∈ vs,∀ k,u.ownBlock=some k→B≤k
theorem zCK.push {B:Nat} {w0:World} {v v' u:Value} {vs:List Value} (h:zCK B v vs) (hu:∀ j,u.ownBlock=some j→B≤j) (hloc:v'.ownBlock=v.ownBlock∨∃ g,v'.ownBlock=some g∧w0.heap.size≤g) (hB:B≤w0.heap.size):zCK B v' (vs ++ [u]):=by
 refine ⟨fun j hj=>?_,fun x hx j hj=>?_⟩
 ·rcases hloc with e | ⟨g,e,hge⟩
  ·exact h.1 j (e ▸ hj)
  ·rw [hj] at e
   cases e
   omega
 ·rcases List.mem_append.1 hx with hx | hx
  ·exact h.2 x hx j hj
  ·rw [List.mem_singleton] at hx
   exact hu j (hx ▸ hj)
def Scanned (w:World) (b:Bs) (e:Ending) (w':World):Prop:=∃ v vs,e=.returned (.tuple #[v,.int .i64 ((scan b).2:Int)])∧zAz w' v vs (scan b).1∧zCK w.heap.size v vs∧Below w.heap.size w w'
def ScanRel (w:World) (b:Bs) (n:Nat) (x y:Value) (wr:World):Prop:=∃ (k:Nat) (v:Value) (vs:List Value) (ls:List Bs),k≤n∧y=.int .i64 k∧v=x∧ls.length≤k∧zAz wr v vs ls∧zCK w.heap.size v vs∧Below w.heap.size w wr∧(scan b).1=ls ++ (scan (b.drop k)).1∧(scan b).2=k+(scan (b.drop k)).2
theorem scan_calls {w:World} {p:Option Addr} {n c:Nat} {b:Bs} (h:HasB w (.slice p n c) b) (hnc:n≤c) (hl:b.length≤1073741824) :
  Calls Tryz.prog 154 #[.slice p n c] w (Scanned w b):=by
 obtain ⟨i1,hi1,-,hs1,-⟩:=info_parts (show (Tryz.prog.info? 5).map (fun i=>(i.zero,i.size,i.bytes))=some (some (.int .u8 0),1,1) by kernel_rfl)
 obtain ⟨i0,hi,hz0,hz1,hz2⟩:=info_parts (show (Tryz.prog.info? 22).map (fun i=>(i.zero,i.size,i.bytes))=some (some (.slice none 0 0),1,24) by kernel_rfl)
 have hn:b.length=n:=by obtain ⟨_,_,e⟩:=h.slice;simp only [Value.slice.injEq] at e;exact e.2.1.symm
 have hn30:n≤1073741824:=by omega
 have H:=zh h
 have Hn:=zh hn
 have Hnc:=zh hnc
 clear h hn hnc hl
 go_enter Tryz.func154,Tryz.ntmps154
 go_wp2_with fail
 go_loopw [4,5] (ScanRel w b n) (fun _ y _=>n - (intOf y).toNat)
 case atStart=>exact ⟨0,_,[],[],Nat.zero_le _,rfl,rfl,Nat.zero_le _,zAz.nil _,⟨fun k hk=>(by cases hk),fun u hu=>(by simp at hu)⟩,Below.refl _ _,by simp,by simp⟩
 case round =>
  obtain ⟨k,v,vs,ls,hk,rfl,rfl,hlk,hrow,hnew,hb,hsc1,hsc2⟩:=hrel
  by_cases hlt:k < n
  ·obtain ⟨r0,hr0⟩:∃ r0,(Value.slice p n c).ownBlock≠some r0:=by
    cases (Value.slice p n c).ownBlock with
    | none=>exact ⟨0,by simp⟩
    | some g=>exact ⟨g+1,by simp⟩
   obtain ⟨p',c',hsl,hh,hc',-⟩:=zDJ (P:=Tryz.prog) Tryz.underlying22 hi1 hs1 (HasB.below H.out hb) Hnc.out r0 k hr0 (Nat.le_of_lt hlt)
   have Hd:=zh (dec_calls hh hc' (by rw [List.length_drop,Hn.out];omega))
   have Hx:=zh (And.intro hrow (And.intro hnew (And.intro hb (And.intro hsc1 hsc2))))
   have hbl:(b.drop k).length=n - k:=by rw [List.length_drop,Hn.out]
   clear hh hc' hrow hnew hb hsc1 hsc2
   by_cases he:decE (b.drop k)=0
   ·have hL:=zCj he
    rw [hbl] at hL
    have Hgo:=zh (scan_go he)
    rw [List.drop_drop] at Hgo
    unfold zCI at Hd
    rw [he] at Hd
    generalize decL (b.drop k)=L at *
    generalize decB (b.drop k)=x at *
    clear he
    go_wp2_with fail
    refine Hd.out.mono ?_
    rintro e w2 ⟨v2,rfl,hv2,hn2,hb2⟩
    have hrow2:=Hx.out.1.below hb2
    have Hv2:=zh hv2
    have Hsep:=zh (show ∀ j,v2.ownBlock=some j→v.ownBlock≠some j from fun j hj e=>by have h1:=hn2 j hj;have h2:=OwnR.lt Hx.out.1.row e;omega)
    have Hn2:=zh (show ∀ j,v2.ownBlock=some j→w.heap.size≤j from fun j hj=>Nat.le_trans Hx.out.2.2.1.size (hn2 j hj))
    have Hb2:=zh hb2
    have Hr2:=zh hrow2
    obtain ⟨p2,c2,rfl,-⟩:=zAb hv2
    clear hv2 hn2 hb2 hrow2 Hd
    generalize hq:x.length=q at *
    have Hq:=zh hq
    generalize hm:ls.length=m at *
    have Hm:=zh hm
    clear hq hm
    have Hrow2:=zh (show OwnR w2 22 1 v m vs by have:=Hr2.out.row;rwa [Hm.out] at this)
    go_wp2_with (at_builtin;have hal:=Hrow2.out.keep (w':=w2.alloc (.cells #[.slice p2 q c2] 22)) (fun j hj=>(zAF w2 _).block j (OwnR.lt Hrow2.out hj));have hxx:=zBN w2 (.slice p2 q c2) 22 (0,0);refine zAf _ rfl (.tmp 23) (.tmp 25) 108 rfl 22 i0 (.slice none 0 0) 1 24 Tryz.underlying108 hi hz0 hz1 hz2 rfl (by decide) v m _ rfl hal (.slice (some ⟨w2.heap.size,0,none⟩) 1 1) 1 _ rfl hxx (by simp [Value.oneCell']) (by unfold maxLen;omega) (by omega) ?_;clear hal hxx;intro v3 w3 hown3 hgrow3 hloc3;go_loud (have hE:=zAz.push (b:=x) (Hr2.out.below (zAF w2 (.cells #[.slice p2 q c2] 22))) (OwnR.keep Hv2.out fun j hj=>(zAF w2 _).block j (OwnR.lt Hv2.out hj)) Hsep.out (by rw [Hm.out];exact hown3) hgrow3 hloc3;have hN:=zCK.push (u:=.slice p2 q c2) Hx.out.2.1 Hn2.out hloc3 (by have h1:=Hx.out.2.2.1.size;have h2:=Hb2.out.size;have h3:=(zAF w2 (.cells #[.slice p2 q c2] 22)).size;omega);have hB:Below w.heap.size w w3:=by { have h1:=Hx.out.2.2.1.trans ((Hb2.out.trans ((zAF w2 (.cells #[.slice p2 q c2] 22)).mono Hb2.out.size)).mono Hx.out.2.2.1.size);exact ((Chg.of_below h1).trans (Chg.of_grown hgrow3) fun j hj e=>by have h5:=Hx.out.2.1.1 j e.symm;omega).below (Nat.le_refl _) fun _ _=>id };have HE:=zh (And.intro hE (And.intro hN hB));clear hE hN hB hgrow3 hloc3;obtain ⟨p3,q3,rfl⟩:=OwnR.shape hown3;clear hown3))
    go_roundw
    case rel=>exact ⟨k+L,_,_,ls ++ [x],by omega,by go_num,rfl,by rw [List.length_append,Hm.out];simp;omega,HE.out.1,HE.out.2.1,HE.out.2.2,by rw [Hx.out.2.2.2.1,Hgo.out];simp,by rw [Hx.out.2.2.2.2,Hgo.out];simp;omega⟩
    case measure=>simp [intOf];omega
   ·have Hst:=zh (zBX (.inr he))
    have hne:((decE (b.drop k):Int) != 0)=true:=by simp;omega
    unfold zCI at Hd
    generalize decE (b.drop k)=E at *
    generalize decL (b.drop k)=L at *
    go_wp2_with fail
    refine Hd.out.mono ?_
    rintro e w2 ⟨v2,rfl,-,-,hb2⟩
    have HE:=zh (show Scanned w b (.returned (.tuple #[v,.int .i64 (k:Int)])) w2 from ⟨v,vs,by rw [Hx.out.2.2.2.2,Hst.out];rfl,by rw [Hx.out.2.2.2.1,Hst.out,List.append_nil];exact Hx.out.1.below hb2,Hx.out.2.1,Hx.out.2.2.1.trans (hb2.mono Hx.out.2.2.1.size)⟩)
    clear hb2 Hd
    go_wp2_with fail
    go_ret2
    exact HE.out
  ·have he:b.drop k=[]:=List.drop_of_length_le (by rw [Hn.out];omega)
   rw [he,zBX (.inl rfl)] at hsc1 hsc2
   have HE:=zh (show Scanned w b (.returned (.tuple #[v,.int .i64 (k:Int)])) wr from ⟨v,vs,by rw [hsc2];rfl,by rw [hsc1,List.append_nil];exact hrow,hnew,hb⟩)
   clear hrow hnew hb hsc1 hsc2 he
   go_wp2_with fail
   go_ret2
   exact HE.out
theorem xor_range (a b:Int) (h1:0≤a) (h2:a < 4294967296) (h3:0≤b) (h4:b < 4294967296):0≤bits .xor .u32 a b∧bits .xor .u32 a b < 4294967296:=by
 rw [u32_xor a b h1 h2 h3 h4]
 have:a.toNat ^^^ b.toNat < 2 ^ 32:=Nat.xor_lt_two_pow (by omega) (by omega)
 omega
theorem and_one (z:Int) (h1:0≤z) (h2:z < 4294967296):bits .and .u32 z 1=0∨bits .and .u32 z 1=1:=by
 rw [u32_and z 1 h1 h2 (by decide) (by decide)]
 have:z.toNat &&& (1:Int).toNat=z.toNat % 2:=Nat.and_one_is_mod _
 rw [this]
 omega
theorem bitF_one {z:Int} (h:bits .and .u32 z 1=1):bitF z=bits .xor .u32 (z / 2) 3988292384:=by
 unfold bitF
 rw [h]
 congr 1
theorem bitF_zero {z:Int} (h1:0≤z) (h2:z < 4294967296) (h:bits .and .u32 z 1=0):bitF z=z / 2:=by
 unfold bitF
 rw [h]
 have e:bits .and .u32 3988292384 (-0 % 4294967296)=0:=by decide
 rw [e,u32_xor (z / 2) 0 (by omega) (by omega) (by decide) (by decide)]
 have:(z / 2).toNat ^^^ (0:Int).toNat=(z / 2).toNat:=Nat.xor_zero _
 rw [this]
 omega
theorem bitF_range {z:Int} (h1:0≤z) (h2:z < 4294967296):0≤bitF z∧bitF z < 4294967296:=by
 rcases and_one z h1 h2 with h | h
 ·rw [bitF_zero h1 h2 h];omega
 ·rw [bitF_one h];exact xor_range _ _ (by omega) (by omega) (by decide) (by decide)
theorem zCQ {z:Int} (h1:0≤z) (h2:z < 4294967296):∀ k,0≤zDB k z∧zDB k z < 4294967296
 | 0=>⟨h1,h2⟩
 | k+1=>bitF_range (zCQ h1 h2 k).1 (zCQ h1 h2 k).2
theorem byteF_range {z:Int} (h1:0≤z) (h2:z < 4294967296) (c:UInt8):0≤byteF z c∧byteF z c < 4294967296:=by
 have hc:c.toNat < 256:=c.toNat_lt
 have:=xor_range z (c.toNat:Int) h1 h2 (by omega) (by omega)
 exact zCQ this.1 this.2 8
theorem rowF_range {z:Int} (h1:0≤z) (h2:z < 4294967296) (l:Bs):0≤rowF z l∧rowF z l < 4294967296:=by
 induction l generalizing z with
 | nil=>exact ⟨h1,h2⟩
 | cons c r ih=>exact ih (byteF_range h1 h2 c).1 (byteF_range h1 h2 c).2
theorem rsum_calls {w:World} {p:Option Addr} {m c:Nat} {l:Bs} (hx:HasB w (.slice p m c) l) (hl:l.length≤140737488355328) :
  Calls Tryz.prog 184 #[.slice p m c] w (fun e w'=>e=.returned (.int .u32 (sumF l))∧w'=w):=by
 have hm:m=l.length:=(zBe hx).1
 have Hat:=zh hx.at
 have Hm:=zh hm.symm
 have hmm:m≤140737488355328:=by omega
 clear hx hm hl
 go_enter Tryz.func184,Tryz.ntmps184
 go_wp2_with fail
 go_loop [3,4] (fun v i=>∃ j:Nat,j≤m∧i=.int .i64 j∧v=.int .u32 (rowF 4294967295 (l.take j))) (fun _ i=>m - (intOf i).toNat)
 case atStart=>exact ⟨0,Nat.zero_le _,rfl,rfl⟩
 case round =>
  obtain ⟨j,hj,rfl,rfl⟩:=hrel
  by_cases hlj:j < m
  ·have hljl:j < l.length:=by rw [Hm.out];exact hlj
   have Hbt:=zh (rowF_take 4294967295 l hljl)
   rcases Hat.out with h | ⟨b2,o2,c2,e1,hcx⟩
   ·rw [h] at hljl
    simp at hljl
   rw [Hm.out] at e1
   cases e1
   have hcb:=hcx j _ (List.getElem?_eq_getElem hljl)
   have hry:=rowF_range (z:=4294967295) (by decide) (by decide) (l.take j)
   generalize l[j]=cc at *
   generalize rowF 4294967295 (l.take j)=y at *
   have hcc:cc.toNat < 256:=cc.toNat_lt
   clear hcx
   go_wp2_with fail
   have HB:=zh (show byteF y cc=zDB 8 (bits .xor .u32 y (cc.toNat:Int)) from rfl)
   have hz0r:=xor_range y (cc.toNat:Int) hry.1 hry.2 (by omega) (by omega)
   generalize bits .xor .u32 y (cc.toNat:Int)=z0 at *
   go_loop [3,5] (fun v i=>∃ q:Nat,q≤8∧i=.int .i64 q∧v=.int .u32 (zDB q z0)) (fun _ i=>8 - (intOf i).toNat)
   case atStart=>exact ⟨0,Nat.zero_le _,rfl,rfl⟩
   case round =>
    obtain ⟨q,hq,rfl,rfl⟩:=hrel
    by_cases hlq:q < 8
    ·have Hit:=zh (show zDB (q+1) z0=bitF (zDB q z0) from rfl)
     have hrq:=zCQ hz0r.1 hz0r.2 q
     generalize zDB q z0=z at *
     rcases and_one z hrq.1 hrq.2 with hb | hb
     ·have Hbf:=zh (bitF_zero hrq.1 hrq.2 hb)
      go_wp2_with fail
      go_round
      case rel=>exact ⟨q+1,by omega,by go_num,by rw [Hit.out,Hbf.out]⟩
      case measure=>simp [intOf];omega
     ·have Hbf:=zh (bitF_one hb)
      go_wp2_with fail
      go_round
      case rel=>exact ⟨q+1,by omega,by go_num,by rw [Hit.out,Hbf.out]⟩
      case measure=>simp [intOf];omega
    ·have hq8:q=8:=by omega
     subst hq8
     go_wp2_with fail
     go_round
     case rel=>exact ⟨j+1,by omega,by go_num,by rw [Hbt.out,HB.out]⟩
     case measure=>simp [intOf];omega
  ·have hjm:j=m:=by omega
   have hlk:l.take j=l:=List.take_of_length_le (by rw [Hm.out];omega)
   rw [hlk]
   clear hlk
   have He:=zh (show sumF l=bits .xor .u32 IntKind.u32.max (rowF 4294967295 l) from rfl)
   generalize rowF 4294967295 l=x at *
   go_wp2_with fail
   go_ret
   exact ⟨by rw [He.out];rfl,rfl⟩
theorem rfromFour_calls {w:World} {b o n c:Nat} {a0 a1 a2 a3:UInt8} (hn:4≤n) (h0:w.cell? ⟨b,o,none⟩=some (.int .u8 (a0.toNat:Int))) (h1:w.cell? ⟨b,o+1,none⟩=some (.int .u8 (a1.toNat:Int)))
  (h2:w.cell? ⟨b,o+2,none⟩=some (.int .u8 (a2.toNat:Int))) (h3:w.cell? ⟨b,o+3,none⟩=some (.int .u8 (a3.toNat:Int))) :
  Calls Tryz.prog 197 #[.slice (some ⟨b,o,none⟩) n c] w (fun e w'=>e=.returned (.int .u32 (ofFour a0 a1 a2 a3:Int))∧∃ q,w'=w.drewN q):=by
 have l0:=a0.toNat_lt
 have l1:=a1.toNat_lt
 have l2:=a2.toNat_lt
 have l3:=a3.toNat_lt
 have i0:(0:Int) < (n:Int):=by omega
 have i1:(1:Int) < (n:Int):=by omega
 have i2:(2:Int) < (n:Int):=by omega
 have i3:(3:Int) < (n:Int):=by omega
 have hF:=or_four l0 l1 l2 l3
 have HF:=zh (show bits .or .u32 (bits .or .u32 (bits .or .u32 (a0.toNat:Int) ((a1.toNat:Int) * 256)) ((a2.toNat:Int) * 65536)) ((a3.toNat:Int) * 16777216)=(ofFour a0 a1 a2 a3:Int) from hF)
 clear hF
 generalize ofFour a0 a1 a2 a3=r at *
 generalize a0.toNat=x0 at *
 generalize a1.toNat=x1 at *
 generalize a2.toNat=x2 at *
 generalize a3.toNat=x3 at *
 go_enter Tryz.func197,Tryz.ntmps197
 go_wp2_with fail
 go_quiet (fail)
 go_wp2
 go_ret
 exact ⟨by rw [← HF.out];rfl,_,rfl⟩
theorem rfour_at {w:World} {p:Option Addr} {n c:Nat} {b:Bs} (h:HasB w (.slice p n c) b) (h4:4≤b.length) :
  Calls Tryz.prog 197 #[.slice p n c] w (fun e w'=>e=.returned (.int .u32 (fourAt b:Int))∧∃ q,w'=w.drewN q):=by
 have h1:=h.at
 obtain ⟨p',c',e⟩:=h.slice
 cases e
 rcases h1 with e | ⟨g,o,c2,e,hc⟩
 ·rw [e] at h4
  simp at h4
 ·cases e
  have hb:∀ i,i < b.length→b[i]?=some (b.getD i 0):=fun i hi=>by simp [List.getD,List.getElem?_eq_getElem hi]
  exact rfromFour_calls h4 (by simpa using hc 0 _ (hb 0 (by omega))) (hc 1 _ (hb 1 (by omega))) (hc 2 _ (hb 2 (by omega))) (hc 3 _ (hb 3 (by omega)))
theorem ownB_keep {w w':World} {v:Value} {l:Bs} (h:OwnB w 5 v l) (hb:Below w.heap.size w w'):OwnB w' 5 v l:=OwnB.keep h fun k hk=>hb.block k (OwnR.lt h hk)
theorem four_inv (a0 a1 a2 a3:UInt8):zA1 (ofFour a0 a1 a2 a3)=[a0,a1,a2,a3]:=by
 have l0:=a0.toNat_lt
 have l1:=a1.toNat_lt
 have l2:=a2.toNat_lt
 have l3:=a3.toNat_lt
 have e:∀ (n:Nat) (a:UInt8),n % 256=a.toNat→UInt8.ofNat n=a:=fun n a h=>by
  apply UInt8.toNat_inj.1
  rw [UInt8.toNat_ofNat']
  exact h
 unfold zA1 ofFour
 rw [e _ a0 (by omega),e _ a1 (by omega),e _ a2 (by omega),e _ a3 (by omega)]
theorem fourAt_inv {b:Bs} (h:4≤b.length):zA1 (fourAt b)=b.take 4:=by
 match b,h with
 | a0 :: a1 :: a2 :: a3 :: r,_=>exact four_inv a0 a1 a2 a3
theorem four_inj {m n:Nat} (hm:m < 4294967296) (hn:n < 4294967296) (h:zA1 m=zA1 n):m=n:=by
 have e1:=zB0 m hm []
 have e2:=zB0 n hn []
 rw [h] at e1
 omega
theorem head_iff {b:Bs} (h:8≤b.length):b.take 8=zBg (fourAt b) ↔ fourAt (b.drop 4)=sumN (b.take 4):=by
 have h1:=fourAt_inv (b:=b) (by omega)
 have h2:=fourAt_inv (b:=b.drop 4) (by rw [List.length_drop];omega)
 have e8:b.take 8=b.take 4 ++ (b.drop 4).take 4:=by rw [← List.take_add]
 have eh:zBg (fourAt b)=b.take 4 ++ zA1 (sumN (b.take 4)):=by
  show zA1 (fourAt b) ++ zA1 (sumN (zA1 (fourAt b)))=_
  rw [h1]
 rw [e8,eh,List.append_cancel_left_eq,← h2]
 exact ⟨fun e=>four_inj (zB1 _) (sumN_lt _) e,fun e=>by rw [e]⟩
end Go.Proofs.YtapfnehdgailmaaGreat
