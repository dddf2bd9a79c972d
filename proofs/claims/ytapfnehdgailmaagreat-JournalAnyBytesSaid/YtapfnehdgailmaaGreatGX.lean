/- The document's journal: stands. (Printed by mkrk12.py.) The document's Save (satrapyref4). The document's journal: its data turned; snaps. (Printed by mkrk13.py.) The document's journal: Compact. (Printed by mkrk14.py.) The document's journal: Install. (Printed by mkro6.py.) The document's Scan (satrapyref2). -/
import Derived.Test.YtapfnehdgailmaaGreatGF
import Derived.Test.YtapfnehdgailmaaGreatGK
import Derived.Test.YtapfnehdgailmaaGreatGQ
import Derived.Test.YtapfnehdgailmaaGreatGT
import Derived.Test.YtapfnehdgailmaaGreatGW
set_option maxRecDepth 100000
set_option maxHeartbeats 64000000
namespace Go.Proofs.YtapfnehdgailmaaGreat
open Go.RowKit Go.Sat Go.Maps
section
variable {w w1 w2:World} {j r:Nat} {pre:ByteArray} {D:zAB} {M:JouM} {Hot Cold:Nat→Prop}
theorem rjstands_calls (h:RJF w1 j r pre D M Hot Cold) {n2:Nat} {t2:Int} {g2:List Int} (hgt:M.number < n2) (hs:(⟨n2,t2,g2,M.data⟩:Snap).OK) {pg:Option Addr} {cg:Nat} (hg:HasI w1 (.slice pg g2.length cg) g2) (hpg:∀ k,(Value.slice pg g2.length cg).ownBlock=some k→k≠j) :
  Calls Tryz.prog 92 #[.pointer (some ⟨j,0,none⟩),.agg #[.int .i64 (n2:Int),.int .i64 t2,.slice pg g2.length cg]] w1 fun e w'=>e=.returned (.tuple #[])∧zBF w1 j r pre Hot Cold w' D (M.rebase ⟨n2,t2,g2,M.data⟩):=by
 obtain ⟨i0,hi,hz0,hz1,hz2⟩:=info_parts (show (Tryz.prog.info? 3).map (fun i=>(i.zero,i.size,i.bytes))=some (some (.int .i64 0),1,8) by kernel_rfl)
 obtain ⟨i4,hi4,hz40,hz41,hz42⟩:=info_parts (show (Tryz.prog.info? 50).map (fun i=>(i.zero,i.size,i.bytes))=some (some (.agg #[.int .i64 0,.int .i64 0,.slice none 0 0,.slice none 0 0]),4,64) by kernel_rfl)
 have hn2:n2≤1099511627776:=hs.number
 have hg2:g2.length≤7:=(grp_len hs.group).2
 have Hro:=zh (rebase_ok h.okM hs)
 have hlast:=h.okM.last
 have hjl:=h.hlt h.jhot
 have Hrs:=zh (show M.rebase ⟨n2,t2,g2,M.data⟩={ M with number:=n2,term:=t2,group:=g2,entries:=if M.number < n2∧M.termAt n2=some t2 then M.entries.drop (n2 - M.number) else [] } from rfl)
 rw [Hrs.out] at Hro
 rw [Hrs.out]
 obtain ⟨es,hes⟩:∃ es,es=(if M.number < n2∧M.termAt n2=some t2 then M.entries.drop (n2 - M.number) else []):=⟨_,rfl⟩
 rw [← hes] at Hro ⊢
 clear Hrs
 unfold HasI at hg
 generalize hgl:g2.length=gl at *
 have Hgl:=zh hgl
 have Hg:=zh hg
 have Hpg:=zh hpg
 have H:=zh h
 have Hbx:=zh (zAD w1 (.cells #[.int .i64 (n2:Int),.int .i64 t2,.slice pg gl cg] 82))
 have Hbn:=zh (zAI w1 (.cells #[.int .i64 (n2:Int),.int .i64 t2,.slice pg gl cg] 82))
 have Hta:=zh (rjtermAt_calls (h.below Hbx.out) (n2:Int) (by omega))
 have Hla:=zh (fun W (hb:Below w1.heap.size w1 W)=>rjlast_calls (h.below hb))
 obtain ⟨O,own,gv,dv,ev,vs,v0,L,hJ,hR1,hO,hCo,hH⟩:=id h
 obtain ⟨p8,c8,hev8⟩:=hJ.row.shape
 have hle8:M.entries.length≤c8:=by
  rcases hJ.row.2 with ⟨h8,h0⟩ | ⟨g,cap,cur,h8,-,hnc,-⟩
  ·omega
  ·rw [hev8] at h8
   cases h8
   exact hnc
 have HX:=zh (And.intro hJ (And.intro hR1 (And.intro hO (And.intro hCo (And.intro hH hev8)))))
 have Hc:=zh (show w1.heap[j]?=some (RJC r (M.number:Int) M.term gv pre M.now M.vote dv (.slice p8 M.entries.length c8) M.dead) from by rw [← hev8];exact hJ.cells)
 have hml:M.last=M.number+M.entries.length:=rfl
 have Hnil:=zh (fun (W:World) (hb:Below w1.heap.size w1 W)=>show zBF w1 j r pre Hot Cold (W.setCell ⟨j,8,none⟩ (.slice none 0 0)) D { M with entries:=[] } from by
  have h1:=rj_drop (k:=M.entries.length) (p:=none) (n:=0) (c:=0) h hb hJ hR1 hO hCo hH (by rw [List.drop_length,entsC_nil];exact OwnR.nil _ _ _) (by rw [List.drop_length];rfl) (fun y hy=>by cases hy)
  rwa [List.drop_length] at h1)
 clear h hs hgl hg hpg hJ hR1 hO hCo hH hev8
 cases hta:M.termAt (n2:Int) with
 | none =>
  rw [if_neg (fun e=>by rw [hta] at e;cases e.2)] at hes
  subst hes
  rw [hta] at Hta
  simp only [Option.getD_none,Option.isSome_none] at Hta
  generalize hM8:M.entries.length=n8 at *
  generalize hb:M.number=b at *
  go_enter Tryz.func92,Tryz.ntmps92
  go_wp2_with fail
  refine Hta.out.mono ?_
  rintro e w2 ⟨rfl,q,rfl⟩
  have HB2:=zh (Hbx.out.trans (⟨rfl,rfl,rfl,Nat.le_refl _,fun _ _=>rfl⟩:Below w1.heap.size (w1.alloc (.cells #[.int .i64 (n2:Int),.int .i64 t2,.slice pg gl cg] 82)) ((w1.alloc (.cells #[.int .i64 (n2:Int),.int .i64 t2,.slice pg gl cg] 82)).drewN q)))
  have Hl2:=zh (Hla.out _ HB2.out)
  go_wp2_with fail
  refine Hl2.out.mono ?_
  rintro e w3 ⟨rfl,q2,rfl⟩
  generalize hWQ:World.drewN (World.drewN _ _) _=WQ
  have HBq:=zh (show Below w1.heap.size w1 WQ from by rw [← hWQ];exact HB2.out.trans ⟨rfl,rfl,rfl,Nat.le_refl _,fun _ _=>rfl⟩)
  have hbx:WQ.heap[w1.heap.size]?=some (.cells #[.int .i64 (n2:Int),.int .i64 t2,.slice pg gl cg] 82 (0,0)):=by rw [← hWQ];exact Hbn.out
  have hjx:WQ.heap[j]?=some (RJC r (b:Int) M.term gv pre M.now M.vote dv (.slice p8 n8 c8) M.dead):=(HBq.out.block j hjl).trans Hc.out
  have HBd:=zh (show Below w1.heap.size w1 WQ.drew from HBq.out.trans ⟨rfl,rfl,rfl,Nat.le_refl _,fun _ _=>rfl⟩)
  clear hWQ
  go_wp2_with fail
  refine zAT (fun w':World=>w'.heap[w1.heap.size]?=some (.cells #[.int .i64 (n2:Int),.int .i64 t2,.slice pg gl cg] 82 (0,0))∧w'.heap[j]?=some (RJC r (b:Int) M.term gv pre M.now M.vote dv (.slice p8 n8 c8) M.dead)) (n:=17) (by kernel_rfl) rfl (⟨(hbx:WQ.drew.heap[w1.heap.size]?=_),(hjx:WQ.drew.heap[j]?=_)⟩) (fun hHeld=>?_)
  generalize WQ.drew=W1 at *
  refine otc 0 (v:=?v3x0) rfl ?y3x0 ?_
  case y3x0=>(intro w hSw;have p0:=zAA hSw.1 (i:=0) rfl;have p1:=zAA hSw.1 (i:=1) rfl;have p2:=zAA hSw.1 (i:=2) rfl;have q0:=zAA hSw.2 (i:=0) rfl;have q8:=zAA hSw.2 (i:=8) rfl;go_simp;try with_reducible rfl)
  simp only [Act.put,uA,uB,uC]
  refine otc 1 (v:=?v3x1) rfl ?y3x1 ?_
  case y3x1=>(intro w hSw;have p0:=zAA hSw.1 (i:=0) rfl;have p1:=zAA hSw.1 (i:=1) rfl;have p2:=zAA hSw.1 (i:=2) rfl;have q0:=zAA hSw.2 (i:=0) rfl;have q8:=zAA hSw.2 (i:=8) rfl;go_simp;try with_reducible rfl)
  simp only [Act.put,uA,uB,uC]
  refine osk 2 rfl ?_
  simp only [Act.put,uA,uB,uC]
  refine osk 3 rfl ?_
  simp only [Act.put,uA,uB,uC]
  refine osk 4 rfl ?_
  simp only [Act.put,uA,uB,uC]
  refine osk 5 rfl ?_
  simp only [Act.put,uA,uB,uC]
  refine otc 6 (v:=?v3x6) rfl ?y3x6 ?_
  case y3x6=>(intro w hSw;have p0:=zAA hSw.1 (i:=0) rfl;have p1:=zAA hSw.1 (i:=1) rfl;have p2:=zAA hSw.1 (i:=2) rfl;have q0:=zAA hSw.2 (i:=0) rfl;have q8:=zAA hSw.2 (i:=8) rfl;go_simp;try with_reducible rfl)
  simp only [Act.put,uA,uB,uC]
  refine otc 7 (v:=?v3x7) rfl ?y3x7 ?_
  case y3x7=>(intro w hSw;have p0:=zAA hSw.1 (i:=0) rfl;have p1:=zAA hSw.1 (i:=1) rfl;have p2:=zAA hSw.1 (i:=2) rfl;have q0:=zAA hSw.2 (i:=0) rfl;have q8:=zAA hSw.2 (i:=8) rfl;go_simp;try with_reducible rfl)
  simp only [Act.put,uA,uB,uC]
  refine osk 8 rfl ?_
  simp only [Act.put,uA,uB,uC]
  refine osk 9 rfl ?_
  simp only [Act.put,uA,uB,uC]
  refine osk 10 rfl ?_
  simp only [Act.put,uA,uB,uC]
  refine osk 11 rfl ?_
  simp only [Act.put,uA,uB,uC]
  refine osk 12 rfl ?_
  simp only [Act.put,uA,uB,uC]
  refine osk 13 rfl ?_
  simp only [Act.put,uA,uB,uC]
  refine osk 14 rfl ?_
  simp only [Act.put,uA,uB,uC]
  refine osk 15 rfl ?_
  simp only [Act.put,uA,uB,uC]
  refine otc 16 (v:=?v3x16) rfl ?y3x16 ?_
  case y3x16=>(intro w hSw;have p0:=zAA hSw.1 (i:=0) rfl;have p1:=zAA hSw.1 (i:=1) rfl;have p2:=zAA hSw.1 (i:=2) rfl;have q0:=zAA hSw.2 (i:=0) rfl;have q8:=zAA hSw.2 (i:=8) rfl;go_simp;try with_reducible rfl)
  simp only [Act.put,uA,uB,uC]
  refine wpAnyH_done (by kernel_rfl) ?_ _
  have hHeld3:=hHeld
  have c8w:=zAA hHeld.2 (i:=8) rfl
  have f8w:=zAF hHeld.2 8
  go_wp2_with fail
  have HS:=zh (Hnil.out W1 HBd.out)
  have HbS:=zh ((set_other (w:=W1) (a:=⟨j,8,none⟩) (.slice none 0 0) (show w1.heap.size≠j by omega)).trans hHeld3.1)
  have HjS:=zh (show (W1.setCell ⟨j,8,none⟩ (.slice none 0 0)).heap[j]?=some (RJC r (b:Int) M.term gv pre M.now M.vote dv (.slice none 0 0) M.dead) from by
   have h1:=zAE hHeld3.2 8 (.slice none 0 0)
   simpa using h1)
  have HgS:=zh (show zAL (W1.setCell ⟨j,8,none⟩ (.slice none 0 0)) 1 (.slice pg gl cg) gl (g2.map (Value.int .i64)) from zAL.chg (zAL.chg Hg.out (Chg.of_below HBd.out) fun _ _=>id) (Chg.setCell W1 ⟨j,8,none⟩ _) fun k hk=>Hpg.out k hk)
  clear c8w f8w hHeld3 hHeld
  generalize W1.setCell ⟨j,8,none⟩ (.slice none 0 0)=wS at *
  have Hj6:=zh (show wS.drew.heap[j]?=some (RJC r (b:Int) M.term gv pre M.now M.vote dv (.slice none 0 0) M.dead) from HjS.out)
  have HB6:=zh (⟨rfl,rfl,rfl,Nat.le_refl _,fun _ _=>rfl⟩:Below wS.heap.size wS wS.drew)
  have Hgr6:=zh (fun W (hb2:Below wS.drew.heap.size wS.drew W)=>zAL.chg (HgS.out) (Chg.of_below ((⟨rfl,rfl,rfl,Nat.le_refl _,fun _ _=>rfl⟩:Below wS.heap.size wS wS.drew).trans hb2)) fun _ _=>id)
  refine zAT (fun w':World=>w'.heap[w1.heap.size]?=some (.cells #[.int .i64 (n2:Int),.int .i64 t2,.slice pg gl cg] 82 (0,0))) (n:=13) (by kernel_rfl) rfl ((HbS.out:wS.drew.heap[w1.heap.size]?=_)) (fun hHeld=>?_)
  generalize wS.drew=W6 at *
  refine otc 0 (v:=?v6x0) rfl ?y6x0 ?_
  case y6x0=>(intro w hSw;have p0:=zAA hSw (i:=0) rfl;have p1:=zAA hSw (i:=1) rfl;have p2:=zAA hSw (i:=2) rfl;go_simp;try with_reducible rfl)
  simp only [Act.put,uA,uB,uC]
  refine otc 1 (v:=?v6x1) rfl ?y6x1 ?_
  case y6x1=>(intro w hSw;have p0:=zAA hSw (i:=0) rfl;have p1:=zAA hSw (i:=1) rfl;have p2:=zAA hSw (i:=2) rfl;go_simp;try with_reducible rfl)
  simp only [Act.put,uA,uB,uC]
  refine otc 2 (v:=?v6x2) rfl ?y6x2 ?_
  case y6x2=>(intro w hSw;have p0:=zAA hSw (i:=0) rfl;have p1:=zAA hSw (i:=1) rfl;have p2:=zAA hSw (i:=2) rfl;go_simp;try with_reducible rfl)
  simp only [Act.put,uA,uB,uC]
  refine otc 3 (v:=?v6x3) rfl ?y6x3 ?_
  case y6x3=>(intro w hSw;have p0:=zAA hSw (i:=0) rfl;have p1:=zAA hSw (i:=1) rfl;have p2:=zAA hSw (i:=2) rfl;go_simp;try with_reducible rfl)
  simp only [Act.put,uA,uB,uC]
  refine otc 4 (v:=?v6x4) rfl ?y6x4 ?_
  case y6x4=>(intro w hSw;have p0:=zAA hSw (i:=0) rfl;have p1:=zAA hSw (i:=1) rfl;have p2:=zAA hSw (i:=2) rfl;go_simp;try with_reducible rfl)
  simp only [Act.put,uA,uB,uC]
  refine otc 6 (v:=?v6x6) rfl ?y6x6 ?_
  case y6x6=>(intro w hSw;have p0:=zAA hSw (i:=0) rfl;have p1:=zAA hSw (i:=1) rfl;have p2:=zAA hSw (i:=2) rfl;go_simp;try with_reducible rfl)
  simp only [Act.put,uA,uB,uC]
  refine otc 7 (v:=?v6x7) rfl ?y6x7 ?_
  case y6x7=>(intro w hSw;have p0:=zAA hSw (i:=0) rfl;have p1:=zAA hSw (i:=1) rfl;have p2:=zAA hSw (i:=2) rfl;go_simp;try with_reducible rfl)
  simp only [Act.put,uA,uB,uC]
  refine zAG 5 rfl (by kernel_rfl) (by rfl) (fun K hK=>?_)
  have HBW:=zh (zAD W6 (.cells #[] 3))
  have Hh1:=zh ((HBW.out.block w1.heap.size (zAC hHeld)).trans hHeld)
  have HeldX:=zh hHeld
  go_wp2_with fail
  refine hK.out _ _ (Hh1.out) (fun hHeld=>?_)
  clear hK
  try simp only [Act.put,uA,uB,uC]
  refine zAG 8 rfl (by kernel_rfl) (by rfl) (fun K hK=>?_)
  have Hal:=zh (zAz W6 3)
  have Hno:=zh (Hgr6.out _ HBW.out)
  refine zAj (.tmp 70) (.tmp 72) 38 rfl 3 i0 (.int .i64 0) 1 8 Tryz.underlying38 hi hz0 hz1 hz2 rfl (by decide) (.slice (some ⟨W6.heap.size,0,none⟩) 0 0) 0 [] rfl Hal.out (.slice pg gl cg) gl _ rfl Hno.out (fun u hu=>by obtain ⟨z,-,rfl⟩:=List.mem_map.1 hu;rfl) (by unfold maxLen;omega) (by omega) ?_
  intro v9 w9 hown9 hgrow9 hloc9
  have HN:=zh (zDk hown9 hgrow9 hloc9)
  have Hh9:=zh ((HN.out.2.2.block w1.heap.size (zAC HeldX.out)).trans HeldX.out)
  clear hown9 hgrow9 hloc9 Hal Hno
  obtain ⟨p9,c9,rfl⟩:=OwnR.shape HN.out.1
  refine hK.out _ _ (Hh9.out) (fun hHeld=>?_)
  clear hK
  try simp only [Act.put,uA,uB,uC]
  refine otk 9 (v:=?v6x9) rfl ?_
  simp only [Act.put,uA,uB,uC]
  refine otk 10 (v:=?v6x10) rfl ?_
  simp only [Act.put,uA,uB,uC]
  refine otk 11 (v:=?v6x11) rfl ?_
  simp only [Act.put,uA,uB,uC]
  refine zAG 12 rfl (by kernel_rfl) (by rfl) (fun K hK=>?_)
  have Hj9:=zh ((HN.out.2.2.block j (zAC Hj6.out)).trans Hj6.out)
  have s0:=zAA Hj9.out (i:=0) rfl
  have s1:=zAA Hj9.out (i:=1) rfl
  have s2:=zAA Hj9.out (i:=2) rfl
  have f0:=zAF Hj9.out 0
  have f1:=zAF Hj9.out 1
  have f2:=zAF Hj9.out 2
  have Hbb:=zh ((set_other (w:=(w9.setCell ⟨j,0,none⟩ (.int .i64 (n2:Int))).setCell ⟨j,1,none⟩ (.int .i64 t2)) (a:=⟨j,2,none⟩) (.slice p9 gl c9) (show w1.heap.size≠j by omega)).trans ((set_other (w:=w9.setCell ⟨j,0,none⟩ (.int .i64 (n2:Int))) (a:=⟨j,1,none⟩) (.int .i64 t2) (show w1.heap.size≠j by omega)).trans ((set_other (w:=w9) (a:=⟨j,0,none⟩) (.int .i64 (n2:Int)) (show w1.heap.size≠j by omega)).trans hHeld)))
  go_wp2_with fail
  refine hK.out _ _ (Hbb.out) (fun hHeld=>?_)
  clear hK
  try simp only [Act.put,uA,uB,uC]
  refine wpAnyH_done (by kernel_rfl) ?_ _
  have HE:=zh (HS.out.trans fun Hot1 Cold1 hF=>rj_base hF (HB6.out.trans (HN.out.2.2.mono HB6.out.size)) (show HasI w9 (.slice p9 gl c9) g2 from by unfold HasI;rw [Hgl.out];exact OwnR.holds HN.out.1) (fun k hk=>⟨Nat.le_trans HB6.out.size (HN.out.2.1 k hk),OwnR.lt HN.out.1 hk⟩) Hro.out)
  go_wp2_with fail
  go_end0
  first
   | exact ⟨rfl,HE.out⟩
   | (have h9:=HE.out;rw [hes] at h9;exact ⟨rfl,h9⟩)
 | some t =>
  by_cases htt:t=t2
  ·have htt2:=htt.symm
   clear htt
   subst htt2
   rw [if_pos ⟨hgt,hta⟩] at hes
   have hle:=termAt_le hta
   obtain ⟨k,hk⟩:∃ k,k=n2 - M.number:=⟨_,rfl⟩
   rw [← hk] at hes
   have hkn:k≤M.entries.length:=by omega
   obtain ⟨m,hm⟩:∃ m,m=M.entries.length - k:=⟨_,rfl⟩
   obtain ⟨pa,hpa⟩:∃ pa,pa=(if c8 - k=0 then p8 else p8.map fun x=>x.add (k * 4)):=⟨_,rfl⟩
   have Hup:=zh (fun (W:World)=>show (Instr.slice 78 (.slice p8 M.entries.length c8) (some (.int .i64 (k:Int))) (some (.int .i64 (M.entries.length:Int))) none).run Tryz.prog W=.ok (.slice pa m (c8 - k)) W from by
    have h1:=run_ab W Tryz.underlying78 hi4 p8 M.entries.length c8 k M.entries.length hkn hle8
    rw [hz41] at h1
    rw [hpa,hm]
    exact h1)
   have Hents0:=zh (show zAL w1 4 (.slice pa m (c8 - k)) m (zA1 (M.entries.drop k) (vs.drop k)) from by
    have hrow:=HX.out.1.row
    rw [HX.out.2.2.2.2.2] at hrow
    rw [entsC_drop k _ _ HX.out.1.rlen,hpa,hm]
    exact OwnR.cut_from hrow hkn)
   have Hone:=zh (zEc (M.entries.drop k) (vs.drop k) fun v hv=>HX.out.1.one v (List.mem_of_mem_drop hv))
   have Hdr:=zh (fun (W:World) (hb:Below w1.heap.size w1 W) (p:Option Addr) (c:Nat) (hown:OwnR W 50 4 (.slice p m c) m (zA1 (M.entries.drop k) (vs.drop k))) (hnew:∀ y,(Value.slice p m c).ownBlock=some y→w1.heap.size≤y)=>rj_drop H.out hb HX.out.1 HX.out.2.1 HX.out.2.2.1 HX.out.2.2.2.1 HX.out.2.2.2.2.1 hown (by rw [List.length_drop,hm]) hnew)
   rw [← hes] at Hdr
   have hw1:IntKind.i64.wrap ((n2:Int) - (M.number:Int))=(k:Int):=by rw [IntWalk.i64_in _ (by omega)];omega
   have hw2:IntKind.i64.wrap ((M.number:Int)+(M.entries.length:Int) - (M.number:Int))=(M.entries.length:Int):=by rw [IntWalk.i64_in _ (by omega)];omega
   have hw3:IntKind.i64.wrap (M.entries.length:Int)=(M.entries.length:Int):=IntWalk.i64_in _ (by omega)
   have hd1:decide ((M.number:Int) < (n2:Int))=true:=decide_eq_true (by omega)
   have hd2:decide (M.number < n2)=true:=decide_eq_true hgt
   have hmx:m≤1099511627776:=by omega
   clear hk hm hpa hle hkn
   rw [hta] at Hta
   simp only [Option.getD_some,Option.isSome_some] at Hta
   generalize hM8:M.entries.length=n8 at *
   generalize hb:M.number=b at *
   go_enter Tryz.func92,Tryz.ntmps92
   go_wp2_with fail
   refine Hta.out.mono ?_
   rintro e w2 ⟨rfl,q,rfl⟩
   have HB2:=zh (Hbx.out.trans (⟨rfl,rfl,rfl,Nat.le_refl _,fun _ _=>rfl⟩:Below w1.heap.size (w1.alloc (.cells #[.int .i64 (n2:Int),.int .i64 t2,.slice pg gl cg] 82)) ((w1.alloc (.cells #[.int .i64 (n2:Int),.int .i64 t2,.slice pg gl cg] 82)).drewN q)))
   have Hl2:=zh (Hla.out _ HB2.out)
   go_wp2_with fail
   refine Hl2.out.mono ?_
   rintro e w3 ⟨rfl,q2,rfl⟩
   generalize hWQ:World.drewN (World.drewN _ _) _=WQ
   have HBq:=zh (show Below w1.heap.size w1 WQ from by rw [← hWQ];exact HB2.out.trans ⟨rfl,rfl,rfl,Nat.le_refl _,fun _ _=>rfl⟩)
   have hbx:WQ.heap[w1.heap.size]?=some (.cells #[.int .i64 (n2:Int),.int .i64 t2,.slice pg gl cg] 82 (0,0)):=by rw [← hWQ];exact Hbn.out
   have hjx:WQ.heap[j]?=some (RJC r (b:Int) M.term gv pre M.now M.vote dv (.slice p8 n8 c8) M.dead):=(HBq.out.block j hjl).trans Hc.out
   have HBd:=zh (show Below w1.heap.size w1 WQ.drew from HBq.out.trans ⟨rfl,rfl,rfl,Nat.le_refl _,fun _ _=>rfl⟩)
   clear hWQ
   go_wp2_with fail
   refine zAT (fun w':World=>w'.heap[w1.heap.size]?=some (.cells #[.int .i64 (n2:Int),.int .i64 t2,.slice pg gl cg] 82 (0,0))∧w'.heap[j]?=some (RJC r (b:Int) M.term gv pre M.now M.vote dv (.slice p8 n8 c8) M.dead)) (n:=17) (by kernel_rfl) rfl (⟨(hbx:WQ.drew.heap[w1.heap.size]?=_),(hjx:WQ.drew.heap[j]?=_)⟩) (fun hHeld=>?_)
   generalize WQ.drew=W1 at *
   refine otc 0 (v:=(.bool true)) rfl (fun W hSw=>by skip;go_simp;try with_reducible rfl) ?_
   simp only [Act.put,uA,uB,uC]
   refine otc 1 (v:=(.bool true)) rfl (fun W hSw=>by skip;go_simp;try with_reducible rfl) ?_
   simp only [Act.put,uA,uB,uC]
   refine otc 2 (v:=?v32x2) rfl ?y32x2 ?_
   case y32x2=>(intro w hSw;have p0:=zAA hSw.1 (i:=0) rfl;have p1:=zAA hSw.1 (i:=1) rfl;have p2:=zAA hSw.1 (i:=2) rfl;have q0:=zAA hSw.2 (i:=0) rfl;have q8:=zAA hSw.2 (i:=8) rfl;go_simp;try with_reducible rfl)
   simp only [Act.put,uA,uB,uC]
   refine otc 3 (v:=?v32x3) rfl ?y32x3 ?_
   case y32x3=>(intro w hSw;have p0:=zAA hSw.1 (i:=0) rfl;have p1:=zAA hSw.1 (i:=1) rfl;have p2:=zAA hSw.1 (i:=2) rfl;have q0:=zAA hSw.2 (i:=0) rfl;have q8:=zAA hSw.2 (i:=8) rfl;go_simp;try with_reducible rfl)
   simp only [Act.put,uA,uB,uC]
   refine otc 4 (v:=?v32x4) rfl ?y32x4 ?_
   case y32x4=>(intro w hSw;have p0:=zAA hSw.1 (i:=0) rfl;have p1:=zAA hSw.1 (i:=1) rfl;have p2:=zAA hSw.1 (i:=2) rfl;have q0:=zAA hSw.2 (i:=0) rfl;have q8:=zAA hSw.2 (i:=8) rfl;go_simp;try with_reducible rfl)
   simp only [Act.put,uA,uB,uC]
   refine otc 5 (v:=(.bool true)) rfl (fun W hSw=>by skip;go_simp;try with_reducible rfl) ?_
   simp only [Act.put,uA,uB,uC]
   refine otc 6 (v:=(.bool true)) rfl (fun W hSw=>by skip;go_simp;try with_reducible rfl) ?_
   simp only [Act.put,uA,uB,uC]
   refine otc 7 (v:=(.bool true)) rfl (fun W hSw=>by skip;go_simp;try with_reducible rfl) ?_
   simp only [Act.put,uA,uB,uC]
   refine otc 8 (v:=?v32x8) rfl ?y32x8 ?_
   case y32x8=>(intro w hSw;have p0:=zAA hSw.1 (i:=0) rfl;have p1:=zAA hSw.1 (i:=1) rfl;have p2:=zAA hSw.1 (i:=2) rfl;have q0:=zAA hSw.2 (i:=0) rfl;have q8:=zAA hSw.2 (i:=8) rfl;go_simp;try with_reducible rfl)
   simp only [Act.put,uA,uB,uC]
   refine otc 9 (v:=?v32x9) rfl ?y32x9 ?_
   case y32x9=>(intro w hSw;have p0:=zAA hSw.1 (i:=0) rfl;have p1:=zAA hSw.1 (i:=1) rfl;have p2:=zAA hSw.1 (i:=2) rfl;have q0:=zAA hSw.2 (i:=0) rfl;have q8:=zAA hSw.2 (i:=8) rfl;go_simp;try with_reducible rfl)
   simp only [Act.put,uA,uB,uC]
   refine otc 10 (v:=?v32x10) rfl ?y32x10 ?_
   case y32x10=>(intro w hSw;have p0:=zAA hSw.1 (i:=0) rfl;have p1:=zAA hSw.1 (i:=1) rfl;have p2:=zAA hSw.1 (i:=2) rfl;have q0:=zAA hSw.2 (i:=0) rfl;have q8:=zAA hSw.2 (i:=8) rfl;go_simp;try with_reducible rfl)
   simp only [Act.put,uA,uB,uC]
   refine otc 11 (v:=?v32x11) rfl ?y32x11 ?_
   case y32x11=>(intro w hSw;have p0:=zAA hSw.1 (i:=0) rfl;have p1:=zAA hSw.1 (i:=1) rfl;have p2:=zAA hSw.1 (i:=2) rfl;have q0:=zAA hSw.2 (i:=0) rfl;have q8:=zAA hSw.2 (i:=8) rfl;go_simp;try with_reducible rfl)
   simp only [Act.put,uA,uB,uC]
   refine otc 12 (v:=?v32x12) rfl ?y32x12 ?_
   case y32x12=>(intro w hSw;have p0:=zAA hSw.1 (i:=0) rfl;have p1:=zAA hSw.1 (i:=1) rfl;have p2:=zAA hSw.1 (i:=2) rfl;have q0:=zAA hSw.2 (i:=0) rfl;have q8:=zAA hSw.2 (i:=8) rfl;go_simp;try with_reducible rfl)
   simp only [Act.put,uA,uB,uC]
   refine otc 13 (v:=?v32x13) rfl ?y32x13 ?_
   case y32x13=>(intro w hSw;have p0:=zAA hSw.1 (i:=0) rfl;have p1:=zAA hSw.1 (i:=1) rfl;have p2:=zAA hSw.1 (i:=2) rfl;have q0:=zAA hSw.2 (i:=0) rfl;have q8:=zAA hSw.2 (i:=8) rfl;go_simp;try with_reducible rfl)
   simp only [Act.put,uA,uB,uC]
   refine otc 14 (v:=?v32x14) rfl ?y32x14 ?_
   case y32x14=>(intro w hSw;have p0:=zAA hSw.1 (i:=0) rfl;have p1:=zAA hSw.1 (i:=1) rfl;have p2:=zAA hSw.1 (i:=2) rfl;have q0:=zAA hSw.2 (i:=0) rfl;have q8:=zAA hSw.2 (i:=8) rfl;go_simp;try with_reducible rfl)
   simp only [Act.put,uA,uB,uC]
   refine otc 15 (v:=(.bool true)) rfl (fun W hSw=>by skip;go_simp;try with_reducible rfl) ?_
   simp only [Act.put,uA,uB,uC]
   refine otc 16 (v:=(.bool true)) rfl (fun W hSw=>by skip;go_simp;try with_reducible rfl) ?_
   simp only [Act.put,uA,uB,uC]
   refine wpAnyH_done (by kernel_rfl) ?_ _
   have Hents:=zh (show ∀ W,Below W1.drew.heap.size W1.drew W→zAL W 4 (.slice pa m (c8 - k)) m (zA1 (M.entries.drop k) (vs.drop k)) from fun W hbW=>zAL.chg Hents0.out (Chg.of_below ((HBd.out.trans ((⟨rfl,rfl,rfl,Nat.le_refl _,fun _ _=>rfl⟩:Below W1.heap.size W1 W1.drew).mono HBd.out.size)).trans (hbW.mono HBd.out.size))) fun _ _=>id)
   have HBe:=zh (show Below w1.heap.size w1 W1.drew from HBd.out.trans ((⟨rfl,rfl,rfl,Nat.le_refl _,fun _ _=>rfl⟩:Below W1.heap.size W1 W1.drew).mono HBd.out.size))
   clear hbx hjx
   go_wp2_with fail
   refine zDm [25] (fun w':World=>w'.heap[w1.heap.size]?=some (.cells #[.int .i64 (n2:Int),.int .i64 t2,.slice pg gl cg] 82 (0,0))∧w'.heap[j]?=some (RJC r (b:Int) M.term gv pre M.now M.vote dv (.slice p8 n8 c8) M.dead)) (n:=26) (by kernel_rfl) rfl (⟨(hHeld.1:W1.drew.heap[w1.heap.size]?=_),(hHeld.2:W1.drew.heap[j]?=_)⟩) (fun hHeld=>?_)
   generalize W1.drew=W4 at *
   refine zBG 0 (v:=?v4x0) rfl (by kernel_rfl) (by kernel_rfl) (by kernel_rfl) (by kernel_rfl) (fun _ _ _ h=>h) (by rfl) (by assumption) ?y4x0 ?_
   case y4x0=>(intro w hSw;have p0:=zAA hSw.1 (i:=0) rfl;have p1:=zAA hSw.1 (i:=1) rfl;have p2:=zAA hSw.1 (i:=2) rfl;have q0:=zAA hSw.2 (i:=0) rfl;have q8:=zAA hSw.2 (i:=8) rfl;go_simp;try with_reducible rfl)
   simp only [Act.put,uA,uB,uC]
   refine zBG 2 (v:=?v4x2) rfl (by kernel_rfl) (by kernel_rfl) (by kernel_rfl) (by kernel_rfl) (fun _ _ _ h=>h) (by rfl) (by assumption) ?y4x2 ?_
   case y4x2=>(intro w hSw;have p0:=zAA hSw.1 (i:=0) rfl;have p1:=zAA hSw.1 (i:=1) rfl;have p2:=zAA hSw.1 (i:=2) rfl;have q0:=zAA hSw.2 (i:=0) rfl;have q8:=zAA hSw.2 (i:=8) rfl;go_simp;try with_reducible rfl)
   simp only [Act.put,uA,uB,uC]
   refine zBG 3 (v:=?v4x3) rfl (by kernel_rfl) (by kernel_rfl) (by kernel_rfl) (by kernel_rfl) (fun _ _ _ h=>h) (by rfl) (by assumption) ?y4x3 ?_
   case y4x3=>(intro w hSw;have p0:=zAA hSw.1 (i:=0) rfl;have p1:=zAA hSw.1 (i:=1) rfl;have p2:=zAA hSw.1 (i:=2) rfl;have q0:=zAA hSw.2 (i:=0) rfl;have q8:=zAA hSw.2 (i:=8) rfl;go_simp;try with_reducible rfl)
   simp only [Act.put,uA,uB,uC]
   refine zBG 4 (v:=?v4x4) rfl (by kernel_rfl) (by kernel_rfl) (by kernel_rfl) (by kernel_rfl) (fun _ _ _ h=>h) (by rfl) (by assumption) ?y4x4 ?_
   case y4x4=>(intro w hSw;have p0:=zAA hSw.1 (i:=0) rfl;have p1:=zAA hSw.1 (i:=1) rfl;have p2:=zAA hSw.1 (i:=2) rfl;have q0:=zAA hSw.2 (i:=0) rfl;have q8:=zAA hSw.2 (i:=8) rfl;go_simp;try with_reducible rfl)
   simp only [Act.put,uA,uB,uC]
   refine zBG 5 (v:=?v4x5) rfl (by kernel_rfl) (by kernel_rfl) (by kernel_rfl) (by kernel_rfl) (fun _ _ _ h=>h) (by rfl) (by assumption) ?y4x5 ?_
   case y4x5=>(intro w hSw;have p0:=zAA hSw.1 (i:=0) rfl;have p1:=zAA hSw.1 (i:=1) rfl;have p2:=zAA hSw.1 (i:=2) rfl;have q0:=zAA hSw.2 (i:=0) rfl;have q8:=zAA hSw.2 (i:=8) rfl;go_simp;try with_reducible rfl)
   simp only [Act.put,uA,uB,uC]
   refine zBG 6 (v:=?v4x6) rfl (by kernel_rfl) (by kernel_rfl) (by kernel_rfl) (by kernel_rfl) (fun _ _ _ h=>h) (by rfl) (by assumption) ?y4x6 ?_
   case y4x6=>(intro w hSw;have p0:=zAA hSw.1 (i:=0) rfl;have p1:=zAA hSw.1 (i:=1) rfl;have p2:=zAA hSw.1 (i:=2) rfl;have q0:=zAA hSw.2 (i:=0) rfl;have q8:=zAA hSw.2 (i:=8) rfl;go_simp;try with_reducible rfl)
   simp only [Act.put,uA,uB,uC]
   refine zBG 7 (v:=?v4x7) rfl (by kernel_rfl) (by kernel_rfl) (by kernel_rfl) (by kernel_rfl) (fun _ _ _ h=>h) (by rfl) (by assumption) ?y4x7 ?_
   case y4x7=>(intro w hSw;have p0:=zAA hSw.1 (i:=0) rfl;have p1:=zAA hSw.1 (i:=1) rfl;have p2:=zAA hSw.1 (i:=2) rfl;have q0:=zAA hSw.2 (i:=0) rfl;have q8:=zAA hSw.2 (i:=8) rfl;go_simp;try with_reducible rfl)
   simp only [Act.put,uA,uB,uC]
   refine zBG 8 (v:=?v4x8) rfl (by kernel_rfl) (by kernel_rfl) (by kernel_rfl) (by kernel_rfl) (fun _ _ _ h=>h) (by rfl) (by assumption) ?y4x8 ?_
   case y4x8=>(intro w hSw;have p0:=zAA hSw.1 (i:=0) rfl;have p1:=zAA hSw.1 (i:=1) rfl;have p2:=zAA hSw.1 (i:=2) rfl;have q0:=zAA hSw.2 (i:=0) rfl;have q8:=zAA hSw.2 (i:=8) rfl;go_simp;try with_reducible rfl)
   simp only [Act.put,uA,uB,uC]
   refine zBG 9 (v:=?v4x9) rfl (by kernel_rfl) (by kernel_rfl) (by kernel_rfl) (by kernel_rfl) (fun _ _ _ h=>h) (by rfl) (by assumption) ?y4x9 ?_
   case y4x9=>(intro w hSw;have p0:=zAA hSw.1 (i:=0) rfl;have p1:=zAA hSw.1 (i:=1) rfl;have p2:=zAA hSw.1 (i:=2) rfl;have q0:=zAA hSw.2 (i:=0) rfl;have q8:=zAA hSw.2 (i:=8) rfl;go_simp;try with_reducible rfl)
   simp only [Act.put,uA,uB,uC]
   refine zBG 10 (v:=?v4x10) rfl (by kernel_rfl) (by kernel_rfl) (by kernel_rfl) (by kernel_rfl) (fun _ _ _ h=>h) (by rfl) (by assumption) ?y4x10 ?_
   case y4x10=>(intro w hSw;have p0:=zAA hSw.1 (i:=0) rfl;have p1:=zAA hSw.1 (i:=1) rfl;have p2:=zAA hSw.1 (i:=2) rfl;have q0:=zAA hSw.2 (i:=0) rfl;have q8:=zAA hSw.2 (i:=8) rfl;go_simp;try with_reducible rfl)
   simp only [Act.put,uA,uB,uC]
   refine zBG 11 (v:=?v4x11) rfl (by kernel_rfl) (by kernel_rfl) (by kernel_rfl) (by kernel_rfl) (fun _ _ _ h=>h) (by rfl) (by assumption) ?y4x11 ?_
   case y4x11=>(intro w hSw;have p0:=zAA hSw.1 (i:=0) rfl;have p1:=zAA hSw.1 (i:=1) rfl;have p2:=zAA hSw.1 (i:=2) rfl;have q0:=zAA hSw.2 (i:=0) rfl;have q8:=zAA hSw.2 (i:=8) rfl;go_simp;try with_reducible rfl)
   simp only [Act.put,uA,uB,uC]
   refine zBG 12 (v:=?v4x12) rfl (by kernel_rfl) (by kernel_rfl) (by kernel_rfl) (by kernel_rfl) (fun _ _ _ h=>h) (by rfl) (by assumption) ?y4x12 ?_
   case y4x12=>(intro w hSw;have p0:=zAA hSw.1 (i:=0) rfl;have p1:=zAA hSw.1 (i:=1) rfl;have p2:=zAA hSw.1 (i:=2) rfl;have q0:=zAA hSw.2 (i:=0) rfl;have q8:=zAA hSw.2 (i:=8) rfl;go_simp;try with_reducible rfl)
   simp only [Act.put,uA,uB,uC]
   refine zBG 13 (v:=?v4x13) rfl (by kernel_rfl) (by kernel_rfl) (by kernel_rfl) (by kernel_rfl) (fun _ _ _ h=>h) (by rfl) (by assumption) ?y4x13 ?_
   case y4x13=>(intro w hSw;have p0:=zAA hSw.1 (i:=0) rfl;have p1:=zAA hSw.1 (i:=1) rfl;have p2:=zAA hSw.1 (i:=2) rfl;have q0:=zAA hSw.2 (i:=0) rfl;have q8:=zAA hSw.2 (i:=8) rfl;go_simp;try with_reducible rfl)
   simp only [Act.put,uA,uB,uC]
   refine zBG 14 (v:=?v4x14) rfl (by kernel_rfl) (by kernel_rfl) (by kernel_rfl) (by kernel_rfl) (fun _ _ _ h=>h) (by rfl) (by assumption) ?y4x14 ?_
   case y4x14=>(intro w hSw;have p0:=zAA hSw.1 (i:=0) rfl;have p1:=zAA hSw.1 (i:=1) rfl;have p2:=zAA hSw.1 (i:=2) rfl;have q0:=zAA hSw.2 (i:=0) rfl;have q8:=zAA hSw.2 (i:=8) rfl;go_simp;try with_reducible rfl)
   simp only [Act.put,uA,uB,uC]
   refine zBG 15 (v:=?v4x15) rfl (by kernel_rfl) (by kernel_rfl) (by kernel_rfl) (by kernel_rfl) (fun _ _ _ h=>h) (by rfl) (by assumption) ?y4x15 ?_
   case y4x15=>(intro w hSw;have p0:=zAA hSw.1 (i:=0) rfl;have p1:=zAA hSw.1 (i:=1) rfl;have p2:=zAA hSw.1 (i:=2) rfl;have q0:=zAA hSw.2 (i:=0) rfl;have q8:=zAA hSw.2 (i:=8) rfl;go_simp;try with_reducible rfl)
   simp only [Act.put,uA,uB,uC]
   refine zBG 16 (v:=?v4x16) rfl (by kernel_rfl) (by kernel_rfl) (by kernel_rfl) (by kernel_rfl) (fun _ _ _ h=>h) (by rfl) (by assumption) ?y4x16 ?_
   case y4x16=>(intro w hSw;have p0:=zAA hSw.1 (i:=0) rfl;have p1:=zAA hSw.1 (i:=1) rfl;have p2:=zAA hSw.1 (i:=2) rfl;have q0:=zAA hSw.2 (i:=0) rfl;have q8:=zAA hSw.2 (i:=8) rfl;go_simp;try with_reducible rfl)
   simp only [Act.put,uA,uB,uC]
   refine zBG 17 (v:=?v4x17) rfl (by kernel_rfl) (by kernel_rfl) (by kernel_rfl) (by kernel_rfl) (fun _ _ _ h=>h) (by rfl) (by assumption) ?y4x17 ?_
   case y4x17=>(intro w hSw;have p0:=zAA hSw.1 (i:=0) rfl;have p1:=zAA hSw.1 (i:=1) rfl;have p2:=zAA hSw.1 (i:=2) rfl;have q0:=zAA hSw.2 (i:=0) rfl;have q8:=zAA hSw.2 (i:=8) rfl;go_simp;try with_reducible rfl)
   simp only [Act.put,uA,uB,uC]
   refine zBG 18 (v:=?v4x18) rfl (by kernel_rfl) (by kernel_rfl) (by kernel_rfl) (by kernel_rfl) (fun _ _ _ h=>h) (by rfl) (by assumption) ?y4x18 ?_
   case y4x18=>(intro w hSw;have p0:=zAA hSw.1 (i:=0) rfl;have p1:=zAA hSw.1 (i:=1) rfl;have p2:=zAA hSw.1 (i:=2) rfl;have q0:=zAA hSw.2 (i:=0) rfl;have q8:=zAA hSw.2 (i:=8) rfl;go_simp;try with_reducible rfl)
   simp only [Act.put,uA,uB,uC]
   refine zBG 19 (v:=?v4x19) rfl (by kernel_rfl) (by kernel_rfl) (by kernel_rfl) (by kernel_rfl) (fun _ _ _ h=>h) (by rfl) (by assumption) ?y4x19 ?_
   case y4x19=>(intro w hSw;have p0:=zAA hSw.1 (i:=0) rfl;have p1:=zAA hSw.1 (i:=1) rfl;have p2:=zAA hSw.1 (i:=2) rfl;have q0:=zAA hSw.2 (i:=0) rfl;have q8:=zAA hSw.2 (i:=8) rfl;go_simp;try with_reducible rfl)
   simp only [Act.put,uA,uB,uC]
   refine zBG 20 (v:=?v4x20) rfl (by kernel_rfl) (by kernel_rfl) (by kernel_rfl) (by kernel_rfl) (fun _ _ _ h=>h) (by rfl) (by assumption) ?y4x20 ?_
   case y4x20=>(intro w hSw;have p0:=zAA hSw.1 (i:=0) rfl;have p1:=zAA hSw.1 (i:=1) rfl;have p2:=zAA hSw.1 (i:=2) rfl;have q0:=zAA hSw.2 (i:=0) rfl;have q8:=zAA hSw.2 (i:=8) rfl;go_simp;try with_reducible rfl)
   simp only [Act.put,uA,uB,uC]
   refine zBG 21 (v:=.slice pa m (c8 - k)) rfl (by kernel_rfl) (by kernel_rfl) (by kernel_rfl) (by kernel_rfl) (fun _ _ _ h=>h) (by rfl) (by assumption) (fun W hSw=>by have hup:=Hup.out W;go_simp;try with_reducible rfl) ?_
   simp only [Act.put,uA,uB,uC]
   refine zEg 1 rfl (by kernel_rfl) (by rfl) (fun K hK=>?_)
   have HBW:=zh (zAD W4 (.cells #[] 50))
   have Hh1:=zh (And.intro ((HBW.out.block w1.heap.size (zAC hHeld.1)).trans hHeld.1) ((HBW.out.block j (zAC hHeld.2)).trans hHeld.2))
   have HeldX:=zh hHeld
   go_wp2_with fail
   refine hK.out _ _ (Hh1.out) (fun hHeld=>?_)
   clear hK
   try simp only [Act.put,uA,uB,uC]
   refine zEg 22 rfl (by kernel_rfl) (by rfl) (fun K hK=>?_)
   have Hal:=zh (zA5 W4 50 4)
   have Hxx:=zh (Hents.out _ HBW.out)
   refine zAj (.tmp 38) (.tmp 58) 78 rfl 50 i4 (.agg #[.int .i64 0,.int .i64 0,.slice none 0 0,.slice none 0 0]) 4 64 Tryz.underlying78 hi4 hz40 hz41 hz42 rfl (by decide) (.slice (some ⟨W4.heap.size,0,none⟩) 0 0) 0 [] rfl Hal.out (.slice pa m (c8 - k)) m _ rfl Hxx.out Hone.out (by unfold maxLen;omega) (by omega) ?_
   intro v7 w7 hown hgrow hloc
   have HN4:=zh (copy_newE hown hgrow hloc)
   have Hh7:=zh (And.intro ((HN4.out.2.2.block w1.heap.size (zAC HeldX.out.1)).trans HeldX.out.1) ((HN4.out.2.2.block j (zAC HeldX.out.2)).trans HeldX.out.2))
   clear hown hgrow hloc Hal Hxx
   obtain ⟨p7,c7,rfl⟩:=OwnR.shape HN4.out.1
   go_wp2_with fail
   refine hK.out _ _ (Hh7.out) (fun hHeld=>?_)
   clear hK
   try simp only [Act.put,uA,uB,uC]
   refine gpu 23 (v:=?v4x23) rfl ?_
   simp only [Act.put,uA,uB,uC]
   refine gpu 24 (v:=?v4x24) rfl ?_
   simp only [Act.put,uA,uB,uC]
   refine g_end 25 rfl (by kernel_rfl) (by rfl) (by kernel_rfl) (fun K hK=>?_)
   have s88:=zAA Hh7.out.2 (i:=8) rfl
   have f8:=zAF Hh7.out.2 8
   go_wp2_with fail
   refine hK.out _ _ ?_
   clear hK
   try simp only [Act.put,uA,uB,uC]
   refine g_done (by kernel_rfl) ?_ _
   go_wp2_with fail
   have HB7:=zh (HBe.out.trans (HN4.out.2.2.mono HBe.out.size))
   have HS:=zh (Hdr.out w7 HB7.out p7 c7 (by rw [hes];exact HN4.out.1) fun y hy=>Nat.le_trans HBe.out.size (HN4.out.2.1 y hy))
   have hHeld3:=Hh7.out
   have HbS:=zh ((set_other (w:=w7) (a:=⟨j,8,none⟩) (.slice p7 m c7) (show w1.heap.size≠j by omega)).trans hHeld3.1)
   have HjS:=zh (show (w7.setCell ⟨j,8,none⟩ (.slice p7 m c7)).heap[j]?=some (RJC r (b:Int) M.term gv pre M.now M.vote dv (.slice p7 m c7) M.dead) from by
    have h1:=zAE hHeld3.2 8 (.slice p7 m c7)
    simpa using h1)
   have HgS:=zh (show zAL (w7.setCell ⟨j,8,none⟩ (.slice p7 m c7)) 1 (.slice pg gl cg) gl (g2.map (Value.int .i64)) from zAL.chg (zAL.chg Hg.out (Chg.of_below HB7.out) fun _ _=>id) (Chg.setCell w7 ⟨j,8,none⟩ _) fun k hk=>Hpg.out k hk)
   clear hHeld3
   generalize w7.setCell ⟨j,8,none⟩ (.slice p7 m c7)=wS at *
   have Hj6:=zh (show wS.drew.heap[j]?=some (RJC r (b:Int) M.term gv pre M.now M.vote dv (.slice p7 m c7) M.dead) from HjS.out)
   have HB6:=zh (⟨rfl,rfl,rfl,Nat.le_refl _,fun _ _=>rfl⟩:Below wS.heap.size wS wS.drew)
   have Hgr6:=zh (fun W (hb2:Below wS.drew.heap.size wS.drew W)=>zAL.chg (HgS.out) (Chg.of_below ((⟨rfl,rfl,rfl,Nat.le_refl _,fun _ _=>rfl⟩:Below wS.heap.size wS wS.drew).trans hb2)) fun _ _=>id)
   refine zAT (fun w':World=>w'.heap[w1.heap.size]?=some (.cells #[.int .i64 (n2:Int),.int .i64 t2,.slice pg gl cg] 82 (0,0))) (n:=13) (by kernel_rfl) rfl ((HbS.out:wS.drew.heap[w1.heap.size]?=_)) (fun hHeld=>?_)
   generalize wS.drew=W6 at *
   refine otc 0 (v:=?v62x0) rfl ?y62x0 ?_
   case y62x0=>(intro w hSw;have p0:=zAA hSw (i:=0) rfl;have p1:=zAA hSw (i:=1) rfl;have p2:=zAA hSw (i:=2) rfl;go_simp;try with_reducible rfl)
   simp only [Act.put,uA,uB,uC]
   refine otc 1 (v:=?v62x1) rfl ?y62x1 ?_
   case y62x1=>(intro w hSw;have p0:=zAA hSw (i:=0) rfl;have p1:=zAA hSw (i:=1) rfl;have p2:=zAA hSw (i:=2) rfl;go_simp;try with_reducible rfl)
   simp only [Act.put,uA,uB,uC]
   refine otc 2 (v:=?v62x2) rfl ?y62x2 ?_
   case y62x2=>(intro w hSw;have p0:=zAA hSw (i:=0) rfl;have p1:=zAA hSw (i:=1) rfl;have p2:=zAA hSw (i:=2) rfl;go_simp;try with_reducible rfl)
   simp only [Act.put,uA,uB,uC]
   refine otc 3 (v:=?v62x3) rfl ?y62x3 ?_
   case y62x3=>(intro w hSw;have p0:=zAA hSw (i:=0) rfl;have p1:=zAA hSw (i:=1) rfl;have p2:=zAA hSw (i:=2) rfl;go_simp;try with_reducible rfl)
   simp only [Act.put,uA,uB,uC]
   refine otc 4 (v:=?v62x4) rfl ?y62x4 ?_
   case y62x4=>(intro w hSw;have p0:=zAA hSw (i:=0) rfl;have p1:=zAA hSw (i:=1) rfl;have p2:=zAA hSw (i:=2) rfl;go_simp;try with_reducible rfl)
   simp only [Act.put,uA,uB,uC]
   refine otc 6 (v:=?v62x6) rfl ?y62x6 ?_
   case y62x6=>(intro w hSw;have p0:=zAA hSw (i:=0) rfl;have p1:=zAA hSw (i:=1) rfl;have p2:=zAA hSw (i:=2) rfl;go_simp;try with_reducible rfl)
   simp only [Act.put,uA,uB,uC]
   refine otc 7 (v:=?v62x7) rfl ?y62x7 ?_
   case y62x7=>(intro w hSw;have p0:=zAA hSw (i:=0) rfl;have p1:=zAA hSw (i:=1) rfl;have p2:=zAA hSw (i:=2) rfl;go_simp;try with_reducible rfl)
   simp only [Act.put,uA,uB,uC]
   refine zAG 5 rfl (by kernel_rfl) (by rfl) (fun K hK=>?_)
   have HBW:=zh (zAD W6 (.cells #[] 3))
   have Hh1:=zh ((HBW.out.block w1.heap.size (zAC hHeld)).trans hHeld)
   have HeldX:=zh hHeld
   go_wp2_with fail
   refine hK.out _ _ (Hh1.out) (fun hHeld=>?_)
   clear hK
   try simp only [Act.put,uA,uB,uC]
   refine zAG 8 rfl (by kernel_rfl) (by rfl) (fun K hK=>?_)
   have Hal:=zh (zAz W6 3)
   have Hno:=zh (Hgr6.out _ HBW.out)
   refine zAj (.tmp 70) (.tmp 72) 38 rfl 3 i0 (.int .i64 0) 1 8 Tryz.underlying38 hi hz0 hz1 hz2 rfl (by decide) (.slice (some ⟨W6.heap.size,0,none⟩) 0 0) 0 [] rfl Hal.out (.slice pg gl cg) gl _ rfl Hno.out (fun u hu=>by obtain ⟨z,-,rfl⟩:=List.mem_map.1 hu;rfl) (by unfold maxLen;omega) (by omega) ?_
   intro v9 w9 hown9 hgrow9 hloc9
   have HN:=zh (zDk hown9 hgrow9 hloc9)
   have Hh9:=zh ((HN.out.2.2.block w1.heap.size (zAC HeldX.out)).trans HeldX.out)
   clear hown9 hgrow9 hloc9 Hal Hno
   obtain ⟨p9,c9,rfl⟩:=OwnR.shape HN.out.1
   refine hK.out _ _ (Hh9.out) (fun hHeld=>?_)
   clear hK
   try simp only [Act.put,uA,uB,uC]
   refine otk 9 (v:=?v62x9) rfl ?_
   simp only [Act.put,uA,uB,uC]
   refine otk 10 (v:=?v62x10) rfl ?_
   simp only [Act.put,uA,uB,uC]
   refine otk 11 (v:=?v62x11) rfl ?_
   simp only [Act.put,uA,uB,uC]
   refine zAG 12 rfl (by kernel_rfl) (by rfl) (fun K hK=>?_)
   have Hj9:=zh ((HN.out.2.2.block j (zAC Hj6.out)).trans Hj6.out)
   have s0:=zAA Hj9.out (i:=0) rfl
   have s1:=zAA Hj9.out (i:=1) rfl
   have s2:=zAA Hj9.out (i:=2) rfl
   have f0:=zAF Hj9.out 0
   have f1:=zAF Hj9.out 1
   have f2:=zAF Hj9.out 2
   have Hbb:=zh ((set_other (w:=(w9.setCell ⟨j,0,none⟩ (.int .i64 (n2:Int))).setCell ⟨j,1,none⟩ (.int .i64 t2)) (a:=⟨j,2,none⟩) (.slice p9 gl c9) (show w1.heap.size≠j by omega)).trans ((set_other (w:=w9.setCell ⟨j,0,none⟩ (.int .i64 (n2:Int))) (a:=⟨j,1,none⟩) (.int .i64 t2) (show w1.heap.size≠j by omega)).trans ((set_other (w:=w9) (a:=⟨j,0,none⟩) (.int .i64 (n2:Int)) (show w1.heap.size≠j by omega)).trans hHeld)))
   go_wp2_with fail
   refine hK.out _ _ (Hbb.out) (fun hHeld=>?_)
   clear hK
   try simp only [Act.put,uA,uB,uC]
   refine wpAnyH_done (by kernel_rfl) ?_ _
   have HE:=zh (HS.out.trans fun Hot1 Cold1 hF=>rj_base hF (HB6.out.trans (HN.out.2.2.mono HB6.out.size)) (show HasI w9 (.slice p9 gl c9) g2 from by unfold HasI;rw [Hgl.out];exact OwnR.holds HN.out.1) (fun k hk=>⟨Nat.le_trans HB6.out.size (HN.out.2.1 k hk),OwnR.lt HN.out.1 hk⟩) Hro.out)
   go_wp2_with fail
   go_end0
   first
    | exact ⟨rfl,HE.out⟩
    | (have h9:=HE.out;rw [hes] at h9;exact ⟨rfl,h9⟩)
  ·have hteq:((t:Int) == t2)=false:=by simpa using htt
   rw [if_neg (fun e=>by rw [hta] at e;exact htt (Option.some.inj e.2))] at hes
   subst hes
   rw [hta] at Hta
   simp only [Option.getD_some,Option.isSome_some] at Hta
   generalize hM8:M.entries.length=n8 at *
   generalize hb:M.number=b at *
   go_enter Tryz.func92,Tryz.ntmps92
   go_wp2_with fail
   refine Hta.out.mono ?_
   rintro e w2 ⟨rfl,q,rfl⟩
   have HB2:=zh (Hbx.out.trans (⟨rfl,rfl,rfl,Nat.le_refl _,fun _ _=>rfl⟩:Below w1.heap.size (w1.alloc (.cells #[.int .i64 (n2:Int),.int .i64 t2,.slice pg gl cg] 82)) ((w1.alloc (.cells #[.int .i64 (n2:Int),.int .i64 t2,.slice pg gl cg] 82)).drewN q)))
   have Hl2:=zh (Hla.out _ HB2.out)
   go_wp2_with fail
   refine Hl2.out.mono ?_
   rintro e w3 ⟨rfl,q2,rfl⟩
   generalize hWQ:World.drewN (World.drewN _ _) _=WQ
   have HBq:=zh (show Below w1.heap.size w1 WQ from by rw [← hWQ];exact HB2.out.trans ⟨rfl,rfl,rfl,Nat.le_refl _,fun _ _=>rfl⟩)
   have hbx:WQ.heap[w1.heap.size]?=some (.cells #[.int .i64 (n2:Int),.int .i64 t2,.slice pg gl cg] 82 (0,0)):=by rw [← hWQ];exact Hbn.out
   have hjx:WQ.heap[j]?=some (RJC r (b:Int) M.term gv pre M.now M.vote dv (.slice p8 n8 c8) M.dead):=(HBq.out.block j hjl).trans Hc.out
   have HBd:=zh (show Below w1.heap.size w1 WQ.drew from HBq.out.trans ⟨rfl,rfl,rfl,Nat.le_refl _,fun _ _=>rfl⟩)
   clear hWQ
   go_wp2_with fail
   refine zAT (fun w':World=>w'.heap[w1.heap.size]?=some (.cells #[.int .i64 (n2:Int),.int .i64 t2,.slice pg gl cg] 82 (0,0))∧w'.heap[j]?=some (RJC r (b:Int) M.term gv pre M.now M.vote dv (.slice p8 n8 c8) M.dead)) (n:=17) (by kernel_rfl) rfl (⟨(hbx:WQ.drew.heap[w1.heap.size]?=_),(hjx:WQ.drew.heap[j]?=_)⟩) (fun hHeld=>?_)
   generalize WQ.drew=W1 at *
   refine otc 0 (v:=(.bool true)) rfl (fun W hSw=>by skip;go_simp;try with_reducible rfl) ?_
   simp only [Act.put,uA,uB,uC]
   refine otc 1 (v:=(.bool true)) rfl (fun W hSw=>by skip;go_simp;try with_reducible rfl) ?_
   simp only [Act.put,uA,uB,uC]
   refine otc 2 (v:=?v31x2) rfl ?y31x2 ?_
   case y31x2=>(intro w hSw;have p0:=zAA hSw.1 (i:=0) rfl;have p1:=zAA hSw.1 (i:=1) rfl;have p2:=zAA hSw.1 (i:=2) rfl;have q0:=zAA hSw.2 (i:=0) rfl;have q8:=zAA hSw.2 (i:=8) rfl;go_simp;try with_reducible rfl)
   simp only [Act.put,uA,uB,uC]
   refine otc 3 (v:=?v31x3) rfl ?y31x3 ?_
   case y31x3=>(intro w hSw;have p0:=zAA hSw.1 (i:=0) rfl;have p1:=zAA hSw.1 (i:=1) rfl;have p2:=zAA hSw.1 (i:=2) rfl;have q0:=zAA hSw.2 (i:=0) rfl;have q8:=zAA hSw.2 (i:=8) rfl;go_simp;try with_reducible rfl)
   simp only [Act.put,uA,uB,uC]
   refine otc 4 (v:=?v31x4) rfl ?y31x4 ?_
   case y31x4=>(intro w hSw;have p0:=zAA hSw.1 (i:=0) rfl;have p1:=zAA hSw.1 (i:=1) rfl;have p2:=zAA hSw.1 (i:=2) rfl;have q0:=zAA hSw.2 (i:=0) rfl;have q8:=zAA hSw.2 (i:=8) rfl;go_simp;try with_reducible rfl)
   simp only [Act.put,uA,uB,uC]
   refine otc 5 (v:=(.bool false)) rfl (fun W hSw=>by skip;go_simp;try with_reducible rfl) ?_
   simp only [Act.put,uA,uB,uC]
   refine otc 6 (v:=(.bool false)) rfl (fun W hSw=>by skip;go_simp;try with_reducible rfl) ?_
   simp only [Act.put,uA,uB,uC]
   refine otc 7 (v:=(.bool false)) rfl (fun W hSw=>by skip;go_simp;try with_reducible rfl) ?_
   simp only [Act.put,uA,uB,uC]
   refine osk 8 rfl ?_
   simp only [Act.put,uA,uB,uC]
   refine osk 9 rfl ?_
   simp only [Act.put,uA,uB,uC]
   refine osk 10 rfl ?_
   simp only [Act.put,uA,uB,uC]
   refine osk 11 rfl ?_
   simp only [Act.put,uA,uB,uC]
   refine osk 12 rfl ?_
   simp only [Act.put,uA,uB,uC]
   refine osk 13 rfl ?_
   simp only [Act.put,uA,uB,uC]
   refine osk 14 rfl ?_
   simp only [Act.put,uA,uB,uC]
   refine osk 15 rfl ?_
   simp only [Act.put,uA,uB,uC]
   refine otc 16 (v:=?v31x16) rfl ?y31x16 ?_
   case y31x16=>(intro w hSw;have p0:=zAA hSw.1 (i:=0) rfl;have p1:=zAA hSw.1 (i:=1) rfl;have p2:=zAA hSw.1 (i:=2) rfl;have q0:=zAA hSw.2 (i:=0) rfl;have q8:=zAA hSw.2 (i:=8) rfl;go_simp;try with_reducible rfl)
   simp only [Act.put,uA,uB,uC]
   refine wpAnyH_done (by kernel_rfl) ?_ _
   have hHeld3:=hHeld
   have c8w:=zAA hHeld.2 (i:=8) rfl
   have f8w:=zAF hHeld.2 8
   go_wp2_with fail
   have HS:=zh (Hnil.out W1 HBd.out)
   have HbS:=zh ((set_other (w:=W1) (a:=⟨j,8,none⟩) (.slice none 0 0) (show w1.heap.size≠j by omega)).trans hHeld3.1)
   have HjS:=zh (show (W1.setCell ⟨j,8,none⟩ (.slice none 0 0)).heap[j]?=some (RJC r (b:Int) M.term gv pre M.now M.vote dv (.slice none 0 0) M.dead) from by
    have h1:=zAE hHeld3.2 8 (.slice none 0 0)
    simpa using h1)
   have HgS:=zh (show zAL (W1.setCell ⟨j,8,none⟩ (.slice none 0 0)) 1 (.slice pg gl cg) gl (g2.map (Value.int .i64)) from zAL.chg (zAL.chg Hg.out (Chg.of_below HBd.out) fun _ _=>id) (Chg.setCell W1 ⟨j,8,none⟩ _) fun k hk=>Hpg.out k hk)
   clear c8w f8w hHeld3 hHeld
   generalize W1.setCell ⟨j,8,none⟩ (.slice none 0 0)=wS at *
   have Hj6:=zh (show wS.drew.heap[j]?=some (RJC r (b:Int) M.term gv pre M.now M.vote dv (.slice none 0 0) M.dead) from HjS.out)
   have HB6:=zh (⟨rfl,rfl,rfl,Nat.le_refl _,fun _ _=>rfl⟩:Below wS.heap.size wS wS.drew)
   have Hgr6:=zh (fun W (hb2:Below wS.drew.heap.size wS.drew W)=>zAL.chg (HgS.out) (Chg.of_below ((⟨rfl,rfl,rfl,Nat.le_refl _,fun _ _=>rfl⟩:Below wS.heap.size wS wS.drew).trans hb2)) fun _ _=>id)
   refine zAT (fun w':World=>w'.heap[w1.heap.size]?=some (.cells #[.int .i64 (n2:Int),.int .i64 t2,.slice pg gl cg] 82 (0,0))) (n:=13) (by kernel_rfl) rfl ((HbS.out:wS.drew.heap[w1.heap.size]?=_)) (fun hHeld=>?_)
   generalize wS.drew=W6 at *
   refine otc 0 (v:=?v61x0) rfl ?y61x0 ?_
   case y61x0=>(intro w hSw;have p0:=zAA hSw (i:=0) rfl;have p1:=zAA hSw (i:=1) rfl;have p2:=zAA hSw (i:=2) rfl;go_simp;try with_reducible rfl)
   simp only [Act.put,uA,uB,uC]
   refine otc 1 (v:=?v61x1) rfl ?y61x1 ?_
   case y61x1=>(intro w hSw;have p0:=zAA hSw (i:=0) rfl;have p1:=zAA hSw (i:=1) rfl;have p2:=zAA hSw (i:=2) rfl;go_simp;try with_reducible rfl)
   simp only [Act.put,uA,uB,uC]
   refine otc 2 (v:=?v61x2) rfl ?y61x2 ?_
   case y61x2=>(intro w hSw;have p0:=zAA hSw (i:=0) rfl;have p1:=zAA hSw (i:=1) rfl;have p2:=zAA hSw (i:=2) rfl;go_simp;try with_reducible rfl)
   simp only [Act.put,uA,uB,uC]
   refine otc 3 (v:=?v61x3) rfl ?y61x3 ?_
   case y61x3=>(intro w hSw;have p0:=zAA hSw (i:=0) rfl;have p1:=zAA hSw (i:=1) rfl;have p2:=zAA hSw (i:=2) rfl;go_simp;try with_reducible rfl)
   simp only [Act.put,uA,uB,uC]
   refine otc 4 (v:=?v61x4) rfl ?y61x4 ?_
   case y61x4=>(intro w hSw;have p0:=zAA hSw (i:=0) rfl;have p1:=zAA hSw (i:=1) rfl;have p2:=zAA hSw (i:=2) rfl;go_simp;try with_reducible rfl)
   simp only [Act.put,uA,uB,uC]
   refine otc 6 (v:=?v61x6) rfl ?y61x6 ?_
   case y61x6=>(intro w hSw;have p0:=zAA hSw (i:=0) rfl;have p1:=zAA hSw (i:=1) rfl;have p2:=zAA hSw (i:=2) rfl;go_simp;try with_reducible rfl)
   simp only [Act.put,uA,uB,uC]
   refine otc 7 (v:=?v61x7) rfl ?y61x7 ?_
   case y61x7=>(intro w hSw;have p0:=zAA hSw (i:=0) rfl;have p1:=zAA hSw (i:=1) rfl;have p2:=zAA hSw (i:=2) rfl;go_simp;try with_reducible rfl)
   simp only [Act.put,uA,uB,uC]
   refine zAG 5 rfl (by kernel_rfl) (by rfl) (fun K hK=>?_)
   have HBW:=zh (zAD W6 (.cells #[] 3))
   have Hh1:=zh ((HBW.out.block w1.heap.size (zAC hHeld)).trans hHeld)
   have HeldX:=zh hHeld
   go_wp2_with fail
   refine hK.out _ _ (Hh1.out) (fun hHeld=>?_)
   clear hK
   try simp only [Act.put,uA,uB,uC]
   refine zAG 8 rfl (by kernel_rfl) (by rfl) (fun K hK=>?_)
   have Hal:=zh (zAz W6 3)
   have Hno:=zh (Hgr6.out _ HBW.out)
   refine zAj (.tmp 70) (.tmp 72) 38 rfl 3 i0 (.int .i64 0) 1 8 Tryz.underlying38 hi hz0 hz1 hz2 rfl (by decide) (.slice (some ⟨W6.heap.size,0,none⟩) 0 0) 0 [] rfl Hal.out (.slice pg gl cg) gl _ rfl Hno.out (fun u hu=>by obtain ⟨z,-,rfl⟩:=List.mem_map.1 hu;rfl) (by unfold maxLen;omega) (by omega) ?_
   intro v9 w9 hown9 hgrow9 hloc9
   have HN:=zh (zDk hown9 hgrow9 hloc9)
   have Hh9:=zh ((HN.out.2.2.block w1.heap.size (zAC HeldX.out)).trans HeldX.out)
   clear hown9 hgrow9 hloc9 Hal Hno
   obtain ⟨p9,c9,rfl⟩:=OwnR.shape HN.out.1
   refine hK.out _ _ (Hh9.out) (fun hHeld=>?_)
   clear hK
   try simp only [Act.put,uA,uB,uC]
   refine otk 9 (v:=?v61x9) rfl ?_
   simp only [Act.put,uA,uB,uC]
   refine otk 10 (v:=?v61x10) rfl ?_
   simp only [Act.put,uA,uB,uC]
   refine otk 11 (v:=?v61x11) rfl ?_
   simp only [Act.put,uA,uB,uC]
   refine zAG 12 rfl (by kernel_rfl) (by rfl) (fun K hK=>?_)
   have Hj9:=zh ((HN.out.2.2.block j (zAC Hj6.out)).trans Hj6.out)
   have s0:=zAA Hj9.out (i:=0) rfl
   have s1:=zAA Hj9.out (i:=1) rfl
   have s2:=zAA Hj9.out (i:=2) rfl
   have f0:=zAF Hj9.out 0
   have f1:=zAF Hj9.out 1
   have f2:=zAF Hj9.out 2
   have Hbb:=zh ((set_other (w:=(w9.setCell ⟨j,0,none⟩ (.int .i64 (n2:Int))).setCell ⟨j,1,none⟩ (.int .i64 t2)) (a:=⟨j,2,none⟩) (.slice p9 gl c9) (show w1.heap.size≠j by omega)).trans ((set_other (w:=w9.setCell ⟨j,0,none⟩ (.int .i64 (n2:Int))) (a:=⟨j,1,none⟩) (.int .i64 t2) (show w1.heap.size≠j by omega)).trans ((set_other (w:=w9) (a:=⟨j,0,none⟩) (.int .i64 (n2:Int)) (show w1.heap.size≠j by omega)).trans hHeld)))
   go_wp2_with fail
   refine hK.out _ _ (Hbb.out) (fun hHeld=>?_)
   clear hK
   try simp only [Act.put,uA,uB,uC]
   refine wpAnyH_done (by kernel_rfl) ?_ _
   have HE:=zh (HS.out.trans fun Hot1 Cold1 hF=>rj_base hF (HB6.out.trans (HN.out.2.2.mono HB6.out.size)) (show HasI w9 (.slice p9 gl c9) g2 from by unfold HasI;rw [Hgl.out];exact OwnR.holds HN.out.1) (fun k hk=>⟨Nat.le_trans HB6.out.size (HN.out.2.1 k hk),OwnR.lt HN.out.1 hk⟩) Hro.out)
   go_wp2_with fail
   go_end0
   first
    | exact ⟨rfl,HE.out⟩
    | (have h9:=HE.out;rw [hes] at h9;exact ⟨rfl,h9⟩)
end
theorem rscan_calls {w:World} {p:Option Addr} {n c:Nat} {b:Bs} (h:HasB w (.slice p n c) b) (hnc:n≤c) (hl:b.length≤1073741824) :
  Calls Tryz.prog 88 #[.slice p n c] w (Scanned w b):=by
 obtain ⟨i1,hi1,-,hs1,-⟩:=info_parts (show (Tryz.prog.info? 5).map (fun i=>(i.zero,i.size,i.bytes))=some (some (.int .u8 0),1,1) by kernel_rfl)
 obtain ⟨i0,hi,hz0,hz1,hz2⟩:=info_parts (show (Tryz.prog.info? 22).map (fun i=>(i.zero,i.size,i.bytes))=some (some (.slice none 0 0),1,24) by kernel_rfl)
 have hn:b.length=n:=by obtain ⟨_,_,e⟩:=h.slice;simp only [Value.slice.injEq] at e;exact e.2.1.symm
 have hn30:n≤1073741824:=by omega
 have H:=zh h
 have Hn:=zh hn
 have Hnc:=zh hnc
 clear h hn hnc hl
 go_enter Tryz.func88,Tryz.ntmps88
 go_wp2_with fail
 go_loopw [4,5] (ScanRel w b n) (fun _ y _=>n - (intOf y).toNat)
 case atStart=>exact ⟨0,_,[],[],Nat.zero_le _,rfl,rfl,Nat.zero_le _,zA7.nil _,⟨fun k hk=>(by cases hk),fun u hu=>(by simp at hu)⟩,Below.refl _ _,by simp,by simp⟩
 case round =>
  obtain ⟨k,v,vs,ls,hk,rfl,rfl,hlk,hrow,hnew,hb,hsc1,hsc2⟩:=hrel
  by_cases hlt:k < n
  ·obtain ⟨r0,hr0⟩:∃ r0,(Value.slice p n c).ownBlock≠some r0:=by
    cases (Value.slice p n c).ownBlock with
    | none=>exact ⟨0,by simp⟩
    | some g=>exact ⟨g+1,by simp⟩
   obtain ⟨p',c',hsl,hh,hc',-⟩:=run_tail (P:=Tryz.prog) Tryz.underlying22 hi1 hs1 (HasB.below H.out hb) Hnc.out r0 k hr0 (Nat.le_of_lt hlt)
   have Hd:=zh (rdec_calls hh hc' (by rw [List.length_drop,Hn.out];omega))
   have Hx:=zh (And.intro hrow (And.intro hnew (And.intro hb (And.intro hsc1 hsc2))))
   have hbl:(b.drop k).length=n - k:=by rw [List.length_drop,Hn.out]
   clear hh hc' hrow hnew hb hsc1 hsc2
   by_cases he:decE (b.drop k)=0
   ·have hL:=zDM he
    rw [hbl] at hL
    have Hgo:=zh (scan_go he)
    rw [List.drop_drop] at Hgo
    unfold zDG at Hd
    rw [he] at Hd
    generalize decL (b.drop k)=L at *
    generalize decB (b.drop k)=x at *
    clear he
    go_wp2_with fail
    refine Hd.out.mono ?_
    rintro e w2 ⟨v2,rfl,hv2,hn2,hb2⟩
    have hrow2:=Hx.out.1.below hb2
    have Hv2:=zh hv2
    have Hsep:=zh (show ∀ j,v2.ownBlock=some j→v.ownBlock≠some j from fun j hj e=>by have h1:=hn2 j hj;have h2:=OwnR.lt Hx.out.1.row e;omega)
    have Hn2:=zh (show ∀ j,v2.ownBlock=some j→w.heap.size≤j from fun j hj=>Nat.le_trans Hx.out.2.2.1.size (hn2 j hj))
    have Hb2:=zh hb2
    have Hr2:=zh hrow2
    obtain ⟨p2,c2,rfl,-⟩:=zAO hv2
    clear hv2 hn2 hb2 hrow2 Hd
    generalize hq:x.length=q at *
    have Hq:=zh hq
    generalize hm:ls.length=m at *
    have Hm:=zh hm
    clear hq hm
    have Hrow2:=zh (show OwnR w2 22 1 v m vs by have:=Hr2.out.row;rwa [Hm.out] at this)
    go_wp2_with (at_builtin;have hal:=Hrow2.out.keep (w':=w2.alloc (.cells #[.slice p2 q c2] 22)) (fun j hj=>(zAi w2 _).block j (OwnR.lt Hrow2.out hj));have hxx:=zC3 w2 (.slice p2 q c2) 22 (0,0);refine zAP _ rfl (.tmp 23) (.tmp 25) 108 rfl 22 i0 (.slice none 0 0) 1 24 Tryz.underlying108 hi hz0 hz1 hz2 rfl (by decide) v m _ rfl hal (.slice (some ⟨w2.heap.size,0,none⟩) 1 1) 1 _ rfl hxx (by simp [Value.oneCell']) (by unfold maxLen;omega) (by omega) ?_;clear hal hxx;intro v3 w3 hown3 hgrow3 hloc3;go_loud (have hE:=zA7.push (b:=x) (Hr2.out.below (zAi w2 (.cells #[.slice p2 q c2] 22))) (OwnR.keep Hv2.out fun j hj=>(zAi w2 _).block j (OwnR.lt Hv2.out hj)) Hsep.out (by rw [Hm.out];exact hown3) hgrow3 hloc3;have hN:=zDH.push (u:=.slice p2 q c2) Hx.out.2.1 Hn2.out hloc3 (by have h1:=Hx.out.2.2.1.size;have h2:=Hb2.out.size;have h3:=(zAi w2 (.cells #[.slice p2 q c2] 22)).size;omega);have hB:Below w.heap.size w w3:=by { have h1:=Hx.out.2.2.1.trans ((Hb2.out.trans ((zAi w2 (.cells #[.slice p2 q c2] 22)).mono Hb2.out.size)).mono Hx.out.2.2.1.size);exact ((Chg.of_below h1).trans (Chg.of_grown hgrow3) fun j hj e=>by have h5:=Hx.out.2.1.1 j e.symm;omega).below (Nat.le_refl _) fun _ _=>id };have HE:=zh (And.intro hE (And.intro hN hB));clear hE hN hB hgrow3 hloc3;obtain ⟨p3,q3,rfl⟩:=OwnR.shape hown3;clear hown3))
    go_roundw
    case rel=>exact ⟨k+L,_,_,ls ++ [x],by omega,by go_num,rfl,by rw [List.length_append,Hm.out];simp;omega,HE.out.1,HE.out.2.1,HE.out.2.2,by rw [Hx.out.2.2.2.1,Hgo.out];simp,by rw [Hx.out.2.2.2.2,Hgo.out];simp;omega⟩
    case measure=>simp [intOf];omega
   ·have Hst:=zh (zBa (.inr he))
    have hne:((decE (b.drop k):Int) != 0)=true:=by simp;omega
    unfold zDG at Hd
    generalize decE (b.drop k)=E at *
    generalize decL (b.drop k)=L at *
    go_wp2_with fail
    refine Hd.out.mono ?_
    rintro e w2 ⟨v2,rfl,-,-,hb2⟩
    have HE:=zh (show Scanned w b (.returned (.tuple #[v,.int .i64 (k:Int)])) w2 from ⟨v,vs,by rw [Hx.out.2.2.2.2,Hst.out];rfl,by rw [Hx.out.2.2.2.1,Hst.out,List.append_nil];exact Hx.out.1.below hb2,Hx.out.2.1,Hx.out.2.2.1.trans (hb2.mono Hx.out.2.2.1.size)⟩)
    clear hb2 Hd
    go_wp2_with fail
    go_ret2
    exact HE.out
  ·have he:b.drop k=[]:=List.drop_of_length_le (by rw [Hn.out];omega)
   rw [he,zBa (.inl rfl)] at hsc1 hsc2
   have HE:=zh (show Scanned w b (.returned (.tuple #[v,.int .i64 (k:Int)])) wr from ⟨v,vs,by rw [hsc2];rfl,by rw [hsc1,List.append_nil];exact hrow,hnew,hb⟩)
   clear hrow hnew hb hsc1 hsc2 he
   go_wp2_with fail
   go_ret2
   exact HE.out
end Go.Proofs.YtapfnehdgailmaaGreat
