/- The document's disk: Append. (Its walk is printed by mkr2.py.) The document's disk: Append onto a file that is not there. (Its walk is printed by mkr2.py.) The document's disk: Append, whole. -/
import Derived.Test.YtapfnehdgailmaaGreatGQ
set_option maxRecDepth 100000
set_option maxHeartbeats 64000000
namespace Go.Proofs.YtapfnehdgailmaaGreat
open Go.RowKit Go.Sat Go.Maps
section
variable {w:World} {r:Nat} {v:Value} {L:List zAN} {own:Nat→Prop} {D:zAB}
theorem zAY.fit (h:zAY w r v L own D):L.length≤4096:=by rw [h.len];exact h.ok.count
theorem rappend_full (h:zAY w r v L own D) (s:ByteArray) (hs:s.size≤9223372036854775807) {pb:Option Addr} {m cb:Nat} (hm2:m≤140737488355328) (hm:D.may [nm s]=0)
  (hf:D.room < D.used+m∨(Sat.get (nm s) D.files=none∧4096≤D.files.length)) :
  Calls Tryz.prog 16 #[.pointer (some ⟨r,0,none⟩),.string s,.slice pb m cb] w (zCL w r own (D,6)):=by
 have h1:zAY (w.alloc (.cells #[.string s] 9)) r v L own D:=h.below ((Below.refl _ _).alloc (Nat.le_refl _) _)
 have hmay:=zBs h1 (some ⟨w.heap.size,0,none⟩) [s] 1 (zBB w s) (by simp) (by simpa using hs)
 simp only [List.map_cons,List.map_nil] at hmay
 have hsp:=zBU h1 s
 rw [h.is] at hsp
 rw [hm] at hmay
 have Hf:=zh (fun W hb=>zBM h (w':=W) hb 6)
 have HU:=zh (fun W hb=>zEP (h.below (w':=W) hb))
 obtain ⟨pv,cv,rfl⟩:=h.slice
 have Hcells:=zh (show ∀ W,Below w.heap.size w W→W.cell? ⟨r,0,none⟩=some (.int .i64 (D.room:Int))∧W.cell? ⟨r,1,none⟩=some (.slice pv L.length cv) from fun W hb=>⟨(h.below hb).c0,(h.below hb).c1⟩)
 have hub:D.used≤1073741824:=Nat.le_trans h.ok.used h.ok.room
 have hrb:=h.ok.room
 have hfit:=h.fit
 rw [← h.len] at hf
 generalize zAo (nm s) (L.map zAN.n)=i at *
 clear h h1
 generalize D.used=U at *
 generalize D.room=R at *
 generalize L.length=N at *
 by_cases hA:R < U+m
 ·have hd1:decide ((R:Int) < (U:Int)+(m:Int))=true:=by simp;omega
  have hd2:decide (R < U+m)=true:=by simpa using hA
  clear hf hm
  have Hmay:=zh hmay
  have Hsp:=zh hsp
  clear hmay hsp
  go_enter Tryz.func16,Tryz.ntmps16
  go_wp2_with fail
  refine Hmay.out.mono ?_
  rintro e w2 ⟨rfl,rfl⟩
  go_wp2_with fail
  refine Hsp.out.mono ?_
  rintro e w3 ⟨rfl,q,rfl⟩
  have HbW:=zh (zAg w (.cells #[.string s] 9) q)
  have Hused:=zh (fun n=>HU.out _ (HbW.out.trans (show Below _ _ (((w.alloc (.cells #[.string s] 9)).drewN q).drewN n) from ⟨rfl,rfl,rfl,Nat.le_refl _,fun _ _=>rfl⟩)))
  obtain ⟨hc0,hc1⟩:=Hcells.out _ HbW.out
  generalize (w.alloc (.cells #[.string s] 9)).drewN q=W at *
  go_wp2_with fail
  go_quiet ((go_at_call 71;refine Calls.quiet_of_same (Hused.out _)))
  clear hc0 hc1
  go_wp2_with fail
  go_ret
  exact Hf.out _ (HbW.out.trans ⟨rfl,rfl,rfl,Nat.le_refl _,fun _ _=>rfl⟩)
 ·obtain ⟨hg,h4⟩:Sat.get (nm s) D.files=none∧4096≤N:=by
   rcases hf with hf | hf
   ·exact absurd hf hA
   ·exact hf
  rw [hg] at hsp
  have hN:N=4096:=by omega
  subst hN
  have hd1:decide ((R:Int) < (U:Int)+(m:Int))=false:=by simp;omega
  have hd2:decide (R < U+m)=false:=by simpa using hA
  clear hf hm hg
  have Hmay:=zh hmay
  have Hsp:=zh hsp
  clear hmay hsp
  go_enter Tryz.func16,Tryz.ntmps16
  go_wp2_with fail
  refine Hmay.out.mono ?_
  rintro e w2 ⟨rfl,rfl⟩
  go_wp2_with fail
  refine Hsp.out.mono ?_
  rintro e w3 ⟨rfl,q,rfl⟩
  have HbW:=zh (zAg w (.cells #[.string s] 9) q)
  have Hused:=zh (fun n=>HU.out _ (HbW.out.trans (show Below _ _ (((w.alloc (.cells #[.string s] 9)).drewN q).drewN n) from ⟨rfl,rfl,rfl,Nat.le_refl _,fun _ _=>rfl⟩)))
  obtain ⟨hc0,hc1⟩:=Hcells.out _ HbW.out
  generalize (w.alloc (.cells #[.string s] 9)).drewN q=W at *
  go_wp2_with fail
  go_quiet ((go_at_call 71;refine Calls.quiet_of_same (Hused.out _)))
  clear hc0 hc1
  go_wp2_with fail
  go_ret
  exact Hf.out _ (HbW.out.trans ⟨rfl,rfl,rfl,Nat.le_refl _,fun _ _=>rfl⟩)
theorem rapp_end {W w7:World} {own1:Nat→Prop} {g i:Nat} {x:zAN} {v7:Value} {d7:Bs} {F:List (Bs × zAV)} (hc:zAm W r v L own1 D.room D.fuse) (hg:v.ownBlock=some g) (hx:L[i]?=some x) (hb:Below W.heap.size W w7) (h7:OwnB w7 5 v7 d7) (hn7:∀ k,v7.ownBlock=some k→W.heap.size≤k)
  (hF:F=(L.set i ⟨x.n,v7,⟨d7,x.f.lasts⟩⟩).map zAN.key) (hok:zAB.OK { D with files:=F }) (hch:Chg own w W) (hx1:∀ k,own1 k→own k∨w.heap.size≤k) (hfz:D.fuse≠some 0) :
  Calls Tryz.prog 72 #[.pointer (some ⟨r,0,none⟩)] (w7.setCell ⟨g,i * 3+1,none⟩ v7) (zCL w r own (zAB.done { D with files:=F },0)):=by
 have hk:zAm w7 r v L own1 D.room D.fuse:=hc.keep hb.size fun k hk=>hb.block k (hc.olt k hk)
 have hgo:=(hc.ov g hg).1
 have hs:=hk.store hg hx 1 (by omega) v7 ⟨x.n,v7,⟨d7,x.f.lasts⟩⟩ rfl (own':=fun k=>own1 k∨v7.ownBlock=some k) (fun _ h=>.inl h) h7
  (fun k hk=>⟨.inr hk,fun e=>by have:=hc.olt r hc.or;have:=hn7 k hk;omega,fun e=>by have:=hc.olt g hgo;have:=hn7 k hk;omega⟩)
  (fun k h=>by
   rcases h with h | h
   ·exact hk.olt k h
   ·exact OwnR.lt h7 h)
 have hin:zAY (w7.setCell ⟨g,i * 3+1,none⟩ v7) r v (L.set i ⟨x.n,v7,⟨d7,x.f.lasts⟩⟩) (fun k=>own1 k∨v7.ownBlock=some k) { D with files:=F }:=hs.full rfl rfl hF hok
 have hsz:=hch.size
 have hch2:Chg own w (w7.setCell ⟨g,i * 3+1,none⟩ v7):=by
  refine (hch.trans ((Chg.of_below hb).mono (T:=fun _=>False) fun _ _ h=>h) fun _ _ h=>h.elim).trans (Chg.setCell w7 ⟨g,i * 3+1,none⟩ v7) fun k hk e=>?_
  have e:k=g:=e
  rcases hx1 g hgo with h | h
  ·rw [e];exact h
  ·omega
 refine (zCB hin hfz).mono ?_
 intro e w8 h8
 refine zCs hch2 (fun k hk=>?_) hch2.size h8
 rcases hk with hk | hk
 ·exact hx1 k hk
 ·exact .inr (Nat.le_trans hsz (hn7 k hk))
theorem rappend_is (h:zAY w r v L own D) (s:ByteArray) (hs:s.size≤9223372036854775807) {pb:Option Addr} {m cb:Nat} {l:Bs} (hl:HasB w (.slice pb m cb) l) (hm:D.may [nm s]=0) {f:zAV} (hg:Sat.get (nm s) D.files=some f) (hroom:D.used+m≤D.room)
  (hok:zAB.OK { D with files:=put (nm s) ⟨f.data ++ l,f.lasts⟩ D.files }) :
  Calls Tryz.prog 16 #[.pointer (some ⟨r,0,none⟩),.string s,.slice pb m cb] w (zCL w r own (zAB.done { D with files:=put (nm s) ⟨f.data ++ l,f.lasts⟩ D.files },0)):=by
 have hml:m=l.length:=(zBw hl).1
 have h1:zAY (w.alloc (.cells #[.string s] 9)) r v L own D:=h.below ((Below.refl _ _).alloc (Nat.le_refl _) _)
 have hmay:=zBs h1 (some ⟨w.heap.size,0,none⟩) [s] 1 (zBB w s) (by simp) (by simpa using hs)
 simp only [List.map_cons,List.map_nil] at hmay
 have hsp:=zBU h1 s
 rw [h.is,hg] at hsp
 rw [hm] at hmay
 have HU:=zh (fun W hb=>zEP (h.below (w':=W) hb))
 obtain ⟨x,hx,hxn,rfl⟩:=h.hit hg
 have hlm:=h.len_le hx
 have hxm:=List.mem_of_getElem? hx
 have hN:zAo (nm s) (L.map zAN.n) < L.length:=(List.getElem?_eq_some_iff.1 hx).1
 rcases h.at with h0 | ⟨g,c0,hgv,hlc,-⟩
 ·rw [h0] at hN
  simp at hN
 have hgo:v.ownBlock=some g:=by rw [hgv];rfl
 have hub:D.used≤1073741824:=Nat.le_trans h.ok.used h.ok.room
 have hrb:=h.ok.room
 have hput:=fun v'=>h.put hg ⟨x.n,v',⟨x.f.data ++ l,x.f.lasts⟩⟩ hxn
 have hfz:=zD9 hm
 obtain ⟨px,cx,ex,hxc⟩:=zDA (h.data x hxm)
 generalize zAo (nm s) (L.map zAN.n)=i at *
 have Hcells:=zh (show ∀ W,Below w.heap.size w W→W.cell? ⟨r,0,none⟩=some (.int .i64 (D.room:Int))∧W.cell? ⟨r,1,none⟩=some (.slice (some ⟨g,0,none⟩) L.length c0) from fun W hb=>⟨(h.below hb).c0,(h.below hb).c1.trans (by rw [hgv])⟩)
 have Hcells2:=zh (show ∀ W,Below w.heap.size w W→W.cell? ⟨r,1,none⟩=some (.slice (some ⟨g,0,none⟩) L.length c0)∧W.cell? ⟨g,i * 3+1,none⟩=some (.slice px x.f.data.length cx)∧W.frozen? ⟨g,i * 3+1,none⟩=false from fun W hb=>by
  have hW:=h.below hb
  exact ⟨hW.c1.trans (by rw [hgv]),(hW.core.at hgo hx).2.1.trans (by rw [ex]),hW.core.free hgo _⟩)
 have Hxd:=zh (show ∀ W,Below w.heap.size w W→zAL W 1 (.slice px x.f.data.length cx) x.f.data.length (zAQ x.f.data) from fun W hb=>by
  have hW:=((h.below hb).data x hxm).has
  rw [ex] at hW
  exact hW)
 have Hld:=zh (show ∀ W,Below w.heap.size w W→zAL W 1 (.slice pb m cb) m (zAQ l) from fun W hb=>by
  have hW:=hl.below hb
  unfold HasB at hW
  rw [← hml] at hW
  exact hW)
 have Hend:=zh (show ∀ w7 v7,Below w.heap.size w w7→OwnB w7 5 v7 (x.f.data ++ l)→(∀ k,v7.ownBlock=some k→w.heap.size≤k)→Calls Tryz.prog 72 #[.pointer (some ⟨r,0,none⟩)] (w7.setCell ⟨g,i * 3+1,none⟩ v7) (zCL w r own (zAB.done { D with files:=put (nm s) ⟨x.f.data ++ l,x.f.lasts⟩ D.files },0)) from
  fun w7 v7 hb h7 hn7=>rapp_end h.core hgo hx hb h7 hn7 (hput v7) hok (Chg.refl _ _) (fun _ h=>.inl h) hfz)
 have Hgr:=zh (show r≠g from (h.ov g hgo).2.symm)
 have Hlen:=zh (show (x.f.data ++ l).length=x.f.data.length+m from by rw [List.length_append,hml])
 obtain ⟨i0,hi,hz0,hz1,hz2⟩:=info_parts (show (Tryz.prog.info? 5).map (fun i=>(i.zero,i.size,i.bytes))=some (some (.int .u8 0),1,1) by kernel_rfl)
 clear h h1 hm hg hok hx hxm hput hgo ex hml hxc hl hlc hfz
 subst hgv
 generalize hxl:x.f.data.length=mx at *
 have hd1:decide ((D.room:Int) < (D.used:Int)+(m:Int))=false:=by simp;omega
 have hd2:decide (D.room < D.used+m)=false:=by simp;omega
 generalize D.used=U at *
 generalize hRoom:D.room=R at *
 have Hmay:=zh hmay
 have Hsp:=zh hsp
 clear hmay hsp
 go_enter Tryz.func16,Tryz.ntmps16
 go_wp2_with fail
 refine Hmay.out.mono ?_
 rintro e w2 ⟨rfl,rfl⟩
 go_wp2_with fail
 refine Hsp.out.mono ?_
 rintro e w3 ⟨rfl,q,rfl⟩
 have HbW:=zh (zAg w (.cells #[.string s] 9) q)
 have Hused:=zh (fun n=>HU.out _ (HbW.out.trans (show Below _ _ (((w.alloc (.cells #[.string s] 9)).drewN q).drewN n) from ⟨rfl,rfl,rfl,Nat.le_refl _,fun _ _=>rfl⟩)))
 obtain ⟨hc0,hc1⟩:=Hcells.out _ HbW.out
 generalize (w.alloc (.cells #[.string s] 9)).drewN q=W at *
 go_wp2_with fail
 go_quiet ((go_at_call 71;refine Calls.quiet_of_same (Hused.out _)))
 clear hc0 hc1
 go_wp2_with fail
 have X0:=zh (show Below w.heap.size w (W.drewN nq).drew from HbW.out.trans ⟨rfl,rfl,rfl,Nat.le_refl _,fun _ _=>rfl⟩)
 have hS:=(Hcells2.out _ X0.out).1
 refine zAT (fun W':World=>W'.cell? ⟨r,1,none⟩=some (.slice (some ⟨g,0,none⟩) L.length c0)) (n:=20) (by kernel_rfl) rfl hS (fun hHeld=>?_)
 clear hS
 generalize (W.drewN nq).drew=Wd at *
 refine otk 0 (v:=?v1x0) rfl ?_
 simp only [Act.put,uA,uB,uC]
 refine otk 1 (v:=?v1x1) rfl ?_
 simp only [Act.put,uA,uB,uC]
 refine otk 2 (v:=?v1x2) rfl ?_
 simp only [Act.put,uA,uB,uC]
 refine otk 3 (v:=?v1x3) rfl ?_
 simp only [Act.put,uA,uB,uC]
 refine otk 4 (v:=?v1x4) rfl ?_
 simp only [Act.put,uA,uB,uC]
 refine otk 6 (v:=?v1x6) rfl ?_
 simp only [Act.put,uA,uB,uC]
 refine otk 7 (v:=?v1x7) rfl ?_
 simp only [Act.put,uA,uB,uC]
 refine otk 8 (v:=?v1x8) rfl ?_
 simp only [Act.put,uA,uB,uC]
 refine otk 9 (v:=?v1x9) rfl ?_
 simp only [Act.put,uA,uB,uC]
 refine otk 10 (v:=?v1x10) rfl ?_
 simp only [Act.put,uA,uB,uC]
 refine otk 11 (v:=?v1x11) rfl ?_
 simp only [Act.put,uA,uB,uC]
 refine otk 12 (v:=?v1x12) rfl ?_
 simp only [Act.put,uA,uB,uC]
 refine otk 15 (v:=?v1x15) rfl ?_
 simp only [Act.put,uA,uB,uC]
 refine zCV 5 13 rfl rfl (by kernel_rfl) (by rfl) (by rfl) (fun K hK=>?_) (fun K hK=>?_)
 ·go_wp2_with fail
  have X1:=zh (X0.out.alloc X0.out.size (.cells #[] 5))
  refine hK.out _ _ ((Hcells2.out _ X1.out).1) (fun hHeld=>?_)
  clear hK
  try simp only [Act.put,uA,uB,uC]
  refine zAG 13 rfl (by kernel_rfl) (by rfl) (fun K hK=>?_)
  have hc2:=(Hcells2.out _ X1.out).2.1
  go_wp2_with fail
  clear hc2
  refine hK.out _ _ ((Hcells2.out _ X1.out).1) (fun hHeld=>?_)
  clear hK
  try simp only [Act.put,uA,uB,uC]
  refine zAG 14 rfl (by kernel_rfl) (by rfl) (fun K hK=>?_)
  have hown0:=zAz Wd 5
  have hxd:=Hxd.out _ X1.out
  refine zAj (.tmp 77) (.tmp 85) 22 (by rfl) 5 i0 (.int .u8 0) 1 1 Tryz.underlying22 hi hz0 hz1 hz2 rfl (by decide) (.slice (some ⟨Wd.heap.size,0,none⟩) 0 0) 0 [] (by rfl) hown0 (.slice px mx cx) mx _ (by rfl) hxd (zAM _) (by unfold maxLen;omega) (by omega) ?_
  clear hown0 hxd
  intro v6 w6 hown6 hgrow6 hloc6
  have X6:=zh (X1.out.grown hgrow6 X1.out.size (fun j e=>by have:=X0.out.size;simp [Value.ownBlock] at e;omega))
  have hnew6:=zAp (B:=w.heap.size) hloc6 (fun k hk=>by have:=X0.out.size;simp [Value.ownBlock] at hk;omega) X1.out.size
  rw [Nat.zero_add,List.nil_append] at hown6
  obtain ⟨p6,c6,rfl⟩:=OwnR.shape hown6
  have Hown6:=zh hown6
  have Hnew6:=zh hnew6
  clear hgrow6 hloc6 hown6 hnew6
  refine hK.out _ _ ((Hcells2.out _ X6.out).1) (fun hHeld=>?_)
  clear hK
  try simp only [Act.put,uA,uB,uC]
  refine zAG 16 rfl (by kernel_rfl) (by rfl) (fun K hK=>?_)
  have hld:=Hld.out _ X6.out
  refine zAj (.tmp 86) (.tmp 87) 22 (by rfl) 5 i0 (.int .u8 0) 1 1 Tryz.underlying22 hi hz0 hz1 hz2 rfl (by decide) (.slice p6 mx c6) mx _ (by rfl) Hown6.out (.slice pb m cb) m _ (by rfl) hld (zAM _) (by unfold maxLen;omega) (by omega) ?_
  clear hld
  intro v7 w7 hown7 hgrow7 hloc7
  have X7:=zh (X6.out.grown hgrow7 X6.out.size Hnew6.out)
  have hnew7:=zAp (B:=w.heap.size) hloc7 Hnew6.out X6.out.size
  obtain ⟨p7,c7,rfl⟩:=OwnR.shape hown7
  rw [← zBT] at hown7
  have Hend7:=zh (Hend.out w7 (.slice p7 (mx+m) c7) X7.out (by unfold OwnB;rw [Hlen.out];exact hown7) hnew7)
  clear hgrow7 hloc7 hown7 hnew7
  refine hK.out _ _ ((Hcells2.out _ X7.out).1) (fun hHeld=>?_)
  clear hK
  try simp only [Act.put,uA,uB,uC]
  refine otk 17 (v:=?v2x17) rfl ?_
  simp only [Act.put,uA,uB,uC]
  refine otk 18 (v:=?v2x18) rfl ?_
  simp only [Act.put,uA,uB,uC]
  refine zAG 19 rfl (by kernel_rfl) (by rfl) (fun K hK=>?_)
  obtain ⟨hc1,hc2,hfz1⟩:=Hcells2.out _ X7.out
  go_wp2_with fail
  have hcs:(w7.setCell ⟨g,i * 3+1,none⟩ (.slice p7 (mx+m) c7)).cell? ⟨r,1,none⟩=some (.slice (some ⟨g,0,none⟩) L.length c0):=(World.cell?_of_block (set_other _ Hgr.out)).trans hc1
  clear hc1 hc2 hfz1
  refine hK.out _ _ (hcs) (fun hHeld=>?_)
  clear hK
  try simp only [Act.put,uA,uB,uC]
  refine wpAnyH_done (by kernel_rfl) ?_ _
  clear hHeld
  go_wp2_with fail
  refine Hend7.out.mono ?_
  intro e w8 hE
  have HE:=zh hE
  obtain ⟨rfl,-⟩:=hE
  go_wp2_with fail
  go_ret
  exact HE.out
 ·have hc2:=(Hcells2.out _ X0.out).2.1
  go_wp2_with fail
  clear hc2
  refine hK.out _ _ ((Hcells2.out _ X0.out).1) (fun hHeld=>?_)
  clear hK
  try simp only [Act.put,uA,uB,uC]
  refine zAG 5 rfl (by kernel_rfl) (by rfl) (fun K hK=>?_)
  go_wp2_with fail
  have X1:=zh (X0.out.alloc X0.out.size (.cells #[] 5))
  refine hK.out _ _ ((Hcells2.out _ X1.out).1) (fun hHeld=>?_)
  clear hK
  try simp only [Act.put,uA,uB,uC]
  refine zAG 14 rfl (by kernel_rfl) (by rfl) (fun K hK=>?_)
  have hown0:=zAz Wd 5
  have hxd:=Hxd.out _ X1.out
  refine zAj (.tmp 77) (.tmp 85) 22 (by rfl) 5 i0 (.int .u8 0) 1 1 Tryz.underlying22 hi hz0 hz1 hz2 rfl (by decide) (.slice (some ⟨Wd.heap.size,0,none⟩) 0 0) 0 [] (by rfl) hown0 (.slice px mx cx) mx _ (by rfl) hxd (zAM _) (by unfold maxLen;omega) (by omega) ?_
  clear hown0 hxd
  intro v6 w6 hown6 hgrow6 hloc6
  have X6:=zh (X1.out.grown hgrow6 X1.out.size (fun j e=>by have:=X0.out.size;simp [Value.ownBlock] at e;omega))
  have hnew6:=zAp (B:=w.heap.size) hloc6 (fun k hk=>by have:=X0.out.size;simp [Value.ownBlock] at hk;omega) X1.out.size
  rw [Nat.zero_add,List.nil_append] at hown6
  obtain ⟨p6,c6,rfl⟩:=OwnR.shape hown6
  have Hown6:=zh hown6
  have Hnew6:=zh hnew6
  clear hgrow6 hloc6 hown6 hnew6
  refine hK.out _ _ ((Hcells2.out _ X6.out).1) (fun hHeld=>?_)
  clear hK
  try simp only [Act.put,uA,uB,uC]
  refine zAG 16 rfl (by kernel_rfl) (by rfl) (fun K hK=>?_)
  have hld:=Hld.out _ X6.out
  refine zAj (.tmp 86) (.tmp 87) 22 (by rfl) 5 i0 (.int .u8 0) 1 1 Tryz.underlying22 hi hz0 hz1 hz2 rfl (by decide) (.slice p6 mx c6) mx _ (by rfl) Hown6.out (.slice pb m cb) m _ (by rfl) hld (zAM _) (by unfold maxLen;omega) (by omega) ?_
  clear hld
  intro v7 w7 hown7 hgrow7 hloc7
  have X7:=zh (X6.out.grown hgrow7 X6.out.size Hnew6.out)
  have hnew7:=zAp (B:=w.heap.size) hloc7 Hnew6.out X6.out.size
  obtain ⟨p7,c7,rfl⟩:=OwnR.shape hown7
  rw [← zBT] at hown7
  have Hend7:=zh (Hend.out w7 (.slice p7 (mx+m) c7) X7.out (by unfold OwnB;rw [Hlen.out];exact hown7) hnew7)
  clear hgrow7 hloc7 hown7 hnew7
  refine hK.out _ _ ((Hcells2.out _ X7.out).1) (fun hHeld=>?_)
  clear hK
  try simp only [Act.put,uA,uB,uC]
  refine otk 17 (v:=?v3x17) rfl ?_
  simp only [Act.put,uA,uB,uC]
  refine otk 18 (v:=?v3x18) rfl ?_
  simp only [Act.put,uA,uB,uC]
  refine zAG 19 rfl (by kernel_rfl) (by rfl) (fun K hK=>?_)
  obtain ⟨hc1,hc2,hfz1⟩:=Hcells2.out _ X7.out
  go_wp2_with fail
  have hcs:(w7.setCell ⟨g,i * 3+1,none⟩ (.slice p7 (mx+m) c7)).cell? ⟨r,1,none⟩=some (.slice (some ⟨g,0,none⟩) L.length c0):=(World.cell?_of_block (set_other _ Hgr.out)).trans hc1
  clear hc1 hc2 hfz1
  refine hK.out _ _ (hcs) (fun hHeld=>?_)
  clear hK
  try simp only [Act.put,uA,uB,uC]
  refine wpAnyH_done (by kernel_rfl) ?_ _
  clear hHeld
  go_wp2_with fail
  refine Hend7.out.mono ?_
  intro e w8 hE
  have HE:=zh hE
  obtain ⟨rfl,-⟩:=hE
  go_wp2_with fail
  go_ret
  exact HE.out
end
end Go.Proofs.YtapfnehdgailmaaGreat
namespace Go.Sat
open Go Go.RowKit
theorem zA5 (w:World) (e:TypeId) (size:Nat):OwnR (w.alloc (.cells #[] e)) e size (.slice (some ⟨w.heap.size,0,none⟩) 0 0) 0 [] :=
 ⟨by simp,.inr ⟨_,0,#[],rfl,zAI w _,Nat.le_refl _,Nat.zero_le _,by simp,by simp⟩⟩
theorem holds_lit (w:World) (cs:Array Value) (xs:List Value) (size n c:Nat) (hl:cs.toList=xs) (hx:xs.length=n * size) (e:TypeId) (fr:Nat × Nat):zAL (w.alloc (.cells cs e fr)) size (.slice (some ⟨w.heap.size,0,none⟩) n c) n xs:=by
 refine ⟨hx,some ⟨w.heap.size,0,none⟩,c,rfl,fun e=>(by cases e),fun a ha i u hu=>?_⟩
 cases ha
 rw [add_zero]
 refine zAA (zAI w _) ?_
 rw [← hl] at hu
 simpa using hu
end Go.Sat
namespace Go.Proofs.YtapfnehdgailmaaGreat
open Go.RowKit Go.Sat Go.Maps
theorem has_void {w w':World} {v:Value} {l:Bs} (h:HasB w v l) (hl:l=[]):HasB w' v l:=by
 subst hl
 obtain ⟨hl,p,c,e,h0,-⟩:=h
 exact ⟨hl,p,c,e,h0,fun a ha i u hu=>by simp [zAQ] at hu⟩
section
variable {w:World} {r:Nat} {v:Value} {L:List zAN} {own:Nat→Prop} {D:zAB}
def nilF (n:Bs):zAN:=⟨n,.slice none 0 0,⟨[],0⟩⟩
theorem new_cells (L:List zAN) (i:Nat) (n:Bs):(L.take i ++ nilF n :: L.drop i).flatMap zAN.cells=((L.flatMap zAN.cells).take (i * 3) ++ (nilF n).cells) ++ (L.flatMap zAN.cells).drop (i * 3):=by
 rw [List.flatMap_append,List.flatMap_cons,cells_take,cells_drop,List.append_assoc]
theorem zAY.putn (h:zAY w r v L own D) {n:Bs} (hg:Sat.get n D.files=none) (v':Value) (f:zAV):Sat.put n f D.files=((L.take (zAo n (L.map zAN.n)) ++ nilF n :: L.drop (zAo n (L.map zAN.n))).set (zAo n (L.map zAN.n)) ⟨n,v',f⟩).map zAN.key:=by
 have hle:zAo n (L.map zAN.n)≤L.length:=by have:=spotN_le n (L.map zAN.n);rwa [List.length_map] at this
 have h1:Sat.put n f D.files=ins (n,f) D.files:=by unfold Sat.put;rw [zCa hg]
 rw [h1,ins_at n f h.ok.srt hg,← h.names,h.files]
 generalize zAo n (L.map zAN.n)=i at *
 rw [List.set_append_right _ _ (by rw [List.length_take];omega),List.length_take,Nat.min_eq_left hle,Nat.sub_self,List.set_cons_zero,List.map_append,List.map_cons,List.map_take,List.map_drop]
 rfl
theorem rappend_new (h:zAY w r v L own D) (s:ByteArray) (hs:s.size≤9223372036854775807) {pb:Option Addr} {m cb:Nat} {l:Bs} (hl:HasB w (.slice pb m cb) l) (hno:l≠[]→∀ k,(Value.slice pb m cb).ownBlock=some k→¬ own k) (hm:D.may [nm s]=0) (hg:Sat.get (nm s) D.files=none) (hroom:D.used+m≤D.room) (hcnt:D.files.length < 4096)
  (hok:zAB.OK { D with files:=put (nm s) ⟨[] ++ l,0⟩ D.files }) :
  Calls Tryz.prog 16 #[.pointer (some ⟨r,0,none⟩),.string s,.slice pb m cb] w (zCL w r own (zAB.done { D with files:=put (nm s) ⟨[] ++ l,0⟩ D.files },0)):=by
 have hml:m=l.length:=(zBw hl).1
 have h1:zAY (w.alloc (.cells #[.string s] 9)) r v L own D:=h.below ((Below.refl _ _).alloc (Nat.le_refl _) _)
 have hmay:=zBs h1 (some ⟨w.heap.size,0,none⟩) [s] 1 (zBB w s) (by simp) (by simpa using hs)
 simp only [List.map_cons,List.map_nil] at hmay
 have hsp:=zBU h1 s
 rw [h.is,hg] at hsp
 rw [hm] at hmay
 have HU:=zh (fun W hb=>zEP (h.below (w':=W) hb))
 have hub:D.used≤1073741824:=Nat.le_trans h.ok.used h.ok.room
 have hrb:=h.ok.room
 have hput:=fun v'=>h.putn hg v' ⟨[] ++ l,0⟩
 have hfz:=zD9 hm
 rw [← h.len] at hcnt
 have hle:zAo (nm s) (L.map zAN.n)≤L.length:=by have:=spotN_le (nm s) (L.map zAN.n);rwa [List.length_map] at this
 obtain ⟨pv,cv,hgv⟩:=h.slice
 have hNc:L.length≤cv:=by
  rcases h.at with h0 | ⟨g,c0,e,hc,-⟩
  ·rw [h0];exact Nat.zero_le _
  ·rw [hgv] at e;cases e;exact hc
 generalize zAo (nm s) (L.map zAN.n)=i at *
 have Hcells:=zh (show ∀ W,Below w.heap.size w W→W.cell? ⟨r,0,none⟩=some (.int .i64 (D.room:Int))∧W.cell? ⟨r,1,none⟩=some (.slice pv L.length cv) from fun W hb=>⟨(h.below hb).c0,(h.below hb).c1.trans (by rw [hgv])⟩)
 have Hfr:=zh (show ∀ W,Below w.heap.size w W→W.frozen? ⟨r,1,none⟩=false from fun W hb=>zAF (h.below hb).cells 1)
 have Hrow:=zh (show ∀ W,Below w.heap.size w W→OwnR W 127 3 (.slice pv L.length cv) L.length (L.flatMap zAN.cells) from fun W hb=>by rw [← hgv];exact (h.below hb).row)
 have Hone:=zh (cells_one h.core.one)
 have Hl:=zh hl
 have Hml:=zh hml
 have Hno:=zh hno
 have Hput:=zh hput
 have Hok:=zh hok
 have Hfz:=zh hfz
 have H:=zh h
 obtain ⟨i0,hi,hz0,hz1,hz2⟩:=info_parts (show (Tryz.prog.info? 5).map (fun i=>(i.zero,i.size,i.bytes))=some (some (.int .u8 0),1,1) by kernel_rfl)
 obtain ⟨iF,hFi,hF0,hF1,hF2⟩:=info_parts (show (Tryz.prog.info? 127).map (fun i=>(i.zero,i.size,i.bytes))=some (some (.agg #[.string ⟨#[]⟩,.slice none 0 0,.int .i64 0]),3,48) by kernel_rfl)
 have hs1:∀ W,(Instr.slice 116 (.slice pv L.length cv) none (some (.int .i64 (i:Int))) none).run Tryz.prog W=.ok (.slice pv i cv) W:=fun W=>zB0 W Tryz.underlying116 hFi pv _ cv i (by omega)
 have hs2:∀ W,(Instr.slice 116 (.slice pv L.length cv) (some (.int .i64 (i:Int))) none none).run Tryz.prog W=.ok (.slice (if cv - i=0 then pv else pv.map fun x=>x.add (i * 3)) (L.length - i) (cv - i)) W:=fun W=>by
  have:=zDx (P:=Tryz.prog) W Tryz.underlying116 hFi pv L.length cv i hle hNc
  rw [hF1] at this
  exact this
 have Hfrom:=zh (show ∀ W,Below w.heap.size w W→zAL W 3 (.slice (if cv - i=0 then pv else pv.map fun x=>x.add (i * 3)) (L.length - i) (cv - i)) (L.length - i) ((L.flatMap zAN.cells).drop (i * 3)) from fun W hb=>OwnR.cut_from (Hrow.out W hb) hle)
 generalize hpF:(if cv - i=0 then pv else pv.map fun x=>x.add (i * 3))=pF at *
 clear h h1 hm hg hok hput hml hl hfz hno hpF
 subst hgv
 have hd1:decide ((D.room:Int) < (D.used:Int)+(m:Int))=false:=by simp;omega
 have hd2:decide (D.room < D.used+m)=false:=by simp;omega
 generalize hU:D.used=U at *
 generalize hN:L.length=N at *
 have HN:=zh hN
 clear hN hU
 have Hmay:=zh hmay
 have Hsp:=zh hsp
 clear hmay hsp
 go_enter Tryz.func16,Tryz.ntmps16
 go_wp2_with fail
 refine Hmay.out.mono ?_
 rintro e w2 ⟨rfl,rfl⟩
 go_wp2_with fail
 refine Hsp.out.mono ?_
 rintro e w3 ⟨rfl,q,rfl⟩
 have HbW:=zh (zAg w (.cells #[.string s] 9) q)
 have Hused:=zh (fun n=>HU.out _ (HbW.out.trans (show Below _ _ (((w.alloc (.cells #[.string s] 9)).drewN q).drewN n) from ⟨rfl,rfl,rfl,Nat.le_refl _,fun _ _=>rfl⟩)))
 obtain ⟨hc0,hc1⟩:=Hcells.out _ HbW.out
 generalize (w.alloc (.cells #[.string s] 9)).drewN q=W at *
 go_wp2_with fail
 go_quiet ((go_at_call 71;refine Calls.quiet_of_same (Hused.out _)))
 clear hc0 hc1
 have X0:=zh (show Below w.heap.size w (W.drewN nq) from HbW.out.trans ⟨rfl,rfl,rfl,Nat.le_refl _,fun _ _=>rfl⟩)
 generalize W.drewN nq=Wq at *
 have X1:=zh (X0.out.alloc X0.out.size (.cells #[] 127))
 have hc1a:=(Hcells.out _ X1.out).2
 have Hup:=zh (show zAL (Wq.alloc (.cells #[] 127)) 3 (.slice pv i cv) i ((L.flatMap zAN.cells).take (i * 3)) from zAL.upto (OwnR.holds (Hrow.out _ X1.out)) hle cv)
 go_wp2_with (first | (at_builtin;refine zAP (Wq.alloc (.cells #[] 127)) rfl (.tmp 48) (.tmp 54) 116 rfl 127 iF _ 3 48 Tryz.underlying116 hFi hF0 hF1 hF2 rfl (by decide) (.slice (some ⟨Wq.heap.size,0,none⟩) 0 0) 0 [] rfl (zA5 Wq _ 3) (.slice pv i cv) i _ rfl Hup.out (fun u hu=>Hone.out u (List.mem_of_mem_take hu)) (by unfold maxLen;omega) (by omega) ?_;intro v12 w12 hown12 hgrow12 hloc12;rw [Nat.zero_add,List.nil_append] at hown12;have hX:=X1.out.grown hgrow12 X1.out.size (fun j e=>by have:=X0.out.size;simp [Value.ownBlock] at e;omega);have hnew:=zAp (B:=w.heap.size) hloc12 (fun k hk=>by have:=X0.out.size;simp [Value.ownBlock] at hk;omega) X1.out.size;obtain ⟨p12,c12,rfl⟩:=OwnR.shape hown12;have X12:=zh (And.intro hX (And.intro hown12 hnew));clear hown12 hgrow12 hloc12 hX hnew hc1a) | (at_builtin;refine zAP (w12.alloc (.cells #[.string s,.slice none 0 0,.int .i64 0] 127)) rfl (.tmp 56) (.tmp 59) 116 rfl 127 iF _ 3 48 Tryz.underlying116 hFi hF0 hF1 hF2 rfl (by decide) (.slice p12 i c12) i _ rfl (OwnR.keep X12.out.2.1 fun j hj=>alloc_was w12 _ (OwnR.lt X12.out.2.1 hj)) (.slice (some ⟨w12.heap.size,0,none⟩) 1 1) 1 [.string s,.slice none 0 0,.int .i64 0] rfl (holds_lit w12 #[.string s,.slice none 0 0,.int .i64 0] _ 3 1 1 rfl rfl _ _) (fun u hu=>by simp at hu;rcases hu with rfl | rfl | rfl <;> rfl) (by unfold maxLen;omega) (by omega) ?_;intro v13 w13 hown13 hgrow13 hloc13;have hXa:=X12.out.1.alloc X12.out.1.size (.cells #[.string s,.slice none 0 0,.int .i64 0] 127);have hX:=hXa.grown hgrow13 hXa.size (fun j hj=>X12.out.2.2 j hj);have hnew:=zAp (B:=w.heap.size) hloc13 X12.out.2.2 hXa.size;obtain ⟨p13,c13,rfl⟩:=OwnR.shape hown13;have X13:=zh (And.intro hX (And.intro hown13 hnew));have hc1b:=(Hcells.out _ X13.out.1).2;clear hown13 hgrow13 hloc13 hX hnew hXa) | (at_builtin;refine zAP w13 rfl (.tmp 62) (.tmp 68) 116 rfl 127 iF _ 3 48 Tryz.underlying116 hFi hF0 hF1 hF2 rfl (by decide) (.slice p13 (i+1) c13) (i+1) _ rfl X13.out.2.1 (.slice pF (N - i) (cv - i)) (N - i) _ rfl (Hfrom.out w13 X13.out.1) (fun u hu=>Hone.out u (List.mem_of_mem_drop hu)) (by unfold maxLen;omega) (by omega) ?_;intro v14 w14 hown14 hgrow14 hloc14;have hX:=X13.out.1.grown hgrow14 X13.out.1.size (fun j hj=>X13.out.2.2 j hj);have hnew:=zAp (B:=w.heap.size) hloc14 X13.out.2.2 X13.out.1.size;obtain ⟨p14,c14,rfl⟩:=OwnR.shape hown14;have X14:=zh (And.intro hX (And.intro hown14 hnew));have hc1c:=(Hcells.out _ X14.out.1).2;have hfrc:=Hfr.out _ X14.out.1;clear hown14 hgrow14 hloc14 hX hnew hc1b))
 clear hc1c hfrc
 have hrow:=X14.out.2.1
 have hcore0:=(H.out.below X14.out.1).core
 have es:Value.string s=encStr (nm s):=by rw [enc_str];simp [nm]
 have hlen':(L.take i ++ nilF (nm s) :: L.drop i).length=i+1+(N - i):=by
  rw [List.length_append,List.length_take,List.length_cons,List.length_drop,HN.out]
  omega
 have hrow':OwnR w14 127 3 (.slice p14 (i+1+(N - i)) c14) (L.take i ++ nilF (nm s) :: L.drop i).length ((L.take i ++ nilF (nm s) :: L.drop i).flatMap zAN.cells):=by
  rw [new_cells,hlen']
  show OwnR w14 _ 3 _ _ (((L.flatMap zAN.cells).take (i * 3) ++ [encStr (nm s),.slice none 0 0,.int .i64 0]) ++ _)
  rw [← es]
  exact hrow
 have hfresh:∀ k,(Value.slice p14 (i+1+(N - i)) c14).ownBlock=some k→¬ own k:=fun k hk ho=>by
  have h1:=X14.out.2.2 k hk
  have h2:=H.out.olt k ho
  omega
 have hcore:=hcore0.relist hrow' (fun x hx=>by
  rcases List.mem_append.1 hx with hx | hx
  ·exact .inl (List.mem_of_mem_take hx)
  ·rcases List.mem_cons.1 hx with rfl | hx
   ·exact .inr ⟨OwnR.nil _ _ _,fun k hk=>by cases hk⟩
   ·exact .inl (List.mem_of_mem_drop hx)) hfresh
 have hld:HasB (w14.setCell ⟨r,1,none⟩ (.slice p14 (i+1+(N - i)) c14)) (.slice pb m cb) l:=by
  by_cases hl0:l=[]
  ·exact has_void Hl.out hl0
  ·exact Hl.out.same fun k hk=>by
    have h1:=Hl.out.lt hl0 hk
    have h2:k≠r:=fun e=>Hno.out hl0 k hk (by rw [e];exact H.out.or)
    exact (set_other _ h2).trans (X14.out.1.block k h1)
 have hch:Chg own w (w14.setCell ⟨r,1,none⟩ (.slice p14 (i+1+(N - i)) c14)):=zCM X14.out.1 (zDL H.out.or)
 have hx1:∀ k,(own k∨(Value.slice p14 (i+1+(N - i)) c14).ownBlock=some k)→own k∨w.heap.size≤k:=fun k hk=>hk.imp id (X14.out.2.2 k)
 have hxi:(L.take i ++ nilF (nm s) :: L.drop i)[i]?=some (nilF (nm s)):=by
  rw [List.getElem?_append_right (by rw [List.length_take];omega),List.length_take,HN.out,Nat.min_eq_left hle,Nat.sub_self]
  rfl
 obtain ⟨g,rfl⟩:∃ g,p14=some ⟨g,0,none⟩:=by
  rcases hrow.2 with ⟨e,hn⟩ | ⟨g',cap,cur,e,_⟩
  ·omega
  ·cases e
   exact ⟨g',rfl⟩
 have Hgr:=zh (show r≠g from (hcore.ov g rfl).2.symm)
 have Hcore:=zh hcore
 have Hcells2:=zh (show ∀ W,Below (w14.setCell ⟨r,1,none⟩ (.slice (some ⟨g,0,none⟩) (i+1+(N - i)) c14)).heap.size (w14.setCell ⟨r,1,none⟩ (.slice (some ⟨g,0,none⟩) (i+1+(N - i)) c14)) W→W.cell? ⟨r,1,none⟩=some (.slice (some ⟨g,0,none⟩) (i+1+(N - i)) c14)∧W.cell? ⟨g,i * 3+1,none⟩=some (.slice none 0 0)∧W.frozen? ⟨g,i * 3+1,none⟩=false from fun W hb=>by
  have hW:=hcore.keep (w':=W) hb.size fun k hk=>hb.block k (hcore.olt k hk)
  exact ⟨hW.c1,(hW.at rfl hxi).2.1,hW.free rfl _⟩)
 have Hxd:=zh (fun (W:World) (_:Below (w14.setCell ⟨r,1,none⟩ (.slice (some ⟨g,0,none⟩) (i+1+(N - i)) c14)).heap.size (w14.setCell ⟨r,1,none⟩ (.slice (some ⟨g,0,none⟩) (i+1+(N - i)) c14)) W)=>(show zAL W 1 (.slice none 0 0) 0 (zAQ []) from ⟨rfl,none,0,rfl,fun _=>rfl,fun a ha=>by cases ha⟩))
 have Hld:=zh (fun (W:World) (hb:Below (w14.setCell ⟨r,1,none⟩ (.slice (some ⟨g,0,none⟩) (i+1+(N - i)) c14)).heap.size (w14.setCell ⟨r,1,none⟩ (.slice (some ⟨g,0,none⟩) (i+1+(N - i)) c14)) W)=>(show zAL W 1 (.slice pb m cb) m (zAQ l) from by
  have hW:=hld.below hb
  unfold HasB at hW
  rw [← Hml.out] at hW
  exact hW))
 have Hend:=zh (fun (w7:World) (v7:Value) (hb:Below (w14.setCell ⟨r,1,none⟩ (.slice (some ⟨g,0,none⟩) (i+1+(N - i)) c14)).heap.size (w14.setCell ⟨r,1,none⟩ (.slice (some ⟨g,0,none⟩) (i+1+(N - i)) c14)) w7) (h7:OwnB w7 5 v7 ([] ++ l)) (hn7:∀ k,v7.ownBlock=some k→(w14.setCell ⟨r,1,none⟩ (.slice (some ⟨g,0,none⟩) (i+1+(N - i)) c14)).heap.size≤k)=>rapp_end (D:=D) hcore rfl hxi hb h7 hn7 (Hput.out v7) Hok.out hch hx1 Hfz.out)
 have Hlen:=zh (show ([] ++ l:Bs).length=m from by rw [List.nil_append,Hml.out])
 clear hrow hcore0 es hlen' hrow' hfresh hcore hld hch hx1 hxi Hcore X0 X1 X12 X13 X14 Hup
 generalize w14.setCell ⟨r,1,none⟩ (.slice (some ⟨g,0,none⟩) (i+1+(N - i)) c14)=Ws at *
 generalize hM:i+1+(N - i)=M at *
 have hiM:i < M:=by omega
 clear hM
 obtain ⟨hc1d,-,-⟩:=Hcells2.out _ (Below.refl _ _)
 go_wp2_with fail
 clear hc1d
 have X0:=zh (show Below Ws.heap.size Ws Ws.drew from ⟨rfl,rfl,rfl,Nat.le_refl _,fun _ _=>rfl⟩)
 have hS:=(Hcells2.out _ X0.out).1
 refine zAT (fun W':World=>W'.cell? ⟨r,1,none⟩=some (.slice (some ⟨g,0,none⟩) M c14)) (n:=20) (by kernel_rfl) rfl hS (fun hHeld=>?_)
 clear hS
 generalize Ws.drew=Wd at *
 refine otk 0 (v:=?v4x0) rfl ?_
 simp only [Act.put,uA,uB,uC]
 refine otk 1 (v:=?v4x1) rfl ?_
 simp only [Act.put,uA,uB,uC]
 refine otk 2 (v:=?v4x2) rfl ?_
 simp only [Act.put,uA,uB,uC]
 refine otk 3 (v:=?v4x3) rfl ?_
 simp only [Act.put,uA,uB,uC]
 refine otk 4 (v:=?v4x4) rfl ?_
 simp only [Act.put,uA,uB,uC]
 refine otk 6 (v:=?v4x6) rfl ?_
 simp only [Act.put,uA,uB,uC]
 refine otk 7 (v:=?v4x7) rfl ?_
 simp only [Act.put,uA,uB,uC]
 refine otk 8 (v:=?v4x8) rfl ?_
 simp only [Act.put,uA,uB,uC]
 refine otk 9 (v:=?v4x9) rfl ?_
 simp only [Act.put,uA,uB,uC]
 refine otk 10 (v:=?v4x10) rfl ?_
 simp only [Act.put,uA,uB,uC]
 refine otk 11 (v:=?v4x11) rfl ?_
 simp only [Act.put,uA,uB,uC]
 refine otk 12 (v:=?v4x12) rfl ?_
 simp only [Act.put,uA,uB,uC]
 refine otk 15 (v:=?v4x15) rfl ?_
 simp only [Act.put,uA,uB,uC]
 refine zCV 5 13 rfl rfl (by kernel_rfl) (by rfl) (by rfl) (fun K hK=>?_) (fun K hK=>?_)
 ·go_wp2_with fail
  have X1:=zh (X0.out.alloc X0.out.size (.cells #[] 5))
  refine hK.out _ _ ((Hcells2.out _ X1.out).1) (fun hHeld=>?_)
  clear hK
  try simp only [Act.put,uA,uB,uC]
  refine zAG 13 rfl (by kernel_rfl) (by rfl) (fun K hK=>?_)
  have hc2:=(Hcells2.out _ X1.out).2.1
  go_wp2_with fail
  clear hc2
  refine hK.out _ _ ((Hcells2.out _ X1.out).1) (fun hHeld=>?_)
  clear hK
  try simp only [Act.put,uA,uB,uC]
  refine zAG 14 rfl (by kernel_rfl) (by rfl) (fun K hK=>?_)
  have hown0:=zAz Wd 5
  have hxd:=Hxd.out _ X1.out
  refine zAj (.tmp 77) (.tmp 85) 22 (by rfl) 5 i0 (.int .u8 0) 1 1 Tryz.underlying22 hi hz0 hz1 hz2 rfl (by decide) (.slice (some ⟨Wd.heap.size,0,none⟩) 0 0) 0 [] (by rfl) hown0 (.slice none 0 0) 0 _ (by rfl) hxd (zAM _) (by unfold maxLen;omega) (by omega) ?_
  clear hown0 hxd
  intro v6 w6 hown6 hgrow6 hloc6
  have X6:=zh (X1.out.grown hgrow6 X1.out.size (fun j e=>by have:=X0.out.size;simp [Value.ownBlock] at e;omega))
  have hnew6:=zAp (B:=Ws.heap.size) hloc6 (fun k hk=>by have:=X0.out.size;simp [Value.ownBlock] at hk;omega) X1.out.size
  rw [Nat.zero_add,List.nil_append] at hown6
  obtain ⟨p6,c6,rfl⟩:=OwnR.shape hown6
  have Hown6:=zh hown6
  have Hnew6:=zh hnew6
  clear hgrow6 hloc6 hown6 hnew6
  refine hK.out _ _ ((Hcells2.out _ X6.out).1) (fun hHeld=>?_)
  clear hK
  try simp only [Act.put,uA,uB,uC]
  refine zAG 16 rfl (by kernel_rfl) (by rfl) (fun K hK=>?_)
  have hld:=Hld.out _ X6.out
  refine zAj (.tmp 86) (.tmp 87) 22 (by rfl) 5 i0 (.int .u8 0) 1 1 Tryz.underlying22 hi hz0 hz1 hz2 rfl (by decide) (.slice p6 0 c6) 0 _ (by rfl) Hown6.out (.slice pb m cb) m _ (by rfl) hld (zAM _) (by unfold maxLen;omega) (by omega) ?_
  clear hld
  intro v7 w7 hown7 hgrow7 hloc7
  have X7:=zh (X6.out.grown hgrow7 X6.out.size Hnew6.out)
  have hnew7:=zAp (B:=Ws.heap.size) hloc7 Hnew6.out X6.out.size
  rw [Nat.zero_add] at hown7
  obtain ⟨p7,c7,rfl⟩:=OwnR.shape hown7
  rw [← zBT] at hown7
  have Hend7:=zh (Hend.out w7 (.slice p7 m c7) X7.out (by unfold OwnB;rw [Hlen.out];exact hown7) hnew7)
  clear hgrow7 hloc7 hown7 hnew7
  refine hK.out _ _ ((Hcells2.out _ X7.out).1) (fun hHeld=>?_)
  clear hK
  try simp only [Act.put,uA,uB,uC]
  refine otk 17 (v:=?v5x17) rfl ?_
  simp only [Act.put,uA,uB,uC]
  refine otk 18 (v:=?v5x18) rfl ?_
  simp only [Act.put,uA,uB,uC]
  refine zAG 19 rfl (by kernel_rfl) (by rfl) (fun K hK=>?_)
  obtain ⟨hc1,hc2,hfz1⟩:=Hcells2.out _ X7.out
  go_wp2_with fail
  have hcs:(w7.setCell ⟨g,i * 3+1,none⟩ (.slice p7 m c7)).cell? ⟨r,1,none⟩=some (.slice (some ⟨g,0,none⟩) M c14):=(World.cell?_of_block (set_other _ Hgr.out)).trans hc1
  clear hc1 hc2 hfz1
  refine hK.out _ _ (hcs) (fun hHeld=>?_)
  clear hK
  try simp only [Act.put,uA,uB,uC]
  refine wpAnyH_done (by kernel_rfl) ?_ _
  clear hHeld
  go_wp2_with fail
  refine Hend7.out.mono ?_
  intro e w8 hE
  have HE:=zh hE
  obtain ⟨rfl,-⟩:=hE
  go_wp2_with fail
  go_ret
  exact HE.out
 ·have hc2:=(Hcells2.out _ X0.out).2.1
  go_wp2_with fail
  clear hc2
  refine hK.out _ _ ((Hcells2.out _ X0.out).1) (fun hHeld=>?_)
  clear hK
  try simp only [Act.put,uA,uB,uC]
  refine zAG 5 rfl (by kernel_rfl) (by rfl) (fun K hK=>?_)
  go_wp2_with fail
  have X1:=zh (X0.out.alloc X0.out.size (.cells #[] 5))
  refine hK.out _ _ ((Hcells2.out _ X1.out).1) (fun hHeld=>?_)
  clear hK
  try simp only [Act.put,uA,uB,uC]
  refine zAG 14 rfl (by kernel_rfl) (by rfl) (fun K hK=>?_)
  have hown0:=zAz Wd 5
  have hxd:=Hxd.out _ X1.out
  refine zAj (.tmp 77) (.tmp 85) 22 (by rfl) 5 i0 (.int .u8 0) 1 1 Tryz.underlying22 hi hz0 hz1 hz2 rfl (by decide) (.slice (some ⟨Wd.heap.size,0,none⟩) 0 0) 0 [] (by rfl) hown0 (.slice none 0 0) 0 _ (by rfl) hxd (zAM _) (by unfold maxLen;omega) (by omega) ?_
  clear hown0 hxd
  intro v6 w6 hown6 hgrow6 hloc6
  have X6:=zh (X1.out.grown hgrow6 X1.out.size (fun j e=>by have:=X0.out.size;simp [Value.ownBlock] at e;omega))
  have hnew6:=zAp (B:=Ws.heap.size) hloc6 (fun k hk=>by have:=X0.out.size;simp [Value.ownBlock] at hk;omega) X1.out.size
  rw [Nat.zero_add,List.nil_append] at hown6
  obtain ⟨p6,c6,rfl⟩:=OwnR.shape hown6
  have Hown6:=zh hown6
  have Hnew6:=zh hnew6
  clear hgrow6 hloc6 hown6 hnew6
  refine hK.out _ _ ((Hcells2.out _ X6.out).1) (fun hHeld=>?_)
  clear hK
  try simp only [Act.put,uA,uB,uC]
  refine zAG 16 rfl (by kernel_rfl) (by rfl) (fun K hK=>?_)
  have hld:=Hld.out _ X6.out
  refine zAj (.tmp 86) (.tmp 87) 22 (by rfl) 5 i0 (.int .u8 0) 1 1 Tryz.underlying22 hi hz0 hz1 hz2 rfl (by decide) (.slice p6 0 c6) 0 _ (by rfl) Hown6.out (.slice pb m cb) m _ (by rfl) hld (zAM _) (by unfold maxLen;omega) (by omega) ?_
  clear hld
  intro v7 w7 hown7 hgrow7 hloc7
  have X7:=zh (X6.out.grown hgrow7 X6.out.size Hnew6.out)
  have hnew7:=zAp (B:=Ws.heap.size) hloc7 Hnew6.out X6.out.size
  rw [Nat.zero_add] at hown7
  obtain ⟨p7,c7,rfl⟩:=OwnR.shape hown7
  rw [← zBT] at hown7
  have Hend7:=zh (Hend.out w7 (.slice p7 m c7) X7.out (by unfold OwnB;rw [Hlen.out];exact hown7) hnew7)
  clear hgrow7 hloc7 hown7 hnew7
  refine hK.out _ _ ((Hcells2.out _ X7.out).1) (fun hHeld=>?_)
  clear hK
  try simp only [Act.put,uA,uB,uC]
  refine otk 17 (v:=?v6x17) rfl ?_
  simp only [Act.put,uA,uB,uC]
  refine otk 18 (v:=?v6x18) rfl ?_
  simp only [Act.put,uA,uB,uC]
  refine zAG 19 rfl (by kernel_rfl) (by rfl) (fun K hK=>?_)
  obtain ⟨hc1,hc2,hfz1⟩:=Hcells2.out _ X7.out
  go_wp2_with fail
  have hcs:(w7.setCell ⟨g,i * 3+1,none⟩ (.slice p7 m c7)).cell? ⟨r,1,none⟩=some (.slice (some ⟨g,0,none⟩) M c14):=(World.cell?_of_block (set_other _ Hgr.out)).trans hc1
  clear hc1 hc2 hfz1
  refine hK.out _ _ (hcs) (fun hHeld=>?_)
  clear hK
  try simp only [Act.put,uA,uB,uC]
  refine wpAnyH_done (by kernel_rfl) ?_ _
  clear hHeld
  go_wp2_with fail
  refine Hend7.out.mono ?_
  intro e w8 hE
  have HE:=zh hE
  obtain ⟨rfl,-⟩:=hE
  go_wp2_with fail
  go_ret
  exact HE.out
end
section
variable {w:World} {r:Nat} {v:Value} {L:List zAN} {own:Nat→Prop} {D:zAB}
theorem zDV (h:zAY w r v L own D) (s:ByteArray) (hs:s.size≤9223372036854775807) {pb:Option Addr} {m cb:Nat} {l:Bs} (hl:HasB w (.slice pb m cb) l) (hlm:l.length≤140737488355328) (hno:l≠[]→∀ k,(Value.slice pb m cb).ownBlock=some k→¬ own k) :
  Calls Tryz.prog 16 #[.pointer (some ⟨r,0,none⟩),.string s,.slice pb m cb] w (zCL w r own (D.append (nm s) l)):=by
 have hml:m=l.length:=(zBw hl).1
 by_cases hm:D.may [nm s]=0
 ·by_cases hf:D.full (nm s) l=true
  ·have hR:D.append (nm s) l=(D,6):=by unfold zAB.append;rw [if_neg (by rw [hm];simp),if_pos hf]
   rw [hR]
   refine rappend_full h s hs (by omega) hm ?_
   unfold zAB.full at hf
   rw [Bool.or_eq_true,Bool.and_eq_true,decide_eq_true_eq,decide_eq_true_eq,Option.isNone_iff_eq_none] at hf
   rw [hml]
   exact hf
  ·have hf0:D.full (nm s) l=false:=by simpa using hf
   have hok:=ok_append h.ok hm hf0
   have hR:D.append (nm s) l=(zAB.done { D with files:=put (nm s) ⟨(D.cur (nm s)).data ++ l,(D.cur (nm s)).lasts⟩ D.files },0):=by unfold zAB.append;rw [if_neg (by rw [hm];simp),if_neg hf]
   rw [hR]
   unfold zAB.full at hf
   rw [Bool.or_eq_true,Bool.and_eq_true,decide_eq_true_eq,decide_eq_true_eq,Option.isNone_iff_eq_none,not_or] at hf
   have hroom:D.used+m≤D.room:=by omega
   cases hg:Sat.get (nm s) D.files with
   | some f =>
    have hc:D.cur (nm s)=f:=by unfold zAB.cur;rw [hg];rfl
    rw [hc] at hok ⊢
    exact rappend_is h s hs hl hm hg hroom hok
   | none =>
    have hc:D.cur (nm s)=⟨[],0⟩:=by unfold zAB.cur;rw [hg];rfl
    rw [hc] at hok ⊢
    exact rappend_new h s hs hl hno hm hg hroom (Nat.lt_of_not_le fun h4=>hf.2 ⟨hg,h4⟩) hok
 ·have hR:D.append (nm s) l=(D,D.may [nm s]):=by unfold zAB.append;rw [if_pos hm]
  rw [hR]
  have h1:zAY (w.alloc (.cells #[.string s] 9)) r v L own D:=h.below ((Below.refl _ _).alloc (Nat.le_refl _) _)
  have hmay:=zBs h1 (some ⟨w.heap.size,0,none⟩) [s] 1 (zBB w s) (by simp) (by simpa using hs)
  simp only [List.map_cons,List.map_nil] at hmay
  have Hf:=zh (zBM h ((Below.refl _ _).alloc (Nat.le_refl _) (.cells #[.string s] 9)) (D.may [nm s]))
  have Hmay:=zh hmay
  generalize D.may [nm s]=e0 at *
  have hne:((e0:Int) != 0)=true:=by simp;omega
  clear h h1 hmay hR hl
  go_enter Tryz.func16,Tryz.ntmps16
  go_wp2_with fail
  refine Hmay.out.mono ?_
  rintro e w2 ⟨rfl,rfl⟩
  go_wp2_with fail
  go_ret
  exact Hf.out
end
end Go.Proofs.YtapfnehdgailmaaGreat
