/- The document's journal: Open. (Printed by mkro7.py.) -/
import Derived.Test.YtapfnehdgailmaaGreatGY
set_option maxRecDepth 100000
set_option maxHeartbeats 64000000
namespace Go.Proofs.YtapfnehdgailmaaGreat
open Go.RowKit Go.Sat Go.Maps
def Snd (w W:World) (bB:Nat) (gv dv:Value) (s:Snap):Prop :=
 W.heap[bB]?=some (.cells #[.int .i64 (s.number:Int),.int .i64 s.term,gv] 82 (0,0))∧HasI W gv s.group∧HasB W dv s.data∧(∀ k,dv.ownBlock=some k→w.heap.size≤k)∧∀ k,(k=bB∨gv.ownBlock=some k)→dv.ownBlock≠some k
def FSnd (bB:Nat) (gv dv:Value) (k:Nat):Prop:=k=bB∨gv.ownBlock=some k∨dv.ownBlock=some k
theorem Snd.same {w W W':World} {bB:Nat} {gv dv:Value} {s:Snap} (h:Snd w W bB gv dv s) (hs:Same (FSnd bB gv dv) W W'):Snd w W' bB gv dv s :=
 ⟨(hs bB (.inl rfl)).trans h.1,zAL.keep h.2.1 fun k hk=>hs k (.inr (.inl hk)),zAL.keep h.2.2.1 fun k hk=>hs k (.inr (.inr hk)),h.2.2.2.1,h.2.2.2.2⟩
theorem nm_logt (pre:ByteArray):nm (pre ++ (⟨#[45,108,111,103,126]⟩:ByteArray))=zAH (logN (nm pre)):=by simp [nm,zAH,logN,logX]
theorem nm_snpt (pre:ByteArray):nm (pre ++ (⟨#[45,115,110,97,112,126]⟩:ByteArray))=zAH (snpN (nm pre)):=by simp [nm,zAH,snpN,snpX]
theorem set3_block {W:World} {b:Nat} {a0 a1 a2:Value} {e:TypeId} {fr:Nat × Nat} (h:W.heap[b]?=some (.cells #[a0,a1,a2] e fr)) (x0 x1 x2:Value) :
  (((W.setCell ⟨b,0,none⟩ x0).setCell ⟨b,1,none⟩ x1).setCell ⟨b,2,none⟩ x2).heap[b]?=some (.cells #[x0,x1,x2] e fr):=by
 have q1:=zAE h 0 x0
 have q2:=zAE q1 1 x1
 have q3:=zAE q2 2 x2
 simpa using q3
theorem set3_chg (W:World) (b:Nat) (x0 x1 x2:Value):Chg (fun k=>k=b) W (((W.setCell ⟨b,0,none⟩ x0).setCell ⟨b,1,none⟩ x1).setCell ⟨b,2,none⟩ x2) :=
 ((Chg.setCell W ⟨b,0,none⟩ x0).trans (Chg.setCell _ ⟨b,1,none⟩ x1) fun _ _ e=>e).trans (Chg.setCell _ ⟨b,2,none⟩ x2) fun _ _ e=>e
theorem zCr {w:World} {r:Nat} {v:Value} {L:List zAN} {own:Nat→Prop} {D:zAB} (h:zAY w r v L own D) (hroom:D.room≤1048576) (pre:ByteArray) {nodes:List Int} {pn:Option Addr} {nn cn:Nat} (hx:HasI w (.slice pn nn cn) nodes) (hnl:nodes.length≤1099511627776)
  (hsd:∀ O:OpensJ D (nm pre) nodes,(zDT (Sat.get (snpN (nm pre)) O.D2.files)).length≤524288) :
  Calls Tryz.prog 18 #[.pointer (some ⟨r,0,none⟩),.string pre,.slice pn nn cn] w (ROpened w r pre own (zAS D (nm pre) nodes)):=by
 have hsz:(nm pre).length=pre.size:=nm_len pre
 have Hgr:=zh (zC2 hx hnl)
 by_cases hp:pre.size < 1∨20 < pre.size
 ·have HE:=zh (fun q=>ropened_arg (pre:=pre) (k:=1) h (zAX w q) (oj_arg (pre:=nm pre) (nodes:=nodes) (by rw [hsz];exact hp.elim .inl fun h=>.inr (.inl h))) (by decide))
  clear h hsz hx
  generalize hzz:pre.size=z at *
  by_cases hz:z < 1
  ·have hz0:z=0:=by omega
   subst hz0
   go_enter Tryz.func18,Tryz.ntmps18
   go_wp2_with fail
   go_ret2
   exact HE.out 0
  ·have hz6:20 < z:=by omega
   go_enter Tryz.func18,Tryz.ntmps18
   go_wp2_with fail
   go_ret2
   exact HE.out 0
 cases hgg:zAW nodes with
 | false =>
  rw [hgg] at Hgr
  have HE:=zh (fun q=>ropened_arg (pre:=pre) (k:=1) h (zAX w q) (oj_arg (pre:=nm pre) (nodes:=nodes) (.inr (.inr hgg))) (by decide))
  clear h hsz hx hgg
  generalize hzz:pre.size=z at *
  go_enter Tryz.func18,Tryz.ntmps18
  go_wp2_with fail
  refine Hgr.out.mono ?_
  rintro e w2 ⟨rfl,q,rfl⟩
  go_wp2_with fail
  go_ret2
  exact HE.out q
 | true =>
  rw [hgg] at Hgr
  have hps:1≤pre.size∧pre.size≤20:=by omega
  have hok:¬ ((nm pre).length < 1∨20 < (nm pre).length∨zAW nodes=false):=by
   rw [hsz]
   rintro (h | h | h)
   ·omega
   ·omega
   ·rw [hgg] at h
    cases h
  obtain ⟨O⟩:=zEo D (nm pre) nodes
  have hrm1:=zEu D (zAH (logN (nm pre)))
  rw [O.h1] at hrm1
  have hrm2:=zEu O.D1 (zAH (snpN (nm pre)))
  rw [O.h2] at hrm2
  have Hrm:=zh (show O.D2.room≤1048576 by have h1:O.D1.room=D.room:=hrm1;have h2:O.D2.room=O.D1.room:=hrm2;omega)
  have Hh1:=zh O.h1
  have Hh2:=zh O.h2
  have Hhs:=zh O.hs
  have Hhl:=zh O.hl
  have HE1:=zh (oj_e1 O hok)
  have HE2:=zh (oj_e2 O hok)
  have HE3:=zh (oj_e3 O hok)
  have HE4:=zh (oj_e4 O hok)
  have HNo:=zh (oj_no O hok)
  have HKp:=zh (fun M=>oj_keep O hok (M:=M))
  have HAn:=zh (fun M=>oj_anew O hok (M:=M))
  have Hsd:=zh (hsd O)
  clear hrm1 hrm2 hsd
  generalize O.D1=D1 at *
  generalize O.e1=e1 at *
  generalize O.D2=D2 at *
  generalize O.e2=e2 at *
  generalize O.s=sn at *
  generalize O.l=li at *
  clear O
  obtain ⟨i0,hi,hz0,hz1,hz2⟩:=info_parts (show (Tryz.prog.info? 3).map (fun i=>(i.zero,i.size,i.bytes))=some (some (.int .i64 0),1,8) by kernel_rfl)
  have hn:nodes.length=nn:=by obtain ⟨_,_,e⟩:=hx.slice;simp only [Value.slice.injEq] at e;exact e.2.1.symm
  have Hn:=zh hn
  have hn7:nn≤7:=by rw [← hn];exact grp7 hgg
  have Hgg:=zh hgg
  have H:=zh h
  have Hx:=zh hx
  have hpz1:=hps.1
  have hpz2:=hps.2
  have hsl:(sLog pre).size=pre.size+4:=zEC pre
  have hssn:(sSnp pre).size=pre.size+5:=size_snp pre
  have hs1:(pre ++ (⟨#[45,108,111,103,126]⟩:ByteArray)).size=pre.size+5:=by simp [ByteArray.size_append];rfl
  have hs2:(pre ++ (⟨#[45,115,110,97,112,126]⟩:ByteArray)).size=pre.size+6:=by simp [ByteArray.size_append];rfl
  clear h hx hn hok hp hsz hgg hnl hroom
  go_enter Tryz.func18,Tryz.ntmps18
  go_wp2_with fail
  refine Hgr.out.mono ?_
  rintro e w1 ⟨rfl,q,rfl⟩
  have HB1:=zh (show Below w.heap.size w (w.drewN q) from ⟨rfl,rfl,rfl,Nat.le_refl _,fun _ _=>rfl⟩)
  generalize w.drewN q=w1 at *
  clear Hgr
  have hj1:=zAI w1 (.cells #[.int .i64 0,.int .i64 0,.slice none 0 0,.pointer (some ⟨r,0,none⟩),.string pre,.int .i64 0,.int .i64 (-1),.slice none 0 0,.slice none 0 0,.bool false] 84)
  have hsz1:(w1.alloc (.cells #[.int .i64 0,.int .i64 0,.slice none 0 0,.pointer (some ⟨r,0,none⟩),.string pre,.int .i64 0,.int .i64 (-1),.slice none 0 0,.slice none 0 0,.bool false] 84)).heap.size=w1.heap.size+1:=by simp
  have Hrow:=zh (show OwnR ((w1.alloc (.cells #[.int .i64 0,.int .i64 0,.slice none 0 0,.pointer (some ⟨r,0,none⟩),.string pre,.int .i64 0,.int .i64 (-1),.slice none 0 0,.slice none 0 0,.bool false] 84)).alloc (.cells #[] 3)) 3 1 (.slice (some ⟨w1.heap.size+1,0,none⟩) 0 0) 0 [] from by
   have:=zAz (w1.alloc (.cells #[.int .i64 0,.int .i64 0,.slice none 0 0,.pointer (some ⟨r,0,none⟩),.string pre,.int .i64 0,.int .i64 (-1),.slice none 0 0,.slice none 0 0,.bool false] 84)) 3
   rwa [hsz1] at this)
  have HBE:=zh (show Below w.heap.size w ((w1.alloc (.cells #[.int .i64 0,.int .i64 0,.slice none 0 0,.pointer (some ⟨r,0,none⟩),.string pre,.int .i64 0,.int .i64 (-1),.slice none 0 0,.slice none 0 0,.bool false] 84)).alloc (.cells #[] 3)) from (HB1.out.alloc HB1.out.size _).alloc (by have:=HB1.out.size;rw [hsz1];omega) _)
  have HjE:=zh (zAt (.cells #[] 3) hj1)
  have HszE:=zh (show ((w1.alloc (.cells #[.int .i64 0,.int .i64 0,.slice none 0 0,.pointer (some ⟨r,0,none⟩),.string pre,.int .i64 0,.int .i64 (-1),.slice none 0 0,.slice none 0 0,.bool false] 84)).alloc (.cells #[] 3)).heap.size=w1.heap.size+2 from by simp)
  have Hxx:=zh (show zAL ((w1.alloc (.cells #[.int .i64 0,.int .i64 0,.slice none 0 0,.pointer (some ⟨r,0,none⟩),.string pre,.int .i64 0,.int .i64 (-1),.slice none 0 0,.slice none 0 0,.bool false] 84)).alloc (.cells #[] 3)) 1 (.slice pn nn cn) nn (nodes.map (Value.int .i64)) from by
   have:=zAL.chg Hx.out (Chg.of_below HBE.out) fun _ _=>id
   rwa [Hn.out] at this)
  have Hs1:=zh HB1.out.size
  clear hj1 hsz1
  go_wp2_with (at_builtin;refine zAP _ rfl (.tmp 46) (.tmp 47) 38 rfl 3 i0 (.int .i64 0) 1 8 Tryz.underlying38 hi hz0 hz1 hz2 rfl (by decide) (.slice (some ⟨w1.heap.size+1,0,none⟩) 0 0) 0 _ rfl Hrow.out (.slice pn nn cn) nn _ rfl Hxx.out (fun u hu=>by obtain ⟨z,-,rfl⟩:=List.mem_map.1 hu;rfl) (by unfold maxLen;omega) (by omega) ?_;intro v3 w3 hown3 hgrow3 hloc3;go_loud (rw [Nat.zero_add,List.nil_append] at hown3;have HB3:=zh (HBE.out.grown hgrow3 HBE.out.size fun k e=>by (have e2:w1.heap.size+1=k:=Option.some.inj e;have:=Hs1.out;omega));have hj3:=(hgrow3.block w1.heap.size (by rw [HszE.out];omega) fun e=>by (have e2:w1.heap.size=w1.heap.size+1:=Option.some.inj e;omega)).trans HjE.out;have Hj3:=zh hj3;have c2:=zAA hj3 (i:=2) rfl;have f2:=zAF hj3 2;have Hnew3:=zh (zAp (B:=w1.heap.size+1) hloc3 (fun k hk=>by (have e2:w1.heap.size+1=k:=Option.some.inj hk;omega)) (by rw [HszE.out];omega));have HO3:=zh hown3;obtain ⟨p3,q3,rfl⟩:=OwnR.shape hown3;clear hown3 hgrow3 hloc3 hj3))
  clear c2 f2
  have Hj5:=zh (show ((w3.setCell ⟨w1.heap.size,2,none⟩ (.slice p3 nn q3)).alloc (.cells #[.string (pre ++ (⟨#[45,108,111,103,126]⟩:ByteArray)),.string (pre ++ (⟨#[45,115,110,97,112,126]⟩:ByteArray))] 9)).heap[w1.heap.size]?=some (RJC r 0 0 (.slice p3 nn q3) pre 0 (-1) (.slice none 0 0) (.slice none 0 0) false) from by
   refine zAt _ ?_
   have:=zAE Hj3.out 2 (.slice p3 nn q3)
   rw [show (#[Value.int IntKind.i64 0,.int .i64 0,.slice none 0 0,.pointer (some ⟨r,0,none⟩),.string pre,.int .i64 0,.int .i64 (-1),.slice none 0 0,.slice none 0 0,.bool false]:Array Value).setIfInBounds 2 (.slice p3 nn q3)=#[.int .i64 0,.int .i64 0,.slice p3 nn q3,.pointer (some ⟨r,0,none⟩),.string pre,.int .i64 0,.int .i64 (-1),.slice none 0 0,.slice none 0 0,.bool false] from rfl] at this
   exact this)
  have HB5s:=zh (show Below w.heap.size w (w3.setCell ⟨w1.heap.size,2,none⟩ (.slice p3 nn q3)) from (((Chg.of_below HB3.out).mono fun _ _ e=>e.elim:Chg (fun k=>k=w1.heap.size) w w3).trans (Chg.setCell w3 ⟨w1.heap.size,2,none⟩ _) fun k _ e=>e).below (Nat.le_refl _) fun k hk e=>by have:=Hs1.out;omega)
  have HB5:=zh (HB5s.out.alloc HB5s.out.size (.cells #[.string (pre ++ (⟨#[45,108,111,103,126]⟩:ByteArray)),.string (pre ++ (⟨#[45,115,110,97,112,126]⟩:ByteArray))] 9))
  have Htx:=zh (zAI (w3.setCell ⟨w1.heap.size,2,none⟩ (.slice p3 nn q3)) (.cells #[.string (pre ++ (⟨#[45,108,111,103,126]⟩:ByteArray)),.string (pre ++ (⟨#[45,115,110,97,112,126]⟩:ByteArray))] 9))
  have HI5:=zh (show HasI ((w3.setCell ⟨w1.heap.size,2,none⟩ (.slice p3 nn q3)).alloc (.cells #[.string (pre ++ (⟨#[45,108,111,103,126]⟩:ByteArray)),.string (pre ++ (⟨#[45,115,110,97,112,126]⟩:ByteArray))] 9)) (.slice p3 nn q3) nodes from by
   have h1:OwnR (w3.setCell ⟨w1.heap.size,2,none⟩ (.slice p3 nn q3)) 3 1 (.slice p3 nn q3) nn (nodes.map (Value.int .i64)):=HO3.out.keep fun k hk=>set_other _ fun e=>by have h2:=Hnew3.out k hk;have e2:k=w1.heap.size:=e;omega
   have h2:=OwnR.holds h1
   unfold HasI
   rw [Hn.out]
   exact zAL.chg h2 (Chg.alloc _ _) fun _ _ e=>e)
  have Hss:=zh (show (w3.setCell ⟨w1.heap.size,2,none⟩ (.slice p3 nn q3)).heap.size=w3.heap.size from by simp [World.setCell])
  rw [Hss.out] at Htx
  have HTb:=zh (show ∀ k,(Value.slice p3 nn q3).ownBlock=some k→k < w3.heap.size from fun k hk=>OwnR.lt HO3.out hk)
  have HTa:=zh (show w.heap.size≤w3.heap.size∧w3.heap.size≠w1.heap.size from ⟨HB3.out.size,fun e=>by have:=zAC Hj3.out;omega⟩)
  have HSZ:=zh (show ((w3.setCell ⟨w1.heap.size,2,none⟩ (.slice p3 nn q3)).alloc (.cells #[.string (pre ++ (⟨#[45,108,111,103,126]⟩:ByteArray)),.string (pre ++ (⟨#[45,115,110,97,112,126]⟩:ByteArray))] 9)).heap.size=w3.heap.size+1 from by simp [World.setCell])
  have HGV:=zh (show ∀ k,(Value.slice p3 nn q3).ownBlock=some k→w.heap.size≤k∧k < ((w3.setCell ⟨w1.heap.size,2,none⟩ (.slice p3 nn q3)).alloc (.cells #[.string (pre ++ (⟨#[45,108,111,103,126]⟩:ByteArray)),.string (pre ++ (⟨#[45,115,110,97,112,126]⟩:ByteArray))] 9)).heap.size∧k≠w1.heap.size from fun k hk=>⟨by have h1:=Hnew3.out k hk;have h2:=Hs1.out;omega,by rw [HSZ.out];have h1:=OwnR.lt HO3.out hk;omega,by have h1:=Hnew3.out k hk;omega⟩)
  clear HSZ
  clear Hrow HBE HjE HszE Hxx Hj3 HB3 Hnew3 HO3 HB5s Hss
  generalize hW5:(w3.setCell ⟨w1.heap.size,2,none⟩ (.slice p3 nn q3)).alloc (.cells #[.string (pre ++ (⟨#[45,108,111,103,126]⟩:ByteArray)),.string (pre ++ (⟨#[45,115,110,97,112,126]⟩:ByteArray))] 9)=W5 at *
  clear hW5
  have HROS:=zh (show ROS w (fun k=>k=w3.heap.size) w1.heap.size r pre own W5 D (JouM.none0 nodes) from ros_fresh H.out HB5.out hps Hgg.out Hj5.out Hs1.out HI5.out (fun k hk=>HGV.out k hk) (fun k hk=>⟨by rw [hk];exact zAC Htx.out,by rw [hk];exact HTa.out.1,by rw [hk];exact HTa.out.2,fun e=>by have h1:=HGV.out k e;have h2:=HTb.out k e;omega⟩))
  generalize w3.heap.size=ta at *
  generalize w1.heap.size=j at *
  go_loopw [10] (fun x wr=>wr.heap[ta]?=some (.cells #[.string (pre ++ (⟨#[45,108,111,103,126]⟩:ByteArray)),.string (pre ++ (⟨#[45,115,110,97,112,126]⟩:ByteArray))] 9 (0,0))∧((x=.int .i64 0∧ROS w (fun k=>k=ta) j r pre own wr D (JouM.none0 nodes))∨(x=.int .i64 1∧e1=0∧ROS w (fun k=>k=ta) j r pre own wr D1 (JouM.none0 nodes))∨(x=.int .i64 2∧e1=0∧e2=0∧ROS w (fun k=>k=ta) j r pre own wr D2 (JouM.none0 nodes)))) (fun i _=>2 - (intOf i).toNat)
  case atStart=>exact ⟨Htx.out,.inl ⟨rfl,HROS.out⟩⟩
  case round =>
   clear HROS Htx HGV HTa HTb HI5 Hj5 HB5
   obtain ⟨hta,hx⟩:=hrel
   rcases hx with ⟨rfl,hJ⟩ | ⟨rfl,he1,hJ⟩ | ⟨rfl,he1,he2,hJ⟩
   ·have htx:=hta
    have k0:=zAA htx (i:=0) rfl
    have k1:=zAA htx (i:=1) rfl
    obtain ⟨v0,L0,own0,hRf⟩:=ros_ref hJ
    have Hrd:=zh (zCE hRf (pre ++ (⟨#[45,108,111,103,126]⟩:ByteArray)))
    rw [nm_logt] at Hrd
    have HJw:=zh hJ
    have Hta:=zh hta
    clear hRf htx
    cases hg:Sat.get (zAH (logN (nm pre))) D.files with
    | none =>
     have hr:D.rid1 (zAH (logN (nm pre)))=(D,0):=by unfold zAB.rid1;rw [hg];rfl
     have hr2:=Hh1.out
     rw [hr] at hr2
     have hr3:D=D1:=congrArg Prod.fst hr2
     have hr4:0=e1:=congrArg Prod.snd hr2
     have hr7:zCq (none:Option zAV)=7:=rfl
     rw [hg] at Hrd
     have He0:=zh (show e1=0 from hr4.symm)
     have HJn:=zh (show ROS w (fun k=>k=ta) j r pre own wr D1 (JouM.none0 nodes) from hr3 ▸ HJw.out)
     clear hJ hta hg hr hr2 hr3 hr4 hr7
     go_wp2_with fail
     refine Hrd.out.mono ?_
     rintro e w3 ⟨v3,rfl,-,-,hb3⟩
     have HE:=zh (And.intro ((hb3.block ta (zAC Hta.out)).trans Hta.out) (HJn.out.next hb3))
     clear hb3 Hrd
     rw [show zCq (none:Option zAV)=7 from rfl]
     go_wp2_with fail
     go_roundw
     case rel=>first | exact ⟨HE.out.1,.inr (.inl ⟨rfl,He0.out,HE.out.2⟩)⟩ | ((repeat apply Exists.intro);exact ⟨⟨HE.out.1,.inr (.inl ⟨rfl,He0.out,HE.out.2⟩)⟩,rfl⟩)
     case measure=>simp [intOf]
    | some f =>
     have hr:D.remove [zAH (logN (nm pre))]=(D1,e1):=by
      have:=Hh1.out
      unfold zAB.rid1 at this
      rw [hg] at this
      exact this
     rw [hg] at Hrd
     have Hrm:=zh (fun W (h:ROS w (fun k=>k=ta) j r pre own W D (JouM.none0 nodes))=>show Calls Tryz.prog 82 #[.pointer (some ⟨r,0,none⟩),.string (pre ++ (⟨#[45,108,111,103,126]⟩:ByteArray))] W fun e w'=>e=.returned (.int .i64 (e1:Int))∧ROS w (fun k=>k=ta) j r pre own w' D1 (JouM.none0 nodes)∧Same (fun k=>k=ta) W w' from by
      have:=zEA (Re:=D.remove [nm (pre ++ (⟨#[45,108,111,103,126]⟩:ByteArray))]) h (Below.refl _ _) fun v L own1 hR=>rrem_calls hR (pre ++ (⟨#[45,108,111,103,126]⟩:ByteArray)) (by rw [hs1];omega)
      rwa [nm_logt,hr] at this)
     clear hJ hta hg hr
     by_cases he:e1=0
     ·have He0:=zh he
      rw [he] at Hrm
      clear he
      go_wp2_with fail
      refine Hrd.out.mono ?_
      rintro e w3 ⟨v3,rfl,-,-,hb3⟩
      have HJ3:=zh (HJw.out.next hb3)
      have hta3:=(hb3.block ta (zAC Hta.out)).trans Hta.out
      have Hta3:=zh hta3
      have k0:=zAA hta3 (i:=0) rfl
      have k1:=zAA hta3 (i:=1) rfl
      have Hrm3:=zh (Hrm.out w3 HJ3.out)
      clear hb3 Hrd hta3 Hrm
      rw [show ∀ f:zAV,zCq (some f)=0 from fun _=>rfl]
      go_wp2_with fail
      refine Hrm3.out.mono ?_
      rintro e w4 ⟨rfl,hj4,hs4⟩
      have HE:=zh (And.intro ((hs4 ta rfl).trans Hta3.out) hj4)
      clear hj4 hs4 Hrm3 k0 k1
      go_wp2_with fail
      go_roundw
      case rel=>first | exact ⟨HE.out.1,.inr (.inl ⟨rfl,He0.out,HE.out.2⟩)⟩ | ((repeat apply Exists.intro);exact ⟨⟨HE.out.1,.inr (.inl ⟨rfl,He0.out,HE.out.2⟩)⟩,rfl⟩)
      case measure=>simp [intOf]
     ·have hne:((e1:Int) != 0)=true:=by simp;omega
      have HR:=zh (HE1.out he)
      have He:=zh he
      clear he
      go_wp2_with fail
      refine Hrd.out.mono ?_
      rintro e w3 ⟨v3,rfl,-,-,hb3⟩
      have HJ3:=zh (HJw.out.next hb3)
      have hta3:=(hb3.block ta (zAC Hta.out)).trans Hta.out
      have k0:=zAA hta3 (i:=0) rfl
      have k1:=zAA hta3 (i:=1) rfl
      have Hrm3:=zh (Hrm.out w3 HJ3.out)
      clear hb3 Hrd hta3 Hrm
      rw [show ∀ f:zAV,zCq (some f)=0 from fun _=>rfl]
      go_wp2_with fail
      refine Hrm3.out.mono ?_
      rintro e w4 ⟨rfl,hj4,hs4⟩
      have HE:=zh (zAc hj4 HR.out He.out)
      clear hj4 hs4 Hrm3 k0 k1
      go_wp2_with fail
      go_ret2
      exact HE.out
   ·have He1:=zh he1
    clear he1
    have htx:=hta
    have k0:=zAA htx (i:=0) rfl
    have k1:=zAA htx (i:=1) rfl
    obtain ⟨v0,L0,own0,hRf⟩:=ros_ref hJ
    have Hrd:=zh (zCE hRf (pre ++ (⟨#[45,115,110,97,112,126]⟩:ByteArray)))
    rw [nm_snpt] at Hrd
    have HJw:=zh hJ
    have Hta:=zh hta
    clear hRf htx
    cases hg:Sat.get (zAH (snpN (nm pre))) D1.files with
    | none =>
     have hr:D1.rid1 (zAH (snpN (nm pre)))=(D1,0):=by unfold zAB.rid1;rw [hg];rfl
     have hr2:=Hh2.out
     rw [hr] at hr2
     have hr3:D1=D2:=congrArg Prod.fst hr2
     have hr4:0=e2:=congrArg Prod.snd hr2
     have hr7:zCq (none:Option zAV)=7:=rfl
     rw [hg] at Hrd
     have He0:=zh (show e2=0 from hr4.symm)
     have HJn:=zh (show ROS w (fun k=>k=ta) j r pre own wr D2 (JouM.none0 nodes) from hr3 ▸ HJw.out)
     clear hJ hta hg hr hr2 hr3 hr4 hr7
     go_wp2_with fail
     refine Hrd.out.mono ?_
     rintro e w3 ⟨v3,rfl,-,-,hb3⟩
     have HE:=zh (And.intro ((hb3.block ta (zAC Hta.out)).trans Hta.out) (HJn.out.next hb3))
     clear hb3 Hrd
     rw [show zCq (none:Option zAV)=7 from rfl]
     go_wp2_with fail
     go_roundw
     case rel=>first | exact ⟨HE.out.1,.inr (.inr ⟨rfl,He1.out,He0.out,HE.out.2⟩)⟩ | ((repeat apply Exists.intro);exact ⟨⟨HE.out.1,.inr (.inr ⟨rfl,He1.out,He0.out,HE.out.2⟩)⟩,rfl⟩)
     case measure=>simp [intOf]
    | some f =>
     have hr:D1.remove [zAH (snpN (nm pre))]=(D2,e2):=by
      have:=Hh2.out
      unfold zAB.rid1 at this
      rw [hg] at this
      exact this
     rw [hg] at Hrd
     have Hrm:=zh (fun W (h:ROS w (fun k=>k=ta) j r pre own W D1 (JouM.none0 nodes))=>show Calls Tryz.prog 82 #[.pointer (some ⟨r,0,none⟩),.string (pre ++ (⟨#[45,115,110,97,112,126]⟩:ByteArray))] W fun e w'=>e=.returned (.int .i64 (e2:Int))∧ROS w (fun k=>k=ta) j r pre own w' D2 (JouM.none0 nodes)∧Same (fun k=>k=ta) W w' from by
      have:=zEA (Re:=D1.remove [nm (pre ++ (⟨#[45,115,110,97,112,126]⟩:ByteArray))]) h (Below.refl _ _) fun v L own1 hR=>rrem_calls hR (pre ++ (⟨#[45,115,110,97,112,126]⟩:ByteArray)) (by rw [hs2];omega)
      rwa [nm_snpt,hr] at this)
     clear hJ hta hg hr
     by_cases he:e2=0
     ·have He0:=zh he
      rw [he] at Hrm
      clear he
      go_wp2_with fail
      refine Hrd.out.mono ?_
      rintro e w3 ⟨v3,rfl,-,-,hb3⟩
      have HJ3:=zh (HJw.out.next hb3)
      have hta3:=(hb3.block ta (zAC Hta.out)).trans Hta.out
      have Hta3:=zh hta3
      have k0:=zAA hta3 (i:=0) rfl
      have k1:=zAA hta3 (i:=1) rfl
      have Hrm3:=zh (Hrm.out w3 HJ3.out)
      clear hb3 Hrd hta3 Hrm
      rw [show ∀ f:zAV,zCq (some f)=0 from fun _=>rfl]
      go_wp2_with fail
      refine Hrm3.out.mono ?_
      rintro e w4 ⟨rfl,hj4,hs4⟩
      have HE:=zh (And.intro ((hs4 ta rfl).trans Hta3.out) hj4)
      clear hj4 hs4 Hrm3 k0 k1
      go_wp2_with fail
      go_roundw
      case rel=>first | exact ⟨HE.out.1,.inr (.inr ⟨rfl,He1.out,He0.out,HE.out.2⟩)⟩ | ((repeat apply Exists.intro);exact ⟨⟨HE.out.1,.inr (.inr ⟨rfl,He1.out,He0.out,HE.out.2⟩)⟩,rfl⟩)
      case measure=>simp [intOf]
     ·have hne:((e2:Int) != 0)=true:=by simp;omega
      have HR:=zh (HE2.out He1.out he)
      have He:=zh he
      clear he
      go_wp2_with fail
      refine Hrd.out.mono ?_
      rintro e w3 ⟨v3,rfl,-,-,hb3⟩
      have HJ3:=zh (HJw.out.next hb3)
      have hta3:=(hb3.block ta (zAC Hta.out)).trans Hta.out
      have k0:=zAA hta3 (i:=0) rfl
      have k1:=zAA hta3 (i:=1) rfl
      have Hrm3:=zh (Hrm.out w3 HJ3.out)
      clear hb3 Hrd hta3 Hrm
      rw [show ∀ f:zAV,zCq (some f)=0 from fun _=>rfl]
      go_wp2_with fail
      refine Hrm3.out.mono ?_
      rintro e w4 ⟨rfl,hj4,hs4⟩
      have HE:=zh (zAc hj4 HR.out He.out)
      clear hj4 hs4 Hrm3 k0 k1
      go_wp2_with fail
      go_ret2
      exact HE.out
   ·have He1:=zh he1
    have He2:=zh he2
    have HJ2:=zh (hJ.less (F':=fun _=>False) fun _ h=>h.elim)
    have hb0:=zAD wr (.cells #[.int .i64 0,.int .i64 0,.slice none 0 0] 82)
    have HB0:=zh hb0
    have HSB:=zh (show (wr.alloc (.cells #[.int .i64 0,.int .i64 0,.slice none 0 0] 82)).heap.size=wr.heap.size+1 from by simp)
    have HqB:=zh (zAI wr (.cells #[.int .i64 0,.int .i64 0,.slice none 0 0] 82))
    have HJ3:=zh (HJ2.out.next hb0)
    obtain ⟨v0,L0,own0,hRf⟩:=ros_ref HJ3.out
    have Hlo:=zh (rload_calls hRf (sSnp pre))
    rw [nm_snp] at Hlo
    have Hhs2:=zh Hhs.out
    have Hsd2:=zh Hsd.out
    clear he1 he2 hJ hta hb0 hRf
    generalize hof:Sat.get (snpN (nm pre)) D2.files=of at *
    go_wp2_with fail
    refine Hlo.out.mono ?_
    rintro e w6 ⟨v6,rfl,hv6,hn6,hb6⟩
    have HB6:=zh (HB0.out.trans (hb6.mono HB0.out.size))
    rcases loadE_cases of with hl | hl | hl
    rotate_left
    ·have hsn:sn=(3,none):=Hhs2.out.symm.trans (snapOf_3 hl)
     have HE:=zh (zAc (HJ3.out.next hb6) (show zAS D (nm pre) nodes=(D2,3,JouM.none0 nodes) from by have h9:=HE3.out He1.out He2.out;rw [hsn] at h9;exact h9 (by decide)) (by decide))
     rw [hl]
     clear hl hsn hv6 hn6 hb6 Hlo
     go_wp2_with fail
     go_ret2
     exact HE.out
    ·have hsn:sn=(0,none):=Hhs2.out.symm.trans (snapOf_7 hl)
     obtain ⟨ks,hks⟩:∃ ks,ks=sn.1:=⟨_,rfl⟩
     have Hks:=zh (show sn.1=0 from by rw [hsn])
     have HNo0:=zh (show e1=0→e2=0→sn.1=0→li.2.1=0→zAd none li.2.2.2 li.2.2.1=none→zAS D (nm pre) nodes=(li.1,3,JouM.none0 nodes) from by have h9:=HNo.out;rw [hsn] at h9 ⊢;exact h9)
     have HKp0:=zh (show ∀ M,e1=0→e2=0→sn.1=0→li.2.1=0→zAd none li.2.2.2 li.2.2.1=some (false,M)→zAS D (nm pre) nodes=(li.1,0,M) from by have h9:=HKp.out;rw [hsn] at h9 ⊢;exact h9)
     have HAn0:=zh (show ∀ M,e1=0→e2=0→sn.1=0→li.2.1=0→zAd none li.2.2.2 li.2.2.1=some (true,M)→zAS D (nm pre) nodes=((zAR li.1 (nm pre) M).1,(zAR li.1 (nm pre) M).2,M) from by have h9:=HAn.out;rw [hsn] at h9 ⊢;exact h9)
     have HS7:=zh (HJ3.out.next hb6)
     rw [hl]
     clear hl hsn hv6 hn6 hb6 Hlo hks HNo HKp HAn HqB HB6 HB0 HJ3 HJ2
     generalize hW7:w6=W7 at *
     clear hW7
     go_wp2_with fail
     obtain ⟨v0,L0,own0,hRf⟩:=ros_ref HS7.out
     have Hrd:=zh (zCE hRf (sLog pre))
     rw [zBf] at Hrd
     have HOkD2:=zh HS7.out.okD
     have hdl0:=zD2 HS7.out.okD (logN (nm pre))
     clear hRf
     cases hg:Sat.get (logN (nm pre)) D2.files with
     | none =>
      have hli:li=(D2,0,true,JouM.none0 nodes):=Hhl.out.symm.trans (zDs hg)
      have hli0:=Hhl.out
      obtain ⟨D3,hD3⟩:∃ D3,D3=D2:=⟨_,rfl⟩
      obtain ⟨M3,hM3⟩:∃ M3,M3=JouM.none0 nodes:=⟨_,rfl⟩
      rw [← hD3,← hM3] at hli
      have HNo:=zh (show zAd none M3 true=none→zAS D (nm pre) nodes=(D3,3,JouM.none0 nodes) from fun hj=>by have h9:=HNo0.out He1.out He2.out Hks.out;rw [hli] at h9;exact h9 rfl hj)
      have HKp:=zh (show ∀ M,zAd none M3 true=some (false,M)→zAS D (nm pre) nodes=(D3,0,M) from fun M hj=>by have h9:=HKp0.out M He1.out He2.out Hks.out;rw [hli] at h9;exact h9 rfl hj)
      have HAn:=zh (show ∀ M,zAd none M3 true=some (true,M)→zAS D (nm pre) nodes=((zAR D3 (nm pre) M).1,(zAR D3 (nm pre) M).2,M) from fun M hj=>by have h9:=HAn0.out M He1.out He2.out Hks.out;rw [hli] at h9;exact h9 rfl hj)
      have Hlen:=zh (zBq (D:=D2) (D':=D3) (pre:=nm pre) (M:=JouM.none0 nodes) (M':=M3) HOkD2.out Hrm.out (show (JouM.none0 nodes).entries=[] from rfl) (hli0.trans hli))
      rw [hg] at Hrd
      have HS7b:=zh (show ROS w (fun _=>False) j r pre own W7 D3 M3 from by rw [hD3,hM3];exact HS7.out)
      clear hg hdl0 hli hli0 hD3 hM3
      go_wp2_with fail
      refine Hrd.out.mono ?_
      rintro e WT ⟨v3,rfl,-,-,hb3⟩
      have HST:=zh (HS7b.out.next hb3)
      
      clear hb3 Hrd
      rw [show zCq (none:Option zAV)=7 from rfl]
      obtain ⟨gvT,dvT,evT,hcellT⟩:=HST.out.cells
      have c0:=zAA hcellT (i:=0) rfl
      clear hcellT
      by_cases hn0:0 < M3.number
      ·have HR:=zh (HNo.out (show zAd none M3 true=none from by unfold zAd;exact if_pos hn0))
       have HE:=zh (fun q=>zAc (HST.out.next (zAX WT q)) HR.out (by decide))
       have d0:decide ((0:Int) < (M3.number:Int))=true:=by simp;omega
       have d0n:decide (0 < M3.number)=true:=by simp;omega
       clear hn0
       go_wp2_with fail
       go_quiet (fail)
       go_wp2_with fail
       go_ret2
       exact HE.out _
      ·have HJn:=zh (show zAd none M3 true=some (true,M3) from by unfold zAd;exact if_neg hn0)
       have d0:decide ((0:Int) < (M3.number:Int))=false:=by simp;omega
       have d0n:decide (0 < M3.number)=false:=by simp;omega
       clear hn0
       have HR0:=HAn.out _ HJn.out
       go_wp2_with fail
       go_quiet (fail)
       go_wp2_with fail
       go_quiet (fail)
       go_wp2_with fail
       generalize hWQ:(World.drewN _ _)=WQ
       have HJQ:=zh (show ROS w (fun _=>False) j r pre own WQ D3 M3 from by rw [← hWQ];exact HST.out.next (zAX WT _))
       clear hWQ c0
       cases hwj:zAR D3 (nm pre) M3 with
       | mk D4 e4 =>
        have Hwj:=zh (zEv HJQ.out Hlen.out)
        rw [hwj] at Hwj
        have HRw:=HR0
        rw [hwj] at HRw
        have HRw:=zh HRw
        clear hwj
        by_cases he4:e4=0
        ·subst he4
         go_wp2_with fail
         refine Hwj.out.mono ?_
         rintro e w9 ⟨rfl,hj9,hs9⟩
         have HE:=zh (zBA hj9 HRw.out)
         clear hj9 hs9 Hwj
         go_wp2_with fail
         go_ret2
         exact HE.out
        ·have hne4:((e4:Int) != 0)=true:=by simp;omega
         have He4:=zh he4
         clear he4
         go_wp2_with fail
         refine Hwj.out.mono ?_
         rintro e w9 ⟨rfl,hj9,hs9⟩
         have HE:=zh (zAc hj9 HRw.out He4.out)
         clear hj9 hs9 Hwj
         go_wp2_with fail
         go_ret2
         exact HE.out
     | some f =>
      have hdl:f.data.length≤1073741824:=by rw [hg] at hdl0;exact hdl0
      have HRb:=zh (zEM (M:=JouM.none0 nodes) hg)
      have HRo:=zh (fun M'=>readLog_ok (M:=JouM.none0 nodes) (M':=M') hg)
      rw [hg] at Hrd
      clear hg hdl0
      go_wp2_with fail
      refine Hrd.out.mono ?_
      rintro e w3 ⟨v3,rfl,hv3,hn3,hb3⟩
      have HS3:=zh (HS7.out.next hb3)
      
      have hv3:OwnB w3 5 v3 f.data:=hv3
      obtain ⟨pb,cb,rfl,hcap⟩:=zAO hv3
      have Hsc:=zh (rscan_calls hv3.has hcap hdl)
      clear hb3 hv3 hn3 hcap Hrd
      have hq30:=scan_le f.data
      generalize hlen:f.data.length=len at *
      rw [show ∀ f:zAV,zCq (some f)=0 from fun _=>rfl]
      go_wp2_with fail
      refine Hsc.out.mono ?_
      rintro e w4 ⟨v4,vs,rfl,hr4,hn4,hb4⟩
      have HS4:=zh (show ROS w (fun k=>(fun _=>False) k∨(v4.ownBlock=some k∨∃ u ∈ vs,u.ownBlock=some k)) j r pre own w4 D2 (JouM.none0 nodes) from HS3.out.more hb4 fun k hk=>by
       rcases hk with hk | hk | ⟨u,hu,hk⟩
       ·exact .inl hk
       ·exact .inr ⟨hn4.1 k hk,OwnR.lt hr4.row hk⟩
       ·refine .inr ⟨hn4.2 u hu k hk,?_⟩
        obtain ⟨i,hi,rfl⟩:=List.getElem_of_mem hu
        have hil:i < (scan f.data).1.length:=by rw [← hr4.len];exact hi
        exact OwnR.lt (hr4.has i _ _ (List.getElem?_eq_getElem hi) (List.getElem?_eq_getElem hil)) hk)
      
      have HR4:=zh hr4
      have Hrl:=zh (show ∀ x ∈ (scan f.data).1,x.length≤1073741824 from fun x hx=>scanJ_row hdl hlen hx)
      clear hr4 hn4 hb4 Hsc HS3
      obtain ⟨pr,cr,hv4⟩:=OwnR.shape HR4.out.row
      generalize hq:(scan f.data).2=q at *
      generalize hrows:(scan f.data).1=rows at *
      have hnr:rows.length≤1073741824:=zER hdl hlen hrows
      generalize hnn:rows.length=n at *
      have Hnn:=zh hnn
      subst hv4
      clear hq hrows hnn hlen
      by_cases hn0:n=0
      ·have hrn:rows=[]:=List.eq_nil_of_length_eq_zero (by rw [Hnn.out,hn0])
       have hli:li=(D2,3,false,JouM.none0 nodes):=Hhl.out.symm.trans (HRb.out (by rw [hrn];rfl))
       have HE:=zh (zAc HS4.out (show zAS D (nm pre) nodes=(D2,3,JouM.none0 nodes) from by have h9:=HE4.out He1.out He2.out Hks.out;rw [hli] at h9;exact h9 (show (3:Nat)≠0 by decide)) (by decide))
       have e0:((n:Int) == 0)=true:=by simp;omega
       clear hrn hn0 hli
       go_wp2_with fail
       go_ret2
       exact HE.out
      ·have e0:((n:Int) == 0)=false:=by simp;omega
       have Hn0:=zh hn0
       clear hn0
       obtain ⟨S,hN,hSlt,hSb,hSx⟩:=ros_new HS4.out
       have HSx:=zh hSx
       clear hSx
       have HN0:=zh hN
       have HSlt:=zh hSlt
       have HSb:=zh hSb
       have Hjf:=zh (fun k hk=>HS4.out.fj (k:=k) hk)
       clear hN hSlt hSb
       go_wp2_with fail
       go_loopw [23] (fun i wr=>∃ (k:Nat) (Mk:JouM),k≤n∧i=.int .i64 k∧(k=0→Mk=JouM.none0 nodes)∧Mk.entries.length≤k∧zBI (fun k=>S k∨w4.heap.size≤k) wr j r pre Mk∧Chg (fun k=>S k∨w4.heap.size≤k) w4 wr∧zBx (JouM.none0 nodes) rows=restJ k Mk (rows.drop k)) (fun i _=>n - (intOf i).toNat)
       case atStart=>exact ⟨0,JouM.none0 nodes,Nat.zero_le _,rfl,fun _=>rfl,Nat.zero_le _,HN0.out.wide fun _ h=>.inl h,Chg.refl _ _,rfl⟩
       case round =>
        clear HN0 e0
        obtain ⟨k,Mk,hk,rfl,hk1,hmk,hN,hC,hre⟩:=hrel
        have hsame:∀ x,(fun k=>(fun _=>False) k∨((Value.slice pr n cr).ownBlock=some k∨∃ u ∈ vs,u.ownBlock=some k)) x→wr.heap[x]?=w4.heap[x]?:=fun x hx=>hC.block x (HS4.out.flt hx) fun e=>e.elim (fun e=>(HSlt.out x e).2 hx) fun e=>by have:=HS4.out.flt hx;omega
        by_cases hlt:k < n
        ·have hkl:k < rows.length:=by rw [Hnn.out];exact hlt
         rw [List.drop_eq_getElem_cons hkl,restJ_cons] at hre
         have hRW:=HR4.out.keepJ (w':=wr) fun x hx=>hsame x (.inr hx)
         have hkv:k < vs.length:=by rw [hRW.len];exact hkl
         have hxr:=hRW.has k _ _ (List.getElem?_eq_getElem hkv) (List.getElem?_eq_getElem hkl)
         have hcell:∃ g,pr=some ⟨g,0,none⟩∧wr.cell? ⟨g,k,none⟩=some vs[k]:=by
          rcases hRW.row.2 with ⟨-,h0⟩ | ⟨g,cap,cur,e,-⟩
          ·omega
          ·refine ⟨g,?_,?_⟩
           ·simp only [Value.slice.injEq] at e
            exact e.1
           ·have hc:=hRW.row.cells (g:=g) (by rw [e];rfl) k _ (List.getElem?_eq_getElem hkv)
            rwa [add_zero] at hc
         obtain ⟨g,rfl,hcell⟩:=hcell
         have hx30:=Hrl.out _ (List.getElem_mem hkl)
         obtain ⟨px,cx,hpx,hcx⟩:=zAO hxr
         have hxF:∀ y,vs[k].ownBlock=some y→(fun k=>(fun _=>False) k∨((Value.slice (some ⟨g,0,none⟩) n cr).ownBlock=some k∨∃ u ∈ vs,u.ownBlock=some k)) y:=fun y hy=>.inr (.inr ⟨vs[k],List.getElem_mem hkv,hy⟩)
         rw [hpx] at hxr hcell hxF
         have Hrec:=zh (rreads_calls hN (decide (k=0)) (fun hf=>by rw [hk1 (by simpa using hf)];rfl) hxr.has hcx hx30 (fun y hy=>OwnR.lt hxr hy) (fun y hy=>Hjf.out y (hxF y hy)) (by omega))
         have HC:=zh hC
         have hkb:((k:Int) == 0)=decide (k=0):=by
          by_cases h0:k=0
          ·subst h0;rfl
          ·rw [decide_eq_false h0];simp;omega
         cases hc:rec1 (decide (k=0)) Mk rows[k] with
         | none =>
          rw [hc] at hre
          rw [hc] at Hrec
          have hli:li=(D2,3,false,JouM.none0 nodes):=Hhl.out.symm.trans (HRb.out hre)
          have HLI:=zh (show zAS D (nm pre) nodes=(D2,3,JouM.none0 nodes) from by have h9:=HE4.out He1.out He2.out Hks.out;rw [hli] at h9;exact h9 (show (3:Nat)≠0 by decide))
          clear hN hC hre hRW hxr hx30 hc hpx hkv hk1 hli hsame hcx hxF
          generalize rows[k]=x at *
          generalize x.length=m at *
          generalize decide (k=0)=fk at *
          clear hkl
          go_wp2_with fail
          refine Hrec.out.mono ?_
          rintro e w6 ⟨hc6,he6⟩
          obtain rfl:e=.returned (.bool false):=he6
          have HE:=zh (ropened_bad2 (pre:=pre) (HSx.out w6 (HC.out.trans hc6 fun _ _ h=>h)) HLI.out (by decide))
          clear hc6 Hrec
          go_wp2_with fail
          go_ret2
          exact HE.out
         | some Mn =>
          rw [hc] at hre
          rw [hc] at Hrec
          have hml:=rec1_len hc
          have Hml:=zh (show Mn.entries.length≤k+1 by omega)
          have Hre:=zh (show zBx (JouM.none0 nodes) rows=restJ (k+1) Mn (rows.drop (k+1)) from hre)
          clear hN hC hre hRW hxr hx30 hc hpx hkv hk1 hsame hcx hxF hml hmk
          generalize rows[k]=x at *
          generalize x.length=m at *
          generalize decide (k=0)=fk at *
          clear hkl
          go_wp2_with fail
          refine Hrec.out.mono ?_
          rintro e w6 ⟨hc6,he6,hn6⟩
          subst he6
          have HE:=zh (And.intro (hn6.wide fun y hy=>hy.elim id fun h=>.inr (Nat.le_trans HC.out.size h)) (HC.out.trans hc6 fun _ _ h=>h))
          clear hc6 hn6
          go_wp2_with fail
          go_roundw
          case rel=>exact ⟨k+1,Mn,by omega,by go_num,fun h=>by omega,Hml.out,HE.out.1,HE.out.2,Hre.out⟩
          case measure=>simp [intOf];omega
        ·have hkn:k=n:=by omega
         subst hkn
         have hre2:zBx (JouM.none0 nodes) rows=some Mk:=by
          rw [hre,List.drop_of_length_le (by rw [Hnn.out];exact Nat.le_refl _)]
          cases k with
          | zero=>exact absurd rfl Hn0.out
          | succ k=>rfl
         have HRm:=zh (HRo.out Mk hre2)
         have HSw:=zh (show ROS w (fun _=>False) j r pre own wr D2 Mk from (HSb.out wr Mk hN hC).1.less fun _ h=>.inl h)
         
         clear hN hC hre hre2 HR4 HS4 Hrl HRb HRo Hn0 Hnn hk1 hsame HSb HSlt Hjf hmk
         generalize hMz:Mk=M3 at *
         clear hMz
         by_cases hqq:q < len
         ·have dq:decide ((q:Int) < (len:Int))=true:=by simp;omega
          have dqn:decide (q < len)=true:=by simp;omega
          cases htr:D2.truncate (logN (nm pre)) (q:Int) with
          | mk Dt e1t =>
           have Htr:=zh (show Calls Tryz.prog 90 #[.pointer (some ⟨r,0,none⟩),.string (sLog pre),.int .i64 (q:Int)] wr fun e w'=>e=.returned (.int .i64 (e1t:Int))∧ROS w (fun _=>False) j r pre own w' Dt M3∧Same (fun _=>False) wr w' from by
            have:=zEA (Re:=D2.truncate (nm (sLog pre)) (q:Int)) HSw.out (Below.refl _ _) fun v L own1 hR=>rtrunc_calls hR (sLog pre) (by rw [hsl];omega) (q:Int) (by omega) (by omega)
            rwa [zBf,htr] at this)
           by_cases he1t:e1t=0
           ·subst he1t
            cases hsy:Dt.sync [logN (nm pre)] with
            | mk D3 e2t =>
             have hT:zA0 D2 (logN (nm pre)) q len=(D3,e2t):=by unfold zA0;rw [if_pos hqq,htr,if_neg (by simp)];exact hsy
             have hR:=HRm.out
             rw [hT] at hR
             have Hsy:=zh (fun W (h:ROS w (fun _=>False) j r pre own W Dt M3)=>show Calls Tryz.prog 91 #[.pointer (some ⟨r,0,none⟩),.string (sLog pre)] W fun e w'=>e=.returned (.int .i64 (e2t:Int))∧ROS w (fun _=>False) j r pre own w' D3 M3∧Same (fun _=>False) W w' from by
              have:=zEA (Re:=Dt.sync [nm (sLog pre)]) h (Below.refl _ _) fun v L own1 hR=>zDc hR (sLog pre) (by rw [hsl];omega)
              rwa [zBf,hsy] at this)
             clear htr hsy hT HRm
             by_cases he2t:e2t=0
             ·subst he2t
              have hli:li=(D3,0,false,M3):=Hhl.out.symm.trans hR
              have hli0:=Hhl.out
              have HNo:=zh (show zAd none M3 false=none→zAS D (nm pre) nodes=(D3,3,JouM.none0 nodes) from fun hj=>by have h9:=HNo0.out He1.out He2.out Hks.out;rw [hli] at h9;exact h9 rfl hj)
              have HKp:=zh (show ∀ M,zAd none M3 false=some (false,M)→zAS D (nm pre) nodes=(D3,0,M) from fun M hj=>by have h9:=HKp0.out M He1.out He2.out Hks.out;rw [hli] at h9;exact h9 rfl hj)
              have HAn:=zh (show ∀ M,zAd none M3 false=some (true,M)→zAS D (nm pre) nodes=((zAR D3 (nm pre) M).1,(zAR D3 (nm pre) M).2,M) from fun M hj=>by have h9:=HAn0.out M He1.out He2.out Hks.out;rw [hli] at h9;exact h9 rfl hj)
              have Hlen:=zh (zBq (D:=D2) (D':=D3) (pre:=nm pre) (M:=JouM.none0 nodes) (M':=M3) HOkD2.out Hrm.out (show (JouM.none0 nodes).entries=[] from rfl) (hli0.trans hli))
              clear hli hli0 hR
              go_wp2_with fail
              refine Htr.out.mono ?_
              rintro e w6 ⟨rfl,hj6,hs6⟩
              have Hsy6:=zh (Hsy.out w6 hj6)
              
              clear hj6 hs6 Htr Hsy
              go_wp2_with fail
              refine Hsy6.out.mono ?_
              rintro e WT ⟨rfl,hj7,hs7⟩
              have HST:=zh hj7
              
              clear hj7 hs7 Hsy6
              obtain ⟨gvT,dvT,evT,hcellT⟩:=HST.out.cells
              have c0:=zAA hcellT (i:=0) rfl
              clear hcellT
              by_cases hn0:0 < M3.number
              ·have HR:=zh (HNo.out (show zAd none M3 false=none from by unfold zAd;exact if_pos hn0))
               have HE:=zh (fun q=>zAc (HST.out.next (zAX WT q)) HR.out (by decide))
               have d0:decide ((0:Int) < (M3.number:Int))=true:=by simp;omega
               have d0n:decide (0 < M3.number)=true:=by simp;omega
               clear hn0
               go_wp2_with fail
               go_quiet (fail)
               go_wp2_with fail
               go_ret2
               exact HE.out _
              ·have HJn:=zh (show zAd none M3 false=some (false,M3) from by unfold zAd;exact if_neg hn0)
               have d0:decide ((0:Int) < (M3.number:Int))=false:=by simp;omega
               have d0n:decide (0 < M3.number)=false:=by simp;omega
               clear hn0
               have HR:=zh (HKp.out _ HJn.out)
               have HE:=zh (fun q q2=>zBA ((HST.out.next (zAX WT q)).next (zAX (WT.drewN q) q2)) HR.out)
               go_wp2_with fail
               go_quiet (fail)
               go_wp2_with fail
               go_quiet (fail)
               go_wp2_with fail
               go_ret2
               exact HE.out _ _
             ·have hne:((e2t:Int) != 0)=true:=by simp;omega
              have hli:li=(D3,e2t,false,M3):=Hhl.out.symm.trans hR
              have HLI:=zh (show zAS D (nm pre) nodes=(D3,e2t,JouM.none0 nodes) from by have h9:=HE4.out He1.out He2.out Hks.out;rw [hli] at h9;exact h9 he2t)
              have He2t:=zh he2t
              clear hli hR he2t
              go_wp2_with fail
              refine Htr.out.mono ?_
              rintro e w6 ⟨rfl,hj6,hs6⟩
              have Hsy6:=zh (Hsy.out w6 hj6)
              clear hj6 hs6 Htr Hsy
              go_wp2_with fail
              refine Hsy6.out.mono ?_
              rintro e WT ⟨rfl,hj7,hs7⟩
              have HE:=zh (zAc hj7 HLI.out He2t.out)
              clear hj7 hs7 Hsy6
              go_wp2_with fail
              go_ret2
              exact HE.out
           ·have hT:zA0 D2 (logN (nm pre)) q len=(Dt,e1t):=by unfold zA0;rw [if_pos hqq,htr,if_pos he1t]
            have hR:=HRm.out
            rw [hT] at hR
            have hli:li=(Dt,e1t,false,M3):=Hhl.out.symm.trans hR
            have HLI:=zh (show zAS D (nm pre) nodes=(Dt,e1t,JouM.none0 nodes) from by have h9:=HE4.out He1.out He2.out Hks.out;rw [hli] at h9;exact h9 he1t)
            have hne:((e1t:Int) != 0)=true:=by simp;omega
            have heq:((e1t:Int) == 0)=false:=by simp;omega
            have He1t:=zh he1t
            clear htr hT hR HRm hli he1t
            go_wp2_with fail
            refine Htr.out.mono ?_
            rintro e w6 ⟨rfl,hj6,hs6⟩
            have HE:=zh (zAc hj6 HLI.out He1t.out)
            clear hj6 hs6 Htr
            go_wp2_with fail
            go_ret2
            exact HE.out
         ·have dq:decide ((q:Int) < (len:Int))=false:=by simp;omega
          have dqn:decide (q < len)=false:=by simp;omega
          have hT:zA0 D2 (logN (nm pre)) q len=(D2,0):=by unfold zA0;rw [if_neg hqq]
          have hR:=HRm.out
          rw [hT] at hR
          have hli:li=(D2,0,false,M3):=Hhl.out.symm.trans hR
          have hli0:=Hhl.out
          obtain ⟨D3,hD3⟩:∃ D3,D3=D2:=⟨_,rfl⟩
          rw [← hD3] at hli
          have HNo:=zh (show zAd none M3 false=none→zAS D (nm pre) nodes=(D3,3,JouM.none0 nodes) from fun hj=>by have h9:=HNo0.out He1.out He2.out Hks.out;rw [hli] at h9;exact h9 rfl hj)
          have HKp:=zh (show ∀ M,zAd none M3 false=some (false,M)→zAS D (nm pre) nodes=(D3,0,M) from fun M hj=>by have h9:=HKp0.out M He1.out He2.out Hks.out;rw [hli] at h9;exact h9 rfl hj)
          have HAn:=zh (show ∀ M,zAd none M3 false=some (true,M)→zAS D (nm pre) nodes=((zAR D3 (nm pre) M).1,(zAR D3 (nm pre) M).2,M) from fun M hj=>by have h9:=HAn0.out M He1.out He2.out Hks.out;rw [hli] at h9;exact h9 rfl hj)
          have Hlen:=zh (zBq (D:=D2) (D':=D3) (pre:=nm pre) (M:=JouM.none0 nodes) (M':=M3) HOkD2.out Hrm.out (show (JouM.none0 nodes).entries=[] from rfl) (hli0.trans hli))
          have HST:=zh (show ROS w (fun _=>False) j r pre own wr D3 M3 from by rw [hD3];exact HSw.out)
          clear hT hR HRm hli hli0 hD3 HSw
          go_wp2_with fail
          generalize hWT:wr=WT at *
          clear hWT
          obtain ⟨gvT,dvT,evT,hcellT⟩:=HST.out.cells
          have c0:=zAA hcellT (i:=0) rfl
          clear hcellT
          by_cases hn0:0 < M3.number
          ·have HR:=zh (HNo.out (show zAd none M3 false=none from by unfold zAd;exact if_pos hn0))
           have HE:=zh (fun q=>zAc (HST.out.next (zAX WT q)) HR.out (by decide))
           have d0:decide ((0:Int) < (M3.number:Int))=true:=by simp;omega
           have d0n:decide (0 < M3.number)=true:=by simp;omega
           clear hn0
           go_wp2_with fail
           go_quiet (fail)
           go_wp2_with fail
           go_ret2
           exact HE.out _
          ·have HJn:=zh (show zAd none M3 false=some (false,M3) from by unfold zAd;exact if_neg hn0)
           have d0:decide ((0:Int) < (M3.number:Int))=false:=by simp;omega
           have d0n:decide (0 < M3.number)=false:=by simp;omega
           clear hn0
           have HR:=zh (HKp.out _ HJn.out)
           have HE:=zh (fun q q2=>zBA ((HST.out.next (zAX WT q)).next (zAX (WT.drewN q) q2)) HR.out)
           go_wp2_with fail
           go_quiet (fail)
           go_wp2_with fail
           go_quiet (fail)
           go_wp2_with fail
           go_ret2
           exact HE.out _ _
    ·have hsn:sn=(match zCX (zDT of) with | none=>(3,none) | some s=>(0,some s)):=Hhs2.out.symm.trans (snapOf_0 hl)
     have Hof:=zh (show ∀ s,zCX (zDT of)=some s→s.OK∧s.data.length≤524288∧1≤s.number from fun s hs=>snapIs_ok hs)
     rw [hl]
     have HS6:=zh (HJ3.out.next hb6)
     have hv6:OwnB w6 5 v6 (zDT of):=hv6
     obtain ⟨pv,cv,rfl,hcv⟩:=zAO hv6
     have hlb:=Hsd2.out
     generalize zDT of=sb at *
     have HRD:=zh (zEL (w:=w6) hv6.has hcv (fun k hk=>OwnR.lt hv6 hk) (by omega))
     have Hv6l:=zh (fun k hk=>OwnR.lt (k:=k) hv6 hk)
     have HBq:=zh (zAD w6 (.cells #[.slice pv sb.length cv,.bool false] 148))
     have Hn6:=zh hn6
     have HqB6:=zh ((hb6.block wr.heap.size (zAC HqB.out)).trans HqB.out)
     have hsz6:wr.heap.size < w6.heap.size:=Nat.lt_of_lt_of_le (zAC HqB.out) hb6.size
     have Hrs:=zh (fun l' R' (hL:RLst (Rd.num ⟨sb,false⟩).2.num.2 l' R')=>rsnap_is hL fun hb=>Nat.le_trans (rsnap_len hL hb) hlb)
     have HN1:=zh (zAv HRD.out)
     have hm1:=Rd.num_le ⟨sb,false⟩
     have hm2:=Rd.num_le (Rd.num ⟨sb,false⟩).2
     clear hl hv6 hn6 hb6 Hlo hcv HqB HB0 HJ3
     have Hlb:=zh hlb
     generalize hsbl:sb.length=sbl at *
     have Hsbl:=zh hsbl
     clear hsbl
     go_wp2_with fail
     generalize hWq:w6.alloc (.cells #[.slice pv sbl cv,.bool false] 148)=Wq at *
     clear hWq
     refine HN1.out.mono ?_
     rintro e w7 ⟨rfl,hr7,hc7⟩
     have HB7:=zh (show Below w6.heap.size w6 w7 from HBq.out.trans (hc7.below HBq.out.size fun i hi e=>by omega))
     have HN2:=zh (zAv hr7)
     clear hr7 hc7 HN1
     go_wp2_with fail
     refine HN2.out.mono ?_
     rintro e w8 ⟨rfl,hr8,hc8⟩
     have hlt8:=hr8.lt
     have HB8:=zh (show Below w6.heap.size w6 w8 from HB7.out.trans (hc8.below HB7.out.size fun i hi e=>by omega))
     have hs8:=HB8.out.size
     have HL:=zh (rlst_calls hr8 fun k hk=>⟨by have:=Hv6l.out k hk;omega,fun e=>by have:=Hv6l.out k hk;omega⟩)
     clear hr8 hc8 HN2
     go_wp2_with fail
     refine HL.out.mono ?_
     rintro e w9 ⟨vg,lg,R',rfl,hRL,hvg,hng,hl18,hlz,hr9,hc9⟩
     have HB9:=zh (show Below w6.heap.size w6 w9 from HB8.out.trans (hc9.below HB8.out.size fun i hi e=>by omega))
     have Hrs9:=zh (Hrs.out lg R' hRL)
     have Hsl:=zh (fun hb=>rsnap_len hRL hb)
     obtain ⟨gp,gc,rfl,-⟩:=zAl hvg
     have HVG:=zh (And.intro hvg (And.intro (show ∀ k,(Value.slice gp lg.length gc).ownBlock=some k→wr.heap.size < k∧w6.heap.size < k∧k < w9.heap.size from fun k hk=>by have h1:=hng k hk;have h2:=OwnR.lt hvg hk;omega) hl18))
     have hs9:=HB9.out.size
     have hq9:=(HB9.out.block wr.heap.size hsz6).trans HqB6.out
     have t0:=zAA hq9 (i:=0) rfl
     have t1:=zAA hq9 (i:=1) rfl
     have t2:=zAA hq9 (i:=2) rfl
     have tf:=zAF hq9
     have Hq9:=zh hq9
     have HR9:=zh hr9
     clear hRL hvg hng hl18 hlz hr9 hc9 HL Hrs hq9
     generalize (Rd.num ⟨sb,false⟩).1=n1 at *
     generalize (Rd.num ⟨sb,false⟩).2.num.1=n2 at *
     generalize hlgl:lg.length=lgl at *
     have Hlgl:=zh hlgl
     clear hlgl
     have HC10:=zh (set3_chg w9 wr.heap.size (.int .i64 (n1:Int)) (.int .i64 (n2:Int)) (.slice gp lgl gc))
     have HQ10:=zh (set3_block Hq9.out (.int .i64 (n1:Int)) (.int .i64 (n2:Int)) (.slice gp lgl gc))
     have HBy:=zh (zEw (HR9.out.chg HC10.out (fun e=>by omega) fun k hk e=>by have h1:=Hn6.out k hk;have h2:=HSB.out;have e2:k=wr.heap.size:=e;omega))
     go_wp2_with fail
     clear t0 t1 t2 tf
     generalize hW10:((w9.setCell ⟨wr.heap.size,0,none⟩ (.int .i64 (n1:Int))).setCell ⟨wr.heap.size,1,none⟩ (.int .i64 (n2:Int))).setCell ⟨wr.heap.size,2,none⟩ (.slice gp lgl gc)=W10 at *
     clear hW10
     refine HBy.out.mono ?_
     rintro e w11 ⟨vd,rfl,hvd,hnd,hr11,hc11⟩
     have HW11:=zh (zBz hr11)
     have hs10:=HC10.out.size
     have hs11:=hc11.size
     have HQ11:=zh ((hc11.block wr.heap.size (zAC HQ10.out) (by omega)).trans HQ10.out)
     have HGI:=zh (show HasI w11 (.slice gp lgl gc) lg from by
      have h1:=OwnI.has HVG.out.1
      have h2:HasI W10 (.slice gp lgl gc) lg:=zAL.chg h1 HC10.out fun k hk e=>by have:=(HVG.out.2.1 k hk).1;omega
      exact zAL.chg h2 hc11 fun k hk e=>by have:=(HVG.out.2.1 k hk).2.1;omega)
     have Hgr:=zh (zC2 HGI.out (by have:=HVG.out.2.2;have:=Hlgl.out;omega))
     have HB11:=zh (show Below wr.heap.size wr w11 from ((HB6.out.trans (HB9.out.mono HB6.out.size)).trans (HC10.out.below (Nat.le_trans HB6.out.size hs9) fun k hk e=>by omega)).trans (hc11.below (by have:=HB6.out.size;omega) fun k hk e=>by omega))
     obtain ⟨dp,dc,rfl,-⟩:=zAO hvd
     have HWW:=zh (show w.heap.size≤wr.heap.size from by obtain ⟨_,_,_,hc,_⟩:=HJ2.out;exact hc.size)
     generalize hsd0:R'.bytes.1=sd at *
     generalize hRb:R'.bytes.2=Rb at *
     generalize hdl:sd.length=dl at *
     have Hdl:=zh hdl
     have HVD:=zh (And.intro (OwnB.has hvd) (show ∀ k,(Value.slice dp dl dc).ownBlock=some k→W10.heap.size≤k∧k < w11.heap.size from fun k hk=>⟨hnd k hk,OwnR.lt hvd hk⟩))
     have HBad:=zh (fun q (h9:zCX sb=none)=>zAc (HJ2.out.next (HB11.out.trans (zAX w11 q))) (show zAS D (nm pre) nodes=(D2,3,JouM.none0 nodes) from by have h8:=HE3.out He1.out He2.out;rw [hsn,h9] at h8;exact h8 (by decide)) (by decide))
     have u0:=zAA HQ11.out (i:=0) rfl
     have u1:=zAA HQ11.out (i:=1) rfl
     have u2:=zAA HQ11.out (i:=2) rfl
     have HU:=zh (fun q=>And.intro (show (w11.drewN q).cell? ⟨wr.heap.size,0,none⟩=some (.int .i64 (n1:Int)) from u0) (show (w11.drewN q).cell? ⟨wr.heap.size,1,none⟩=some (.int .i64 (n2:Int)) from u1))
     have Hsn:=zh hsn
     clear hvd hnd hr11 hc11 HBy HQ10 HC10 hsd0 hRb hdl hsn u0 u1 Hsl HR9 Hq9 HB7 HB8 HRD HBq
     go_wp2_with fail
     refine HW11.out.mono ?_
     rintro e w12 ⟨rfl,hw12⟩
     obtain rfl:=hw12.symm
     cases hw:Rb.whole with
     | false =>
      have HE:=zh (HBad.out 0 (by rw [Hrs9.out,hw];exact if_neg (by simp)))
      clear hw
      go_wp2_with fail
      go_ret2
      exact HE.out
     | true =>
      cases hgl:zAW lg with
      | false =>
       have HE:=zh (fun q=>HBad.out q (by rw [Hrs9.out,hgl];exact if_neg (by simp)))
       rw [hgl] at Hgr
       clear hw hgl
       go_wp2_with fail
       refine Hgr.out.mono ?_
       rintro e w13 ⟨rfl,q,rfl⟩
       go_wp2_with fail
       go_ret2
       exact HE.out q
      | true =>
       have Hsi:=zh (show zCX sb=if 1≤n1∧n1≤1099511627776∧n2≤1099511627776 then some ⟨n1,n2,lg,sd⟩ else none from by rw [Hrs9.out,hw,hgl];simp)
       rw [hgl] at Hgr
       clear hw hgl
       by_cases h1:n1 < 1
       ·have d1:decide ((n1:Int) < 1)=true:=decide_eq_true (by omega)
        have d1n:decide (n1 < 1)=true:=decide_eq_true h1
        have HE:=zh (fun q=>HBad.out q (by rw [Hsi.out,if_neg (by omega)]))
        clear h1
        have u0:=fun q=>(HU.out q).1
        have u1:=fun q=>(HU.out q).2
        go_wp2_with fail
        refine Hgr.out.mono ?_
        rintro e w13 ⟨rfl,q,rfl⟩
        have u0:=u0 q
        have u1:=u1 q
        go_wp2_with fail
        go_ret2
        exact HE.out q
       have d1:decide ((n1:Int) < 1)=false:=decide_eq_false (by omega)
       have d1n:decide (n1 < 1)=false:=decide_eq_false h1
       by_cases h2:1099511627776 < n1
       ·have d2:decide ((1099511627776:Int) < (n1:Int))=true:=decide_eq_true (by omega)
        have d2n:decide (1099511627776 < n1)=true:=decide_eq_true h2
        have HE:=zh (fun q=>HBad.out q (by rw [Hsi.out,if_neg (by omega)]))
        clear h1
        have u0:=fun q=>(HU.out q).1
        have u1:=fun q=>(HU.out q).2
        go_wp2_with fail
        refine Hgr.out.mono ?_
        rintro e w13 ⟨rfl,q,rfl⟩
        have u0:=u0 q
        have u1:=u1 q
        go_wp2_with fail
        go_ret2
        exact HE.out q
       have d2:decide ((1099511627776:Int) < (n1:Int))=false:=decide_eq_false (by omega)
       have d2n:decide (1099511627776 < n1)=false:=decide_eq_false h2
       by_cases h3:1099511627776 < n2
       ·have d3:decide ((1099511627776:Int) < (n2:Int))=true:=decide_eq_true (by omega)
        have d3n:decide (1099511627776 < n2)=true:=decide_eq_true h3
        have HE:=zh (fun q=>HBad.out q (by rw [Hsi.out,if_neg (by omega)]))
        clear h1
        have u0:=fun q=>(HU.out q).1
        have u1:=fun q=>(HU.out q).2
        go_wp2_with fail
        refine Hgr.out.mono ?_
        rintro e w13 ⟨rfl,q,rfl⟩
        have u0:=u0 q
        have u1:=u1 q
        go_wp2_with fail
        go_ret2
        exact HE.out q
       have d3:decide ((1099511627776:Int) < (n2:Int))=false:=decide_eq_false (by omega)
       have d3n:decide (1099511627776 < n2)=false:=decide_eq_false h3
       have hs0:zCX sb=some ⟨n1,n2,lg,sd⟩:=by rw [Hsi.out,if_pos (by omega)]
       obtain ⟨s,hss⟩:∃ s:Snap,s=⟨n1,n2,lg,sd⟩:=⟨_,rfl⟩
       rw [← hss] at hs0
       have Hso:=zh (Hof.out s hs0)
       have hsn:sn=(0,some s):=by rw [Hsn.out,hs0]
       have Hks:=zh (show sn.1=0 from by rw [hsn])
       have HNo0:=zh (show e1=0→e2=0→sn.1=0→li.2.1=0→zAd (some s) li.2.2.2 li.2.2.1=none→zAS D (nm pre) nodes=(li.1,3,JouM.none0 nodes) from by have h9:=HNo.out;rw [hsn] at h9 ⊢;exact h9)
       have HKp0:=zh (show ∀ M,e1=0→e2=0→sn.1=0→li.2.1=0→zAd (some s) li.2.2.2 li.2.2.1=some (false,M)→zAS D (nm pre) nodes=(li.1,0,M) from by have h9:=HKp.out;rw [hsn] at h9 ⊢;exact h9)
       have HAn0:=zh (show ∀ M,e1=0→e2=0→sn.1=0→li.2.1=0→zAd (some s) li.2.2.2 li.2.2.1=some (true,M)→zAS D (nm pre) nodes=((zAR li.1 (nm pre) M).1,(zAR li.1 (nm pre) M).2,M) from by have h9:=HAn.out;rw [hsn] at h9 ⊢;exact h9)
       have en:(n1:Int)=(s.number:Int):=by rw [hss]
       have et:(n2:Int)=s.term:=by rw [hss]
       have eg:lgl=s.group.length:=by rw [hss];exact Hlgl.out.symm
       have ed:dl=s.data.length:=by rw [hss];exact Hdl.out.symm
       subst eg
       subst ed
       have HSN0:=zh (fun q=>show Snd w (w11.drewN q) wr.heap.size (.slice gp s.group.length gc) (.slice dp s.data.length dc) s from ⟨by
        have h9:=HQ11.out
        rw [en,et] at h9
        exact h9,by
        have h9:HasI w11 (.slice gp s.group.length gc) s.group:=by have h8:=HGI.out;rwa [show lg=s.group from by rw [hss]] at h8
        exact zAL.keep h9 fun _ _=>rfl,by
        have h9:HasB w11 (.slice dp s.data.length dc) s.data:=by have h8:=HVD.out.1;rwa [show sd=s.data from by rw [hss]] at h8
        exact zAL.keep h9 fun _ _=>rfl,fun k hk=>by have h8:=(HVD.out.2 k hk).1;have h7:=HWW.out;omega,fun k hk e=>by
        have h8:=(HVD.out.2 k e).1
        rcases hk with hk | hk
        ·omega
        ·have h7:=HVG.out.2.1 k hk
         omega⟩)
       have HS70:=zh (fun q=>show ROS w (FSnd wr.heap.size (.slice gp s.group.length gc) (.slice dp s.data.length dc)) j r pre own (w11.drewN q) D2 (JouM.none0 nodes) from HJ2.out.more (HB11.out.trans (zAX w11 q)) fun k hk=>.inr (by
        show wr.heap.size≤k∧k < w11.heap.size
        rcases hk with hk | hk | hk
        ·omega
        ·have h7:=HVG.out.2.1 k hk
         omega
        ·have h8:=HVD.out.2 k hk
         omega))
       have u0:=fun q=>(HU.out q).1
       have u1:=fun q=>(HU.out q).2
       clear hsn HNo HKp HAn HE1 HE2 hs0 Hsn Hsi Hof HJ2 HB11 HQ11 HGI HVD HVG HWW HBad HS6 HB6 HB9 HqB6 HSB Hn6 Hv6l Hrs9 Hlb Hsbl h1 h2 h3 HU en et hss Hlgl Hdl
       go_wp2_with fail
       refine Hgr.out.mono ?_
       rintro e w13 ⟨rfl,q,rfl⟩
       have u0:=u0 q
       have u1:=u1 q
       have HS7:=zh (HS70.out q)
       have HSN:=zh (HSN0.out q)
       clear HS70 HSN0 Hgr
       generalize hW7:w11.drewN q=W7 at *
       generalize hbB:wr.heap.size=bB at *
       clear hW7 hbB u2
       go_wp2_with fail
       obtain ⟨v0,L0,own0,hRf⟩:=ros_ref HS7.out
       have Hrd:=zh (zCE hRf (sLog pre))
       rw [zBf] at Hrd
       have HOkD2:=zh HS7.out.okD
       have hdl0:=zD2 HS7.out.okD (logN (nm pre))
       clear hRf
       cases hg:Sat.get (logN (nm pre)) D2.files with
       | none =>
        have hli:li=(D2,0,true,JouM.none0 nodes):=Hhl.out.symm.trans (zDs hg)
        have hli0:=Hhl.out
        obtain ⟨D3,hD3⟩:∃ D3,D3=D2:=⟨_,rfl⟩
        obtain ⟨M3,hM3⟩:∃ M3,M3=JouM.none0 nodes:=⟨_,rfl⟩
        rw [← hD3,← hM3] at hli
        have HNo:=zh (show zAd (some s) M3 true=none→zAS D (nm pre) nodes=(D3,3,JouM.none0 nodes) from fun hj=>by have h9:=HNo0.out He1.out He2.out Hks.out;rw [hli] at h9;exact h9 rfl hj)
        have HKp:=zh (show ∀ M,zAd (some s) M3 true=some (false,M)→zAS D (nm pre) nodes=(D3,0,M) from fun M hj=>by have h9:=HKp0.out M He1.out He2.out Hks.out;rw [hli] at h9;exact h9 rfl hj)
        have HAn:=zh (show ∀ M,zAd (some s) M3 true=some (true,M)→zAS D (nm pre) nodes=((zAR D3 (nm pre) M).1,(zAR D3 (nm pre) M).2,M) from fun M hj=>by have h9:=HAn0.out M He1.out He2.out Hks.out;rw [hli] at h9;exact h9 rfl hj)
        have Hlen:=zh (zBq (D:=D2) (D':=D3) (pre:=nm pre) (M:=JouM.none0 nodes) (M':=M3) HOkD2.out Hrm.out (show (JouM.none0 nodes).entries=[] from rfl) (hli0.trans hli))
        rw [hg] at Hrd
        have HS7b:=zh (show ROS w (FSnd bB (.slice gp s.group.length gc) (.slice dp s.data.length dc)) j r pre own W7 D3 M3 from by rw [hD3,hM3];exact HS7.out)
        clear hg hdl0 hli hli0 hD3 hM3
        go_wp2_with fail
        refine Hrd.out.mono ?_
        rintro e WT ⟨v3,rfl,-,-,hb3⟩
        have HST:=zh (HS7b.out.next hb3)
        have HSN:=zh (show Snd w WT bB (.slice gp s.group.length gc) (.slice dp s.data.length dc) s from HSN.out.same (HS7.out.same hb3))
        clear hb3 Hrd
        rw [show zCq (none:Option zAV)=7 from rfl]
        obtain ⟨gvT,dvT,evT,hcellT⟩:=HST.out.cells
        have c0:=zAA hcellT (i:=0) rfl
        have c7:=zAA hcellT (i:=7) rfl
        have f7:=zAF hcellT 7
        have y0:=zAA HSN.out.1 (i:=0) rfl
        clear hcellT
        by_cases hgt:s.number < M3.number
        ·have HR:=zh (HNo.out (show zAd (some s) M3 true=none from by unfold zAd;exact (if_neg (by omega)).trans (if_pos hgt)))
         have HE:=zh (fun q=>zAc (HST.out.next (zAX WT q)) HR.out (by decide))
         have d0:decide ((s.number:Int) < (M3.number:Int))=true:=by simp;omega
         have d0n:decide (s.number < M3.number)=true:=by simp;omega
         clear hgt c7 f7
         go_wp2_with fail
         go_quiet (fail)
         go_wp2_with fail
         go_ret2
         exact HE.out _
        ·have d0:decide ((s.number:Int) < (M3.number:Int))=false:=by simp;omega
         have d0n:decide (s.number < M3.number)=false:=by simp;omega
         have Hdt:=zh (fun q=>ros_data (F':=fun k=>k=bB∨(Value.slice gp s.group.length gc).ownBlock=some k) (HST.out.next (zAX WT q)) (v2:=.slice dp s.data.length dc) (HasB.below HSN.out.2.2.1 (zAX WT q)) (fun k hk=>⟨.inr (.inr hk),HSN.out.2.2.2.1 k hk⟩) (fun k hk=>⟨hk.elim .inl fun h=>.inr (.inl h),HSN.out.2.2.2.2 k hk⟩) (Nat.le_trans Hso.out.2.1 (by decide)))
         go_wp2_with fail
         go_quiet (fail)
         go_wp2_with fail
         generalize hWD:(World.setCell _ _ _)=WD
         have HSD:=zh (show ROS w (fun k=>k=bB∨(Value.slice gp s.group.length gc).ownBlock=some k) j r pre own WD D3 { M3 with data:=s.data } from by rw [← hWD];exact (Hdt.out _).1)
         have hsm:∀ k,(FSnd bB (.slice gp s.group.length gc) (.slice dp s.data.length dc)) k→WD.heap[k]?=WT.heap[k]?:=fun k hk=>by rw [← hWD];exact (Hdt.out _).2 k hk
         have HX:=zh ((hsm bB (.inl rfl)).trans HSN.out.1)
         have HG:=zh (show HasI WD (.slice gp s.group.length gc) s.group from zAL.keep HSN.out.2.1 fun k hk=>hsm k (.inr (.inl hk)))
         obtain ⟨gvD,dvD,evD,hcellD⟩:=HSD.out.cells
         have c0:WD.cell? ⟨j,0,none⟩=some (.int .i64 (M3.number:Int)):=zAA hcellD (i:=0) rfl
         have z0:=zAA HX.out (i:=0) rfl
         have z1:=zAA HX.out (i:=1) rfl
         have z2:=zAA HX.out (i:=2) rfl
         clear hcellD c7 f7 y0 hsm hWD Hdt
         by_cases hlt:M3.number < s.number
         ·have HJn:=zh (show zAd (some s) M3 true=some (true,M3.rebase s) from by unfold zAd;exact if_pos hlt)
          have d1:decide ((M3.number:Int) < (s.number:Int))=true:=by simp;omega
          have d1n:decide (M3.number < s.number)=true:=by simp;omega
          have HR0:=HAn.out _ HJn.out
          have Hst:=zh (fun q=>ros_stands (HSD.out.next (zAX WD q)) (n2:=s.number) (t2:=s.term) (g2:=s.group) hlt (show (⟨s.number,s.term,s.group,s.data⟩:Snap).OK from Hso.out.1) (pg:=gp) (cg:=gc) (zAL.keep HG.out fun _ _=>rfl) (fun k hk=>.inr hk))
          have Z:=fun q=>And.intro (show (WD.drewN q).cell? ⟨bB,0,none⟩=_ from z0) (And.intro (show (WD.drewN q).cell? ⟨bB,1,none⟩=_ from z1) (show (WD.drewN q).cell? ⟨bB,2,none⟩=_ from z2))
          have HZ:=zh Z
          clear hlt hgt Z
          go_wp2_with fail
          go_quiet (fail)
          generalize hqx:World.drewN WD _=WX
          have HstX:=zh (show Calls Tryz.prog 92 #[.pointer (some ⟨j,0,none⟩),.agg #[.int .i64 (s.number:Int),.int .i64 s.term,.slice gp s.group.length gc]] WX fun e w'=>e=.returned (.tuple #[])∧ROS w (fun k=>k=bB∨(Value.slice gp s.group.length gc).ownBlock=some k) j r pre own w' D3 (M3.rebase s)∧Same _ WX w' from by rw [← hqx];exact Hst.out _)
          have z0:WX.cell? ⟨bB,0,none⟩=some (.int .i64 (s.number:Int)):=by rw [← hqx];exact (HZ.out _).1
          have z1:WX.cell? ⟨bB,1,none⟩=some (.int .i64 s.term):=by rw [← hqx];exact (HZ.out _).2.1
          have z2:WX.cell? ⟨bB,2,none⟩=some (.slice gp s.group.length gc):=by rw [← hqx];exact (HZ.out _).2.2
          clear hqx c0 Hst HZ
          go_wp2_with fail
          refine HstX.out.mono ?_
          rintro e w7 ⟨rfl,hj7,-⟩
          have HJ7:=zh hj7
          clear hj7 HstX z0 z1 z2
          go_wp2_with fail
          cases hwj:zAR D3 (nm pre) (M3.rebase s) with
          | mk D4 e4 =>
           have Hwj:=zh (zEv HJ7.out (Nat.le_trans (zDC M3 s) Hlen.out))
           rw [hwj] at Hwj
           have HRw:=HR0
           rw [hwj] at HRw
           have HRw:=zh HRw
           clear hwj
           by_cases he4:e4=0
           ·subst he4
            go_wp2_with fail
            refine Hwj.out.mono ?_
            rintro e w9 ⟨rfl,hj9,hs9⟩
            have HE:=zh (zBA hj9 HRw.out)
            clear hj9 hs9 Hwj
            go_wp2_with fail
            go_ret2
            exact HE.out
           ·have hne4:((e4:Int) != 0)=true:=by simp;omega
            have He4:=zh he4
            clear he4
            go_wp2_with fail
            refine Hwj.out.mono ?_
            rintro e w9 ⟨rfl,hj9,hs9⟩
            have HE:=zh (zAc hj9 HRw.out He4.out)
            clear hj9 hs9 Hwj
            go_wp2_with fail
            go_ret2
            exact HE.out
         ·have HJn:=zh (show zAd (some s) M3 true=some (true,{ M3 with data:=s.data }) from by unfold zAd;exact (if_neg hlt).trans (if_neg hgt))
          have d1:decide ((M3.number:Int) < (s.number:Int))=false:=by simp;omega
          have d1n:decide (M3.number < s.number)=false:=by simp;omega
          clear hlt hgt
          go_wp2_with fail
          go_quiet (fail)
          have HR0:=HAn.out _ HJn.out
          go_wp2_with fail
          generalize hWQ:(World.drewN _ _)=WQ
          have HJQ:=zh (show ROS w _ j r pre own WQ D3 _ from by rw [← hWQ];exact HSD.out.next (zAX WD _))
          clear hWQ c0 z0 z1 z2
          cases hwj:zAR D3 (nm pre) { M3 with data:=s.data } with
          | mk D4 e4 =>
           have Hwj:=zh (zEv HJQ.out Hlen.out)
           rw [hwj] at Hwj
           have HRw:=HR0
           rw [hwj] at HRw
           have HRw:=zh HRw
           clear hwj
           by_cases he4:e4=0
           ·subst he4
            go_wp2_with fail
            refine Hwj.out.mono ?_
            rintro e w9 ⟨rfl,hj9,hs9⟩
            have HE:=zh (zBA hj9 HRw.out)
            clear hj9 hs9 Hwj
            go_wp2_with fail
            go_ret2
            exact HE.out
           ·have hne4:((e4:Int) != 0)=true:=by simp;omega
            have He4:=zh he4
            clear he4
            go_wp2_with fail
            refine Hwj.out.mono ?_
            rintro e w9 ⟨rfl,hj9,hs9⟩
            have HE:=zh (zAc hj9 HRw.out He4.out)
            clear hj9 hs9 Hwj
            go_wp2_with fail
            go_ret2
            exact HE.out
       | some f =>
        have hdl:f.data.length≤1073741824:=by rw [hg] at hdl0;exact hdl0
        have HRb:=zh (zEM (M:=JouM.none0 nodes) hg)
        have HRo:=zh (fun M'=>readLog_ok (M:=JouM.none0 nodes) (M':=M') hg)
        rw [hg] at Hrd
        clear hg hdl0
        go_wp2_with fail
        refine Hrd.out.mono ?_
        rintro e w3 ⟨v3,rfl,hv3,hn3,hb3⟩
        have HS3:=zh (HS7.out.next hb3)
        have HSN:=zh (show Snd w w3 bB (.slice gp s.group.length gc) (.slice dp s.data.length dc) s from HSN.out.same (HS7.out.same hb3))
        have hv3:OwnB w3 5 v3 f.data:=hv3
        obtain ⟨pb,cb,rfl,hcap⟩:=zAO hv3
        have Hsc:=zh (rscan_calls hv3.has hcap hdl)
        clear hb3 hv3 hn3 hcap Hrd
        have hq30:=scan_le f.data
        generalize hlen:f.data.length=len at *
        rw [show ∀ f:zAV,zCq (some f)=0 from fun _=>rfl]
        go_wp2_with fail
        refine Hsc.out.mono ?_
        rintro e w4 ⟨v4,vs,rfl,hr4,hn4,hb4⟩
        have HS4:=zh (show ROS w (fun k=>(FSnd bB (.slice gp s.group.length gc) (.slice dp s.data.length dc)) k∨(v4.ownBlock=some k∨∃ u ∈ vs,u.ownBlock=some k)) j r pre own w4 D2 (JouM.none0 nodes) from HS3.out.more hb4 fun k hk=>by
         rcases hk with hk | hk | ⟨u,hu,hk⟩
         ·exact .inl hk
         ·exact .inr ⟨hn4.1 k hk,OwnR.lt hr4.row hk⟩
         ·refine .inr ⟨hn4.2 u hu k hk,?_⟩
          obtain ⟨i,hi,rfl⟩:=List.getElem_of_mem hu
          have hil:i < (scan f.data).1.length:=by rw [← hr4.len];exact hi
          exact OwnR.lt (hr4.has i _ _ (List.getElem?_eq_getElem hi) (List.getElem?_eq_getElem hil)) hk)
        have HSN:=zh (show Snd w w4 bB (.slice gp s.group.length gc) (.slice dp s.data.length dc) s from HSN.out.same (HS3.out.same hb4))
        have HR4:=zh hr4
        have Hrl:=zh (show ∀ x ∈ (scan f.data).1,x.length≤1073741824 from fun x hx=>scanJ_row hdl hlen hx)
        clear hr4 hn4 hb4 Hsc HS3
        obtain ⟨pr,cr,hv4⟩:=OwnR.shape HR4.out.row
        generalize hq:(scan f.data).2=q at *
        generalize hrows:(scan f.data).1=rows at *
        have hnr:rows.length≤1073741824:=zER hdl hlen hrows
        generalize hnn:rows.length=n at *
        have Hnn:=zh hnn
        subst hv4
        clear hq hrows hnn hlen
        by_cases hn0:n=0
        ·have hrn:rows=[]:=List.eq_nil_of_length_eq_zero (by rw [Hnn.out,hn0])
         have hli:li=(D2,3,false,JouM.none0 nodes):=Hhl.out.symm.trans (HRb.out (by rw [hrn];rfl))
         have HE:=zh (zAc HS4.out (show zAS D (nm pre) nodes=(D2,3,JouM.none0 nodes) from by have h9:=HE4.out He1.out He2.out Hks.out;rw [hli] at h9;exact h9 (show (3:Nat)≠0 by decide)) (by decide))
         have e0:((n:Int) == 0)=true:=by simp;omega
         clear hrn hn0 hli
         go_wp2_with fail
         go_ret2
         exact HE.out
        ·have e0:((n:Int) == 0)=false:=by simp;omega
         have Hn0:=zh hn0
         clear hn0
         obtain ⟨S,hN,hSlt,hSb,hSx⟩:=ros_new HS4.out
         have HSx:=zh hSx
         clear hSx
         have HN0:=zh hN
         have HSlt:=zh hSlt
         have HSb:=zh hSb
         have Hjf:=zh (fun k hk=>HS4.out.fj (k:=k) hk)
         clear hN hSlt hSb
         go_wp2_with fail
         go_loopw [23] (fun i wr=>∃ (k:Nat) (Mk:JouM),k≤n∧i=.int .i64 k∧(k=0→Mk=JouM.none0 nodes)∧Mk.entries.length≤k∧zBI (fun k=>S k∨w4.heap.size≤k) wr j r pre Mk∧Chg (fun k=>S k∨w4.heap.size≤k) w4 wr∧zBx (JouM.none0 nodes) rows=restJ k Mk (rows.drop k)) (fun i _=>n - (intOf i).toNat)
         case atStart=>exact ⟨0,JouM.none0 nodes,Nat.zero_le _,rfl,fun _=>rfl,Nat.zero_le _,HN0.out.wide fun _ h=>.inl h,Chg.refl _ _,rfl⟩
         case round =>
          clear HN0 e0
          obtain ⟨k,Mk,hk,rfl,hk1,hmk,hN,hC,hre⟩:=hrel
          have hsame:∀ x,(fun k=>(FSnd bB (.slice gp s.group.length gc) (.slice dp s.data.length dc)) k∨((Value.slice pr n cr).ownBlock=some k∨∃ u ∈ vs,u.ownBlock=some k)) x→wr.heap[x]?=w4.heap[x]?:=fun x hx=>hC.block x (HS4.out.flt hx) fun e=>e.elim (fun e=>(HSlt.out x e).2 hx) fun e=>by have:=HS4.out.flt hx;omega
          by_cases hlt:k < n
          ·have hkl:k < rows.length:=by rw [Hnn.out];exact hlt
           rw [List.drop_eq_getElem_cons hkl,restJ_cons] at hre
           have hRW:=HR4.out.keepJ (w':=wr) fun x hx=>hsame x (.inr hx)
           have hkv:k < vs.length:=by rw [hRW.len];exact hkl
           have hxr:=hRW.has k _ _ (List.getElem?_eq_getElem hkv) (List.getElem?_eq_getElem hkl)
           have hcell:∃ g,pr=some ⟨g,0,none⟩∧wr.cell? ⟨g,k,none⟩=some vs[k]:=by
            rcases hRW.row.2 with ⟨-,h0⟩ | ⟨g,cap,cur,e,-⟩
            ·omega
            ·refine ⟨g,?_,?_⟩
             ·simp only [Value.slice.injEq] at e
              exact e.1
             ·have hc:=hRW.row.cells (g:=g) (by rw [e];rfl) k _ (List.getElem?_eq_getElem hkv)
              rwa [add_zero] at hc
           obtain ⟨g,rfl,hcell⟩:=hcell
           have hx30:=Hrl.out _ (List.getElem_mem hkl)
           obtain ⟨px,cx,hpx,hcx⟩:=zAO hxr
           have hxF:∀ y,vs[k].ownBlock=some y→(fun k=>(FSnd bB (.slice gp s.group.length gc) (.slice dp s.data.length dc)) k∨((Value.slice (some ⟨g,0,none⟩) n cr).ownBlock=some k∨∃ u ∈ vs,u.ownBlock=some k)) y:=fun y hy=>.inr (.inr ⟨vs[k],List.getElem_mem hkv,hy⟩)
           rw [hpx] at hxr hcell hxF
           have Hrec:=zh (rreads_calls hN (decide (k=0)) (fun hf=>by rw [hk1 (by simpa using hf)];rfl) hxr.has hcx hx30 (fun y hy=>OwnR.lt hxr hy) (fun y hy=>Hjf.out y (hxF y hy)) (by omega))
           have HC:=zh hC
           have hkb:((k:Int) == 0)=decide (k=0):=by
            by_cases h0:k=0
            ·subst h0;rfl
            ·rw [decide_eq_false h0];simp;omega
           cases hc:rec1 (decide (k=0)) Mk rows[k] with
           | none =>
            rw [hc] at hre
            rw [hc] at Hrec
            have hli:li=(D2,3,false,JouM.none0 nodes):=Hhl.out.symm.trans (HRb.out hre)
            have HLI:=zh (show zAS D (nm pre) nodes=(D2,3,JouM.none0 nodes) from by have h9:=HE4.out He1.out He2.out Hks.out;rw [hli] at h9;exact h9 (show (3:Nat)≠0 by decide))
            clear hN hC hre hRW hxr hx30 hc hpx hkv hk1 hli hsame hcx hxF
            generalize rows[k]=x at *
            generalize x.length=m at *
            generalize decide (k=0)=fk at *
            clear hkl
            go_wp2_with fail
            refine Hrec.out.mono ?_
            rintro e w6 ⟨hc6,he6⟩
            obtain rfl:e=.returned (.bool false):=he6
            have HE:=zh (ropened_bad2 (pre:=pre) (HSx.out w6 (HC.out.trans hc6 fun _ _ h=>h)) HLI.out (by decide))
            clear hc6 Hrec
            go_wp2_with fail
            go_ret2
            exact HE.out
           | some Mn =>
            rw [hc] at hre
            rw [hc] at Hrec
            have hml:=rec1_len hc
            have Hml:=zh (show Mn.entries.length≤k+1 by omega)
            have Hre:=zh (show zBx (JouM.none0 nodes) rows=restJ (k+1) Mn (rows.drop (k+1)) from hre)
            clear hN hC hre hRW hxr hx30 hc hpx hkv hk1 hsame hcx hxF hml hmk
            generalize rows[k]=x at *
            generalize x.length=m at *
            generalize decide (k=0)=fk at *
            clear hkl
            go_wp2_with fail
            refine Hrec.out.mono ?_
            rintro e w6 ⟨hc6,he6,hn6⟩
            subst he6
            have HE:=zh (And.intro (hn6.wide fun y hy=>hy.elim id fun h=>.inr (Nat.le_trans HC.out.size h)) (HC.out.trans hc6 fun _ _ h=>h))
            clear hc6 hn6
            go_wp2_with fail
            go_roundw
            case rel=>exact ⟨k+1,Mn,by omega,by go_num,fun h=>by omega,Hml.out,HE.out.1,HE.out.2,Hre.out⟩
            case measure=>simp [intOf];omega
          ·have hkn:k=n:=by omega
           subst hkn
           have hre2:zBx (JouM.none0 nodes) rows=some Mk:=by
            rw [hre,List.drop_of_length_le (by rw [Hnn.out];exact Nat.le_refl _)]
            cases k with
            | zero=>exact absurd rfl Hn0.out
            | succ k=>rfl
           have HRm:=zh (HRo.out Mk hre2)
           have HSw:=zh (show ROS w (FSnd bB (.slice gp s.group.length gc) (.slice dp s.data.length dc)) j r pre own wr D2 Mk from (HSb.out wr Mk hN hC).1.less fun _ h=>.inl h)
           have HSN:=zh (show Snd w wr bB (.slice gp s.group.length gc) (.slice dp s.data.length dc) s from HSN.out.same (fun x hx=>hsame x (.inl hx)))
           clear hN hC hre hre2 HR4 HS4 Hrl HRb HRo Hn0 Hnn hk1 hsame HSb HSlt Hjf hmk
           generalize hMz:Mk=M3 at *
           clear hMz
           by_cases hqq:q < len
           ·have dq:decide ((q:Int) < (len:Int))=true:=by simp;omega
            have dqn:decide (q < len)=true:=by simp;omega
            cases htr:D2.truncate (logN (nm pre)) (q:Int) with
            | mk Dt e1t =>
             have Htr:=zh (show Calls Tryz.prog 90 #[.pointer (some ⟨r,0,none⟩),.string (sLog pre),.int .i64 (q:Int)] wr fun e w'=>e=.returned (.int .i64 (e1t:Int))∧ROS w (FSnd bB (.slice gp s.group.length gc) (.slice dp s.data.length dc)) j r pre own w' Dt M3∧Same (FSnd bB (.slice gp s.group.length gc) (.slice dp s.data.length dc)) wr w' from by
              have:=zEA (Re:=D2.truncate (nm (sLog pre)) (q:Int)) HSw.out (Below.refl _ _) fun v L own1 hR=>rtrunc_calls hR (sLog pre) (by rw [hsl];omega) (q:Int) (by omega) (by omega)
              rwa [zBf,htr] at this)
             by_cases he1t:e1t=0
             ·subst he1t
              cases hsy:Dt.sync [logN (nm pre)] with
              | mk D3 e2t =>
               have hT:zA0 D2 (logN (nm pre)) q len=(D3,e2t):=by unfold zA0;rw [if_pos hqq,htr,if_neg (by simp)];exact hsy
               have hR:=HRm.out
               rw [hT] at hR
               have Hsy:=zh (fun W (h:ROS w (FSnd bB (.slice gp s.group.length gc) (.slice dp s.data.length dc)) j r pre own W Dt M3)=>show Calls Tryz.prog 91 #[.pointer (some ⟨r,0,none⟩),.string (sLog pre)] W fun e w'=>e=.returned (.int .i64 (e2t:Int))∧ROS w (FSnd bB (.slice gp s.group.length gc) (.slice dp s.data.length dc)) j r pre own w' D3 M3∧Same (FSnd bB (.slice gp s.group.length gc) (.slice dp s.data.length dc)) W w' from by
                have:=zEA (Re:=Dt.sync [nm (sLog pre)]) h (Below.refl _ _) fun v L own1 hR=>zDc hR (sLog pre) (by rw [hsl];omega)
                rwa [zBf,hsy] at this)
               clear htr hsy hT HRm
               by_cases he2t:e2t=0
               ·subst he2t
                have hli:li=(D3,0,false,M3):=Hhl.out.symm.trans hR
                have hli0:=Hhl.out
                have HNo:=zh (show zAd (some s) M3 false=none→zAS D (nm pre) nodes=(D3,3,JouM.none0 nodes) from fun hj=>by have h9:=HNo0.out He1.out He2.out Hks.out;rw [hli] at h9;exact h9 rfl hj)
                have HKp:=zh (show ∀ M,zAd (some s) M3 false=some (false,M)→zAS D (nm pre) nodes=(D3,0,M) from fun M hj=>by have h9:=HKp0.out M He1.out He2.out Hks.out;rw [hli] at h9;exact h9 rfl hj)
                have HAn:=zh (show ∀ M,zAd (some s) M3 false=some (true,M)→zAS D (nm pre) nodes=((zAR D3 (nm pre) M).1,(zAR D3 (nm pre) M).2,M) from fun M hj=>by have h9:=HAn0.out M He1.out He2.out Hks.out;rw [hli] at h9;exact h9 rfl hj)
                have Hlen:=zh (zBq (D:=D2) (D':=D3) (pre:=nm pre) (M:=JouM.none0 nodes) (M':=M3) HOkD2.out Hrm.out (show (JouM.none0 nodes).entries=[] from rfl) (hli0.trans hli))
                clear hli hli0 hR
                go_wp2_with fail
                refine Htr.out.mono ?_
                rintro e w6 ⟨rfl,hj6,hs6⟩
                have Hsy6:=zh (Hsy.out w6 hj6)
                have HSN:=zh (show Snd w w6 bB (.slice gp s.group.length gc) (.slice dp s.data.length dc) s from HSN.out.same hs6)
                clear hj6 hs6 Htr Hsy
                go_wp2_with fail
                refine Hsy6.out.mono ?_
                rintro e WT ⟨rfl,hj7,hs7⟩
                have HST:=zh hj7
                have HSN:=zh (show Snd w WT bB (.slice gp s.group.length gc) (.slice dp s.data.length dc) s from HSN.out.same hs7)
                clear hj7 hs7 Hsy6
                obtain ⟨gvT,dvT,evT,hcellT⟩:=HST.out.cells
                have c0:=zAA hcellT (i:=0) rfl
                have c7:=zAA hcellT (i:=7) rfl
                have f7:=zAF hcellT 7
                have y0:=zAA HSN.out.1 (i:=0) rfl
                clear hcellT
                by_cases hgt:s.number < M3.number
                ·have HR:=zh (HNo.out (show zAd (some s) M3 false=none from by unfold zAd;exact (if_neg (by omega)).trans (if_pos hgt)))
                 have HE:=zh (fun q=>zAc (HST.out.next (zAX WT q)) HR.out (by decide))
                 have d0:decide ((s.number:Int) < (M3.number:Int))=true:=by simp;omega
                 have d0n:decide (s.number < M3.number)=true:=by simp;omega
                 clear hgt c7 f7
                 go_wp2_with fail
                 go_quiet (fail)
                 go_wp2_with fail
                 go_ret2
                 exact HE.out _
                ·have d0:decide ((s.number:Int) < (M3.number:Int))=false:=by simp;omega
                 have d0n:decide (s.number < M3.number)=false:=by simp;omega
                 have Hdt:=zh (fun q=>ros_data (F':=fun k=>k=bB∨(Value.slice gp s.group.length gc).ownBlock=some k) (HST.out.next (zAX WT q)) (v2:=.slice dp s.data.length dc) (HasB.below HSN.out.2.2.1 (zAX WT q)) (fun k hk=>⟨.inr (.inr hk),HSN.out.2.2.2.1 k hk⟩) (fun k hk=>⟨hk.elim .inl fun h=>.inr (.inl h),HSN.out.2.2.2.2 k hk⟩) (Nat.le_trans Hso.out.2.1 (by decide)))
                 go_wp2_with fail
                 go_quiet (fail)
                 go_wp2_with fail
                 generalize hWD:(World.setCell _ _ _)=WD
                 have HSD:=zh (show ROS w (fun k=>k=bB∨(Value.slice gp s.group.length gc).ownBlock=some k) j r pre own WD D3 { M3 with data:=s.data } from by rw [← hWD];exact (Hdt.out _).1)
                 have hsm:∀ k,(FSnd bB (.slice gp s.group.length gc) (.slice dp s.data.length dc)) k→WD.heap[k]?=WT.heap[k]?:=fun k hk=>by rw [← hWD];exact (Hdt.out _).2 k hk
                 have HX:=zh ((hsm bB (.inl rfl)).trans HSN.out.1)
                 have HG:=zh (show HasI WD (.slice gp s.group.length gc) s.group from zAL.keep HSN.out.2.1 fun k hk=>hsm k (.inr (.inl hk)))
                 obtain ⟨gvD,dvD,evD,hcellD⟩:=HSD.out.cells
                 have c0:WD.cell? ⟨j,0,none⟩=some (.int .i64 (M3.number:Int)):=zAA hcellD (i:=0) rfl
                 have z0:=zAA HX.out (i:=0) rfl
                 have z1:=zAA HX.out (i:=1) rfl
                 have z2:=zAA HX.out (i:=2) rfl
                 clear hcellD c7 f7 y0 hsm hWD Hdt
                 by_cases hlt:M3.number < s.number
                 ·have HJn:=zh (show zAd (some s) M3 false=some (true,M3.rebase s) from by unfold zAd;exact if_pos hlt)
                  have d1:decide ((M3.number:Int) < (s.number:Int))=true:=by simp;omega
                  have d1n:decide (M3.number < s.number)=true:=by simp;omega
                  have HR0:=HAn.out _ HJn.out
                  have Hst:=zh (fun q=>ros_stands (HSD.out.next (zAX WD q)) (n2:=s.number) (t2:=s.term) (g2:=s.group) hlt (show (⟨s.number,s.term,s.group,s.data⟩:Snap).OK from Hso.out.1) (pg:=gp) (cg:=gc) (zAL.keep HG.out fun _ _=>rfl) (fun k hk=>.inr hk))
                  have Z:=fun q=>And.intro (show (WD.drewN q).cell? ⟨bB,0,none⟩=_ from z0) (And.intro (show (WD.drewN q).cell? ⟨bB,1,none⟩=_ from z1) (show (WD.drewN q).cell? ⟨bB,2,none⟩=_ from z2))
                  have HZ:=zh Z
                  clear hlt hgt Z
                  go_wp2_with fail
                  go_quiet (fail)
                  generalize hqx:World.drewN WD _=WX
                  have HstX:=zh (show Calls Tryz.prog 92 #[.pointer (some ⟨j,0,none⟩),.agg #[.int .i64 (s.number:Int),.int .i64 s.term,.slice gp s.group.length gc]] WX fun e w'=>e=.returned (.tuple #[])∧ROS w (fun k=>k=bB∨(Value.slice gp s.group.length gc).ownBlock=some k) j r pre own w' D3 (M3.rebase s)∧Same _ WX w' from by rw [← hqx];exact Hst.out _)
                  have z0:WX.cell? ⟨bB,0,none⟩=some (.int .i64 (s.number:Int)):=by rw [← hqx];exact (HZ.out _).1
                  have z1:WX.cell? ⟨bB,1,none⟩=some (.int .i64 s.term):=by rw [← hqx];exact (HZ.out _).2.1
                  have z2:WX.cell? ⟨bB,2,none⟩=some (.slice gp s.group.length gc):=by rw [← hqx];exact (HZ.out _).2.2
                  clear hqx c0 Hst HZ
                  go_wp2_with fail
                  refine HstX.out.mono ?_
                  rintro e w7 ⟨rfl,hj7,-⟩
                  have HJ7:=zh hj7
                  clear hj7 HstX z0 z1 z2
                  go_wp2_with fail
                  cases hwj:zAR D3 (nm pre) (M3.rebase s) with
                  | mk D4 e4 =>
                   have Hwj:=zh (zEv HJ7.out (Nat.le_trans (zDC M3 s) Hlen.out))
                   rw [hwj] at Hwj
                   have HRw:=HR0
                   rw [hwj] at HRw
                   have HRw:=zh HRw
                   clear hwj
                   by_cases he4:e4=0
                   ·subst he4
                    go_wp2_with fail
                    refine Hwj.out.mono ?_
                    rintro e w9 ⟨rfl,hj9,hs9⟩
                    have HE:=zh (zBA hj9 HRw.out)
                    clear hj9 hs9 Hwj
                    go_wp2_with fail
                    go_ret2
                    exact HE.out
                   ·have hne4:((e4:Int) != 0)=true:=by simp;omega
                    have He4:=zh he4
                    clear he4
                    go_wp2_with fail
                    refine Hwj.out.mono ?_
                    rintro e w9 ⟨rfl,hj9,hs9⟩
                    have HE:=zh (zAc hj9 HRw.out He4.out)
                    clear hj9 hs9 Hwj
                    go_wp2_with fail
                    go_ret2
                    exact HE.out
                 ·have HJn:=zh (show zAd (some s) M3 false=some (false,{ M3 with data:=s.data }) from by unfold zAd;exact (if_neg hlt).trans (if_neg hgt))
                  have d1:decide ((M3.number:Int) < (s.number:Int))=false:=by simp;omega
                  have d1n:decide (M3.number < s.number)=false:=by simp;omega
                  clear hlt hgt
                  go_wp2_with fail
                  go_quiet (fail)
                  have HR:=zh (HKp.out _ HJn.out)
                  have HE:=zh (fun q=>zBA (HSD.out.next (zAX WD q)) HR.out)
                  go_wp2_with fail
                  go_ret2
                  exact HE.out _
               ·have hne:((e2t:Int) != 0)=true:=by simp;omega
                have hli:li=(D3,e2t,false,M3):=Hhl.out.symm.trans hR
                have HLI:=zh (show zAS D (nm pre) nodes=(D3,e2t,JouM.none0 nodes) from by have h9:=HE4.out He1.out He2.out Hks.out;rw [hli] at h9;exact h9 he2t)
                have He2t:=zh he2t
                clear hli hR he2t
                go_wp2_with fail
                refine Htr.out.mono ?_
                rintro e w6 ⟨rfl,hj6,hs6⟩
                have Hsy6:=zh (Hsy.out w6 hj6)
                clear hj6 hs6 Htr Hsy
                go_wp2_with fail
                refine Hsy6.out.mono ?_
                rintro e WT ⟨rfl,hj7,hs7⟩
                have HE:=zh (zAc hj7 HLI.out He2t.out)
                clear hj7 hs7 Hsy6
                go_wp2_with fail
                go_ret2
                exact HE.out
             ·have hT:zA0 D2 (logN (nm pre)) q len=(Dt,e1t):=by unfold zA0;rw [if_pos hqq,htr,if_pos he1t]
              have hR:=HRm.out
              rw [hT] at hR
              have hli:li=(Dt,e1t,false,M3):=Hhl.out.symm.trans hR
              have HLI:=zh (show zAS D (nm pre) nodes=(Dt,e1t,JouM.none0 nodes) from by have h9:=HE4.out He1.out He2.out Hks.out;rw [hli] at h9;exact h9 he1t)
              have hne:((e1t:Int) != 0)=true:=by simp;omega
              have heq:((e1t:Int) == 0)=false:=by simp;omega
              have He1t:=zh he1t
              clear htr hT hR HRm hli he1t
              go_wp2_with fail
              refine Htr.out.mono ?_
              rintro e w6 ⟨rfl,hj6,hs6⟩
              have HE:=zh (zAc hj6 HLI.out He1t.out)
              clear hj6 hs6 Htr
              go_wp2_with fail
              go_ret2
              exact HE.out
           ·have dq:decide ((q:Int) < (len:Int))=false:=by simp;omega
            have dqn:decide (q < len)=false:=by simp;omega
            have hT:zA0 D2 (logN (nm pre)) q len=(D2,0):=by unfold zA0;rw [if_neg hqq]
            have hR:=HRm.out
            rw [hT] at hR
            have hli:li=(D2,0,false,M3):=Hhl.out.symm.trans hR
            have hli0:=Hhl.out
            obtain ⟨D3,hD3⟩:∃ D3,D3=D2:=⟨_,rfl⟩
            rw [← hD3] at hli
            have HNo:=zh (show zAd (some s) M3 false=none→zAS D (nm pre) nodes=(D3,3,JouM.none0 nodes) from fun hj=>by have h9:=HNo0.out He1.out He2.out Hks.out;rw [hli] at h9;exact h9 rfl hj)
            have HKp:=zh (show ∀ M,zAd (some s) M3 false=some (false,M)→zAS D (nm pre) nodes=(D3,0,M) from fun M hj=>by have h9:=HKp0.out M He1.out He2.out Hks.out;rw [hli] at h9;exact h9 rfl hj)
            have HAn:=zh (show ∀ M,zAd (some s) M3 false=some (true,M)→zAS D (nm pre) nodes=((zAR D3 (nm pre) M).1,(zAR D3 (nm pre) M).2,M) from fun M hj=>by have h9:=HAn0.out M He1.out He2.out Hks.out;rw [hli] at h9;exact h9 rfl hj)
            have Hlen:=zh (zBq (D:=D2) (D':=D3) (pre:=nm pre) (M:=JouM.none0 nodes) (M':=M3) HOkD2.out Hrm.out (show (JouM.none0 nodes).entries=[] from rfl) (hli0.trans hli))
            have HST:=zh (show ROS w (FSnd bB (.slice gp s.group.length gc) (.slice dp s.data.length dc)) j r pre own wr D3 M3 from by rw [hD3];exact HSw.out)
            clear hT hR HRm hli hli0 hD3 HSw
            go_wp2_with fail
            generalize hWT:wr=WT at *
            clear hWT
            obtain ⟨gvT,dvT,evT,hcellT⟩:=HST.out.cells
            have c0:=zAA hcellT (i:=0) rfl
            have c7:=zAA hcellT (i:=7) rfl
            have f7:=zAF hcellT 7
            have y0:=zAA HSN.out.1 (i:=0) rfl
            clear hcellT
            by_cases hgt:s.number < M3.number
            ·have HR:=zh (HNo.out (show zAd (some s) M3 false=none from by unfold zAd;exact (if_neg (by omega)).trans (if_pos hgt)))
             have HE:=zh (fun q=>zAc (HST.out.next (zAX WT q)) HR.out (by decide))
             have d0:decide ((s.number:Int) < (M3.number:Int))=true:=by simp;omega
             have d0n:decide (s.number < M3.number)=true:=by simp;omega
             clear hgt c7 f7
             go_wp2_with fail
             go_quiet (fail)
             go_wp2_with fail
             go_ret2
             exact HE.out _
            ·have d0:decide ((s.number:Int) < (M3.number:Int))=false:=by simp;omega
             have d0n:decide (s.number < M3.number)=false:=by simp;omega
             have Hdt:=zh (fun q=>ros_data (F':=fun k=>k=bB∨(Value.slice gp s.group.length gc).ownBlock=some k) (HST.out.next (zAX WT q)) (v2:=.slice dp s.data.length dc) (HasB.below HSN.out.2.2.1 (zAX WT q)) (fun k hk=>⟨.inr (.inr hk),HSN.out.2.2.2.1 k hk⟩) (fun k hk=>⟨hk.elim .inl fun h=>.inr (.inl h),HSN.out.2.2.2.2 k hk⟩) (Nat.le_trans Hso.out.2.1 (by decide)))
             go_wp2_with fail
             go_quiet (fail)
             go_wp2_with fail
             generalize hWD:(World.setCell _ _ _)=WD
             have HSD:=zh (show ROS w (fun k=>k=bB∨(Value.slice gp s.group.length gc).ownBlock=some k) j r pre own WD D3 { M3 with data:=s.data } from by rw [← hWD];exact (Hdt.out _).1)
             have hsm:∀ k,(FSnd bB (.slice gp s.group.length gc) (.slice dp s.data.length dc)) k→WD.heap[k]?=WT.heap[k]?:=fun k hk=>by rw [← hWD];exact (Hdt.out _).2 k hk
             have HX:=zh ((hsm bB (.inl rfl)).trans HSN.out.1)
             have HG:=zh (show HasI WD (.slice gp s.group.length gc) s.group from zAL.keep HSN.out.2.1 fun k hk=>hsm k (.inr (.inl hk)))
             obtain ⟨gvD,dvD,evD,hcellD⟩:=HSD.out.cells
             have c0:WD.cell? ⟨j,0,none⟩=some (.int .i64 (M3.number:Int)):=zAA hcellD (i:=0) rfl
             have z0:=zAA HX.out (i:=0) rfl
             have z1:=zAA HX.out (i:=1) rfl
             have z2:=zAA HX.out (i:=2) rfl
             clear hcellD c7 f7 y0 hsm hWD Hdt
             by_cases hlt:M3.number < s.number
             ·have HJn:=zh (show zAd (some s) M3 false=some (true,M3.rebase s) from by unfold zAd;exact if_pos hlt)
              have d1:decide ((M3.number:Int) < (s.number:Int))=true:=by simp;omega
              have d1n:decide (M3.number < s.number)=true:=by simp;omega
              have HR0:=HAn.out _ HJn.out
              have Hst:=zh (fun q=>ros_stands (HSD.out.next (zAX WD q)) (n2:=s.number) (t2:=s.term) (g2:=s.group) hlt (show (⟨s.number,s.term,s.group,s.data⟩:Snap).OK from Hso.out.1) (pg:=gp) (cg:=gc) (zAL.keep HG.out fun _ _=>rfl) (fun k hk=>.inr hk))
              have Z:=fun q=>And.intro (show (WD.drewN q).cell? ⟨bB,0,none⟩=_ from z0) (And.intro (show (WD.drewN q).cell? ⟨bB,1,none⟩=_ from z1) (show (WD.drewN q).cell? ⟨bB,2,none⟩=_ from z2))
              have HZ:=zh Z
              clear hlt hgt Z
              go_wp2_with fail
              go_quiet (fail)
              generalize hqx:World.drewN WD _=WX
              have HstX:=zh (show Calls Tryz.prog 92 #[.pointer (some ⟨j,0,none⟩),.agg #[.int .i64 (s.number:Int),.int .i64 s.term,.slice gp s.group.length gc]] WX fun e w'=>e=.returned (.tuple #[])∧ROS w (fun k=>k=bB∨(Value.slice gp s.group.length gc).ownBlock=some k) j r pre own w' D3 (M3.rebase s)∧Same _ WX w' from by rw [← hqx];exact Hst.out _)
              have z0:WX.cell? ⟨bB,0,none⟩=some (.int .i64 (s.number:Int)):=by rw [← hqx];exact (HZ.out _).1
              have z1:WX.cell? ⟨bB,1,none⟩=some (.int .i64 s.term):=by rw [← hqx];exact (HZ.out _).2.1
              have z2:WX.cell? ⟨bB,2,none⟩=some (.slice gp s.group.length gc):=by rw [← hqx];exact (HZ.out _).2.2
              clear hqx c0 Hst HZ
              go_wp2_with fail
              refine HstX.out.mono ?_
              rintro e w7 ⟨rfl,hj7,-⟩
              have HJ7:=zh hj7
              clear hj7 HstX z0 z1 z2
              go_wp2_with fail
              cases hwj:zAR D3 (nm pre) (M3.rebase s) with
              | mk D4 e4 =>
               have Hwj:=zh (zEv HJ7.out (Nat.le_trans (zDC M3 s) Hlen.out))
               rw [hwj] at Hwj
               have HRw:=HR0
               rw [hwj] at HRw
               have HRw:=zh HRw
               clear hwj
               by_cases he4:e4=0
               ·subst he4
                go_wp2_with fail
                refine Hwj.out.mono ?_
                rintro e w9 ⟨rfl,hj9,hs9⟩
                have HE:=zh (zBA hj9 HRw.out)
                clear hj9 hs9 Hwj
                go_wp2_with fail
                go_ret2
                exact HE.out
               ·have hne4:((e4:Int) != 0)=true:=by simp;omega
                have He4:=zh he4
                clear he4
                go_wp2_with fail
                refine Hwj.out.mono ?_
                rintro e w9 ⟨rfl,hj9,hs9⟩
                have HE:=zh (zAc hj9 HRw.out He4.out)
                clear hj9 hs9 Hwj
                go_wp2_with fail
                go_ret2
                exact HE.out
             ·have HJn:=zh (show zAd (some s) M3 false=some (false,{ M3 with data:=s.data }) from by unfold zAd;exact (if_neg hlt).trans (if_neg hgt))
              have d1:decide ((M3.number:Int) < (s.number:Int))=false:=by simp;omega
              have d1n:decide (M3.number < s.number)=false:=by simp;omega
              clear hlt hgt
              go_wp2_with fail
              go_quiet (fail)
              have HR:=zh (HKp.out _ HJn.out)
              have HE:=zh (fun q=>zBA (HSD.out.next (zAX WD q)) HR.out)
              go_wp2_with fail
              go_ret2
              exact HE.out _
end Go.Proofs.YtapfnehdgailmaaGreat
