/- ledger: Append. (Printed by mkled6.py.) -/
import Derived.Test.YtapfnehdgailmaaGreatEQ
set_option maxRecDepth 100000
set_option maxHeartbeats 64000000
namespace Go.Proofs.YtapfnehdgailmaaGreat
open Go.RowKit Go.Sat Go.Maps
def zBh (w w1:World) (l d:Nat) (pre:ByteArray) (F:Nat→Prop) (r:Wrote) (e:Ending) (w':World):Prop :=
 e=.returned (.tuple #[.int .i64 (r.num:Int),.int .i64 (r.err:Int)])∧LedF w w' l d pre r.disk r.led F∧Same F w1 w'
section
variable {w w1 w2 wc:World} {l d:Nat} {pre:ByteArray} {D:zAA} {M:LedM} {F:Nat→Prop}
theorem led_append (h:LedF w w1 l d pre D M F) (hb:Below w1.heap.size w1 wc) (s:ByteArray) (x:Value) (ls:List Bs) (hx:zBA wc x ls) (hn:ls.length≤140737488355328) (hl:ls.flatten.length≤140737488355328) (hsz:s.size≤9223372036854775807) :
  Calls Tryz.prog 15 #[.pointer (some ⟨d,0,none⟩),.string s,x] wc fun e w'=>e=.returned (.int .i64 ((D.append (nm s) ls.flatten).2:Int))∧LedF w w' l d pre (D.append (nm s) ls.flatten).1 M F∧Same F w1 w'∧w'.heap[l]?=w1.heap[l]? :=
 zDp h hb fun _ hS=>st_append (hS.next hb) s x ls hx hn hl hsz
theorem app_dead (hd:M.dead=true) (b:Bs):zAL (nm pre) D M b=⟨D,M,0,9⟩:=by unfold zAL;rw [if_pos hd]
theorem app_long (hd:M.dead=false) (b:Bs) (h:65536 < b.length∨1099511627776≤M.last):zAL (nm pre) D M b=⟨D,M,0,5⟩:=by unfold zAL;rw [if_neg (by simp [hd]),if_pos h]
theorem app_err (hd:M.dead=false) (b:Bs) (h:¬ (65536 < b.length∨1099511627776≤M.last)) {r:zAA × Nat} (hr:zCq D (logN (nm pre)) (zAG (imgB (M.last+1) b))=r) (h1:r.2≠0):zAL (nm pre) D M b=⟨r.1,M.die,0,r.2⟩:=by
 unfold zAL
 rw [if_neg (by simp [hd]),if_neg h,hr,if_pos h1]
theorem app_ok (hd:M.dead=false) (b:Bs) (h:¬ (65536 < b.length∨1099511627776≤M.last)) {r:zAA × Nat} (hr:zCq D (logN (nm pre)) (zAG (imgB (M.last+1) b))=r) (h1:r.2=0):zAL (nm pre) D M b=⟨r.1,{ M with entries:=M.entries ++ [b] },M.last+1,0⟩:=by
 unfold zAL
 rw [if_neg (by simp [hd]),if_neg h,hr,if_neg (by simpa using h1)]
theorem wr_fresh (w:World) (fr:Nat × Nat):fr=(0,0)→WrIn (w.alloc (.cells #[.slice none 0 0] 163 fr)) w.heap.size (.slice none 0 0) []:=fun h=>by
 subst h
 exact ⟨zAW w _,OwnR.nil _ _ _,fun e=>by cases e⟩
theorem wr_below {W0 W1 W2:World} {k:Nat} {v v2:Value} (hb:Below W0.heap.size W0 W1) (hk:W0.heap.size≤k) (hv:∀ j,v.ownBlock=some j→W0.heap.size≤j) (hc:Chg (WrS k v) W1 W2) (hn:∀ j,v2.ownBlock=some j→v.ownBlock=some j∨W1.heap.size≤j):Below W0.heap.size W0 W2∧∀ j,v2.ownBlock=some j→W0.heap.size≤j :=
 ⟨hb.trans (hc.below hb.size fun j hj hs=>by
  rcases hs with rfl | hs
  ·omega
  ·have:=hv j hs
   omega),fun j hj=>(hn j hj).elim (hv j) (Nat.le_trans hb.size)⟩
theorem zDo (h:LedF w w1 l d pre D M F) {pp:Option Addr} {n c:Nat} {b:Bs} (hx:∀ W,Below w.heap.size w W→Same F w1 W→HasB W (.slice pp n c) b) (hb47:b.length≤140737488355328) :
  Calls Tryz.prog 55 #[.pointer (some ⟨l,0,none⟩),.slice pp n c] w1 (zBh w w1 l d pre F (zAL (nm pre) D M b)):=by
 obtain ⟨i0,hi,hz0,hz1,hz2⟩:=info_parts (show (Tryz.prog.info? 22).map (fun i=>(i.zero,i.size,i.bytes))=some (some (.slice none 0 0),1,24) by kernel_rfl)
 have hn:b.length=n:=by obtain ⟨_,_,e⟩:=(hx w1 h.bel fun _ _=>rfl).slice;simp only [Value.slice.injEq] at e;exact e.2.1.symm
 have hps:=h.psz.2
 have hlast40:=h.last
 obtain ⟨dv,ev,hcl,-⟩:=h.cells
 have k5:=zAC hcl (i:=5) rfl
 have H:=zh h
 have Hx:=zh hx
 have Hla:=zh (last_calls h)
 clear h hx hcl
 cases hd:M.dead with
 | true =>
  have HE:=zh (show zBh w w1 l d pre F (zAL (nm pre) D M b) (.returned (.tuple #[.int .i64 0,.int .i64 9])) w1 from by rw [app_dead hd];exact ⟨rfl,H.out,fun _ _=>rfl⟩)
  have k5':w1.cell? ⟨l,5,none⟩=some (.bool true):=by rw [← hd];exact k5
  clear k5 hd
  go_enter Tryz.func55,Tryz.ntmps55
  go_wp2_with fail
  go_ret2
  exact HE.out
 | false =>
  have k5':w1.cell? ⟨l,5,none⟩=some (.bool false):=by rw [← hd];exact k5
  have Hd:=zh hd
  clear k5 hd
  by_cases hbig:65536 < n
  ·have HE:=zh (show zBh w w1 l d pre F (zAL (nm pre) D M b) (.returned (.tuple #[.int .i64 0,.int .i64 5])) w1 from by rw [app_long Hd.out _ (.inl (by omega))];exact ⟨rfl,H.out,fun _ _=>rfl⟩)
   go_enter Tryz.func55,Tryz.ntmps55
   go_wp2_with fail
   go_ret2
   exact HE.out
  ·by_cases hla40:1099511627776≤M.last
   ·have HE:=zh (fun q=>show zBh w w1 l d pre F (zAL (nm pre) D M b) (.returned (.tuple #[.int .i64 0,.int .i64 5])) (w1.drewN q) from by rw [app_long Hd.out _ (.inr hla40)];exact ⟨rfl,H.out.next ⟨rfl,rfl,rfl,Nat.le_refl _,fun _ _=>rfl⟩,fun _ _=>rfl⟩)
    generalize M.last=la at *
    go_enter Tryz.func55,Tryz.ntmps55
    go_wp2_with fail
    refine Hla.out.mono ?_
    rintro e w2 ⟨rfl,q,rfl⟩
    go_wp2_with fail
    go_ret2
    exact HE.out q
   ·have Hno:=zh (show ¬ (65536 < b.length∨1099511627776≤M.last) from fun e=>e.elim (by omega) hla40)
    have Hla1:=zh (show M.last+1≤1099511627776 by omega)
    have Hm40:=zh (show M.entries.length≤1099511627776 by unfold LedM.last at hlast40;omega)
    have Hb30:=zh (show b.length≤1073741824 by omega)
    have HLV:=zh (show M.last=M.last from rfl)
    go_enter Tryz.func55,Tryz.ntmps55
    generalize hlaE:M.last=la at *
    have HlaE:=zh hlaE
    clear hlaE
    go_wp2_with fail
    refine Hla.out.mono ?_
    rintro e w2 ⟨rfl,q,rfl⟩
    go_wp2_with fail
    have HL2:=zh (H.out.next (show Below w1.heap.size w1 ((w1.drewN q).alloc (.cells #[.slice none 0 0] 163)) from (show Below w1.heap.size w1 (w1.drewN q) from ⟨rfl,rfl,rfl,Nat.le_refl _,fun _ _=>rfl⟩).alloc (Nat.le_refl _) _))
    have Hs2:=zh (show Same F w1 ((w1.drewN q).alloc (.cells #[.slice none 0 0] 163)) from fun k hk=>(zAJ (w1.drewN q) _).block k (H.out.flt hk))
    have Hw2:=zh (show WrIn ((w1.drewN q).alloc (.cells #[.slice none 0 0] 163)) w1.heap.size (.slice none 0 0) [] from wr_fresh (w1.drewN q) (0,0) rfl)
    have HB2:=zh (show Below w1.heap.size w1 ((w1.drewN q).alloc (.cells #[.slice none 0 0] 163)) from (show Below w1.heap.size w1 (w1.drewN q) from ⟨rfl,rfl,rfl,Nat.le_refl _,fun _ _=>rfl⟩).alloc (Nat.le_refl _) _)
    have Hla2:=zh (last_calls HL2.out)
    rw [HlaE.out] at Hla2
    generalize (w1.drewN q).alloc (.cells #[.slice none 0 0] 163)=W2 at *
    refine Hla2.out.mono ?_
    rintro e w3 ⟨rfl,q2,rfl⟩
    have hdq:Below W2.heap.size W2 (W2.drewN q2):=⟨rfl,rfl,rfl,Nat.le_refl _,fun _ _=>rfl⟩
    have Hn1:=zh (wnum_one (Hw2.out.keep hdq) ((la:Int)+1) ⟨by omega,by have:=Hla1.out;omega⟩ (by simp) W2.heap.size 1 rfl (0,0))
    have Hba:=zh (show Below w1.heap.size w1 ((W2.drewN q2).alloc (.cells #[.int .i64 ((la:Int)+1)] 3)) from (HB2.out.trans (hdq.mono HB2.out.size)).alloc HB2.out.size _)
    have hl1:(la:Int)≤1099511627776:=by have:=Hla1.out;omega
    clear hdq Hla2 HL2 Hs2
    go_wp2_with fail
    refine Hn1.out.mono ?_
    rintro e w3 ⟨rfl,v3,hv3,hc3,hn3⟩
    have HB3:=zh (wr_below Hba.out (Nat.le_refl _) (fun j hj=>by cases hj) hc3 hn3)
    have Hv3:=zh hv3
    have Hby:=zh (wbytes_one hv3 (pv:=pp) (m:=n) (cv:=c) (x:=b) (fun W hc=>by
     have hbW:Below w1.heap.size w1 W:=HB3.out.1.trans (hc.below HB3.out.1.size fun j hj hs=>by
      rcases hs with rfl | hs
      ·omega
      ·have:=HB3.out.2 j hs
       omega)
     exact Hx.out W (H.out.bel.trans (hbW.mono H.out.bel.size)) fun k hk=>hbW.block k (H.out.flt hk)) (by
     have h1:=numI_len ((la:Int)+1)
     rw [List.nil_append]
     have:=Hb30.out
     omega) w3.heap.size 1 rfl (0,0))
    have Hbb:=zh (show Below w1.heap.size w1 (w3.alloc (.cells #[.slice pp n c] 22)) from HB3.out.1.alloc HB3.out.1.size _)
    clear hv3 hc3 hn3 Hn1
    go_wp2_with fail
    refine Hby.out.mono ?_
    rintro e w4 ⟨rfl,v4,hv4,hc4,hn4⟩
    have HB4:=zh (wr_below Hbb.out (Nat.le_refl _) HB3.out.2 hc4 hn4).1
    have hi4:[] ++ numI ((la:Int)+1) ++ rowB b=imgB (la+1) b:=by
     rw [List.nil_append]
     unfold imgB
     rw [show ((la:Int)+1)=((la+1:Nat):Int) by omega,zCr (by have:=Hla1.out;omega)]
    rw [hi4] at hv4
    have hil:(imgB (la+1) b).length≤70000:=by
     unfold imgB rowB
     have h1:=zAu (n:=la+1) (by have:=Hla1.out;omega)
     have h2:=zAu (n:=b.length) (by have:=Hb30.out;omega)
     rw [List.length_append,List.length_append]
     omega
    have Hou:=zh (zDP hv4 (by omega))
    have Hil:=zh hil
    clear hv4 hc4 hn4 hi4 Hby hil
    generalize hIM:imgB (la+1) b=im at *
    have HIM:=zh hIM
    clear hIM
    go_wp2_with fail
    refine Hou.out.mono ?_
    rintro e w5 ⟨v5,rfl,hv5,hn5,hb5⟩
    have HB5:=zh (show Below w1.heap.size w1 w5 from HB4.out.trans (hb5.mono HB4.out.size))
    obtain ⟨p5,c5,rfl,-⟩:=zAX hv5
    have hr5:=zCT hv5.has 22 (0,0) w5.heap.size 1 rfl (Nat.le_refl _)
    have hen:=enc_calls hr5 (by decide) (by rw [List.flatten_cons,List.flatten_nil,List.append_nil];have:=Hil.out;omega)
    rw [show [im].flatten=im from by rw [List.flatten_cons,List.flatten_nil,List.append_nil]] at hen
    have Hen:=zh hen
    clear hv5 hn5 hb5 hr5 hen Hou
    generalize hml:im.length=ml at *
    have Hml:=zh hml
    clear hml
    go_wp2_with fail
    refine Hen.out.mono ?_
    rintro e w6 ⟨v6,rfl,hv6,hn6,hb6⟩
    have HB6:=zh (show Below w1.heap.size w1 w6 from (HB5.out.alloc HB5.out.size _).trans (hb6.mono (HB5.out.alloc HB5.out.size _).size))
    have HL6:=zh (H.out.next HB6.out)
    have Hs6:=zh (H.out.same HB6.out)
    obtain ⟨pf,cf,rfl⟩:=HasB.slice hv6
    have hfl:(zAG im).length≤70100:=by rw [zAo,Hml.out];have:=Hil.out;omega
    have Hfl:=zh hfl
    generalize hfr:zAG im=fr at *
    have Hfr:=zh (show zAG (imgB (M.last+1) b)=fr from by rw [HlaE.out,HIM.out,hfr])
    have Hf6:=zh hv6
    clear hv6 hn6 hb6 Hen hfr hfl
    generalize hnf:fr.length=nf at *
    have Hnf:=zh hnf
    clear hnf
    cases hap:D.append (logN (nm pre)) fr with
    | mk D1 e1 =>
     have Happ:=zh (show ∀ W,LedF w W l d pre D M F→HasB W (.slice pf nf cf) fr→Calls Tryz.prog 15 #[.pointer (some ⟨d,0,none⟩),.string (sLog pre),.slice (some ⟨W.heap.size,0,none⟩) 1 1] (W.alloc (.cells #[.slice pf nf cf] 22)) fun e w'=>e=.returned (.int .i64 (e1:Int))∧LedF w w' l d pre D1 M F∧Same F W w'∧w'.heap[l]?=W.heap[l]? from fun W h hf=>by
      have hr:=zCT hf 22 (0,0) W.heap.size 1 rfl (Nat.le_refl _)
      have:=led_append h (zAb W (.cells #[.slice pf nf cf] 22)) (sLog pre) _ [fr] hr (by simp) (by rw [List.flatten_cons,List.flatten_nil,List.append_nil,Hnf.out];have:=Hfl.out;omega) (by rw [zB9];omega)
      rwa [zC7,show [fr].flatten=fr from by rw [List.flatten_cons,List.flatten_nil,List.append_nil],hap] at this)
     by_cases he1:e1=0
     ·subst he1
      cases hsy:D1.sync [logN (nm pre)] with
      | mk D2 e2 =>
       have Hly:=zh (show zCq D (logN (nm pre)) (zAG (imgB (M.last+1) b))=(D2,e2) from by unfold zCq;rw [Hfr.out,hap];rw [if_neg (by simp)];exact hsy)
       have Hsy:=zh (show ∀ W,LedF w W l d pre D1 M F→Calls Tryz.prog 130 #[.pointer (some ⟨d,0,none⟩),.slice (some ⟨W.heap.size,0,none⟩) 1 1] (W.alloc (.cells #[.string (sLog pre)] 9)) fun e w'=>e=.returned (.int .i64 (e2:Int))∧LedF w w' l d pre D2 M F∧Same F W w'∧w'.heap[l]?=W.heap[l]? from fun W h=>by
        have:=led_sync h (sLog pre) (by rw [zB9];omega)
        rwa [zC7,hsy] at this)
       clear hap hsy
       by_cases he2:e2=0
       ·subst he2
        have HR:=zh (app_ok Hd.out b (by rw [HlaE.out];exact Hno.out) Hly.out rfl)
        go_wp2_with fail
        have HLd:=zh (HL6.out.next (zAH w6))
        have Hsd:=zh (show Same F w1 w6.drew from Hs6.out)
        have Hfd:=zh (show HasB w6.drew (.slice pf nf cf) fr from HasB.below Hf6.out (zAH w6))
        obtain ⟨hc0,hc1,-⟩:=HL6.out.lc
        refine zAK (fun w':World=>w'.cell? ⟨l,0,none⟩=some (.pointer (some ⟨d,0,none⟩))∧w'.cell? ⟨l,1,none⟩=some (.string pre)) (n:=10) (by kernel_rfl) rfl (⟨hc0,hc1⟩) (fun hHeld=>?_)
        generalize w6.drew=W1 at *
        refine pl [0,1,2,3,4,6] ?_
        iterate 6 (refine pc rfl ?_;simp only [Act.put,uA,uB,uC])
        refine pn ?_
        refine zB8 5 7 rfl rfl (by kernel_rfl) (by rfl) (by rfl) (fun K hK=>?_) (fun K hK=>?_)
        ·go_wp2_with fail
         refine (zAQ ⟨hHeld.1,hHeld.2,hps⟩).mono ?_
         rintro e w9 ⟨rfl,rfl⟩
         go_wp2_with fail
         refine hK.out _ _ (hHeld) (fun hHeld=>?_)
         clear hK
         try simp only [Act.put,uA,uB,uC]
         refine zAB 7 rfl (by kernel_rfl) (by rfl) (fun K hK=>?_)
         have Hh2:=zh (show (W1.alloc (.cells #[.slice pf nf cf] 22)).cell? ⟨l,0,none⟩=some (.pointer (some ⟨d,0,none⟩))∧(W1.alloc (.cells #[.slice pf nf cf] 22)).cell? ⟨l,1,none⟩=some (.string pre) from ⟨zAT hHeld.1 _,zAT hHeld.2 _⟩)
         go_wp2_with fail
         refine hK.out _ _ (Hh2.out) (fun hHeld=>?_)
         clear hK
         try simp only [Act.put,uA,uB,uC]
         refine zAB 8 rfl (by kernel_rfl) (by rfl) (fun K hK=>?_)
         have Hap:=zh (Happ.out W1 HLd.out Hfd.out)
         go_wp2_with fail
         refine Hap.out.mono ?_
         rintro e w7 ⟨rfl,hl7,hs7,hk7⟩
         have Hh3:=zh (HLd.out.lc.same hk7)
         have HL7:=zh hl7
         have Hs7:=zh (show Same F w1 w7 from fun k hk=>(hs7 k hk).trans (Hsd.out k hk))
         clear hl7 hs7 hk7 Hap
         go_wp2_with fail
         refine hK.out _ _ (⟨Hh3.out.1,Hh3.out.2.1⟩) (fun hHeld=>?_)
         clear hK
         try simp only [Act.put,uA,uB,uC]
         refine otk 9 (v:=?v11x9) rfl ?_
         simp only [Act.put,uA,uB,uC]
         refine wpAnyH_done (by kernel_rfl) ?_ _
         clear HLd Hsd Hfd Hh3
         go_wp2_with fail
         have HLd:=zh (HL7.out.next (zAH w7))
         have Hsd:=zh (show Same F w1 w7.drew from Hs7.out)
         obtain ⟨hc0,hc1,-⟩:=HL7.out.lc
         refine zAK (fun w':World=>w'.cell? ⟨l,0,none⟩=some (.pointer (some ⟨d,0,none⟩))∧w'.cell? ⟨l,1,none⟩=some (.string pre)) (n:=9) (by kernel_rfl) rfl (⟨hc0,hc1⟩) (fun hHeld=>?_)
         generalize w7.drew=W1 at *
         refine pl [0,1,2,3,4] ?_
         iterate 5 (refine pc rfl ?_;simp only [Act.put,uA,uB,uC])
         refine pn ?_
         refine zAB 5 rfl (by kernel_rfl) (by rfl) (fun K hK=>?_)
         go_wp2_with fail
         refine (zAQ ⟨hHeld.1,hHeld.2,hps⟩).mono ?_
         rintro e w9 ⟨rfl,rfl⟩
         go_wp2_with fail
         refine hK.out _ _ (hHeld) (fun hHeld=>?_)
         clear hK
         try simp only [Act.put,uA,uB,uC]
         refine zAB 6 rfl (by kernel_rfl) (by rfl) (fun K hK=>?_)
         have Hh2:=zh (show (W1.alloc (.cells #[.string (sLog pre)] 9)).cell? ⟨l,0,none⟩=some (.pointer (some ⟨d,0,none⟩))∧(W1.alloc (.cells #[.string (sLog pre)] 9)).cell? ⟨l,1,none⟩=some (.string pre) from ⟨zAT hHeld.1 _,zAT hHeld.2 _⟩)
         go_wp2_with fail
         refine hK.out _ _ (Hh2.out) (fun hHeld=>?_)
         clear hK
         try simp only [Act.put,uA,uB,uC]
         refine zAB 7 rfl (by kernel_rfl) (by rfl) (fun K hK=>?_)
         go_wp2_with fail
         refine (Hsy.out W1 HLd.out).mono ?_
         rintro e w8 ⟨rfl,hl8,hs8,hk8⟩
         have Hh3:=zh (HLd.out.lc.same hk8)
         have HL8:=zh hl8
         have Hs8:=zh (show Same F w1 w8 from fun k hk=>(hs8 k hk).trans (Hsd.out k hk))
         clear hl8 hs8 hk8
         go_wp2_with fail
         refine hK.out _ _ (⟨Hh3.out.1,Hh3.out.2.1⟩) (fun hHeld=>?_)
         clear hK
         try simp only [Act.put,uA,uB,uC]
         refine otk 8 (v:=?v20x8) rfl ?_
         simp only [Act.put,uA,uB,uC]
         refine wpAnyH_done (by kernel_rfl) ?_ _
         clear HLd Hsd Hh3
         have Hdi:=zh (zBS HL8.out 0)
         go_wp2_with fail
         refine Hdi.out.mono ?_
         rintro e w10 ⟨rfl,hl10,hs10⟩
         have HL10:=zh hl10
         have Hs10:=zh (show Same F w1 w10 from fun k hk=>(hs10 k hk).trans (Hs8.out k hk))
         clear hl10 hs10 Hdi
         have HLm:=zh (show LedF w w10 l d pre D2 M F from by
          have h:=HL10.out
          have e:({ M with dead:=M.dead || decide ((0:Nat)≠0) }:LedM)=M:=by
           rw [Hd.out]
           show (⟨M.base,M.data,M.entries,false⟩:LedM)=M
           rw [← Hd.out]
          rwa [e] at h)
         go_wp2_with fail
         refine zAK (fun _:World=>True) (n:=12) (by kernel_rfl) rfl (trivial) (fun hHeld=>?_)
         have HLd:=zh (HLm.out.next (zAH w10))
         have Hsd:=zh (show Same F w1 w10.drew from Hs10.out)
         generalize w10.drew=W1 at *
         obtain ⟨own,dv,ev,vs,hL,hS,hn,hl⟩:=HLd.out
         have k4:=hL.c4
         have hxW:=Hx.out W1 HLd.out.bel Hsd.out
         have HLx:=zh (And.intro hL (And.intro hS (And.intro hn hl)))
         have Hcl:=zh (zA6 hxW (by omega))
         obtain ⟨pe,ce,rfl⟩:=OwnR.shape hL.row
         clear hL hS hn hl hxW
         refine pl [0,1,2,3,5] ?_
         iterate 5 (refine pc rfl ?_;simp only [Act.put,uA,uB,uC])
         refine pn ?_
         refine zB8 4 6 rfl rfl (by kernel_rfl) (by rfl) (by rfl) (fun K hK=>?_) (fun K hK=>?_)
         ·go_wp2_with fail
          refine hK.out _ _ trivial (fun hHeld=>?_)
          clear hK
          try simp only [Act.put,uA,uB,uC]
          refine zAB 6 rfl (by kernel_rfl) (by rfl) (fun K hK=>?_)
          go_wp2_with fail
          refine Hcl.out.mono ?_
          rintro e w9 ⟨u,rfl,hu,hun,hb9⟩
          have k49:=(hb9.cell (World.block_lt_of_cell? _ _ k4)).trans k4
          have Hu:=zh (And.intro hu (And.intro hun hb9))
          obtain ⟨pu,cu,rfl,-⟩:=zAX hu
          rw [hn] at Hu ⊢
          clear hu hun hb9 Hcl
          go_wp2_with fail
          refine hK.out _ _ trivial (fun hHeld=>?_)
          clear hK
          try simp only [Act.put,uA,uB,uC]
          refine zAB 7 rfl (by kernel_rfl) (by rfl) (fun K hK=>?_)
          have k49a:=zAT k49 (.cells #[.slice pu n cu] 22)
          go_wp2_with fail
          refine hK.out _ _ trivial (fun hHeld=>?_)
          clear hK
          try simp only [Act.put,uA,uB,uC]
          refine zAB 8 rfl (by kernel_rfl) (by rfl) (fun K hK=>?_)
          obtain ⟨hL,hS,hn,hl⟩:=HLx.out
          have hal:=(hL.below Hu.out.2.2).row.keep (w':=w9.alloc (.cells #[.slice pu n cu] 22)) fun j hj=>(zAJ w9 _).block j (Nat.lt_of_lt_of_le (hL.olt j (hL.oe j hj).1) Hu.out.2.2.size)
          have hxx:=zBV w9 (.slice pu n cu) 22 (0,0)
          refine zAi (.tmp 70) (.tmp 73) 108 rfl 22 i0 (.slice none 0 0) 1 24 Tryz.underlying108 hi hz0 hz1 hz2 rfl (by decide) _ _ _ rfl hal (.slice (some ⟨w9.heap.size,0,none⟩) 1 1) 1 _ rfl hxx (by simp [Value.oneCell']) (by unfold maxLen;have:=Hm40.out;omega) (by have:=Hm40.out;omega) ?_
          intro v3 w3 hown3 hgrow3 hloc3
          obtain ⟨hP1,hP2,hP3,hP4⟩:=zCQ (hL.below Hu.out.2.2) Hu.out.1 (fun j hj ho=>by have h1:=Hu.out.2.1 j hj;have h2:=hL.olt j ho;omega) Hb30.out (by rw [HlaE.out];exact Hla1.out) (zAJ w9 _) hown3 hgrow3 hloc3
          obtain ⟨hQ1,hQ2⟩:=LedF.turned hS hn hl hP1 (((Chg.of_below Hu.out.2.2).mono fun _ _ h=>h.elim).trans hP2 fun _ _ h=>h) fun j hj=>by
           rcases hj with hj | hj | hj
           ·exact .inl hj
           ·exact .inr (Hu.out.2.1 j hj)
           ·exact (hP3 j hj).imp id fun h=>Nat.le_trans Hu.out.2.2.size h
          have HQ:=zh (And.intro hQ1 (show Same F w1 (w3.setCell ⟨l,4,none⟩ v3) from fun j hj=>(hQ2 j hj).trans (Hsd.out j hj)))
          have kk4:=zAC (hP4.trans (hL.below Hu.out.2.2).cells) (i:=4) rfl
          have ff4:=zAI (hP4.trans (hL.below Hu.out.2.2).cells) 4
          obtain ⟨p3,q3,rfl⟩:=OwnR.shape hown3
          clear hL hS hn hl hal hxx hown3 hgrow3 hloc3 hP1 hP2 hP3 hP4 hQ1 hQ2
          refine hK.out _ _ trivial (fun hHeld=>?_)
          clear hK
          try simp only [Act.put,uA,uB,uC]
          refine pl [9,10] ?_
          iterate 2 (refine pc rfl ?_;simp only [Act.put,uA,uB,uC])
          refine pn ?_
          refine zAB 11 rfl (by kernel_rfl) (by rfl) (fun K hK=>?_)
          go_wp2_with fail
          refine hK.out _ _ (trivial) (fun hHeld=>?_)
          clear hK
          try simp only [Act.put,uA,uB,uC]
          refine wpAnyH_done (by kernel_rfl) ?_ _
          have Hla9:=zh (last_calls HQ.out.1)
          have HQs:=zh HQ.out.2
          have HQl:=zh HQ.out.1
          clear HQ kk4 ff4
          generalize w3.setCell ⟨l,4,none⟩ (.slice p3 (M.entries.length+1) q3)=wz at *
          go_wp2_with fail
          refine Hla9.out.mono ?_
          rintro e w12 ⟨rfl,q12,rfl⟩
          have HE:=zh (show zBh w w1 l d pre F (zAL (nm pre) D M b) (.returned (.tuple #[.int .i64 (({ M with entries:=M.entries ++ [b] }:LedM).last:Int),.int .i64 0])) (wz.drewN q12) from by
           rw [HR.out]
           refine ⟨by rw [show ({ M with entries:=M.entries ++ [b] }:LedM).last=M.last+1 from by unfold LedM.last;simp;omega];rfl,HQl.out.next ⟨rfl,rfl,rfl,Nat.le_refl _,fun _ _=>rfl⟩,HQs.out⟩)
          generalize ({ M with entries:=M.entries ++ [b] }:LedM).last=la9 at *
          go_wp2_with fail
          go_ret2
          exact HE.out
         ·go_wp2_with fail
          refine Hcl.out.mono ?_
          rintro e w9 ⟨u,rfl,hu,hun,hb9⟩
          have k49:=(hb9.cell (World.block_lt_of_cell? _ _ k4)).trans k4
          have Hu:=zh (And.intro hu (And.intro hun hb9))
          obtain ⟨pu,cu,rfl,-⟩:=zAX hu
          rw [hn] at Hu ⊢
          clear hu hun hb9 Hcl
          go_wp2_with fail
          refine hK.out _ _ trivial (fun hHeld=>?_)
          clear hK
          try simp only [Act.put,uA,uB,uC]
          refine zB8 4 7 rfl rfl (by kernel_rfl) (by rfl) (by rfl) (fun K hK=>?_) (fun K hK=>?_)
          ·go_wp2_with fail
           refine hK.out _ _ trivial (fun hHeld=>?_)
           clear hK
           try simp only [Act.put,uA,uB,uC]
           refine zAB 7 rfl (by kernel_rfl) (by rfl) (fun K hK=>?_)
           have k49a:=zAT k49 (.cells #[.slice pu n cu] 22)
           go_wp2_with fail
           refine hK.out _ _ trivial (fun hHeld=>?_)
           clear hK
           try simp only [Act.put,uA,uB,uC]
           refine zAB 8 rfl (by kernel_rfl) (by rfl) (fun K hK=>?_)
           obtain ⟨hL,hS,hn,hl⟩:=HLx.out
           have hal:=(hL.below Hu.out.2.2).row.keep (w':=w9.alloc (.cells #[.slice pu n cu] 22)) fun j hj=>(zAJ w9 _).block j (Nat.lt_of_lt_of_le (hL.olt j (hL.oe j hj).1) Hu.out.2.2.size)
           have hxx:=zBV w9 (.slice pu n cu) 22 (0,0)
           refine zAi (.tmp 70) (.tmp 73) 108 rfl 22 i0 (.slice none 0 0) 1 24 Tryz.underlying108 hi hz0 hz1 hz2 rfl (by decide) _ _ _ rfl hal (.slice (some ⟨w9.heap.size,0,none⟩) 1 1) 1 _ rfl hxx (by simp [Value.oneCell']) (by unfold maxLen;have:=Hm40.out;omega) (by have:=Hm40.out;omega) ?_
           intro v3 w3 hown3 hgrow3 hloc3
           obtain ⟨hP1,hP2,hP3,hP4⟩:=zCQ (hL.below Hu.out.2.2) Hu.out.1 (fun j hj ho=>by have h1:=Hu.out.2.1 j hj;have h2:=hL.olt j ho;omega) Hb30.out (by rw [HlaE.out];exact Hla1.out) (zAJ w9 _) hown3 hgrow3 hloc3
           obtain ⟨hQ1,hQ2⟩:=LedF.turned hS hn hl hP1 (((Chg.of_below Hu.out.2.2).mono fun _ _ h=>h.elim).trans hP2 fun _ _ h=>h) fun j hj=>by
            rcases hj with hj | hj | hj
            ·exact .inl hj
            ·exact .inr (Hu.out.2.1 j hj)
            ·exact (hP3 j hj).imp id fun h=>Nat.le_trans Hu.out.2.2.size h
           have HQ:=zh (And.intro hQ1 (show Same F w1 (w3.setCell ⟨l,4,none⟩ v3) from fun j hj=>(hQ2 j hj).trans (Hsd.out j hj)))
           have kk4:=zAC (hP4.trans (hL.below Hu.out.2.2).cells) (i:=4) rfl
           have ff4:=zAI (hP4.trans (hL.below Hu.out.2.2).cells) 4
           obtain ⟨p3,q3,rfl⟩:=OwnR.shape hown3
           clear hL hS hn hl hal hxx hown3 hgrow3 hloc3 hP1 hP2 hP3 hP4 hQ1 hQ2
           refine hK.out _ _ trivial (fun hHeld=>?_)
           clear hK
           try simp only [Act.put,uA,uB,uC]
           refine pl [9,10] ?_
           iterate 2 (refine pc rfl ?_;simp only [Act.put,uA,uB,uC])
           refine pn ?_
           refine zAB 11 rfl (by kernel_rfl) (by rfl) (fun K hK=>?_)
           go_wp2_with fail
           refine hK.out _ _ (trivial) (fun hHeld=>?_)
           clear hK
           try simp only [Act.put,uA,uB,uC]
           refine wpAnyH_done (by kernel_rfl) ?_ _
           have Hla9:=zh (last_calls HQ.out.1)
           have HQs:=zh HQ.out.2
           have HQl:=zh HQ.out.1
           clear HQ kk4 ff4
           generalize w3.setCell ⟨l,4,none⟩ (.slice p3 (M.entries.length+1) q3)=wz at *
           go_wp2_with fail
           refine Hla9.out.mono ?_
           rintro e w12 ⟨rfl,q12,rfl⟩
           have HE:=zh (show zBh w w1 l d pre F (zAL (nm pre) D M b) (.returned (.tuple #[.int .i64 (({ M with entries:=M.entries ++ [b] }:LedM).last:Int),.int .i64 0])) (wz.drewN q12) from by
            rw [HR.out]
            refine ⟨by rw [show ({ M with entries:=M.entries ++ [b] }:LedM).last=M.last+1 from by unfold LedM.last;simp;omega];rfl,HQl.out.next ⟨rfl,rfl,rfl,Nat.le_refl _,fun _ _=>rfl⟩,HQs.out⟩)
           generalize ({ M with entries:=M.entries ++ [b] }:LedM).last=la9 at *
           go_wp2_with fail
           go_ret2
           exact HE.out
          ·have k49a:=zAT k49 (.cells #[.slice pu n cu] 22)
           go_wp2_with fail
           refine hK.out _ _ trivial (fun hHeld=>?_)
           clear hK
           try simp only [Act.put,uA,uB,uC]
           refine zAB 4 rfl (by kernel_rfl) (by rfl) (fun K hK=>?_)
           go_wp2_with fail
           refine hK.out _ _ trivial (fun hHeld=>?_)
           clear hK
           try simp only [Act.put,uA,uB,uC]
           refine zAB 8 rfl (by kernel_rfl) (by rfl) (fun K hK=>?_)
           obtain ⟨hL,hS,hn,hl⟩:=HLx.out
           have hal:=(hL.below Hu.out.2.2).row.keep (w':=w9.alloc (.cells #[.slice pu n cu] 22)) fun j hj=>(zAJ w9 _).block j (Nat.lt_of_lt_of_le (hL.olt j (hL.oe j hj).1) Hu.out.2.2.size)
           have hxx:=zBV w9 (.slice pu n cu) 22 (0,0)
           refine zAi (.tmp 70) (.tmp 73) 108 rfl 22 i0 (.slice none 0 0) 1 24 Tryz.underlying108 hi hz0 hz1 hz2 rfl (by decide) _ _ _ rfl hal (.slice (some ⟨w9.heap.size,0,none⟩) 1 1) 1 _ rfl hxx (by simp [Value.oneCell']) (by unfold maxLen;have:=Hm40.out;omega) (by have:=Hm40.out;omega) ?_
           intro v3 w3 hown3 hgrow3 hloc3
           obtain ⟨hP1,hP2,hP3,hP4⟩:=zCQ (hL.below Hu.out.2.2) Hu.out.1 (fun j hj ho=>by have h1:=Hu.out.2.1 j hj;have h2:=hL.olt j ho;omega) Hb30.out (by rw [HlaE.out];exact Hla1.out) (zAJ w9 _) hown3 hgrow3 hloc3
           obtain ⟨hQ1,hQ2⟩:=LedF.turned hS hn hl hP1 (((Chg.of_below Hu.out.2.2).mono fun _ _ h=>h.elim).trans hP2 fun _ _ h=>h) fun j hj=>by
            rcases hj with hj | hj | hj
            ·exact .inl hj
            ·exact .inr (Hu.out.2.1 j hj)
            ·exact (hP3 j hj).imp id fun h=>Nat.le_trans Hu.out.2.2.size h
           have HQ:=zh (And.intro hQ1 (show Same F w1 (w3.setCell ⟨l,4,none⟩ v3) from fun j hj=>(hQ2 j hj).trans (Hsd.out j hj)))
           have kk4:=zAC (hP4.trans (hL.below Hu.out.2.2).cells) (i:=4) rfl
           have ff4:=zAI (hP4.trans (hL.below Hu.out.2.2).cells) 4
           obtain ⟨p3,q3,rfl⟩:=OwnR.shape hown3
           clear hL hS hn hl hal hxx hown3 hgrow3 hloc3 hP1 hP2 hP3 hP4 hQ1 hQ2
           refine hK.out _ _ trivial (fun hHeld=>?_)
           clear hK
           try simp only [Act.put,uA,uB,uC]
           refine pl [9,10] ?_
           iterate 2 (refine pc rfl ?_;simp only [Act.put,uA,uB,uC])
           refine pn ?_
           refine zAB 11 rfl (by kernel_rfl) (by rfl) (fun K hK=>?_)
           go_wp2_with fail
           refine hK.out _ _ (trivial) (fun hHeld=>?_)
           clear hK
           try simp only [Act.put,uA,uB,uC]
           refine wpAnyH_done (by kernel_rfl) ?_ _
           have Hla9:=zh (last_calls HQ.out.1)
           have HQs:=zh HQ.out.2
           have HQl:=zh HQ.out.1
           clear HQ kk4 ff4
           generalize w3.setCell ⟨l,4,none⟩ (.slice p3 (M.entries.length+1) q3)=wz at *
           go_wp2_with fail
           refine Hla9.out.mono ?_
           rintro e w12 ⟨rfl,q12,rfl⟩
           have HE:=zh (show zBh w w1 l d pre F (zAL (nm pre) D M b) (.returned (.tuple #[.int .i64 (({ M with entries:=M.entries ++ [b] }:LedM).last:Int),.int .i64 0])) (wz.drewN q12) from by
            rw [HR.out]
            refine ⟨by rw [show ({ M with entries:=M.entries ++ [b] }:LedM).last=M.last+1 from by unfold LedM.last;simp;omega];rfl,HQl.out.next ⟨rfl,rfl,rfl,Nat.le_refl _,fun _ _=>rfl⟩,HQs.out⟩)
           generalize ({ M with entries:=M.entries ++ [b] }:LedM).last=la9 at *
           go_wp2_with fail
           go_ret2
           exact HE.out
        ·have Hh2:=zh (show (W1.alloc (.cells #[.slice pf nf cf] 22)).cell? ⟨l,0,none⟩=some (.pointer (some ⟨d,0,none⟩))∧(W1.alloc (.cells #[.slice pf nf cf] 22)).cell? ⟨l,1,none⟩=some (.string pre) from ⟨zAT hHeld.1 _,zAT hHeld.2 _⟩)
         go_wp2_with fail
         refine hK.out _ _ (Hh2.out) (fun hHeld=>?_)
         clear hK
         try simp only [Act.put,uA,uB,uC]
         refine zAB 5 rfl (by kernel_rfl) (by rfl) (fun K hK=>?_)
         go_wp2_with fail
         refine (zAQ ⟨hHeld.1,hHeld.2,hps⟩).mono ?_
         rintro e w9 ⟨rfl,rfl⟩
         go_wp2_with fail
         refine hK.out _ _ (hHeld) (fun hHeld=>?_)
         clear hK
         try simp only [Act.put,uA,uB,uC]
         refine zAB 8 rfl (by kernel_rfl) (by rfl) (fun K hK=>?_)
         have Hap:=zh (Happ.out W1 HLd.out Hfd.out)
         go_wp2_with fail
         refine Hap.out.mono ?_
         rintro e w7 ⟨rfl,hl7,hs7,hk7⟩
         have Hh3:=zh (HLd.out.lc.same hk7)
         have HL7:=zh hl7
         have Hs7:=zh (show Same F w1 w7 from fun k hk=>(hs7 k hk).trans (Hsd.out k hk))
         clear hl7 hs7 hk7 Hap
         go_wp2_with fail
         refine hK.out _ _ (⟨Hh3.out.1,Hh3.out.2.1⟩) (fun hHeld=>?_)
         clear hK
         try simp only [Act.put,uA,uB,uC]
         refine otk 9 (v:=?v12x9) rfl ?_
         simp only [Act.put,uA,uB,uC]
         refine wpAnyH_done (by kernel_rfl) ?_ _
         clear HLd Hsd Hfd Hh3
         go_wp2_with fail
         have HLd:=zh (HL7.out.next (zAH w7))
         have Hsd:=zh (show Same F w1 w7.drew from Hs7.out)
         obtain ⟨hc0,hc1,-⟩:=HL7.out.lc
         refine zAK (fun w':World=>w'.cell? ⟨l,0,none⟩=some (.pointer (some ⟨d,0,none⟩))∧w'.cell? ⟨l,1,none⟩=some (.string pre)) (n:=9) (by kernel_rfl) rfl (⟨hc0,hc1⟩) (fun hHeld=>?_)
         generalize w7.drew=W1 at *
         refine pl [0,1,2,3,4] ?_
         iterate 5 (refine pc rfl ?_;simp only [Act.put,uA,uB,uC])
         refine pn ?_
         refine zAB 5 rfl (by kernel_rfl) (by rfl) (fun K hK=>?_)
         go_wp2_with fail
         refine (zAQ ⟨hHeld.1,hHeld.2,hps⟩).mono ?_
         rintro e w9 ⟨rfl,rfl⟩
         go_wp2_with fail
         refine hK.out _ _ (hHeld) (fun hHeld=>?_)
         clear hK
         try simp only [Act.put,uA,uB,uC]
         refine zAB 6 rfl (by kernel_rfl) (by rfl) (fun K hK=>?_)
         have Hh2:=zh (show (W1.alloc (.cells #[.string (sLog pre)] 9)).cell? ⟨l,0,none⟩=some (.pointer (some ⟨d,0,none⟩))∧(W1.alloc (.cells #[.string (sLog pre)] 9)).cell? ⟨l,1,none⟩=some (.string pre) from ⟨zAT hHeld.1 _,zAT hHeld.2 _⟩)
         go_wp2_with fail
         refine hK.out _ _ (Hh2.out) (fun hHeld=>?_)
         clear hK
         try simp only [Act.put,uA,uB,uC]
         refine zAB 7 rfl (by kernel_rfl) (by rfl) (fun K hK=>?_)
         go_wp2_with fail
         refine (Hsy.out W1 HLd.out).mono ?_
         rintro e w8 ⟨rfl,hl8,hs8,hk8⟩
         have Hh3:=zh (HLd.out.lc.same hk8)
         have HL8:=zh hl8
         have Hs8:=zh (show Same F w1 w8 from fun k hk=>(hs8 k hk).trans (Hsd.out k hk))
         clear hl8 hs8 hk8
         go_wp2_with fail
         refine hK.out _ _ (⟨Hh3.out.1,Hh3.out.2.1⟩) (fun hHeld=>?_)
         clear hK
         try simp only [Act.put,uA,uB,uC]
         refine otk 8 (v:=?v40x8) rfl ?_
         simp only [Act.put,uA,uB,uC]
         refine wpAnyH_done (by kernel_rfl) ?_ _
         clear HLd Hsd Hh3
         have Hdi:=zh (zBS HL8.out 0)
         go_wp2_with fail
         refine Hdi.out.mono ?_
         rintro e w10 ⟨rfl,hl10,hs10⟩
         have HL10:=zh hl10
         have Hs10:=zh (show Same F w1 w10 from fun k hk=>(hs10 k hk).trans (Hs8.out k hk))
         clear hl10 hs10 Hdi
         have HLm:=zh (show LedF w w10 l d pre D2 M F from by
          have h:=HL10.out
          have e:({ M with dead:=M.dead || decide ((0:Nat)≠0) }:LedM)=M:=by
           rw [Hd.out]
           show (⟨M.base,M.data,M.entries,false⟩:LedM)=M
           rw [← Hd.out]
          rwa [e] at h)
         go_wp2_with fail
         refine zAK (fun _:World=>True) (n:=12) (by kernel_rfl) rfl (trivial) (fun hHeld=>?_)
         have HLd:=zh (HLm.out.next (zAH w10))
         have Hsd:=zh (show Same F w1 w10.drew from Hs10.out)
         generalize w10.drew=W1 at *
         obtain ⟨own,dv,ev,vs,hL,hS,hn,hl⟩:=HLd.out
         have k4:=hL.c4
         have hxW:=Hx.out W1 HLd.out.bel Hsd.out
         have HLx:=zh (And.intro hL (And.intro hS (And.intro hn hl)))
         have Hcl:=zh (zA6 hxW (by omega))
         obtain ⟨pe,ce,rfl⟩:=OwnR.shape hL.row
         clear hL hS hn hl hxW
         refine pl [0,1,2,3,5] ?_
         iterate 5 (refine pc rfl ?_;simp only [Act.put,uA,uB,uC])
         refine pn ?_
         refine zB8 4 6 rfl rfl (by kernel_rfl) (by rfl) (by rfl) (fun K hK=>?_) (fun K hK=>?_)
         ·go_wp2_with fail
          refine hK.out _ _ trivial (fun hHeld=>?_)
          clear hK
          try simp only [Act.put,uA,uB,uC]
          refine zAB 6 rfl (by kernel_rfl) (by rfl) (fun K hK=>?_)
          go_wp2_with fail
          refine Hcl.out.mono ?_
          rintro e w9 ⟨u,rfl,hu,hun,hb9⟩
          have k49:=(hb9.cell (World.block_lt_of_cell? _ _ k4)).trans k4
          have Hu:=zh (And.intro hu (And.intro hun hb9))
          obtain ⟨pu,cu,rfl,-⟩:=zAX hu
          rw [hn] at Hu ⊢
          clear hu hun hb9 Hcl
          go_wp2_with fail
          refine hK.out _ _ trivial (fun hHeld=>?_)
          clear hK
          try simp only [Act.put,uA,uB,uC]
          refine zAB 7 rfl (by kernel_rfl) (by rfl) (fun K hK=>?_)
          have k49a:=zAT k49 (.cells #[.slice pu n cu] 22)
          go_wp2_with fail
          refine hK.out _ _ trivial (fun hHeld=>?_)
          clear hK
          try simp only [Act.put,uA,uB,uC]
          refine zAB 8 rfl (by kernel_rfl) (by rfl) (fun K hK=>?_)
          obtain ⟨hL,hS,hn,hl⟩:=HLx.out
          have hal:=(hL.below Hu.out.2.2).row.keep (w':=w9.alloc (.cells #[.slice pu n cu] 22)) fun j hj=>(zAJ w9 _).block j (Nat.lt_of_lt_of_le (hL.olt j (hL.oe j hj).1) Hu.out.2.2.size)
          have hxx:=zBV w9 (.slice pu n cu) 22 (0,0)
          refine zAi (.tmp 70) (.tmp 73) 108 rfl 22 i0 (.slice none 0 0) 1 24 Tryz.underlying108 hi hz0 hz1 hz2 rfl (by decide) _ _ _ rfl hal (.slice (some ⟨w9.heap.size,0,none⟩) 1 1) 1 _ rfl hxx (by simp [Value.oneCell']) (by unfold maxLen;have:=Hm40.out;omega) (by have:=Hm40.out;omega) ?_
          intro v3 w3 hown3 hgrow3 hloc3
          obtain ⟨hP1,hP2,hP3,hP4⟩:=zCQ (hL.below Hu.out.2.2) Hu.out.1 (fun j hj ho=>by have h1:=Hu.out.2.1 j hj;have h2:=hL.olt j ho;omega) Hb30.out (by rw [HlaE.out];exact Hla1.out) (zAJ w9 _) hown3 hgrow3 hloc3
          obtain ⟨hQ1,hQ2⟩:=LedF.turned hS hn hl hP1 (((Chg.of_below Hu.out.2.2).mono fun _ _ h=>h.elim).trans hP2 fun _ _ h=>h) fun j hj=>by
           rcases hj with hj | hj | hj
           ·exact .inl hj
           ·exact .inr (Hu.out.2.1 j hj)
           ·exact (hP3 j hj).imp id fun h=>Nat.le_trans Hu.out.2.2.size h
          have HQ:=zh (And.intro hQ1 (show Same F w1 (w3.setCell ⟨l,4,none⟩ v3) from fun j hj=>(hQ2 j hj).trans (Hsd.out j hj)))
          have kk4:=zAC (hP4.trans (hL.below Hu.out.2.2).cells) (i:=4) rfl
          have ff4:=zAI (hP4.trans (hL.below Hu.out.2.2).cells) 4
          obtain ⟨p3,q3,rfl⟩:=OwnR.shape hown3
          clear hL hS hn hl hal hxx hown3 hgrow3 hloc3 hP1 hP2 hP3 hP4 hQ1 hQ2
          refine hK.out _ _ trivial (fun hHeld=>?_)
          clear hK
          try simp only [Act.put,uA,uB,uC]
          refine pl [9,10] ?_
          iterate 2 (refine pc rfl ?_;simp only [Act.put,uA,uB,uC])
          refine pn ?_
          refine zAB 11 rfl (by kernel_rfl) (by rfl) (fun K hK=>?_)
          go_wp2_with fail
          refine hK.out _ _ (trivial) (fun hHeld=>?_)
          clear hK
          try simp only [Act.put,uA,uB,uC]
          refine wpAnyH_done (by kernel_rfl) ?_ _
          have Hla9:=zh (last_calls HQ.out.1)
          have HQs:=zh HQ.out.2
          have HQl:=zh HQ.out.1
          clear HQ kk4 ff4
          generalize w3.setCell ⟨l,4,none⟩ (.slice p3 (M.entries.length+1) q3)=wz at *
          go_wp2_with fail
          refine Hla9.out.mono ?_
          rintro e w12 ⟨rfl,q12,rfl⟩
          have HE:=zh (show zBh w w1 l d pre F (zAL (nm pre) D M b) (.returned (.tuple #[.int .i64 (({ M with entries:=M.entries ++ [b] }:LedM).last:Int),.int .i64 0])) (wz.drewN q12) from by
           rw [HR.out]
           refine ⟨by rw [show ({ M with entries:=M.entries ++ [b] }:LedM).last=M.last+1 from by unfold LedM.last;simp;omega];rfl,HQl.out.next ⟨rfl,rfl,rfl,Nat.le_refl _,fun _ _=>rfl⟩,HQs.out⟩)
          generalize ({ M with entries:=M.entries ++ [b] }:LedM).last=la9 at *
          go_wp2_with fail
          go_ret2
          exact HE.out
         ·go_wp2_with fail
          refine Hcl.out.mono ?_
          rintro e w9 ⟨u,rfl,hu,hun,hb9⟩
          have k49:=(hb9.cell (World.block_lt_of_cell? _ _ k4)).trans k4
          have Hu:=zh (And.intro hu (And.intro hun hb9))
          obtain ⟨pu,cu,rfl,-⟩:=zAX hu
          rw [hn] at Hu ⊢
          clear hu hun hb9 Hcl
          go_wp2_with fail
          refine hK.out _ _ trivial (fun hHeld=>?_)
          clear hK
          try simp only [Act.put,uA,uB,uC]
          refine zB8 4 7 rfl rfl (by kernel_rfl) (by rfl) (by rfl) (fun K hK=>?_) (fun K hK=>?_)
          ·go_wp2_with fail
           refine hK.out _ _ trivial (fun hHeld=>?_)
           clear hK
           try simp only [Act.put,uA,uB,uC]
           refine zAB 7 rfl (by kernel_rfl) (by rfl) (fun K hK=>?_)
           have k49a:=zAT k49 (.cells #[.slice pu n cu] 22)
           go_wp2_with fail
           refine hK.out _ _ trivial (fun hHeld=>?_)
           clear hK
           try simp only [Act.put,uA,uB,uC]
           refine zAB 8 rfl (by kernel_rfl) (by rfl) (fun K hK=>?_)
           obtain ⟨hL,hS,hn,hl⟩:=HLx.out
           have hal:=(hL.below Hu.out.2.2).row.keep (w':=w9.alloc (.cells #[.slice pu n cu] 22)) fun j hj=>(zAJ w9 _).block j (Nat.lt_of_lt_of_le (hL.olt j (hL.oe j hj).1) Hu.out.2.2.size)
           have hxx:=zBV w9 (.slice pu n cu) 22 (0,0)
           refine zAi (.tmp 70) (.tmp 73) 108 rfl 22 i0 (.slice none 0 0) 1 24 Tryz.underlying108 hi hz0 hz1 hz2 rfl (by decide) _ _ _ rfl hal (.slice (some ⟨w9.heap.size,0,none⟩) 1 1) 1 _ rfl hxx (by simp [Value.oneCell']) (by unfold maxLen;have:=Hm40.out;omega) (by have:=Hm40.out;omega) ?_
           intro v3 w3 hown3 hgrow3 hloc3
           obtain ⟨hP1,hP2,hP3,hP4⟩:=zCQ (hL.below Hu.out.2.2) Hu.out.1 (fun j hj ho=>by have h1:=Hu.out.2.1 j hj;have h2:=hL.olt j ho;omega) Hb30.out (by rw [HlaE.out];exact Hla1.out) (zAJ w9 _) hown3 hgrow3 hloc3
           obtain ⟨hQ1,hQ2⟩:=LedF.turned hS hn hl hP1 (((Chg.of_below Hu.out.2.2).mono fun _ _ h=>h.elim).trans hP2 fun _ _ h=>h) fun j hj=>by
            rcases hj with hj | hj | hj
            ·exact .inl hj
            ·exact .inr (Hu.out.2.1 j hj)
            ·exact (hP3 j hj).imp id fun h=>Nat.le_trans Hu.out.2.2.size h
           have HQ:=zh (And.intro hQ1 (show Same F w1 (w3.setCell ⟨l,4,none⟩ v3) from fun j hj=>(hQ2 j hj).trans (Hsd.out j hj)))
           have kk4:=zAC (hP4.trans (hL.below Hu.out.2.2).cells) (i:=4) rfl
           have ff4:=zAI (hP4.trans (hL.below Hu.out.2.2).cells) 4
           obtain ⟨p3,q3,rfl⟩:=OwnR.shape hown3
           clear hL hS hn hl hal hxx hown3 hgrow3 hloc3 hP1 hP2 hP3 hP4 hQ1 hQ2
           refine hK.out _ _ trivial (fun hHeld=>?_)
           clear hK
           try simp only [Act.put,uA,uB,uC]
           refine pl [9,10] ?_
           iterate 2 (refine pc rfl ?_;simp only [Act.put,uA,uB,uC])
           refine pn ?_
           refine zAB 11 rfl (by kernel_rfl) (by rfl) (fun K hK=>?_)
           go_wp2_with fail
           refine hK.out _ _ (trivial) (fun hHeld=>?_)
           clear hK
           try simp only [Act.put,uA,uB,uC]
           refine wpAnyH_done (by kernel_rfl) ?_ _
           have Hla9:=zh (last_calls HQ.out.1)
           have HQs:=zh HQ.out.2
           have HQl:=zh HQ.out.1
           clear HQ kk4 ff4
           generalize w3.setCell ⟨l,4,none⟩ (.slice p3 (M.entries.length+1) q3)=wz at *
           go_wp2_with fail
           refine Hla9.out.mono ?_
           rintro e w12 ⟨rfl,q12,rfl⟩
           have HE:=zh (show zBh w w1 l d pre F (zAL (nm pre) D M b) (.returned (.tuple #[.int .i64 (({ M with entries:=M.entries ++ [b] }:LedM).last:Int),.int .i64 0])) (wz.drewN q12) from by
            rw [HR.out]
            refine ⟨by rw [show ({ M with entries:=M.entries ++ [b] }:LedM).last=M.last+1 from by unfold LedM.last;simp;omega];rfl,HQl.out.next ⟨rfl,rfl,rfl,Nat.le_refl _,fun _ _=>rfl⟩,HQs.out⟩)
           generalize ({ M with entries:=M.entries ++ [b] }:LedM).last=la9 at *
           go_wp2_with fail
           go_ret2
           exact HE.out
          ·have k49a:=zAT k49 (.cells #[.slice pu n cu] 22)
           go_wp2_with fail
           refine hK.out _ _ trivial (fun hHeld=>?_)
           clear hK
           try simp only [Act.put,uA,uB,uC]
           refine zAB 4 rfl (by kernel_rfl) (by rfl) (fun K hK=>?_)
           go_wp2_with fail
           refine hK.out _ _ trivial (fun hHeld=>?_)
           clear hK
           try simp only [Act.put,uA,uB,uC]
           refine zAB 8 rfl (by kernel_rfl) (by rfl) (fun K hK=>?_)
           obtain ⟨hL,hS,hn,hl⟩:=HLx.out
           have hal:=(hL.below Hu.out.2.2).row.keep (w':=w9.alloc (.cells #[.slice pu n cu] 22)) fun j hj=>(zAJ w9 _).block j (Nat.lt_of_lt_of_le (hL.olt j (hL.oe j hj).1) Hu.out.2.2.size)
           have hxx:=zBV w9 (.slice pu n cu) 22 (0,0)
           refine zAi (.tmp 70) (.tmp 73) 108 rfl 22 i0 (.slice none 0 0) 1 24 Tryz.underlying108 hi hz0 hz1 hz2 rfl (by decide) _ _ _ rfl hal (.slice (some ⟨w9.heap.size,0,none⟩) 1 1) 1 _ rfl hxx (by simp [Value.oneCell']) (by unfold maxLen;have:=Hm40.out;omega) (by have:=Hm40.out;omega) ?_
           intro v3 w3 hown3 hgrow3 hloc3
           obtain ⟨hP1,hP2,hP3,hP4⟩:=zCQ (hL.below Hu.out.2.2) Hu.out.1 (fun j hj ho=>by have h1:=Hu.out.2.1 j hj;have h2:=hL.olt j ho;omega) Hb30.out (by rw [HlaE.out];exact Hla1.out) (zAJ w9 _) hown3 hgrow3 hloc3
           obtain ⟨hQ1,hQ2⟩:=LedF.turned hS hn hl hP1 (((Chg.of_below Hu.out.2.2).mono fun _ _ h=>h.elim).trans hP2 fun _ _ h=>h) fun j hj=>by
            rcases hj with hj | hj | hj
            ·exact .inl hj
            ·exact .inr (Hu.out.2.1 j hj)
            ·exact (hP3 j hj).imp id fun h=>Nat.le_trans Hu.out.2.2.size h
           have HQ:=zh (And.intro hQ1 (show Same F w1 (w3.setCell ⟨l,4,none⟩ v3) from fun j hj=>(hQ2 j hj).trans (Hsd.out j hj)))
           have kk4:=zAC (hP4.trans (hL.below Hu.out.2.2).cells) (i:=4) rfl
           have ff4:=zAI (hP4.trans (hL.below Hu.out.2.2).cells) 4
           obtain ⟨p3,q3,rfl⟩:=OwnR.shape hown3
           clear hL hS hn hl hal hxx hown3 hgrow3 hloc3 hP1 hP2 hP3 hP4 hQ1 hQ2
           refine hK.out _ _ trivial (fun hHeld=>?_)
           clear hK
           try simp only [Act.put,uA,uB,uC]
           refine pl [9,10] ?_
           iterate 2 (refine pc rfl ?_;simp only [Act.put,uA,uB,uC])
           refine pn ?_
           refine zAB 11 rfl (by kernel_rfl) (by rfl) (fun K hK=>?_)
           go_wp2_with fail
           refine hK.out _ _ (trivial) (fun hHeld=>?_)
           clear hK
           try simp only [Act.put,uA,uB,uC]
           refine wpAnyH_done (by kernel_rfl) ?_ _
           have Hla9:=zh (last_calls HQ.out.1)
           have HQs:=zh HQ.out.2
           have HQl:=zh HQ.out.1
           clear HQ kk4 ff4
           generalize w3.setCell ⟨l,4,none⟩ (.slice p3 (M.entries.length+1) q3)=wz at *
           go_wp2_with fail
           refine Hla9.out.mono ?_
           rintro e w12 ⟨rfl,q12,rfl⟩
           have HE:=zh (show zBh w w1 l d pre F (zAL (nm pre) D M b) (.returned (.tuple #[.int .i64 (({ M with entries:=M.entries ++ [b] }:LedM).last:Int),.int .i64 0])) (wz.drewN q12) from by
            rw [HR.out]
            refine ⟨by rw [show ({ M with entries:=M.entries ++ [b] }:LedM).last=M.last+1 from by unfold LedM.last;simp;omega];rfl,HQl.out.next ⟨rfl,rfl,rfl,Nat.le_refl _,fun _ _=>rfl⟩,HQs.out⟩)
           generalize ({ M with entries:=M.entries ++ [b] }:LedM).last=la9 at *
           go_wp2_with fail
           go_ret2
           exact HE.out
       ·have hne:((e2:Int) != 0)=true:=by simp;omega
        have HR:=zh (app_err Hd.out b (by rw [HlaE.out];exact Hno.out) Hly.out he2)
        have He2:=zh he2
        clear he2
        go_wp2_with fail
        have HLd:=zh (HL6.out.next (zAH w6))
        have Hsd:=zh (show Same F w1 w6.drew from Hs6.out)
        have Hfd:=zh (show HasB w6.drew (.slice pf nf cf) fr from HasB.below Hf6.out (zAH w6))
        obtain ⟨hc0,hc1,-⟩:=HL6.out.lc
        refine zAK (fun w':World=>w'.cell? ⟨l,0,none⟩=some (.pointer (some ⟨d,0,none⟩))∧w'.cell? ⟨l,1,none⟩=some (.string pre)) (n:=10) (by kernel_rfl) rfl (⟨hc0,hc1⟩) (fun hHeld=>?_)
        generalize w6.drew=W1 at *
        refine pl [0,1,2,3,4,6] ?_
        iterate 6 (refine pc rfl ?_;simp only [Act.put,uA,uB,uC])
        refine pn ?_
        refine zB8 5 7 rfl rfl (by kernel_rfl) (by rfl) (by rfl) (fun K hK=>?_) (fun K hK=>?_)
        ·go_wp2_with fail
         refine (zAQ ⟨hHeld.1,hHeld.2,hps⟩).mono ?_
         rintro e w9 ⟨rfl,rfl⟩
         go_wp2_with fail
         refine hK.out _ _ (hHeld) (fun hHeld=>?_)
         clear hK
         try simp only [Act.put,uA,uB,uC]
         refine zAB 7 rfl (by kernel_rfl) (by rfl) (fun K hK=>?_)
         have Hh2:=zh (show (W1.alloc (.cells #[.slice pf nf cf] 22)).cell? ⟨l,0,none⟩=some (.pointer (some ⟨d,0,none⟩))∧(W1.alloc (.cells #[.slice pf nf cf] 22)).cell? ⟨l,1,none⟩=some (.string pre) from ⟨zAT hHeld.1 _,zAT hHeld.2 _⟩)
         go_wp2_with fail
         refine hK.out _ _ (Hh2.out) (fun hHeld=>?_)
         clear hK
         try simp only [Act.put,uA,uB,uC]
         refine zAB 8 rfl (by kernel_rfl) (by rfl) (fun K hK=>?_)
         have Hap:=zh (Happ.out W1 HLd.out Hfd.out)
         go_wp2_with fail
         refine Hap.out.mono ?_
         rintro e w7 ⟨rfl,hl7,hs7,hk7⟩
         have Hh3:=zh (HLd.out.lc.same hk7)
         have HL7:=zh hl7
         have Hs7:=zh (show Same F w1 w7 from fun k hk=>(hs7 k hk).trans (Hsd.out k hk))
         clear hl7 hs7 hk7 Hap
         go_wp2_with fail
         refine hK.out _ _ (⟨Hh3.out.1,Hh3.out.2.1⟩) (fun hHeld=>?_)
         clear hK
         try simp only [Act.put,uA,uB,uC]
         refine otk 9 (v:=?v61x9) rfl ?_
         simp only [Act.put,uA,uB,uC]
         refine wpAnyH_done (by kernel_rfl) ?_ _
         clear HLd Hsd Hfd Hh3
         go_wp2_with fail
         have HLd:=zh (HL7.out.next (zAH w7))
         have Hsd:=zh (show Same F w1 w7.drew from Hs7.out)
         obtain ⟨hc0,hc1,-⟩:=HL7.out.lc
         refine zAK (fun w':World=>w'.cell? ⟨l,0,none⟩=some (.pointer (some ⟨d,0,none⟩))∧w'.cell? ⟨l,1,none⟩=some (.string pre)) (n:=9) (by kernel_rfl) rfl (⟨hc0,hc1⟩) (fun hHeld=>?_)
         generalize w7.drew=W1 at *
         refine pl [0,1,2,3,4] ?_
         iterate 5 (refine pc rfl ?_;simp only [Act.put,uA,uB,uC])
         refine pn ?_
         refine zAB 5 rfl (by kernel_rfl) (by rfl) (fun K hK=>?_)
         go_wp2_with fail
         refine (zAQ ⟨hHeld.1,hHeld.2,hps⟩).mono ?_
         rintro e w9 ⟨rfl,rfl⟩
         go_wp2_with fail
         refine hK.out _ _ (hHeld) (fun hHeld=>?_)
         clear hK
         try simp only [Act.put,uA,uB,uC]
         refine zAB 6 rfl (by kernel_rfl) (by rfl) (fun K hK=>?_)
         have Hh2:=zh (show (W1.alloc (.cells #[.string (sLog pre)] 9)).cell? ⟨l,0,none⟩=some (.pointer (some ⟨d,0,none⟩))∧(W1.alloc (.cells #[.string (sLog pre)] 9)).cell? ⟨l,1,none⟩=some (.string pre) from ⟨zAT hHeld.1 _,zAT hHeld.2 _⟩)
         go_wp2_with fail
         refine hK.out _ _ (Hh2.out) (fun hHeld=>?_)
         clear hK
         try simp only [Act.put,uA,uB,uC]
         refine zAB 7 rfl (by kernel_rfl) (by rfl) (fun K hK=>?_)
         go_wp2_with fail
         refine (Hsy.out W1 HLd.out).mono ?_
         rintro e w8 ⟨rfl,hl8,hs8,hk8⟩
         have Hh3:=zh (HLd.out.lc.same hk8)
         have HL8:=zh hl8
         have Hs8:=zh (show Same F w1 w8 from fun k hk=>(hs8 k hk).trans (Hsd.out k hk))
         clear hl8 hs8 hk8
         go_wp2_with fail
         refine hK.out _ _ (⟨Hh3.out.1,Hh3.out.2.1⟩) (fun hHeld=>?_)
         clear hK
         try simp only [Act.put,uA,uB,uC]
         refine otk 8 (v:=?v70x8) rfl ?_
         simp only [Act.put,uA,uB,uC]
         refine wpAnyH_done (by kernel_rfl) ?_ _
         clear HLd Hsd Hh3
         have Hdi:=zh (zBS HL8.out e2)
         go_wp2_with fail
         refine Hdi.out.mono ?_
         rintro e w10 ⟨rfl,hl10,hs10⟩
         have HL10:=zh hl10
         have Hs10:=zh (show Same F w1 w10 from fun k hk=>(hs10 k hk).trans (Hs8.out k hk))
         clear hl10 hs10 Hdi
         have HE:=zh (show zBh w w1 l d pre F (zAL (nm pre) D M b) (.returned (.tuple #[.int .i64 0,.int .i64 (e2:Int)])) w10 from by
          rw [HR.out]
          refine ⟨rfl,?_,Hs10.out⟩
          have h:=HL10.out
          rwa [show ({ M with dead:=M.dead || decide (e2≠0) }:LedM)=M.die from by rw [Hd.out];unfold LedM.die;simp [He2.out]] at h)
         go_wp2_with fail
         go_ret2
         exact HE.out
        ·have Hh2:=zh (show (W1.alloc (.cells #[.slice pf nf cf] 22)).cell? ⟨l,0,none⟩=some (.pointer (some ⟨d,0,none⟩))∧(W1.alloc (.cells #[.slice pf nf cf] 22)).cell? ⟨l,1,none⟩=some (.string pre) from ⟨zAT hHeld.1 _,zAT hHeld.2 _⟩)
         go_wp2_with fail
         refine hK.out _ _ (Hh2.out) (fun hHeld=>?_)
         clear hK
         try simp only [Act.put,uA,uB,uC]
         refine zAB 5 rfl (by kernel_rfl) (by rfl) (fun K hK=>?_)
         go_wp2_with fail
         refine (zAQ ⟨hHeld.1,hHeld.2,hps⟩).mono ?_
         rintro e w9 ⟨rfl,rfl⟩
         go_wp2_with fail
         refine hK.out _ _ (hHeld) (fun hHeld=>?_)
         clear hK
         try simp only [Act.put,uA,uB,uC]
         refine zAB 8 rfl (by kernel_rfl) (by rfl) (fun K hK=>?_)
         have Hap:=zh (Happ.out W1 HLd.out Hfd.out)
         go_wp2_with fail
         refine Hap.out.mono ?_
         rintro e w7 ⟨rfl,hl7,hs7,hk7⟩
         have Hh3:=zh (HLd.out.lc.same hk7)
         have HL7:=zh hl7
         have Hs7:=zh (show Same F w1 w7 from fun k hk=>(hs7 k hk).trans (Hsd.out k hk))
         clear hl7 hs7 hk7 Hap
         go_wp2_with fail
         refine hK.out _ _ (⟨Hh3.out.1,Hh3.out.2.1⟩) (fun hHeld=>?_)
         clear hK
         try simp only [Act.put,uA,uB,uC]
         refine otk 9 (v:=?v62x9) rfl ?_
         simp only [Act.put,uA,uB,uC]
         refine wpAnyH_done (by kernel_rfl) ?_ _
         clear HLd Hsd Hfd Hh3
         go_wp2_with fail
         have HLd:=zh (HL7.out.next (zAH w7))
         have Hsd:=zh (show Same F w1 w7.drew from Hs7.out)
         obtain ⟨hc0,hc1,-⟩:=HL7.out.lc
         refine zAK (fun w':World=>w'.cell? ⟨l,0,none⟩=some (.pointer (some ⟨d,0,none⟩))∧w'.cell? ⟨l,1,none⟩=some (.string pre)) (n:=9) (by kernel_rfl) rfl (⟨hc0,hc1⟩) (fun hHeld=>?_)
         generalize w7.drew=W1 at *
         refine pl [0,1,2,3,4] ?_
         iterate 5 (refine pc rfl ?_;simp only [Act.put,uA,uB,uC])
         refine pn ?_
         refine zAB 5 rfl (by kernel_rfl) (by rfl) (fun K hK=>?_)
         go_wp2_with fail
         refine (zAQ ⟨hHeld.1,hHeld.2,hps⟩).mono ?_
         rintro e w9 ⟨rfl,rfl⟩
         go_wp2_with fail
         refine hK.out _ _ (hHeld) (fun hHeld=>?_)
         clear hK
         try simp only [Act.put,uA,uB,uC]
         refine zAB 6 rfl (by kernel_rfl) (by rfl) (fun K hK=>?_)
         have Hh2:=zh (show (W1.alloc (.cells #[.string (sLog pre)] 9)).cell? ⟨l,0,none⟩=some (.pointer (some ⟨d,0,none⟩))∧(W1.alloc (.cells #[.string (sLog pre)] 9)).cell? ⟨l,1,none⟩=some (.string pre) from ⟨zAT hHeld.1 _,zAT hHeld.2 _⟩)
         go_wp2_with fail
         refine hK.out _ _ (Hh2.out) (fun hHeld=>?_)
         clear hK
         try simp only [Act.put,uA,uB,uC]
         refine zAB 7 rfl (by kernel_rfl) (by rfl) (fun K hK=>?_)
         go_wp2_with fail
         refine (Hsy.out W1 HLd.out).mono ?_
         rintro e w8 ⟨rfl,hl8,hs8,hk8⟩
         have Hh3:=zh (HLd.out.lc.same hk8)
         have HL8:=zh hl8
         have Hs8:=zh (show Same F w1 w8 from fun k hk=>(hs8 k hk).trans (Hsd.out k hk))
         clear hl8 hs8 hk8
         go_wp2_with fail
         refine hK.out _ _ (⟨Hh3.out.1,Hh3.out.2.1⟩) (fun hHeld=>?_)
         clear hK
         try simp only [Act.put,uA,uB,uC]
         refine otk 8 (v:=?v80x8) rfl ?_
         simp only [Act.put,uA,uB,uC]
         refine wpAnyH_done (by kernel_rfl) ?_ _
         clear HLd Hsd Hh3
         have Hdi:=zh (zBS HL8.out e2)
         go_wp2_with fail
         refine Hdi.out.mono ?_
         rintro e w10 ⟨rfl,hl10,hs10⟩
         have HL10:=zh hl10
         have Hs10:=zh (show Same F w1 w10 from fun k hk=>(hs10 k hk).trans (Hs8.out k hk))
         clear hl10 hs10 Hdi
         have HE:=zh (show zBh w w1 l d pre F (zAL (nm pre) D M b) (.returned (.tuple #[.int .i64 0,.int .i64 (e2:Int)])) w10 from by
          rw [HR.out]
          refine ⟨rfl,?_,Hs10.out⟩
          have h:=HL10.out
          rwa [show ({ M with dead:=M.dead || decide (e2≠0) }:LedM)=M.die from by rw [Hd.out];unfold LedM.die;simp [He2.out]] at h)
         go_wp2_with fail
         go_ret2
         exact HE.out
     ·have hne:((e1:Int) != 0)=true:=by simp;omega
      have hne':((e1:Int) == 0)=false:=by simp;omega
      have Hly:=zh (show zCq D (logN (nm pre)) (zAG (imgB (M.last+1) b))=(D1,e1) from by unfold zCq;rw [Hfr.out,hap];exact if_pos he1)
      have HR:=zh (app_err Hd.out b (by rw [HlaE.out];exact Hno.out) Hly.out he1)
      have He1:=zh he1
      clear hap he1
      go_wp2_with fail
      have HLd:=zh (HL6.out.next (zAH w6))
      have Hsd:=zh (show Same F w1 w6.drew from Hs6.out)
      have Hfd:=zh (show HasB w6.drew (.slice pf nf cf) fr from HasB.below Hf6.out (zAH w6))
      obtain ⟨hc0,hc1,-⟩:=HL6.out.lc
      refine zAK (fun w':World=>w'.cell? ⟨l,0,none⟩=some (.pointer (some ⟨d,0,none⟩))∧w'.cell? ⟨l,1,none⟩=some (.string pre)) (n:=10) (by kernel_rfl) rfl (⟨hc0,hc1⟩) (fun hHeld=>?_)
      generalize w6.drew=W1 at *
      refine pl [0,1,2,3,4,6] ?_
      iterate 6 (refine pc rfl ?_;simp only [Act.put,uA,uB,uC])
      refine pn ?_
      refine zB8 5 7 rfl rfl (by kernel_rfl) (by rfl) (by rfl) (fun K hK=>?_) (fun K hK=>?_)
      ·go_wp2_with fail
       refine (zAQ ⟨hHeld.1,hHeld.2,hps⟩).mono ?_
       rintro e w9 ⟨rfl,rfl⟩
       go_wp2_with fail
       refine hK.out _ _ (hHeld) (fun hHeld=>?_)
       clear hK
       try simp only [Act.put,uA,uB,uC]
       refine zAB 7 rfl (by kernel_rfl) (by rfl) (fun K hK=>?_)
       have Hh2:=zh (show (W1.alloc (.cells #[.slice pf nf cf] 22)).cell? ⟨l,0,none⟩=some (.pointer (some ⟨d,0,none⟩))∧(W1.alloc (.cells #[.slice pf nf cf] 22)).cell? ⟨l,1,none⟩=some (.string pre) from ⟨zAT hHeld.1 _,zAT hHeld.2 _⟩)
       go_wp2_with fail
       refine hK.out _ _ (Hh2.out) (fun hHeld=>?_)
       clear hK
       try simp only [Act.put,uA,uB,uC]
       refine zAB 8 rfl (by kernel_rfl) (by rfl) (fun K hK=>?_)
       have Hap:=zh (Happ.out W1 HLd.out Hfd.out)
       go_wp2_with fail
       refine Hap.out.mono ?_
       rintro e w7 ⟨rfl,hl7,hs7,hk7⟩
       have Hh3:=zh (HLd.out.lc.same hk7)
       have HL7:=zh hl7
       have Hs7:=zh (show Same F w1 w7 from fun k hk=>(hs7 k hk).trans (Hsd.out k hk))
       clear hl7 hs7 hk7 Hap
       go_wp2_with fail
       refine hK.out _ _ (⟨Hh3.out.1,Hh3.out.2.1⟩) (fun hHeld=>?_)
       clear hK
       try simp only [Act.put,uA,uB,uC]
       refine otk 9 (v:=?v91x9) rfl ?_
       simp only [Act.put,uA,uB,uC]
       refine wpAnyH_done (by kernel_rfl) ?_ _
       clear HLd Hsd Hfd Hh3
       have Hdi:=zh (zBS HL7.out e1)
       go_wp2_with fail
       refine Hdi.out.mono ?_
       rintro e w10 ⟨rfl,hl10,hs10⟩
       have HL10:=zh hl10
       have Hs10:=zh (show Same F w1 w10 from fun k hk=>(hs10 k hk).trans (Hs7.out k hk))
       clear hl10 hs10 Hdi
       have HE:=zh (show zBh w w1 l d pre F (zAL (nm pre) D M b) (.returned (.tuple #[.int .i64 0,.int .i64 (e1:Int)])) w10 from by
        rw [HR.out]
        refine ⟨rfl,?_,Hs10.out⟩
        have h:=HL10.out
        rwa [show ({ M with dead:=M.dead || decide (e1≠0) }:LedM)=M.die from by rw [Hd.out];unfold LedM.die;simp [He1.out]] at h)
       go_wp2_with fail
       go_ret2
       exact HE.out
      ·have Hh2:=zh (show (W1.alloc (.cells #[.slice pf nf cf] 22)).cell? ⟨l,0,none⟩=some (.pointer (some ⟨d,0,none⟩))∧(W1.alloc (.cells #[.slice pf nf cf] 22)).cell? ⟨l,1,none⟩=some (.string pre) from ⟨zAT hHeld.1 _,zAT hHeld.2 _⟩)
       go_wp2_with fail
       refine hK.out _ _ (Hh2.out) (fun hHeld=>?_)
       clear hK
       try simp only [Act.put,uA,uB,uC]
       refine zAB 5 rfl (by kernel_rfl) (by rfl) (fun K hK=>?_)
       go_wp2_with fail
       refine (zAQ ⟨hHeld.1,hHeld.2,hps⟩).mono ?_
       rintro e w9 ⟨rfl,rfl⟩
       go_wp2_with fail
       refine hK.out _ _ (hHeld) (fun hHeld=>?_)
       clear hK
       try simp only [Act.put,uA,uB,uC]
       refine zAB 8 rfl (by kernel_rfl) (by rfl) (fun K hK=>?_)
       have Hap:=zh (Happ.out W1 HLd.out Hfd.out)
       go_wp2_with fail
       refine Hap.out.mono ?_
       rintro e w7 ⟨rfl,hl7,hs7,hk7⟩
       have Hh3:=zh (HLd.out.lc.same hk7)
       have HL7:=zh hl7
       have Hs7:=zh (show Same F w1 w7 from fun k hk=>(hs7 k hk).trans (Hsd.out k hk))
       clear hl7 hs7 hk7 Hap
       go_wp2_with fail
       refine hK.out _ _ (⟨Hh3.out.1,Hh3.out.2.1⟩) (fun hHeld=>?_)
       clear hK
       try simp only [Act.put,uA,uB,uC]
       refine otk 9 (v:=?v92x9) rfl ?_
       simp only [Act.put,uA,uB,uC]
       refine wpAnyH_done (by kernel_rfl) ?_ _
       clear HLd Hsd Hfd Hh3
       have Hdi:=zh (zBS HL7.out e1)
       go_wp2_with fail
       refine Hdi.out.mono ?_
       rintro e w10 ⟨rfl,hl10,hs10⟩
       have HL10:=zh hl10
       have Hs10:=zh (show Same F w1 w10 from fun k hk=>(hs10 k hk).trans (Hs7.out k hk))
       clear hl10 hs10 Hdi
       have HE:=zh (show zBh w w1 l d pre F (zAL (nm pre) D M b) (.returned (.tuple #[.int .i64 0,.int .i64 (e1:Int)])) w10 from by
        rw [HR.out]
        refine ⟨rfl,?_,Hs10.out⟩
        have h:=HL10.out
        rwa [show ({ M with dead:=M.dead || decide (e1≠0) }:LedM)=M.die from by rw [Hd.out];unfold LedM.die;simp [He1.out]] at h)
       go_wp2_with fail
       go_ret2
       exact HE.out
end
end Go.Proofs.YtapfnehdgailmaaGreat
