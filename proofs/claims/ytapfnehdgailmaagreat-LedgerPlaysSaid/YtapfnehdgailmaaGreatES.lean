/- ledger: Write. (Printed by mkled7.py.) ledger: Drop; a nil Ledger. (Printed by mkled8.py.) What a disk's steps leave where nothing stands in their way, and behind a burnt fuse (plain laws). What a disk holds that a ledger of the prefix "a" has written, and what it opens as (plain laws). What Append, Write and Crash leave on the disk of a ledger "a" (plain laws). What Write leaves on the disk of a ledger "a", and behind a crash (plain laws). -/
import Derived.Test.YtapfnehdgailmaaGreatEF
import Derived.Test.YtapfnehdgailmaaGreatER
set_option maxRecDepth 100000
set_option maxHeartbeats 64000000
namespace Go.Proofs.YtapfnehdgailmaaGreat
open Go.RowKit Go.Sat Go.Maps
def zCV (w w1:World) (l d:Nat) (pre:ByteArray) (F:Nat→Prop) (r:Wrote) (e:Ending) (w':World):Prop :=
 e=.returned (.int .i64 (r.err:Int))∧LedF w w' l d pre r.disk r.led F∧Same F w1 w'
section
variable {w w1 w2 wc:World} {l d:Nat} {pre:ByteArray} {D:zAA} {M:LedM} {F:Nat→Prop}
theorem led_save (h:LedF w w1 l d pre D M F) (hb:Below w1.heap.size w1 wc) (s:ByteArray) (hs:s.size≤9223372036854775807) {p:Option Addr} {n c:Nat} {ls:List Bs} (hx:zBA wc (.slice p n c) ls) (hn:n≤140737488355328) (hl:ls.flatten.length≤1048576) :
  Calls Tryz.prog 135 #[.pointer (some ⟨d,0,none⟩),.string s,.slice p n c] wc fun e w'=>e=.returned (.int .i64 ((D.save (nm s) ls.flatten).2:Int))∧LedF w w' l d pre (D.save (nm s) ls.flatten).1 M F∧Same F w1 w'∧w'.heap[l]?=w1.heap[l]? :=
 zDp h hb fun _ hS=>save_calls (hS.next hb) s hs hx hn hl
theorem led_diskB {P:Program} {f:FuncId} {args:Array Value} {Re:zAA × Nat} (h:LedF w w1 l d pre D M F) (hx:∀ G,St w w1 d D G→Calls P f args wc (Told w d G w1 Re)) :
  Calls P f args wc fun e w'=>e=.returned (.int .i64 (Re.2:Int))∧LedF w w' l d pre Re.1 M F∧Same F w1 w'∧w'.heap[l]?=w1.heap[l]?:=by
 obtain ⟨own,dv,ev,vs,hL,hS,hn,hl⟩:=h
 refine (hx _ hS).mono ?_
 rintro e w' ⟨rfl,hS',hs⟩
 exact ⟨rfl,⟨own,dv,ev,vs,hL.keep (fun k hk=>hs k (.inl hk)) fun k hk=>hS'.flt (.inl hk),hS',hn,fun k hk=>hS'.flt (.inr hk)⟩,fun k hk=>hs k (.inr hk),hs l (.inl hL.ol)⟩
theorem led_rid1 (h:LedF w w1 l d pre D M F) (s:ByteArray) (hs:s.size≤9223372036854775807) :
  Calls Tryz.prog 137 #[.pointer (some ⟨d,0,none⟩),.slice (some ⟨w1.heap.size,0,none⟩) 1 1] (w1.alloc (.cells #[.string s] 9)) fun e w'=>e=.returned (.int .i64 ((D.rid [nm s]).2:Int))∧LedF w w' l d pre (D.rid [nm s]).1 M F∧Same F w1 w'∧w'.heap[l]?=w1.heap[l]? :=
 led_diskB h fun _ hS=>told_rid1 hS (Below.refl _ _) s hs
theorem wri_dead (hd:M.dead=true) (i:Int) (b:Bs):zAV (nm pre) D M i b=⟨D,M,0,9⟩:=by unfold zAV;rw [if_pos hd]
theorem wri_arg (hd:M.dead=false) (i:Int) (b:Bs) (h:i < (M.last:Int)∨1099511627776 < i):zAV (nm pre) D M i b=⟨D,M,0,1⟩:=by unfold zAV;rw [if_neg (by simp [hd]),if_pos h]
theorem wri_long (hd:M.dead=false) (i:Int) (b:Bs) (h:¬ (i < (M.last:Int)∨1099511627776 < i)) (h2:524288 < b.length):zAV (nm pre) D M i b=⟨D,M,0,5⟩:=by unfold zAV;rw [if_neg (by simp [hd]),if_neg h,if_pos h2]
theorem wri_err (hd:M.dead=false) (m:Nat) (b:Bs) (h:¬ ((m:Int) < (M.last:Int)∨1099511627776 < (m:Int))) (h2:¬ 524288 < b.length) {r:zAA × Nat} (hr:zCa (nm pre) D m b=r) (h1:r.2≠0):zAV (nm pre) D M (m:Int) b=⟨r.1,M.die,0,r.2⟩:=by
 unfold zAV
 rw [if_neg (by simp [hd]),if_neg h,if_neg h2,Int.toNat_natCast,hr,if_pos h1]
theorem wri_ok (hd:M.dead=false) (m:Nat) (b:Bs) (h:¬ ((m:Int) < (M.last:Int)∨1099511627776 < (m:Int))) (h2:¬ 524288 < b.length) {r:zAA × Nat} (hr:zCa (nm pre) D m b=r) (h1:r.2=0):zAV (nm pre) D M (m:Int) b=⟨r.1,⟨m,b,[],M.dead⟩,0,0⟩:=by
 unfold zAV
 rw [if_neg (by simp [hd]),if_neg h,if_neg h2,Int.toNat_natCast,hr,if_neg (by simpa using h1)]
theorem led_reset {own:Nat→Prop} {dv ev:Value} {vs:List Value} (hL:zBP w1 l d pre own M dv ev vs) {m:Nat} {v:Value} {b:Bs} (hv:OwnB w1 5 v b) (hvo:∀ k,v.ownBlock=some k→¬ own k) (hm:m≤1099511627776) (hb:b.length≤1073741824) :
  zBP (((w1.setCell ⟨l,2,none⟩ (.int .i64 (m:Int))).setCell ⟨l,3,none⟩ v).setCell ⟨l,4,none⟩ (.slice none 0 0)) l d pre (fun k=>own k∨v.ownBlock=some k) ⟨m,b,[],M.dead⟩ v (.slice none 0 0) []:=by
 have hne:∀ k,v.ownBlock=some k→k≠l:=fun k hk e=>hvo k hk (e ▸ hL.ol)
 have hk:∀ k,k≠l→(((w1.setCell ⟨l,2,none⟩ (.int .i64 (m:Int))).setCell ⟨l,3,none⟩ v).setCell ⟨l,4,none⟩ (.slice none 0 0)).heap[k]?=w1.heap[k]?:=fun k e=>(zAE _ e).trans ((zAE _ e).trans (zAE _ e))
 refine ⟨?_,OwnR.keep hv fun k h=>hk k (hne k h),OwnR.nil _ _ _,fun i u b hu=>(by simp at hu),.inl hL.ol,fun k h=>⟨.inr h,hne k h,fun e=>by cases e⟩,fun k h=>(by cases h),fun u hu=>(by simp at hu),fun k h=>?_,?_,hL.psz,hb,fun b hb=>(by cases hb)⟩
 ·have h1:=zAO hL.cells 2 (.int .i64 (m:Int))
  have h2:=zAO h1 3 v
  have h3:=zAO h2 4 (.slice none 0 0)
  simpa using h3
 ·have:k < w1.heap.size:=h.elim (hL.olt k) fun h=>OwnR.lt hv h
  simpa [World.setCell] using this
 ·show m+0≤_
  omega
theorem lwrite_calls (h:LedF w w1 l d pre D M F) (i:Int) (hir:-9223372036854775808≤i∧i≤9223372036854775807) {pp:Option Addr} {n c:Nat} {b:Bs} (hx:∀ W,Below w.heap.size w W→Same F w1 W→HasB W (.slice pp n c) b) (hb47:b.length≤140737488355328) :
  Calls Tryz.prog 58 #[.pointer (some ⟨l,0,none⟩),.int .i64 i,.slice pp n c] w1 (zCV w w1 l d pre F (zAV (nm pre) D M i b)):=by
 have hn:b.length=n:=by obtain ⟨_,_,e⟩:=(hx w1 h.bel fun _ _=>rfl).slice;simp only [Value.slice.injEq] at e;exact e.2.1.symm
 have hps:=h.psz.2
 have hlast40:=h.last
 obtain ⟨dv,ev,hcl,-⟩:=h.cells
 have k5:=zAC hcl (i:=5) rfl
 have H:=zh h
 have Hx:=zh hx
 have Hla:=zh (last_calls h)
 clear h hx hcl
 cases hd:M.dead with
 | true =>
  have HE:=zh (show zCV w w1 l d pre F (zAV (nm pre) D M i b) (.returned (.int .i64 9)) w1 from by rw [wri_dead hd];exact ⟨rfl,H.out,fun _ _=>rfl⟩)
  have k5':w1.cell? ⟨l,5,none⟩=some (.bool true):=by rw [← hd];exact k5
  clear k5 hd
  go_enter Tryz.func58,Tryz.ntmps58
  go_wp2_with fail
  go_ret
  exact HE.out
 | false =>
  have k5':w1.cell? ⟨l,5,none⟩=some (.bool false):=by rw [← hd];exact k5
  have Hd:=zh hd
  clear k5 hd
  by_cases harg:i < (M.last:Int)∨1099511627776 < i
  ·have HE:=zh (fun q=>show zCV w w1 l d pre F (zAV (nm pre) D M i b) (.returned (.int .i64 1)) (w1.drewN q) from by rw [wri_arg Hd.out _ _ harg];exact ⟨rfl,H.out.next ⟨rfl,rfl,rfl,Nat.le_refl _,fun _ _=>rfl⟩,fun _ _=>rfl⟩)
   generalize M.last=la at *
   by_cases h1:i < (la:Int)
   ·clear harg
    go_enter Tryz.func58,Tryz.ntmps58
    go_wp2_with fail
    refine Hla.out.mono ?_
    rintro e w2 ⟨rfl,q,rfl⟩
    go_wp2_with fail
    go_ret
    exact HE.out q
   ·have h2:1099511627776 < i:=harg.resolve_left h1
    clear harg
    go_enter Tryz.func58,Tryz.ntmps58
    go_wp2_with fail
    refine Hla.out.mono ?_
    rintro e w2 ⟨rfl,q,rfl⟩
    go_wp2_with fail
    go_ret
    exact HE.out q
  ·obtain ⟨m,rfl⟩:∃ m:Nat,i=(m:Int):=⟨i.toNat,by omega⟩
   by_cases hlong:524288 < n
   ·have HE:=zh (fun q=>show zCV w w1 l d pre F (zAV (nm pre) D M (m:Int) b) (.returned (.int .i64 5)) (w1.drewN q) from by rw [wri_long Hd.out _ _ harg (by omega)];exact ⟨rfl,H.out.next ⟨rfl,rfl,rfl,Nat.le_refl _,fun _ _=>rfl⟩,fun _ _=>rfl⟩)
    have h1:(M.last:Int)≤(m:Int):=by omega
    have h2:(m:Int)≤1099511627776:=by omega
    generalize M.last=la at *
    clear harg
    go_enter Tryz.func58,Tryz.ntmps58
    go_wp2_with fail
    refine Hla.out.mono ?_
    rintro e w2 ⟨rfl,q,rfl⟩
    go_wp2_with fail
    go_ret
    exact HE.out q
   ·have Hno:=zh harg
    have Hsh:=zh (show ¬ 524288 < b.length by omega)
    have h1:(M.last:Int)≤(m:Int):=by omega
    have h2:(m:Int)≤1099511627776:=by omega
    have Hm40:=zh (show m≤1099511627776 by omega)
    have Hb30:=zh (show b.length≤524288 by omega)
    have Hps:=zh hps
    clear harg
    generalize hlaE:M.last=la at *
    have HlaE:=zh hlaE
    clear hlaE
    go_enter Tryz.func58,Tryz.ntmps58
    go_wp2_with fail
    refine Hla.out.mono ?_
    rintro e w2 ⟨rfl,q,rfl⟩
    go_wp2_with fail
    have Hw2:=zh (show WrIn ((w1.drewN q).alloc (.cells #[.slice none 0 0] 163)) w1.heap.size (.slice none 0 0) [] from wr_fresh (w1.drewN q) (0,0) rfl)
    have HB2:=zh (show Below w1.heap.size w1 ((w1.drewN q).alloc (.cells #[.slice none 0 0] 163)) from (show Below w1.heap.size w1 (w1.drewN q) from ⟨rfl,rfl,rfl,Nat.le_refl _,fun _ _=>rfl⟩).alloc (Nat.le_refl _) _)
    have hsz2:((w1.drewN q).alloc (.cells #[.slice none 0 0] 163)).heap.size=w1.heap.size+1:=by simp
    have Hn1:=zh (wnum_one Hw2.out (m:Int) ⟨by omega,by omega⟩ (by simp) (w1.heap.size+1) 1 hsz2.symm (0,0))
    have Hba:=zh (show Below w1.heap.size w1 (((w1.drewN q).alloc (.cells #[.slice none 0 0] 163)).alloc (.cells #[.int .i64 (m:Int)] 3)) from HB2.out.alloc HB2.out.size _)
    clear hsz2
    generalize (w1.drewN q).alloc (.cells #[.slice none 0 0] 163)=W2 at *
    refine Hn1.out.mono ?_
    rintro e w3 ⟨rfl,v3,hv3,hc3,hn3⟩
    have HB3:=zh (wr_below Hba.out (Nat.le_refl _) (fun j hj=>by cases hj) hc3 hn3)
    have Hby:=zh (wbytes_one hv3 (pv:=pp) (m:=n) (cv:=c) (x:=b) (fun W hc=>by
     have hbW:Below w1.heap.size w1 W:=HB3.out.1.trans (hc.below HB3.out.1.size fun j hj hs=>by
      rcases hs with rfl | hs
      ·omega
      ·have:=HB3.out.2 j hs
       omega)
     exact Hx.out W (H.out.bel.trans (hbW.mono H.out.bel.size)) fun k hk=>hbW.block k (H.out.flt hk)) (by
     have h1:=numI_len (m:Int)
     rw [List.nil_append]
     have:=Hb30.out
     omega) w3.heap.size 1 rfl (0,0))
    have Hbb:=zh (show Below w1.heap.size w1 (w3.alloc (.cells #[.slice pp n c] 22)) from HB3.out.1.alloc HB3.out.1.size _)
    clear hv3 hc3 hn3 Hn1
    go_wp2_with fail
    refine Hby.out.mono ?_
    rintro e w4 ⟨rfl,v4,hv4,hc4,hn4⟩
    have HB4:=zh (wr_below Hbb.out (Nat.le_refl _) HB3.out.2 hc4 hn4).1
    have hi4:[] ++ numI (m:Int) ++ rowB b=imgB m b:=by
     rw [List.nil_append]
     unfold imgB
     rw [zCr (by have:=Hm40.out;omega)]
    rw [hi4] at hv4
    have Hil:=zh (show (imgB m b).length≤540000 from by
     unfold imgB rowB
     have h1:=zAu (n:=m) (by have:=Hm40.out;omega)
     have h2:=zAu (n:=b.length) (by have:=Hb30.out;omega)
     have h3:=Hb30.out
     rw [List.length_append,List.length_append]
     omega)
    have Hv4:=zh hv4
    have HL4:=zh (H.out.next HB4.out)
    have Hs4:=zh (H.out.same HB4.out)
    clear hv4 hc4 hn4 hi4 Hby
    generalize hIM:imgB m b=im at *
    have HIM:=zh hIM
    clear hIM
    generalize hml:im.length=ml at *
    have Hml:=zh hml
    clear hml
    cases hsv:D.save (imgN (nm pre)) im with
    | mk D1 e1 =>
     have Hsave:=zh (show ∀ W,LedF w W l d pre D M F→∀ p c,HasB W (.slice p ml c) im→Calls Tryz.prog 135 #[.pointer (some ⟨d,0,none⟩),.string (sImg pre),.slice (some ⟨W.heap.size,0,none⟩) 1 1] (W.alloc (.cells #[.slice p ml c] 22)) fun e w'=>e=.returned (.int .i64 (e1:Int))∧LedF w w' l d pre D1 M F∧Same F W w'∧w'.heap[l]?=W.heap[l]? from fun W h p c hf=>by
      have hr:=zCT hf 22 (0,0) W.heap.size 1 rfl (Nat.le_refl _)
      have:=led_save h (zAb W (.cells #[.slice p ml c] 22)) (sImg pre) (by rw [zD1];omega) hr (by decide) (by rw [List.flatten_cons,List.flatten_nil,List.append_nil,Hml.out];have:=Hil.out;omega)
      rwa [nm_img,show [im].flatten=im from by rw [List.flatten_cons,List.flatten_nil,List.append_nil],hsv] at this)
     by_cases he1:e1=0
     ·subst he1
      cases hri:D1.rid [logN (nm pre)] with
      | mk D2 e2 =>
       have Hly:=zh (show zCa (nm pre) D m b=(D2,e2) from by unfold zCa;rw [HIM.out,hsv];rw [if_neg (by simp)];exact hri)
       have Hrid:=zh (show ∀ W,LedF w W l d pre D1 M F→Calls Tryz.prog 137 #[.pointer (some ⟨d,0,none⟩),.slice (some ⟨W.heap.size,0,none⟩) 1 1] (W.alloc (.cells #[.string (sLog pre)] 9)) fun e w'=>e=.returned (.int .i64 (e2:Int))∧LedF w w' l d pre D2 M F∧Same F W w'∧w'.heap[l]?=W.heap[l]? from fun W h=>by
        have:=led_rid1 h (sLog pre) (by rw [zB9];omega)
        rwa [zC7,hri] at this)
       clear hsv hri
       by_cases he2:e2=0
       ·subst he2
        have HR:=zh (wri_ok Hd.out m b (by rw [HlaE.out];exact Hno.out) Hsh.out Hly.out rfl)
        go_wp2_with fail
        have HLd:=zh (HL4.out.next (zAH w4))
        have Hsd:=zh (show Same F w1 w4.drew from Hs4.out)
        have Hwd:=zh (show WrIn w4.drew w1.heap.size v4 im from Hv4.out.keep (zAH w4))
        have HBd:=zh (show Below w1.heap.size w1 w4.drew from HB4.out.trans ((zAH w4).mono HB4.out.size))
        obtain ⟨hc0,hc1,-⟩:=HL4.out.lc
        refine zAK (fun w':World=>w'.cell? ⟨l,0,none⟩=some (.pointer (some ⟨d,0,none⟩))∧w'.cell? ⟨l,1,none⟩=some (.string pre)) (n:=10) (by kernel_rfl) rfl (⟨hc0,hc1⟩) (fun hHeld=>?_)
        generalize w4.drew=W1 at *
        refine pl [0,1,2,3,4] ?_
        iterate 5 (refine pc rfl ?_;simp only [Act.put,uA,uB,uC])
        refine pn ?_
        refine zAB 5 rfl (by kernel_rfl) (by rfl) (fun K hK=>?_)
        go_wp2_with fail
        refine (zA2 ⟨hHeld.1,hHeld.2,hps⟩).mono ?_
        rintro e w9 ⟨rfl,rfl⟩
        go_wp2_with fail
        refine hK.out _ _ (hHeld) (fun hHeld=>?_)
        clear hK
        try simp only [Act.put,uA,uB,uC]
        refine zAB 6 rfl (by kernel_rfl) (by rfl) (fun K hK=>?_)
        have Hou:=zh (zDP Hwd.out (by rw [Hml.out];have:=Hil.out;omega))
        go_wp2_with fail
        refine Hou.out.mono ?_
        rintro e w5 ⟨v5,rfl,hv5,hn5,hb5⟩
        have HL5:=zh (HLd.out.next hb5)
        have Hs5:=zh (show Same F w1 w5 from fun k hk=>(HLd.out.same hb5 k hk).trans (Hsd.out k hk))
        have Hk5:=zh (HLd.out.lc.same (hb5.block l HLd.out.llt))
        have Hv5:=zh (show HasB w5 v5 im from hv5.has)
        obtain ⟨p5,c5,rfl,-⟩:=zAX hv5
        rw [Hml.out] at Hv5
        clear hv5 hn5 hb5 Hou
        rw [Hml.out]
        go_wp2_with fail
        refine hK.out _ _ (⟨Hk5.out.1,Hk5.out.2.1⟩) (fun hHeld=>?_)
        clear hK
        try simp only [Act.put,uA,uB,uC]
        refine zAB 7 rfl (by kernel_rfl) (by rfl) (fun K hK=>?_)
        have Hh2:=zh (show (w5.alloc (.cells #[.slice p5 ml c5] 22)).cell? ⟨l,0,none⟩=some (.pointer (some ⟨d,0,none⟩))∧(w5.alloc (.cells #[.slice p5 ml c5] 22)).cell? ⟨l,1,none⟩=some (.string pre) from ⟨zAT hHeld.1 _,zAT hHeld.2 _⟩)
        go_wp2_with fail
        refine hK.out _ _ (Hh2.out) (fun hHeld=>?_)
        clear hK
        try simp only [Act.put,uA,uB,uC]
        refine zAB 8 rfl (by kernel_rfl) (by rfl) (fun K hK=>?_)
        have Hsv:=zh (Hsave.out w5 HL5.out p5 c5 Hv5.out)
        go_wp2_with fail
        refine Hsv.out.mono ?_
        rintro e w7 ⟨rfl,hl7,hs7,hk7⟩
        have Hh3:=zh (HL5.out.lc.same hk7)
        have HL7:=zh hl7
        have Hs7:=zh (show Same F w1 w7 from fun k hk=>(hs7 k hk).trans (Hs5.out k hk))
        clear hl7 hs7 hk7 Hsv
        go_wp2_with fail
        refine hK.out _ _ (⟨Hh3.out.1,Hh3.out.2.1⟩) (fun hHeld=>?_)
        clear hK
        try simp only [Act.put,uA,uB,uC]
        refine otk 9 (v:=?v10x9) rfl ?_
        simp only [Act.put,uA,uB,uC]
        refine wpAnyH_done (by kernel_rfl) ?_ _
        clear HLd Hsd Hwd HBd Hh3 HL5 Hs5
        go_wp2_with fail
        have HLd:=zh (HL7.out.next (zAH w7))
        have Hsd:=zh (show Same F w1 w7.drew from Hs7.out)
        obtain ⟨hc0,hc1,-⟩:=HL7.out.lc
        refine zAK (fun w':World=>w'.cell? ⟨l,0,none⟩=some (.pointer (some ⟨d,0,none⟩))∧w'.cell? ⟨l,1,none⟩=some (.string pre)) (n:=9) (by kernel_rfl) rfl (⟨hc0,hc1⟩) (fun hHeld=>?_)
        generalize w7.drew=W1 at *
        refine pl [0,1,2,3,4] ?_
        iterate 5 (refine pc rfl ?_;simp only [Act.put,uA,uB,uC])
        refine pn ?_
        refine zAB 5 rfl (by kernel_rfl) (by rfl) (fun K hK=>?_)
        go_wp2_with fail
        refine (zAQ ⟨hHeld.1,hHeld.2,hps⟩).mono ?_
        rintro e w9 ⟨rfl,rfl⟩
        go_wp2_with fail
        refine hK.out _ _ (hHeld) (fun hHeld=>?_)
        clear hK
        try simp only [Act.put,uA,uB,uC]
        refine zAB 6 rfl (by kernel_rfl) (by rfl) (fun K hK=>?_)
        have Hh2:=zh (show (W1.alloc (.cells #[.string (sLog pre)] 9)).cell? ⟨l,0,none⟩=some (.pointer (some ⟨d,0,none⟩))∧(W1.alloc (.cells #[.string (sLog pre)] 9)).cell? ⟨l,1,none⟩=some (.string pre) from ⟨zAT hHeld.1 _,zAT hHeld.2 _⟩)
        go_wp2_with fail
        refine hK.out _ _ (Hh2.out) (fun hHeld=>?_)
        clear hK
        try simp only [Act.put,uA,uB,uC]
        refine zAB 7 rfl (by kernel_rfl) (by rfl) (fun K hK=>?_)
        go_wp2_with fail
        refine (Hrid.out W1 HLd.out).mono ?_
        rintro e w8 ⟨rfl,hl8,hs8,hk8⟩
        have Hh3:=zh (HLd.out.lc.same hk8)
        have HL8:=zh hl8
        have Hs8:=zh (show Same F w1 w8 from fun k hk=>(hs8 k hk).trans (Hsd.out k hk))
        clear hl8 hs8 hk8
        go_wp2_with fail
        refine hK.out _ _ (⟨Hh3.out.1,Hh3.out.2.1⟩) (fun hHeld=>?_)
        clear hK
        try simp only [Act.put,uA,uB,uC]
        refine otk 8 (v:=?v20x8) rfl ?_
        simp only [Act.put,uA,uB,uC]
        refine wpAnyH_done (by kernel_rfl) ?_ _
        clear HLd Hsd Hh3
        have Hdi:=zh (zBS HL8.out 0)
        go_wp2_with fail
        refine Hdi.out.mono ?_
        rintro e w10 ⟨rfl,hl10,hs10⟩
        have HL10:=zh hl10
        have Hs10:=zh (show Same F w1 w10 from fun k hk=>(hs10 k hk).trans (Hs8.out k hk))
        clear hl10 hs10 Hdi
        have HLm:=zh (show LedF w w10 l d pre D2 M F from by
         have h:=HL10.out
         have e:({ M with dead:=M.dead || decide ((0:Nat)≠0) }:LedM)=M:=by
          rw [Hd.out]
          show (⟨M.base,M.data,M.entries,false⟩:LedM)=M
          rw [← Hd.out]
         rwa [e] at h)
        have Hcl:=zh (zA6 (Hx.out w10 HLm.out.bel Hs10.out) (by have:=Hb30.out;omega))
        clear HL10
        go_wp2_with fail
        refine Hcl.out.mono ?_
        rintro e w11 ⟨u,rfl,hu,hun,hb11⟩
        obtain ⟨own,dv,ev,vs,hL,hS,hn',hl⟩:=HLm.out
        have hL11:=hL.below hb11
        have hfin:=led_reset hL11 hu (fun k hk ho=>by have h1:=hun k hk;have h2:=hL.olt k ho;omega) Hm40.out (by have:=Hb30.out;omega)
        have hch:Chg own w10 (((w11.setCell ⟨l,2,none⟩ (.int .i64 (m:Int))).setCell ⟨l,3,none⟩ u).setCell ⟨l,4,none⟩ (.slice none 0 0)):=((((Chg.of_below hb11).mono fun _ _ h=>h.elim).trans (Chg.setCell w11 ⟨l,2,none⟩ _) fun k _ e=>by rw [e];exact hL.ol).trans (Chg.setCell _ ⟨l,3,none⟩ _) fun k _ e=>by rw [e];exact hL.ol).trans (Chg.setCell _ ⟨l,4,none⟩ _) fun k _ e=>by rw [e];exact hL.ol
        have hQ:=LedF.turned hS hn' hl hfin hch fun k hk=>hk.imp id (hun k)
        have HE:=zh (show zCV w w1 l d pre F (zAV (nm pre) D M (m:Int) b) (.returned (.int .i64 0)) (((w11.setCell ⟨l,2,none⟩ (.int .i64 (m:Int))).setCell ⟨l,3,none⟩ u).setCell ⟨l,4,none⟩ (.slice none 0 0)) from by
         rw [HR.out]
         exact ⟨rfl,hQ.1,fun k hk=>(hQ.2 k hk).trans (Hs10.out k hk)⟩)
        have k2:=hL11.c2
        have k3:=hL11.c3
        have k4:=hL11.c4
        have f2:=hL11.fr 2
        have f3:=hL11.fr 3
        have f4:=hL11.fr 4
        obtain ⟨pu,cu,rfl,-⟩:=zAX hu
        obtain ⟨pd,cd,rfl,-⟩:=zAX hL.data
        obtain ⟨pe,ce,rfl⟩:=OwnR.shape hL.row
        rw [hn] at HE ⊢
        clear hL hS hn' hl hL11 hfin hch hQ hu hun hb11 Hcl
        go_wp2_with fail
        go_ret
        exact HE.out
       ·have hne:((e2:Int) != 0)=true:=by simp;omega
        have HR:=zh (wri_err Hd.out m b (by rw [HlaE.out];exact Hno.out) Hsh.out Hly.out he2)
        have He:=zh he2
        have hne2:((e2:Int) == 0)=false:=by simp;omega
        clear he2
        go_wp2_with fail
        have HLd:=zh (HL4.out.next (zAH w4))
        have Hsd:=zh (show Same F w1 w4.drew from Hs4.out)
        have Hwd:=zh (show WrIn w4.drew w1.heap.size v4 im from Hv4.out.keep (zAH w4))
        have HBd:=zh (show Below w1.heap.size w1 w4.drew from HB4.out.trans ((zAH w4).mono HB4.out.size))
        obtain ⟨hc0,hc1,-⟩:=HL4.out.lc
        refine zAK (fun w':World=>w'.cell? ⟨l,0,none⟩=some (.pointer (some ⟨d,0,none⟩))∧w'.cell? ⟨l,1,none⟩=some (.string pre)) (n:=10) (by kernel_rfl) rfl (⟨hc0,hc1⟩) (fun hHeld=>?_)
        generalize w4.drew=W1 at *
        refine pl [0,1,2,3,4] ?_
        iterate 5 (refine pc rfl ?_;simp only [Act.put,uA,uB,uC])
        refine pn ?_
        refine zAB 5 rfl (by kernel_rfl) (by rfl) (fun K hK=>?_)
        go_wp2_with fail
        refine (zA2 ⟨hHeld.1,hHeld.2,hps⟩).mono ?_
        rintro e w9 ⟨rfl,rfl⟩
        go_wp2_with fail
        refine hK.out _ _ (hHeld) (fun hHeld=>?_)
        clear hK
        try simp only [Act.put,uA,uB,uC]
        refine zAB 6 rfl (by kernel_rfl) (by rfl) (fun K hK=>?_)
        have Hou:=zh (zDP Hwd.out (by rw [Hml.out];have:=Hil.out;omega))
        go_wp2_with fail
        refine Hou.out.mono ?_
        rintro e w5 ⟨v5,rfl,hv5,hn5,hb5⟩
        have HL5:=zh (HLd.out.next hb5)
        have Hs5:=zh (show Same F w1 w5 from fun k hk=>(HLd.out.same hb5 k hk).trans (Hsd.out k hk))
        have Hk5:=zh (HLd.out.lc.same (hb5.block l HLd.out.llt))
        have Hv5:=zh (show HasB w5 v5 im from hv5.has)
        obtain ⟨p5,c5,rfl,-⟩:=zAX hv5
        rw [Hml.out] at Hv5
        clear hv5 hn5 hb5 Hou
        rw [Hml.out]
        go_wp2_with fail
        refine hK.out _ _ (⟨Hk5.out.1,Hk5.out.2.1⟩) (fun hHeld=>?_)
        clear hK
        try simp only [Act.put,uA,uB,uC]
        refine zAB 7 rfl (by kernel_rfl) (by rfl) (fun K hK=>?_)
        have Hh2:=zh (show (w5.alloc (.cells #[.slice p5 ml c5] 22)).cell? ⟨l,0,none⟩=some (.pointer (some ⟨d,0,none⟩))∧(w5.alloc (.cells #[.slice p5 ml c5] 22)).cell? ⟨l,1,none⟩=some (.string pre) from ⟨zAT hHeld.1 _,zAT hHeld.2 _⟩)
        go_wp2_with fail
        refine hK.out _ _ (Hh2.out) (fun hHeld=>?_)
        clear hK
        try simp only [Act.put,uA,uB,uC]
        refine zAB 8 rfl (by kernel_rfl) (by rfl) (fun K hK=>?_)
        have Hsv:=zh (Hsave.out w5 HL5.out p5 c5 Hv5.out)
        go_wp2_with fail
        refine Hsv.out.mono ?_
        rintro e w7 ⟨rfl,hl7,hs7,hk7⟩
        have Hh3:=zh (HL5.out.lc.same hk7)
        have HL7:=zh hl7
        have Hs7:=zh (show Same F w1 w7 from fun k hk=>(hs7 k hk).trans (Hs5.out k hk))
        clear hl7 hs7 hk7 Hsv
        go_wp2_with fail
        refine hK.out _ _ (⟨Hh3.out.1,Hh3.out.2.1⟩) (fun hHeld=>?_)
        clear hK
        try simp only [Act.put,uA,uB,uC]
        refine otk 9 (v:=?v30x9) rfl ?_
        simp only [Act.put,uA,uB,uC]
        refine wpAnyH_done (by kernel_rfl) ?_ _
        clear HLd Hsd Hwd HBd Hh3 HL5 Hs5
        go_wp2_with fail
        have HLd:=zh (HL7.out.next (zAH w7))
        have Hsd:=zh (show Same F w1 w7.drew from Hs7.out)
        obtain ⟨hc0,hc1,-⟩:=HL7.out.lc
        refine zAK (fun w':World=>w'.cell? ⟨l,0,none⟩=some (.pointer (some ⟨d,0,none⟩))∧w'.cell? ⟨l,1,none⟩=some (.string pre)) (n:=9) (by kernel_rfl) rfl (⟨hc0,hc1⟩) (fun hHeld=>?_)
        generalize w7.drew=W1 at *
        refine pl [0,1,2,3,4] ?_
        iterate 5 (refine pc rfl ?_;simp only [Act.put,uA,uB,uC])
        refine pn ?_
        refine zAB 5 rfl (by kernel_rfl) (by rfl) (fun K hK=>?_)
        go_wp2_with fail
        refine (zAQ ⟨hHeld.1,hHeld.2,hps⟩).mono ?_
        rintro e w9 ⟨rfl,rfl⟩
        go_wp2_with fail
        refine hK.out _ _ (hHeld) (fun hHeld=>?_)
        clear hK
        try simp only [Act.put,uA,uB,uC]
        refine zAB 6 rfl (by kernel_rfl) (by rfl) (fun K hK=>?_)
        have Hh2:=zh (show (W1.alloc (.cells #[.string (sLog pre)] 9)).cell? ⟨l,0,none⟩=some (.pointer (some ⟨d,0,none⟩))∧(W1.alloc (.cells #[.string (sLog pre)] 9)).cell? ⟨l,1,none⟩=some (.string pre) from ⟨zAT hHeld.1 _,zAT hHeld.2 _⟩)
        go_wp2_with fail
        refine hK.out _ _ (Hh2.out) (fun hHeld=>?_)
        clear hK
        try simp only [Act.put,uA,uB,uC]
        refine zAB 7 rfl (by kernel_rfl) (by rfl) (fun K hK=>?_)
        go_wp2_with fail
        refine (Hrid.out W1 HLd.out).mono ?_
        rintro e w8 ⟨rfl,hl8,hs8,hk8⟩
        have Hh3:=zh (HLd.out.lc.same hk8)
        have HL8:=zh hl8
        have Hs8:=zh (show Same F w1 w8 from fun k hk=>(hs8 k hk).trans (Hsd.out k hk))
        clear hl8 hs8 hk8
        go_wp2_with fail
        refine hK.out _ _ (⟨Hh3.out.1,Hh3.out.2.1⟩) (fun hHeld=>?_)
        clear hK
        try simp only [Act.put,uA,uB,uC]
        refine otk 8 (v:=?v40x8) rfl ?_
        simp only [Act.put,uA,uB,uC]
        refine wpAnyH_done (by kernel_rfl) ?_ _
        clear HLd Hsd Hh3
        have Hdi:=zh (zBS HL8.out e2)
        go_wp2_with fail
        refine Hdi.out.mono ?_
        rintro e w10 ⟨rfl,hl10,hs10⟩
        have HL10:=zh hl10
        have Hs10:=zh (show Same F w1 w10 from fun k hk=>(hs10 k hk).trans (Hs8.out k hk))
        clear hl10 hs10 Hdi
        have HE:=zh (show zCV w w1 l d pre F (zAV (nm pre) D M (m:Int) b) (.returned (.int .i64 (e2:Int))) w10 from by
         rw [HR.out]
         refine ⟨rfl,?_,Hs10.out⟩
         have h:=HL10.out
         rwa [show ({ M with dead:=M.dead || decide (e2≠0) }:LedM)=M.die from by rw [Hd.out];unfold LedM.die;simp [He.out]] at h)
        go_wp2_with fail
        go_ret
        exact HE.out
     ·have hne:((e1:Int) != 0)=true:=by simp;omega
      have hne':((e1:Int) == 0)=false:=by simp;omega
      have Hly:=zh (show zCa (nm pre) D m b=(D1,e1) from by unfold zCa;rw [HIM.out,hsv];exact if_pos he1)
      have HR:=zh (wri_err Hd.out m b (by rw [HlaE.out];exact Hno.out) Hsh.out Hly.out he1)
      have He:=zh he1
      clear hsv he1
      go_wp2_with fail
      have HLd:=zh (HL4.out.next (zAH w4))
      have Hsd:=zh (show Same F w1 w4.drew from Hs4.out)
      have Hwd:=zh (show WrIn w4.drew w1.heap.size v4 im from Hv4.out.keep (zAH w4))
      have HBd:=zh (show Below w1.heap.size w1 w4.drew from HB4.out.trans ((zAH w4).mono HB4.out.size))
      obtain ⟨hc0,hc1,-⟩:=HL4.out.lc
      refine zAK (fun w':World=>w'.cell? ⟨l,0,none⟩=some (.pointer (some ⟨d,0,none⟩))∧w'.cell? ⟨l,1,none⟩=some (.string pre)) (n:=10) (by kernel_rfl) rfl (⟨hc0,hc1⟩) (fun hHeld=>?_)
      generalize w4.drew=W1 at *
      refine pl [0,1,2,3,4] ?_
      iterate 5 (refine pc rfl ?_;simp only [Act.put,uA,uB,uC])
      refine pn ?_
      refine zAB 5 rfl (by kernel_rfl) (by rfl) (fun K hK=>?_)
      go_wp2_with fail
      refine (zA2 ⟨hHeld.1,hHeld.2,hps⟩).mono ?_
      rintro e w9 ⟨rfl,rfl⟩
      go_wp2_with fail
      refine hK.out _ _ (hHeld) (fun hHeld=>?_)
      clear hK
      try simp only [Act.put,uA,uB,uC]
      refine zAB 6 rfl (by kernel_rfl) (by rfl) (fun K hK=>?_)
      have Hou:=zh (zDP Hwd.out (by rw [Hml.out];have:=Hil.out;omega))
      go_wp2_with fail
      refine Hou.out.mono ?_
      rintro e w5 ⟨v5,rfl,hv5,hn5,hb5⟩
      have HL5:=zh (HLd.out.next hb5)
      have Hs5:=zh (show Same F w1 w5 from fun k hk=>(HLd.out.same hb5 k hk).trans (Hsd.out k hk))
      have Hk5:=zh (HLd.out.lc.same (hb5.block l HLd.out.llt))
      have Hv5:=zh (show HasB w5 v5 im from hv5.has)
      obtain ⟨p5,c5,rfl,-⟩:=zAX hv5
      rw [Hml.out] at Hv5
      clear hv5 hn5 hb5 Hou
      rw [Hml.out]
      go_wp2_with fail
      refine hK.out _ _ (⟨Hk5.out.1,Hk5.out.2.1⟩) (fun hHeld=>?_)
      clear hK
      try simp only [Act.put,uA,uB,uC]
      refine zAB 7 rfl (by kernel_rfl) (by rfl) (fun K hK=>?_)
      have Hh2:=zh (show (w5.alloc (.cells #[.slice p5 ml c5] 22)).cell? ⟨l,0,none⟩=some (.pointer (some ⟨d,0,none⟩))∧(w5.alloc (.cells #[.slice p5 ml c5] 22)).cell? ⟨l,1,none⟩=some (.string pre) from ⟨zAT hHeld.1 _,zAT hHeld.2 _⟩)
      go_wp2_with fail
      refine hK.out _ _ (Hh2.out) (fun hHeld=>?_)
      clear hK
      try simp only [Act.put,uA,uB,uC]
      refine zAB 8 rfl (by kernel_rfl) (by rfl) (fun K hK=>?_)
      have Hsv:=zh (Hsave.out w5 HL5.out p5 c5 Hv5.out)
      go_wp2_with fail
      refine Hsv.out.mono ?_
      rintro e w7 ⟨rfl,hl7,hs7,hk7⟩
      have Hh3:=zh (HL5.out.lc.same hk7)
      have HL7:=zh hl7
      have Hs7:=zh (show Same F w1 w7 from fun k hk=>(hs7 k hk).trans (Hs5.out k hk))
      clear hl7 hs7 hk7 Hsv
      go_wp2_with fail
      refine hK.out _ _ (⟨Hh3.out.1,Hh3.out.2.1⟩) (fun hHeld=>?_)
      clear hK
      try simp only [Act.put,uA,uB,uC]
      refine otk 9 (v:=?v50x9) rfl ?_
      simp only [Act.put,uA,uB,uC]
      refine wpAnyH_done (by kernel_rfl) ?_ _
      clear HLd Hsd Hwd HBd Hh3 HL5 Hs5
      have Hdi:=zh (zBS HL7.out e1)
      go_wp2_with fail
      refine Hdi.out.mono ?_
      rintro e w10 ⟨rfl,hl10,hs10⟩
      have HL10:=zh hl10
      have Hs10:=zh (show Same F w1 w10 from fun k hk=>(hs10 k hk).trans (Hs7.out k hk))
      clear hl10 hs10 Hdi
      have HE:=zh (show zCV w w1 l d pre F (zAV (nm pre) D M (m:Int) b) (.returned (.int .i64 (e1:Int))) w10 from by
       rw [HR.out]
       refine ⟨rfl,?_,Hs10.out⟩
       have h:=HL10.out
       rwa [show ({ M with dead:=M.dead || decide (e1≠0) }:LedM)=M.die from by rw [Hd.out];unfold LedM.die;simp [He.out]] at h)
      go_wp2_with fail
      go_ret
      exact HE.out
end
theorem nil_append (w:World) (x:Value):Calls Tryz.prog 55 #[.pointer none,x] w fun e w'=>e=.returned (.tuple #[.int .i64 0,.int .i64 1])∧w'=w:=by
 go_enter Tryz.func55,Tryz.ntmps55
 go_wp2_with fail
 go_ret2
 exact ⟨rfl,rfl⟩
section
variable {w w1 w2 wc:World} {l d:Nat} {pre:ByteArray} {D:zAA} {M:LedM} {F:Nat→Prop}
theorem hasN_two (w:World) (s t:ByteArray) (e:TypeId) (fr:Nat × Nat):HasN (w.alloc (.cells #[.string s,.string t] e fr)) (.slice (some ⟨w.heap.size,0,none⟩) 2 2) [nm s,nm t]:=by
 refine ⟨by simp,some ⟨w.heap.size,0,none⟩,2,rfl,fun e=>(by cases e),fun a ha i u hu=>?_⟩
 cases ha
 rw [add_zero]
 refine zAC (zAW w _) ?_
 have:[encStr (nm s),encStr (nm t)]=[Value.string s,Value.string t]:=by rw [zCX,zCX,str_of,str_of]
 rw [List.map_cons,List.map_cons,List.map_nil,this] at hu
 simpa using hu
theorem led_rid2 (h:LedF w w1 l d pre D M F) (s t:ByteArray) (hs:s.size≤9223372036854775807) (ht:t.size≤9223372036854775807) :
  Calls Tryz.prog 137 #[.pointer (some ⟨d,0,none⟩),.slice (some ⟨w1.heap.size,0,none⟩) 2 2] (w1.alloc (.cells #[.string s,.string t] 9)) fun e w'=>e=.returned (.int .i64 ((D.rid [nm s,nm t]).2:Int))∧LedF w w' l d pre (D.rid [nm s,nm t]).1 M F∧Same F w1 w'∧w'.heap[l]?=w1.heap[l]? :=
 led_diskB h fun G hS=>by
  have hb:=zAb w1 (.cells #[.string s,.string t] 9)
  have h1:St w (w1.alloc (.cells #[.string s,.string t] 9)) d D (fun k=>G k∨k=w1.heap.size):=hS.move (Chg.of_below hb) (fun _ _ h=>h.elim) fun k hk=>by
   rcases hk with hk | rfl
   ·exact ⟨.inl hk,Nat.lt_of_lt_of_le (hS.flt hk) hb.size⟩
   ·exact ⟨.inr (Nat.le_refl _),by simp⟩
  refine (zDv h1 (ns:=[nm s,nm t]) (fun W _ hs=>HasN.same (hasN_two w1 s t _ _) fun k hk=>hs k (.inr (by cases hk;rfl))) (fun x hx=>by
   rcases List.mem_cons.1 hx with rfl | hx
   ·rw [zDU];exact hs
   ·have:x=nm t:=by simpa using hx
    rw [this,zDU]
    exact ht) (by simp)).mono ?_
  rintro e w' ⟨rfl,hst,hsa⟩
  exact ⟨rfl,hst.less fun _ hk=>.inl hk,fun k hk=>(hsa k (.inl hk)).trans (hb.block k (hS.flt hk))⟩
theorem ldrop_calls (h:LedF w w1 l d pre D M F) :
  Calls Tryz.prog 60 #[.pointer (some ⟨l,0,none⟩)] w1 (zCV w w1 l d pre F (zA8 (nm pre) D M)):=by
 have hps:=h.psz.2
 obtain ⟨dv,ev,hcl,-⟩:=h.cells
 have k5:=zAC hcl (i:=5) rfl
 have f5:=zAI hcl 5
 have H:=zh h
 clear h hcl
 cases hd:M.dead with
 | true =>
  have HE:=zh (show zCV w w1 l d pre F (zA8 (nm pre) D M) (.returned (.int .i64 9)) w1 from by unfold zA8;rw [if_pos hd];exact ⟨rfl,H.out,fun _ _=>rfl⟩)
  have k5':w1.cell? ⟨l,5,none⟩=some (.bool true):=by rw [← hd];exact k5
  clear k5 hd
  go_enter Tryz.func60,Tryz.ntmps60
  go_wp2_with fail
  go_ret
  exact HE.out
 | false =>
  have k5':w1.cell? ⟨l,5,none⟩=some (.bool false):=by rw [← hd];exact k5
  have HR:=zh (show zA8 (nm pre) D M=⟨(D.rid [logN (nm pre),imgN (nm pre)]).1,M.die,0,(D.rid [logN (nm pre),imgN (nm pre)]).2⟩ from by unfold zA8;rw [if_neg (by simp [hd])])
  clear k5 hd
  have hset:LedF w (w1.setCell ⟨l,5,none⟩ (.bool true)) l d pre D M.die F∧Same F w1 (w1.setCell ⟨l,5,none⟩ (.bool true)):=by
   obtain ⟨own,dv,ev,vs,hL,hS,hn,hl⟩:=H.out
   exact LedF.turned hS hn hl (dies_set hL true) ((Chg.setCell w1 ⟨l,5,none⟩ (.bool true)).mono fun j _ e=>by rw [e];exact hL.ol) fun _ h=>.inl h
  have HL:=zh hset.1
  have Hs:=zh hset.2
  have Hrid:=zh (fun W (h:LedF w W l d pre D M.die F)=>led_rid2 h (sLog pre) (sImg pre) (by rw [zB9];omega) (by rw [zD1];omega))
  rw [zC7,nm_img] at Hrid
  clear hset
  go_enter Tryz.func60,Tryz.ntmps60
  go_wp2_with fail
  generalize w1.setCell ⟨l,5,none⟩ (.bool true)=w2 at *
  have HLd:=zh (HL.out.next (zAH w2))
  have Hsd:=zh (show Same F w1 w2.drew from Hs.out)
  obtain ⟨hc0,hc1,-⟩:=HL.out.lc
  refine zAK (fun w':World=>w'.cell? ⟨l,0,none⟩=some (.pointer (some ⟨d,0,none⟩))∧w'.cell? ⟨l,1,none⟩=some (.string pre)) (n:=11) (by kernel_rfl) rfl (⟨hc0,hc1⟩) (fun hHeld=>?_)
  generalize w2.drew=W1 at *
  refine pl [0,1,2,3,4,6] ?_
  iterate 6 (refine pc rfl ?_;simp only [Act.put,uA,uB,uC])
  refine pn ?_
  refine zAB 5 rfl (by kernel_rfl) (by rfl) (fun K hK=>?_)
  go_wp2_with fail
  refine (zAQ ⟨hHeld.1,hHeld.2,hps⟩).mono ?_
  rintro e w9 ⟨rfl,rfl⟩
  go_wp2_with fail
  refine hK.out _ _ (hHeld) (fun hHeld=>?_)
  clear hK
  try simp only [Act.put,uA,uB,uC]
  refine zAB 7 rfl (by kernel_rfl) (by rfl) (fun K hK=>?_)
  go_wp2_with fail
  refine (zA2 ⟨hHeld.1,hHeld.2,hps⟩).mono ?_
  rintro e w9 ⟨rfl,rfl⟩
  go_wp2_with fail
  refine hK.out _ _ (hHeld) (fun hHeld=>?_)
  clear hK
  try simp only [Act.put,uA,uB,uC]
  refine zAB 8 rfl (by kernel_rfl) (by rfl) (fun K hK=>?_)
  have Hh2:=zh (show (W1.alloc (.cells #[.string (sLog pre),.string (sImg pre)] 9)).cell? ⟨l,0,none⟩=some (.pointer (some ⟨d,0,none⟩))∧(W1.alloc (.cells #[.string (sLog pre),.string (sImg pre)] 9)).cell? ⟨l,1,none⟩=some (.string pre) from ⟨zAT hHeld.1 _,zAT hHeld.2 _⟩)
  go_wp2_with fail
  refine hK.out _ _ (Hh2.out) (fun hHeld=>?_)
  clear hK
  try simp only [Act.put,uA,uB,uC]
  refine zAB 9 rfl (by kernel_rfl) (by rfl) (fun K hK=>?_)
  go_wp2_with fail
  refine (Hrid.out W1 HLd.out).mono ?_
  rintro e w8 ⟨rfl,hl8,hs8,hk8⟩
  have Hh3:=zh (HLd.out.lc.same hk8)
  have HE:=zh (show zCV w w1 l d pre F (zA8 (nm pre) D M) (.returned (.int .i64 ((D.rid [logN (nm pre),imgN (nm pre)]).2:Int))) w8 from by rw [HR.out];exact ⟨rfl,hl8,fun k hk=>(hs8 k hk).trans (Hsd.out k hk)⟩)
  clear hl8 hs8 hk8
  generalize (D.rid [logN (nm pre),imgN (nm pre)]).2=e9 at *
  go_wp2_with fail
  refine hK.out _ _ (⟨Hh3.out.1,Hh3.out.2.1⟩) (fun hHeld=>?_)
  clear hK
  try simp only [Act.put,uA,uB,uC]
  refine otk 10 (v:=?v1x10) rfl ?_
  simp only [Act.put,uA,uB,uC]
  refine wpAnyH_done (by kernel_rfl) ?_ _
  go_wp2_with fail
  go_ret
  exact HE.out
end
section
variable {D:zAA} {n b:Bs}
theorem may_ok (hf:D.fuse≠some 0) (hn:okN n=true):D.may [n]=0:=by
 unfold zAA.may
 rw [if_neg hf,if_pos (by simp [hn])]
theorem append_ok (hf:D.fuse≠some 0) (hn:okN n=true) (hroom:D.used+b.length≤D.room) (hc:D.files.length < 4096) :
  D.append n b=(⟨D.room,put n ⟨(D.cur n).data ++ b,(D.cur n).lasts⟩ D.files,offF D.fuse 1⟩,0):=by
 have hfu:D.full n b=false:=by
  unfold zAA.full
  simp;omega
 unfold zAA.append
 rw [if_neg (by rw [may_ok hf hn];simp),if_neg (by rw [hfu];simp)]
 rfl
theorem sync_ok {f:zAP} (hf:D.fuse≠some 0) (hn:okN n=true) (hg:Sat.get n D.files=some f):D.sync [n]=(⟨D.room,put n ⟨f.data,f.data.length⟩ D.files,offF D.fuse 1⟩,0):=by
 have h1:zAA.each1 zAA.gSync D n=(⟨D.room,put n ⟨f.data,f.data.length⟩ D.files,offF D.fuse 1⟩,0):=by
  unfold zAA.each1
  rw [if_neg (by rw [may_ok hf hn];simp),hg]
  rfl
 show (if (zAA.each1 _ _ _).2=0 then _ else _)=_
 rw [h1,if_pos rfl]
 rfl
theorem remove_ok {f:zAP} (hf:D.fuse≠some 0) (hn:okN n=true) (hg:Sat.get n D.files=some f):D.remove [n]=(⟨D.room,del n D.files,offF D.fuse 1⟩,0):=by
 have h1:zAA.each1 zAA.gRemove D n=(⟨D.room,del n D.files,offF D.fuse 1⟩,0):=by
  unfold zAA.each1
  rw [if_neg (by rw [may_ok hf hn];simp),hg]
  rfl
 show (if (zAA.each1 _ _ _).2=0 then _ else _)=_
 rw [h1,if_pos rfl]
 rfl
theorem truncate_ok {f:zAP} {k:Nat} (hf:D.fuse≠some 0) (hn:okN n=true) (hg:Sat.get n D.files=some f) (hk:k≤f.data.length) :
  D.truncate n (k:Int)=(⟨D.room,put n ⟨f.data.take k,min f.lasts k⟩ D.files,offF D.fuse 1⟩,0):=by
 unfold zAA.truncate
 rw [if_neg (by rw [may_ok hf hn];simp),hg]
 show (if _ then _ else _)=_
 rw [if_neg (by omega)]
 rfl
end
def pA:Bs:=[97]
def logA:Bs:=[97,45,108,111,103]
def imgA:Bs:=[97,45,105,109,103]
def shA:Bs:=[97,45,105,109,103,126]
theorem logA_eq:logN pA=logA:=rfl
theorem imgA_eq:imgN pA=imgA:=rfl
theorem shA_eq:zAD (imgN pA)=shA:=rfl
def whole (b:Bs):zAP:=⟨b,b.length⟩
def recF:Nat→List Bs→List Bs
 | _,[]=>[]
 | n,e :: r=>imgB (n+1) e :: recF (n+1) r
theorem recF_nil {n:Nat} {es:List Bs}:recF n es=[] ↔ es=[]:=by
 cases es with
 | nil=>exact ⟨fun _=>rfl,fun _=>rfl⟩
 | cons e r=>exact ⟨(fun h=>by cases h),(fun h=>by cases h)⟩
theorem recF_app:∀ (n:Nat) (es fs:List Bs),recF n (es ++ fs)=recF n es ++ recF (n+es.length) fs
 | _,[],_=>rfl
 | n,e :: r,fs=>by
  show imgB (n+1) e :: recF (n+1) (r ++ fs)=_
  rw [recF_app (n+1) r fs]
  show _=imgB (n+1) e :: (recF (n+1) r ++ recF (n+(r.length+1)) fs)
  rw [show n+1+r.length=n+(r.length+1) by omega]
theorem recF_one (n:Nat) (p:Bs):recF n [p]=[imgB (n+1) p]:=rfl
theorem zCo (n:Nat) (p:Bs) (hn:n≤4611686018427387904) (hp:p.length≤4611686018427387904):(imgB n p).length≤p.length+18:=by
 unfold imgB rowB
 have h1:=zAu hn
 have h2:=zAu hp
 rw [List.length_append,List.length_append]
 omega
theorem rd_img (n:Nat) (p:Bs) (hn:n≤4611686018427387904):Rd.num ⟨imgB n p,false⟩=(n,⟨rowB p,false⟩):=Rd.num_of hn _ _
theorem rd_row (p:Bs) (hp:p.length≤4611686018427387904):Rd.bytes ⟨rowB p,false⟩=(p,⟨[],false⟩):=by
 have:=Rd.bytes_of hp [] false
 rwa [List.append_nil] at this
def Fits (n:Nat) (es:List Bs):Prop:=n+es.length≤1099511627776∧∀ e ∈ es,e.length≤65536
theorem take1_next {base:Nat} {la:Int} {es:List Bs} {p:Bs} (hla:la=-1∨la=((base+es.length:Nat):Int)) (hn:base+es.length+1≤1099511627776) (hp:p.length≤65536) :
  zB1 base (la,es) (imgB (base+es.length+1) p)=some (((base+es.length+1:Nat):Int),es ++ [p]):=by
 unfold zB1
 rw [rd_img _ _ (by omega)]
 dsimp only
 rw [rd_row _ (by omega)]
 rw [if_neg (by
  rintro (h | h | h | ⟨h1,h2⟩)
  ·cases h
  ·omega
  ·omega
  ·rcases hla with e | e <;> omega),if_neg (by omega),if_neg (by simp)]
theorem takeAll_new (base:Nat):∀ (fs es:List Bs) (la:Int),(la=-1∨la=((base+es.length:Nat):Int))→Fits (base+es.length) fs →
  ∃ lb,zAh base (la,es) (recF (base+es.length) fs)=some (lb,es ++ fs)
 | [],es,la,_,_=>⟨la,by rw [List.append_nil];rfl⟩
 | f :: fs,es,la,hla,hf=>by
  have h1:=take1_next (p:=f) hla (by have:=hf.1;simp at this;omega) (hf.2 f (by simp))
  obtain ⟨lb,h2⟩:=takeAll_new base fs (es ++ [f]) ((base+es.length+1:Nat):Int) (.inr (by rw [List.length_append];rfl)) ⟨by have:=hf.1;simp at this ⊢;omega,fun e he=>hf.2 e (by simp [he])⟩
  refine ⟨lb,?_⟩
  show (match zB1 base (la,es) (imgB (base+es.length+1) f) with | none=>none | some t=>zAh base t (recF (base+es.length+1) fs))=_
  rw [h1]
  rw [List.length_append,List.append_assoc] at h2
  exact h2
/-! ### The disk -/
def imgs:Option (Nat × Bs)→List (Bs × zAP)
 | none=>[]
 | some (n,b)=>[(imgA,whole (zAG (imgB n b)))]
def logs (b:Bs):List (Bs × zAP):=if b=[] then [] else [(logA,whole b)]
def zBD:Option (Nat × Bs)→Nat
 | none=>0
 | some (n,_)=>n
def dataI:Option (Nat × Bs)→Bs
 | none=>[]
 | some (_,b)=>b
def fD (im:Option (Nat × Bs)) (b:Bs) (f:Option Nat):zAA:=⟨65536,imgs im ++ logs b,f⟩
def sD (im:Option (Nat × Bs)) (es:List Bs) (f:Option Nat):zAA:=fD im (zAs (recF (zBD im) es)) f
theorem recsB_nil {ls:List Bs}:zAs ls=[] ↔ ls=[]:=by
 cases ls with
 | nil=>exact ⟨fun _=>rfl,fun _=>rfl⟩
 | cons l r =>
  refine ⟨fun h=>?_,fun h=>by cases h⟩
  rw [recsB_cons] at h
  have:=congrArg List.length h
  rw [List.length_append,zAo] at this
  simp at this
theorem get_log (im:Option (Nat × Bs)) (b:Bs):Sat.get logA (imgs im ++ logs b)=if b=[] then none else some (whole b):=by
 unfold logs
 by_cases h:b=[]
 ·rw [if_pos h,if_pos h]
  cases im with
  | none=>rfl
  | some x=>rfl
 ·rw [if_neg h,if_neg h]
  cases im with
  | none=>rfl
  | some x=>rfl
theorem get_img (im:Option (Nat × Bs)) (b:Bs):Sat.get imgA (imgs im ++ logs b)=im.map fun x=>whole (zAG (imgB x.1 x.2)):=by
 unfold logs
 cases im with
 | none=>split <;> rfl
 | some x=>split <;> rfl
theorem get_sh (im:Option (Nat × Bs)) (b:Bs):Sat.get shA (imgs im ++ logs b)=none:=by
 unfold logs
 cases im with
 | none=>split <;> rfl
 | some x=>split <;> rfl
theorem srt_files (im:Option (Nat × Bs)) (b:Bs):Srt (imgs im ++ logs b):=by
 unfold logs
 cases im with
 | none=>split <;> (show List.Pairwise _ _;simp [imgs])
 | some x =>
  split
  ·show List.Pairwise _ _
   simp [imgs]
  ·show List.Pairwise _ _
   simp [imgs]
   decide
theorem put_raw (im:Option (Nat × Bs)) (b:Bs) (f:zAP):put logA f (imgs im ++ logs b)=imgs im ++ [(logA,f)]:=by
 unfold logs
 cases im with
 | none=>split <;> rfl
 | some x=>split <;> rfl
theorem put_raw2 (im:Option (Nat × Bs)) (f g:zAP):put logA f (imgs im ++ [(logA,g)])=imgs im ++ [(logA,f)]:=by
 cases im with
 | none=>rfl
 | some x=>rfl
theorem del_log (im:Option (Nat × Bs)) (b:Bs):del logA (imgs im ++ logs b)=imgs im ++ logs []:=by
 unfold logs
 cases im with
 | none=>split <;> rfl
 | some x=>split <;> rfl
theorem put_img (im:Option (Nat × Bs)) (b:Bs) (n:Nat) (p:Bs):put imgA (whole (zAG (imgB n p))) (imgs im ++ logs b)=imgs (some (n,p)) ++ logs b:=by
 unfold logs
 cases im with
 | none=>split <;> rfl
 | some x=>split <;> rfl
def szI:Option (Nat × Bs)→Nat
 | none=>0
 | some (n,b)=>(zAG (imgB n b)).length
theorem used_f (im:Option (Nat × Bs)) (b:Bs) (f:Option Nat):(fD im b f).used=szI im+b.length:=by
 unfold fD zAA.used logs
 cases im with
 | none=>split <;> simp_all [imgs,zBB,szI,zAA.size,whole]
 | some x=>split <;> simp_all [imgs,zBB,szI,zAA.size,whole]
theorem count_f (im:Option (Nat × Bs)) (b:Bs):(imgs im ++ logs b).length≤2:=by
 unfold logs
 cases im with
 | none=>split <;> simp [imgs]
 | some x=>split <;> simp [imgs]
theorem cur_log (im:Option (Nat × Bs)) (b:Bs) (f:Option Nat):(fD im b f).cur logA=whole b:=by
 unfold zAA.cur
 show (Sat.get logA (imgs im ++ logs b)).getD _=_
 rw [get_log]
 by_cases h:b=[]
 ·rw [if_pos h,h]
  rfl
 ·rw [if_neg h]
  rfl
/-! ### What it opens as -/
theorem image_none:zAg none=(0,0,[]):=by
 unfold zAg
 rw [if_pos zDK]
theorem image_some (n:Nat) (p:Bs) (hn:n≤1099511627776) (hp:p.length≤524288):zAg (some (whole (zAG (imgB n p))))=(0,n,p):=by
 have hl:=zCo n p (by omega) (by omega)
 have h:=load_frame (imgB n p) (by omega) (zAG (imgB n p)).length
 unfold zAg whole
 rw [h.1,h.2,if_neg (by decide),if_neg (by decide),rd_img _ _ (by omega)]
 dsimp only
 rw [rd_row _ (by omega),if_neg (by
  rintro (h | h)
  ·cases h
  ·omega)]
def OkI:Option (Nat × Bs)→Prop
 | none=>True
 | some (n,p)=>n≤1099511627776∧p.length≤524288
theorem image_f {im:Option (Nat × Bs)} (h:OkI im) (b:Bs):zAg (Sat.get imgA (imgs im ++ logs b))=(0,zBD im,dataI im):=by
 rw [get_img]
 cases im with
 | none=>exact image_none
 | some x=>exact image_some x.1 x.2 h.1 h.2
theorem rid_none {D:zAA} {n:Bs} (h:Sat.get n D.files=none):D.rid [n]=(D,0):=by
 have:zAA.rid1 D n=(D,0):=by unfold zAA.rid1;rw [h];rfl
 show (if (zAA.rid1 D n).2=0 then _ else _)=_
 rw [this]
 rfl
theorem rid_some {D:zAA} {n:Bs} {f:zAP} (hf:D.fuse≠some 0) (hn:okN n=true) (h:Sat.get n D.files=some f):D.rid [n]=(⟨D.room,del n D.files,offF D.fuse 1⟩,0):=by
 have:zAA.rid1 D n=(⟨D.room,del n D.files,offF D.fuse 1⟩,0):=by unfold zAA.rid1;rw [h];exact remove_ok hf hn h
 show (if (zAA.rid1 D n).2=0 then _ else _)=_
 rw [this]
 rfl
theorem open_parts {D D1:zAA} {i:Nat × Nat × Bs} {g:zAA × Nat × List Bs} (h1:D.rid [shA]=(D1,0)) (hi:zAg (Sat.get imgA D1.files)=i) (hi0:i.1=0) (hg:zBc D1 pA i.2.1=g):zAa D pA=(g.1,g.2.1,⟨i.2.1,i.2.2,g.2.2,false⟩):=by
 unfold zAa
 rw [if_neg (by decide),shA_eq,imgA_eq,h1]
 rw [if_neg (by simp)]
 dsimp only
 rw [hi,if_neg (by simpa using hi0),hg]
theorem frm (im:Option (Nat × Bs)) (b:Bs):(fD im b none).files=imgs im ++ logs b:=rfl
theorem torn_gen {im:Option (Nat × Bs)} {b:Bs} {k:Nat} (hb:b≠[]) (hk:k≤b.length):zAc (fD im b none) logA k b.length=(⟨65536,imgs im ++ [(logA,whole (b.take k))],none⟩,0):=by
 have hg:Sat.get logA (fD im b none).files=some (whole b):=by rw [frm,get_log,if_neg hb]
 unfold zAc
 by_cases hc:k < b.length
 ·rw [if_pos hc]
  have h1:=truncate_ok (D:=fD im b none) (n:=logA) (k:=k) (by intro e;cases e) (by decide) hg hk
  have e1:(⟨(whole b).data.take k,min (whole b).lasts k⟩:zAP)=whole (b.take k):=by
   show (⟨b.take k,min b.length k⟩:zAP)=⟨b.take k,(b.take k).length⟩
   rw [List.length_take,Nat.min_comm]
  rw [e1,frm,put_raw] at h1
  rw [h1,if_neg (by simp)]
  have h2:=sync_ok (D:=⟨(fD im b none).room,imgs im ++ [(logA,whole (b.take k))],offF (fD im b none).fuse 1⟩) (n:=logA) (f:=whole (b.take k)) (by intro e;cases e) (by decide) (by cases im <;> rfl)
  rw [h2]
  show ((⟨_,put logA (whole (b.take k)) _,_⟩:zAA),0)=_
  rw [put_raw2]
  rfl
 ·rw [if_neg hc]
  have:b.take k=b:=List.take_of_length_le (by omega)
  rw [this]
  unfold fD logs
  rw [if_neg hb]
theorem del_raw (im:Option (Nat × Bs)) (f:zAP):del logA (imgs im ++ [(logA,f)])=imgs im:=by
 cases im <;> rfl
theorem log_gen {im:Option (Nat × Bs)} {b:Bs} {base k:Nat} {rs es:List Bs} {la:Int} (hb:b≠[]) (hs:scan b=(rs,k)) (hk:k≤b.length) (ht:zAh base (-1,[]) rs=some (la,es)) :
  zBc (fD im b none) pA base=(⟨65536,imgs im ++ (if es=[] then [] else [(logA,whole (b.take k))]),none⟩,0,es):=by
 have hT:=torn_gen (im:=im) hb hk
 unfold zBc
 rw [logA_eq,frm,get_log,if_neg hb]
 show (match zAh base (-1,[]) (scan b).1 with | none=>_ | some s=>_)=_
 rw [hs,ht]
 dsimp only
 rw [show (whole b).data=b from rfl,hs,hT,if_neg (by simp)]
 by_cases he:es=[]
 ·rw [if_pos he,if_pos he]
  have h2:=remove_ok (D:=⟨65536,imgs im ++ [(logA,whole (b.take k))],none⟩) (n:=logA) (f:=whole (b.take k)) (by intro e;cases e) (by decide) (by cases im <;> rfl)
  rw [h2,List.append_nil]
  show ((⟨_,del logA (imgs im ++ [(logA,whole (b.take k))]),_⟩:zAA),_)=_
  rw [del_raw]
  rfl
 ·rw [if_neg he,if_neg he]
theorem Fits.rows {n:Nat} {es:List Bs} (h:Fits n es):∀ l ∈ recF n es,l.length≤1048576:=by
 induction es generalizing n with
 | nil=>intro l hl;cases hl
 | cons e r ih =>
  intro l hl
  have h1:=h.1
  simp only [List.length_cons] at h1
  cases hl with
  | head =>
   have h2:=h.2 e (by simp)
   have:=zCo (n+1) e (by omega) (by omega)
   omega
  | tail _ hl=>exact ih ⟨by omega,fun e he=>h.2 e (by simp [he])⟩ l hl
theorem open_new {im:Option (Nat × Bs)} (hi:OkI im) {es:List Bs} (hf:Fits (zBD im) es) {t:Bs} (ht:t=[]∨decE t≠0) :
  zAa (fD im (zAs (recF (zBD im) es) ++ t) none) pA=(sD im es none,0,⟨zBD im,dataI im,es,false⟩):=by
 refine open_parts (i:=(0,zBD im,dataI im)) (g:=(sD im es none,0,es)) (rid_none (get_sh _ _)) (image_f hi _) rfl ?_
 by_cases hb:zAs (recF (zBD im) es) ++ t=[]
 ·have h1:=List.append_eq_nil_iff.mp hb
  have h2:es=[]:=recF_nil.mp (recsB_nil.mp h1.1)
  subst h2
  rw [hb]
  unfold zBc
  rw [logA_eq,frm,get_log,if_pos rfl]
  rfl
 ·obtain ⟨lb,hl⟩:=takeAll_new (zBD im) es [] (-1) (.inl rfl) (by simpa using hf)
  have hs:=scan_recs _ t hf.rows ht
  refine (log_gen hb hs (by rw [List.length_append];omega) (by simpa using hl)).trans ?_
  rw [List.take_left]
  unfold sD fD logs
  by_cases he:es=[]
  ·subst he
   rw [if_pos rfl,if_pos (by rfl)]
  ·rw [if_neg he,if_neg (fun e=>he (recF_nil.mp (recsB_nil.mp e)))]
def MM (im:Option (Nat × Bs)) (es:List Bs):LedM:=⟨zBD im,dataI im,es,false⟩
theorem MM_last (im:Option (Nat × Bs)) (es:List Bs):(MM im es).last=zBD im+es.length:=rfl
theorem recs_app (n:Nat) (es:List Bs) (p:Bs):zAs (recF n (es ++ [p]))=zAs (recF n es) ++ zAG (imgB (n+es.length+1) p):=by
 rw [recF_app,recsB_app,recF_one,recsB_one]
theorem frame_ne (l:Bs):zAG l≠[]:=fun e=>by
 have:=zAo l
 rw [e] at this
 simp at this
theorem recs_ne (n:Nat) (es:List Bs) (p:Bs):zAs (recF n (es ++ [p]))≠[]:=by
 rw [recs_app]
 simp [frame_ne]
theorem open_fresh:zAa (zAA.fresh 65536) pA=(sD none [] none,0,MM none []):=by
 have h:=open_new (im:=none) trivial (es:=[]) (t:=[]) ⟨by decide,fun e he=>by cases he⟩ (.inl rfl)
 exact h
/-! ### A crash -/
/-! ### With a shadow beside -/
/-! ### Append -/
section
variable {im:Option (Nat × Bs)} {es:List Bs} {p:Bs}
theorem app_first (hi:OkI im) (hf:Fits (zBD im) (es ++ [p])):¬ (65536 < p.length∨1099511627776≤(MM im es).last):=by
 have h1:=hf.1
 have h2:=hf.2 p (by simp)
 rw [List.length_append] at h1
 rw [MM_last]
 simp only [List.length_cons,List.length_nil] at h1
 omega
theorem lay_one {f:Option Nat} (hz:f≠some 0) (hroom:szI im+(zAs (recF (zBD im) (es ++ [p]))).length≤65536) :
  (sD im es f).append logA (zAG (imgB (zBD im+es.length+1) p))=(⟨65536,imgs im ++ [(logA,⟨zAs (recF (zBD im) (es ++ [p])),(zAs (recF (zBD im) es)).length⟩)],offF f 1⟩,0):=by
 have h1:=append_ok (D:=sD im es f) (n:=logA) (b:=zAG (imgB (zBD im+es.length+1) p)) hz (by decide) (by
  rw [recs_app,List.length_append] at hroom
  unfold sD
  rw [used_f]
  show _≤65536
  omega) (Nat.lt_of_le_of_lt (count_f im _) (by decide))
 rw [h1]
 unfold sD
 rw [cur_log]
 show ((⟨_,put logA _ (imgs im ++ logs _),_⟩:zAA),0)=_
 rw [put_raw,recs_app]
 rfl
theorem lay_ok {f:Option Nat} (hz:∀ j,f=some j→2≤j) (hroom:szI im+(zAs (recF (zBD im) (es ++ [p]))).length≤65536) :
  zCq (sD im es f) logA (zAG (imgB (zBD im+es.length+1) p))=(sD im (es ++ [p]) (offF f 2),0):=by
 have h0:f≠some 0:=fun e=>by have:=hz 0 e;omega
 unfold zCq
 rw [lay_one h0 hroom,if_neg (by simp)]
 have h2:=sync_ok (D:=⟨65536,imgs im ++ [(logA,⟨zAs (recF (zBD im) (es ++ [p])),(zAs (recF (zBD im) es)).length⟩)],offF f 1⟩) (n:=logA) (f:=⟨zAs (recF (zBD im) (es ++ [p])),(zAs (recF (zBD im) es)).length⟩) (off_ne fun j e=>by have:=hz j e;omega) (by decide) (by cases im <;> rfl)
 refine h2.trans ?_
 show ((⟨_,put logA _ (imgs im ++ [(logA,_)]),offF (offF f 1) 1⟩:zAA),0)=_
 rw [put_raw2,off_off]
 unfold sD fD logs
 rw [if_neg (recs_ne _ _ _)]
 rfl
theorem app_step {f:Option Nat} (hi:OkI im) (hz:∀ j,f=some j→2≤j) (hf:Fits (zBD im) (es ++ [p])) (hroom:szI im+(zAs (recF (zBD im) (es ++ [p]))).length≤65536) :
  zAL pA (sD im es f) (MM im es) p=⟨sD im (es ++ [p]) (offF f 2),MM im (es ++ [p]),zBD im+es.length+1,0⟩:=by
 unfold zAL
 rw [if_neg (by simp [MM]),if_neg (app_first hi hf),MM_last,logA_eq,lay_ok hz hroom,if_neg (by simp)]
 rfl
end
theorem ok_f {im:Option (Nat × Bs)} {b:Bs} {f:Option Nat} (h:szI im+b.length≤65536) (hf:∀ k,f=some k→k≤9223372036854775807):(fD im b f).OK:=by
 have hn:∀ p ∈ imgs im ++ logs b,okN p.1=true∧p.2.lasts≤p.2.data.length:=by
  intro p hp
  unfold logs at hp
  cases im with
  | none =>
   split at hp
   ·cases hp
   ·simp [imgs] at hp
    subst hp
    exact ⟨rfl,Nat.le_refl _⟩
  | some x =>
   split at hp
   ·simp [imgs] at hp
    subst hp
    exact ⟨rfl,Nat.le_refl _⟩
   ·simp [imgs] at hp
    rcases hp with hp | hp <;> subst hp <;> exact ⟨rfl,Nat.le_refl _⟩
 exact ⟨srt_files im b,show 65536≤1073741824 by decide,by rw [used_f];exact h,Nat.le_trans (count_f im b) (by decide),fun p hp=>(hn p hp).1,fun p hp=>(hn p hp).2,hf⟩
section
variable {im:Option (Nat × Bs)} {b p:Bs} {f:Option Nat} {n:Nat}
theorem save_f (h:szI im+b.length+(imgB n p).length+12≤65536) (hf:∀ j,f=some j→3≤j∧j≤9223372036854775807):(fD im b f).save imgA (imgB n p)=(fD (some (n,p)) b (offF f 3),0):=by
 refine (save_all (n:=imgA) (ok_f (by omega) fun k e=>(hf k e).2) (fun j e=>(hf j e).1) (by decide) (by decide) (get_sh im b) (by rw [used_f];exact h) (Nat.lt_of_le_of_lt (count_f im b) (by decide))).trans ?_
 show ((⟨_,put imgA (whole (zAG (imgB n p))) (imgs im ++ logs b),_⟩:zAA),0)=_
 rw [put_img]
 rfl
theorem rid_log (hf:b=[]∨f≠some 0):(fD im b f).rid [logA]=(fD im [] (if b=[] then f else offF f 1),0):=by
 by_cases hb:b=[]
 ·subst hb
  rw [if_pos rfl]
  exact rid_none (by show Sat.get logA (imgs im ++ logs [])=none;rw [get_log,if_pos rfl])
 ·rw [if_neg hb]
  refine (rid_some (f:=whole b) (hf.resolve_left hb) (by decide) (by show Sat.get logA (imgs im ++ logs b)=_;rw [get_log,if_neg hb])).trans ?_
  show ((⟨_,del logA (imgs im ++ logs b),_⟩:zAA),0)=_
  rw [del_log]
  rfl
theorem img_ok (h:szI im+b.length+(imgB n p).length+12≤65536) (hf:∀ j,f=some j→4≤j∧j≤9223372036854775807):∃ f',zCa pA (fD im b f) n p=(fD (some (n,p)) [] f',0)∧(f=none→f'=none):=by
 refine ⟨if b=[] then offF f 3 else offF (offF f 3) 1,?_,fun e=>by subst e;split <;> rfl⟩
 unfold zCa
 rw [imgA_eq,save_f h fun j e=>⟨by have:=(hf j e).1;omega,(hf j e).2⟩,if_neg (by simp),logA_eq]
 exact rid_log (.inr (off_ne fun j e=>by have:=(hf j e).1;omega))
end
section
variable {im:Option (Nat × Bs)} {es:List Bs} {p:Bs} {f:Option Nat} {n:Nat}
theorem wri_ok_s (hl:zBD im+es.length≤n) (hn:n≤1099511627776) (hp:p.length≤524288) (h:szI im+(zAs (recF (zBD im) es)).length+(imgB n p).length+12≤65536) :
  zAV pA (sD im es none) (MM im es) (n:Int) p=⟨sD (some (n,p)) [] none,MM (some (n,p)) [],0,0⟩:=by
 obtain ⟨f',h1,h2⟩:=img_ok (f:=none) h fun j e=>by cases e
 rw [h2 rfl] at h1
 unfold zAV
 rw [if_neg (by simp [MM]),if_neg (by rw [MM_last];omega),if_neg (by omega),Int.toNat_natCast]
 unfold sD
 rw [h1,if_neg (by simp)]
 rfl
end
/-! ### How many bytes they take -/
theorem recs_len:∀ {n:Nat} {es:List Bs},Fits n es→(zAs (recF n es)).length≤es.flatten.length+30 * es.length
 | _,[],_=>Nat.le_refl _
 | n,e :: r,h=>by
  have h1:=h.1
  simp only [List.length_cons] at h1
  have h2:=h.2 e (by simp)
  have h3:=zCo (n+1) e (by omega) (by omega)
  have h4:=recs_len (n:=n+1) (es:=r) ⟨by omega,fun e he=>h.2 e (by simp [he])⟩
  show (zAG (imgB (n+1) e) ++ zAs (recF (n+1) r)).length≤_
  rw [List.length_append,zAo,List.flatten_cons,List.length_append,List.length_cons]
  omega
theorem szI_some {n:Nat} {p:Bs} (hn:n≤4611686018427387904) (hp:p.length≤4611686018427387904):szI (some (n,p))≤p.length+30:=by
 have:=zCo n p hn hp
 show (zAG (imgB n p)).length≤_
 rw [zAo]
 omega
end Go.Proofs.YtapfnehdgailmaaGreat
