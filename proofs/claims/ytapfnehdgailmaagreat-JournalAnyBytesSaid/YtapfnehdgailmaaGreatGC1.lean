/- JournalAnyBytes: the walk. (Printed by mkro10.py.) -/
import Derived.Test.YtapfnehdgailmaaGreatGA1
import Derived.Test.YtapfnehdgailmaaGreatGB1
import Derived.Test.YtapfnehdgailmaaGreatGM
import Derived.Test.YtapfnehdgailmaaGreatGR
import Derived.Test.YtapfnehdgailmaaGreatGS
import Derived.Test.YtapfnehdgailmaaGreatGZ
set_option maxRecDepth 100000
set_option maxHeartbeats 64000000
namespace Go.Proofs.YtapfnehdgailmaaGreat
open Go.RowKit Go.Sat Go.Maps
section
variable {w w1:World} {d r:Nat} {D:zAB}
theorem ja_append {R:zAB} (h:Pair w w1 d D r R) (s:ByteArray) {p:Option Addr} {n c:Nat} {b:Bs} (hx:HasB w (.slice p n c) b) (hl:b.length≤140737488355328) (hs:s.size≤9223372036854775807) :
  Calls Tryz.prog 15 #[.pointer (some ⟨d,0,none⟩),.string s,.slice (some ⟨w1.heap.size,0,none⟩) 1 1] (w1.alloc (.cells #[.slice p n c] 22)) fun e w'=>e=.returned (.int .i64 ((D.append (nm s) b).2:Int))∧Pair w w' d (D.append (nm s) b).1 r R:=by
 have h2:=h.alloc (.cells #[.slice p n c] 22)
 have hr:=zBy (w:=w1) (HasB.below hx h.bel) 22 (0,0) w1.heap.size 1 rfl (Nat.le_refl _)
 have:=pair_disk (Re:=D.append (nm s) [b].flatten) h2 fun own hS=>zEy hS s _ [b] hr (by simp) (by simpa using hl) hs
 simpa using this
theorem ja_rappend {R:zAB} (h:Pair w w1 d D r R) (s:ByteArray) {p:Option Addr} {n c:Nat} {b:Bs} (hx:HasB w (.slice p n c) b) (hl:b.length≤140737488355328) (hs:s.size≤9223372036854775807) :
  Calls Tryz.prog 16 #[.pointer (some ⟨r,0,none⟩),.string s,.slice p n c] w1 fun e w'=>e=.returned (.int .i64 ((R.append (nm s) b).2:Int))∧Pair w w' d D r (R.append (nm s) b).1:=by
 have hb:=h.bel
 refine pair_ref (Re:=R.append (nm s) b) h fun own v L hR ho=>zDV hR s hs (HasB.below hx hb) hl fun hne k hk hok=>?_
 have h1:=HasB.lt hx hne hk
 have h2:=ho k hok
 omega
theorem anybytes_walk {w:World} {p0:Option Addr} {n0 c0:Nat} {b0:Bs} (hx0:HasB w (.slice p0 n0 c0) b0) (hl0:b0.length≤140737488355328) {p1:Option Addr} {n1 c1:Nat} {b1:Bs} (hx1:HasB w (.slice p1 n1 c1) b1) (hl1:b1.length≤140737488355328) (has:Int) (hh1:-9223372036854775808≤has) (hh2:has≤9223372036854775807) :
  Calls Tryz.prog 3 #[.slice p0 n0 c0,.slice p1 n1 c1,.int .i64 has] w (True3 w):=by
 have hn0:b0.length=n0:=by obtain ⟨_,_,e⟩:=hx0.slice;simp only [Value.slice.injEq] at e;exact e.2.1.symm
 have hn1:b1.length=n1:=by obtain ⟨_,_,e⟩:=hx1.slice;simp only [Value.slice.injEq] at e;exact e.2.1.symm
 have hw:IntKind.i64.wrap ((n0:Int)+(n1:Int))=(n0:Int)+(n1:Int):=IntWalk.i64_in _ (by omega)
 by_cases hbig:6000 < n0+n1
 ·have hd:decide ((6000:Int) < (n0:Int)+(n1:Int))=true:=decide_eq_true (by omega)
  have hdn:decide (6000 < n0+n1)=true:=decide_eq_true hbig
  have HE:=zh (show True3 w (.returned (.bool true)) w from ⟨rfl,Below.refl _ _⟩)
  clear hx0 hx1 hl0 hl1 hn0 hn1 hbig
  go_enter Tryz.func3,Tryz.ntmps3
  go_wp2_with fail
  go_ret
  exact HE.out
 ·have hd:decide ((6000:Int) < (n0:Int)+(n1:Int))=false:=decide_eq_false (by omega)
  have hdn:decide (6000 < n0+n1)=false:=decide_eq_false hbig
  have Hx0:=zh hx0
  have Hx1:=zh hx1
  have Hl0:=zh hl0
  have Hl1:=zh hl1
  have Hlen:=zh (show b0.length+b1.length≤6000 by omega)
  have Hnew:=zh (st_new (w:=w) (w1:=w) 1048576 (by decide) (by decide) (Below.refl _ _))
  rw [show (1048576:Int).toNat=1048576 from rfl] at Hnew
  clear hx0 hx1 hl0 hl1 hn0 hn1 hbig
  go_enter Tryz.func3,Tryz.ntmps3
  go_wp2_with fail
  refine Hnew.out.mono ?_
  rintro e w1 ⟨d,rfl,hst⟩
  have Hrn:=zh (pair_new hst 1048576 (by decide) (by decide))
  rw [show (1048576:Int).toNat=1048576 from rfl] at Hrn
  clear hst Hnew
  go_wp2_with fail
  refine Hrn.out.mono ?_
  rintro e w2 ⟨r,rfl,hp⟩
  have HP:=zh (show Pair w w2 d (zAB.fresh 1048576) r (zAB.fresh 1048576) from hp)
  clear hp Hrn
  cases ha1:(bits .and .i64 has 1 == 1) with
  | true =>
   clear hd hdn hw
   have HA1:=zh (ja_append HP.out (⟨#[97,45,108,111,103]⟩:ByteArray) (Hx0.out) Hl0.out (by decide))
   go_wp2_with fail
   refine HA1.out.mono ?_
   rintro e waA ⟨rfl,hp⟩
   have HA2:=zh (ja_rappend hp (⟨#[97,45,108,111,103]⟩:ByteArray) (Hx0.out) Hl0.out (by decide))
   clear hp HA1 HP
   go_wp2_with fail
   refine HA2.out.mono ?_
   rintro e wbA ⟨rfl,hp⟩
   have HP:=zh (show Pair w wbA d (zAB.append (zAB.fresh 1048576) (logN [97]) b0).1 r (zAB.append (zAB.fresh 1048576) (logN [97]) b0).1 from hp)
   clear hp HA2
   have HOk1:=zh HP.out.okD
   cases ha2:(bits .and .i64 has 2 == 2) with
   | true =>
    have HA1:=zh (ja_append HP.out (⟨#[97,45,115,110,97,112]⟩:ByteArray) (Hx1.out) Hl1.out (by decide))
    go_wp2_with fail
    refine HA1.out.mono ?_
    rintro e waB ⟨rfl,hp⟩
    have HA2:=zh (ja_rappend hp (⟨#[97,45,115,110,97,112]⟩:ByteArray) (Hx1.out) Hl1.out (by decide))
    clear hp HA1 HP
    go_wp2_with fail
    refine HA2.out.mono ?_
    rintro e wbB ⟨rfl,hp⟩
    have HP:=zh (show Pair w wbB d (zAB.append (zAB.append (zAB.fresh 1048576) (logN [97]) b0).1 (snpN [97]) b1).1 r (zAB.append (zAB.append (zAB.fresh 1048576) (logN [97]) b0).1 (snpN [97]) b1).1 from hp)
    clear hp HA2
    have HD0:=zh (show ((zAB.append (zAB.append (zAB.fresh 1048576) (logN [97]) b0).1 (snpN [97]) b1).1).room≤1048576∧((zAB.append (zAB.append (zAB.fresh 1048576) (logN [97]) b0).1 (snpN [97]) b1).1).used≤6000 from ⟨by rw [zDJ,zDJ];exact Nat.le_refl _,by have h1:=zDK (zDU 1048576 (by decide)) (logN [97]) b0;have h2:=zDK HOk1.out (snpN [97]) b1;have h3:=Hlen.out;have h4:(zAB.fresh 1048576).used=0:=rfl;omega⟩)
    generalize (zAB.append (zAB.append (zAB.fresh 1048576) (logN [97]) b0).1 (snpN [97]) b1).1=DX at *
    generalize hWX:wbB=wX at *
    clear hWX
    obtain ⟨own,v,L,hS,hR,hn⟩:=HP.out
    have HSX:=zh hS
    have HRX:=zh hR
    have HNX:=zh hn
    have Hop:=zh (zCo (hS.next (zAD wX LitO)) HD0.out.1 sA (zCI wX) (by simp))
    have hok:=hS.ok
    have Hsd:=zh (fun O:OpensJ DX (nm sA) g012=>Nat.le_trans (zCp hok.srt HD0.out.2 O) (by decide:6000≤524288))
    have Hro0:=zh (fun W (hW:zAY W r v L own DX)=>zCr (hW.below (zAD W LitO)) HD0.out.1 sA (zCI W) (by simp) Hsd.out)
    clear hS hR hn hok HP Hsd
    generalize zAS DX (nm sA) g012=R at *
    go_wp2_with fail
    refine Hop.out.mono ?_
    rintro e w2 ⟨hst,hs,hcase⟩
    have HR2:=zh ((HRX.out.below (zAD wX LitO)).same hst hs)
    have Hro:=zh (Hro0.out w2 HR2.out)
    clear Hop Hro0 hs
    rcases hcase with ⟨hz,j,rfl,hj⟩ | ⟨hz,rfl⟩
    ·have HJ2:=zh hj
     have Hz:=zh hz
     clear hj hst hz
     go_wp2_with fail
     refine Hro.out.mono ?_
     rintro e w4 hT
     rcases hT with ⟨-,x,Hot,Cold,rfl,hF,hc4,-⟩ | ⟨hne,-⟩
     rotate_left
     ·exact absurd Hz.out hne
     have HJ4:=zh (show JouF w w4 j d sA R.1 R.2.2 (fun _=>False) from (HJ2.out.next (zAD w2 LitO)).move hc4 (fun k _ hk=>⟨hk,HNX.out k hk⟩) fun k hk=>hk.elim)
     have HA:=zh (zDI HJ4.out hF.new)
     clear hF hc4 Hro HR2 HSX HRX HNX HJ2
     go_wp2_with fail
     refine HA.out.mono ?_
     rintro e w5 ⟨b,rfl,hb,hB5⟩
     obtain rfl:=hb (JEq.refl _)
     have Hkn:=zh (zBP w5)
     have HB5:=zh (HJ4.out.bel.trans (hB5.mono HJ4.out.bel.size))
     clear hb hB5 HA HJ4
     go_wp2_with fail
     refine Hkn.out.mono ?_
     rintro e w6 ⟨rfl,hB6⟩
     have HE:=zh (show True3 w (.returned (.bool true)) w6 from ⟨rfl,HB5.out.trans (hB6.mono HB5.out.size)⟩)
     clear hB6 Hkn
     go_wp2_with fail
     go_ret
     exact HE.out
    ·have Hz:=zh hz
     have HS2:=zh hst
     obtain ⟨D9,k9,M9⟩:=R
     have hk9:k9≠0:=hz
     have hk9i:((k9:Int) != 0)=true:=by simp;omega
     have hk9e:((k9:Int) == 0)=false:=by simp;omega
     clear hst hz hk9
     dsimp only at *
     go_wp2_with fail
     refine Hro.out.mono ?_
     rintro e w4 hT
     rcases hT with ⟨hne,-⟩ | ⟨-,rfl,own',-,hc4,-⟩
     ·exact absurd hne Hz.out
     have HB4:=zh (show Below w.heap.size w w4 from (HS2.out.next (zAD w2 LitO)).below.trans (hc4.below (HS2.out.next (zAD w2 LitO)).below.size fun k hk e=>by have:=HNX.out k e;omega))
     have Hkn:=zh (zBP w4)
     clear hc4 Hro HR2 HSX HRX HNX HS2
     dsimp only
     go_wp2_with fail
     refine Hkn.out.mono ?_
     rintro e w6 ⟨rfl,hB6⟩
     have HE:=zh (show True3 w (.returned (.bool true)) w6 from ⟨rfl,HB4.out.trans (hB6.mono HB4.out.size)⟩)
     clear hB6 Hkn
     go_wp2_with fail
     go_ret
     exact HE.out
   | false =>
    have HD0:=zh (show ((zAB.append (zAB.fresh 1048576) (logN [97]) b0).1).room≤1048576∧((zAB.append (zAB.fresh 1048576) (logN [97]) b0).1).used≤6000 from ⟨by rw [zDJ];exact Nat.le_refl _,by have h1:=zDK (zDU 1048576 (by decide)) (logN [97]) b0;have h3:=Hlen.out;have h4:(zAB.fresh 1048576).used=0:=rfl;omega⟩)
    generalize (zAB.append (zAB.fresh 1048576) (logN [97]) b0).1=DX at *
    generalize hWX:wbA=wX at *
    clear hWX
    obtain ⟨own,v,L,hS,hR,hn⟩:=HP.out
    have HSX:=zh hS
    have HRX:=zh hR
    have HNX:=zh hn
    have Hop:=zh (zCo (hS.next (zAD wX LitO)) HD0.out.1 sA (zCI wX) (by simp))
    have hok:=hS.ok
    have Hsd:=zh (fun O:OpensJ DX (nm sA) g012=>Nat.le_trans (zCp hok.srt HD0.out.2 O) (by decide:6000≤524288))
    have Hro0:=zh (fun W (hW:zAY W r v L own DX)=>zCr (hW.below (zAD W LitO)) HD0.out.1 sA (zCI W) (by simp) Hsd.out)
    clear hS hR hn hok HP Hsd
    generalize zAS DX (nm sA) g012=R at *
    go_wp2_with fail
    refine Hop.out.mono ?_
    rintro e w2 ⟨hst,hs,hcase⟩
    have HR2:=zh ((HRX.out.below (zAD wX LitO)).same hst hs)
    have Hro:=zh (Hro0.out w2 HR2.out)
    clear Hop Hro0 hs
    rcases hcase with ⟨hz,j,rfl,hj⟩ | ⟨hz,rfl⟩
    ·have HJ2:=zh hj
     have Hz:=zh hz
     clear hj hst hz
     go_wp2_with fail
     refine Hro.out.mono ?_
     rintro e w4 hT
     rcases hT with ⟨-,x,Hot,Cold,rfl,hF,hc4,-⟩ | ⟨hne,-⟩
     rotate_left
     ·exact absurd Hz.out hne
     have HJ4:=zh (show JouF w w4 j d sA R.1 R.2.2 (fun _=>False) from (HJ2.out.next (zAD w2 LitO)).move hc4 (fun k _ hk=>⟨hk,HNX.out k hk⟩) fun k hk=>hk.elim)
     have HA:=zh (zDI HJ4.out hF.new)
     clear hF hc4 Hro HR2 HSX HRX HNX HJ2
     go_wp2_with fail
     refine HA.out.mono ?_
     rintro e w5 ⟨b,rfl,hb,hB5⟩
     obtain rfl:=hb (JEq.refl _)
     have Hkn:=zh (zBP w5)
     have HB5:=zh (HJ4.out.bel.trans (hB5.mono HJ4.out.bel.size))
     clear hb hB5 HA HJ4
     go_wp2_with fail
     refine Hkn.out.mono ?_
     rintro e w6 ⟨rfl,hB6⟩
     have HE:=zh (show True3 w (.returned (.bool true)) w6 from ⟨rfl,HB5.out.trans (hB6.mono HB5.out.size)⟩)
     clear hB6 Hkn
     go_wp2_with fail
     go_ret
     exact HE.out
    ·have Hz:=zh hz
     have HS2:=zh hst
     obtain ⟨D9,k9,M9⟩:=R
     have hk9:k9≠0:=hz
     have hk9i:((k9:Int) != 0)=true:=by simp;omega
     have hk9e:((k9:Int) == 0)=false:=by simp;omega
     clear hst hz hk9
     dsimp only at *
     go_wp2_with fail
     refine Hro.out.mono ?_
     rintro e w4 hT
     rcases hT with ⟨hne,-⟩ | ⟨-,rfl,own',-,hc4,-⟩
     ·exact absurd hne Hz.out
     have HB4:=zh (show Below w.heap.size w w4 from (HS2.out.next (zAD w2 LitO)).below.trans (hc4.below (HS2.out.next (zAD w2 LitO)).below.size fun k hk e=>by have:=HNX.out k e;omega))
     have Hkn:=zh (zBP w4)
     clear hc4 Hro HR2 HSX HRX HNX HS2
     dsimp only
     go_wp2_with fail
     refine Hkn.out.mono ?_
     rintro e w6 ⟨rfl,hB6⟩
     have HE:=zh (show True3 w (.returned (.bool true)) w6 from ⟨rfl,HB4.out.trans (hB6.mono HB4.out.size)⟩)
     clear hB6 Hkn
     go_wp2_with fail
     go_ret
     exact HE.out
  | false =>
   clear hd hdn hw
   cases ha2:(bits .and .i64 has 2 == 2) with
   | true =>
    have HA1:=zh (ja_append HP.out (⟨#[97,45,115,110,97,112]⟩:ByteArray) (Hx1.out) Hl1.out (by decide))
    go_wp2_with fail
    refine HA1.out.mono ?_
    rintro e waB ⟨rfl,hp⟩
    have HA2:=zh (ja_rappend hp (⟨#[97,45,115,110,97,112]⟩:ByteArray) (Hx1.out) Hl1.out (by decide))
    clear hp HA1 HP
    go_wp2_with fail
    refine HA2.out.mono ?_
    rintro e wbB ⟨rfl,hp⟩
    have HP:=zh (show Pair w wbB d (zAB.append (zAB.fresh 1048576) (snpN [97]) b1).1 r (zAB.append (zAB.fresh 1048576) (snpN [97]) b1).1 from hp)
    clear hp HA2
    have HD0:=zh (show ((zAB.append (zAB.fresh 1048576) (snpN [97]) b1).1).room≤1048576∧((zAB.append (zAB.fresh 1048576) (snpN [97]) b1).1).used≤6000 from ⟨by rw [zDJ];exact Nat.le_refl _,by have h1:=zDK (zDU 1048576 (by decide)) (snpN [97]) b1;have h3:=Hlen.out;have h4:(zAB.fresh 1048576).used=0:=rfl;omega⟩)
    generalize (zAB.append (zAB.fresh 1048576) (snpN [97]) b1).1=DX at *
    generalize hWX:wbB=wX at *
    clear hWX
    obtain ⟨own,v,L,hS,hR,hn⟩:=HP.out
    have HSX:=zh hS
    have HRX:=zh hR
    have HNX:=zh hn
    have Hop:=zh (zCo (hS.next (zAD wX LitO)) HD0.out.1 sA (zCI wX) (by simp))
    have hok:=hS.ok
    have Hsd:=zh (fun O:OpensJ DX (nm sA) g012=>Nat.le_trans (zCp hok.srt HD0.out.2 O) (by decide:6000≤524288))
    have Hro0:=zh (fun W (hW:zAY W r v L own DX)=>zCr (hW.below (zAD W LitO)) HD0.out.1 sA (zCI W) (by simp) Hsd.out)
    clear hS hR hn hok HP Hsd
    generalize zAS DX (nm sA) g012=R at *
    go_wp2_with fail
    refine Hop.out.mono ?_
    rintro e w2 ⟨hst,hs,hcase⟩
    have HR2:=zh ((HRX.out.below (zAD wX LitO)).same hst hs)
    have Hro:=zh (Hro0.out w2 HR2.out)
    clear Hop Hro0 hs
    rcases hcase with ⟨hz,j,rfl,hj⟩ | ⟨hz,rfl⟩
    ·have HJ2:=zh hj
     have Hz:=zh hz
     clear hj hst hz
     go_wp2_with fail
     refine Hro.out.mono ?_
     rintro e w4 hT
     rcases hT with ⟨-,x,Hot,Cold,rfl,hF,hc4,-⟩ | ⟨hne,-⟩
     rotate_left
     ·exact absurd Hz.out hne
     have HJ4:=zh (show JouF w w4 j d sA R.1 R.2.2 (fun _=>False) from (HJ2.out.next (zAD w2 LitO)).move hc4 (fun k _ hk=>⟨hk,HNX.out k hk⟩) fun k hk=>hk.elim)
     have HA:=zh (zDI HJ4.out hF.new)
     clear hF hc4 Hro HR2 HSX HRX HNX HJ2
     go_wp2_with fail
     refine HA.out.mono ?_
     rintro e w5 ⟨b,rfl,hb,hB5⟩
     obtain rfl:=hb (JEq.refl _)
     have Hkn:=zh (zBP w5)
     have HB5:=zh (HJ4.out.bel.trans (hB5.mono HJ4.out.bel.size))
     clear hb hB5 HA HJ4
     go_wp2_with fail
     refine Hkn.out.mono ?_
     rintro e w6 ⟨rfl,hB6⟩
     have HE:=zh (show True3 w (.returned (.bool true)) w6 from ⟨rfl,HB5.out.trans (hB6.mono HB5.out.size)⟩)
     clear hB6 Hkn
     go_wp2_with fail
     go_ret
     exact HE.out
    ·have Hz:=zh hz
     have HS2:=zh hst
     obtain ⟨D9,k9,M9⟩:=R
     have hk9:k9≠0:=hz
     have hk9i:((k9:Int) != 0)=true:=by simp;omega
     have hk9e:((k9:Int) == 0)=false:=by simp;omega
     clear hst hz hk9
     dsimp only at *
     go_wp2_with fail
     refine Hro.out.mono ?_
     rintro e w4 hT
     rcases hT with ⟨hne,-⟩ | ⟨-,rfl,own',-,hc4,-⟩
     ·exact absurd hne Hz.out
     have HB4:=zh (show Below w.heap.size w w4 from (HS2.out.next (zAD w2 LitO)).below.trans (hc4.below (HS2.out.next (zAD w2 LitO)).below.size fun k hk e=>by have:=HNX.out k e;omega))
     have Hkn:=zh (zBP w4)
     clear hc4 Hro HR2 HSX HRX HNX HS2
     dsimp only
     go_wp2_with fail
     refine Hkn.out.mono ?_
     rintro e w6 ⟨rfl,hB6⟩
     have HE:=zh (show True3 w (.returned (.bool true)) w6 from ⟨rfl,HB4.out.trans (hB6.mono HB4.out.size)⟩)
     clear hB6 Hkn
     go_wp2_with fail
     go_ret
     exact HE.out
   | false =>
    have HD0:=zh (show ((zAB.fresh 1048576)).room≤1048576∧((zAB.fresh 1048576)).used≤6000 from ⟨Nat.le_refl _,Nat.zero_le _⟩)
    generalize (zAB.fresh 1048576)=DX at *
    generalize hWX:w2=wX at *
    clear hWX
    obtain ⟨own,v,L,hS,hR,hn⟩:=HP.out
    have HSX:=zh hS
    have HRX:=zh hR
    have HNX:=zh hn
    have Hop:=zh (zCo (hS.next (zAD wX LitO)) HD0.out.1 sA (zCI wX) (by simp))
    have hok:=hS.ok
    have Hsd:=zh (fun O:OpensJ DX (nm sA) g012=>Nat.le_trans (zCp hok.srt HD0.out.2 O) (by decide:6000≤524288))
    have Hro0:=zh (fun W (hW:zAY W r v L own DX)=>zCr (hW.below (zAD W LitO)) HD0.out.1 sA (zCI W) (by simp) Hsd.out)
    clear hS hR hn hok HP Hsd
    generalize zAS DX (nm sA) g012=R at *
    go_wp2_with fail
    refine Hop.out.mono ?_
    rintro e w2 ⟨hst,hs,hcase⟩
    have HR2:=zh ((HRX.out.below (zAD wX LitO)).same hst hs)
    have Hro:=zh (Hro0.out w2 HR2.out)
    clear Hop Hro0 hs
    rcases hcase with ⟨hz,j,rfl,hj⟩ | ⟨hz,rfl⟩
    ·have HJ2:=zh hj
     have Hz:=zh hz
     clear hj hst hz
     go_wp2_with fail
     refine Hro.out.mono ?_
     rintro e w4 hT
     rcases hT with ⟨-,x,Hot,Cold,rfl,hF,hc4,-⟩ | ⟨hne,-⟩
     rotate_left
     ·exact absurd Hz.out hne
     have HJ4:=zh (show JouF w w4 j d sA R.1 R.2.2 (fun _=>False) from (HJ2.out.next (zAD w2 LitO)).move hc4 (fun k _ hk=>⟨hk,HNX.out k hk⟩) fun k hk=>hk.elim)
     have HA:=zh (zDI HJ4.out hF.new)
     clear hF hc4 Hro HR2 HSX HRX HNX HJ2
     go_wp2_with fail
     refine HA.out.mono ?_
     rintro e w5 ⟨b,rfl,hb,hB5⟩
     obtain rfl:=hb (JEq.refl _)
     have Hkn:=zh (zBP w5)
     have HB5:=zh (HJ4.out.bel.trans (hB5.mono HJ4.out.bel.size))
     clear hb hB5 HA HJ4
     go_wp2_with fail
     refine Hkn.out.mono ?_
     rintro e w6 ⟨rfl,hB6⟩
     have HE:=zh (show True3 w (.returned (.bool true)) w6 from ⟨rfl,HB5.out.trans (hB6.mono HB5.out.size)⟩)
     clear hB6 Hkn
     go_wp2_with fail
     go_ret
     exact HE.out
    ·have Hz:=zh hz
     have HS2:=zh hst
     obtain ⟨D9,k9,M9⟩:=R
     have hk9:k9≠0:=hz
     have hk9i:((k9:Int) != 0)=true:=by simp;omega
     have hk9e:((k9:Int) == 0)=false:=by simp;omega
     clear hst hz hk9
     dsimp only at *
     go_wp2_with fail
     refine Hro.out.mono ?_
     rintro e w4 hT
     rcases hT with ⟨hne,-⟩ | ⟨-,rfl,own',-,hc4,-⟩
     ·exact absurd hne Hz.out
     have HB4:=zh (show Below w.heap.size w w4 from (HS2.out.next (zAD w2 LitO)).below.trans (hc4.below (HS2.out.next (zAD w2 LitO)).below.size fun k hk e=>by have:=HNX.out k e;omega))
     have Hkn:=zh (zBP w4)
     clear hc4 Hro HR2 HSX HRX HNX HS2
     dsimp only
     go_wp2_with fail
     refine Hkn.out.mono ?_
     rintro e w6 ⟨rfl,hB6⟩
     have HE:=zh (show True3 w (.returned (.bool true)) w6 from ⟨rfl,HB4.out.trans (hB6.mono HB4.out.size)⟩)
     clear hB6 Hkn
     go_wp2_with fail
     go_ret
     exact HE.out
end
end Go.Proofs.YtapfnehdgailmaaGreat
