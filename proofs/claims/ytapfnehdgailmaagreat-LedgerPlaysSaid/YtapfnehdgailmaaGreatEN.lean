/- ledger: takes, the walk. (Printed by mkled4.py.) -/
import Derived.Test.YtapfnehdgailmaaGreatEM
set_option maxRecDepth 100000
set_option maxHeartbeats 64000000
namespace Go.Proofs.YtapfnehdgailmaaGreat
open Go.RowKit Go.Sat Go.Maps
def zCM (l:Nat) (la:Int):Obj:=.cells #[.pointer (some ⟨l,0,none⟩),.int .i64 la] 241 (0,0)
def zA1 (w w1:World) (l d:Nat) (pre:ByteArray) (D:zAA) (M:LedM) (F:Nat→Prop) (t:Nat) (la:Int) (b:Bs) (e:Ending) (w':World):Prop :=
 St w w' d D F∧(∀ k,F k→k≠t→w'.heap[k]?=w1.heap[k]?)∧match zB1 M.base (la,M.entries) b with
 | none=>e=.returned (.bool false)
 | some s=>e=.returned (.bool true)∧LedF w w' l d pre D { M with entries:=s.2 } F∧w'.heap[t]?=some (zCM l s.1)
section
variable {w w1 w2:World} {l d t:Nat} {pre:ByteArray} {D:zAA} {M:LedM} {F F':Nat→Prop} {la:Int} {b:Bs}
theorem take1_no {base:Nat} {s:Int × List Bs} (h:(Rd.num ⟨b,false⟩).2.bytes.2.whole=false∨(Rd.num ⟨b,false⟩).1 < 1∨1099511627776 < (Rd.num ⟨b,false⟩).1∨(0≤s.1∧((Rd.num ⟨b,false⟩).1:Int)≠s.1+1)):zB1 base s b=none:=by
 unfold zB1
 rw [if_pos h]
theorem take1_old {base:Nat} {s:Int × List Bs} (h:¬ ((Rd.num ⟨b,false⟩).2.bytes.2.whole=false∨(Rd.num ⟨b,false⟩).1 < 1∨1099511627776 < (Rd.num ⟨b,false⟩).1∨(0≤s.1∧((Rd.num ⟨b,false⟩).1:Int)≠s.1+1))) (h1:(Rd.num ⟨b,false⟩).1≤base):zB1 base s b=some (((Rd.num ⟨b,false⟩).1:Int),s.2):=by
 unfold zB1
 rw [if_neg h,if_pos h1]
theorem take1_gap {base:Nat} {s:Int × List Bs} (h:¬ ((Rd.num ⟨b,false⟩).2.bytes.2.whole=false∨(Rd.num ⟨b,false⟩).1 < 1∨1099511627776 < (Rd.num ⟨b,false⟩).1∨(0≤s.1∧((Rd.num ⟨b,false⟩).1:Int)≠s.1+1))) (h1:¬ (Rd.num ⟨b,false⟩).1≤base) (h2:(Rd.num ⟨b,false⟩).1≠base+s.2.length+1):zB1 base s b=none:=by
 unfold zB1
 rw [if_neg h,if_neg h1,if_pos h2]
theorem take1_new {base:Nat} {s:Int × List Bs} (h:¬ ((Rd.num ⟨b,false⟩).2.bytes.2.whole=false∨(Rd.num ⟨b,false⟩).1 < 1∨1099511627776 < (Rd.num ⟨b,false⟩).1∨(0≤s.1∧((Rd.num ⟨b,false⟩).1:Int)≠s.1+1))) (h1:¬ (Rd.num ⟨b,false⟩).1≤base) (h2:¬ (Rd.num ⟨b,false⟩).1≠base+s.2.length+1):zB1 base s b=some (((Rd.num ⟨b,false⟩).1:Int),s.2 ++ [(Rd.num ⟨b,false⟩).2.bytes.1]):=by
 unfold zB1
 rw [if_neg h,if_neg h1,if_neg h2]
theorem zDB {x:Option (Int × List Bs)} (hx:x=zB1 M.base (la,M.entries) b) (hS:St w w2 d D F) (hF:∀ k,F k→k≠t→w2.heap[k]?=w1.heap[k]?) (h:x=none):zA1 w w1 l d pre D M F t la b (.returned (.bool false)) w2:=by
 unfold zA1
 rw [← hx,h]
 exact ⟨hS,hF,rfl⟩
theorem take_some {x:Option (Int × List Bs)} (hx:x=zB1 M.base (la,M.entries) b) {s:Int × List Bs} (hL:LedF w w2 l d pre D { M with entries:=s.2 } F) (hF:∀ k,F k→k≠t→w2.heap[k]?=w1.heap[k]?) (ht:w2.heap[t]?=some (zCM l s.1)) (h:x=some s):zA1 w w1 l d pre D M F t la b (.returned (.bool true)) w2:=by
 unfold zA1
 rw [← hx,h]
 exact ⟨hL.stF,hF,rfl,hL,ht⟩
theorem takes_calls (h:LedF w w1 l d pre D M F) (ht:w1.heap[t]?=some (zCM l la)) (hFt:F t) (htn:w.heap.size≤t) {p:Option Addr} {n c:Nat} (hx:HasB w1 (.slice p n c) b) (hb:b.length≤1073741824) (hla1:-1≤la) (hla2:la≤1099511627776) :
  Calls Tryz.prog 200 #[.pointer (some ⟨t,0,none⟩),.slice p n c] w1 (zA1 w w1 l d pre D M F t la b):=by
 obtain ⟨i0,hi,hz0,hz1,hz2⟩:=info_parts (show (Tryz.prog.info? 22).map (fun i=>(i.zero,i.size,i.bytes))=some (some (.slice none 0 0),1,24) by kernel_rfl)
 have Hrd0:=zh (newrd_calls hx (by omega))
 have H:=zh h
 have Ht:=zh ht
 have htlt:t < w1.heap.size:=h.flt hFt
 have Hb:=zh hb
 have hn:b.length=n:=by obtain ⟨_,_,e⟩:=hx.slice;simp only [Value.slice.injEq] at e;exact e.2.1.symm
 have HFt:=zh hFt
 have hlt:l≠t:=fun e=>by
  obtain ⟨own,dv,ev,vs,hL,-,hn,-⟩:=h
  exact (hn l hL.ol).2 (e ▸ hFt)
 clear h hx hb ht hn hFt
 go_enter Tryz.func200,Tryz.ntmps200
 go_wp2_with fail
 refine Hrd0.out.mono ?_
 rintro e w3 ⟨r,rfl,hr,hrn,hb3⟩
 have Hnum:=zh (show Calls Tryz.prog 191 #[.pointer (some ⟨r,0,none⟩)] w3 (zCi w3 r ⟨b,false⟩) from by obtain ⟨_,_,_,h⟩:=hr;exact num_calls h)
 have Hb3:=zh hb3
 have Hrn:=zh hrn
 clear hr hrn hb3 Hrd0
 go_wp2_with fail
 refine Hnum.out.mono ?_
 rintro e w4 ⟨rfl,hr4,hc4⟩
 have Hby:=zh (rbytes_calls hr4)
 have Hc4:=zh hc4
 have hm62:=Rd.num_le ⟨b,false⟩
 have Hbl:=zh (show (Rd.num ⟨b,false⟩).2.bytes.1.length≤1073741824 from Nat.le_trans (Rd.bytes_len _) (Nat.le_trans (Rd.num_rest _) Hb.out))
 have HNo:=zh (fun s=>take1_no (b:=b) (base:=M.base) (s:=s))
 have HOld:=zh (fun s=>take1_old (b:=b) (base:=M.base) (s:=s))
 have HGap:=zh (fun s=>take1_gap (b:=b) (base:=M.base) (s:=s))
 have HNew:=zh (fun s=>take1_new (b:=b) (base:=M.base) (s:=s))
 clear hr4 hc4 Hnum
 generalize (Rd.num ⟨b,false⟩).1=k at *
 generalize (Rd.num ⟨b,false⟩).2=R1 at *
 go_wp2_with fail
 refine Hby.out.mono ?_
 rintro e w5 ⟨v5,rfl,hv5,hn5,hr5,hc5⟩
 have HB5:=zh (show Below w1.heap.size w1 w5 from Hb3.out.trans ((Hc4.out.trans hc5 fun _ _ e=>e).below Hb3.out.size fun k hk e=>by have:=Hrn.out;omega))
 have Hn5:=zh (show ∀ k,v5.ownBlock=some k→w1.heap.size≤k from fun k hk=>by have h1:=hn5 k hk;have h3:=Hb3.out.size;have h4:=Hc4.out.size;omega)
 have Hwh:=zh (whole_calls hr5.hd)
 have HV5:=zh hv5
 have ht5:=(HB5.out.block t htlt).trans Ht.out
 have kt0:w5.cell? ⟨t,0,none⟩=some (.pointer (some ⟨l,0,none⟩)):=zAC ht5 rfl
 have kt1:w5.cell? ⟨t,1,none⟩=some (.int .i64 la):=zAC ht5 rfl
 have ft1:=zAI ht5 1
 have HS5:=zh (show St w w5 d D F∧∀ k,F k→k≠t→w5.heap[k]?=w1.heap[k]? from ⟨(H.out.next HB5.out).stF,fun k hk _=>HB5.out.block k (H.out.flt hk)⟩)
 have HT:=zh (show zB1 M.base (la,M.entries) b=zB1 M.base (la,M.entries) b from rfl)
 have HT5:=zh ht5
 clear hv5 hn5 hr5 hc5 Hby ht5
 generalize R1.bytes.2=R2 at *
 generalize R1.bytes.1=b5 at *
 obtain ⟨pu,cu,rfl,-⟩:=zAX HV5.out
 by_cases hw:R2.whole=false
 ·rw [hw] at Hwh
  have HE:=zh (show zA1 w w1 l d pre D M F t la b (.returned (.bool false)) w5 from zDB rfl HS5.out.1 HS5.out.2 (HNo.out _ (.inl hw)))
  go_wp2_with fail
  refine Hwh.out.mono ?_
  rintro e w6 ⟨rfl,rfl⟩
  go_wp2_with fail
  go_ret
  exact HE.out
 ·have hw':R2.whole=true:=by cases h:R2.whole <;> simp_all
  rw [hw'] at Hwh
  by_cases h1:k < 1
  ·have HE:=zh (show zA1 w w1 l d pre D M F t la b (.returned (.bool false)) w5 from zDB rfl HS5.out.1 HS5.out.2 (HNo.out _ (.inr (.inl h1))))
   go_wp2_with fail
   refine Hwh.out.mono ?_
   rintro e w6 ⟨rfl,rfl⟩
   go_wp2_with fail
   go_ret
   exact HE.out
  ·by_cases h2:1099511627776 < k
   ·have HE:=zh (show zA1 w w1 l d pre D M F t la b (.returned (.bool false)) w5 from zDB rfl HS5.out.1 HS5.out.2 (HNo.out _ (.inr (.inr (.inl h2)))))
    go_wp2_with fail
    refine Hwh.out.mono ?_
    rintro e w6 ⟨rfl,rfl⟩
    go_wp2_with fail
    go_ret
    exact HE.out
   ·have hlw:IntKind.i64.wrap (la+1)=la+1:=IntWalk.i64_in _ (by omega)
    by_cases h3:0≤la∧(k:Int)≠la+1
    ·obtain ⟨h3a,h3b⟩:=h3
     have hd3:decide (0≤la)=true:=by simpa using h3a
     have hne:((k:Int) != la+1)=true:=by simpa using h3b
     have HE:=zh (show zA1 w w1 l d pre D M F t la b (.returned (.bool false)) w5 from zDB rfl HS5.out.1 HS5.out.2 (HNo.out _ (.inr (.inr (.inr ⟨h3a,h3b⟩)))))
     go_wp2_with fail
     refine Hwh.out.mono ?_
     rintro e w6 ⟨rfl,rfl⟩
     go_wp2_with fail
     go_ret
     exact HE.out
    ·have HOK:=zh (show ¬ (R2.whole=false∨k < 1∨1099511627776 < k∨(0≤la∧(k:Int)≠la+1)) from by rintro (h | h | h | h);exact hw h;exact h1 h;exact h2 h;exact h3 h)
     have HL5:=zh (show LedF w w5 l d pre D M (fun k=>F k∨(Value.slice pu b5.length cu).ownBlock=some k) from H.out.more HB5.out fun k hk=>hk.imp id fun e=>⟨Hn5.out k e,OwnR.lt HV5.out e⟩)
     have HL6:=zh (show LedF w (w5.setCell ⟨t,1,none⟩ (.int .i64 (k:Int))) l d pre D M (fun k=>F k∨(Value.slice pu b5.length cu).ownBlock=some k) from HL5.out.move (Chg.setCell w5 ⟨t,1,none⟩ _) (fun j _ e=>by rw [e];exact ⟨.inl HFt.out,htn⟩) fun j hj=>⟨.inl hj,by have:=HL5.out.flt hj;simpa [World.setCell] using this⟩)
     have HT6:=zh (show (w5.setCell ⟨t,1,none⟩ (.int .i64 (k:Int))).heap[t]?=some (zCM l (k:Int)) from by have:=zAO HT5.out 1 (.int .i64 (k:Int));simpa [zCM] using this)
     have HF6:=zh (show ∀ j,F j→j≠t→(w5.setCell ⟨t,1,none⟩ (.int .i64 (k:Int))).heap[j]?=w1.heap[j]? from fun j hj hjt=>(zAE _ hjt).trans (HB5.out.block j (H.out.flt hj)))
     obtain ⟨dv,ev,hcl,-⟩:=HL6.out.cells
     have k62:=zAC hcl (i:=2) rfl
     have kt60:(w5.setCell ⟨t,1,none⟩ (.int .i64 (k:Int))).cell? ⟨t,0,none⟩=some (.pointer (some ⟨l,0,none⟩)):=zAC HT6.out rfl
     have HV6:=zh (show OwnB (w5.setCell ⟨t,1,none⟩ (.int .i64 (k:Int))) 5 (.slice pu b5.length cu) b5 from OwnR.keep HV5.out fun j hj=>zAE _ fun e=>by have:=Hn5.out j hj;have h5:j=t:=e;omega)
     clear hcl
     by_cases hold:k≤M.base
     ·have HE:=zh (show zA1 w w1 l d pre D M F t la b (.returned (.bool true)) (w5.setCell ⟨t,1,none⟩ (.int .i64 (k:Int))) from take_some rfl (s:=((k:Int),M.entries)) (HL6.out.less fun _ h=>.inl h) HF6.out HT6.out (HOld.out _ HOK.out hold))
      have hol:((k:Int))≤(M.base:Int):=by omega
      generalize M.base=base at *
      by_cases hl0:0≤la
      ·have hkl:(k:Int)=la+1:=by omega
       have hne:((k:Int) != la+1)=false:=by simp [hkl]
       have hd3:decide (0≤la)=true:=by simpa using hl0
       clear hkl
       go_wp2_with fail
       refine Hwh.out.mono ?_
       rintro e w6 ⟨rfl,rfl⟩
       go_wp2_with fail
       go_ret
       exact HE.out
      ·have hd3:decide (0≤la)=false:=by simpa using hl0
       go_wp2_with fail
       refine Hwh.out.mono ?_
       rintro e w6 ⟨rfl,rfl⟩
       go_wp2_with fail
       go_ret
       exact HE.out
     ·have Hla6:=zh (last_calls HL6.out)
      have hgt:(M.base:Int) < (k:Int):=by omega
      have HLa:=zh (show M.last=M.base+M.entries.length from rfl)
      have Hlb:=zh HL6.out.last
      by_cases hgap:k≠M.base+M.entries.length+1
      ·have HE:=zh (fun q=>(show zA1 w w1 l d pre D M F t la b (.returned (.bool false)) ((w5.setCell ⟨t,1,none⟩ (.int .i64 (k:Int))).drewN q) from zDB rfl ((HL6.out.less fun _ h=>.inl h).stF.drewN q) HF6.out (HGap.out _ HOK.out hold hgap)))
       have hlb:=Hlb.out
       have hne2:(k:Int)≠(M.last:Int)+1:=by have:=HLa.out;omega
       have hne2':((k:Int) != (M.last:Int)+1)=true:=by simpa using hne2
       clear hgap hold hne2
       generalize M.last=lst at *
       generalize M.base=base at *
       by_cases hl0:0≤la
       ·have hkl:(k:Int)=la+1:=by
         have:=HOK.out
         exact Classical.byContradiction fun e=>this (.inr (.inr (.inr ⟨hl0,e⟩)))
        have hne:((k:Int) != la+1)=false:=by simp [hkl]
        have hd3:decide (0≤la)=true:=by simpa using hl0
        clear hkl
        go_wp2_with fail
        refine Hwh.out.mono ?_
        rintro e w6 ⟨rfl,rfl⟩
        go_wp2_with fail
        refine Hla6.out.mono ?_
        rintro e w7 ⟨rfl,q,rfl⟩
        go_wp2_with fail
        go_ret
        exact HE.out q
       ·have hd3:decide (0≤la)=false:=by simpa using hl0
        go_wp2_with fail
        refine Hwh.out.mono ?_
        rintro e w6 ⟨rfl,rfl⟩
        go_wp2_with fail
        refine Hla6.out.mono ?_
        rintro e w7 ⟨rfl,q,rfl⟩
        go_wp2_with fail
        go_ret
        exact HE.out q
      ·have hkv:k=M.base+M.entries.length+1:=Classical.not_not.1 hgap
       have HNw:=zh (HNew.out ((la,M.entries):Int × List Bs) HOK.out hold hgap)
       have hlb:=Hlb.out
       have hla3:M.last+1≤1099511627776:=by have:=HLa.out;omega
       have hne2:((k:Int) != (M.last:Int)+1)=false:=by have:=HLa.out;simp;omega
       have hm40:M.entries.length≤1099511627776:=by have:=HLa.out;omega
       have Hm3:=zh hla3
       clear hgap hold hkv HLa hla3
       by_cases hl0:0≤la
       ·have hkl:(k:Int)=la+1:=by
         have:=HOK.out
         exact Classical.byContradiction fun e=>this (.inr (.inr (.inr ⟨hl0,e⟩)))
        have hne:((k:Int) != la+1)=false:=by simp [hkl]
        have hd3:decide (0≤la)=true:=by simpa using hl0
        clear hkl
        generalize hW6:w5.setCell ⟨t,1,none⟩ (.int .i64 (k:Int))=w6 at *
        go_wp2_with fail
        refine Hwh.out.mono ?_
        rintro e w8 ⟨rfl,rfl⟩
        go_wp2_with fail
        refine Hla6.out.mono ?_
        rintro e w7 ⟨rfl,q,rfl⟩
        clear hW6
        have kt60:(w6.drewN q).cell? ⟨t,0,none⟩=some (.pointer (some ⟨l,0,none⟩)):=kt60
        go_wp2_with fail
        refine zAK (fun w':World=>w'.cell? ⟨t,0,none⟩=some (.pointer (some ⟨l,0,none⟩))) (n:=17) (by kernel_rfl) rfl (kt60) (fun hHeld=>?_)
        have hL7:=HL6.out.next (show Below w6.heap.size w6 (w6.drewN q).drew from ⟨rfl,rfl,rfl,Nat.le_refl _,fun _ _=>rfl⟩)
        have hT7:(w6.drewN q).drew.heap[t]?=some (zCM l (k:Int)):=HT6.out
        have hV7:OwnB (w6.drewN q).drew 5 (.slice pu b5.length cu) b5:=OwnR.keep HV6.out fun _ _=>rfl
        have hF7:∀ j,F j→j≠t→(w6.drewN q).drew.heap[j]?=w1.heap[j]?:=HF6.out
        generalize (w6.drewN q).drew=W1 at *
        obtain ⟨own,dv,ev,vs,hL,hS,hn,hl⟩:=hL7
        have h4:=hL.c4
        have k0:=hL.c0
        have hnt:¬ own t:=fun ho=>(hn t ho).2 (.inl HFt.out)
        have htl:t≠l:=fun e=>hlt e.symm
        have Ht0:=zh (zAC hT7 (i:=0) rfl:W1.cell? ⟨t,0,none⟩=some (.pointer (some ⟨l,0,none⟩)))
        have HalR:=zh (hL.row.keep (w':=W1.alloc (.cells #[.slice pu b5.length cu] 22)) fun j hj=>(zAJ W1 _).block j (OwnR.lt hL.row hj))
        have Hxx:=zh (zBV W1 (.slice pu b5.length cu) 22 (0,0))
        have HP:=zh (show ∀ v3 w3,OwnR w3 22 1 v3 (M.entries.length+1) (vs ++ [.slice pu b5.length cu])→(W1.alloc (.cells #[.slice pu b5.length cu] 22)).grownBy w3 ev.ownBlock→(v3.ownBlock=ev.ownBlock∨∃ g,v3.ownBlock=some g∧(W1.alloc (.cells #[.slice pu b5.length cu] 22)).heap.size≤g)→zA1 w w1 l d pre D M F t la b (.returned (.bool true)) (w3.setCell ⟨l,4,none⟩ v3)∧w3.heap[t]?=W1.heap[t]?∧w3.heap[l]?=some (.cells #[.pointer (some ⟨d,0,none⟩),.string pre,.int .i64 (M.base:Int),dv,ev,.bool M.dead] 183 (0,0)) from fun v3 w3 hown3 hgrow3 hloc3=>by
         obtain ⟨hP1,hP2,hP3,hP4⟩:=zCQ hL hV7 (fun j hj ho=>(hn j ho).2 (.inr hj)) Hbl.out Hm3.out (zAJ W1 _) hown3 hgrow3 hloc3
         have hpt:w3.heap[t]?=W1.heap[t]?:=(hgrow3.block t (Nat.lt_of_lt_of_le (hl t (.inl HFt.out)) (zAJ W1 _).size) fun e=>hnt (hL.oe t e.symm).1).trans ((zAJ W1 _).block t (hl t (.inl HFt.out)))
         obtain ⟨hQ1,hQ2⟩:=LedF.taken hS hn hl (fun j hj=>.inl hj) hP1 hP2 fun j hj=>by
          rcases hj with hj | hj | hj
          ·exact .inl hj
          ·exact .inr (.inr ⟨.inr hj,fun hf=>by have h5:=Hn5.out j hj;have h6:=H.out.flt hf;omega,Nat.le_trans H.out.bel.size (Hn5.out j hj)⟩)
          ·rcases hP3 j hj with h | h
           ·exact .inl h
           ·exact .inr (.inl h)
         exact ⟨take_some rfl (s:=((k:Int),M.entries ++ [b5])) hQ1 (fun j hj hjt=>(hQ2 j hj).trans (hF7 j hj hjt)) ((zAE v3 htl).trans (hpt.trans hT7)) HNw.out,hpt,hP4.trans hL.cells⟩)
        clear hL hS hn hl hT7 hV7 hF7 k62 kt0 kt1 ft1
        generalize M.entries.length=m at *
        generalize b5.length=q5 at *
        refine pl [0,1,2,3,4,5,6,7,8,9,11] ?_
        iterate 11 (refine pc rfl ?_;simp only [Act.put,uA,uB,uC])
        refine pn ?_
        refine zB8 10 12 rfl rfl (by kernel_rfl) (by rfl) (by rfl) (fun K hK=>?_) (fun K hK=>?_)
        ·go_wp2_with fail
         refine hK.out _ _ (hHeld) (fun hHeld=>?_)
         clear hK
         try simp only [Act.put,uA,uB,uC]
         refine zAB 12 rfl (by kernel_rfl) (by rfl) (fun K hK=>?_)
         go_wp2_with fail
         refine hK.out _ _ (zAT hHeld _) (fun hHeld=>?_)
         clear hK
         try simp only [Act.put,uA,uB,uC]
         refine zAB 13 rfl (by kernel_rfl) (by rfl) (fun K hK=>?_)
         refine zAi (.tmp 72) (.tmp 74) 108 rfl 22 i0 (.slice none 0 0) 1 24 Tryz.underlying108 hi hz0 hz1 hz2 rfl (by decide) _ m _ rfl HalR.out (.slice (some ⟨W1.heap.size,0,none⟩) 1 1) 1 _ rfl Hxx.out (by simp [Value.oneCell']) (by unfold maxLen;omega) (by omega) ?_
         intro v3 w3 hown3 hgrow3 hloc3
         have HE:=zh (HP.out v3 w3 hown3 hgrow3 hloc3)
         have k4:=zAC HE.out.2.2 (i:=4) rfl
         have f4:=zAI HE.out.2.2 4
         have kt3:w3.cell? ⟨t,0,none⟩=some (.pointer (some ⟨l,0,none⟩)):=(World.cell?_of_block (a:=⟨t,0,none⟩) HE.out.2.1).trans Ht0.out
         obtain ⟨p3,q3,rfl⟩:=OwnR.shape hown3
         clear hown3 hgrow3 hloc3
         refine hK.out _ _ kt3 (fun hHeld=>?_)
         clear hK
         try simp only [Act.put,uA,uB,uC]
         refine pl [14,15] ?_
         iterate 2 (refine pc rfl ?_;simp only [Act.put,uA,uB,uC])
         refine pn ?_
         refine zAB 16 rfl (by kernel_rfl) (by rfl) (fun K hK=>?_)
         go_wp2_with fail
         refine hK.out _ _ ((World.cell?_of_block (a:=⟨t,0,none⟩) (zAE _ htl)).trans kt3) (fun hHeld=>?_)
         clear hK
         try simp only [Act.put,uA,uB,uC]
         refine wpAnyH_done (by kernel_rfl) ?_ _
         go_wp2_with fail
         go_ret
         exact HE.out.1
        ·have h4a:=zAT h4 (.cells #[.slice pu q5 cu] 22)
         go_wp2_with fail
         refine hK.out _ _ (zAT hHeld _) (fun hHeld=>?_)
         clear hK
         try simp only [Act.put,uA,uB,uC]
         refine zAB 10 rfl (by kernel_rfl) (by rfl) (fun K hK=>?_)
         go_wp2_with fail
         refine hK.out _ _ (hHeld) (fun hHeld=>?_)
         clear hK
         try simp only [Act.put,uA,uB,uC]
         refine zAB 13 rfl (by kernel_rfl) (by rfl) (fun K hK=>?_)
         refine zAi (.tmp 72) (.tmp 74) 108 rfl 22 i0 (.slice none 0 0) 1 24 Tryz.underlying108 hi hz0 hz1 hz2 rfl (by decide) _ m _ rfl HalR.out (.slice (some ⟨W1.heap.size,0,none⟩) 1 1) 1 _ rfl Hxx.out (by simp [Value.oneCell']) (by unfold maxLen;omega) (by omega) ?_
         intro v3 w3 hown3 hgrow3 hloc3
         have HE:=zh (HP.out v3 w3 hown3 hgrow3 hloc3)
         have k4:=zAC HE.out.2.2 (i:=4) rfl
         have f4:=zAI HE.out.2.2 4
         have kt3:w3.cell? ⟨t,0,none⟩=some (.pointer (some ⟨l,0,none⟩)):=(World.cell?_of_block (a:=⟨t,0,none⟩) HE.out.2.1).trans Ht0.out
         obtain ⟨p3,q3,rfl⟩:=OwnR.shape hown3
         clear hown3 hgrow3 hloc3
         refine hK.out _ _ kt3 (fun hHeld=>?_)
         clear hK
         try simp only [Act.put,uA,uB,uC]
         refine pl [14,15] ?_
         iterate 2 (refine pc rfl ?_;simp only [Act.put,uA,uB,uC])
         refine pn ?_
         refine zAB 16 rfl (by kernel_rfl) (by rfl) (fun K hK=>?_)
         go_wp2_with fail
         refine hK.out _ _ ((World.cell?_of_block (a:=⟨t,0,none⟩) (zAE _ htl)).trans kt3) (fun hHeld=>?_)
         clear hK
         try simp only [Act.put,uA,uB,uC]
         refine wpAnyH_done (by kernel_rfl) ?_ _
         go_wp2_with fail
         go_ret
         exact HE.out.1
       ·have hd3:decide (0≤la)=false:=by simpa using hl0
        generalize hW6:w5.setCell ⟨t,1,none⟩ (.int .i64 (k:Int))=w6 at *
        go_wp2_with fail
        refine Hwh.out.mono ?_
        rintro e w8 ⟨rfl,rfl⟩
        go_wp2_with fail
        refine Hla6.out.mono ?_
        rintro e w7 ⟨rfl,q,rfl⟩
        clear hW6
        have kt60:(w6.drewN q).cell? ⟨t,0,none⟩=some (.pointer (some ⟨l,0,none⟩)):=kt60
        go_wp2_with fail
        refine zAK (fun w':World=>w'.cell? ⟨t,0,none⟩=some (.pointer (some ⟨l,0,none⟩))) (n:=17) (by kernel_rfl) rfl (kt60) (fun hHeld=>?_)
        have hL7:=HL6.out.next (show Below w6.heap.size w6 (w6.drewN q).drew from ⟨rfl,rfl,rfl,Nat.le_refl _,fun _ _=>rfl⟩)
        have hT7:(w6.drewN q).drew.heap[t]?=some (zCM l (k:Int)):=HT6.out
        have hV7:OwnB (w6.drewN q).drew 5 (.slice pu b5.length cu) b5:=OwnR.keep HV6.out fun _ _=>rfl
        have hF7:∀ j,F j→j≠t→(w6.drewN q).drew.heap[j]?=w1.heap[j]?:=HF6.out
        generalize (w6.drewN q).drew=W1 at *
        obtain ⟨own,dv,ev,vs,hL,hS,hn,hl⟩:=hL7
        have h4:=hL.c4
        have k0:=hL.c0
        have hnt:¬ own t:=fun ho=>(hn t ho).2 (.inl HFt.out)
        have htl:t≠l:=fun e=>hlt e.symm
        have Ht0:=zh (zAC hT7 (i:=0) rfl:W1.cell? ⟨t,0,none⟩=some (.pointer (some ⟨l,0,none⟩)))
        have HalR:=zh (hL.row.keep (w':=W1.alloc (.cells #[.slice pu b5.length cu] 22)) fun j hj=>(zAJ W1 _).block j (OwnR.lt hL.row hj))
        have Hxx:=zh (zBV W1 (.slice pu b5.length cu) 22 (0,0))
        have HP:=zh (show ∀ v3 w3,OwnR w3 22 1 v3 (M.entries.length+1) (vs ++ [.slice pu b5.length cu])→(W1.alloc (.cells #[.slice pu b5.length cu] 22)).grownBy w3 ev.ownBlock→(v3.ownBlock=ev.ownBlock∨∃ g,v3.ownBlock=some g∧(W1.alloc (.cells #[.slice pu b5.length cu] 22)).heap.size≤g)→zA1 w w1 l d pre D M F t la b (.returned (.bool true)) (w3.setCell ⟨l,4,none⟩ v3)∧w3.heap[t]?=W1.heap[t]?∧w3.heap[l]?=some (.cells #[.pointer (some ⟨d,0,none⟩),.string pre,.int .i64 (M.base:Int),dv,ev,.bool M.dead] 183 (0,0)) from fun v3 w3 hown3 hgrow3 hloc3=>by
         obtain ⟨hP1,hP2,hP3,hP4⟩:=zCQ hL hV7 (fun j hj ho=>(hn j ho).2 (.inr hj)) Hbl.out Hm3.out (zAJ W1 _) hown3 hgrow3 hloc3
         have hpt:w3.heap[t]?=W1.heap[t]?:=(hgrow3.block t (Nat.lt_of_lt_of_le (hl t (.inl HFt.out)) (zAJ W1 _).size) fun e=>hnt (hL.oe t e.symm).1).trans ((zAJ W1 _).block t (hl t (.inl HFt.out)))
         obtain ⟨hQ1,hQ2⟩:=LedF.taken hS hn hl (fun j hj=>.inl hj) hP1 hP2 fun j hj=>by
          rcases hj with hj | hj | hj
          ·exact .inl hj
          ·exact .inr (.inr ⟨.inr hj,fun hf=>by have h5:=Hn5.out j hj;have h6:=H.out.flt hf;omega,Nat.le_trans H.out.bel.size (Hn5.out j hj)⟩)
          ·rcases hP3 j hj with h | h
           ·exact .inl h
           ·exact .inr (.inl h)
         exact ⟨take_some rfl (s:=((k:Int),M.entries ++ [b5])) hQ1 (fun j hj hjt=>(hQ2 j hj).trans (hF7 j hj hjt)) ((zAE v3 htl).trans (hpt.trans hT7)) HNw.out,hpt,hP4.trans hL.cells⟩)
        clear hL hS hn hl hT7 hV7 hF7 k62 kt0 kt1 ft1
        generalize M.entries.length=m at *
        generalize b5.length=q5 at *
        refine pl [0,1,2,3,4,5,6,7,8,9,11] ?_
        iterate 11 (refine pc rfl ?_;simp only [Act.put,uA,uB,uC])
        refine pn ?_
        refine zB8 10 12 rfl rfl (by kernel_rfl) (by rfl) (by rfl) (fun K hK=>?_) (fun K hK=>?_)
        ·go_wp2_with fail
         refine hK.out _ _ (hHeld) (fun hHeld=>?_)
         clear hK
         try simp only [Act.put,uA,uB,uC]
         refine zAB 12 rfl (by kernel_rfl) (by rfl) (fun K hK=>?_)
         go_wp2_with fail
         refine hK.out _ _ (zAT hHeld _) (fun hHeld=>?_)
         clear hK
         try simp only [Act.put,uA,uB,uC]
         refine zAB 13 rfl (by kernel_rfl) (by rfl) (fun K hK=>?_)
         refine zAi (.tmp 72) (.tmp 74) 108 rfl 22 i0 (.slice none 0 0) 1 24 Tryz.underlying108 hi hz0 hz1 hz2 rfl (by decide) _ m _ rfl HalR.out (.slice (some ⟨W1.heap.size,0,none⟩) 1 1) 1 _ rfl Hxx.out (by simp [Value.oneCell']) (by unfold maxLen;omega) (by omega) ?_
         intro v3 w3 hown3 hgrow3 hloc3
         have HE:=zh (HP.out v3 w3 hown3 hgrow3 hloc3)
         have k4:=zAC HE.out.2.2 (i:=4) rfl
         have f4:=zAI HE.out.2.2 4
         have kt3:w3.cell? ⟨t,0,none⟩=some (.pointer (some ⟨l,0,none⟩)):=(World.cell?_of_block (a:=⟨t,0,none⟩) HE.out.2.1).trans Ht0.out
         obtain ⟨p3,q3,rfl⟩:=OwnR.shape hown3
         clear hown3 hgrow3 hloc3
         refine hK.out _ _ kt3 (fun hHeld=>?_)
         clear hK
         try simp only [Act.put,uA,uB,uC]
         refine pl [14,15] ?_
         iterate 2 (refine pc rfl ?_;simp only [Act.put,uA,uB,uC])
         refine pn ?_
         refine zAB 16 rfl (by kernel_rfl) (by rfl) (fun K hK=>?_)
         go_wp2_with fail
         refine hK.out _ _ ((World.cell?_of_block (a:=⟨t,0,none⟩) (zAE _ htl)).trans kt3) (fun hHeld=>?_)
         clear hK
         try simp only [Act.put,uA,uB,uC]
         refine wpAnyH_done (by kernel_rfl) ?_ _
         go_wp2_with fail
         go_ret
         exact HE.out.1
        ·have h4a:=zAT h4 (.cells #[.slice pu q5 cu] 22)
         go_wp2_with fail
         refine hK.out _ _ (zAT hHeld _) (fun hHeld=>?_)
         clear hK
         try simp only [Act.put,uA,uB,uC]
         refine zAB 10 rfl (by kernel_rfl) (by rfl) (fun K hK=>?_)
         go_wp2_with fail
         refine hK.out _ _ (hHeld) (fun hHeld=>?_)
         clear hK
         try simp only [Act.put,uA,uB,uC]
         refine zAB 13 rfl (by kernel_rfl) (by rfl) (fun K hK=>?_)
         refine zAi (.tmp 72) (.tmp 74) 108 rfl 22 i0 (.slice none 0 0) 1 24 Tryz.underlying108 hi hz0 hz1 hz2 rfl (by decide) _ m _ rfl HalR.out (.slice (some ⟨W1.heap.size,0,none⟩) 1 1) 1 _ rfl Hxx.out (by simp [Value.oneCell']) (by unfold maxLen;omega) (by omega) ?_
         intro v3 w3 hown3 hgrow3 hloc3
         have HE:=zh (HP.out v3 w3 hown3 hgrow3 hloc3)
         have k4:=zAC HE.out.2.2 (i:=4) rfl
         have f4:=zAI HE.out.2.2 4
         have kt3:w3.cell? ⟨t,0,none⟩=some (.pointer (some ⟨l,0,none⟩)):=(World.cell?_of_block (a:=⟨t,0,none⟩) HE.out.2.1).trans Ht0.out
         obtain ⟨p3,q3,rfl⟩:=OwnR.shape hown3
         clear hown3 hgrow3 hloc3
         refine hK.out _ _ kt3 (fun hHeld=>?_)
         clear hK
         try simp only [Act.put,uA,uB,uC]
         refine pl [14,15] ?_
         iterate 2 (refine pc rfl ?_;simp only [Act.put,uA,uB,uC])
         refine pn ?_
         refine zAB 16 rfl (by kernel_rfl) (by rfl) (fun K hK=>?_)
         go_wp2_with fail
         refine hK.out _ _ ((World.cell?_of_block (a:=⟨t,0,none⟩) (zAE _ htl)).trans kt3) (fun hHeld=>?_)
         clear hK
         try simp only [Act.put,uA,uB,uC]
         refine wpAnyH_done (by kernel_rfl) ?_ _
         go_wp2_with fail
         go_ret
         exact HE.out.1
end
end Go.Proofs.YtapfnehdgailmaaGreat
