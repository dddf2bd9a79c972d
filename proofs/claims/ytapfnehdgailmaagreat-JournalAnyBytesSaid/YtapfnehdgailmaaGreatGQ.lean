/- The document's octet: Num, Nums. (Printed by mkrj1.py.) The document's: Nums, List, record, terms. (Printed by mkrj2.py.) The document's journal: List, first. (Printed by mkrj3.py.) The document's order of a record's checks comes to the same (plain laws). The document's Decode (satrapyref2): the walk. The document's One (satrapyref2). The document's disk: its list of files is laid anew; parts of a list. -/
import Derived.Test.YtapfnehdgailmaaGreatGG
import Derived.Test.YtapfnehdgailmaaGreatGO
set_option maxRecDepth 100000
set_option maxHeartbeats 64000000
namespace Go.Proofs.YtapfnehdgailmaaGreat
open Go.RowKit Go.Sat Go.Maps
structure RowB (w W:World) (v:Value) (l:Bs):Prop where
 own:OwnB W 5 v l
 new:∀ k,v.ownBlock=some k→w.heap.size≤k
 bel:Below w.heap.size w W
theorem RowB.nil (w:World):RowB w w (.slice none 0 0) []:=⟨OwnR.nil _ _ _,fun k hk=>(by cases hk),Below.refl _ _⟩
theorem RowB.next {w W W2:World} {v:Value} {l:Bs} (h:RowB w W v l) (hb:Below W.heap.size W W2):RowB w W2 v l:=⟨zBm h.own hb,h.new,h.bel.trans (hb.mono h.bel.size)⟩
theorem RowB.alloc {w W:World} {v:Value} {l:Bs} (h:RowB w W v l) (o:Obj):RowB w (W.alloc o) v l:=h.next (zAD W o)
theorem RowB.told {w W:World} {v:Value} {l:Bs} (h:RowB w W v l):zBJ w l (.returned v) W:=⟨v,rfl,h.own,h.new,h.bel⟩
theorem RowB.grown {w W0 w3:World} {v v3:Value} {l x:Bs} (h:RowB w W0 v l) (hown:OwnR w3 5 1 v3 (l.length+x.length) (zAQ l ++ zAQ x)) (hg:W0.grownBy w3 v.ownBlock) (hloc:v3.ownBlock=v.ownBlock∨∃ g,v3.ownBlock=some g∧W0.heap.size≤g):RowB w w3 v3 (l ++ x):=by
 refine ⟨?_,zAp hloc h.new h.bel.size,h.bel.grown hg h.bel.size fun j e=>h.new j e⟩
 show OwnR _ _ _ _ (l ++ x).length (zAQ (l ++ x))
 rw [List.length_append,show zAQ (l ++ x)=zAQ l ++ zAQ x from List.map_append]
 exact hown
theorem or_high2 {a:Nat} (ha:a≤4611686018427387904):bits .or .u8 (bits .and .u64 (a:Int) 127 % 256) 128=(((UInt8.ofNat (a % 128+128)).toNat:Nat):Int):=by
 have h1:bits .and .u64 (a:Int) 127=((a % 128:Nat):Int):=by
  refine (u64_and_nat a 127 (by omega) (by decide)).trans ?_
  rw [show (127:Nat)=2 ^ 7 - 1 from rfl,Nat.and_two_pow_sub_one_eq_mod]
 have h2:∀ y:Fin 256,(y.val ||| 128)=y.val % 128+128:=by decide +kernel
 have h3:(a % 128 ||| 128)=a % 128 % 128+128:=h2 ⟨a % 128,by omega⟩
 rw [h1,show ((a % 128:Nat):Int) % 256=((a % 128:Nat):Int) by omega]
 refine (u8_or_nat (a % 128) 128 (by omega) (by decide)).trans ?_
 rw [h3,UInt8.toNat_ofNat']
 omega
theorem zEO (w:World) (z:Int) (hz:-9223372036854775808≤z∧z≤9223372036854775807) :
  Calls Tryz.prog 118 #[.int .i64 z] w (zBJ w (numI z)):=by
 obtain ⟨i0,hi,hz0,hz1,hz2⟩:=info_parts (show (Tryz.prog.info? 5).map (fun i=>(i.zero,i.size,i.bytes))=some (some (.int .u8 0),1,1) by kernel_rfl)
 obtain ⟨hza,hzb⟩:=hz
 have main:∀ (K:Nat),(K=(max 0 (min z 4611686018427387904)).toNat)→K≤4611686018427387904:=fun K hK=>by omega
 have HN:=zh (show numI z=numB (max 0 (min z 4611686018427387904)).toNat from rfl)
 generalize hN:(max 0 (min z 4611686018427387904)).toNat=N at *
 have hN2:N≤4611686018427387904:=main N rfl
 have HNz:=zh hN
 clear main hN
 go_enter Tryz.func118,Tryz.ntmps118
 by_cases h1:4611686018427387904 < z
 ·have hNe:N=4611686018427387904:=by have:=HNz.out;omega
  have HNe:=zh hNe
  clear hNe
  go_wp2_with fail
  go_loopw [3,4] (fun u b wr=>∃ (a:Nat) (cur:Bs) (bv:Value),u=.int .u64 a∧bv=b∧a≤4611686018427387904∧RowB w wr bv cur∧cur ++ numB a=numB N) (fun u _ _=>(intOf u).toNat)
  case atStart=>exact ⟨4611686018427387904,[],_,rfl,rfl,Nat.le_refl _,RowB.nil w,by rw [HNe.out];rfl⟩
  case round =>
   obtain ⟨a,cur,bv,rfl,rfl,ha,hst,hcur⟩:=hrel
   have hlen:=zAe hN2
   rw [← hcur,List.length_append] at hlen
   have hba:=numB_len a
   have Hst:=zh hst
   have Hcur:=zh hcur
   obtain ⟨pv,cv,rfl,-⟩:=zAO hst.own
   clear hst hcur
   generalize hL:cur.length=m at *
   have HL:=zh hL
   clear hL
   have Hrow:=zh (show OwnR wr 5 1 (.slice pv m cv) m (zAQ cur) by have:=Hst.out.own;unfold OwnB at this;rwa [HL.out] at this)
   by_cases h128:128≤a
   ·have Hmore:=zh (zC9 h128)
    have hor:=or_high2 ha
    generalize UInt8.ofNat (a % 128+128)=x at *
    go_wp2_with (at_builtin;have hal:=zCR Hrow.out (.cells #[.int .u8 (x.toNat:Int)] 5);have hxx:=zDp wr x;refine zAP _ rfl (.tmp 13) (.tmp 18) 22 rfl 5 i0 (.int .u8 0) 1 1 Tryz.underlying22 hi hz0 hz1 hz2 rfl (by decide) (.slice pv m cv) m _ rfl hal (.slice (some ⟨wr.heap.size,0,none⟩) 1 1) 1 _ rfl hxx (zAM _) (by unfold maxLen;omega) (by omega) ?_;clear hal hxx;intro v3 w3 hown3 hgrow3 hloc3;go_loud (have HE:=zh (RowB.grown (x:=[x]) (Hst.out.alloc (.cells #[.int .u8 (x.toNat:Int)] 5)) (by rw [HL.out];exact hown3) hgrow3 hloc3);clear hgrow3 hloc3;obtain ⟨p3,q3,rfl⟩:=OwnR.shape hown3;clear hown3))
    go_roundw
    case rel=>exact ⟨a / 128,cur ++ [x],_,by first | rfl | go_num,rfl,by omega,HE.out,by rw [← Hcur.out,Hmore.out];simp⟩
    case measure=>simp [intOf];omega
   ·have Hless:=zh (zB8 (n:=a) (by omega))
    obtain ⟨x,hx⟩:∃ x:UInt8,a=x.toNat:=⟨UInt8.ofNat a,by rw [UInt8.toNat_ofNat'];omega⟩
    rw [show UInt8.ofNat a=x by rw [hx];simp] at Hless
    subst hx
    have hwr:(x.toNat:Int) % 256=(x.toNat:Int):=by omega
    have hax:=x.toNat_lt
    go_wp2_with (at_builtin;have hal:=zCR Hrow.out (.cells #[.int .u8 (x.toNat:Int)] 5);have hxx:=zDp wr x;refine zAP _ rfl (.tmp 22) (.tmp 25) 22 rfl 5 i0 (.int .u8 0) 1 1 Tryz.underlying22 hi hz0 hz1 hz2 rfl (by decide) (.slice pv m cv) m _ rfl hal (.slice (some ⟨wr.heap.size,0,none⟩) 1 1) 1 _ rfl hxx (zAM _) (by unfold maxLen;omega) (by omega) ?_;clear hal hxx;intro v3 w3 hown3 hgrow3 hloc3;go_loud (have HE:=zh (RowB.grown (x:=[x]) (Hst.out.alloc (.cells #[.int .u8 (x.toNat:Int)] 5)) (by rw [HL.out];exact hown3) hgrow3 hloc3);clear hgrow3 hloc3;obtain ⟨p3,q3,rfl⟩:=OwnR.shape hown3;clear hown3))
    go_ret
    have:=HE.out.told
    rw [HN.out,← Hcur.out,Hless.out]
    exact this
 ·by_cases h2:0 < z
  ·have hcv:IntKind.u64.wrap z=z:=by rw [show IntKind.u64.wrap z=z % 18446744073709551616 from rfl];omega
   have hcv2:z % 18446744073709551616=z:=by omega
   have hNe:z=(N:Int):=by have:=HNz.out;omega
   have HNe:=zh hNe
   clear hNe
   go_wp2_with fail
   go_loopw [3,4] (fun u b wr=>∃ (a:Nat) (cur:Bs) (bv:Value),u=.int .u64 a∧bv=b∧a≤4611686018427387904∧RowB w wr bv cur∧cur ++ numB a=numB N) (fun u _ _=>(intOf u).toNat)
   case atStart=>exact ⟨N,[],_,by rw [HNe.out],rfl,hN2,RowB.nil w,rfl⟩
   case round =>
    obtain ⟨a,cur,bv,rfl,rfl,ha,hst,hcur⟩:=hrel
    have hlen:=zAe hN2
    rw [← hcur,List.length_append] at hlen
    have hba:=numB_len a
    have Hst:=zh hst
    have Hcur:=zh hcur
    obtain ⟨pv,cv,rfl,-⟩:=zAO hst.own
    clear hst hcur
    generalize hL:cur.length=m at *
    have HL:=zh hL
    clear hL
    have Hrow:=zh (show OwnR wr 5 1 (.slice pv m cv) m (zAQ cur) by have:=Hst.out.own;unfold OwnB at this;rwa [HL.out] at this)
    by_cases h128:128≤a
    ·have Hmore:=zh (zC9 h128)
     have hor:=or_high2 ha
     generalize UInt8.ofNat (a % 128+128)=x at *
     go_wp2_with (at_builtin;have hal:=zCR Hrow.out (.cells #[.int .u8 (x.toNat:Int)] 5);have hxx:=zDp wr x;refine zAP _ rfl (.tmp 13) (.tmp 18) 22 rfl 5 i0 (.int .u8 0) 1 1 Tryz.underlying22 hi hz0 hz1 hz2 rfl (by decide) (.slice pv m cv) m _ rfl hal (.slice (some ⟨wr.heap.size,0,none⟩) 1 1) 1 _ rfl hxx (zAM _) (by unfold maxLen;omega) (by omega) ?_;clear hal hxx;intro v3 w3 hown3 hgrow3 hloc3;go_loud (have HE:=zh (RowB.grown (x:=[x]) (Hst.out.alloc (.cells #[.int .u8 (x.toNat:Int)] 5)) (by rw [HL.out];exact hown3) hgrow3 hloc3);clear hgrow3 hloc3;obtain ⟨p3,q3,rfl⟩:=OwnR.shape hown3;clear hown3))
     go_roundw
     case rel=>exact ⟨a / 128,cur ++ [x],_,by first | rfl | go_num,rfl,by omega,HE.out,by rw [← Hcur.out,Hmore.out];simp⟩
     case measure=>simp [intOf];omega
    ·have Hless:=zh (zB8 (n:=a) (by omega))
     obtain ⟨x,hx⟩:∃ x:UInt8,a=x.toNat:=⟨UInt8.ofNat a,by rw [UInt8.toNat_ofNat'];omega⟩
     rw [show UInt8.ofNat a=x by rw [hx];simp] at Hless
     subst hx
     have hwr:(x.toNat:Int) % 256=(x.toNat:Int):=by omega
     have hax:=x.toNat_lt
     go_wp2_with (at_builtin;have hal:=zCR Hrow.out (.cells #[.int .u8 (x.toNat:Int)] 5);have hxx:=zDp wr x;refine zAP _ rfl (.tmp 22) (.tmp 25) 22 rfl 5 i0 (.int .u8 0) 1 1 Tryz.underlying22 hi hz0 hz1 hz2 rfl (by decide) (.slice pv m cv) m _ rfl hal (.slice (some ⟨wr.heap.size,0,none⟩) 1 1) 1 _ rfl hxx (zAM _) (by unfold maxLen;omega) (by omega) ?_;clear hal hxx;intro v3 w3 hown3 hgrow3 hloc3;go_loud (have HE:=zh (RowB.grown (x:=[x]) (Hst.out.alloc (.cells #[.int .u8 (x.toNat:Int)] 5)) (by rw [HL.out];exact hown3) hgrow3 hloc3);clear hgrow3 hloc3;obtain ⟨p3,q3,rfl⟩:=OwnR.shape hown3;clear hown3))
     go_ret
     have:=HE.out.told
     rw [HN.out,← Hcur.out,Hless.out]
     exact this
  ·have hNe:N=0:=by have:=HNz.out;omega
   have HNe:=zh hNe
   clear hNe
   go_wp2_with fail
   go_loopw [3,4] (fun u b wr=>∃ (a:Nat) (cur:Bs) (bv:Value),u=.int .u64 a∧bv=b∧a≤4611686018427387904∧RowB w wr bv cur∧cur ++ numB a=numB N) (fun u _ _=>(intOf u).toNat)
   case atStart=>exact ⟨0,[],_,rfl,rfl,by decide,RowB.nil w,by rw [HNe.out];rfl⟩
   case round =>
    obtain ⟨a,cur,bv,rfl,rfl,ha,hst,hcur⟩:=hrel
    have hlen:=zAe hN2
    rw [← hcur,List.length_append] at hlen
    have hba:=numB_len a
    have Hst:=zh hst
    have Hcur:=zh hcur
    obtain ⟨pv,cv,rfl,-⟩:=zAO hst.own
    clear hst hcur
    generalize hL:cur.length=m at *
    have HL:=zh hL
    clear hL
    have Hrow:=zh (show OwnR wr 5 1 (.slice pv m cv) m (zAQ cur) by have:=Hst.out.own;unfold OwnB at this;rwa [HL.out] at this)
    by_cases h128:128≤a
    ·have Hmore:=zh (zC9 h128)
     have hor:=or_high2 ha
     generalize UInt8.ofNat (a % 128+128)=x at *
     go_wp2_with (at_builtin;have hal:=zCR Hrow.out (.cells #[.int .u8 (x.toNat:Int)] 5);have hxx:=zDp wr x;refine zAP _ rfl (.tmp 13) (.tmp 18) 22 rfl 5 i0 (.int .u8 0) 1 1 Tryz.underlying22 hi hz0 hz1 hz2 rfl (by decide) (.slice pv m cv) m _ rfl hal (.slice (some ⟨wr.heap.size,0,none⟩) 1 1) 1 _ rfl hxx (zAM _) (by unfold maxLen;omega) (by omega) ?_;clear hal hxx;intro v3 w3 hown3 hgrow3 hloc3;go_loud (have HE:=zh (RowB.grown (x:=[x]) (Hst.out.alloc (.cells #[.int .u8 (x.toNat:Int)] 5)) (by rw [HL.out];exact hown3) hgrow3 hloc3);clear hgrow3 hloc3;obtain ⟨p3,q3,rfl⟩:=OwnR.shape hown3;clear hown3))
     go_roundw
     case rel=>exact ⟨a / 128,cur ++ [x],_,by first | rfl | go_num,rfl,by omega,HE.out,by rw [← Hcur.out,Hmore.out];simp⟩
     case measure=>simp [intOf];omega
    ·have Hless:=zh (zB8 (n:=a) (by omega))
     obtain ⟨x,hx⟩:∃ x:UInt8,a=x.toNat:=⟨UInt8.ofNat a,by rw [UInt8.toNat_ofNat'];omega⟩
     rw [show UInt8.ofNat a=x by rw [hx];simp] at Hless
     subst hx
     have hwr:(x.toNat:Int) % 256=(x.toNat:Int):=by omega
     have hax:=x.toNat_lt
     go_wp2_with (at_builtin;have hal:=zCR Hrow.out (.cells #[.int .u8 (x.toNat:Int)] 5);have hxx:=zDp wr x;refine zAP _ rfl (.tmp 22) (.tmp 25) 22 rfl 5 i0 (.int .u8 0) 1 1 Tryz.underlying22 hi hz0 hz1 hz2 rfl (by decide) (.slice pv m cv) m _ rfl hal (.slice (some ⟨wr.heap.size,0,none⟩) 1 1) 1 _ rfl hxx (zAM _) (by unfold maxLen;omega) (by omega) ?_;clear hal hxx;intro v3 w3 hown3 hgrow3 hloc3;go_loud (have HE:=zh (RowB.grown (x:=[x]) (Hst.out.alloc (.cells #[.int .u8 (x.toNat:Int)] 5)) (by rw [HL.out];exact hown3) hgrow3 hloc3);clear hgrow3 hloc3;obtain ⟨p3,q3,rfl⟩:=OwnR.shape hown3;clear hown3))
     go_ret
     have:=HE.out.told
     rw [HN.out,← Hcur.out,Hless.out]
     exact this
theorem zBt {w:World} {p:Option Addr} {n c:Nat} {zs:List Int} (hx:HasI w (.slice p n c) zs) (hz:∀ z ∈ zs,-9223372036854775808≤z∧z≤9223372036854775807) (hl:zs.length≤1099511627776) :
  Calls Tryz.prog 172 #[.slice p n c] w (zBJ w (zAh zs)):=by
 obtain ⟨i0,hi,hz0,hz1,hz2⟩:=info_parts (show (Tryz.prog.info? 5).map (fun i=>(i.zero,i.size,i.bytes))=some (some (.int .u8 0),1,1) by kernel_rfl)
 have hn:zs.length=n:=by obtain ⟨_,_,e⟩:=hx.slice;simp only [Value.slice.injEq] at e;exact e.2.1.symm
 have Hn:=zh hn
 have Hx:=zh hx
 have Hz:=zh hz
 have hn40:n≤1099511627776:=by omega
 clear hx hz hl hn
 go_enter Tryz.func172,Tryz.ntmps172
 go_wp2_with fail
 go_loopw [3,4] (fun b i wr=>∃ (k:Nat) (bv:Value),k≤n∧i=.int .i64 k∧bv=b∧RowB w wr bv (zAh (zs.take k))) (fun _ i _=>n - (intOf i).toNat)
 case atStart=>exact ⟨0,_,Nat.zero_le _,rfl,rfl,by rw [List.take_zero];exact RowB.nil w⟩
 case round =>
  obtain ⟨k,bv,hk,rfl,rfl,hst⟩:=hrel
  by_cases hlt:k < n
  ·have hkl:k < zs.length:=by rw [Hn.out];exact hlt
   rcases (show HasI wr (.slice p n c) zs from zAL.chg Hx.out (Chg.of_below hst.bel) fun _ _=>id).at with h0 | ⟨b,o,c2,e2,hcell⟩
   ·rw [h0] at hkl
    simp at hkl
   rw [Hn.out] at e2
   simp only [Value.slice.injEq] at e2
   obtain ⟨rfl,-,rfl⟩:=e2
   have hcz:=hcell k _ (List.getElem?_eq_getElem hkl)
   have hzz:=Hz.out _ (List.getElem_mem hkl)
   have Htk:=zh (numsI_take hkl)
   generalize zs[k]=z at *
   have Hnum:=zh (zEO wr z hzz)
   have Hst:=zh hst
   obtain ⟨pv,cv,rfl,-⟩:=zAO hst.own
   have hlen:=zAy (zs.take k)
   have hlz:=zA9 z
   have hlt2:(zs.take k).length≤n:=by rw [List.length_take,Hn.out];omega
   clear hcell hst hkl hzz
   go_wp2_with fail
   refine Hnum.out.mono ?_
   rintro e w2 ⟨x,rfl,hx2,hxn,hb2⟩
   have HS2:=zh (Hst.out.next hb2)
   have HX2:=zh (OwnB.has hx2)
   obtain ⟨px,cx,rfl,-⟩:=zAO hx2
   clear hx2 hxn hb2 Hnum Hst
   generalize hL:(zAh (zs.take k)).length=m at *
   generalize hL2:(numI z).length=m2 at *
   have HL:=zh (And.intro hL hL2)
   have Hrow:=zh (show OwnR w2 5 1 (.slice pv m cv) m (zAQ (zAh (zs.take k))) by have:=HS2.out.own;unfold OwnB at this;rwa [HL.out.1] at this)
   have Hxx:=zh (show zAL w2 1 (.slice px m2 cx) m2 (zAQ (numI z)) by have:=HX2.out;unfold HasB at this;rwa [HL.out.2] at this)
   clear hL hL2
   go_wp2_with (at_builtin;refine zAP _ rfl (.tmp 11) (.tmp 16) 22 rfl 5 i0 (.int .u8 0) 1 1 Tryz.underlying22 hi hz0 hz1 hz2 rfl (by decide) (.slice pv m cv) m _ rfl Hrow.out (.slice px m2 cx) m2 _ rfl Hxx.out (zAM _) (by unfold maxLen;omega) (by omega) ?_;intro v3 w3 hown3 hgrow3 hloc3;go_loud (have HE:=zh (RowB.grown (x:=numI z) HS2.out (by rw [HL.out.1,HL.out.2];exact hown3) hgrow3 hloc3);clear hgrow3 hloc3;obtain ⟨p3,q3,rfl⟩:=OwnR.shape hown3;clear hown3))
   go_roundw
   case rel=>exact ⟨k+1,_,by omega,by go_num,rfl,by rw [Htk.out];exact HE.out⟩
   case measure=>simp [intOf];omega
  ·have he:zs.take k=zs:=List.take_of_length_le (by rw [Hn.out];omega)
   rw [he] at hst
   have HE:=zh hst.told
   clear hst he
   go_wp2_with fail
   go_ret
   exact HE.out
theorem zBd {w:World} {p:Option Addr} {m c:Nat} {l:Bs} (hx:HasB w (.slice p m c) l) (hl:l.length≤1048576) :
  Calls Tryz.prog 117 #[.slice p m c] w (zBJ w (zAK l)):=by
 have H:=zh (renc_calls hx hl)
 clear hx hl
 go_enter Tryz.func117,Tryz.ntmps117
 go_wp2_with fail
 refine H.out.mono ?_
 rintro e w1 ⟨v,rfl,hv,hn,hb⟩
 have HE:=zh (show zBJ w (zAK l) (.returned v) w1 from ⟨v,rfl,hv,hn,hb⟩)
 clear hv hn hb H
 go_wp2_with fail
 go_ret
 exact HE.out
theorem rowB_lit (w:World) (x:UInt8):RowB w (w.alloc (.cells #[.int .u8 (x.toNat:Int)] 5)) (.slice (some ⟨w.heap.size,0,none⟩) 1 1) [x] :=
 ⟨own_lit #[.int .u8 (x.toNat:Int)] [x] 5 rfl 1 rfl (by decide),fun k hk=>by cases hk;exact Nat.le_refl _,zAD w _⟩
theorem rterms_calls (w:World) (t v:Int) (ht:-9223372036854775808≤t∧t≤9223372036854775807) (hv:-9223372036854775808≤v∧v≤1099511627776) :
  Calls Tryz.prog 116 #[.int .i64 t,.int .i64 v] w (zBJ w (zAK (trmB t v))):=by
 obtain ⟨i0,hi,hz0,hz1,hz2⟩:=info_parts (show (Tryz.prog.info? 5).map (fun i=>(i.zero,i.size,i.bytes))=some (some (.int .u8 0),1,1) by kernel_rfl)
 have hw:IntKind.i64.wrap (v+1)=v+1:=IntWalk.i64_in _ (by omega)
 have Hlit:=zh (rowB_lit w 2)
 have HT:=zh (show [2] ++ zAh [t,v+1]=trmB t v from by simp [zAh,trmB])
 have hnl:=zAy [t,v+1]
 have Hnl:=zh hnl
 have hn2:(zAh [t,v+1]).length≤18:=by simpa using hnl
 have Hnum:=zh (zBt (w:=(w.alloc (.cells #[.int .u8 2] 5)).alloc (.cells #[.int .i64 t,.int .i64 (v+1)] 3)) (p:=some ⟨w.heap.size+1,0,none⟩) (n:=2) (c:=2) (zs:=[t,v+1]) ⟨by simp,some ⟨w.heap.size+1,0,none⟩,2,rfl,fun e=>(by cases e),fun a ha i u hu=>by
  cases ha
  rw [add_zero]
  refine zAA (by have:=zAI (w.alloc (.cells #[.int .u8 2] 5)) (.cells #[.int .i64 t,.int .i64 (v+1)] 3);simpa using this) ?_
  simpa using hu⟩ (by simp;omega) (by simp))
 clear hnl
 go_enter Tryz.func116,Tryz.ntmps116
 go_wp2_with fail
 refine Hnum.out.mono ?_
 rintro e w2 ⟨x,rfl,hx2,hxn,hb2⟩
 have HS2:=zh ((Hlit.out.alloc (.cells #[.int .i64 t,.int .i64 (v+1)] 3)).next hb2)
 have HX2:=zh (OwnB.has hx2)
 obtain ⟨px,cx,rfl,-⟩:=zAO hx2
 clear hx2 hxn hb2 Hnum Hlit
 generalize hL2:(zAh [t,v+1]).length=m2 at *
 have HL:=zh hL2
 have Hrow:=zh (show OwnR w2 5 1 (.slice (some ⟨w.heap.size,0,none⟩) 1 1) 1 (zAQ [2]) from HS2.out.own)
 have Hxx:=zh (show zAL w2 1 (.slice px m2 cx) m2 (zAQ (zAh [t,v+1])) by have:=HX2.out;unfold HasB at this;rwa [HL.out] at this)
 clear hL2
 go_wp2_with (at_builtin;refine zAP _ rfl (.tmp 5) (.tmp 10) 22 rfl 5 i0 (.int .u8 0) 1 1 Tryz.underlying22 hi hz0 hz1 hz2 rfl (by decide) (.slice (some ⟨w.heap.size,0,none⟩) 1 1) 1 _ rfl Hrow.out (.slice px m2 cx) m2 _ rfl Hxx.out (zAM _) (by unfold maxLen;omega) (by omega) ?_;intro v3 w3 hown3 hgrow3 hloc3;go_loud (have hE:=RowB.grown (x:=zAh [t,v+1]) HS2.out (by rw [HL.out];exact hown3) hgrow3 hloc3;rw [HT.out] at hE;have HE:=zh hE;have Hr:=zh (zBd (p:=none) (m:=0) (c:=0) (w:=w3) (l:=[]) ⟨rfl,none,0,rfl,fun _=>rfl,fun a ha=>by cases ha⟩ (by decide));clear hgrow3 hloc3 hE;obtain ⟨p3,q3,rfl⟩:=OwnR.shape hown3;clear hown3))
 have Hrec:=zh (zBd (p:=p3) (m:=1+m2) (c:=q3) (l:=trmB t v) (w:=w3) HE.out.own.has (by rw [← HT.out,List.length_append,HL.out];simp;omega))
 refine Hrec.out.mono ?_
 rintro e w4 ⟨y,rfl,hy,hyn,hb4⟩
 have HF:=zh (show zBJ w (zAK (trmB t v)) (.returned y) w4 from ⟨y,rfl,hy,fun k hk=>Nat.le_trans HE.out.bel.size (hyn k hk),HE.out.bel.trans (hb4.mono HE.out.bel.size)⟩)
 clear hy hyn hb4 Hrec
 go_wp2_with fail
 go_ret
 exact HF.out
theorem zC1 {w:World} {p:Option Addr} {n c:Nat} {l:List Int} (hx:HasI w (.slice p n c) l) (hz:∀ z ∈ l,-9223372036854775808≤z∧z≤9223372036854775807) (hl:l.length≤1073741824) :
  Calls Tryz.prog 173 #[.slice p n c] w (zBJ w (grpB l)):=by
 obtain ⟨i0,hi,hz0,hz1,hz2⟩:=info_parts (show (Tryz.prog.info? 3).map (fun i=>(i.zero,i.size,i.bytes))=some (some (.int .i64 0),1,8) by kernel_rfl)
 have hn:l.length=n:=by obtain ⟨_,_,e⟩:=hx.slice;simp only [Value.slice.injEq] at e;exact e.2.1.symm
 have Hrow:=zh (show OwnR (w.alloc (.cells #[.int .i64 (n:Int)] 3)) 3 1 (.slice (some ⟨w.heap.size,0,none⟩) 1 1) 1 [.int .i64 (n:Int)] from ⟨rfl,.inr ⟨w.heap.size,1,#[.int .i64 (n:Int)],rfl,zAI w _,Nat.le_refl _,by decide,Nat.le_refl _,rfl⟩⟩)
 have Hxx:=zh (show zAL (w.alloc (.cells #[.int .i64 (n:Int)] 3)) 1 (.slice p n c) n (l.map (Value.int .i64)) from by
  have:=zAL.chg hx (Chg.of_below (zAD w (.cells #[.int .i64 (n:Int)] 3))) fun _ _=>id
  rwa [hn] at this)
 have Hn:=zh hn
 have Hz:=zh hz
 have hn30:n≤1073741824:=by omega
 clear hx hn hz hl
 go_enter Tryz.func173,Tryz.ntmps173
 go_wp2_with (at_builtin;refine zAP _ rfl (.tmp 5) (.tmp 6) 38 rfl 3 i0 (.int .i64 0) 1 8 Tryz.underlying38 hi hz0 hz1 hz2 rfl (by decide) (.slice (some ⟨w.heap.size,0,none⟩) 1 1) 1 _ rfl Hrow.out (.slice p n c) n _ rfl Hxx.out (fun u hu=>by obtain ⟨z,-,rfl⟩:=List.mem_map.1 hu;rfl) (by unfold maxLen;omega) (by omega) ?_;intro v3 w3 hown3 hgrow3 hloc3;go_loud (have HB:=zh (show Below w.heap.size w w3 from (zAD w (.cells #[.int .i64 (n:Int)] 3)).grown hgrow3 (zAD w (.cells #[.int .i64 (n:Int)] 3)).size fun j e=>by cases e;exact Nat.le_refl _);clear hgrow3 hloc3;obtain ⟨p3,q3,rfl⟩:=OwnR.shape hown3;have HO:=zh hown3;clear hown3))
 have Hnum:=zh (zBt (w:=w3) (p:=p3) (n:=1+n) (c:=q3) (zs:=(n:Int) :: l) (by
  have:=OwnR.holds HO.out
  unfold HasI
  rw [List.length_cons,Hn.out,Nat.add_comm n 1]
  exact this) (fun z hzm=>by
   rcases List.mem_cons.1 hzm with rfl | h
   ·omega
   ·exact Hz.out z h) (by rw [List.length_cons,Hn.out];omega))
 have HT:=zh (show zAh ((n:Int) :: l)=grpB l from by
  rw [show zAh ((n:Int) :: l)=numI (n:Int) ++ zAh l from rfl,zCK (show n≤4611686018427387904 by omega),← Hn.out]
  rfl)
 rw [HT.out] at Hnum
 refine Hnum.out.mono ?_
 rintro e w4 ⟨y,rfl,hy,hyn,hb4⟩
 have HF:=zh (show zBJ w (grpB l) (.returned y) w4 from ⟨y,rfl,hy,fun k hk=>Nat.le_trans HB.out.size (hyn k hk),HB.out.trans (hb4.mono HB.out.size)⟩)
 clear hy hyn hb4 Hnum
 go_wp2_with fail
 go_ret
 exact HF.out
def fstB0 (n t:Int) (g:List Int):Bs:=1 :: (numI n ++ numI t ++ grpB g)
theorem fstB0_nat {n:Nat} (h:n≤4611686018427387904) (t:Int) (g:List Int):fstB0 (n:Int) t g=fstB n t g:=by
 unfold fstB0 fstB
 rw [zCK h]
abbrev RJC (r:Nat) (n t:Int) (gv:Value) (pre:ByteArray) (now vote:Int) (dv ev:Value) (dead:Bool):Obj:=.cells #[.int .i64 n,.int .i64 t,gv,.pointer (some ⟨r,0,none⟩),.string pre,.int .i64 now,.int .i64 vote,dv,ev,.bool dead] 84 (0,0)
theorem rowB_lit2 {w W:World} (hb:Below w.heap.size w W) (x:UInt8) (g:Nat) (hg:g=W.heap.size):RowB w (W.alloc (.cells #[.int .u8 (x.toNat:Int)] 5)) (.slice (some ⟨g,0,none⟩) 1 1) [x]:=by
 subst hg
 exact ⟨own_lit #[.int .u8 (x.toNat:Int)] [x] 5 rfl 1 rfl (by decide),fun k hk=>by cases hk;exact hb.size,hb.trans ((zAD W _).mono hb.size)⟩
theorem hasI_two (W:World) (n t:Int) (g:Nat) (hg:g=W.heap.size):HasI (W.alloc (.cells #[.int .i64 n,.int .i64 t] 3)) (.slice (some ⟨g,0,none⟩) 2 2) [n,t]:=by
 subst hg
 exact ⟨by simp,some ⟨W.heap.size,0,none⟩,2,rfl,fun e=>(by cases e),fun a ha i u hu=>by
  cases ha
  rw [add_zero]
  refine zAA (zAI W _) ?_
  simpa using hu⟩
theorem grpB_len0 (g:List Int) (h:g.length≤1000):(grpB g).length≤9009:=by
 unfold grpB
 have h1:=zAe (n:=g.length) (by omega)
 have h2:=zAy g
 rw [List.length_append]
 omega
theorem rfirst_calls {w:World} {j r:Nat} {n t:Int} {pre:ByteArray} {now vote:Int} {dv ev:Value} {dead:Bool} {p:Option Addr} {m c:Nat} {g:List Int} (hc:w.heap[j]?=some (RJC r n t (.slice p m c) pre now vote dv ev dead)) (hg:HasI w (.slice p m c) g) (hz:∀ z ∈ g,-9223372036854775808≤z∧z≤9223372036854775807) (hl:g.length≤1000) (hn:-9223372036854775808≤n∧n≤9223372036854775807) (ht:-9223372036854775808≤t∧t≤9223372036854775807) :
  Calls Tryz.prog 167 #[.pointer (some ⟨j,0,none⟩)] w (zBJ w (zAK (fstB0 n t g))):=by
 obtain ⟨i0,hi,hz0,hz1,hz2⟩:=info_parts (show (Tryz.prog.info? 5).map (fun i=>(i.zero,i.size,i.bytes))=some (some (.int .u8 0),1,1) by kernel_rfl)
 have c0:=zAA hc (i:=0) rfl
 have c1:=zAA hc (i:=1) rfl
 have c2:=zAA hc (i:=2) rfl
 have Hg:=zh hg
 have Hz:=zh hz
 have Hl:=zh hl
 clear hg hz c0 c1 c2
 have HT:=zh (show [1] ++ zAh [n,t] ++ grpB g=fstB0 n t g from by simp [zAh,fstB0])
 have hnl:=zAy [n,t]
 have hn2:(zAh [n,t]).length≤18:=by simpa using hnl
 have Hgl:=zh (grpB_len0 g hl)
 clear hnl
 go_enter Tryz.func167,Tryz.ntmps167
 go_wp2_with fail
 refine zAT (fun w':World=>w'.heap[j]?=some (RJC r n t (.slice p m c) pre now vote dv ev dead)) (n:=15) (by kernel_rfl) rfl (hc) (fun hHeld=>?_)
 have HB1:=zh (zAb w)
 have Hj0:=zh hc
 have Hjl:=zh (zAC hc)
 clear hc
 generalize w.drew=W1 at *
 refine otc 1 (v:=?v30x1) rfl ?y30x1 ?_
 case y30x1=>(intro w hSw;have q0:=zAA hSw (i:=0) rfl;have q1:=zAA hSw (i:=1) rfl;go_simp;try with_reducible rfl)
 simp only [Act.put,uA,uB,uC]
 refine otc 2 (v:=?v30x2) rfl ?y30x2 ?_
 case y30x2=>(intro w hSw;have q0:=zAA hSw (i:=0) rfl;have q1:=zAA hSw (i:=1) rfl;go_simp;try with_reducible rfl)
 simp only [Act.put,uA,uB,uC]
 refine otc 3 (v:=?v30x3) rfl ?y30x3 ?_
 case y30x3=>(intro w hSw;have q0:=zAA hSw (i:=0) rfl;have q1:=zAA hSw (i:=1) rfl;go_simp;try with_reducible rfl)
 simp only [Act.put,uA,uB,uC]
 refine otc 4 (v:=?v30x4) rfl ?y30x4 ?_
 case y30x4=>(intro w hSw;have q0:=zAA hSw (i:=0) rfl;have q1:=zAA hSw (i:=1) rfl;go_simp;try with_reducible rfl)
 simp only [Act.put,uA,uB,uC]
 refine otc 5 (v:=?v30x5) rfl ?y30x5 ?_
 case y30x5=>(intro w hSw;have q0:=zAA hSw (i:=0) rfl;have q1:=zAA hSw (i:=1) rfl;go_simp;try with_reducible rfl)
 simp only [Act.put,uA,uB,uC]
 refine otc 6 (v:=?v30x6) rfl ?y30x6 ?_
 case y30x6=>(intro w hSw;have q0:=zAA hSw (i:=0) rfl;have q1:=zAA hSw (i:=1) rfl;go_simp;try with_reducible rfl)
 simp only [Act.put,uA,uB,uC]
 refine otc 7 (v:=?v30x7) rfl ?y30x7 ?_
 case y30x7=>(intro w hSw;have q0:=zAA hSw (i:=0) rfl;have q1:=zAA hSw (i:=1) rfl;go_simp;try with_reducible rfl)
 simp only [Act.put,uA,uB,uC]
 refine otc 8 (v:=?v30x8) rfl ?y30x8 ?_
 case y30x8=>(intro w hSw;have q0:=zAA hSw (i:=0) rfl;have q1:=zAA hSw (i:=1) rfl;go_simp;try with_reducible rfl)
 simp only [Act.put,uA,uB,uC]
 refine otc 9 (v:=?v30x9) rfl ?y30x9 ?_
 case y30x9=>(intro w hSw;have q0:=zAA hSw (i:=0) rfl;have q1:=zAA hSw (i:=1) rfl;go_simp;try with_reducible rfl)
 simp only [Act.put,uA,uB,uC]
 refine otc 10 (v:=?v30x10) rfl ?y30x10 ?_
 case y30x10=>(intro w hSw;have q0:=zAA hSw (i:=0) rfl;have q1:=zAA hSw (i:=1) rfl;go_simp;try with_reducible rfl)
 simp only [Act.put,uA,uB,uC]
 refine zCV 0 11 rfl rfl (by kernel_rfl) (by rfl) (by rfl) (fun K hK=>?_) (fun K hK=>?_)
 ·have Hj2:=zh ((zCw W1 (.cells #[.int .u8 1] 5) (zAC hHeld)).trans hHeld)
  have HR2:=zh (rowB_lit2 HB1.out 1 (W1.heap.size) (by simp))
  have HB2:=zh (HR2.out.bel)
  go_wp2_with fail
  refine hK.out _ _ (Hj2.out) (fun hHeld=>?_)
  clear hK
  try simp only [Act.put,uA,uB,uC]
  refine zAG 11 rfl (by kernel_rfl) (by rfl) (fun K hK=>?_)
  have Hj3:=zh ((zCw (W1.alloc (.cells #[.int .u8 1] 5)) (.cells #[.int .i64 n,.int .i64 t] 3) (zAC hHeld)).trans hHeld)
  have HI3:=zh (hasI_two (W1.alloc (.cells #[.int .u8 1] 5)) n t (W1.heap.size+1) (by simp))
  have HB3:=zh (HB2.out.trans ((zAD (W1.alloc (.cells #[.int .u8 1] 5)) (.cells #[.int .i64 n,.int .i64 t] 3)).mono HB2.out.size))
  go_wp2_with fail
  refine hK.out _ _ (Hj3.out) (fun hHeld=>?_)
  clear hK
  try simp only [Act.put,uA,uB,uC]
  refine zAG 12 rfl (by kernel_rfl) (by rfl) (fun K hK=>?_)
  have Hnum:=zh (zBt HI3.out (by simp;omega) (by simp))
  go_wp2_with fail
  refine Hnum.out.mono ?_
  rintro e w2 ⟨x,rfl,hx2,hxn,hb2⟩
  have Hj4:=zh ((hb2.block _ (zAC hHeld)).trans hHeld)
  have HB4:=zh (HB3.out.trans (hb2.mono HB3.out.size))
  have HX4:=zh hx2
  have Hb4:=zh hb2
  obtain ⟨px,cx,rfl,-⟩:=zAO hx2
  clear hx2 hxn hb2 Hnum
  generalize hL2:(zAh [n,t]).length=m2 at *
  have HL:=zh hL2
  clear hL2
  go_wp2_with fail
  refine hK.out _ _ (Hj4.out) (fun hHeld=>?_)
  clear hK
  try simp only [Act.put,uA,uB,uC]
  have HR9:=zh ((HR2.out.next (zAD _ (.cells #[.int .i64 n,.int .i64 t] 3))).next Hb4.out)
  have HX9:=zh (OwnB.has HX4.out)
  have Hrow:=zh (show OwnR w2 5 1 (.slice (some ⟨W1.heap.size,0,none⟩) 1 1) 1 (zAQ [1]) from HR9.out.own)
  have Hxx:=zh (show zAL w2 1 (.slice px m2 cx) m2 (zAQ (zAh [n,t])) by have:=HX9.out;unfold HasB at this;rwa [HL.out] at this)
  refine zAG 13 rfl (by kernel_rfl) (by rfl) (fun K hK=>?_)
  refine zAj (.tmp 4) (.tmp 16) 22 rfl 5 i0 (.int .u8 0) 1 1 Tryz.underlying22 hi hz0 hz1 hz2 rfl (by decide) (.slice (some ⟨W1.heap.size,0,none⟩) 1 1) 1 _ rfl Hrow.out (.slice px m2 cx) m2 _ rfl Hxx.out (zAM _) (by unfold maxLen;omega) (by omega) ?_
  intro v3 w3 hown3 hgrow3 hloc3
  have HE:=zh (RowB.grown (x:=zAh [n,t]) HR9.out (by rw [HL.out];exact hown3) hgrow3 hloc3)
  have Hj3:=zh ((HE.out.bel.block j Hjl.out).trans Hj0.out)
  obtain ⟨p3,q3,rfl⟩:=OwnR.shape hown3
  have Hrow3:=zh hown3
  clear hown3 hgrow3 hloc3
  refine hK.out _ _ (Hj3.out) (fun hHeld=>?_)
  clear hK
  try simp only [Act.put,uA,uB,uC]
  refine otk 14 (v:=?v31x14) rfl ?_
  simp only [Act.put,uA,uB,uC]
  refine wpAnyH_done (by kernel_rfl) ?_ _
  have d2:=zAA Hj3.out (i:=2) rfl
  have Hls:=zh (zC1 (w:=w3) (p:=p) (n:=m) (c:=c) (l:=g) (zAL.chg Hg.out (Chg.of_below HE.out.bel) fun _ _=>id) Hz.out (Nat.le_trans Hl.out (by decide)))
  go_wp2_with fail
  refine Hls.out.mono ?_
  rintro e w4 ⟨y,rfl,hy,hyn,hb4⟩
  have HE4:=zh (HE.out.next hb4)
  have HY4:=zh (OwnB.has hy)
  obtain ⟨py,cy,rfl,-⟩:=zAO hy
  clear hy hyn hb4 Hls d2
  generalize hL3:(grpB g).length=m3 at *
  have HL3:=zh hL3
  have hm3:m3≤10000:=by
   have h1:=Hgl.out
   omega
  have HLen:=zh (show (([1]:Bs) ++ zAh [n,t]).length=1+m2 from by rw [List.length_append,HL.out];rfl)
  have Hrow4:=zh (show OwnR w4 5 1 (.slice p3 (1+m2) q3) (1+m2) (zAQ ([1] ++ zAh [n,t])) by have:=HE4.out.own;unfold OwnB at this;rwa [HLen.out] at this)
  have Hyy:=zh (show zAL w4 1 (.slice py m3 cy) m3 (zAQ (grpB g)) by have:=HY4.out;unfold HasB at this;rwa [HL3.out] at this)
  clear hL3
  go_wp2_with (at_builtin;refine zAP _ rfl (.tmp 18) (.tmp 24) 22 rfl 5 i0 (.int .u8 0) 1 1 Tryz.underlying22 hi hz0 hz1 hz2 rfl (by decide) (.slice p3 (1+m2) q3) (1+m2) _ rfl Hrow4.out (.slice py m3 cy) m3 _ rfl Hyy.out (zAM _) (by unfold maxLen;omega) (by omega) ?_;intro v5 w5 hown5 hgrow5 hloc5;go_loud (have hE:=RowB.grown (x:=grpB g) HE4.out (by rw [HLen.out,HL3.out];exact hown5) hgrow5 hloc5;rw [HT.out] at hE;have HE5:=zh hE;clear hgrow5 hloc5 hE;obtain ⟨p5,q5,rfl⟩:=OwnR.shape hown5;clear hown5))
  have Hrec:=zh (zBd (p:=p5) (m:=1+m2+m3) (c:=q5) (l:=fstB0 n t g) (w:=w5) HE5.out.own.has (by rw [← HT.out,List.length_append,List.length_append,HL.out,HL3.out];simp;omega))
  refine Hrec.out.mono ?_
  rintro e w6 ⟨z,rfl,hz6,hzn,hb6⟩
  have HF:=zh (show zBJ w (zAK (fstB0 n t g)) (.returned z) w6 from ⟨z,rfl,hz6,fun k hk=>Nat.le_trans HE5.out.bel.size (hzn k hk),HE5.out.bel.trans (hb6.mono HE5.out.bel.size)⟩)
  clear hz6 hzn hb6 Hrec
  go_wp2_with fail
  go_ret
  exact HF.out
 ·have Hj2:=zh ((zCw W1 (.cells #[.int .i64 n,.int .i64 t] 3) (zAC hHeld)).trans hHeld)
  have HI2:=zh (hasI_two W1 n t (W1.heap.size) (by simp))
  have HB2:=zh (HB1.out.trans ((zAD W1 (.cells #[.int .i64 n,.int .i64 t] 3)).mono HB1.out.size))
  go_wp2_with fail
  refine hK.out _ _ (Hj2.out) (fun hHeld=>?_)
  clear hK
  try simp only [Act.put,uA,uB,uC]
  refine zCV 0 12 rfl rfl (by kernel_rfl) (by rfl) (by rfl) (fun K hK=>?_) (fun K hK=>?_)
  ·have Hj3:=zh ((zCw (W1.alloc (.cells #[.int .i64 n,.int .i64 t] 3)) (.cells #[.int .u8 1] 5) (zAC hHeld)).trans hHeld)
   have HR3:=zh (rowB_lit2 HB2.out 1 (W1.heap.size+1) (by simp))
   have HB3:=zh (HR3.out.bel)
   go_wp2_with fail
   refine hK.out _ _ (Hj3.out) (fun hHeld=>?_)
   clear hK
   try simp only [Act.put,uA,uB,uC]
   refine zAG 12 rfl (by kernel_rfl) (by rfl) (fun K hK=>?_)
   have HI3:=zh (show HasI ((W1.alloc (.cells #[.int .i64 n,.int .i64 t] 3)).alloc (.cells #[.int .u8 1] 5)) _ [n,t] from zAL.chg HI2.out (Chg.of_below (zAD _ (.cells #[.int .u8 1] 5))) fun _ _=>id)
   have Hnum:=zh (zBt HI3.out (by simp;omega) (by simp))
   go_wp2_with fail
   refine Hnum.out.mono ?_
   rintro e w2 ⟨x,rfl,hx2,hxn,hb2⟩
   have Hj4:=zh ((hb2.block _ (zAC hHeld)).trans hHeld)
   have HB4:=zh (HB3.out.trans (hb2.mono HB3.out.size))
   have HX4:=zh hx2
   have Hb4:=zh hb2
   obtain ⟨px,cx,rfl,-⟩:=zAO hx2
   clear hx2 hxn hb2 Hnum
   generalize hL2:(zAh [n,t]).length=m2 at *
   have HL:=zh hL2
   clear hL2
   go_wp2_with fail
   refine hK.out _ _ (Hj4.out) (fun hHeld=>?_)
   clear hK
   try simp only [Act.put,uA,uB,uC]
   have HR9:=zh (HR3.out.next Hb4.out)
   have HX9:=zh (OwnB.has HX4.out)
   have Hrow:=zh (show OwnR w2 5 1 (.slice (some ⟨W1.heap.size+1,0,none⟩) 1 1) 1 (zAQ [1]) from HR9.out.own)
   have Hxx:=zh (show zAL w2 1 (.slice px m2 cx) m2 (zAQ (zAh [n,t])) by have:=HX9.out;unfold HasB at this;rwa [HL.out] at this)
   refine zAG 13 rfl (by kernel_rfl) (by rfl) (fun K hK=>?_)
   refine zAj (.tmp 4) (.tmp 16) 22 rfl 5 i0 (.int .u8 0) 1 1 Tryz.underlying22 hi hz0 hz1 hz2 rfl (by decide) (.slice (some ⟨W1.heap.size+1,0,none⟩) 1 1) 1 _ rfl Hrow.out (.slice px m2 cx) m2 _ rfl Hxx.out (zAM _) (by unfold maxLen;omega) (by omega) ?_
   intro v3 w3 hown3 hgrow3 hloc3
   have HE:=zh (RowB.grown (x:=zAh [n,t]) HR9.out (by rw [HL.out];exact hown3) hgrow3 hloc3)
   have Hj3:=zh ((HE.out.bel.block j Hjl.out).trans Hj0.out)
   obtain ⟨p3,q3,rfl⟩:=OwnR.shape hown3
   have Hrow3:=zh hown3
   clear hown3 hgrow3 hloc3
   refine hK.out _ _ (Hj3.out) (fun hHeld=>?_)
   clear hK
   try simp only [Act.put,uA,uB,uC]
   refine otk 14 (v:=?v32x14) rfl ?_
   simp only [Act.put,uA,uB,uC]
   refine wpAnyH_done (by kernel_rfl) ?_ _
   have d2:=zAA Hj3.out (i:=2) rfl
   have Hls:=zh (zC1 (w:=w3) (p:=p) (n:=m) (c:=c) (l:=g) (zAL.chg Hg.out (Chg.of_below HE.out.bel) fun _ _=>id) Hz.out (Nat.le_trans Hl.out (by decide)))
   go_wp2_with fail
   refine Hls.out.mono ?_
   rintro e w4 ⟨y,rfl,hy,hyn,hb4⟩
   have HE4:=zh (HE.out.next hb4)
   have HY4:=zh (OwnB.has hy)
   obtain ⟨py,cy,rfl,-⟩:=zAO hy
   clear hy hyn hb4 Hls d2
   generalize hL3:(grpB g).length=m3 at *
   have HL3:=zh hL3
   have hm3:m3≤10000:=by
    have h1:=Hgl.out
    omega
   have HLen:=zh (show (([1]:Bs) ++ zAh [n,t]).length=1+m2 from by rw [List.length_append,HL.out];rfl)
   have Hrow4:=zh (show OwnR w4 5 1 (.slice p3 (1+m2) q3) (1+m2) (zAQ ([1] ++ zAh [n,t])) by have:=HE4.out.own;unfold OwnB at this;rwa [HLen.out] at this)
   have Hyy:=zh (show zAL w4 1 (.slice py m3 cy) m3 (zAQ (grpB g)) by have:=HY4.out;unfold HasB at this;rwa [HL3.out] at this)
   clear hL3
   go_wp2_with (at_builtin;refine zAP _ rfl (.tmp 18) (.tmp 24) 22 rfl 5 i0 (.int .u8 0) 1 1 Tryz.underlying22 hi hz0 hz1 hz2 rfl (by decide) (.slice p3 (1+m2) q3) (1+m2) _ rfl Hrow4.out (.slice py m3 cy) m3 _ rfl Hyy.out (zAM _) (by unfold maxLen;omega) (by omega) ?_;intro v5 w5 hown5 hgrow5 hloc5;go_loud (have hE:=RowB.grown (x:=grpB g) HE4.out (by rw [HLen.out,HL3.out];exact hown5) hgrow5 hloc5;rw [HT.out] at hE;have HE5:=zh hE;clear hgrow5 hloc5 hE;obtain ⟨p5,q5,rfl⟩:=OwnR.shape hown5;clear hown5))
   have Hrec:=zh (zBd (p:=p5) (m:=1+m2+m3) (c:=q5) (l:=fstB0 n t g) (w:=w5) HE5.out.own.has (by rw [← HT.out,List.length_append,List.length_append,HL.out,HL3.out];simp;omega))
   refine Hrec.out.mono ?_
   rintro e w6 ⟨z,rfl,hz6,hzn,hb6⟩
   have HF:=zh (show zBJ w (zAK (fstB0 n t g)) (.returned z) w6 from ⟨z,rfl,hz6,fun k hk=>Nat.le_trans HE5.out.bel.size (hzn k hk),HE5.out.bel.trans (hb6.mono HE5.out.bel.size)⟩)
   clear hz6 hzn hb6 Hrec
   go_wp2_with fail
   go_ret
   exact HF.out
  ·have Hnum:=zh (zBt HI2.out (by simp;omega) (by simp))
   go_wp2_with fail
   refine Hnum.out.mono ?_
   rintro e w2 ⟨x,rfl,hx2,hxn,hb2⟩
   have Hj3:=zh ((hb2.block _ (zAC hHeld)).trans hHeld)
   have HB3:=zh (HB2.out.trans (hb2.mono HB2.out.size))
   have HX3:=zh hx2
   have Hb3:=zh hb2
   obtain ⟨px,cx,rfl,-⟩:=zAO hx2
   clear hx2 hxn hb2 Hnum
   generalize hL2:(zAh [n,t]).length=m2 at *
   have HL:=zh hL2
   clear hL2
   go_wp2_with fail
   refine hK.out _ _ (Hj3.out) (fun hHeld=>?_)
   clear hK
   try simp only [Act.put,uA,uB,uC]
   refine zAG 0 rfl (by kernel_rfl) (by rfl) (fun K hK=>?_)
   have Hj4:=zh ((zCw w2 (.cells #[.int .u8 1] 5) (zAC hHeld)).trans hHeld)
   have HR4:=zh (rowB_lit2 HB3.out 1 (w2.heap.size) (by simp))
   have HB4:=zh (HR4.out.bel)
   go_wp2_with fail
   refine hK.out _ _ (Hj4.out) (fun hHeld=>?_)
   clear hK
   try simp only [Act.put,uA,uB,uC]
   have HR9:=zh HR4.out
   have HX9:=zh (OwnB.has (zBm HX3.out (zAD w2 (.cells #[.int .u8 1] 5))))
   have Hrow:=zh (show OwnR (w2.alloc (.cells #[.int .u8 1] 5)) 5 1 (.slice (some ⟨w2.heap.size,0,none⟩) 1 1) 1 (zAQ [1]) from HR9.out.own)
   have Hxx:=zh (show zAL (w2.alloc (.cells #[.int .u8 1] 5)) 1 (.slice px m2 cx) m2 (zAQ (zAh [n,t])) by have:=HX9.out;unfold HasB at this;rwa [HL.out] at this)
   refine zAG 13 rfl (by kernel_rfl) (by rfl) (fun K hK=>?_)
   refine zAj (.tmp 4) (.tmp 16) 22 rfl 5 i0 (.int .u8 0) 1 1 Tryz.underlying22 hi hz0 hz1 hz2 rfl (by decide) (.slice (some ⟨w2.heap.size,0,none⟩) 1 1) 1 _ rfl Hrow.out (.slice px m2 cx) m2 _ rfl Hxx.out (zAM _) (by unfold maxLen;omega) (by omega) ?_
   intro v3 w3 hown3 hgrow3 hloc3
   have HE:=zh (RowB.grown (x:=zAh [n,t]) HR9.out (by rw [HL.out];exact hown3) hgrow3 hloc3)
   have Hj3:=zh ((HE.out.bel.block j Hjl.out).trans Hj0.out)
   obtain ⟨p3,q3,rfl⟩:=OwnR.shape hown3
   have Hrow3:=zh hown3
   clear hown3 hgrow3 hloc3
   refine hK.out _ _ (Hj3.out) (fun hHeld=>?_)
   clear hK
   try simp only [Act.put,uA,uB,uC]
   refine otk 14 (v:=?v33x14) rfl ?_
   simp only [Act.put,uA,uB,uC]
   refine wpAnyH_done (by kernel_rfl) ?_ _
   have d2:=zAA Hj3.out (i:=2) rfl
   have Hls:=zh (zC1 (w:=w3) (p:=p) (n:=m) (c:=c) (l:=g) (zAL.chg Hg.out (Chg.of_below HE.out.bel) fun _ _=>id) Hz.out (Nat.le_trans Hl.out (by decide)))
   go_wp2_with fail
   refine Hls.out.mono ?_
   rintro e w4 ⟨y,rfl,hy,hyn,hb4⟩
   have HE4:=zh (HE.out.next hb4)
   have HY4:=zh (OwnB.has hy)
   obtain ⟨py,cy,rfl,-⟩:=zAO hy
   clear hy hyn hb4 Hls d2
   generalize hL3:(grpB g).length=m3 at *
   have HL3:=zh hL3
   have hm3:m3≤10000:=by
    have h1:=Hgl.out
    omega
   have HLen:=zh (show (([1]:Bs) ++ zAh [n,t]).length=1+m2 from by rw [List.length_append,HL.out];rfl)
   have Hrow4:=zh (show OwnR w4 5 1 (.slice p3 (1+m2) q3) (1+m2) (zAQ ([1] ++ zAh [n,t])) by have:=HE4.out.own;unfold OwnB at this;rwa [HLen.out] at this)
   have Hyy:=zh (show zAL w4 1 (.slice py m3 cy) m3 (zAQ (grpB g)) by have:=HY4.out;unfold HasB at this;rwa [HL3.out] at this)
   clear hL3
   go_wp2_with (at_builtin;refine zAP _ rfl (.tmp 18) (.tmp 24) 22 rfl 5 i0 (.int .u8 0) 1 1 Tryz.underlying22 hi hz0 hz1 hz2 rfl (by decide) (.slice p3 (1+m2) q3) (1+m2) _ rfl Hrow4.out (.slice py m3 cy) m3 _ rfl Hyy.out (zAM _) (by unfold maxLen;omega) (by omega) ?_;intro v5 w5 hown5 hgrow5 hloc5;go_loud (have hE:=RowB.grown (x:=grpB g) HE4.out (by rw [HLen.out,HL3.out];exact hown5) hgrow5 hloc5;rw [HT.out] at hE;have HE5:=zh hE;clear hgrow5 hloc5 hE;obtain ⟨p5,q5,rfl⟩:=OwnR.shape hown5;clear hown5))
   have Hrec:=zh (zBd (p:=p5) (m:=1+m2+m3) (c:=q5) (l:=fstB0 n t g) (w:=w5) HE5.out.own.has (by rw [← HT.out,List.length_append,List.length_append,HL.out,HL3.out];simp;omega))
   refine Hrec.out.mono ?_
   rintro e w6 ⟨z,rfl,hz6,hzn,hb6⟩
   have HF:=zh (show zBJ w (zAK (fstB0 n t g)) (.returned z) w6 from ⟨z,rfl,hz6,fun k hk=>Nat.le_trans HE5.out.bel.size (hzn k hk),HE5.out.bel.trans (hb6.mono HE5.out.bel.size)⟩)
   clear hz6 hzn hb6 Hrec
   go_wp2_with fail
   go_ret
   exact HF.out
theorem four_inv (a0 a1 a2 a3:UInt8):zAn (ofFour a0 a1 a2 a3)=[a0,a1,a2,a3]:=by
 have l0:=a0.toNat_lt
 have l1:=a1.toNat_lt
 have l2:=a2.toNat_lt
 have l3:=a3.toNat_lt
 have e:∀ (n:Nat) (a:UInt8),n % 256=a.toNat→UInt8.ofNat n=a:=fun n a h=>by
  apply UInt8.toNat_inj.1
  rw [UInt8.toNat_ofNat']
  exact h
 unfold zAn ofFour
 rw [e _ a0 (by omega),e _ a1 (by omega),e _ a2 (by omega),e _ a3 (by omega)]
theorem fourAt_inv {b:Bs} (h:4≤b.length):zAn (fourAt b)=b.take 4:=by
 match b,h with
 | a0 :: a1 :: a2 :: a3 :: r,_=>exact four_inv a0 a1 a2 a3
theorem four_inj {m n:Nat} (hm:m < 4294967296) (hn:n < 4294967296) (h:zAn m=zAn n):m=n:=by
 have e1:=zCk m hm []
 have e2:=zCk n hn []
 rw [h] at e1
 omega
theorem head_iff {b:Bs} (h:8≤b.length):b.take 8=zBp (fourAt b) ↔ fourAt (b.drop 4)=sumN (b.take 4):=by
 have h1:=fourAt_inv (b:=b) (by omega)
 have h2:=fourAt_inv (b:=b.drop 4) (by rw [List.length_drop];omega)
 have e8:b.take 8=b.take 4 ++ (b.drop 4).take 4:=by rw [← List.take_add]
 have eh:zBp (fourAt b)=b.take 4 ++ zAn (sumN (b.take 4)):=by
  show zAn (fourAt b) ++ zAn (sumN (zAn (fourAt b)))=_
  rw [h1]
 rw [e8,eh,List.append_cancel_left_eq,← h2]
 exact ⟨fun e=>four_inj (zCl _) (zES _) e,fun e=>by rw [e]⟩
theorem zCA {P:Program} {f:FuncId} {args:Array Value} {w:World} {n:Nat} {v:Value} (h:Calls P f args (w.drewN n) fun e w'=>e=.returned v∧∃ q,w'=(w.drewN n).drewN q):Calls P f args (w.drewN n) fun e w''=>e=.returned v∧∃ m,w''=w.drewN m :=
 h.mono fun _ _ ⟨he,q,hq⟩=>⟨he,n+q,by rw [hq,World.drewN_drewN]⟩
theorem run_window {P:Program} (W:World) (t e:TypeId) (ht:P.underlying t=some (.slice e)) (hz:∀ w,(Go.sizeOf e).run P w=.ok 1 w) (b o len cap l h:Nat) (hlh:l≤h) (hh:h≤cap) (hl:l < cap) :
  (Instr.slice t (.slice (some ⟨b,o,none⟩) len cap) (some (.int .i64 (l:Int))) (some (.int .i64 (h:Int))) none).run P W=.ok (.slice (some ⟨b,o+l,none⟩) (h - l) (cap - l)) W:=by
 have ht':P.underlying t=some (.slice (P.elem t)):=by simp [Program.elem,ht]
 have he:P.elem t=e:=by simp [Program.elem,ht]
 rw [run_slice_lh W t _ _ _ ht' .i64 .i64 _ _ (by omega) (by omega) (by omega),he,hz]
 have hne:¬ cap=l:=by omega
 by_cases h0:l=0
 ·subst h0
  simp [Result.andThen,sliced,Addr.add,hne]
 ·simp [Result.andThen,sliced,Addr.add,hne,h0]
theorem zAf (w:World) (n:Nat):Below w.heap.size w (w.drewN n):=⟨rfl,rfl,rfl,Nat.le_refl _,fun _ _=>rfl⟩
theorem zCx {w W:World} (h:Below w.heap.size w W) (n:Nat):Below w.heap.size w (W.drewN n):=h.trans ⟨rfl,rfl,rfl,Nat.le_refl _,fun _ _=>rfl⟩
theorem rdec_calls {w:World} {p:Option Addr} {n c:Nat} {b:Bs} (h:HasB w (.slice p n c) b) (hnc:n≤c) (hl:b.length≤140737488355328) :
  Calls Tryz.prog 165 #[.slice p n c] w (zDG w b):=by
 have hn:n=b.length:=(zBw h).1
 subst hn
 obtain ⟨i0,hi,hz0,hz1,hz2⟩:=info_parts (show (Tryz.prog.info? 5).map (fun i=>(i.zero,i.size,i.bytes))=some (some (.int .u8 0),1,1) by kernel_rfl)
 by_cases h8:b.length < 8
 ·have Hfin:=zh (zBC (w:=w) (w':=w) (b:=b) (k:=2) (by unfold decE;rw [if_pos h8]) (by decide) (Below.refl _ _))
  generalize hN:b.length=N at *
  clear hN h
  go_enter Tryz.func165,Tryz.ntmps165
  go_wp2_with fail
  go_ret3
  exact Hfin.out
 ·have hpos:0 < b.length:=by omega
  rcases h.at with e | ⟨g,o,c2,e,-⟩
  ·rw [e] at hpos
   simp at hpos
  cases e
  have H4:=zh (fun (W:World) (hb:Below w.heap.size w W)=>rfour_at (HasB.from (h.below hb) (k:=4) (by omega) (c - 4)) (by rw [List.length_drop];omega))
  have HS:=zh (fun (W:World) (hb:Below w.heap.size w W)=>zEB (HasB.cut (h.below hb) (k:=4) (by omega) c) (by rw [List.length_take];omega))
  have hs1:∀ W,(Instr.slice 22 (.slice (some ⟨g,o,none⟩) b.length c) (some (.int .i64 4)) none none).run Tryz.prog W=.ok (.slice (some ⟨g,o+4,none⟩) (b.length - 4) (c - 4)) W:=fun W=>run_from W Tryz.underlying22 hi hz1 g o b.length c 4 (by omega) hnc (by omega)
  have hs2:∀ W,(Instr.slice 22 (.slice (some ⟨g,o,none⟩) b.length c) none (some (.int .i64 4)) none).run Tryz.prog W=.ok (.slice (some ⟨g,o,none⟩) 4 c) W:=fun W=>zB0 W Tryz.underlying22 hi _ _ c 4 (by omega)
  by_cases hh:fourAt (b.drop 4)=sumN (b.take 4)
  ·have hhead:=(head_iff (b:=b) (by omega)).2 hh
   have heq:((fourAt (b.drop 4):Int) != sumF (b.take 4))=false:=by rw [zCd];simp;omega
   have HF:=zh (fun (W:World) (hb:Below w.heap.size w W)=>rfour_at (h.below hb) (by omega))
   by_cases hm:1048576 < fourAt b
   ·have Hfin:=zh (fun W=>zBC (w:=w) (w':=W) (b:=b) (k:=5) (by unfold decE;rw [if_neg h8,if_neg (by simpa using hhead),if_pos hm]) (by decide))
    have hlt:=zCl b
    generalize fourAt (b.drop 4)=x at *
    generalize sumF (b.take 4)=y at *
    generalize fourAt b=z at *
    generalize b.length=N at *
    clear h hh hhead
    go_enter Tryz.func165,Tryz.ntmps165
    go_wp2_with fail
    go_quiet ((first | (go_at_call 197;refine zCA (H4.out _ (zAf _ _))) | (go_at_call 184;refine Calls.quiet_of_same (HS.out _ (zAf _ _)))))
    go_wp2_with fail
    refine (HF.out _ (zAf _ _)).mono ?_
    rintro e w2 ⟨rfl,q2,rfl⟩
    go_wp2_with fail
    go_ret3
    exact Hfin.out _ (zAf _ _)
   ·by_cases hd:b.length < fourAt b+12
    ·have Hfin:=zh (fun W=>zBC (w:=w) (w':=W) (b:=b) (k:=2) (by unfold decE;rw [if_neg h8,if_neg (by simpa using hhead),if_neg hm,if_pos hd]) (by decide))
     have hlt:=zCl b
     generalize fourAt (b.drop 4)=x at *
     generalize sumF (b.take 4)=y at *
     generalize fourAt b=z at *
     generalize b.length=N at *
     clear h hh hhead
     go_enter Tryz.func165,Tryz.ntmps165
     go_wp2_with fail
     go_quiet ((first | (go_at_call 197;refine zCA (H4.out _ (zAf _ _))) | (go_at_call 184;refine Calls.quiet_of_same (HS.out _ (zAf _ _)))))
     go_wp2_with fail
     refine (HF.out _ (zAf _ _)).mono ?_
     rintro e w2 ⟨rfl,q2,rfl⟩
     go_wp2_with fail
     go_ret3
     exact Hfin.out _ (zAf _ _)
    ·have hlt:=zCl b
     have H8:=zh (fun (W:World) (hb:Below w.heap.size w W)=>rfour_at (HasB.from (h.below hb) (k:=8+fourAt b) (by omega) (c - (8+fourAt b))) (by rw [List.length_drop];omega))
     have HS8:=zh (fun (W:World) (hb:Below w.heap.size w W)=>zEB (HasB.cut (h.below hb) (k:=8+fourAt b) (by omega) c) (by rw [List.length_take];omega))
     have HxW:=zh (show ∀ W,Below w.heap.size w W→zAL W 1 (.slice (some ⟨g,o+8,none⟩) (fourAt b) (c - 8)) (fourAt b) (zAQ ((b.drop 8).take (fourAt b))) from fun W hb=>by
      have h2:=HasB.cut (HasB.from (h.below hb) (k:=8) (by omega) (c - 8)) (k:=fourAt b) (by rw [List.length_drop];omega) (c - 8)
      unfold HasB at h2
      rw [List.length_take,List.length_drop,Nat.min_eq_left (by omega)] at h2
      exact h2)
     have hs3:∀ W,(Instr.slice 22 (.slice (some ⟨g,o,none⟩) b.length c) (some (.int .i64 (8+(fourAt b:Int)))) none none).run Tryz.prog W=.ok (.slice (some ⟨g,o+(8+fourAt b),none⟩) (b.length - (8+fourAt b)) (c - (8+fourAt b))) W:=fun W=>by
      have:=run_from (P:=Tryz.prog) W Tryz.underlying22 hi hz1 g o b.length c (8+fourAt b) (by omega) hnc (by omega)
      rwa [show ((8+fourAt b:Nat):Int)=8+(fourAt b:Int) by omega] at this
     have hs4:∀ W,(Instr.slice 22 (.slice (some ⟨g,o,none⟩) b.length c) none (some (.int .i64 (8+(fourAt b:Int)))) none).run Tryz.prog W=.ok (.slice (some ⟨g,o,none⟩) (8+fourAt b) c) W:=fun W=>by
      have:=zB0 (P:=Tryz.prog) W Tryz.underlying22 hi (some ⟨g,o,none⟩) b.length c (8+fourAt b) (by omega)
      rwa [show ((8+fourAt b:Nat):Int)=8+(fourAt b:Int) by omega] at this
     have hs5:∀ W,(Instr.slice 22 (.slice (some ⟨g,o,none⟩) b.length c) (some (.int .i64 8)) (some (.int .i64 (8+(fourAt b:Int)))) none).run Tryz.prog W=.ok (.slice (some ⟨g,o+8,none⟩) (fourAt b) (c - 8)) W:=fun W=>by
      have:=run_window (P:=Tryz.prog) W 22 5 Tryz.underlying22 (fun w=>by simp [sizeOf,typeInfo,hi,hz1]) g o b.length c 8 (8+fourAt b) (by omega) (by omega) (by omega)
      rwa [show ((8+fourAt b:Nat):Int)=8+(fourAt b:Int) by omega,Nat.add_sub_cancel_left] at this
     have hwr:IntKind.i64.wrap (8+(fourAt b:Int))=8+(fourAt b:Int):=IntWalk.i64_in _ ⟨by omega,by omega⟩
     have hwr2:IntKind.i64.wrap (12+(fourAt b:Int))=12+(fourAt b:Int):=IntWalk.i64_in _ ⟨by omega,by omega⟩
     by_cases hs:fourAt (b.drop (8+fourAt b))=sumN (b.take (8+fourAt b))
     ·have hE:decE b=0:=by unfold decE;rw [if_neg h8,if_neg (by simpa using hhead),if_neg hm,if_neg hd,if_neg (by simpa using hs)]
      have Hfin:=zh (show ∀ v W,OwnR W 5 1 v (fourAt b) (zAQ ((b.drop 8).take (fourAt b)))→(∀ k,v.ownBlock=some k→w.heap.size≤k)→Below w.heap.size w W→zDG w b (.returned (.tuple #[v,.int .i64 (12+(fourAt b:Int)),.int .i64 0])) W from fun v W ho hn hb =>
       ⟨v,by unfold decL;rw [hE,if_pos rfl,show ((fourAt b+12:Nat):Int)=12+(fourAt b:Int) by omega];rfl,by
        unfold decB
        rw [if_pos hE]
        unfold OwnB
        rw [List.length_take,List.length_drop,Nat.min_eq_left (by omega)]
        exact ho,hn,hb⟩)
      have heq2:((fourAt (b.drop (8+fourAt b)):Int) != sumF (b.take (8+fourAt b)))=false:=by rw [zCd];simp;omega
      generalize fourAt (b.drop (8+fourAt b))=x2 at *
      generalize sumF (b.take (8+fourAt b))=y2 at *
      generalize fourAt (b.drop 4)=x at *
      generalize sumF (b.take 4)=y at *
      generalize hz:fourAt b=z at *
      generalize b.length=N at *
      clear h hh hhead hs hE hz
      go_enter Tryz.func165,Tryz.ntmps165
      go_wp2_with fail
      go_quiet ((first | (go_at_call 197;refine zCA (H4.out _ (zAf _ _))) | (go_at_call 184;refine Calls.quiet_of_same (HS.out _ (zAf _ _)))))
      go_wp2_with fail
      refine (HF.out _ (zAf _ _)).mono ?_
      rintro e w2 ⟨rfl,q2,hq2⟩
      have HbX:=zh (show Below w.heap.size w w2 by rw [hq2];exact zCx (zAf _ _) _)
      clear hq2
      go_wp2_with fail
      go_quiet ((first | (go_at_call 197;refine zCA (H8.out _ (zCx HbX.out _))) | (go_at_call 184;refine Calls.quiet_of_same (HS8.out _ (zCx HbX.out _)))))
      have HbY:=zh (zCx HbX.out nq)
      generalize w2.drewN nq=w5 at *
      have HbZ:=zh (HbY.out.alloc HbY.out.size (.cells #[] 5))
      go_wp2_with (at_builtin;refine zAP (w5.alloc (.cells #[] 5)) rfl (.tmp 37) (.tmp 41) 22 rfl 5 i0 (.int .u8 0) 1 1 Tryz.underlying22 hi hz0 hz1 hz2 rfl (by decide) (.slice (some ⟨w5.heap.size,0,none⟩) 0 0) 0 [] rfl (zAz w5 _) (.slice (some ⟨g,o+8,none⟩) z (c - 8)) z _ rfl (HxW.out _ HbZ.out) (zAM _) (by unfold maxLen;omega) (by omega) ?_;intro v12 w12 hown12 hgrow12 hloc12;rw [Nat.zero_add,List.nil_append] at hown12;have hX:=HbZ.out.grown hgrow12 HbZ.out.size (fun j e=>by have:=HbY.out.size;simp [Value.ownBlock] at e;omega);have hnew:=zAp (B:=w.heap.size) hloc12 (fun k hk=>by have:=HbY.out.size;simp [Value.ownBlock] at hk;omega) HbZ.out.size;have X12:=zh (And.intro hX (And.intro hown12 hnew));clear hown12 hgrow12 hloc12 hX hnew)
      go_ret3
      exact Hfin.out _ _ X12.out.2.1 X12.out.2.2 X12.out.1
     ·have Hfin:=zh (fun W=>zBC (w:=w) (w':=W) (b:=b) (k:=4) (by unfold decE;rw [if_neg h8,if_neg (by simpa using hhead),if_neg hm,if_neg hd,if_pos hs]) (by decide))
      have heq2:((fourAt (b.drop (8+fourAt b)):Int) != sumF (b.take (8+fourAt b)))=true:=by rw [zCd];simp;omega
      generalize fourAt (b.drop (8+fourAt b))=x2 at *
      generalize sumF (b.take (8+fourAt b))=y2 at *
      generalize fourAt (b.drop 4)=x at *
      generalize sumF (b.take 4)=y at *
      generalize fourAt b=z at *
      generalize b.length=N at *
      clear h hh hhead hs
      go_enter Tryz.func165,Tryz.ntmps165
      go_wp2_with fail
      go_quiet ((first | (go_at_call 197;refine zCA (H4.out _ (zAf _ _))) | (go_at_call 184;refine Calls.quiet_of_same (HS.out _ (zAf _ _)))))
      go_wp2_with fail
      refine (HF.out _ (zAf _ _)).mono ?_
      rintro e w2 ⟨rfl,q2,hq2⟩
      have HbX:=zh (show Below w.heap.size w w2 by rw [hq2];exact zCx (zAf _ _) _)
      clear hq2
      go_wp2_with fail
      go_quiet ((first | (go_at_call 197;refine zCA (H8.out _ (zCx HbX.out _))) | (go_at_call 184;refine Calls.quiet_of_same (HS8.out _ (zCx HbX.out _)))))
      go_wp2_with fail
      go_ret3
      exact Hfin.out _ (zCx HbX.out _)
  ·have Hfin:=zh (fun W=>zBC (w:=w) (w':=W) (b:=b) (k:=4) (by unfold decE;rw [if_neg h8,if_pos (fun e=>hh ((head_iff (by omega)).1 e))]) (by decide))
   have hne:((fourAt (b.drop 4):Int) != sumF (b.take 4))=true:=by rw [zCd];simp;omega
   generalize fourAt (b.drop 4)=x at *
   generalize sumF (b.take 4)=y at *
   generalize b.length=N at *
   clear h hh
   go_enter Tryz.func165,Tryz.ntmps165
   go_wp2_with fail
   go_quiet ((first | (go_at_call 197;refine zCA (H4.out _ (zAf _ _))) | (go_at_call 184;refine Calls.quiet_of_same (HS.out _ (zAf _ _)))))
   go_wp2
   go_ret3
   exact Hfin.out _ (zAf _ _)
theorem rone_calls {w:World} {p:Option Addr} {n c:Nat} {b:Bs} (h:HasB w (.slice p n c) b) (hnc:n≤c) (hl:b.length≤140737488355328) :
  Calls Tryz.prog 162 #[.slice p n c] w (OneOf w b):=by
 have hn:n=b.length:=(zBw h).1
 subst hn
 have Hd:=zh (rdec_calls h hnc hl)
 have hdl:decL b≤4294967307:=by
  have:=zCl b
  unfold decL
  split <;> omega
 clear h
 go_enter Tryz.func162,Tryz.ntmps162
 go_wp2_with fail
 refine Hd.out.mono ?_
 rintro e w1 ⟨v,rfl,hv,hn1,hb1⟩
 by_cases he:decE b=0
 ·by_cases hL:decL b=b.length
  ·have hE:oneE b=0:=by unfold oneE;rw [if_pos he,if_pos hL]
   have Hfin:=zh (show OneOf w b (.returned (.tuple #[v,.int .i64 0])) w1 from ⟨v,by rw [hE];rfl,by unfold oneB;rw [if_pos hE];exact hv,hn1,hb1⟩)
   rw [he,hL]
   generalize b.length=N at *
   clear hv hn1 hb1 he hL hE hdl
   go_wp2_with fail
   go_ret2
   exact Hfin.out
  ·have Hfin:=zh (one_nil (w:=w) (w':=w1) (b:=b) (k:=3) (by unfold oneE;rw [if_pos he,if_neg hL]) (by decide) hb1)
   have hne:((decL b:Int) != (b.length:Int))=true:=by
    simp only [bne_iff_ne,ne_eq,Int.natCast_inj]
    exact hL
   rw [he]
   generalize decL b=M at *
   generalize b.length=N at *
   clear hv hn1 hb1 he hL
   go_wp2_with fail
   go_ret2
   exact Hfin.out
 ·have hE:oneE b=decE b:=by unfold oneE;rw [if_neg he]
  have Hfin:=zh (one_nil (w:=w) (w':=w1) (b:=b) (k:=decE b) hE he hb1)
  have hne:((decE b:Int) == 0)=false:=by simp;omega
  have hne2:((decE b:Int) != 0)=true:=by simp;omega
  generalize decE b=E at *
  generalize decL b=M at *
  generalize b.length=N at *
  clear hv hn1 hb1 hE
  go_wp2_with fail
  go_ret2
  exact Hfin.out
end Go.Proofs.YtapfnehdgailmaaGreat
namespace Go.Sat
open Go Go.RowKit
theorem zDx {P:Program} (w:World) {t e:TypeId} {i:TypeInfo} (ht:P.underlying t=some (.slice e)) (hi:P.info? e=some i) (p:Option Addr) (len cap k:Nat) (h:k≤len) (h2:len≤cap) :
  (Instr.slice t (.slice p len cap) (some (.int .i64 (k:Int))) none none).run P w=.ok (.slice (if cap - k=0 then p else p.map fun x=>x.add (k * i.size)) (len - k) (cap - k)) w:=by
 have h1:(Instr.sliceBound (.int .i64 (k:Int)) len .sliceB).run P w=.ok k w:=by
  rw [run_sliceBound _ _ _ _ _ (by omega) (by omega)]
  simp
 simp [Instr.slice,run_underlying ht,Instr.sliceBounds,h1,sizeOf,typeInfo,hi,Result.andThen]
 by_cases hc:cap=k
 ·rw [if_pos hc,if_pos (by omega)]
 ·rw [if_neg hc,if_neg (by omega)]
theorem zAL.upto {w:World} {size:Nat} {p:Option Addr} {n c:Nat} {xs:List Value} (h:zAL w size (.slice p n c) n xs) {k:Nat} (hk:k≤n) (c':Nat):zAL w size (.slice p k c') k (xs.take (k * size)):=by
 obtain ⟨hl,p',cap,e,h0,hc⟩:=h
 cases e
 refine ⟨by rw [List.length_take,hl];exact Nat.min_eq_left (Nat.mul_le_mul_right _ hk),p,c',rfl,fun e=>?_,fun a ha i u hu=>hc a ha i u ?_⟩
 ·have:=h0 e
  omega
 ·rw [List.getElem?_take] at hu
  split at hu
  ·exact hu
  ·cases hu
theorem OwnR.cut_from {w:World} {e:TypeId} {size:Nat} {p:Option Addr} {n c:Nat} {xs:List Value} (h:OwnR w e size (.slice p n c) n xs) {k:Nat} (hk:k≤n):zAL w size (.slice (if c - k=0 then p else p.map fun x=>x.add (k * size)) (n - k) (c - k)) (n - k) (xs.drop (k * size)):=by
 have hl:(xs.drop (k * size)).length=(n - k) * size:=by rw [List.length_drop,h.1,Nat.sub_mul]
 rcases h.2 with ⟨e,hn⟩ | ⟨g,cap,cur,e,hg,hnc,_⟩
 ·cases e
  have hk0:k=0:=by omega
  subst hk0
  exact ⟨hl,none,0,by simp,fun _=>rfl,fun a ha=>by cases ha⟩
 ·cases e
  by_cases h0:c - k=0
  ·rw [if_pos h0]
   have hnk:n - k=0:=by omega
   rw [hnk] at hl ⊢
   have hx:xs.drop (k * size)=[]:=List.eq_nil_of_length_eq_zero (by rw [hl];simp)
   rw [hx]
   exact ⟨by simp,_,_,rfl,fun e=>(by cases e),fun a ha i u hu=>by simp at hu⟩
  ·rw [if_neg h0]
   refine ⟨hl,_,_,rfl,fun e=>(by cases e),fun a ha i u hu=>?_⟩
   cases ha
   have e1:(⟨g,0,none⟩:Addr).add (k * size)=⟨g,k * size,none⟩:=add_zero _ _
   have e2:(⟨g,k * size,none⟩:Addr).add i=⟨g,k * size+i,none⟩:=by unfold Addr.add;split <;> simp_all
   show w.cell? (((⟨g,0,none⟩:Addr).add (k * size)).add i)=some u
   rw [e1,e2]
   rw [List.getElem?_drop] at hu
   have:=h.cells (g:=g) rfl (k * size+i) u hu
   rwa [add_zero] at this
end Go.Sat
namespace Go.Proofs.YtapfnehdgailmaaGreat
open Go.RowKit Go.Sat Go.Maps
theorem cells_take (L:List zAN) (i:Nat):(L.take i).flatMap zAN.cells=(L.flatMap zAN.cells).take (i * 3):=by
 induction L generalizing i with
 | nil=>simp
 | cons y r ih =>
  cases i with
  | zero=>simp
  | succ i =>
   have hy:y.cells.length=3:=rfl
   rw [List.take_succ_cons,List.flatMap_cons,List.flatMap_cons,ih i,List.take_append,List.take_of_length_le (l:=y.cells) (by omega)]
   congr 2
   omega
theorem cells_drop (L:List zAN) (i:Nat):(L.drop i).flatMap zAN.cells=(L.flatMap zAN.cells).drop (i * 3):=by
 induction L generalizing i with
 | nil=>simp
 | cons y r ih =>
  cases i with
  | zero=>simp
  | succ i =>
   have hy:y.cells.length=3:=rfl
   rw [List.drop_succ_cons,List.flatMap_cons,ih i,List.drop_append,List.drop_of_length_le (l:=y.cells) (by omega),List.nil_append]
   congr 1
   omega
section
variable {w:World} {r:Nat} {v:Value} {L:List zAN} {own:Nat→Prop} {D:zAB} {room:Nat} {fuse:Option Nat}
theorem cells_one {L:List zAN} (h:∀ x ∈ L,x.b.oneCell'=true):∀ u ∈ L.flatMap zAN.cells,u.oneCell'=true:=by
 intro u hu
 obtain ⟨x,hx,hux⟩:=List.mem_flatMap.1 hu
 simp only [zAN.cells,List.mem_cons,List.not_mem_nil,or_false] at hux
 rcases hux with rfl | rfl | rfl
 ·rfl
 ·exact h x hx
 ·rfl
theorem zAm.one (h:zAm w r v L own room fuse):∀ x ∈ L,x.b.oneCell'=true:=fun x hx=>by
 obtain ⟨p,c,e,_⟩:=zDA (h.data x hx)
 rw [e]
 rfl
theorem zAm.relist (h:zAm w r v L own room fuse) {v':Value} {L':List zAN} (hrow:OwnR w 127 3 v' L'.length (L'.flatMap zAN.cells)) (hL:∀ x ∈ L',x ∈ L∨(OwnB w 5 x.b x.f.data∧∀ k,x.b.ownBlock=some k→own k∧k≠r)) (hn:∀ k,v'.ownBlock=some k→¬ own k) :
  zAm (w.setCell ⟨r,1,none⟩ v') r v' L' (fun k=>own k∨v'.ownBlock=some k) room fuse where
 cells:=zAE h.cells 1 v'
 row:=hrow.keep fun k hk=>set_other _ (fun e=>hn k hk (by have e:k=r:=e;rw [e];exact h.or))
 data:=fun x hx=>by
  rcases hL x hx with hx | ⟨e,e2⟩
  ·exact OwnR.keep (h.data x hx) fun k hk=>set_other _ (h.ob x hx k hk).2.1
  ·exact OwnR.keep e fun k hk=>set_other _ (e2 k hk).2
 or:=.inl h.or
 ov:=fun k hk=>⟨.inr hk,fun e=>hn k hk (by rw [e];exact h.or)⟩
 ob:=fun x hx k hk=>by
  rcases hL x hx with hx | ⟨_,e⟩
  ·exact ⟨.inl (h.ob x hx k hk).1,(h.ob x hx k hk).2.1,fun e=>hn k e (h.ob x hx k hk).1⟩
  ·exact ⟨.inl (e k hk).1,(e k hk).2,fun e2=>hn k e2 (e k hk).1⟩
 olt:=fun k hk=>by
  have:k < w.heap.size:=by
   rcases hk with hk | hk
   ·exact h.olt k hk
   ·exact hrow.lt hk
  simpa [World.setCell] using this
end
end Go.Proofs.YtapfnehdgailmaaGreat
