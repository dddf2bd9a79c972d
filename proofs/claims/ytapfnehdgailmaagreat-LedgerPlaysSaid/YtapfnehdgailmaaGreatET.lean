/- Append and Write of a text that stands in the code; a row that is made a string; the contract of satrapylaw14.known: it is true. satrapylaw14.alike. (Printed by mkrl7.py.) The document's ledger: image. (Printed by mkrl3.py.) The document's ledger: Open. (Printed by mkrl5.py.) satrapylaw14.files, opened: the program's ledger and the document's, side by side. satrapylaw14.opened. -/
import Derived.Test.YtapfnehdgailmaaGreatED
import Derived.Test.YtapfnehdgailmaaGreatEF
import Derived.Test.YtapfnehdgailmaaGreatEK
import Derived.Test.YtapfnehdgailmaaGreatEL
import Derived.Test.YtapfnehdgailmaaGreatEM
import Derived.Test.YtapfnehdgailmaaGreatEO
import Derived.Test.YtapfnehdgailmaaGreatEQ
import Derived.Test.YtapfnehdgailmaaGreatES
set_option maxRecDepth 100000
set_option maxHeartbeats 64000000
namespace Go.Proofs.YtapfnehdgailmaaGreat
open Go.RowKit Go.Sat Go.Maps
theorem lit_in {W:World} {e:TypeId} {fr:Nat × Nat} {cs:Array Value} {l:Bs} {g n c:Nat} (hb:W.heap[g]?=some (.cells cs e fr)) (hn:n=l.length) (h:cs.toList=zAN l):HasB W (.slice (some ⟨g,0,none⟩) n c) l:=by
 subst hn
 refine ⟨by simp [zAN],some ⟨g,0,none⟩,c,rfl,fun e=>(by cases e),fun a ha i u hu=>?_⟩
 cases ha
 rw [add_zero]
 refine zAC hb ?_
 rw [← h] at hu
 simpa using hu
theorem zCj {P:Program} {W:World} {src dst e:TypeId} (hs:P.underlying src=some (.slice e)) (he:P.underlying e=some (.int .u8)) (hd:P.underlying dst=some .string) {v:Value} {l:Bs} (h:HasB W v l) :
  (convert src dst v).run P W=.ok (.string ⟨l.toArray⟩) W:=by
 obtain ⟨_,p,c,rfl,h0,hc⟩:=h
 cases p with
 | none =>
  obtain rfl:l=[]:=List.eq_nil_of_length_eq_zero (h0 rfl)
  exact Go.run_convert_bytes_nil W src e hs he _ _ dst hd
 | some a =>
  have hl:=run_loadCells_list (P:=P) W a (zAN l) (fun j v hj=>hc a rfl j v hj)
  have e1:zAN l=(Lib.numsL l).map (Value.int .u8):=by simp [zAN,Lib.numsL,List.map_map,Function.comp_def]
  have e2:(zAN l).length=l.length:=zCZ l
  rw [e2,e1] at hl
  rw [run_convert_bytes_string W src dst e _ _ c hs he hd,run_bytesToString W a l.length c (Lib.numsL l) hl,foldl_push_bytes]
  congr 2
  simp [Lib.numsL,List.map_map,Function.comp_def,ByteArray.empty,ByteArray.emptyWithCapacity]
  rfl
section
variable {w w1:World} {l d:Nat} {pre:ByteArray} {D:zAA} {M:LedM} {F:Nat→Prop}
theorem app_lit (h:LedF w w1 l d pre D M F) (cs:Array Value) (b:Bs) (hcs:cs.toList=zAN b) {n c:Nat} (hn:n=b.length) (hb47:b.length≤140737488355328) (fr:Nat × Nat) :
  Calls Tryz.prog 55 #[.pointer (some ⟨l,0,none⟩),.slice (some ⟨w1.heap.size,0,none⟩) n c] (w1.alloc (.cells cs 5 fr)) fun e w'=>e=.returned (.tuple #[.int .i64 ((zAL (nm pre) D M b).num:Int),.int .i64 ((zAL (nm pre) D M b).err:Int)])∧LedF w w' l d pre (zAL (nm pre) D M b).disk (zAL (nm pre) D M b).led F∧Same F w1 w':=by
 refine (zDo (h.box (.cells cs 5 fr)) (b:=b) (fun W _ hW=>lit_in ((hW _ (.inr rfl)).trans (zAW w1 _)) hn hcs) hb47).mono ?_
 rintro e w' ⟨rfl,hL,hs⟩
 exact ⟨rfl,hL.less fun k hk=>.inl hk,fun k hk=>(hs k (.inl hk)).trans (h.same (zAb w1 _) k hk)⟩
theorem wri_lit (h:LedF w w1 l d pre D M F) (i:Int) (hir:-9223372036854775808≤i∧i≤9223372036854775807) (cs:Array Value) (b:Bs) (hcs:cs.toList=zAN b) {n c:Nat} (hn:n=b.length) (hb47:b.length≤140737488355328) (fr:Nat × Nat) :
  Calls Tryz.prog 58 #[.pointer (some ⟨l,0,none⟩),.int .i64 i,.slice (some ⟨w1.heap.size,0,none⟩) n c] (w1.alloc (.cells cs 5 fr)) fun e w'=>e=.returned (.int .i64 ((zAV (nm pre) D M i b).err:Int))∧LedF w w' l d pre (zAV (nm pre) D M i b).disk (zAV (nm pre) D M i b).led F∧Same F w1 w':=by
 refine (lwrite_calls (h.box (.cells cs 5 fr)) i hir (b:=b) (fun W _ hW=>lit_in ((hW _ (.inr rfl)).trans (zAW w1 _)) hn hcs) hb47).mono ?_
 rintro e w' ⟨rfl,hL,hs⟩
 exact ⟨rfl,hL.less fun k hk=>.inl hk,fun k hk=>(hs k (.inl hk)).trans (h.same (zAb w1 _) k hk)⟩
end
theorem open_is {w w1:World} {d:Nat} {D D':zAA} {M:LedM} {F:Nat→Prop} (h:St w w1 d D F) (he:zAa D pA=(D',0,M)) :
  Calls Tryz.prog 123 #[.pointer (some ⟨d,0,none⟩),.string sA] w1 fun e w'=>∃ l,e=.returned (.tuple #[.pointer (some ⟨l,0,none⟩),.int .i64 0])∧LedF w w' l d sA D' M F∧Same F w1 w':=by
 have h1:=open_calls h sA
 rw [show nm sA=pA from rfl,he] at h1
 refine h1.mono ?_
 rintro e w' ⟨-,hs,⟨-,l,rfl,hL⟩ | ⟨hne,-⟩⟩
 ·exact ⟨l,rfl,hL,hs⟩
 ·exact absurd rfl hne
def bx:Bs:=[120]
def by1:Bs:=[121]
def bz:Bs:=[122]
theorem fits_one {n:Nat} {p:Bs} (hn:n+1≤1099511627776) (hp:p.length≤65536):Fits n [p]:=⟨hn,fun e he=>by simp at he;subst he;exact hp⟩
theorem kn1:zAL (nm sA) (sD none [] none) (MM none []) bx=⟨sD none [bx] none,MM none [bx],1,0⟩:=by
 have hf:Fits 0 [bx]:=fits_one (by decide) (by decide)
 refine app_step (im:=none) (es:=[]) (p:=bx) (f:=none) trivial (fun j e=>by cases e) hf ?_
 have h1:=recs_len hf
 have h2:[bx].flatten.length+30 * [bx].length=31:=rfl
 show 0+(zAs (recF 0 [bx])).length≤_
 omega
theorem kn2:zAV (nm sA) (sD none [bx] none) (MM none [bx]) 1 by1=⟨sD (some (1,by1)) [] none,MM (some (1,by1)) [],0,0⟩:=by
 have hf:Fits 0 [bx]:=fits_one (by decide) (by decide)
 refine wri_ok_s (im:=none) (es:=[bx]) (n:=1) (p:=by1) (by decide) (by decide) (by decide) ?_
 have h1:=recs_len hf
 have h2:[bx].flatten.length+30 * [bx].length=31:=rfl
 have h3:by1.length=1:=rfl
 have h4:=zCo 1 by1 (by decide) (by decide)
 show 0+(zAs (recF 0 [bx])).length+(imgB 1 by1).length+12≤_
 omega
theorem kn3:zAL (nm sA) (sD (some (1,by1)) [] none) (MM (some (1,by1)) []) bz=⟨sD (some (1,by1)) [bz] none,MM (some (1,by1)) [bz],2,0⟩:=by
 have hf:Fits 1 [bz]:=fits_one (by decide) (by decide)
 refine app_step (im:=some (1,by1)) (es:=[]) (p:=bz) (f:=none) ⟨by decide,by decide⟩ (fun j e=>by cases e) hf ?_
 have h1:=recs_len hf
 have h2:[bz].flatten.length+30 * [bz].length=31:=rfl
 have h3:by1.length=1:=rfl
 have h4:=szI_some (n:=1) (p:=by1) (by decide) (by decide)
 show szI (some (1,by1))+(zAs (recF 1 [bz])).length≤_
 omega
theorem knownL_calls (w:World):Calls Tryz.prog 53 #[] w (True3 w):=by
 have Hnew:=zh (st_new (w:=w) (w1:=w) 65536 (by decide) (by decide) (Below.refl _ _))
 have kc:=fun (w:World) (C:Array Value) (n c:Nat)=>Lib.run_convert_bytes_const (P:=Tryz.prog) w 22 5 C n c Tryz.underlying22 Tryz.underlying5
 go_enter Tryz.func53,Tryz.ntmps53
 go_wp2_with fail
 refine Hnew.out.mono ?_
 rintro e w1 ⟨d,rfl,hd⟩
 have Hop:=zh (open_is (D:=zAA.fresh 65536) hd open_fresh)
 clear hd Hnew
 go_wp2_with fail
 refine Hop.out.mono ?_
 rintro e w2 ⟨l,rfl,hl,-⟩
 have Happ:=zh (app_lit hl #[.int .u8 120] bx rfl (n:=1) (c:=1) rfl (by decide) (1,2))
 rw [kn1] at Happ
 clear hl Hop
 go_wp2_with fail
 refine Happ.out.mono ?_
 rintro e w3 ⟨rfl,hl,-⟩
 have Hwri:=zh (wri_lit hl 1 (by decide) #[.int .u8 121] by1 rfl (n:=1) (c:=1) rfl (by decide) (1,2))
 rw [kn2] at Hwri
 clear hl Happ
 go_wp2_with fail
 refine Hwri.out.mono ?_
 rintro e w4 ⟨rfl,hl,-⟩
 have Happ:=zh (app_lit hl #[.int .u8 122] bz rfl (n:=1) (c:=1) rfl (by decide) (1,2))
 rw [kn3] at Happ
 clear hl Hwri
 go_wp2_with fail
 refine Happ.out.mono ?_
 rintro e w5 ⟨rfl,hl,-⟩
 have Hl:=zh hl
 have Hba:=zh (base_calls hl)
 clear hl Happ
 go_wp2_with fail
 refine Hba.out.mono ?_
 rintro e w6 ⟨v,rfl,hv,-,hb⟩
 have Hl6:=zh (Hl.out.next hb)
 have Hla:=zh (last_calls (Hl.out.next hb))
 have Hcv:=zh (zCj (P:=Tryz.prog) (W:=w6) (dst:=9) Tryz.underlying22 Tryz.underlying5 Tryz.underlying9 (OwnB.has hv))
 clear hv hb Hba Hl
 have kv:=Hcv.out
 go_wp2_with fail
 refine Hla.out.mono ?_
 rintro e w7 ⟨rfl,q,rfl⟩
 have Hb:=zh ((Hl6.out.next (w2:=w6.drewN q) ⟨rfl,rfl,rfl,Nat.le_refl _,fun _ _=>rfl⟩).bel)
 go_wp2_with fail
 go_ret
 exact ⟨rfl,Hb.out⟩
def LEq (M N:LedM):Prop:=M.base=N.base∧M.data=N.data∧M.entries=N.entries
def zDS (w1:World) (M N:LedM) (e:Ending) (w':World):Prop:=∃ b,e=.returned (.bool b)∧(LEq M N→b=true)∧Below w1.heap.size w1 w'
def LedM.atB (M:LedM) (i:Int):Bs × Int:=if (M.base:Int) < i∧i≤(M.last:Int) then (M.entries.getD (i - (M.base:Int) - 1).toNat [],0) else ([],7)
theorem LEq.atB {M N:LedM} (h:LEq M N) (i:Int):M.atB i=N.atB i:=by
 unfold LedM.atB LedM.last
 rw [h.1,h.2.2]
def AtTold (W:World) (o:Bs × Int) (e:Ending) (w':World):Prop:=∃ v,e=.returned (.tuple #[v,.int .i64 o.2])∧HasB w' v o.1∧Below W.heap.size W w'
theorem ledAt_any {w w1:World} {l d:Nat} {pre:ByteArray} {D:zAA} {M:LedM} {F:Nat→Prop} (h:LedF w w1 l d pre D M F) (i:Int) (hi:-9223372036854775808≤i∧i≤9223372036854775807) :
  Calls Tryz.prog 142 #[.pointer (some ⟨l,0,none⟩),.int .i64 i] w1 (AtTold w1 (M.atB i)):=by
 by_cases hin:(M.base:Int) < i∧i≤(M.last:Int)
 ·have hj:(i - (M.base:Int) - 1).toNat < M.entries.length:=by unfold LedM.last at hin;omega
  have:=at_yes h _ hj
  rw [show ((M.base+1+(i - (M.base:Int) - 1).toNat:Nat):Int)=i by omega] at this
  refine this.mono ?_
  rintro e w' ⟨v,rfl,hv,-,hb⟩
  refine ⟨v,by unfold LedM.atB;rw [if_pos hin],?_,hb⟩
  unfold LedM.atB
  rw [if_pos hin]
  simp only [List.getD,List.getElem?_eq_getElem hj,Option.getD_some]
  exact hv.has
 ·refine (at_no h i (by omega) hi).mono ?_
  rintro e w' ⟨rfl,q,rfl⟩
  exact ⟨_,by unfold LedM.atB;rw [if_neg hin],by unfold LedM.atB;rw [if_neg hin];exact OwnB.has (e:=0) (OwnR.nil _ _ _),zAw _ _⟩
theorem lrAt_any {S:Nat→Prop} {w1:World} {x r:Nat} {pre2:ByteArray} {N:LedM} (h:zB2 S w1 x r pre2 N) (i:Int) (hi:-9223372036854775808≤i∧i≤9223372036854775807) :
  Calls Tryz.prog 143 #[.pointer (some ⟨x,0,none⟩),.int .i64 i] w1 (AtTold w1 (N.atB i)):=by
 obtain ⟨O,C,dv,ev,vs,hJ,-⟩:=h
 by_cases hin:(N.base:Int) < i∧i≤(N.last:Int)
 ·have hj:(i - (N.base:Int) - 1).toNat < N.entries.length:=by unfold LedM.last at hin;omega
  have:=lrat_yes hJ _ hj
  rw [show ((N.base+1+(i - (N.base:Int) - 1).toNat:Nat):Int)=i by omega] at this
  refine this.mono ?_
  rintro e w' ⟨v,rfl,hv,-,hb⟩
  refine ⟨v,by unfold LedM.atB;rw [if_pos hin],?_,hb⟩
  unfold LedM.atB
  rw [if_pos hin]
  simp only [List.getD,List.getElem?_eq_getElem hj,Option.getD_some]
  exact hv.has
 ·refine (lrat_no hJ i hin hi).mono ?_
  rintro e w' ⟨rfl,hb⟩
  exact ⟨_,by unfold LedM.atB;rw [if_neg hin],by unfold LedM.atB;rw [if_neg hin];exact OwnB.has (e:=0) (OwnR.nil _ _ _),hb⟩
theorem zC3 {w w1:World} {l d x r:Nat} {pre pre2:ByteArray} {D:zAA} {M N:LedM} {F S:Nat→Prop} (h:LedF w w1 l d pre D M F) (hx:zB2 S w1 x r pre2 N) :
  Calls Tryz.prog 63 #[.pointer (some ⟨l,0,none⟩),.pointer (some ⟨x,0,none⟩)] w1 (zDS w1 M N):=by
 have H:=zh (fun W (hb:Below w1.heap.size w1 W)=>h.next hb)
 have HX:=zh (fun W (hb:Below w1.heap.size w1 W)=>hx.below hb)
 have Hba:=zh (base_calls h)
 have hl1:=h.last
 have hl2:=lrnew_last hx
 clear h hx
 go_enter Tryz.func63,Tryz.ntmps63
 go_wp2_with fail
 refine Hba.out.mono ?_
 rintro e w2 ⟨v,rfl,hv,hvn,hb⟩
 have HB2:=zh hb
 have HV:=zh hv
 obtain ⟨p1,c1,rfl,-⟩:=zAv hv
 clear hv hvn hb Hba
 go_wp2_with fail
 obtain ⟨O,C,dvx,evx,vsx,hJ,-⟩:=HX.out w2 HB2.out
 have HDX:=zh hJ.data
 obtain ⟨p2,c2,e2⟩:=hJ.data.slice
 subst e2
 have x2:=hJ.c 2 rfl
 have x3:=hJ.c 3 rfl
 clear hJ
 obtain ⟨ι,G,hne,hG0,hGS,hGall⟩:=classOf (fun W=>Below w2.heap.size w2 W) (w:=w2.drew) (Below.refl _ _).drew
 have y2:=fun q=>zAx x2 (hGS q)
 have y3:=fun q=>zAx x3 (hGS q)
 have k1:=fun q=>zCj (P:=Tryz.prog) (W:=G q) Tryz.underlying22 Tryz.underlying5 Tryz.underlying9 (HasB.below HV.out.has (hGS q))
 have k2:=fun q=>zCj (P:=Tryz.prog) (W:=G q) Tryz.underlying22 Tryz.underlying5 Tryz.underlying9 (HasB.below HDX.out (hGS q))
 have HLM:=zh (fun q=>last_calls (H.out (G q) (HB2.out.trans ((hGS q).mono HB2.out.size))))
 have HLN:=zh (fun q=>(HX.out (G q) (HB2.out.trans ((hGS q).mono HB2.out.size))).last_calls)
 have HGS:=zh hGS
 have HGall:=zh hGall
 clear hGS hGall x2 x3
 have Hwho:=zh (And.intro (rfl:M=M) (rfl:N=N))
 generalize hA:M.last=la at *
 generalize hB:N.last=lb at *
 generalize hC:M.base=ba at *
 generalize hD:N.base=bb at *
 generalize hE:M.data=da at *
 generalize hF:N.data=db at *
 by_cases h1:(ba:Int)=(bb:Int)
 rotate_left
 ·have b1:((ba:Int) != (bb:Int))=true:=by simpa using h1
  have HE:=zh (fun W (hb:Below w2.heap.size w2 W)=>show zDS w1 M N (.returned (.bool false)) W from ⟨false,rfl,fun hq=>absurd (by rw [← hC,← hD,hq.1]) h1,HB2.out.trans (hb.mono HB2.out.size)⟩)
  clear h1
  refine zAr G (by kernel_rfl) (by kernel_rfl) hG0 ?_
  repeat (go_big_quiet_step (first | (go_at_call 126;refine (HLM.out _).mono ?_;rintro e w3 ⟨rfl,q3,rfl⟩;exact ⟨rfl,HGall.out _ ((HGS.out _).trans (zAw _ _))⟩) | (go_at_call 57;refine (HLN.out _).mono ?_;rintro e w3 ⟨rfl,q3,rfl⟩;exact ⟨rfl,HGall.out _ ((HGS.out _).trans (zAw _ _))⟩)))
  refine wpQuiet_nil ?_
  rintro _ ⟨q,rfl⟩
  have HS2:=zh (HGS.out q)
  clear HGS HGall hG0
  generalize G q=w5 at HS2 ⊢
  go_wp2
  go_ret
  exact HE.out _ HS2.out
 have b1:((ba:Int) != (bb:Int))=false:=by simpa using h1
 by_cases h2:da=db
 rotate_left
 ·have b2:(da == db)=false:=by simpa using h2
  have HE:=zh (fun W (hb:Below w2.heap.size w2 W)=>show zDS w1 M N (.returned (.bool false)) W from ⟨false,rfl,fun hq=>absurd (by rw [← hE,← hF,hq.2.1]) h2,HB2.out.trans (hb.mono HB2.out.size)⟩)
  clear h1 h2
  refine zAr G (by kernel_rfl) (by kernel_rfl) hG0 ?_
  repeat (go_big_quiet_step (first | (go_at_call 126;refine (HLM.out _).mono ?_;rintro e w3 ⟨rfl,q3,rfl⟩;exact ⟨rfl,HGall.out _ ((HGS.out _).trans (zAw _ _))⟩) | (go_at_call 57;refine (HLN.out _).mono ?_;rintro e w3 ⟨rfl,q3,rfl⟩;exact ⟨rfl,HGall.out _ ((HGS.out _).trans (zAw _ _))⟩)))
  refine wpQuiet_nil ?_
  rintro _ ⟨q,rfl⟩
  have HS2:=zh (HGS.out q)
  clear HGS HGall hG0
  generalize G q=w5 at HS2 ⊢
  go_wp2
  go_ret
  exact HE.out _ HS2.out
 have b2:(da == db)=true:=by simpa using h2
 by_cases h3:(la:Int)=(lb:Int)
 rotate_left
 ·have b3:((la:Int) != (lb:Int))=true:=by simpa using h3
  have HE:=zh (fun W (hb:Below w2.heap.size w2 W)=>show zDS w1 M N (.returned (.bool false)) W from ⟨false,rfl,fun hq=>absurd (by rw [← hA,← hB];unfold LedM.last;rw [hq.1,hq.2.2]) h3,HB2.out.trans (hb.mono HB2.out.size)⟩)
  clear h1 h2 h3
  refine zAr G (by kernel_rfl) (by kernel_rfl) hG0 ?_
  repeat (go_big_quiet_step (first | (go_at_call 126;refine (HLM.out _).mono ?_;rintro e w3 ⟨rfl,q3,rfl⟩;exact ⟨rfl,HGall.out _ ((HGS.out _).trans (zAw _ _))⟩) | (go_at_call 57;refine (HLN.out _).mono ?_;rintro e w3 ⟨rfl,q3,rfl⟩;exact ⟨rfl,HGall.out _ ((HGS.out _).trans (zAw _ _))⟩)))
  refine wpQuiet_nil ?_
  rintro _ ⟨q,rfl⟩
  have HS2:=zh (HGS.out q)
  clear HGS HGall hG0
  generalize G q=w5 at HS2 ⊢
  go_wp2
  go_ret
  exact HE.out _ HS2.out
 have b3:((la:Int) != (lb:Int))=false:=by simpa using h3
 have hbl:ba≤la:=by rw [← hA,← hC];unfold LedM.last;omega
 have HAt:=zh (fun W (hb:Below w1.heap.size w1 W) z hz=>ledAt_any (H.out W hb) z hz)
 have HAx:=zh (fun W (hb:Below w1.heap.size w1 W) z hz=>lrAt_any (HX.out W hb) z hz)
 have HLa:=zh (fun W (hb:Below w1.heap.size w1 W)=>show Calls Tryz.prog 126 #[.pointer (some ⟨l,0,none⟩)] W fun e w'=>e=.returned (.int .i64 (la:Int))∧∃ q,w'=W.drewN q from by rw [← hA];exact last_calls (H.out W hb))
 clear h1 h2 h3
 refine zAr G (by kernel_rfl) (by kernel_rfl) hG0 ?_
 repeat (go_big_quiet_step (first | (go_at_call 126;refine (HLM.out _).mono ?_;rintro e w3 ⟨rfl,q3,rfl⟩;exact ⟨rfl,HGall.out _ ((HGS.out _).trans (zAw _ _))⟩) | (go_at_call 57;refine (HLN.out _).mono ?_;rintro e w3 ⟨rfl,q3,rfl⟩;exact ⟨rfl,HGall.out _ ((HGS.out _).trans (zAw _ _))⟩)))
 refine wpQuiet_nil ?_
 rintro _ ⟨q,rfl⟩
 have HS2:=zh (HGS.out q)
 clear HGS HGall hG0
 generalize G q=w5 at HS2 ⊢
 go_wp2
 have HBs:=zh (HB2.out.trans (HS2.out.mono HB2.out.size))
 have hw1:IntKind.i64.wrap ((ba:Int) - 1)=(ba:Int) - 1:=IntWalk.i64_in _ (by omega)
 have hw2:IntKind.i64.wrap ((la:Int)+1)=(la:Int)+1:=IntWalk.i64_in _ (by omega)
 go_loopw [7] (fun y wr=>∃ z:Int,y=.int .i64 z∧(ba:Int) - 1≤z∧z≤(la:Int)+2∧Below w1.heap.size w1 wr) (fun y _=>((la:Int)+2 - intOf y).toNat)
 case atStart=>exact ⟨(ba:Int) - 1,rfl,by omega,by omega,HBs.out⟩
 case round =>
  obtain ⟨z,rfl,hz1,hz2,hb⟩:=hrel
  have HB:=zh hb
  have HL1:=zh (HLa.out wr hb)
  have hwz:IntKind.i64.wrap (z+1)=z+1:=IntWalk.i64_in _ (by omega)
  clear hb
  go_wp2_with fail
  refine HL1.out.mono ?_
  rintro e w6 ⟨rfl,q6,rfl⟩
  have HB6:=zh (HB.out.trans (zAw wr q6))
  generalize wr.drewN q6=w6 at *
  by_cases hlt:z≤(la:Int)+1
  ·have dlt:decide (z≤(la:Int)+1)=true:=decide_eq_true hlt
   have HA1:=zh (HAt.out w6 HB6.out z (by omega))
   go_wp2_with fail
   refine HA1.out.mono ?_
   rintro e w7 ⟨v7,rfl,hv7,hb7⟩
   have HB7:=zh (HB6.out.trans (hb7.mono HB6.out.size))
   have HA2:=zh (HAx.out w7 HB7.out z (by omega))
   obtain ⟨pa,ca,ea⟩:=hv7.slice
   subst ea
   have HV7:=zh hv7
   clear hv7 hb7
   go_wp2_with fail
   refine HA2.out.mono ?_
   rintro e w8 ⟨v8,rfl,hv8,hb8⟩
   have HB8:=zh (HB7.out.trans (hb8.mono HB7.out.size))
   obtain ⟨pb,cb,eb⟩:=hv8.slice
   subst eb
   have k1:=zCj (P:=Tryz.prog) (W:=w8) Tryz.underlying22 Tryz.underlying5 Tryz.underlying9 (HasB.below HV7.out hb8)
   have k2:=zCj (P:=Tryz.prog) (W:=w8) Tryz.underlying22 Tryz.underlying5 Tryz.underlying9 hv8
   have HEq:=zh (fun hq:LEq M N=>hq.atB z)
   clear hv8 hb8 HV7 HA1 HA2
   generalize M.atB z=o1 at *
   generalize N.atB z=o2 at *
   obtain ⟨c1,e1⟩:=o1
   obtain ⟨c2,e2⟩:=o2
   dsimp only at *
   cases hbb:(c1 == c2) with
   | false =>
    have HE:=zh (show zDS w1 M N (.returned (.bool false)) w8 from ⟨false,rfl,fun hq=>by have h:=HEq.out hq;rw [Prod.mk.injEq] at h;rw [h.1] at hbb;simp at hbb,HB8.out⟩)
    go_wp2_with fail
    go_ret
    exact HE.out
   | true =>
    by_cases hee:e1=e2
    ·have be:(e1 != e2)=false:=by simpa using hee
     clear hee
     go_wp2_with fail
     go_roundw
     case rel=>exact ⟨z+1,by go_num,by omega,by omega,HB8.out⟩
     case measure=>simp [intOf];omega
    ·have be:(e1 != e2)=true:=by simpa using hee
     have HE:=zh (show zDS w1 M N (.returned (.bool false)) w8 from ⟨false,rfl,fun hq=>by have h:=HEq.out hq;rw [Prod.mk.injEq] at h;exact absurd h.2 hee,HB8.out⟩)
     clear hee
     go_wp2_with fail
     go_ret
     exact HE.out
  ·have dlt:decide (z≤(la:Int)+1)=false:=decide_eq_false hlt
   have HE:=zh (show zDS w1 M N (.returned (.bool true)) w6 from ⟨true,rfl,fun _=>rfl,HB6.out⟩)
   go_wp2_with fail
   all_goals (try go_ret)
   all_goals exact HE.out
theorem zB2.image {S:Nat→Prop} {w1:World} {l r:Nat} {pre:ByteArray} {M:LedM} (h:zB2 S w1 l r pre M) (he:M.entries=[]) :
  ∃ dv ev,w1.heap[l]?=some (LRC r pre (M.base:Int) dv ev M.dead)∧∀ w2 (n:Nat) v b,Chg (fun k=>k=l) w1 w2→w2.heap[l]?=some (LRC r pre (n:Int) v ev M.dead)→HasB w2 v b→(∀ k,v.ownBlock=some k→w1.heap.size≤k∧k < w2.heap.size) →
   n≤1099511627776→b.length≤1073741824→zB2 (fun k=>S k∨w1.heap.size≤k) w2 l r pre ⟨n,b,[],M.dead⟩:=by
 obtain ⟨O,C,dv,ev,vs,hJ,hn⟩:=h
 refine ⟨dv,ev,hJ.cells,fun w2 n v b hc hcell hb hv hn40 hb30=>?_⟩
 have hvs:vs=[]:=List.eq_nil_of_length_eq_zero (by rw [hJ.rlen,he];rfl)
 have hrow:=hJ.row
 rw [he] at hrow
 refine ⟨O,fun k=>v.ownBlock=some k,v,ev,vs,{
  cells:=hcell
  data:=hb
  row:=hrow.keep fun k hk=>hc.block k (hJ.olt k (hJ.oe k hk).1) (hJ.oe k hk).2
  rows:=fun i e v he hv=>by simp at he
  oj:=hJ.oj
  oe:=hJ.oe
  cd:=fun k hk=>hk
  cv:=fun u hu=>by rw [hvs] at hu;simp at hu
  dis:=fun k hk ho=>by have:=hJ.olt k ho;have:=(hv k hk).1;omega
  olt:=fun k hk=>Nat.lt_of_lt_of_le (hJ.olt k hk) hc.size
  clt:=fun k hk=>(hv k hk).2
  psz:=hJ.psz
  last:=by unfold LedM.last;exact hn40
  big:=⟨hb30,fun b hb=>by simp at hb⟩ },fun k hk=>?_⟩
 rcases hk with hk | hk
 ·exact .inl (hn k (.inl hk))
 ·exact .inr (hv k hk).1
def LImg (w:World) (F:Nat→Prop) (l r:Nat) (pre:ByteArray) (own:Nat→Prop) (W:World) (D:zAA) (R:Nat × Nat × Bs) (e:Ending) (w':World):Prop :=
 e=.returned (.int .i64 (R.1:Int))∧(R.1=0→LOS w F l r pre own w' D ⟨R.2.1,R.2.2,[],false⟩∧Same F W w')∧∃ own',RefAt w' r D own'∧Chg own w w'∧∀ k,own' k→own k∨w.heap.size≤k
section
variable {w W W2:World} {F own:Nat→Prop} {l r:Nat} {pre:ByteArray} {D:zAA}
theorem LOS.ref {M:LedM} (h:LOS w F l r pre own W D M):∃ own',RefAt W r D own'∧Chg own w W∧∀ k,own' k→own k∨w.heap.size≤k:=by
 obtain ⟨Hot,Cold,hF,hc,hh,-⟩:=h
 obtain ⟨O,own1,dv,ev,vs,v,L,hJ,hR,hO,hCo,hH⟩:=hF
 exact ⟨own1,⟨v,L,hR⟩,hc,fun k hk=>hh k (.inl ((hH k).2 (.inr hk)))⟩
theorem los_image (h:LOS w F l r pre own W D ⟨0,[],[],false⟩) :
  Calls Tryz.prog 177 #[.pointer (some ⟨l,0,none⟩)] W (LImg w F l r pre own W D (zAg (Sat.get (imgN (nm pre)) D.files))):=by
 obtain ⟨S,hN,hSF,hgood,hbad⟩:=los_new h
 have hld:=loadB_le h.okD (imgN (nm pre))
 have Hhas:=zh (los_has h (Below.refl _ _) (sImg pre))
 obtain ⟨v,L,own1,hR⟩:=los_ref h
 have HL:=zh (fun W2 (hb:Below W.heap.size W W2)=>rload_calls (hR.below hb) (sImg pre))
 have hps0:1≤pre.size∧pre.size≤20:=let ⟨_,_,_,_,_,hJ,_⟩:=hN;hJ.psz
 obtain ⟨dv,ev,hcell,himg⟩:=hN.image rfl
 have hlS:=hN.lt
 have Hcell:=zh hcell
 have Himg:=zh himg
 have Hgood:=zh hgood
 have Hbad:=zh hbad
 have HLOS:=zh h
 have c1:=zAC hcell (i:=1) rfl
 rw [nm_img] at Hhas HL
 have hps:1≤pre.size∧pre.size≤20:=hps0
 have hpz1:=hps.1
 have hpz2:=hps.2
 have hs1:(pre ++ (⟨#[45,105,109,103]⟩:ByteArray)).size=pre.size+4:=by simp [ByteArray.size_append];rfl
 clear hps hps0
 clear hN hSF hgood hbad hR himg hcell h
 cases hg:Sat.get (imgN (nm pre)) D.files with
 | none =>
  rw [hg] at Hhas
  go_enter Tryz.func177,Tryz.ntmps177
  go_wp2_with fail
  refine Hhas.out.mono ?_
  rintro e w2 ⟨rfl,hb⟩
  have HE:=zh (show LImg w F l r pre own W D (zAg none) (.returned (.int .i64 0)) w2 from ⟨rfl,fun _=>⟨HLOS.out.next hb,HLOS.out.same hb⟩,(HLOS.out.next hb).ref⟩)
  clear hb
  go_wp2_with fail
  go_ret
  exact HE.out
 | some f =>
  rw [hg] at Hhas HL hld
  go_enter Tryz.func177,Tryz.ntmps177
  go_wp2_with fail
  refine Hhas.out.mono ?_
  rintro e w2 ⟨rfl,hb⟩
  have HB2:=zh hb
  have hcell2:=(hb.block l hlS.2).trans Hcell.out
  have c0:=zAC hcell2 (i:=0) rfl
  have c1:=zAC hcell2 (i:=1) rfl
  clear hb hcell2
  go_wp2_with fail
  refine zAK (fun w':World=>w'.cell? ⟨l,0,none⟩=some (.pointer (some ⟨r,0,none⟩))∧w'.cell? ⟨l,1,none⟩=some (.string pre)) (n:=15) (by kernel_rfl) rfl (⟨c0,c1⟩) (fun hHeld=>?_)
  have HB3:=zh (show Below W.heap.size W w2.drew from HB2.out.trans ⟨rfl,rfl,rfl,Nat.le_refl _,fun _ _=>rfl⟩)
  generalize w2.drew=W1 at *
  refine pl [0,1,2,3,4,5,6,7,8] ?_
  iterate 9 (refine pc rfl ?_;simp only [Act.put,uA,uB,uC])
  refine pn ?_
  refine zAB 9 rfl (by kernel_rfl) (by rfl) (fun K hK=>?_)
  go_wp2_with fail
  refine (HL.out W1 HB3.out).mono ?_
  rintro e w4 ⟨v4,rfl,hv4,hn4,hb4⟩
  have HB4:=zh (show Below W.heap.size W w4 from HB3.out.trans (hb4.mono HB3.out.size))
  have hcell4:=(HB4.out.block l hlS.2).trans Hcell.out
  have Hh4:=zh (And.intro (zAC hcell4 (i:=0) rfl) (zAC hcell4 (i:=1) rfl))
  have HV4:=zh (And.intro hv4 (show ∀ k,v4.ownBlock=some k→W.heap.size≤k from fun k hk=>Nat.le_trans HB3.out.size (hn4 k hk)))
  clear hv4 hn4 hb4 hcell4
  go_wp2_with fail
  refine hK.out _ _ (Hh4.out) (fun hHeld=>?_)
  clear hK
  try simp only [Act.put,uA,uB,uC]
  refine pl [10,11,12,13,14] ?_
  iterate 5 (refine pc rfl ?_;simp only [Act.put,uA,uB,uC])
  refine pn ?_
  refine wpAnyH_done (by kernel_rfl) ?_ _
  by_cases hE:loadE (some f)=0
  ·have hB:zAg (some f)=if (Rd.num ⟨zBT (some f),false⟩).2.bytes.2.whole=false∨1099511627776 < (Rd.num ⟨zBT (some f),false⟩).1 then (3,0,[]) else (0,(Rd.num ⟨zBT (some f),false⟩).1,(Rd.num ⟨zBT (some f),false⟩).2.bytes.1):=by
    unfold zAg
    rw [if_neg (by omega),if_neg (by omega)]
   rw [hE]
   have HIm:=zh hB
   clear hB hE
   obtain ⟨p4,c4,rfl,hcap4⟩:=zAv HV4.out.1
   generalize zAg (some f)=RI at *
   generalize zBT (some f)=bb at *
   generalize hnb:bb.length=nb at *
   have HR0:=zh (rdy_new (w:=w4) HV4.out.1.has hcap4 (fun k hk=>OwnR.lt HV4.out.1 hk) (by omega))
   have HBq:=zh (HB4.out.trans ((zAb w4 (.cells #[.slice p4 nb c4,.bool false] 148)).mono HB4.out.size))
   have hl4:=Nat.lt_of_lt_of_le hlS.2 HB4.out.size
   have hs4:=HB4.out.size
   clear Hhas HL c0 c1
   go_wp2_with fail
   have HN1:=zh (zDc HR0.out)
   refine HN1.out.mono ?_
   rintro e w5 ⟨rfl,hr5,hc5⟩
   have HB5:=zh (show Below W.heap.size W w5 from HBq.out.trans (hc5.below HBq.out.size fun i hi e=>by omega))
   have hcell5:=(HB5.out.block l hlS.2).trans Hcell.out
   have c2:=zAC hcell5 (i:=2) rfl
   have f2:=zAI hcell5 2
   have HR5:=zh hr5
   clear hr5 hc5 HN1 HR0
   have hm1:=Rd.num_le ⟨bb,false⟩
   have Hbl:=zh (show (Rd.num ⟨bb,false⟩).2.bytes.1.length≤1073741824 from Nat.le_trans (Rd.bytes_len _) (Nat.le_trans (Rd.num_rest _) (by show bb.length≤_;omega)))
   have hl5:=HB5.out.size
   generalize (Rd.num ⟨bb,false⟩).2=R5 at *
   generalize (Rd.num ⟨bb,false⟩).1=m1 at *
   have HN2:=zh (zDw (HR5.out.chg (Chg.setCell w5 ⟨l,2,none⟩ (.int .i64 (m1:Int))) (fun e=>by have e2:w4.heap.size=l:=e;omega) (fun k hk e=>by have:=HV4.out.2 k hk;have e2:k=l:=e;omega)))
   have HcA:=zh (zAO hcell5 2 (.int .i64 (m1:Int)))
   have HCA:=zh (((Chg.of_below HB5.out).mono fun _ _ e=>e.elim:Chg (fun k=>k=l) W w5).trans (Chg.setCell w5 ⟨l,2,none⟩ (.int .i64 (m1:Int))) fun _ _ e=>e)
   have hsA:(w5.setCell ⟨l,2,none⟩ (.int .i64 (m1:Int))).heap.size=w5.heap.size:=by simp [World.setCell]
   clear hcell5
   go_wp2_with fail
   refine HN2.out.mono ?_
   rintro e w6 ⟨v6,rfl,hv6,hn6,hr6,hc6⟩
   obtain ⟨p6,c6,rfl,hcap6⟩:=zAv hv6
   rw [hsA] at hn6
   have hcell6:w6.heap[l]?=some (LRC r pre (m1:Int) dv ev false):=by
    have:=(hc6.block l (by rw [hsA];omega) (by omega)).trans HcA.out
    simpa using this
   have HC6:=zh (HCA.out.trans hc6 fun k hk e=>by omega)
   have c2:=zAC hcell6 (i:=2) rfl
   have c3:=zAC hcell6 (i:=3) rfl
   have f3:=zAI hcell6 3
   have hs6:=hc6.size
   rw [hsA] at hs6
   have HW:=zh (zDx (hr6.chg (Chg.setCell w6 ⟨l,3,none⟩ (.slice p6 R5.bytes.1.length c6)) (fun e=>by have e2:w4.heap.size=l:=e;omega) (fun k hk e=>by have:=HV4.out.2 k hk;have e2:k=l:=e;omega)))
   have HCB:=zh (HC6.out.trans (Chg.setCell w6 ⟨l,3,none⟩ (.slice p6 R5.bytes.1.length c6)) fun _ _ e=>e)
   have hcB:(w6.setCell ⟨l,3,none⟩ (.slice p6 R5.bytes.1.length c6)).heap[l]?=some (LRC r pre (m1:Int) (.slice p6 R5.bytes.1.length c6) ev false):=by simpa using zAO hcell6 3 (.slice p6 R5.bytes.1.length c6)
   have HvB:=zh (show HasB (w6.setCell ⟨l,3,none⟩ (.slice p6 R5.bytes.1.length c6)) (.slice p6 R5.bytes.1.length c6) R5.bytes.1 from HasB.chg hv6.has (Chg.setCell w6 ⟨l,3,none⟩ (.slice p6 R5.bytes.1.length c6)) fun k hk e=>by have:=hn6 k hk;have e2:k=l:=e;omega)
   have HvL:=zh (show ∀ k,(Value.slice p6 R5.bytes.1.length c6).ownBlock=some k→W.heap.size≤k∧k < (w6.setCell ⟨l,3,none⟩ (.slice p6 R5.bytes.1.length c6)).heap.size from fun k hk=>⟨Nat.le_trans HB5.out.size (hn6 k hk),by have:=OwnR.lt hv6 hk;simpa [World.setCell] using this⟩)
   have hi2:=zAC hcB (i:=2) rfl
   have HcB:=zh hcB
   clear hv6 hn6 hr6 hc6 hcell6 hcB HN2
   go_wp2_with fail
   generalize w6.setCell ⟨l,3,none⟩ (.slice p6 R5.bytes.1.length c6)=w7 at *
   refine HW.out.mono ?_
   rintro e w8 ⟨rfl,rfl⟩
   have HBd:=zh (fun hbd:R5.bytes.2.whole=false∨1099511627776 < m1=>show LImg w F l r pre own W D RI (.returned (.int .i64 3)) w8 from by
    rw [HIm.out,if_pos hbd]
    exact ⟨rfl,fun h=>absurd h (by decide),Hbad.out w8 (HCB.out.mono fun k _ e=>.inl (e ▸ hlS.1))⟩)
   have HGd:=zh (fun (h1:¬ (R5.bytes.2.whole=false∨1099511627776 < m1))=>show LImg w F l r pre own W D RI (.returned (.int .i64 0)) w8 from by
    rw [HIm.out,if_neg h1]
    exact ⟨rfl,fun _=>Hgood.out w8 _ (Himg.out w8 m1 (.slice p6 R5.bytes.1.length c6) R5.bytes.1 HCB.out HcB.out HvB.out HvL.out (by omega) Hbl.out) (HCB.out.mono fun k _ e=>.inl (e ▸ hlS.1)),Hbad.out w8 (HCB.out.mono fun k _ e=>.inl (e ▸ hlS.1))⟩)
   clear Himg Hgood Hbad HLOS HW HIm
   cases hw:R5.bytes.2.whole with
   | false =>
    have HE:=zh (HBd.out (.inl hw))
    go_wp2_with fail
    go_ret
    exact HE.out
   | true =>
    by_cases hm:1099511627776 < m1
    ·have HE:=zh (HBd.out (.inr hm))
     go_wp2_with fail
     go_ret
     exact HE.out
    ·have HE:=zh (HGd.out (fun h=>h.elim (fun e=>by rw [hw] at e;cases e) hm))
     go_wp2_with fail
     go_ret
     exact HE.out
  ·have hE3:loadE (some f)=3:=by
    rcases loadE_cases (some f) with h | h | h
    ·exact absurd h hE
    ·exact h
    ·rw [zDL] at h
     split at h <;> omega
   have hB:zAg (some f)=(3,0,[]):=by
    unfold zAg
    rw [if_neg (by omega),if_pos hE,hE3]
   have HE:=zh (show LImg w F l r pre own W D (zAg (some f)) (.returned (.int .i64 3)) w4 from by
    rw [hB]
    exact ⟨rfl,fun h=>absurd h (by decide),(HLOS.out.next HB4.out).ref⟩)
   rw [hE3]
   clear hE hE3 hB
   go_wp2_with fail
   go_ret
   exact HE.out
end
theorem led_arg {D:zAA} {pre:Bs} (h:pre.length < 1∨20 < pre.length):zAa D pre=(D,1,LedM.none0):=by
 unfold zAa
 exact if_pos h
theorem los_list {w W:World} {F own:Nat→Prop} {l r:Nat} {pre:ByteArray} {D:zAA} {M:LedM} (h:LOS w F l r pre own W D M):∃ p c,W.cell? ⟨l,4,none⟩=some (.slice p M.entries.length c):=by
 obtain ⟨_,_,⟨_,_,_,_,_,_,_,hJ,_⟩,_⟩:=h
 obtain ⟨p,c,hev⟩:=hJ.row.shape
 have:=hJ.c 4 rfl
 rw [hev] at this
 exact ⟨p,c,this⟩
theorem nm_imgsh (s:ByteArray):nm (s ++ (⟨#[45,105,109,103,126]⟩:ByteArray))=zAD (imgN (nm s)):=by simp [nm,imgN,imgX,zAD]
theorem nm_logw (s:ByteArray):nm (s ++ (⟨#[45,108,111,103]⟩:ByteArray))=logN (nm s):=by simp [nm,logN,logX]
theorem rid_no {D:zAA} {n:Bs} (h:(Sat.get n D.files).isSome=false):D.rid [n]=(D,0):=by
 unfold zAA.rid zAA.rid1
 rw [h]
 rfl
theorem rid_yes {D:zAA} {n:Bs} (h:(Sat.get n D.files).isSome=true):D.rid [n]=D.remove [n]:=by
 unfold zAA.rid zAA.rid1 zAA.rid
 rw [if_pos h]
 split
 next h0=>exact Prod.ext rfl h0.symm
 next=>rfl
theorem los_fresh {w w1:World} {r:Nat} {v:Value} {L:List zAF} {own:Nat→Prop} {D:zAA} {pre:ByteArray} (h:zAU w r v L own D) (hb:Below w.heap.size w w1) (hp:1≤pre.size∧pre.size≤20) :
  LOS w (fun _=>False) w1.heap.size r pre own (w1.alloc (LRC r pre 0 (.slice none 0 0) (.slice none 0 0) false)) D LedM.none0:=by
 have hol:=h.olt
 have hs:=hb.size
 have hb2:=hb.alloc hs (LRC r pre 0 (.slice none 0 0) (.slice none 0 0) false)
 have hcell:=zAW w1 (LRC r pre 0 (.slice none 0 0) (.slice none 0 0) false)
 refine ⟨fun k=>k=w1.heap.size∨own k,fun _=>False,⟨fun k=>k=w1.heap.size,own,.slice none 0 0,.slice none 0 0,[],v,L,{
  cells:=hcell
  data:=OwnB.has (e:=0) (OwnR.nil _ _ _)
  row:=OwnR.nil _ _ _
  rows:=fun i e v he hv=>by simp at hv
  oj:=rfl
  oe:=fun k hk=>by cases hk
  cd:=fun k hk=>by cases hk
  cv:=fun u hu=>by simp at hu
  dis:=fun k hk e=>hk.elim
  olt:=fun k hk=>by rw [hk];exact zAt hcell
  clt:=fun k hk=>hk.elim
  psz:=hp
  last:=Nat.zero_le _
  big:=⟨Nat.zero_le _,fun e he=>(by cases he)⟩ },h.below hb2,fun k hk ho=>?_,fun k hk ho=>hk,fun k=>Iff.rfl⟩,(Chg.of_below hb2).mono fun _ _ e=>e.elim,fun k hk=>?_,fun k hk=>hk.elim⟩
 ·have:=hol k ho
  rw [hk] at this
  omega
 ·rcases hk with (hk | hk) | hk
  ·exact .inr (by omega)
  ·exact .inl hk
  ·exact hk.elim
theorem lropen_calls {w:World} {r:Nat} {v:Value} {L:List zAF} {own:Nat→Prop} {D:zAA} (h:zAU w r v L own D) (pre:ByteArray) :
  Calls Tryz.prog 124 #[.pointer (some ⟨r,0,none⟩),.string pre] w (zDg w r pre own (zAa D (nm pre))):=by
 have hsz:(nm pre).length=pre.size:=zDU pre
 by_cases hp:pre.size < 1∨20 < pre.size
 ·have HE:=zh (lropened_arg (pre:=pre) (k:=1) h (Below.refl _ _) (led_arg (D:=D) (pre:=nm pre) (by rw [hsz];exact hp)) (by decide))
  clear h hsz
  generalize hzz:pre.size=z at *
  by_cases hz:z < 1
  ·have hz0:z=0:=by omega
   subst hz0
   go_enter Tryz.func124,Tryz.ntmps124
   go_wp2_with fail
   all_goals (try go_ret2)
   all_goals exact HE.out
  ·have hz6:20 < z:=by omega
   go_enter Tryz.func124,Tryz.ntmps124
   go_wp2_with fail
   all_goals (try go_ret2)
   all_goals exact HE.out
 have hps:1≤pre.size∧pre.size≤20:=by omega
 have hpz1:=hps.1
 have hpz2:=hps.2
 have hok:¬ ((nm pre).length < 1∨20 < (nm pre).length):=by rw [hsz];exact hp
 have H0:=zh (los_fresh h (Below.refl _ _) hps)
 have hs1:(pre ++ (⟨#[45,105,109,103,126]⟩:ByteArray)).size=pre.size+5:=by simp [ByteArray.size_append];rfl
 have hs2:(pre ++ (⟨#[45,108,111,103]⟩:ByteArray)).size=pre.size+4:=by simp [ByteArray.size_append];rfl
 have hnl:=nm_logw pre
 have hnsh:=nm_imgsh pre
 obtain ⟨O⟩:=opens_of D (nm pre)
 have Hhas:=zh (los_has H0.out (Below.refl _ _) (pre ++ (⟨#[45,105,109,103,126]⟩:ByteArray)))
 rw [hnsh] at Hhas
 clear h hsz hp hps
 cases hgs:(Sat.get (zAD (imgN (nm pre))) D.files).isSome with
 | false =>
  rw [hgs] at Hhas
  have HO1:=zh (show O.e1=0∧O.D1=D from by have:=O.h1;rw [rid_no hgs] at this;simp only [Prod.mk.injEq] at this;exact ⟨this.2.symm,this.1.symm⟩)
  go_enter Tryz.func124,Tryz.ntmps124
  go_wp2_with fail
  refine Hhas.out.mono ?_
  rintro e w3 ⟨rfl,hb3⟩
  have HN:=zh (show LOS w (fun _=>False) w.heap.size r pre own w3 O.D1 LedM.none0 from by rw [HO1.out.2];exact H0.out.next hb3)
  clear hb3 Hhas
  have Him:=zh (los_image HN.out)
  go_wp2_with fail
  refine Him.out.mono ?_
  rintro e w4 ⟨rfl,hgood,href⟩
  rw [O.hi] at hgood
  rw [O.hi]
  by_cases hi:O.i.1=0
  ·obtain ⟨h4,-⟩:=hgood hi
   have HI:=zh hi
   rw [hi]
   clear hi href hgood
   have H4:=zh h4
   obtain ⟨v0,L0,own0,hR0⟩:=los_ref h4
   have Hrd:=zh (zBt hR0 (pre ++ (⟨#[45,108,111,103]⟩:ByteArray)))
   have hdl0:=zCk h4.okD (logN (nm pre))
   rw [hnl] at Hrd
   clear h4 hR0
   cases hlg:Sat.get (logN (nm pre)) O.D1.files with
   | none =>
    rw [hlg] at Hrd
    go_wp2_with fail
    refine Hrd.out.mono ?_
    rintro e w5 ⟨v5,rfl,hv5,-,hb5⟩
    have HE:=zh (zAn (H4.out.next hb5) (show zAa D (nm pre)=_ from by
     rw [zAz O hok HO1.out.1 HI.out,← O.hg]
     unfold zBc
     rw [hlg]))
    obtain ⟨p5,c5,rfl,-⟩:=zAv hv5
    clear hv5 hb5
    go_wp2_with fail
    all_goals (try go_ret2)
    all_goals exact HE.out
   | some f =>
    have HLs:=zh (O.hg.symm.trans (log_some hlg O.i.2.1))
    rw [hlg] at Hrd hdl0
    go_wp2_with fail
    refine Hrd.out.mono ?_
    rintro e w5 ⟨v5,rfl,hv5,-,hb5⟩
    have hv5:OwnB w5 5 v5 f.data:=hv5
    obtain ⟨p5,c5,rfl,hcap5⟩:=zAv hv5
    have hdl:f.data.length≤1073741824:=hdl0
    have hql0:=scan_le f.data
    have Hen:=zh (los_entries (H4.out.next hb5) hv5.has hcap5 hdl)
    clear hv5 hcap5
    generalize hq:(scan f.data).2=q at *
    generalize hlen:f.data.length=len at *
    generalize htk:zAh O.i.2.1 (-1,[]) (scan f.data).1=tk at *
    go_wp2_with fail
    refine Hen.out.mono ?_
    intro e w6 hT
    cases tk with
    | none =>
     obtain ⟨rfl,href⟩:=hT
     have HE:=zh (zB7 (pre:=pre) href (show zAa D (nm pre)=(O.D1,3,_) from by rw [zAz O hok HO1.out.1 HI.out,HLs.out]) (by decide))
     clear href
     go_wp2_with fail
     all_goals (try go_ret2)
     all_goals exact HE.out
    | some s =>
     obtain ⟨la,es⟩:=s
     obtain ⟨rfl,h6,-⟩:=hT
     have H6:=zh h6
     have hg1:=HLs.out
     dsimp only at hg1
     have HG:=zh hg1
     clear h6 hg1 HLs
     by_cases hql:q < len
     ·have hql':((q:Int) < (len:Int)):=by omega
      have Htr:=zh (zB6 H6.out (Below.refl _ _) fun v L own1 hR=>rtrunc_calls hR (pre ++ (⟨#[45,108,111,103]⟩:ByteArray)) (by rw [hs2];omega) (q:Int) (by omega) (by omega))
      rw [hnl] at Htr
      go_wp2_with fail
      refine Htr.out.mono ?_
      rintro e w7 ⟨rfl,h7,-⟩
      obtain ⟨D7,e7,hD7⟩:∃ a b,O.D1.truncate (logN (nm pre)) (q:Int)=(a,b):=⟨_,_,rfl⟩
      have HT7:=zh (show zAc O.D1 (logN (nm pre)) q len=if e7≠0 then (D7,e7) else D7.sync [logN (nm pre)] from by
       unfold zAc
       rw [if_pos hql,hD7])
      rw [hD7] at h7
      rw [hD7]
      dsimp only at h7
      dsimp only
      clear Htr hD7
      by_cases he7:e7=0
      ·have H7:=zh h7
       have Hsy:=zh (zB6 h7 (Below.refl _ _) fun v L own1 hR=>zCL hR (pre ++ (⟨#[45,108,111,103]⟩:ByteArray)) (by rw [hs2];omega))
       rw [hnl] at Hsy
       rw [he7]
       have He7:=zh he7
       clear he7 h7
       go_wp2_with fail
       refine Hsy.out.mono ?_
       rintro e w8 ⟨rfl,h8,-⟩
       obtain ⟨D8,e8,hD8⟩:∃ a b,D7.sync [logN (nm pre)]=(a,b):=⟨_,_,rfl⟩
       rw [hD8] at h8
       rw [hD8]
       dsimp only at h8
       dsimp only
       have HT8:=zh (show zAc O.D1 (logN (nm pre)) q len=(D8,e8) from by rw [HT7.out,if_neg (fun h=>h He7.out),hD8])
       clear Hsy hD8 HT7
       by_cases he8:e8=0
       ·have H8:=zh h8
        have HT:=zh (show (zAc O.D1 (logN (nm pre)) q len).1=D8∧(zAc O.D1 (logN (nm pre)) q len).2=0 from by rw [HT8.out];exact ⟨rfl,he8⟩)
        obtain ⟨p8,c8,c4⟩:=los_list h8
        have c4:w8.cell? ⟨w.heap.size,4,none⟩=some (.slice p8 es.length c8):=c4
        rw [he8]
        clear he8 h8
        by_cases hes:es=[]
        ·have hel:es.length=0:=by rw [hes];rfl
         have Hrm:=zh (zB6 H8.out (Below.refl _ _) fun v L own1 hR=>zBu hR (pre ++ (⟨#[45,108,111,103]⟩:ByteArray)) (by rw [hs2];omega))
         have Hes:=zh hes
         clear hes
         rw [hel] at c4
         go_wp2_with fail
         refine Hrm.out.mono ?_
         rintro e w9 ⟨rfl,h9,-⟩
         rw [hnl] at h9
         have HGx:=zh (show O.g=(((D8.remove [logN (nm pre)]).1,(D8.remove [logN (nm pre)]).2,es)) from by rw [HG.out,if_neg (by rw [HT.out.2];simp),if_pos Hes.out,HT.out.1])
         rw [hnl]
         by_cases he3:(D8.remove [logN (nm pre)]).2=0
         ·have HE:=zh (zAn h9 (show zAa D (nm pre)=_ from by rw [zAz O hok HO1.out.1 HI.out,HGx.out,he3]))
          rw [he3]
          clear he3 h9
          go_wp2_with fail
          all_goals (try go_ret2)
          all_goals exact HE.out
         ·have HE:=zh (zA3 h9 (show zAa D (nm pre)=_ from by rw [zAz O hok HO1.out.1 HI.out,HGx.out]) he3)
          have hne:(((D8.remove [logN (nm pre)]).2:Int) != 0)=true:=by simp;omega
          clear h9
          generalize (D8.remove [logN (nm pre)]).2=k3 at *
          go_wp2_with fail
          all_goals (try go_ret2)
          all_goals exact HE.out
        ·have hel:es.length≠0:=fun e=>hes (List.eq_nil_of_length_eq_zero e)
         have hel2:((es.length:Int) == 0)=false:=by simp;omega
         have HGx:=zh (show O.g=(D8,0,es) from by rw [HG.out,if_neg (by rw [HT.out.2];simp),if_neg hes,HT.out.1])
         have HE:=zh (zAn H8.out (show zAa D (nm pre)=_ from by rw [zAz O hok HO1.out.1 HI.out,HGx.out]))
         clear hes
         go_wp2_with fail
         all_goals (try go_ret2)
         all_goals exact HE.out
       ·have HE:=zh (zA3 h8 (show zAa D (nm pre)=(D8,e8,_) from by rw [zAz O hok HO1.out.1 HI.out,HG.out,if_pos (by rw [HT8.out];exact he8),HT8.out]) he8)
        have hne:((e8:Int) != 0)=true:=by simp;omega
        have hne2:((e8:Int) == 0)=false:=by simp;omega
        clear h8
        go_wp2_with fail
        all_goals (try go_ret2)
        all_goals exact HE.out
      ·have HE:=zh (zA3 h7 (show zAa D (nm pre)=(D7,e7,_) from by rw [zAz O hok HO1.out.1 HI.out,HG.out,HT7.out,if_pos he7,if_pos he7]) he7)
       have hne:((e7:Int) != 0)=true:=by simp;omega
       have hne2:((e7:Int) == 0)=false:=by simp;omega
       clear h7
       go_wp2_with fail
       all_goals (try go_ret2)
       all_goals exact HE.out
     ·have hql':¬ ((q:Int) < (len:Int)):=by omega
      have HT:=zh (show (zAc O.D1 (logN (nm pre)) q len).1=O.D1∧(zAc O.D1 (logN (nm pre)) q len).2=0 from by unfold zAc;rw [if_neg hql];exact ⟨rfl,rfl⟩)
      obtain ⟨p8,c8,c4⟩:=los_list H6.out
      have c4:w6.cell? ⟨w.heap.size,4,none⟩=some (.slice p8 es.length c8):=c4
      by_cases hes:es=[]
      ·have hel:es.length=0:=by rw [hes];rfl
       have Hrm:=zh (zB6 H6.out (Below.refl _ _) fun v L own1 hR=>zBu hR (pre ++ (⟨#[45,108,111,103]⟩:ByteArray)) (by rw [hs2];omega))
       have Hes:=zh hes
       clear hes
       rw [hel] at c4
       go_wp2_with fail
       refine Hrm.out.mono ?_
       rintro e w9 ⟨rfl,h9,-⟩
       rw [hnl] at h9
       have HGx:=zh (show O.g=(((O.D1.remove [logN (nm pre)]).1,(O.D1.remove [logN (nm pre)]).2,es)) from by rw [HG.out,if_neg (by rw [HT.out.2];simp),if_pos Hes.out,HT.out.1])
       rw [hnl]
       by_cases he3:(O.D1.remove [logN (nm pre)]).2=0
       ·have HE:=zh (zAn h9 (show zAa D (nm pre)=_ from by rw [zAz O hok HO1.out.1 HI.out,HGx.out,he3]))
        rw [he3]
        clear he3 h9
        go_wp2_with fail
        all_goals (try go_ret2)
        all_goals exact HE.out
       ·have HE:=zh (zA3 h9 (show zAa D (nm pre)=_ from by rw [zAz O hok HO1.out.1 HI.out,HGx.out]) he3)
        have hne:(((O.D1.remove [logN (nm pre)]).2:Int) != 0)=true:=by simp;omega
        clear h9
        generalize (O.D1.remove [logN (nm pre)]).2=k3 at *
        go_wp2_with fail
        all_goals (try go_ret2)
        all_goals exact HE.out
      ·have hel:es.length≠0:=fun e=>hes (List.eq_nil_of_length_eq_zero e)
       have hel2:((es.length:Int) == 0)=false:=by simp;omega
       have HGx:=zh (show O.g=(O.D1,0,es) from by rw [HG.out,if_neg (by rw [HT.out.2];simp),if_neg hes,HT.out.1])
       have HE:=zh (zAn H6.out (show zAa D (nm pre)=_ from by rw [zAz O hok HO1.out.1 HI.out,HGx.out]))
       clear hes
       go_wp2_with fail
       all_goals (try go_ret2)
       all_goals exact HE.out
  ·have HE:=zh (zB7 (pre:=pre) href (open_e2 O hok HO1.out.1 hi) hi)
   have hne:((O.i.1:Int) != 0)=true:=by simp;omega
   clear href hgood
   generalize O.i.1=k1 at *
   go_wp2_with fail
   all_goals (try go_ret2)
   all_goals exact HE.out
 | true =>
  rw [hgs] at Hhas
  have HD1:=zh (show D.remove [zAD (imgN (nm pre))]=(O.D1,O.e1) from by have:=O.h1;rwa [rid_yes hgs] at this)
  go_enter Tryz.func124,Tryz.ntmps124
  go_wp2_with fail
  refine Hhas.out.mono ?_
  rintro e w2 ⟨rfl,hb2⟩
  have Hrm:=zh (zB6 (H0.out.next hb2) (Below.refl _ _) fun v L own1 hR=>zBu hR (pre ++ (⟨#[45,105,109,103,126]⟩:ByteArray)) (by rw [hs1];omega))
  rw [hnsh,HD1.out] at Hrm
  clear hb2 Hhas
  go_wp2_with fail
  refine Hrm.out.mono ?_
  rintro e w3 ⟨rfl,h3,-⟩
  have HN:=zh h3
  clear h3 Hrm
  by_cases he1:O.e1=0
  ·have HO1:=zh (And.intro he1 trivial)
   dsimp only
   rw [he1]
   clear he1
   have Him:=zh (los_image HN.out)
   go_wp2_with fail
   refine Him.out.mono ?_
   rintro e w4 ⟨rfl,hgood,href⟩
   rw [O.hi] at hgood
   rw [O.hi]
   by_cases hi:O.i.1=0
   ·obtain ⟨h4,-⟩:=hgood hi
    have HI:=zh hi
    rw [hi]
    clear hi href hgood
    have H4:=zh h4
    obtain ⟨v0,L0,own0,hR0⟩:=los_ref h4
    have Hrd:=zh (zBt hR0 (pre ++ (⟨#[45,108,111,103]⟩:ByteArray)))
    have hdl0:=zCk h4.okD (logN (nm pre))
    rw [hnl] at Hrd
    clear h4 hR0
    cases hlg:Sat.get (logN (nm pre)) O.D1.files with
    | none =>
     rw [hlg] at Hrd
     go_wp2_with fail
     refine Hrd.out.mono ?_
     rintro e w5 ⟨v5,rfl,hv5,-,hb5⟩
     have HE:=zh (zAn (H4.out.next hb5) (show zAa D (nm pre)=_ from by
      rw [zAz O hok HO1.out.1 HI.out,← O.hg]
      unfold zBc
      rw [hlg]))
     obtain ⟨p5,c5,rfl,-⟩:=zAv hv5
     clear hv5 hb5
     go_wp2_with fail
     all_goals (try go_ret2)
     all_goals exact HE.out
    | some f =>
     have HLs:=zh (O.hg.symm.trans (log_some hlg O.i.2.1))
     rw [hlg] at Hrd hdl0
     go_wp2_with fail
     refine Hrd.out.mono ?_
     rintro e w5 ⟨v5,rfl,hv5,-,hb5⟩
     have hv5:OwnB w5 5 v5 f.data:=hv5
     obtain ⟨p5,c5,rfl,hcap5⟩:=zAv hv5
     have hdl:f.data.length≤1073741824:=hdl0
     have hql0:=scan_le f.data
     have Hen:=zh (los_entries (H4.out.next hb5) hv5.has hcap5 hdl)
     clear hv5 hcap5
     generalize hq:(scan f.data).2=q at *
     generalize hlen:f.data.length=len at *
     generalize htk:zAh O.i.2.1 (-1,[]) (scan f.data).1=tk at *
     go_wp2_with fail
     refine Hen.out.mono ?_
     intro e w6 hT
     cases tk with
     | none =>
      obtain ⟨rfl,href⟩:=hT
      have HE:=zh (zB7 (pre:=pre) href (show zAa D (nm pre)=(O.D1,3,_) from by rw [zAz O hok HO1.out.1 HI.out,HLs.out]) (by decide))
      clear href
      go_wp2_with fail
      all_goals (try go_ret2)
      all_goals exact HE.out
     | some s =>
      obtain ⟨la,es⟩:=s
      obtain ⟨rfl,h6,-⟩:=hT
      have H6:=zh h6
      have hg1:=HLs.out
      dsimp only at hg1
      have HG:=zh hg1
      clear h6 hg1 HLs
      by_cases hql:q < len
      ·have hql':((q:Int) < (len:Int)):=by omega
       have Htr:=zh (zB6 H6.out (Below.refl _ _) fun v L own1 hR=>rtrunc_calls hR (pre ++ (⟨#[45,108,111,103]⟩:ByteArray)) (by rw [hs2];omega) (q:Int) (by omega) (by omega))
       rw [hnl] at Htr
       go_wp2_with fail
       refine Htr.out.mono ?_
       rintro e w7 ⟨rfl,h7,-⟩
       obtain ⟨D7,e7,hD7⟩:∃ a b,O.D1.truncate (logN (nm pre)) (q:Int)=(a,b):=⟨_,_,rfl⟩
       have HT7:=zh (show zAc O.D1 (logN (nm pre)) q len=if e7≠0 then (D7,e7) else D7.sync [logN (nm pre)] from by
        unfold zAc
        rw [if_pos hql,hD7])
       rw [hD7] at h7
       rw [hD7]
       dsimp only at h7
       dsimp only
       clear Htr hD7
       by_cases he7:e7=0
       ·have H7:=zh h7
        have Hsy:=zh (zB6 h7 (Below.refl _ _) fun v L own1 hR=>zCL hR (pre ++ (⟨#[45,108,111,103]⟩:ByteArray)) (by rw [hs2];omega))
        rw [hnl] at Hsy
        rw [he7]
        have He7:=zh he7
        clear he7 h7
        go_wp2_with fail
        refine Hsy.out.mono ?_
        rintro e w8 ⟨rfl,h8,-⟩
        obtain ⟨D8,e8,hD8⟩:∃ a b,D7.sync [logN (nm pre)]=(a,b):=⟨_,_,rfl⟩
        rw [hD8] at h8
        rw [hD8]
        dsimp only at h8
        dsimp only
        have HT8:=zh (show zAc O.D1 (logN (nm pre)) q len=(D8,e8) from by rw [HT7.out,if_neg (fun h=>h He7.out),hD8])
        clear Hsy hD8 HT7
        by_cases he8:e8=0
        ·have H8:=zh h8
         have HT:=zh (show (zAc O.D1 (logN (nm pre)) q len).1=D8∧(zAc O.D1 (logN (nm pre)) q len).2=0 from by rw [HT8.out];exact ⟨rfl,he8⟩)
         obtain ⟨p8,c8,c4⟩:=los_list h8
         have c4:w8.cell? ⟨w.heap.size,4,none⟩=some (.slice p8 es.length c8):=c4
         rw [he8]
         clear he8 h8
         by_cases hes:es=[]
         ·have hel:es.length=0:=by rw [hes];rfl
          have Hrm:=zh (zB6 H8.out (Below.refl _ _) fun v L own1 hR=>zBu hR (pre ++ (⟨#[45,108,111,103]⟩:ByteArray)) (by rw [hs2];omega))
          have Hes:=zh hes
          clear hes
          rw [hel] at c4
          go_wp2_with fail
          refine Hrm.out.mono ?_
          rintro e w9 ⟨rfl,h9,-⟩
          rw [hnl] at h9
          have HGx:=zh (show O.g=(((D8.remove [logN (nm pre)]).1,(D8.remove [logN (nm pre)]).2,es)) from by rw [HG.out,if_neg (by rw [HT.out.2];simp),if_pos Hes.out,HT.out.1])
          rw [hnl]
          by_cases he3:(D8.remove [logN (nm pre)]).2=0
          ·have HE:=zh (zAn h9 (show zAa D (nm pre)=_ from by rw [zAz O hok HO1.out.1 HI.out,HGx.out,he3]))
           rw [he3]
           clear he3 h9
           go_wp2_with fail
           all_goals (try go_ret2)
           all_goals exact HE.out
          ·have HE:=zh (zA3 h9 (show zAa D (nm pre)=_ from by rw [zAz O hok HO1.out.1 HI.out,HGx.out]) he3)
           have hne:(((D8.remove [logN (nm pre)]).2:Int) != 0)=true:=by simp;omega
           clear h9
           generalize (D8.remove [logN (nm pre)]).2=k3 at *
           go_wp2_with fail
           all_goals (try go_ret2)
           all_goals exact HE.out
         ·have hel:es.length≠0:=fun e=>hes (List.eq_nil_of_length_eq_zero e)
          have hel2:((es.length:Int) == 0)=false:=by simp;omega
          have HGx:=zh (show O.g=(D8,0,es) from by rw [HG.out,if_neg (by rw [HT.out.2];simp),if_neg hes,HT.out.1])
          have HE:=zh (zAn H8.out (show zAa D (nm pre)=_ from by rw [zAz O hok HO1.out.1 HI.out,HGx.out]))
          clear hes
          go_wp2_with fail
          all_goals (try go_ret2)
          all_goals exact HE.out
        ·have HE:=zh (zA3 h8 (show zAa D (nm pre)=(D8,e8,_) from by rw [zAz O hok HO1.out.1 HI.out,HG.out,if_pos (by rw [HT8.out];exact he8),HT8.out]) he8)
         have hne:((e8:Int) != 0)=true:=by simp;omega
         have hne2:((e8:Int) == 0)=false:=by simp;omega
         clear h8
         go_wp2_with fail
         all_goals (try go_ret2)
         all_goals exact HE.out
       ·have HE:=zh (zA3 h7 (show zAa D (nm pre)=(D7,e7,_) from by rw [zAz O hok HO1.out.1 HI.out,HG.out,HT7.out,if_pos he7,if_pos he7]) he7)
        have hne:((e7:Int) != 0)=true:=by simp;omega
        have hne2:((e7:Int) == 0)=false:=by simp;omega
        clear h7
        go_wp2_with fail
        all_goals (try go_ret2)
        all_goals exact HE.out
      ·have hql':¬ ((q:Int) < (len:Int)):=by omega
       have HT:=zh (show (zAc O.D1 (logN (nm pre)) q len).1=O.D1∧(zAc O.D1 (logN (nm pre)) q len).2=0 from by unfold zAc;rw [if_neg hql];exact ⟨rfl,rfl⟩)
       obtain ⟨p8,c8,c4⟩:=los_list H6.out
       have c4:w6.cell? ⟨w.heap.size,4,none⟩=some (.slice p8 es.length c8):=c4
       by_cases hes:es=[]
       ·have hel:es.length=0:=by rw [hes];rfl
        have Hrm:=zh (zB6 H6.out (Below.refl _ _) fun v L own1 hR=>zBu hR (pre ++ (⟨#[45,108,111,103]⟩:ByteArray)) (by rw [hs2];omega))
        have Hes:=zh hes
        clear hes
        rw [hel] at c4
        go_wp2_with fail
        refine Hrm.out.mono ?_
        rintro e w9 ⟨rfl,h9,-⟩
        rw [hnl] at h9
        have HGx:=zh (show O.g=(((O.D1.remove [logN (nm pre)]).1,(O.D1.remove [logN (nm pre)]).2,es)) from by rw [HG.out,if_neg (by rw [HT.out.2];simp),if_pos Hes.out,HT.out.1])
        rw [hnl]
        by_cases he3:(O.D1.remove [logN (nm pre)]).2=0
        ·have HE:=zh (zAn h9 (show zAa D (nm pre)=_ from by rw [zAz O hok HO1.out.1 HI.out,HGx.out,he3]))
         rw [he3]
         clear he3 h9
         go_wp2_with fail
         all_goals (try go_ret2)
         all_goals exact HE.out
        ·have HE:=zh (zA3 h9 (show zAa D (nm pre)=_ from by rw [zAz O hok HO1.out.1 HI.out,HGx.out]) he3)
         have hne:(((O.D1.remove [logN (nm pre)]).2:Int) != 0)=true:=by simp;omega
         clear h9
         generalize (O.D1.remove [logN (nm pre)]).2=k3 at *
         go_wp2_with fail
         all_goals (try go_ret2)
         all_goals exact HE.out
       ·have hel:es.length≠0:=fun e=>hes (List.eq_nil_of_length_eq_zero e)
        have hel2:((es.length:Int) == 0)=false:=by simp;omega
        have HGx:=zh (show O.g=(O.D1,0,es) from by rw [HG.out,if_neg (by rw [HT.out.2];simp),if_neg hes,HT.out.1])
        have HE:=zh (zAn H6.out (show zAa D (nm pre)=_ from by rw [zAz O hok HO1.out.1 HI.out,HGx.out]))
        clear hes
        go_wp2_with fail
        all_goals (try go_ret2)
        all_goals exact HE.out
   ·have HE:=zh (zB7 (pre:=pre) href (open_e2 O hok HO1.out.1 hi) hi)
    have hne:((O.i.1:Int) != 0)=true:=by simp;omega
    clear href hgood
    generalize O.i.1=k1 at *
    go_wp2_with fail
    all_goals (try go_ret2)
    all_goals exact HE.out
  ·have HE:=zh (zA3 HN.out (open_e1 O hok he1) he1)
   have hne:((O.e1:Int) == 0)=false:=by simp;omega
   have hne2:((O.e1:Int) != 0)=true:=by simp;omega
   dsimp only
   generalize O.e1=k1 at *
   go_wp2_with fail
   all_goals (try go_ret2)
   all_goals exact HE.out
def zC1 (w w1:World) (l d y r:Nat) (D:zAA) (M:LedM):Prop:=∃ F Hot Cold,LedF w w1 l d sA D M F∧LRF w1 y r sA D M Hot Cold∧∀ k,Hot k∨Cold k→F k∧w.heap.size≤k
theorem LRF.same {w1 w2:World} {l r:Nat} {pre:ByteArray} {D:zAA} {M:LedM} {Hot Cold:Nat→Prop} (h:LRF w1 l r pre D M Hot Cold) (hs:∀ k,Hot k∨Cold k→w2.heap[k]?=w1.heap[k]?∧k < w2.heap.size):LRF w2 l r pre D M Hot Cold:=by
 obtain ⟨O,own,dv,ev,vs,v,L,hJ,hR,hO,hC,hH⟩:=h
 have hk:∀ k,O k∨Cold k→Hot k∨Cold k:=fun k hk=>hk.imp (fun o=>(hH k).2 (.inl o)) id
 refine ⟨O,own,dv,ev,vs,v,L,hJ.keep (fun k h=>(hs k (hk k h)).1) (fun k h=>(hs k (hk k h)).2),?_,hO,hC,hH⟩
 have ho:∀ k,own k→Hot k∨Cold k:=fun k hk=>.inl ((hH k).2 (.inr hk))
 exact {
  cells:=(hs r (ho r hR.or)).1.trans hR.cells
  row:=hR.row.keep fun k hk=>(hs k (ho k (hR.ov k hk).1)).1
  files:=hR.files
  data:=fun x hx=>OwnR.keep (hR.data x hx) fun k hk=>(hs k (ho k (hR.ob x hx k hk).1)).1
  or:=hR.or
  ov:=hR.ov
  ob:=hR.ob
  olt:=fun k hk=>(hs k (ho k hk)).2
  ok:=hR.ok }
section
variable {w w1 w2:World} {l d y r:Nat} {D:zAA} {M:LedM}
theorem zC1.bel (h:zC1 w w1 l d y r D M):Below w.heap.size w w1:=let ⟨_,_,_,h,_⟩:=h;h.bel
theorem zC1.okD (h:zC1 w w1 l d y r D M):D.OK:=let ⟨_,_,_,h,_⟩:=h;h.okD
theorem zC1.next (h:zC1 w w1 l d y r D M) (hb:Below w1.heap.size w1 w2):zC1 w w2 l d y r D M:=by
 obtain ⟨F,Hot,Cold,hL,hR,hk⟩:=h
 exact ⟨F,Hot,Cold,hL.next hb,hR.below hb,hk⟩
theorem zC1.pair (h:zC1 w w1 l d y r D M):Pair w w1 d D r D:=by
 obtain ⟨F,Hot,Cold,hL,hR,hk⟩:=h
 obtain ⟨own0,dv,ev,vs,hI,hS,hn,hl⟩:=hL
 obtain ⟨O,own,dv2,ev2,vs2,v,L,hJ,hR2,hO,hC,hH⟩:=hR
 refine ⟨own,v,L,hS.move (S:=fun _=>False) (Chg.refl _ _) (fun _ _ h=>h.elim) (fun k ho=>⟨.inl (.inr (hk k (.inl ((hH k).2 (.inr ho)))).1),hR2.olt k ho⟩),hR2,fun k ho=>(hk k (.inl ((hH k).2 (.inr ho)))).2⟩
theorem zC1.ref (h:zC1 w w1 l d y r D M):zB2 (fun _=>True) w1 y r sA M:=by
 obtain ⟨F,Hot,Cold,hL,hR,hk⟩:=h
 obtain ⟨O,own,dv2,ev2,vs2,v,L,hJ,hR2,hO,hC,hH⟩:=hR
 exact ⟨O,Cold,_,_,_,hJ,fun _ _=>trivial⟩
end
def OpenedL (w:World) (d r:Nat) (R:zAA × Nat × LedM) (e:Ending) (w':World):Prop :=
 (R.2.1=0∧∃ l y,e=.returned (.tuple #[.pointer (some ⟨l,0,none⟩),.pointer (some ⟨y,0,none⟩),.bool true])∧zC1 w w' l d y r R.1 R.2.2) ∨
 (R.2.1≠0∧e=.returned (.tuple #[.pointer none,.pointer none,.bool true])∧Pair w w' d R.1 r R.1)
theorem zBa {w W:World} {d r:Nat} {D:zAA} {v:Value} {L:List zAF} {own:Nat→Prop} (hS:St w W d D NoF) (hR:zAU W r v L own D) :
  Calls Tryz.prog 62 #[.pointer (some ⟨d,0,none⟩),.pointer (some ⟨r,0,none⟩)] W (True3 W):=by
 have HS:=zh hS
 have HR:=zh hR
 have Hl1:=zh (st_list hS)
 have hcount:(zBN D).length≤4096:=by unfold zBN;rw [List.length_map];exact hS.ok.count
 have Hno:=zh (show ∀ x ∈ zBN D,x.length≤64 from fun x hx=>by
  obtain ⟨q,hq,rfl⟩:=List.mem_map.1 hx
  exact (okN_string (hS.ok.names q hq)).2)
 clear hS hR
 go_enter Tryz.func62,Tryz.ntmps62
 go_wp2_with fail
 refine Hl1.out.mono ?_
 rintro e w1 ⟨v1,rfl,hv1,-,hb1,-⟩
 have HB1:=zh hb1
 have hv1:HasN w1 v1 (zBN D):=OwnR.holds hv1
 have Hv1:=zh hv1
 have Hl2:=zh (rlist_calls (HR.out.below hb1))
 clear hb1 Hl1
 go_wp2_with fail
 refine Hl2.out.mono ?_
 rintro e w2 ⟨v2,rfl,hv2,-,hb2⟩
 have HB:=zh (HB1.out.trans (hb2.mono HB1.out.size))
 have hn1:HasN w2 v1 (zBN D):=zAY.chg Hv1.out (Chg.of_below hb2) fun _ _=>id
 have hn2:HasN w2 v2 (zBN D):=OwnR.holds hv2
 obtain ⟨p1,c1,e1⟩:=hn1.slice
 obtain ⟨p2,c2,e2⟩:=hn2.slice
 have HN1:=zh hn1
 have HN2:=zh hn2
 subst e1
 subst e2
 clear hv2 hb2 Hl2 HB1 Hv1 hv1 hn1 hn2
 generalize hns:zBN D=nl at *
 generalize hN:nl.length=N at *
 have HN:=zh hN
 clear hns hN
 go_wp2_with fail
 go_loopw [7] (fun i wi=>∃ j:Nat,j≤N∧i=.int .i64 j∧Below w2.heap.size w2 wi) (fun i _=>N - (intOf i).toNat)
 case atStart=>exact ⟨0,Nat.zero_le _,rfl,Below.refl _ _⟩
 case round =>
  obtain ⟨j,hj,rfl,hb⟩:=hrel
  have HW:=zh (HB.out.trans (hb.mono HB.out.size))
  by_cases hjn:j < N
  ·have hjl:j < nl.length:=by rw [HN.out];exact hjn
   have hy:=List.getElem?_eq_getElem hjl
   have hyl:=Hno.out _ (List.getElem_mem hjl)
   rcases HasN.at HN1.out with h0 | ⟨b1,o1,c3,e1,hc1⟩
   ·rw [h0] at hjl
    simp at hjl
   rcases HasN.at HN2.out with h0 | ⟨b2,o2,c4,e2,hc2⟩
   ·rw [h0] at hjl
    simp at hjl
   rw [HN.out] at e1 e2
   cases e1
   cases e2
   have hcy1:=hc1 j _ hy
   have hcy2:=hc2 j _ hy
   rw [zCX] at hcy1 hcy2
   have hdy1:=(hb.cell (World.block_lt_of_cell? w2 _ hcy1)).trans hcy1
   have hdy2:=(hb.cell (World.block_lt_of_cell? w2 _ hcy2)).trans hcy2
   generalize nl[j]=y at *
   have hys:(⟨y.toArray⟩:ByteArray).size≤9223372036854775807:=by
    have:(⟨y.toArray⟩:ByteArray).size=y.length:=by rw [← zDU,nm_str]
    omega
   have Hrd:=zh (st_read (HS.out.next HW.out) ⟨y.toArray⟩ hys)
   have Hb:=zh hb
   clear hb hcy1 hcy2 hc1 hc2 hjl hy hyl hys
   go_wp2_with fail
   refine Hrd.out.mono ?_
   rintro e w8 ⟨v8,rfl,hv8,-,hb8,-⟩
   have hcy8:=(hb8.cell (World.block_lt_of_cell? _ _ hdy2)).trans hdy2
   have hcz8:=(hb8.cell (World.block_lt_of_cell? _ _ hdy1)).trans hdy1
   have HW8:=zh (HW.out.trans (hb8.mono HW.out.size))
   have Hrd2:=zh (zBt (HR.out.below HW8.out) ⟨y.toArray⟩)
   have Hv8:=zh hv8
   have Hb8:=zh (Hb.out.trans (hb8.mono Hb.out.size))
   clear hv8 hb8 Hrd hdy1 hdy2
   go_wp2_with fail
   refine Hrd2.out.mono ?_
   rintro e w9 ⟨v9,rfl,hv9,-,hb9⟩
   have hd1:=(hb9.cell (World.block_lt_of_cell? _ _ hcz8)).trans hcz8
   have hd2:=(hb9.cell (World.block_lt_of_cell? _ _ hcy8)).trans hcy8
   have h8:HasB w9 v8 (zCH (Sat.get (nm ⟨y.toArray⟩) D.files)):=(ownB_keep Hv8.out hb9).has
   obtain ⟨p8,c8,e8⟩:=h8.slice
   obtain ⟨p9,c9,e9⟩:=hv9.has.slice
   subst e8
   subst e9
   have k1:=fun q=>zCj (P:=Tryz.prog) (W:=w9.drewN q) (dst:=9) Tryz.underlying22 Tryz.underlying5 Tryz.underlying9 (HasB.below h8 (zAw w9 q))
   have k2:=fun q=>zCj (P:=Tryz.prog) (W:=w9.drewN q) (dst:=9) Tryz.underlying22 Tryz.underlying5 Tryz.underlying9 (HasB.below hv9.has (zAw w9 q))
   have HE:=zh (fun q=>Hb8.out.trans ((hb9.trans ((zAw w9 q).mono hb9.size)).mono Hb8.out.size))
   generalize hda:zCH (Sat.get (nm ⟨y.toArray⟩) D.files)=da at *
   clear hv9 hb9 Hrd2 Hb8 Hv8 hcy8 hcz8 h8 hda
   go_wp2_with fail
   go_quiet (fail)
   go_wp2_with fail
   go_roundw
   case rel=>exact ⟨j+1,by omega,by go_num,HE.out _⟩
   case measure=>simp [intOf];omega
  ·clear hb
   go_wp2_with fail
   go_ret
   exact ⟨rfl,HW.out⟩
theorem zCS {w w1:World} {d r:Nat} {D:zAA} (h:Pair w w1 d D r D) :
  Calls Tryz.prog 52 #[.pointer (some ⟨d,0,none⟩),.pointer (some ⟨r,0,none⟩)] w1 (OpenedL w d r (zAa D pA)):=by
 obtain ⟨own,v,L,hS,hR,hn⟩:=h
 have HR:=zh hR
 have HN:=zh hn
 have Hop:=zh (open_calls hS sA)
 rw [show nm sA=pA from rfl] at Hop
 have Hro:=zh (fun W (hW:zAU W r v L own D)=>lropen_calls hW sA)
 clear hS hR hn
 rw [show nm sA=pA from rfl] at Hro
 generalize zAa D pA=R at *
 go_enter Tryz.func52,Tryz.ntmps52
 go_wp2_with fail
 refine Hop.out.mono ?_
 rintro e w2 ⟨hst,hs,hcase⟩
 have HR2:=zh (HR.out.same hst hs)
 have HS2:=zh hst
 have Hro2:=zh (Hro.out w2 HR2.out)
 clear Hop Hro hs hst
 rcases hcase with ⟨hz,l,rfl,hL⟩ | ⟨hz,rfl⟩
 ·have HL:=zh hL
  have Hz:=zh hz
  clear hL hz
  go_wp2_with fail
  refine Hro2.out.mono ?_
  rintro e w3 hT
  rcases hT with ⟨-,y,Hot,Cold,rfl,hF,hc,hh⟩ | ⟨hne,-⟩
  rotate_left
  ·exact absurd Hz.out hne
  have HP:=zh (show zC1 w w3 l d y r R.1 R.2.2 from ⟨fun k=>Hot k∨Cold k,Hot,Cold,HL.out.move hc (fun k _ hk=>⟨hk,HN.out k hk⟩) fun k hk=>⟨hh k hk,hk.elim hF.hlt hF.clt⟩,hF,fun k hk=>⟨hk,(hh k hk).elim (HN.out k) fun h=>Nat.le_trans HL.out.bel.size h⟩⟩)
  clear hF hc hh Hro2 HR2 HS2 HL HR HN
  obtain ⟨own2,v2,L2,hS,hR,-⟩:=HP.out.pair
  have HF:=zh (zBa hS.noF hR)
  clear hS hR
  go_wp2_with fail
  refine HF.out.mono ?_
  rintro e w4 ⟨rfl,hb4⟩
  have HP4:=zh (HP.out.next hb4)
  have HAl:=zh (show Calls Tryz.prog 63 #[.pointer (some ⟨l,0,none⟩),.pointer (some ⟨y,0,none⟩)] w4 (zDS w4 R.2.2 R.2.2) from by
   have h9:=HP4.out.ref
   obtain ⟨F,Hot,Cold,hL,-,-⟩:=HP4.out
   exact zC3 hL h9)
  clear hb4 HF
  go_wp2_with fail
  refine HAl.out.mono ?_
  rintro e w5 ⟨b,rfl,hb,hb5⟩
  obtain rfl:=hb ⟨rfl,rfl,rfl⟩
  have HE:=zh (show OpenedL w d r R (.returned (.tuple #[.pointer (some ⟨l,0,none⟩),.pointer (some ⟨y,0,none⟩),.bool true])) w5 from .inl ⟨Hz.out,l,y,rfl,HP4.out.next hb5⟩)
  clear hb hb5 HAl HP HP4
  go_wp2_with fail
  go_ret3
  exact HE.out
 ·have Hz:=zh hz
  obtain ⟨D9,k9,M9⟩:=R
  have hk9:k9≠0:=hz
  have hk9i:((k9:Int) != 0)=true:=by simp;omega
  have hk9e:((k9:Int) == 0)=false:=by simp;omega
  clear hz hk9
  dsimp only at *
  go_wp2_with fail
  refine Hro2.out.mono ?_
  rintro e w3 hT
  rcases hT with ⟨hne,-⟩ | ⟨-,rfl,own',⟨v',L',hR'⟩,hc,hx⟩
  ·exact absurd hne Hz.out
  have HP:=zh (show Pair w w3 d D9 r D9 from Pair.moved HS2.out HN.out hR' hc hx)
  clear hR' hc hx Hro2 HR2 HS2 HR HN
  obtain ⟨own2,v2,L2,hS,hR,-⟩:=HP.out
  have HF:=zh (zBa hS.noF hR)
  clear hS hR
  dsimp only
  go_wp2_with fail
  refine HF.out.mono ?_
  rintro e w4 ⟨rfl,hb4⟩
  have HE:=zh (show OpenedL w d r (D9,k9,M9) (.returned (.tuple #[.pointer none,.pointer none,.bool true])) w4 from .inr ⟨Hz.out,rfl,HP.out.next hb4⟩)
  clear hb4 HF HP
  go_wp2_with fail
  go_ret3
  exact HE.out
end Go.Proofs.YtapfnehdgailmaaGreat
