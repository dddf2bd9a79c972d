/- ledger: log. (Printed by mkled5.py.) The document's ledger: At. (Printed by mkrl6.py.) -/
import Derived.Test.YtapfnehdgailmaaGreatEK
import Derived.Test.YtapfnehdgailmaaGreatEM
import Derived.Test.YtapfnehdgailmaaGreatEN
set_option maxRecDepth 100000
set_option maxHeartbeats 64000000
namespace Go.Proofs.YtapfnehdgailmaaGreat
open Go.RowKit Go.Sat Go.Maps
section
variable {w w1 w2:World} {l d t:Nat} {pre:ByteArray} {D:zAA} {M:LedM} {F F':Nat→Prop}
theorem led_has (h:LedF w w1 l d pre D M F) (s:ByteArray) :
  Calls Tryz.prog 186 #[.pointer (some ⟨d,0,none⟩),.string s] w1 fun e w'=>e=.returned (.bool (Sat.get (nm s) D.files).isSome)∧Below w1.heap.size w1 w':=by
 refine (has_calls h.st s).mono ?_
 rintro e w' ⟨rfl,hb,-⟩
 exact ⟨rfl,hb⟩
theorem led_read (h:LedF w w1 l d pre D M F) (s:ByteArray) (hs:s.size≤9223372036854775807) :
  Calls Tryz.prog 75 #[.pointer (some ⟨d,0,none⟩),.string s] w1 fun e w'=>∃ v,e=.returned (.tuple #[v,.int .i64 (readE (Sat.get (nm s) D.files))])∧OwnB w' 5 v (zCH (Sat.get (nm s) D.files))∧(∀ k,v.ownBlock=some k→w1.heap.size≤k)∧Below w1.heap.size w1 w':=by
 refine (st_read h.st s hs).mono ?_
 rintro e w' ⟨v,rfl,hv,hn,hb,-⟩
 exact ⟨v,rfl,hv,hn,hb⟩
theorem led_trunc (h:LedF w w1 l d pre D M F) (s:ByteArray) (hs:s.size≤9223372036854775807) (z:Int) (hz:-9223372036854775808≤z) (hz':z≤9223372036854775807) :
  Calls Tryz.prog 156 #[.pointer (some ⟨d,0,none⟩),.string s,.int .i64 z] w1 fun e w'=>e=.returned (.int .i64 ((D.truncate (nm s) z).2:Int))∧LedF w w' l d pre (D.truncate (nm s) z).1 M F∧Same F w1 w'∧w'.heap[l]?=w1.heap[l]? :=
 zDp h (Below.refl _ _) fun _ hS=>st_trunc hS s hs z hz hz'
theorem led_sync (h:LedF w w1 l d pre D M F) (s:ByteArray) (hs:s.size≤9223372036854775807) :
  Calls Tryz.prog 130 #[.pointer (some ⟨d,0,none⟩),.slice (some ⟨w1.heap.size,0,none⟩) 1 1] (w1.alloc (.cells #[.string s] 9)) fun e w'=>e=.returned (.int .i64 ((D.sync [nm s]).2:Int))∧LedF w w' l d pre (D.sync [nm s]).1 M F∧Same F w1 w'∧w'.heap[l]?=w1.heap[l]? :=
 zDp h (zAb _ _) fun _ hS=>st_sync hS [s] w1.heap.size 1 rfl (0,0) (by simp) (by simpa using hs)
theorem led_remove (h:LedF w w1 l d pre D M F) (s:ByteArray) (hs:s.size≤9223372036854775807) :
  Calls Tryz.prog 76 #[.pointer (some ⟨d,0,none⟩),.slice (some ⟨w1.heap.size,0,none⟩) 1 1] (w1.alloc (.cells #[.string s] 9)) fun e w'=>e=.returned (.int .i64 ((D.remove [nm s]).2:Int))∧LedF w w' l d pre (D.remove [nm s]).1 M F∧Same F w1 w'∧w'.heap[l]?=w1.heap[l]? :=
 zDp h (zAb _ _) fun _ hS=>st_remove hS [s] w1.heap.size 1 rfl (0,0) (by simp) (by simpa using hs)
def zCE (w w1:World) (l d:Nat) (pre:ByteArray) (M:LedM) (F:Nat→Prop) (r:zAA × Nat × List Bs) (e:Ending) (w':World):Prop :=
 e=.returned (.int .i64 (r.2.1:Int))∧St w w' d r.1 F∧Same F w1 w'∧(r.2.1=0→LedF w w' l d pre r.1 { M with entries:=r.2.2 } F)
theorem zDZ {r:zAA × Nat × List Bs} {k:Nat} {es:List Bs} (h:LedF w w2 l d pre D { M with entries:=es } F) (hs:Same F w1 w2) (hr:r=(D,k,es)):zCE w w1 l d pre M F r (.returned (.int .i64 (k:Int))) w2:=by
 subst hr
 exact ⟨rfl,h.stF,hs,fun _=>h⟩
theorem log_bad {r:zAA × Nat × List Bs} {k:Nat} {es:List Bs} (h:St w w2 d D F) (hs:Same F w1 w2) (hr:r=(D,k,es)) (hk:k≠0):zCE w w1 l d pre M F r (.returned (.int .i64 (k:Int))) w2:=by
 subst hr
 exact ⟨rfl,h,hs,fun e=>(hk e).elim⟩
theorem takeAll_cons (base:Nat) (s:Int × List Bs) (p:Bs) (r:List Bs):zAh base s (p :: r)=match zB1 base s p with | none=>none | some t=>zAh base t r:=rfl
theorem take1_le {base:Nat} {s s':Int × List Bs} {p:Bs} (h:zB1 base s p=some s'):-1≤s'.1∧s'.1≤1099511627776:=by
 unfold zB1 at h
 split at h
 ·cases h
 ·rename_i hc
  have h2:¬ 1099511627776 < (Rd.num ⟨p,false⟩).1:=fun e=>hc (.inr (.inr (.inl e)))
  split at h
  ·cases h
   exact ⟨by show (-1:Int)≤_;omega,by show ((Rd.num ⟨p,false⟩).1:Int)≤_;omega⟩
  ·split at h
   ·cases h
   ·cases h
    exact ⟨by show (-1:Int)≤_;omega,by show ((Rd.num ⟨p,false⟩).1:Int)≤_;omega⟩
theorem zBC.keep {w w':World} {v:Value} {vs:List Value} {ls:List Bs} (h:zBC w v vs ls) (hs:∀ j,(v.ownBlock=some j∨∃ u ∈ vs,u.ownBlock=some j)→w'.heap[j]?=w.heap[j]?):zBC w' v vs ls :=
 ⟨h.row.keep fun k hk=>hs k (.inl hk),fun i u b hu hl=>OwnR.keep (h.has i u b hu hl) fun k hk=>hs k (.inr ⟨u,List.mem_of_getElem? hu,hk⟩),h.sep⟩
theorem told_none {la:Int} {b:Bs} {e:Ending} {w':World} (h:zA1 w w1 l d pre D M F t la b e w') (hc:zB1 M.base (la,M.entries) b=none):St w w' d D F∧(∀ k,F k→k≠t→w'.heap[k]?=w1.heap[k]?)∧e=.returned (.bool false):=by
 unfold zA1 at h
 rw [hc] at h
 exact h
theorem told_some {la:Int} {b:Bs} {e:Ending} {w':World} {s:Int × List Bs} (h:zA1 w w1 l d pre D M F t la b e w') (hc:zB1 M.base (la,M.entries) b=some s):(∀ k,F k→k≠t→w'.heap[k]?=w1.heap[k]?)∧e=.returned (.bool true)∧LedF w w' l d pre D { M with entries:=s.2 } F∧w'.heap[t]?=some (zCM l s.1):=by
 unfold zA1 at h
 rw [hc] at h
 exact ⟨h.2.1,h.2.2⟩
def LogRel (w w1:World) (l d t:Nat) (pre:ByteArray) (D:zAA) (M:LedM) (G:Nat→Prop) (rows:List Bs) (n:Nat) (i:Value) (wr:World):Prop :=
 ∃ (k:Nat) (la:Int) (es:List Bs),k≤n∧i=.int .i64 k∧LedF w wr l d pre D { M with entries:=es } G∧wr.heap[t]?=some (zCM l la)∧(∀ j,G j→j≠t→wr.heap[j]?=w1.heap[j]?)∧-1≤la∧la≤1099511627776∧zAh M.base (-1,[]) rows=zAh M.base (la,es) (rows.drop k)
def LogF (F:Nat→Prop) (v:Value) (vs:List Value) (t:Nat) (k:Nat):Prop:=F k∨v.ownBlock=some k∨(∃ u ∈ vs,u.ownBlock=some k)∨k=t
theorem log_some {f:zAP} (h:Sat.get (logN (nm pre)) D.files=some f) (base:Nat):zBc D (nm pre) base=match zAh base (-1,[]) (scan f.data).1 with
  | none=>(D,3,[])
  | some s =>
   if (zAc D (logN (nm pre)) (scan f.data).2 f.data.length).2≠0 then ((zAc D (logN (nm pre)) (scan f.data).2 f.data.length).1,(zAc D (logN (nm pre)) (scan f.data).2 f.data.length).2,s.2)
   else if s.2=[] then (((zAc D (logN (nm pre)) (scan f.data).2 f.data.length).1.remove [logN (nm pre)]).1,((zAc D (logN (nm pre)) (scan f.data).2 f.data.length).1.remove [logN (nm pre)]).2,s.2)
   else ((zAc D (logN (nm pre)) (scan f.data).2 f.data.length).1,0,s.2):=by
 unfold zBc
 rw [h]
 rfl
theorem scan_rows_le (k:Nat):∀ b:Bs,b.length≤k→(∀ x ∈ (scan b).1,x.length≤b.length)∧(scan b).1.length≤b.length:=by
 induction k with
 | zero =>
  intro b h
  rw [zBm (.inl (List.eq_nil_of_length_eq_zero (by omega)))]
  exact ⟨fun x hx=>by simp at hx,Nat.zero_le _⟩
 | succ k ih =>
  intro b h
  by_cases he:decE b=0
  ·have hd:=zDH he
   have hi:=ih (b.drop (decL b)) (by rw [List.length_drop];omega)
   rw [scan_go he]
   rw [List.length_drop] at hi
   refine ⟨fun x hx=>?_,?_⟩
   ·rcases List.mem_cons.1 hx with rfl | hx
    ·unfold decB
     rw [if_pos he,List.length_take,List.length_drop]
     omega
    ·exact Nat.le_trans (hi.1 x hx) (by omega)
   ·show _+1≤_
    omega
  ·rw [zBm (.inr he)]
   exact ⟨fun x hx=>by simp at hx,Nat.zero_le _⟩
theorem scan_row {b x:Bs} {n:Nat} (h:n≤1073741824) (hn:b.length=n) (hx:x ∈ (scan b).1):x.length≤1073741824:=Nat.le_trans ((scan_rows_le _ b (Nat.le_refl _)).1 x hx) (by omega)
theorem scan_count {b:Bs} {n:Nat} {rows:List Bs} (h:n≤1073741824) (hn:b.length=n) (hr:(scan b).1=rows):rows.length≤1073741824:=by
 rw [← hr]
 exact Nat.le_trans (scan_rows_le _ b (Nat.le_refl _)).2 (by omega)
theorem log_calls (h:LedF w w1 l d pre D M F) (he0:M.entries=[]) :
  Calls Tryz.prog 176 #[.pointer (some ⟨l,0,none⟩)] w1 (zCE w w1 l d pre M F (zBc D (nm pre) M.base)):=by
 have hps:=h.psz.2
 have hM:M={ M with entries:=[] }:=by rw [← he0]
 have hln:=zCk h.okD (logN (nm pre))
 have hmf:∀ (fn:Fn) (first cap:Array Value) (w:World),(Instr.makeFunc fn first cap).run Tryz.prog w=.ok (.func fn first cap) w:=fun _ _ _ _=>rfl
 have H:=zh h
 have HM:=zh hM
 clear h hM
 cases ho:Sat.get (logN (nm pre)) D.files with
 | none =>
  have HR:=zh (show zBc D (nm pre) M.base=(D,0,[]) from by unfold zBc;rw [ho])
  clear hln hmf
  go_enter Tryz.func176,Tryz.ntmps176
  go_wp2_with fail
  have Hsd:=zh (H.out.same (zAH w1))
  have HLd:=zh (H.out.next (zAH _))
  obtain ⟨hc0,hc1,-⟩:=H.out.lc
  refine zAK (fun w':World=>w'.cell? ⟨l,0,none⟩=some (.pointer (some ⟨d,0,none⟩))∧w'.cell? ⟨l,1,none⟩=some (.string pre)) (n:=8) (by kernel_rfl) rfl (⟨hc0,hc1⟩) (fun hHeld=>?_)
  generalize w1.drew=W1 at *
  refine pl [0,1,2,3,4] ?_
  iterate 5 (refine pc rfl ?_;simp only [Act.put,uA,uB,uC])
  refine pn ?_
  refine zAB 5 rfl (by kernel_rfl) (by rfl) (fun K hK=>?_)
  go_wp2_with fail
  refine (zAQ ⟨hHeld.1,hHeld.2,hps⟩).mono ?_
  rintro e w9 ⟨rfl,rfl⟩
  go_wp2_with fail
  refine hK.out _ _ (hHeld) (fun hHeld=>?_)
  clear hK
  try simp only [Act.put,uA,uB,uC]
  refine zAB 6 rfl (by kernel_rfl) (by rfl) (fun K hK=>?_)
  have Hcl:=zh (led_has HLd.out (sLog pre))
  rw [zC7] at Hcl
  go_wp2_with fail
  refine Hcl.out.mono ?_
  rintro e w2 ⟨rfl,hb2⟩
  have Hh3:=zh (HLd.out.lc.same (hb2.block l HLd.out.llt))
  have HE:=zh (show zCE w w1 l d pre M F (zBc D (nm pre) M.base) (.returned (.int .i64 0)) w2 from zDZ (k:=0) (by rw [← HM.out];exact HLd.out.next hb2) (fun k hk=>(HLd.out.same hb2 k hk).trans (Hsd.out k hk)) HR.out)
  rw [ho]
  clear hb2 Hcl
  go_wp2_with fail
  refine hK.out _ _ (⟨Hh3.out.1,Hh3.out.2.1⟩) (fun hHeld=>?_)
  clear hK
  try simp only [Act.put,uA,uB,uC]
  refine otk 7 (v:=?v1x7) rfl ?_
  simp only [Act.put,uA,uB,uC]
  refine wpAnyH_done (by kernel_rfl) ?_ _
  go_wp2_with fail
  go_ret
  exact HE.out
 | some f =>
  rw [ho] at hln
  have hdl:f.data.length≤1073741824:=hln
  have HR:=zh (log_some ho M.base)
  have hq30:=scan_le f.data
  clear hln
  go_enter Tryz.func176,Tryz.ntmps176
  go_wp2_with fail
  have Hsd:=zh (H.out.same (zAH w1))
  have HLd:=zh (H.out.next (zAH _))
  obtain ⟨hc0,hc1,-⟩:=H.out.lc
  refine zAK (fun w':World=>w'.cell? ⟨l,0,none⟩=some (.pointer (some ⟨d,0,none⟩))∧w'.cell? ⟨l,1,none⟩=some (.string pre)) (n:=8) (by kernel_rfl) rfl (⟨hc0,hc1⟩) (fun hHeld=>?_)
  generalize w1.drew=W1 at *
  refine pl [0,1,2,3,4] ?_
  iterate 5 (refine pc rfl ?_;simp only [Act.put,uA,uB,uC])
  refine pn ?_
  refine zAB 5 rfl (by kernel_rfl) (by rfl) (fun K hK=>?_)
  go_wp2_with fail
  refine (zAQ ⟨hHeld.1,hHeld.2,hps⟩).mono ?_
  rintro e w9 ⟨rfl,rfl⟩
  go_wp2_with fail
  refine hK.out _ _ (hHeld) (fun hHeld=>?_)
  clear hK
  try simp only [Act.put,uA,uB,uC]
  refine zAB 6 rfl (by kernel_rfl) (by rfl) (fun K hK=>?_)
  have Hcl:=zh (led_has HLd.out (sLog pre))
  rw [zC7] at Hcl
  go_wp2_with fail
  refine Hcl.out.mono ?_
  rintro e w2 ⟨rfl,hb2⟩
  have Hh3:=zh (HLd.out.lc.same (hb2.block l HLd.out.llt))
  have HL2:=zh (HLd.out.next hb2)
  have Hs2:=zh (show Same F w1 w2 from fun k hk=>(HLd.out.same hb2 k hk).trans (Hsd.out k hk))
  rw [ho]
  clear hb2 Hcl
  go_wp2_with fail
  refine hK.out _ _ (⟨Hh3.out.1,Hh3.out.2.1⟩) (fun hHeld=>?_)
  clear hK
  try simp only [Act.put,uA,uB,uC]
  refine otk 7 (v:=?v2x7) rfl ?_
  simp only [Act.put,uA,uB,uC]
  refine wpAnyH_done (by kernel_rfl) ?_ _
  clear HLd Hsd Hh3
  go_wp2_with fail
  have Hsd:=zh (show Same F w1 w2.drew from Hs2.out)
  have HLd:=zh (HL2.out.next (zAH _))
  obtain ⟨hc0,hc1,-⟩:=HL2.out.lc
  refine zAK (fun w':World=>w'.cell? ⟨l,0,none⟩=some (.pointer (some ⟨d,0,none⟩))∧w'.cell? ⟨l,1,none⟩=some (.string pre)) (n:=12) (by kernel_rfl) rfl (⟨hc0,hc1⟩) (fun hHeld=>?_)
  generalize w2.drew=W1 at *
  refine pl [0,1,2,3,4] ?_
  iterate 5 (refine pc rfl ?_;simp only [Act.put,uA,uB,uC])
  refine pn ?_
  refine zAB 5 rfl (by kernel_rfl) (by rfl) (fun K hK=>?_)
  go_wp2_with fail
  refine (zAQ ⟨hHeld.1,hHeld.2,hps⟩).mono ?_
  rintro e w9 ⟨rfl,rfl⟩
  go_wp2_with fail
  refine hK.out _ _ (hHeld) (fun hHeld=>?_)
  clear hK
  try simp only [Act.put,uA,uB,uC]
  refine zAB 6 rfl (by kernel_rfl) (by rfl) (fun K hK=>?_)
  have Hcl:=zh (led_read HLd.out (sLog pre) (by rw [zB9];omega))
  rw [zC7] at Hcl
  go_wp2_with fail
  refine Hcl.out.mono ?_
  rintro e w3 ⟨v2,rfl,hv2,hn2,hb2⟩
  have Hh3:=zh (HLd.out.lc.same (hb2.block l HLd.out.llt))
  have HL3:=zh (HLd.out.next hb2)
  have Hs3:=zh (show Same F w1 w3 from fun k hk=>(HLd.out.same hb2 k hk).trans (Hsd.out k hk))
  rw [ho]
  rw [ho] at hv2
  have Hv3:=zh (show OwnB w3 5 v2 f.data from hv2)
  rw [show readE (some f)=0 from rfl]
  clear hb2 hv2 hn2 Hcl
  go_wp2_with fail
  refine hK.out _ _ (⟨Hh3.out.1,Hh3.out.2.1⟩) (fun hHeld=>?_)
  clear hK
  try simp only [Act.put,uA,uB,uC]
  refine pl [7,8,9,10,11] ?_
  iterate 5 (refine pc rfl ?_;simp only [Act.put,uA,uB,uC])
  refine pn ?_
  refine wpAnyH_done (by kernel_rfl) ?_ _
  obtain ⟨pb,cb,rfl,hcap⟩:=zAX Hv3.out
  have Hsc:=zh (scan_calls Hv3.out.has hcap hdl)
  clear HLd Hsd Hh3 Hs2 HL2 hcap
  generalize hlen:f.data.length=len at *
  go_wp2_with fail
  refine Hsc.out.mono ?_
  rintro e w4 ⟨v4,vs,rfl,hr4,hn4,hb4⟩
  have HL4:=zh (show LedF w (w4.alloc (zCM l (-1))) l d pre D M (LogF F v4 vs w4.heap.size) from HL3.out.more (hb4.alloc hb4.size _) fun k hk=>by
   rcases hk with hk | hk | ⟨u,hu,hk⟩ | rfl
   ·exact .inl hk
   ·exact .inr ⟨hn4.1 k hk,by have:=OwnR.lt hr4.row hk;simp;omega⟩
   ·obtain ⟨c,hc⟩:=mem_rows hr4 hu
    exact .inr ⟨hn4.2 u hu k hk,by have:=OwnR.lt hc hk;simp;omega⟩
   ·exact .inr ⟨hb4.size,by simp⟩)
  have Hs4:=zh (show Same F w1 (w4.alloc (zCM l (-1))) from fun k hk=>(HL3.out.same (hb4.alloc hb4.size _) k hk).trans (Hs3.out k hk))
  have HR4:=zh (hr4.below (zAJ w4 (zCM l (-1))))
  have Htk:=zh (zAW w4 (zCM l (-1)))
  have Htn:=zh (show w.heap.size≤w4.heap.size from Nat.le_trans HL3.out.bel.size hb4.size)
  have Hnt:=zh (show ∀ k,v4.ownBlock=some k→k≠w4.heap.size from fun k hk e=>by have:=OwnR.lt hr4.row hk;omega)
  have Hnt2:=zh (show ∀ u ∈ vs,∀ k,u.ownBlock=some k→k≠w4.heap.size from fun u hu k hk e=>by obtain ⟨c,hc⟩:=mem_rows hr4 hu;have:=OwnR.lt hc hk;omega)
  have Hrl:=zh (show ∀ x ∈ (scan f.data).1,x.length≤1073741824 from fun x hx=>scan_row hdl hlen hx)
  have Hjt:=zh (show ∀ j,F j→j≠w4.heap.size from fun j hj e=>by have h1:=HL3.out.flt hj;have h2:=hb4.size;omega)
  clear hr4 hn4 hb4 Hsc HL3 Hs3
  obtain ⟨pr,cr,rfl⟩:=OwnR.shape HR4.out.row
  generalize hq:(scan f.data).2=q at *
  generalize hrows:(scan f.data).1=rows at *
  have hnr:rows.length≤1073741824:=scan_count hdl hlen hrows
  generalize hnn:rows.length=n at *
  have Hnn:=zh hnn
  clear hq hrows hnn
  go_wp2_with fail
  go_loopw [44] (LogRel w (w4.alloc (zCM l (-1))) l d w4.heap.size pre D M (LogF F (.slice pr n cr) vs w4.heap.size) rows n) (fun i _=>n - (intOf i).toNat)
  case atStart=>exact ⟨0,-1,[],Nat.zero_le _,rfl,by rw [← HM.out];exact HL4.out,Htk.out,fun _ _ _=>rfl,by omega,by omega,rfl⟩
  case round =>
   clear HL4 Htk
   obtain ⟨k,la,es,hk,rfl,hL,ht,hsm,h1,h2,htk⟩:=hrel
   by_cases hlt:k < n
   ·have hkl:k < rows.length:=by rw [Hnn.out];exact hlt
    rw [List.drop_eq_getElem_cons hkl,takeAll_cons] at htk
    have hRW:=HR4.out.keep (w':=wr) fun j hj=>by
     rcases hj with hj | ⟨u,hu,hj⟩
     ·exact hsm j (.inr (.inl hj)) (Hnt.out j hj)
     ·exact hsm j (.inr (.inr (.inl ⟨u,hu,hj⟩))) (Hnt2.out u hu j hj)
    have hkv:k < vs.length:=by rw [hRW.len];exact hkl
    have hxr:=hRW.has k _ _ (List.getElem?_eq_getElem hkv) (List.getElem?_eq_getElem hkl)
    have hcell:∃ g,pr=some ⟨g,0,none⟩∧wr.cell? ⟨g,k,none⟩=some vs[k]:=by
     rcases hRW.row.2 with ⟨-,h0⟩ | ⟨g,cap,cur,e,-⟩
     ·omega
     ·refine ⟨g,?_,?_⟩
      ·simp only [Value.slice.injEq] at e
       exact e.1
      ·have hc:=hRW.row.cells (g:=g) (by rw [e];rfl) k _ (List.getElem?_eq_getElem hkv)
       rwa [add_zero] at hc
    obtain ⟨g,rfl,hcell⟩:=hcell
    have hx30:=Hrl.out _ (List.getElem_mem hkl)
    obtain ⟨px,cx,hpx,-⟩:=zAX hxr
    rw [hpx] at hxr hcell
    have Hta:=zh (takes_calls hL ht (.inr (.inr (.inr rfl))) Htn.out hxr.has hx30 h1 h2)
    have Hsm:=zh hsm
    have hxl:rows[k].length≤1073741824:=hx30
    cases hc:zB1 M.base (la,es) rows[k] with
    | none =>
     rw [hc] at htk
     have HRn:=zh (show zBc D (nm pre) M.base=(D,3,[]) from by rw [HR.out,htk])
     have Hc:=zh hc
     clear hL ht hsm htk hRW hxr hx30 hc hpx hkv
     generalize rows[k]=x at *
     generalize x.length=m at *
     clear hkl
     go_wp2_with fail
     refine Hta.out.mono ?_
     intro e w6 hT
     obtain ⟨hS6,hF6,rfl⟩:=told_none hT Hc.out
     have HE:=zh (show zCE w w1 l d pre M F (zBc D (nm pre) M.base) (.returned (.int .i64 3)) w6 from log_bad (k:=3) (hS6.less fun _ h=>.inl h) (fun j hj=>(hF6 j (.inl hj) (Hjt.out j hj)).trans ((Hsm.out j (.inl hj) (Hjt.out j hj)).trans (Hs4.out j hj))) HRn.out (by decide))
     clear hS6 hF6 hT
     go_wp2_with fail
     go_ret
     exact HE.out
    | some s =>
     rw [hc] at htk
     have Hc:=zh hc
     have Hk:=zh (show zAh M.base (-1,[]) rows=zAh M.base (s.1,s.2) (rows.drop (k+1)) from htk)
     have Hle:=zh (take1_le hc)
     clear hL ht hsm htk hRW hxr hx30 hc hpx hkv
     generalize rows[k]=x at *
     generalize x.length=m at *
     clear hkl
     go_wp2_with fail
     refine Hta.out.mono ?_
     intro e w6 hT
     obtain ⟨hF6,rfl,hL6,ht6⟩:=told_some hT Hc.out
     have HE:=zh (And.intro hL6 (And.intro ht6 (show ∀ j,LogF F (.slice (some ⟨g,0,none⟩) n cr) vs w4.heap.size j→j≠w4.heap.size→w6.heap[j]?=(w4.alloc (zCM l (-1))).heap[j]? from fun j hj hjt=>(hF6 j hj hjt).trans (Hsm.out j hj hjt))))
     clear hF6 hL6 ht6 hT
     go_wp2_with fail
     go_roundw
     case rel=>exact ⟨k+1,s.1,s.2,by omega,by go_num,HE.out.1,HE.out.2.1,HE.out.2.2,Hle.out.1,Hle.out.2,Hk.out⟩
     case measure=>simp [intOf];omega
   ·have hrn:rows.drop k=[]:=List.drop_of_length_le (by rw [Hnn.out];omega)
    have htk2:zAh M.base (-1,[]) rows=some (la,es):=by rw [htk,hrn];rfl
    have HLf:=zh (show LedF w wr l d pre D { M with entries:=es } F from hL.less fun _ h=>.inl h)
    have Hsf:=zh (show Same F w1 wr from fun j hj=>(hsm j (.inl hj) (Hjt.out j hj)).trans (Hs4.out j hj))
    have hR2:=HR.out
    rw [htk2] at hR2
    clear hL ht hsm htk htk2 hrn HR4 Hs4 Hrl Hnt Hnt2 Htn Hjt HR
    by_cases hq:q < len
    ·cases htr:D.truncate (logN (nm pre)) (q:Int) with
     | mk D1 e1 =>
      have Htr:=zh (show ∀ W,LedF w W l d pre D { M with entries:=es } F→Calls Tryz.prog 156 #[.pointer (some ⟨d,0,none⟩),.string (sLog pre),.int .i64 (q:Int)] W fun e w'=>e=.returned (.int .i64 (e1:Int))∧LedF w w' l d pre D1 { M with entries:=es } F∧Same F W w'∧w'.heap[l]?=W.heap[l]? from fun W h=>by
       have:=led_trunc h (sLog pre) (by rw [zB9];omega) (q:Int) (by omega) (by omega)
       rwa [zC7,htr] at this)
      by_cases he1:e1=0
      ·subst he1
       cases hsy:D1.sync [logN (nm pre)] with
       | mk D2 e2 =>
        have hT:zAc D (logN (nm pre)) q len=(D2,e2):=by unfold zAc;rw [if_pos hq,htr,if_neg (by simp)];exact hsy
        have Hsy:=zh (show ∀ W,LedF w W l d pre D1 { M with entries:=es } F→Calls Tryz.prog 130 #[.pointer (some ⟨d,0,none⟩),.slice (some ⟨W.heap.size,0,none⟩) 1 1] (W.alloc (.cells #[.string (sLog pre)] 9)) fun e w'=>e=.returned (.int .i64 (e2:Int))∧LedF w w' l d pre D2 { M with entries:=es } F∧Same F W w'∧w'.heap[l]?=W.heap[l]? from fun W h=>by
         have:=led_sync h (sLog pre) (by rw [zB9];omega)
         rwa [zC7,hsy] at this)
        rw [hT] at hR2
        have HR2:=zh hR2
        clear htr hsy hT hR2
        by_cases he2:e2=0
        ·subst he2
         go_wp2_with fail
         have Hsd:=zh (show Same F w1 wr.drew from Hsf.out)
         have HLd:=zh (HLf.out.next (zAH _))
         obtain ⟨hc0,hc1,-⟩:=HLf.out.lc
         refine zAK (fun w':World=>w'.cell? ⟨l,0,none⟩=some (.pointer (some ⟨d,0,none⟩))∧w'.cell? ⟨l,1,none⟩=some (.string pre)) (n:=9) (by kernel_rfl) rfl (⟨hc0,hc1⟩) (fun hHeld=>?_)
         generalize wr.drew=W1 at *
         refine pl [0,1,2,3,4,6] ?_
         iterate 6 (refine pc rfl ?_;simp only [Act.put,uA,uB,uC])
         refine pn ?_
         refine zAB 5 rfl (by kernel_rfl) (by rfl) (fun K hK=>?_)
         go_wp2_with fail
         refine (zAQ ⟨hHeld.1,hHeld.2,hps⟩).mono ?_
         rintro e w9 ⟨rfl,rfl⟩
         go_wp2_with fail
         refine hK.out _ _ (hHeld) (fun hHeld=>?_)
         clear hK
         try simp only [Act.put,uA,uB,uC]
         refine zAB 7 rfl (by kernel_rfl) (by rfl) (fun K hK=>?_)
         go_wp2_with fail
         refine (Htr.out W1 HLd.out).mono ?_
         rintro e w5 ⟨rfl,hl2,hs2,hk2⟩
         have Hh3:=zh (HLd.out.lc.same hk2)
         have HLt:=zh hl2
         have Hst:=zh (show Same F w1 w5 from fun k hk=>(hs2 k hk).trans (Hsd.out k hk))
         clear hl2 hs2 hk2
         go_wp2_with fail
         refine hK.out _ _ (⟨Hh3.out.1,Hh3.out.2.1⟩) (fun hHeld=>?_)
         clear hK
         try simp only [Act.put,uA,uB,uC]
         refine otk 8 (v:=?v4x8) rfl ?_
         simp only [Act.put,uA,uB,uC]
         refine wpAnyH_done (by kernel_rfl) ?_ _
         clear HLd Hsd Hh3
         go_wp2_with fail
         have Hsd:=zh (show Same F w1 w5.drew from Hst.out)
         have HLd:=zh (HLt.out.next (zAH _))
         obtain ⟨hc0,hc1,-⟩:=HLt.out.lc
         refine zAK (fun w':World=>w'.cell? ⟨l,0,none⟩=some (.pointer (some ⟨d,0,none⟩))∧w'.cell? ⟨l,1,none⟩=some (.string pre)) (n:=9) (by kernel_rfl) rfl (⟨hc0,hc1⟩) (fun hHeld=>?_)
         generalize w5.drew=W1 at *
         refine pl [0,1,2,3,4] ?_
         iterate 5 (refine pc rfl ?_;simp only [Act.put,uA,uB,uC])
         refine pn ?_
         refine zAB 5 rfl (by kernel_rfl) (by rfl) (fun K hK=>?_)
         go_wp2_with fail
         refine (zAQ ⟨hHeld.1,hHeld.2,hps⟩).mono ?_
         rintro e w9 ⟨rfl,rfl⟩
         go_wp2_with fail
         refine hK.out _ _ (hHeld) (fun hHeld=>?_)
         clear hK
         try simp only [Act.put,uA,uB,uC]
         refine zAB 6 rfl (by kernel_rfl) (by rfl) (fun K hK=>?_)
         have Hh2:=zh (show (W1.alloc (.cells #[.string (sLog pre)] 9)).cell? ⟨l,0,none⟩=some (.pointer (some ⟨d,0,none⟩))∧(W1.alloc (.cells #[.string (sLog pre)] 9)).cell? ⟨l,1,none⟩=some (.string pre) from ⟨zAT hHeld.1 _,zAT hHeld.2 _⟩)
         go_wp2_with fail
         refine hK.out _ _ (Hh2.out) (fun hHeld=>?_)
         clear hK
         try simp only [Act.put,uA,uB,uC]
         refine zAB 7 rfl (by kernel_rfl) (by rfl) (fun K hK=>?_)
         go_wp2_with fail
         refine (Hsy.out W1 HLd.out).mono ?_
         rintro e w6 ⟨rfl,hl2,hs2,hk2⟩
         have Hh3:=zh (HLd.out.lc.same hk2)
         have HLu:=zh hl2
         have Hsu:=zh (show Same F w1 w6 from fun k hk=>(hs2 k hk).trans (Hsd.out k hk))
         clear hl2 hs2 hk2
         go_wp2_with fail
         refine hK.out _ _ (⟨Hh3.out.1,Hh3.out.2.1⟩) (fun hHeld=>?_)
         clear hK
         try simp only [Act.put,uA,uB,uC]
         refine otk 8 (v:=?v5x8) rfl ?_
         simp only [Act.put,uA,uB,uC]
         refine wpAnyH_done (by kernel_rfl) ?_ _
         clear HLd Hsd Hh3
         have HR3:=zh (show zBc D (nm pre) M.base=if es=[] then ((D2.remove [logN (nm pre)]).1,(D2.remove [logN (nm pre)]).2,es) else (D2,0,es) from by rw [HR2.out];rfl)
         obtain ⟨dv,ev,hcl,-,vs',hrow,-⟩:=HLu.out.cells
         obtain ⟨p4,c4,rfl⟩:=OwnR.shape hrow
         have k4:=zAC hcl (i:=4) rfl
         clear hcl hrow
         by_cases hes:es=[]
         ·have hlen0:(({ M with entries:=es }:LedM).entries.length:Int)=0:=by rw [hes];rfl
          generalize ({ M with entries:=es }:LedM).entries.length=m4 at *
          obtain rfl:m4=0:=by omega
          clear hlen0
          cases hrm:zAA.remove D2 [logN (nm pre)] with
          | mk D3 e3 =>
           have Hsy:=zh (show ∀ W,LedF w W l d pre D2 { M with entries:=es } F→Calls Tryz.prog 76 #[.pointer (some ⟨d,0,none⟩),.slice (some ⟨W.heap.size,0,none⟩) 1 1] (W.alloc (.cells #[.string (sLog pre)] 9)) fun e w'=>e=.returned (.int .i64 (e3:Int))∧LedF w w' l d pre D3 { M with entries:=es } F∧Same F W w'∧w'.heap[l]?=W.heap[l]? from fun W h=>by
            have:=led_remove h (sLog pre) (by rw [zB9];omega)
            rwa [zC7,hrm] at this)
           have HR4:=zh (show zBc D (nm pre) M.base=(D3,e3,es) from by rw [HR3.out,if_pos hes,hrm])
           clear hrm hes
           go_wp2_with fail
           have Hsd:=zh (show Same F w1 w6.drew from Hsu.out)
           have HLd:=zh (HLu.out.next (zAH _))
           obtain ⟨hc0,hc1,-⟩:=HLu.out.lc
           refine zAK (fun w':World=>w'.cell? ⟨l,0,none⟩=some (.pointer (some ⟨d,0,none⟩))∧w'.cell? ⟨l,1,none⟩=some (.string pre)) (n:=9) (by kernel_rfl) rfl (⟨hc0,hc1⟩) (fun hHeld=>?_)
           generalize w6.drew=W1 at *
           refine pl [0,1,2,3,4] ?_
           iterate 5 (refine pc rfl ?_;simp only [Act.put,uA,uB,uC])
           refine pn ?_
           refine zAB 5 rfl (by kernel_rfl) (by rfl) (fun K hK=>?_)
           go_wp2_with fail
           refine (zAQ ⟨hHeld.1,hHeld.2,hps⟩).mono ?_
           rintro e w9 ⟨rfl,rfl⟩
           go_wp2_with fail
           refine hK.out _ _ (hHeld) (fun hHeld=>?_)
           clear hK
           try simp only [Act.put,uA,uB,uC]
           refine zAB 6 rfl (by kernel_rfl) (by rfl) (fun K hK=>?_)
           have Hh2:=zh (show (W1.alloc (.cells #[.string (sLog pre)] 9)).cell? ⟨l,0,none⟩=some (.pointer (some ⟨d,0,none⟩))∧(W1.alloc (.cells #[.string (sLog pre)] 9)).cell? ⟨l,1,none⟩=some (.string pre) from ⟨zAT hHeld.1 _,zAT hHeld.2 _⟩)
           go_wp2_with fail
           refine hK.out _ _ (Hh2.out) (fun hHeld=>?_)
           clear hK
           try simp only [Act.put,uA,uB,uC]
           refine zAB 7 rfl (by kernel_rfl) (by rfl) (fun K hK=>?_)
           go_wp2_with fail
           refine (Hsy.out W1 HLd.out).mono ?_
           rintro e w8 ⟨rfl,hl2,hs2,hk2⟩
           have Hh3:=zh (HLd.out.lc.same hk2)
           have HE:=zh (show zCE w w1 l d pre M F (zBc D (nm pre) M.base) (.returned (.int .i64 (e3:Int))) w8 from zDZ hl2 (fun k hk=>(hs2 k hk).trans (Hsd.out k hk)) HR4.out)
           clear hl2 hs2 hk2
           go_wp2_with fail
           refine hK.out _ _ (⟨Hh3.out.1,Hh3.out.2.1⟩) (fun hHeld=>?_)
           clear hK
           try simp only [Act.put,uA,uB,uC]
           refine otk 8 (v:=?v6x8) rfl ?_
           simp only [Act.put,uA,uB,uC]
           refine wpAnyH_done (by kernel_rfl) ?_ _
           go_wp2_with fail
           go_ret
           exact HE.out
         ·have hlen0:((({ M with entries:=es }:LedM).entries.length:Int) == 0)=false:=by
           have:es.length≠0:=fun e=>hes (List.eq_nil_of_length_eq_zero e)
           show ((es.length:Int) == 0)=false
           simp;omega
          have HE:=zh (show zCE w w1 l d pre M F (zBc D (nm pre) M.base) (.returned (.int .i64 0)) w6 from zDZ (k:=0) HLu.out Hsu.out (by rw [HR3.out,if_neg hes]))
          generalize ({ M with entries:=es }:LedM).entries.length=m4 at *
          clear hes
          go_wp2_with fail
          go_ret
          exact HE.out
        ·have hne:((e2:Int) != 0)=true:=by simp;omega
         have HR3:=zh (show zBc D (nm pre) M.base=(D2,e2,es) from by rw [HR2.out];exact if_pos he2)
         go_wp2_with fail
         have Hsd:=zh (show Same F w1 wr.drew from Hsf.out)
         have HLd:=zh (HLf.out.next (zAH _))
         obtain ⟨hc0,hc1,-⟩:=HLf.out.lc
         refine zAK (fun w':World=>w'.cell? ⟨l,0,none⟩=some (.pointer (some ⟨d,0,none⟩))∧w'.cell? ⟨l,1,none⟩=some (.string pre)) (n:=9) (by kernel_rfl) rfl (⟨hc0,hc1⟩) (fun hHeld=>?_)
         generalize wr.drew=W1 at *
         refine pl [0,1,2,3,4,6] ?_
         iterate 6 (refine pc rfl ?_;simp only [Act.put,uA,uB,uC])
         refine pn ?_
         refine zAB 5 rfl (by kernel_rfl) (by rfl) (fun K hK=>?_)
         go_wp2_with fail
         refine (zAQ ⟨hHeld.1,hHeld.2,hps⟩).mono ?_
         rintro e w9 ⟨rfl,rfl⟩
         go_wp2_with fail
         refine hK.out _ _ (hHeld) (fun hHeld=>?_)
         clear hK
         try simp only [Act.put,uA,uB,uC]
         refine zAB 7 rfl (by kernel_rfl) (by rfl) (fun K hK=>?_)
         go_wp2_with fail
         refine (Htr.out W1 HLd.out).mono ?_
         rintro e w5 ⟨rfl,hl2,hs2,hk2⟩
         have Hh3:=zh (HLd.out.lc.same hk2)
         have HLt:=zh hl2
         have Hst:=zh (show Same F w1 w5 from fun k hk=>(hs2 k hk).trans (Hsd.out k hk))
         clear hl2 hs2 hk2
         go_wp2_with fail
         refine hK.out _ _ (⟨Hh3.out.1,Hh3.out.2.1⟩) (fun hHeld=>?_)
         clear hK
         try simp only [Act.put,uA,uB,uC]
         refine otk 8 (v:=?v7x8) rfl ?_
         simp only [Act.put,uA,uB,uC]
         refine wpAnyH_done (by kernel_rfl) ?_ _
         clear HLd Hsd Hh3
         go_wp2_with fail
         have Hsd:=zh (show Same F w1 w5.drew from Hst.out)
         have HLd:=zh (HLt.out.next (zAH _))
         obtain ⟨hc0,hc1,-⟩:=HLt.out.lc
         refine zAK (fun w':World=>w'.cell? ⟨l,0,none⟩=some (.pointer (some ⟨d,0,none⟩))∧w'.cell? ⟨l,1,none⟩=some (.string pre)) (n:=9) (by kernel_rfl) rfl (⟨hc0,hc1⟩) (fun hHeld=>?_)
         generalize w5.drew=W1 at *
         refine pl [0,1,2,3,4] ?_
         iterate 5 (refine pc rfl ?_;simp only [Act.put,uA,uB,uC])
         refine pn ?_
         refine zAB 5 rfl (by kernel_rfl) (by rfl) (fun K hK=>?_)
         go_wp2_with fail
         refine (zAQ ⟨hHeld.1,hHeld.2,hps⟩).mono ?_
         rintro e w9 ⟨rfl,rfl⟩
         go_wp2_with fail
         refine hK.out _ _ (hHeld) (fun hHeld=>?_)
         clear hK
         try simp only [Act.put,uA,uB,uC]
         refine zAB 6 rfl (by kernel_rfl) (by rfl) (fun K hK=>?_)
         have Hh2:=zh (show (W1.alloc (.cells #[.string (sLog pre)] 9)).cell? ⟨l,0,none⟩=some (.pointer (some ⟨d,0,none⟩))∧(W1.alloc (.cells #[.string (sLog pre)] 9)).cell? ⟨l,1,none⟩=some (.string pre) from ⟨zAT hHeld.1 _,zAT hHeld.2 _⟩)
         go_wp2_with fail
         refine hK.out _ _ (Hh2.out) (fun hHeld=>?_)
         clear hK
         try simp only [Act.put,uA,uB,uC]
         refine zAB 7 rfl (by kernel_rfl) (by rfl) (fun K hK=>?_)
         go_wp2_with fail
         refine (Hsy.out W1 HLd.out).mono ?_
         rintro e w6 ⟨rfl,hl2,hs2,hk2⟩
         have Hh3:=zh (HLd.out.lc.same hk2)
         have HLu:=zh hl2
         have Hsu:=zh (show Same F w1 w6 from fun k hk=>(hs2 k hk).trans (Hsd.out k hk))
         clear hl2 hs2 hk2
         go_wp2_with fail
         refine hK.out _ _ (⟨Hh3.out.1,Hh3.out.2.1⟩) (fun hHeld=>?_)
         clear hK
         try simp only [Act.put,uA,uB,uC]
         refine otk 8 (v:=?v8x8) rfl ?_
         simp only [Act.put,uA,uB,uC]
         refine wpAnyH_done (by kernel_rfl) ?_ _
         clear HLd Hsd Hh3
         have HE:=zh (show zCE w w1 l d pre M F (zBc D (nm pre) M.base) (.returned (.int .i64 (e2:Int))) w6 from zDZ HLu.out Hsu.out HR3.out)
         go_wp2_with fail
         go_ret
         exact HE.out
      ·have hT:zAc D (logN (nm pre)) q len=(D1,e1):=by unfold zAc;rw [if_pos hq,htr,if_pos he1]
       rw [hT] at hR2
       have hne:((e1:Int) != 0)=true:=by simp;omega
       have HR3:=zh (show zBc D (nm pre) M.base=(D1,e1,es) from by rw [hR2];exact if_pos he1)
       clear htr hT hR2 he1
       go_wp2_with fail
       have Hsd:=zh (show Same F w1 wr.drew from Hsf.out)
       have HLd:=zh (HLf.out.next (zAH _))
       obtain ⟨hc0,hc1,-⟩:=HLf.out.lc
       refine zAK (fun w':World=>w'.cell? ⟨l,0,none⟩=some (.pointer (some ⟨d,0,none⟩))∧w'.cell? ⟨l,1,none⟩=some (.string pre)) (n:=9) (by kernel_rfl) rfl (⟨hc0,hc1⟩) (fun hHeld=>?_)
       generalize wr.drew=W1 at *
       refine pl [0,1,2,3,4,6] ?_
       iterate 6 (refine pc rfl ?_;simp only [Act.put,uA,uB,uC])
       refine pn ?_
       refine zAB 5 rfl (by kernel_rfl) (by rfl) (fun K hK=>?_)
       go_wp2_with fail
       refine (zAQ ⟨hHeld.1,hHeld.2,hps⟩).mono ?_
       rintro e w9 ⟨rfl,rfl⟩
       go_wp2_with fail
       refine hK.out _ _ (hHeld) (fun hHeld=>?_)
       clear hK
       try simp only [Act.put,uA,uB,uC]
       refine zAB 7 rfl (by kernel_rfl) (by rfl) (fun K hK=>?_)
       go_wp2_with fail
       refine (Htr.out W1 HLd.out).mono ?_
       rintro e w5 ⟨rfl,hl2,hs2,hk2⟩
       have Hh3:=zh (HLd.out.lc.same hk2)
       have HLt:=zh hl2
       have Hst:=zh (show Same F w1 w5 from fun k hk=>(hs2 k hk).trans (Hsd.out k hk))
       clear hl2 hs2 hk2
       go_wp2_with fail
       refine hK.out _ _ (⟨Hh3.out.1,Hh3.out.2.1⟩) (fun hHeld=>?_)
       clear hK
       try simp only [Act.put,uA,uB,uC]
       refine otk 8 (v:=?v9x8) rfl ?_
       simp only [Act.put,uA,uB,uC]
       refine wpAnyH_done (by kernel_rfl) ?_ _
       clear HLd Hsd Hh3
       have HE:=zh (show zCE w w1 l d pre M F (zBc D (nm pre) M.base) (.returned (.int .i64 (e1:Int))) w5 from zDZ HLt.out Hst.out HR3.out)
       go_wp2_with fail
       go_ret
       exact HE.out
    ·have hT:zAc D (logN (nm pre)) q len=(D,0):=by unfold zAc;rw [if_neg hq]
     rw [hT] at hR2
     have HR3:=zh (show zBc D (nm pre) M.base=if es=[] then ((D.remove [logN (nm pre)]).1,(D.remove [logN (nm pre)]).2,es) else (D,0,es) from by rw [hR2];rfl)
     clear hT hR2
     obtain ⟨dv,ev,hcl,-,vs',hrow,-⟩:=HLf.out.cells
     obtain ⟨p4,c4,rfl⟩:=OwnR.shape hrow
     have k4:=zAC hcl (i:=4) rfl
     clear hcl hrow
     by_cases hes:es=[]
     ·have hlen0:(({ M with entries:=es }:LedM).entries.length:Int)=0:=by rw [hes];rfl
      generalize ({ M with entries:=es }:LedM).entries.length=m4 at *
      obtain rfl:m4=0:=by omega
      clear hlen0
      cases hrm:zAA.remove D [logN (nm pre)] with
      | mk D3 e3 =>
       have Hsy:=zh (show ∀ W,LedF w W l d pre D { M with entries:=es } F→Calls Tryz.prog 76 #[.pointer (some ⟨d,0,none⟩),.slice (some ⟨W.heap.size,0,none⟩) 1 1] (W.alloc (.cells #[.string (sLog pre)] 9)) fun e w'=>e=.returned (.int .i64 (e3:Int))∧LedF w w' l d pre D3 { M with entries:=es } F∧Same F W w'∧w'.heap[l]?=W.heap[l]? from fun W h=>by
        have:=led_remove h (sLog pre) (by rw [zB9];omega)
        rwa [zC7,hrm] at this)
       have HR4:=zh (show zBc D (nm pre) M.base=(D3,e3,es) from by rw [HR3.out,if_pos hes,hrm])
       clear hrm hes
       go_wp2_with fail
       have Hsd:=zh (show Same F w1 wr.drew from Hsf.out)
       have HLd:=zh (HLf.out.next (zAH _))
       obtain ⟨hc0,hc1,-⟩:=HLf.out.lc
       refine zAK (fun w':World=>w'.cell? ⟨l,0,none⟩=some (.pointer (some ⟨d,0,none⟩))∧w'.cell? ⟨l,1,none⟩=some (.string pre)) (n:=9) (by kernel_rfl) rfl (⟨hc0,hc1⟩) (fun hHeld=>?_)
       generalize wr.drew=W1 at *
       refine pl [0,1,2,3,4] ?_
       iterate 5 (refine pc rfl ?_;simp only [Act.put,uA,uB,uC])
       refine pn ?_
       refine zAB 5 rfl (by kernel_rfl) (by rfl) (fun K hK=>?_)
       go_wp2_with fail
       refine (zAQ ⟨hHeld.1,hHeld.2,hps⟩).mono ?_
       rintro e w9 ⟨rfl,rfl⟩
       go_wp2_with fail
       refine hK.out _ _ (hHeld) (fun hHeld=>?_)
       clear hK
       try simp only [Act.put,uA,uB,uC]
       refine zAB 6 rfl (by kernel_rfl) (by rfl) (fun K hK=>?_)
       have Hh2:=zh (show (W1.alloc (.cells #[.string (sLog pre)] 9)).cell? ⟨l,0,none⟩=some (.pointer (some ⟨d,0,none⟩))∧(W1.alloc (.cells #[.string (sLog pre)] 9)).cell? ⟨l,1,none⟩=some (.string pre) from ⟨zAT hHeld.1 _,zAT hHeld.2 _⟩)
       go_wp2_with fail
       refine hK.out _ _ (Hh2.out) (fun hHeld=>?_)
       clear hK
       try simp only [Act.put,uA,uB,uC]
       refine zAB 7 rfl (by kernel_rfl) (by rfl) (fun K hK=>?_)
       go_wp2_with fail
       refine (Hsy.out W1 HLd.out).mono ?_
       rintro e w8 ⟨rfl,hl2,hs2,hk2⟩
       have Hh3:=zh (HLd.out.lc.same hk2)
       have HE:=zh (show zCE w w1 l d pre M F (zBc D (nm pre) M.base) (.returned (.int .i64 (e3:Int))) w8 from zDZ hl2 (fun k hk=>(hs2 k hk).trans (Hsd.out k hk)) HR4.out)
       clear hl2 hs2 hk2
       go_wp2_with fail
       refine hK.out _ _ (⟨Hh3.out.1,Hh3.out.2.1⟩) (fun hHeld=>?_)
       clear hK
       try simp only [Act.put,uA,uB,uC]
       refine otk 8 (v:=?v10x8) rfl ?_
       simp only [Act.put,uA,uB,uC]
       refine wpAnyH_done (by kernel_rfl) ?_ _
       go_wp2_with fail
       go_ret
       exact HE.out
     ·have hlen0:((({ M with entries:=es }:LedM).entries.length:Int) == 0)=false:=by
       have:es.length≠0:=fun e=>hes (List.eq_nil_of_length_eq_zero e)
       show ((es.length:Int) == 0)=false
       simp;omega
      have HE:=zh (show zCE w w1 l d pre M F (zBc D (nm pre) M.base) (.returned (.int .i64 0)) wr from zDZ (k:=0) HLf.out Hsf.out (by rw [HR3.out,if_neg hes]))
      generalize ({ M with entries:=es }:LedM).entries.length=m4 at *
      clear hes
      go_wp2_with fail
      go_ret
      exact HE.out
end
section
variable {w1:World} {l r:Nat} {pre:ByteArray} {O C:Nat→Prop} {M:LedM} {dv ev:Value} {vs:List Value}
theorem lrat_yes (h:LRIn w1 l r pre O C M dv ev vs) (j:Nat) (hj:j < M.entries.length) :
  Calls Tryz.prog 143 #[.pointer (some ⟨l,0,none⟩),.int .i64 (((M.base+1+j:Nat)):Int)] w1 fun e w'=>∃ v,e=.returned (.tuple #[v,.int .i64 0])∧OwnB w' 5 v M.entries[j]∧(∀ k,v.ownBlock=some k→w1.heap.size≤k)∧Below w1.heap.size w1 w':=by
 obtain ⟨i0,hi,hz0,hz1,hz2⟩:=info_parts (show (Tryz.prog.info? 5).map (fun i=>(i.zero,i.size,i.bytes))=some (some (.int .u8 0),1,1) by kernel_rfl)
 have Hla:=zh (zDq h)
 have hlast:=h.last
 have h2:=h.c 2 rfl
 have h4:=h.c 4 rfl
 have hvl:j < vs.length:=by rw [h.rlen];exact hj
 have hrow:=h.rows j _ _ (List.getElem?_eq_getElem hj) (List.getElem?_eq_getElem hvl)
 have hbig:=h.big.2 _ (List.getElem_mem hj)
 rcases h.row.2 with ⟨-,h0⟩ | ⟨g,cap,cur,rfl,-⟩
 ·omega
 have hcell:=h.row.cells (g:=g) rfl j _ (List.getElem?_eq_getElem hvl)
 rw [add_zero] at hcell
 obtain ⟨p,c,hp⟩:=hrow.slice
 rw [hp] at hcell hrow
 have Hrow:=zh hrow
 unfold LedM.last at hlast
 have HL:=zh (show M.last=M.base+M.entries.length from rfl)
 clear h hrow hp
 generalize hx:M.entries[j]=x at *
 clear hx
 generalize hm:x.length=m at *
 generalize M.entries.length=n at *
 generalize M.last=la at *
 generalize M.base=b at *
 have hla:la=b+n:=HL.out
 have e1:((b+1+j:Nat):Int)=(b:Int)+1+(j:Int):=by omega
 rw [e1]
 have hn1:¬ ((b:Int)+1+(j:Int)≤(b:Int)):=by omega
 have hn2:¬ ((la:Int) < (b:Int)+1+(j:Int)):=by omega
 have hd1:decide ((b:Int)+1+(j:Int)≤(b:Int))=false:=by simp;omega
 have hd2:decide ((la:Int) < (b:Int)+1+(j:Int))=false:=by simp;omega
 have hw1:IntKind.i64.wrap ((b:Int)+1+(j:Int) - (b:Int))=(j:Int)+1:=by rw [IntWalk.i64_in _ (by omega)];omega
 have hw2:IntKind.i64.wrap (j:Int)=(j:Int):=IntWalk.i64_in _ (by omega)
 clear hla
 have Hm:=zh hm
 clear hm
 go_enter Tryz.func143,Tryz.ntmps143
 go_wp2_with fail
 refine Hla.out.mono ?_
 rintro e w2 ⟨rfl,q,rfl⟩
 have h2:(w1.drewN q).cell? ⟨l,2,none⟩=some (.int .i64 (b:Int)):=h2
 have h4:(w1.drewN q).cell? ⟨l,4,none⟩=some (.slice (some ⟨g,0,none⟩) n cap):=h4
 have hcell:(w1.drewN q).cell? ⟨g,j,none⟩=some (.slice p m c):=hcell
 go_wp2_with fail
 refine zAK (fun w':World=>w'.cell? ⟨l,2,none⟩=some (.int .i64 (b:Int))∧w'.cell? ⟨l,4,none⟩=some (.slice (some ⟨g,0,none⟩) n cap)∧w'.cell? ⟨g,j,none⟩=some (.slice p m c)) (n:=17) (by kernel_rfl) rfl (⟨h2,h4,hcell⟩) (fun hHeld=>?_)
 have HB1:=zh (show Below w1.heap.size w1 (w1.drewN q).drew from ⟨rfl,rfl,rfl,Nat.le_refl _,fun _ _=>rfl⟩)
 generalize (w1.drewN q).drew=W1 at *
 refine pl [1,2,3,4,5,6,7,8,9,10,11,12,13] ?_
 iterate 13 (refine pc rfl ?_;simp only [Act.put,uA,uB,uC])
 refine pn ?_
 refine zAB 0 rfl (by kernel_rfl) (by rfl) (fun K hK=>?_)
 have HBW:=zh (zAb W1 (.cells #[] 5))
 have Hh1:=zh (And.intro (zAx hHeld.1 HBW.out) (And.intro (zAx hHeld.2.1 HBW.out) (zAx hHeld.2.2 HBW.out)))
 have HeldX:=zh hHeld
 go_wp2_with fail
 refine hK.out _ _ (Hh1.out) (fun hHeld=>?_)
 clear hK
 try simp only [Act.put,uA,uB,uC]
 refine zAB 14 rfl (by kernel_rfl) (by rfl) (fun K hK=>?_)
 have Hal:=zh (zAq W1 5)
 have Hxx:=zh (show zAY (W1.alloc (.cells #[] 5)) 1 (.slice p m c) m (zAN x) from by
  have h1:=Hrow.out.below (HB1.out.trans (HBW.out.mono HB1.out.size))
  unfold HasB at h1
  rwa [Hm.out] at h1)
 refine zAi (.tmp 18) (.tmp 31) 22 rfl 5 i0 (.int .u8 0) 1 1 Tryz.underlying22 hi hz0 hz1 hz2 rfl (by decide) (.slice (some ⟨W1.heap.size,0,none⟩) 0 0) 0 [] rfl Hal.out (.slice p m c) m _ rfl Hxx.out (zAM _) (by unfold maxLen;omega) (by omega) ?_
 intro v7 w7 hown hgrow hloc
 have HN:=zh (zDG Hm.out hown hgrow hloc)
 have Hh6:=zh (And.intro (zAx HeldX.out.1 HN.out.2.2) (And.intro (zAx HeldX.out.2.1 HN.out.2.2) (zAx HeldX.out.2.2 HN.out.2.2)))
 clear hown hgrow hloc Hal Hxx
 go_wp2_with fail
 refine hK.out _ _ (Hh6.out) (fun hHeld=>?_)
 clear hK
 try simp only [Act.put,uA,uB,uC]
 refine pl [15,16] ?_
 iterate 2 (refine pc rfl ?_;simp only [Act.put,uA,uB,uC])
 refine pn ?_
 refine wpAnyH_done (by kernel_rfl) ?_ _
 have HE:=zh (And.intro HN.out.1 (And.intro (fun k hk=>Nat.le_trans HB1.out.size (HN.out.2.1 k hk)) (HB1.out.trans (HN.out.2.2.mono HB1.out.size))))
 go_wp2_with fail
 go_ret2
 exact ⟨_,rfl,HE.out.1,HE.out.2.1,HE.out.2.2⟩
theorem lrat_no (h:LRIn w1 l r pre O C M dv ev vs) (i:Int) (hi:¬ ((M.base:Int) < i∧i≤(M.last:Int))) (hi1:-9223372036854775808≤i∧i≤9223372036854775807) :
  Calls Tryz.prog 143 #[.pointer (some ⟨l,0,none⟩),.int .i64 i] w1 fun e w'=>e=.returned (.tuple #[.slice none 0 0,.int .i64 7])∧Below w1.heap.size w1 w':=by
 have Hla:=zh (zDq h)
 have h2:=h.c 2 rfl
 clear h
 generalize M.last=la at *
 generalize M.base=b at *
 by_cases h1:i≤(b:Int)
 ·have d1:decide (i≤(b:Int))=true:=decide_eq_true h1
  clear hi h1
  go_enter Tryz.func143,Tryz.ntmps143
  go_wp2_with fail
  go_ret2
  exact ⟨rfl,Below.refl _ _⟩
 ·have d1:decide (i≤(b:Int))=false:=decide_eq_false h1
  have d2:decide ((la:Int) < i)=true:=decide_eq_true (by omega)
  clear hi h1
  go_enter Tryz.func143,Tryz.ntmps143
  go_wp2_with fail
  refine Hla.out.mono ?_
  rintro e w2 ⟨rfl,q,rfl⟩
  have HE:=zh (zAw (B:=w1.heap.size) w1 q)
  generalize w1.drewN q=w2 at *
  go_wp2_with fail
  go_ret2
  exact ⟨rfl,HE.out⟩
end
end Go.Proofs.YtapfnehdgailmaaGreat
