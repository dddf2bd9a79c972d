/- The contracts of the document's Reader (satrapyref1), with the set of blocks in which its bytes lie. The document's Reader: Num, Bytes. journal: At (no), TermAt, groupAt, Nodes, Snapshot. (Printed by mkj6.py.) journal: a Writer of a function's own; group, first, termRecord, entryRecord, framed. (Printed by mkj7.py.) journal: lays, SetTerm. (Printed by mkj8.py.) journal: SetTerm. (Printed by mkj9.py.) journal: Cut. (Printed by mkj10.py.) journal: rows that are gathered, entries handed in. (Printed by mkj11.py.) journal: Append. (Printed by mkj12.py.) journal: writes. (Printed by mkj13.py.) journal: slices.Clone of entries, rebase. (Printed by mkj14.py.) journal: goes. (Printed by mkj15.py.) journal: Compact, Install. (Printed by mkj16.py.) journal: Install. (Printed by mkj17.py.) octet: Reader.Nums; journal: readGroup. (Printed by mkj18.py.) The document's ReadList (satrapyref5). journal: record. (Printed by mkj19.py.) journal: record, kind 4. (Printed by mkj20.py.) journal: record, kind 2. (Printed by mkj21.py.) journal: record, kind 3. (Printed by mkj22.py.) journal: record. (Printed by mkj23.py.) journal: readSnap. (Printed by mkj24.py.) journal: readLog. (Printed by mkj25.py.) journal: Open (plain laws). The document's ReadEntry and reads: plain laws (what its list of nodes says is what the program's says). The document's journal: Group. The document's Is (satrapyref5). (Printed by mkrk1.py out of the text JouB.) The document's octet: Num, Nums. (Printed by mkrj1.py.) The document's: Nums, List, record, terms. (Printed by mkrj2.py.) The document's journal: List, first. (Printed by mkrj3.py.) The document's disk through several steps: what is set apart (F) stays as it was. The document's journal (satrapyref5) in memory; Last, TermAt. The document's journal: GroupAt, Config. (Printed by mkrk2.py.) satrapyref5.Own. (Printed by mkrk3.py.) satrapyref5.ReadEntry. (Printed by mkro1.py.) The document's journal: At. (Printed by mkrk4.py.) The document's Whole (satrapyref4): a file is made to hold just these bytes. The document's journal: a thing done with its disk; lays. (Printed by mkrk6.py.) What an empty disk opens as (plain laws). The disk of a journal "a": a log, and a snapshot or none (plain laws). What the disk of a journal "a" opens as (plain laws). A journal of a law's own on its disk: what each thing done leaves (plain laws). A journal of a law's own on its disk: start, SetTerm, Append, Cut (plain laws). A journal of a law's own on its disk: Compact, Install (plain laws). satrapylaw5.known: what it does (plain). satrapyref1.Bytes, satrapyref5.Bytes, entry. (Printed by mkrk5.py.) The document's journal: SetTerm, Cut. (Printed by mkrk7.py.) The document's journal: its list turned; Cut. (Printed by mkrk8.py.) -/
import Derived.Lib.SliceRun
import Derived.Test.YtapfnehdgailmaaGreatDC
import Derived.Test.YtapfnehdgailmaaGreatDE
import Derived.Test.YtapfnehdgailmaaGreatDF
import Derived.Test.YtapfnehdgailmaaGreatDG
import Derived.Test.YtapfnehdgailmaaGreatDH
import Derived.Test.YtapfnehdgailmaaGreatDI
set_option maxRecDepth 100000
set_option maxHeartbeats 64000000
namespace Go.Proofs.YtapfnehdgailmaaGreat
open Go.RowKit Go.Sat Go.Maps
structure RRIn (w:World) (r:Nat) (R:Rd) (p:Option Addr) (n c:Nat):Prop where
 cells:w.heap[r]?=some (.cells #[.slice p n c,.bool R.bad] 148 (0,0))
 has:HasB w (.slice p n c) R.rest
 cap:n≤c
 ne:(Value.slice p n c).ownBlock≠some r
 len:R.rest.length≤140737488355328
 inv:R.bad=true→R.rest=[]
def RdY (A:Nat→Prop) (w:World) (r:Nat) (R:Rd):Prop:=∃ p n c,RRIn w r R p n c∧∀ k,(Value.slice p n c).ownBlock=some k→A k
theorem RRIn.n_eq {w:World} {r:Nat} {R:Rd} {p:Option Addr} {n c:Nat} (h:RRIn w r R p n c):R.rest.length=n:=by obtain ⟨_,_,e⟩:=h.has.slice;simp only [Value.slice.injEq] at e;exact e.2.1.symm
theorem RRIn.rlt {w:World} {r:Nat} {R:Rd} {p:Option Addr} {n c:Nat} (h:RRIn w r R p n c):r < w.heap.size:=zBF h.cells
theorem RdY.lt {A:Nat→Prop} {w:World} {r:Nat} {R:Rd} (h:RdY A w r R):r < w.heap.size:=let ⟨_,_,_,h,_⟩:=h;h.rlt
theorem RdY.len {A:Nat→Prop} {w:World} {r:Nat} {R:Rd} (h:RdY A w r R):R.rest.length≤140737488355328:=let ⟨_,_,_,h,_⟩:=h;h.len
theorem RdY.inv {A:Nat→Prop} {w:World} {r:Nat} {R:Rd} (h:RdY A w r R):R.bad=true→R.rest=[]:=let ⟨_,_,_,h,_⟩:=h;h.inv
theorem RdY.chg {A S:Nat→Prop} {w w':World} {r:Nat} {R:Rd} (h:RdY A w r R) (hc:Chg S w w') (hr:¬ S r) (hA:∀ k,A k→¬ S k):RdY A w' r R:=by
 obtain ⟨p,n,c,h,ha⟩:=h
 exact ⟨p,n,c,⟨(hc.block r h.rlt hr).trans h.cells,HasB.chg h.has hc fun k hk=>hA k (ha k hk),h.cap,h.ne,h.len,h.inv⟩,ha⟩
theorem RdY.below {A:Nat→Prop} {w w':World} {r:Nat} {R:Rd} (h:RdY A w r R) (hb:Below w.heap.size w w'):RdY A w' r R:=h.chg (Chg.of_below hb) id fun _ _=>id
theorem RdY.c1 {A:Nat→Prop} {w:World} {r:Nat} {R:Rd} (h:RdY A w r R):w.cell? ⟨r,1,none⟩=some (.bool R.bad):=let ⟨_,_,_,h,_⟩:=h;zAC h.cells rfl
def RStepY (A:Nat→Prop) (w:World) (r:Nat) (R':Rd) (v:Value) (e:Ending) (w':World):Prop:=e=.returned v∧RdY A w' r R'∧Chg (fun k=>k=r) w w'
def NumY (A:Nat→Prop) (w:World) (r:Nat) (R:Rd) (e:Ending) (w':World):Prop:=e=.returned (.int .i64 (R.num.1:Int))∧RdY A w' r R.num.2∧Chg (fun k=>k=r) w w'
def RowY (A:Nat→Prop) (w:World) (r:Nat) (b:Bs) (R':Rd) (e:Ending) (w':World):Prop :=
 ∃ v,e=.returned v∧OwnB w' 5 v b∧(∀ j,v.ownBlock=some j→w.heap.size≤j)∧RdY A w' r R'∧Chg (fun j=>j=r) w w'
theorem copy_new {w w':World} {e:TypeId} {v:Value} {l:Bs} {m:Nat} (hm:l.length=m) (hown:OwnR w' e 1 v (0+m) ([] ++ zAR l)) (hg:(w.alloc (.cells #[] e)).grownBy w' (some w.heap.size)) (hl:v.ownBlock=some w.heap.size∨∃ g,v.ownBlock=some g∧(w.alloc (.cells #[] e)).heap.size≤g) :
  OwnB w' e v l∧(∀ k,v.ownBlock=some k→w.heap.size≤k)∧Below w.heap.size w w':=by
 subst hm
 rw [Nat.zero_add,List.nil_append] at hown
 refine ⟨hown,fun k hk=>?_,(zAc w _).trans ((Chg.of_grown hg).below (by simp) fun k hk e=>?_)⟩
 ·rcases hl with h | ⟨g,h,hge⟩
  ·rw [h] at hk
   cases hk
   exact Nat.le_refl _
  ·rw [h] at hk
   cases hk
   simp at hge
   omega
 ·have:=Option.some.inj e
  omega
section
variable {w:World} {r:Nat} {R:Rd} {p:Option Addr} {n c:Nat} {A:Nat→Prop}
theorem rrbad_calls (h:RdY A w r R) :
  Calls Tryz.prog 164 #[.pointer (some ⟨r,0,none⟩)] w (RStepY A w r Rd.fail (.tuple #[])):=by
 obtain ⟨p,n,c,h,hA⟩:=h
 have h0:w.cell? ⟨r,0,none⟩=some (.slice p n c):=zAC h.cells rfl
 have h1:w.cell? ⟨r,1,none⟩=some (.bool R.bad):=zAC h.cells rfl
 have hf:=fun i=>zAK h.cells i
 have HE:=zh (show RStepY A w r Rd.fail (.tuple #[]) (.returned (.tuple #[])) ((w.setCell ⟨r,1,none⟩ (.bool true)).setCell ⟨r,0,none⟩ (.slice none 0 0)) from ⟨rfl,⟨none,0,0,⟨by
  have h1:=zAP h.cells 1 (.bool true)
  have h2:=zAP h1 0 (.slice none 0 0)
  simpa [Rd.fail] using h2,OwnB.has (e:=0) (OwnR.nil _ _ _),Nat.le_refl _,fun h=>(by cases h),Nat.zero_le _,fun _=>rfl⟩,fun k hk=>(by cases hk)⟩,(Chg.setCell w ⟨r,1,none⟩ _).trans (Chg.setCell _ ⟨r,0,none⟩ _) fun _ _ e=>e⟩)
 clear h
 go_enter Tryz.func164,Tryz.ntmps164
 go_wp2_with fail
 go_end0
 exact HE.out
theorem rrraw_calls (h:RdY A w r R) (m:Nat) (hm63:m≤9223372036854775807) :
  Calls Tryz.prog 163 #[.pointer (some ⟨r,0,none⟩),.int .i64 (m:Int)] w (RowY A w r (R.raw m).1 (R.raw m).2):=by
 obtain ⟨i0,hi,hz0,hz1,hz2⟩:=info_parts (show (Tryz.prog.info? 5).map (fun i=>(i.zero,i.size,i.bytes))=some (some (.int .u8 0),1,1) by kernel_rfl)
 have Hbd:=zh (rrbad_calls h)
 obtain ⟨p,n,c,h,hA⟩:=h
 have hn:=h.n_eq
 have hlen:=h.len
 have c0:w.cell? ⟨r,0,none⟩=some (.slice p n c):=zAC h.cells rfl
 have c1:w.cell? ⟨r,1,none⟩=some (.bool R.bad):=zAC h.cells rfl
 have d0:decide ((m:Int) < 0)=false:=decide_eq_false (by omega)
 by_cases hm:m≤n
 ·have d1:decide ((n:Int) < (m:Int))=false:=decide_eq_false (by omega)
  have hR:R.raw m=(R.rest.take m,⟨R.rest.drop m,R.bad⟩):=by unfold Rd.raw;rw [if_pos (by omega)]
  rw [hR]
  cases hbd:R.bad with
  | true =>
   have hrest:=h.inv hbd
   have hm0:m=0:=by rw [hrest] at hn;simp at hn;omega
   subst hm0
   rw [hbd] at c1
   have HE:=zh (show RowY A w r (R.rest.take 0) ⟨R.rest.drop 0,true⟩ (.returned (.slice none 0 0)) w from ⟨_,rfl,OwnR.nil _ _ _,fun j hj=>(by cases hj),⟨p,n,c,⟨by rw [← hbd];exact h.cells,h.has,h.cap,h.ne,h.len,fun _=>hrest⟩,hA⟩,Chg.refl _ _⟩)
   clear h hR Hbd hA hrest
   go_enter Tryz.func163,Tryz.ntmps163
   go_wp2_with fail
   go_ret
   exact HE.out
  | false =>
   rw [hbd] at c1
   obtain ⟨p',c',hsl,hh,hc,hne,hnA⟩:=run_tailX (P:=Tryz.prog) Tryz.underlying22 hi hz1 h.has h.cap r m h.ne hm
   have hup:∀ W,(Instr.slice 22 (.slice p n c) none (some (.int .i64 (m:Int))) none).run Tryz.prog W=.ok (.slice p m c) W:=fun W=>zB8 W Tryz.underlying22 hi p n c m (by have:=h.cap;omega)
   have hb1:=zAc w (.cells #[] 5)
   have Hcut:=zh (show zAX (w.alloc (.cells #[] 5)) 1 (.slice p m c) m (zAR (R.rest.take m)) from by
    have h1:=HasB.cut (h.has.below hb1) (k:=m) (by omega) c
    unfold HasB at h1
    rwa [List.length_take,Nat.min_eq_left (by omega)] at h1)
   have Hin:=zh h
   have Hh:=zh (And.intro hh (And.intro hc (And.intro hne hnA)))
   have hrl:=h.rlt
   have HA:=zh hA
   have c0a:=zBl c0 hb1
   have Hbd2:=zh hbd
   have Hn:=zh hn
   clear hh hc hne h hR Hbd hA hnA hb1
   go_enter Tryz.func163,Tryz.ntmps163
   go_wp2_with (at_builtin;refine zAf (w.alloc (.cells #[] 5)) rfl (.tmp 23) (.tmp 29) 22 rfl 5 i0 (.int .u8 0) 1 1 Tryz.underlying22 hi hz0 hz1 hz2 rfl (by decide) (.slice (some ⟨w.heap.size,0,none⟩) 0 0) 0 [] rfl (zBG w _) (.slice p m c) m (zAR (R.rest.take m)) rfl Hcut.out (zAY _) (by unfold maxLen;omega) (by omega) ?_;intro v3 w3 hown3 hgrow3 hloc3;go_loud (have HN:=zh (copy_new (by rw [List.length_take,Nat.min_eq_left (by have:=Hn.out;omega)]) hown3 hgrow3 hloc3);have hcell3:w3.heap[r]?=some (.cells #[.slice p n c,.bool R.bad] 148 (0,0)):=(HN.out.2.2.block r hrl).trans Hin.out.cells;have c03:=zAC hcell3 (i:=0) rfl;have hfr3:=fun i=>zAK hcell3 i;have HC:=zh hcell3;clear hown3 hgrow3 hloc3 hcell3))
   go_ret
   obtain ⟨hv,hvn,hb3⟩:=HN.out
   have hlt3:r < w3.heap.size:=zBF HC.out
   refine ⟨v3,rfl,?_,hvn,⟨p',n - m,c',⟨?_,?_,Hh.out.2.1,Hh.out.2.2.1,?_,fun e=>(by cases e)⟩,fun k hk=>HA.out k (Hh.out.2.2.2 k hk)⟩,?_⟩
   ·exact OwnR.keep hv fun k hk=>zAD _ fun e=>by
     have:=hvn k hk
     have e:k=r:=e
     omega
   ·have h1:=zAP HC.out 0 (.slice p' (n - m) c')
    rw [Hbd2.out] at h1
    simpa using h1
   ·exact HasB.set (HasB.below Hh.out.1 hb3) _ Hh.out.2.2.1
   ·show (R.rest.drop m).length≤_
    rw [List.length_drop]
    omega
   ·exact ((Chg.of_below hb3).mono fun _ _ h=>h.elim).trans (Chg.setCell _ ⟨r,0,none⟩ _) fun _ _ e=>e
 ·have d1:decide ((n:Int) < (m:Int))=true:=decide_eq_true (by omega)
  have hR:R.raw m=([],Rd.fail):=by unfold Rd.raw;rw [if_neg (by omega)]
  rw [hR]
  clear h hR
  go_enter Tryz.func163,Tryz.ntmps163
  go_wp2_with fail
  refine Hbd.out.mono ?_
  rintro e w1 ⟨rfl,hr,hc⟩
  have e1:=hr.c1
  have HE:=zh (And.intro hr hc)
  clear hr hc
  have e1:w1.cell? ⟨r,1,none⟩=some (.bool true):=e1
  go_wp2_with fail
  go_ret
  exact ⟨_,rfl,OwnR.nil _ _ _,fun j hj=>(by cases hj),HE.out⟩
theorem zDI (h:RdY A w r R) :
  Calls Tryz.prog 87 #[.pointer (some ⟨r,0,none⟩)] w fun e w'=>e=.returned (.bool R.whole)∧w'=w:=by
 obtain ⟨p,n,c,h,hA⟩:=h
 have hn:=h.n_eq
 have c0:w.cell? ⟨r,0,none⟩=some (.slice p n c):=zAC h.cells rfl
 have c1:w.cell? ⟨r,1,none⟩=some (.bool R.bad):=zAC h.cells rfl
 have HE:=zh (show R.rest.isEmpty=((n:Int) == 0) from by
  rw [Bool.eq_iff_iff,List.isEmpty_iff,← List.length_eq_zero_iff,hn]
  simp)
 have HW:=zh (show R.whole=(!R.bad && R.rest.isEmpty) from rfl)
 clear h hn
 cases hb:R.bad with
 | true =>
  rw [hb] at c1 HW
  go_enter Tryz.func87,Tryz.ntmps87
  go_wp2_with fail
  go_ret
  exact ⟨by rw [HW.out];rfl,rfl⟩
 | false =>
  rw [hb] at c1 HW
  go_enter Tryz.func87,Tryz.ntmps87
  go_wp2_with fail
  go_ret
  exact ⟨by rw [HW.out,HE.out];rfl,rfl⟩
end
theorem take_one {l:Bs} {x:UInt8} {t:Bs} (h:l=x :: t) (b:Bool):Rd.raw ⟨l,b⟩ 1=([x],⟨t,b⟩):=by
 subst h
 unfold Rd.raw
 rw [if_pos (by simp)]
 rfl
theorem raw_nil (b:Bool):Rd.raw ⟨[],b⟩ 1=([],Rd.fail):=rfl
theorem or_big (a:Nat) (ha:a < 9223372036854775808):∃ Z:Nat,bits .or .u64 (a:Int) (IntKind.u64.wrap (IntKind.u64.wrap (bits .and .u8 1 127) * 9223372036854775808))=(Z:Int)∧4611686018427387904 < Z:=by
 have e:(IntKind.u64.wrap (IntKind.u64.wrap (bits .and .u8 1 127) * 9223372036854775808))=((9223372036854775808:Nat):Int):=by rfl
 rw [e]
 refine ⟨a ||| 9223372036854775808,u64_or_nat a 9223372036854775808 (by omega) (by decide),?_⟩
 have:=@Nat.right_le_or a 9223372036854775808
 omega
theorem zCz {w:World} {r:Nat} {R:Rd} {A:Nat→Prop} (h:RdY A w r R) :
  Calls Tryz.prog 84 #[.pointer (some ⟨r,0,none⟩)] w (NumY A w r R):=by
 have Hno:=zh (show zBY 0 0 R.rest=none→R.num=(0,Rd.fail) from fun e=>by unfold Rd.num;rw [e])
 have Hyes:=zh (show ∀ v t,zBY 0 0 R.rest=some (v,t)→R.num=(v,⟨t,R.bad⟩) from fun v t e=>by unfold Rd.num;rw [e])
 have Hin:=zh h
 clear h
 go_enter Tryz.func84,Tryz.ntmps84
 go_wp2_with fail
 go_loopw [3,4] (fun u i wr=>∃ k a:Nat,k≤9∧i=.int .i64 k∧u=.int .u64 a∧a < 128 ^ k∧∃ S,zBY 0 0 R.rest=zBY k a S∧RdY A wr r ⟨S,R.bad⟩∧Chg (fun k=>k=r) w wr) (fun _ i _=>10 - (intOf i).toNat)
 case atStart=>exact ⟨0,0,by omega,rfl,rfl,by simp,R.rest,rfl,Hin.out,Chg.refl _ _⟩
 case round =>
  obtain ⟨k,a,hk9,rfl,rfl,ha,S,hgo,hrd,hch⟩:=hrel
  have Hraw:=zh (rrraw_calls hrd 1 (by decide))
  have Hch:=zh hch
  have hlt10:decide ((k:Int) < 10)=true:=decide_eq_true (by omega)
  cases S with
  | nil =>
   rw [raw_nil] at Hraw
   have HE:=zh (Hno.out hgo)
   clear hgo hrd hch
   go_wp2_with fail
   refine Hraw.out.mono ?_
   rintro e w1 ⟨v,rfl,-,-,hr,hc⟩
   have e1:w1.cell? ⟨r,1,none⟩=some (.bool true):=hr.c1
   have HF:=zh (show NumY A w r R (.returned (.int .i64 0)) w1 from ⟨by rw [HE.out];rfl,by rw [HE.out];exact hr,Hch.out.trans hc fun _ _ e=>e⟩)
   clear hr hc Hraw
   go_wp2_with fail
   go_ret
   exact HF.out
  | cons x0 S =>
   rw [take_one rfl] at Hraw
   have hbd:R.bad=false:=by
    cases hb:R.bad with
    | false=>rfl
    | true=>have:=hrd.inv hb;cases this
   have hx:=x0.toNat_lt
   have Hgo:=zh hgo
   have Hstop:=zh (show 9≤k∨(0 < k∧x0.toNat=0)→zBY k a (x0 :: S)=none from fun e=>by
    unfold zBY
    rw [if_pos (e.imp id fun e=>⟨e.1,UInt8.toNat.inj (by rw [e.2];rfl)⟩)])
   have Hgo1:=zh (show ¬ (9≤k∨(0 < k∧x0.toNat=0))→x0.toNat < 128→zBY k a (x0 :: S)=if 4611686018427387904 < a+x0.toNat * 128 ^ k then none else some (a+x0.toNat * 128 ^ k,S) from fun e h=>by
    rw [zBY,if_neg (fun h=>e (h.imp id fun h=>⟨h.1,by rw [h.2];rfl⟩)),if_pos h])
   have Hgo2:=zh (show ¬ (9≤k∨(0 < k∧x0.toNat=0))→¬ x0.toNat < 128→zBY k a (x0 :: S)=zBY (k+1) (a+x0.toNat % 128 * 128 ^ k) S from fun e h=>by
    rw [zBY,if_neg (fun h=>e (h.imp id fun h=>⟨h.1,by rw [h.2];rfl⟩)),if_neg h])
   clear hgo hrd hch
   go_wp2_with fail
   refine Hraw.out.mono ?_
   rintro e w1 ⟨v,rfl,hv,hvn,hr,hc⟩
   have e1:w1.cell? ⟨r,1,none⟩=some (.bool false):=by rw [← hbd];exact hr.c1
   obtain ⟨g,cc,rfl,hcell⟩:∃ g cc,v=.slice (some ⟨g,0,none⟩) 1 cc∧w1.cell? ⟨g,0,none⟩=some (.int .u8 (x0.toNat:Int)):=by
    have hh:=hv.has
    obtain ⟨hlv,⟨rfl,h0⟩ | ⟨g,cap,cur,rfl,hg⟩⟩:=hv
    ·simp at h0
    ·refine ⟨g,cap,rfl,?_⟩
     obtain ⟨_,p,c,e,_,hcs⟩:=hh
     cases e
     have:=hcs _ rfl 0 (.int .u8 (x0.toNat:Int)) (by simp [zAR])
     rwa [add_zero] at this
   have Hr1:=zh (And.intro hr (Hch.out.trans hc fun _ _ e=>e))
   have Hbad:=zh (rrbad_calls hr)
   clear hv hvn hr hc Hraw
   generalize x0.toNat=x at *
   by_cases h9:9≤k
   ·obtain rfl:k=9:=by omega
    have HE:=zh (Hno.out (Hgo.out.trans (Hstop.out (.inl (Nat.le_refl _)))))
    by_cases hx1:127 < x
    ·go_wp2_with fail
     refine Hbad.out.mono ?_
     rintro e w2 ⟨rfl,hr,hc⟩
     have HF:=zh (show NumY A w r R (.returned (.int .i64 0)) w2 from ⟨by rw [HE.out];rfl,by rw [HE.out];exact hr,Hr1.out.2.trans hc fun _ _ e=>e⟩)
     clear hr hc
     go_wp2_with fail
     go_ret
     exact HF.out
    ·by_cases hx2:1 < x
     ·go_wp2_with fail
      refine Hbad.out.mono ?_
      rintro e w2 ⟨rfl,hr,hc⟩
      have HF:=zh (show NumY A w r R (.returned (.int .i64 0)) w2 from ⟨by rw [HE.out];rfl,by rw [HE.out];exact hr,Hr1.out.2.trans hc fun _ _ e=>e⟩)
      clear hr hc
      go_wp2_with fail
      go_ret
      exact HF.out
     ·by_cases hx3:x=0
      ·subst hx3
       go_wp2_with fail
       refine Hbad.out.mono ?_
       rintro e w2 ⟨rfl,hr,hc⟩
       have HF:=zh (show NumY A w r R (.returned (.int .i64 0)) w2 from ⟨by rw [HE.out];rfl,by rw [HE.out];exact hr,Hr1.out.2.trans hc fun _ _ e=>e⟩)
       clear hr hc
       go_wp2_with fail
       go_ret
       exact HF.out
      ·obtain rfl:x=1:=by omega
       obtain ⟨Z,ho1,ho2⟩:=or_big a (by
        have h9:(128:Nat) ^ 9=9223372036854775808:=by decide
        omega)
       have ho3:decide ((4611686018427387904:Int) < (Z:Int))=true:=decide_eq_true (by omega)
       go_wp2_with fail
       refine Hbad.out.mono ?_
       rintro e w2 ⟨rfl,hr,hc⟩
       have HF:=zh (show NumY A w r R (.returned (.int .i64 0)) w2 from ⟨by rw [HE.out];rfl,by rw [HE.out];exact hr,Hr1.out.2.trans hc fun _ _ e=>e⟩)
       clear hr hc
       go_wp2_with fail
       go_ret
       exact HF.out
   ·by_cases hz:0 < k∧x=0
    ·have HE:=zh (Hno.out (Hgo.out.trans (Hstop.out (.inr hz))))
     obtain ⟨hk0,rfl⟩:=hz
     have hn9:((k:Int) == 9)=false:=by simp;omega
     go_wp2_with fail
     refine Hbad.out.mono ?_
     rintro e w2 ⟨rfl,hr,hc⟩
     have HF:=zh (show NumY A w r R (.returned (.int .i64 0)) w2 from ⟨by rw [HE.out];rfl,by rw [HE.out];exact hr,Hr1.out.2.trans hc fun _ _ e=>e⟩)
     clear hr hc
     go_wp2_with fail
     go_ret
     exact HF.out
    ·have hs:¬ (9≤k∨(0 < k∧x=0)):=fun e=>e.elim h9 hz
     have hn9:((k:Int) == 9)=false:=by simp;omega
     by_cases h128:x < 128
     ·have HE0:=zh (Hgo.out.trans (Hgo1.out hs h128))
      have h7:=zDM ha (by omega) (show x < 256 by omega)
      rw [show x % 128=x by omega] at h7
      obtain ⟨h7,-,h73⟩:=h7
      generalize a+x * 128 ^ k=Z at *
      by_cases hA:4611686018427387904 < Z
      ·have HE:=zh (Hno.out (HE0.out.trans (if_pos hA)))
       rcases Nat.lt_or_ge 0 k with hk0 | hk0
       rotate_left
       ·go_wp2_with fail
        refine Hbad.out.mono ?_
        rintro e w2 ⟨rfl,hr,hc⟩
        have HF:=zh (show NumY A w r R (.returned (.int .i64 0)) w2 from ⟨by rw [HE.out];rfl,by rw [HE.out];exact hr,Hr1.out.2.trans hc fun _ _ e=>e⟩)
        clear hr hc
        go_wp2_with fail
        go_ret
        exact HF.out
       ·have hx0:0 < x:=by omega
        go_wp2_with fail
        refine Hbad.out.mono ?_
        rintro e w2 ⟨rfl,hr,hc⟩
        have HF:=zh (show NumY A w r R (.returned (.int .i64 0)) w2 from ⟨by rw [HE.out];rfl,by rw [HE.out];exact hr,Hr1.out.2.trans hc fun _ _ e=>e⟩)
        clear hr hc
        go_wp2_with fail
        go_ret
        exact HF.out
      ·have HE2:=zh (Hyes.out _ _ (HE0.out.trans (if_neg hA)))
       have HF:=zh (show NumY A w r R (.returned (.int .i64 (Z:Int))) w1 from ⟨by rw [HE2.out],by rw [HE2.out];exact Hr1.out.1,Hr1.out.2⟩)
       rcases Nat.lt_or_ge 0 k with hk0 | hk0
       rotate_left
       ·go_wp2_with fail
        go_ret
        exact HF.out
       ·have hxn:((x:Int) == 0)=false:=by simp;omega
        go_wp2_with fail
        go_ret
        exact HF.out
     ·have hgo2:=Hgo.out.trans (Hgo2.out hs h128)
      obtain ⟨h7,h72,h73⟩:=zDM ha (by omega) (show x < 256 by omega)
      have Hgn:=zh (And.intro hgo2 h72)
      clear hgo2 h72
      generalize a+x % 128 * 128 ^ k=Z at *
      go_wp2_with fail
      go_roundw
      case rel=>exact ⟨k+1,Z,by omega,by go_num,rfl,Hgn.out.2,S,Hgn.out.1,Hr1.out.1,Hr1.out.2⟩
      case measure=>simp [intOf];omega
theorem num_bad {R:Rd} (hinv:R.bad=true→R.rest=[]) (hb:R.num.2.bad=true):R.num=(0,Rd.fail):=by
 cases h:zBY 0 0 R.rest with
 | none=>unfold Rd.num;rw [h]
 | some x =>
  obtain ⟨n,t⟩:=x
  have e:R.num=(n,⟨t,R.bad⟩):=by unfold Rd.num;rw [h]
  rw [e] at hb
  rw [hinv hb] at h
  cases h
theorem zDH {w:World} {r:Nat} {R:Rd} {A:Nat→Prop} (h:RdY A w r R) :
  Calls Tryz.prog 86 #[.pointer (some ⟨r,0,none⟩)] w (RowY A w r R.bytes.1 R.bytes.2):=by
 have Hn:=zh (zCz h)
 have hle:=Rd.num_le R
 have hnb:=num_bad h.inv
 have HB:=zh (show R.bytes=R.num.2.raw R.num.1 from rfl)
 clear h
 go_enter Tryz.func86,Tryz.ntmps86
 go_wp2_with fail
 refine Hn.out.mono ?_
 rintro e w1 ⟨rfl,hr,hc⟩
 have hc1:=hr.c1
 have Hc:=zh hc
 cases hb:R.num.2.bad with
 | true =>
  rw [hb] at hc1
  have hn:=hnb hb
  have HE:=zh (show RowY A w r R.bytes.1 R.bytes.2 (.returned (.slice none 0 0)) w1 from by
   rw [HB.out,hn]
   rw [hn] at hr
   exact ⟨_,rfl,OwnR.nil _ _ _,fun j hj=>(by cases hj),hr,hc⟩)
  clear hr hc Hn hn hnb
  go_wp2_with fail
  go_ret
  exact HE.out
 | false =>
  rw [hb] at hc1
  have Hr:=zh (rrraw_calls hr R.num.1 (by omega))
  clear hr hc Hn hnb hb
  generalize R.num.1=m at *
  generalize R.num.2=R1 at *
  go_wp2_with fail
  refine Hr.out.mono ?_
  rintro e w2 ⟨v,rfl,hv,hvn,hr2,hc2⟩
  have HE:=zh (show RowY A w r R.bytes.1 R.bytes.2 (.returned v) w2 from ⟨v,rfl,by rw [HB.out];exact hv,fun j hj=>Nat.le_trans Hc.out.size (hvn j hj),by rw [HB.out];exact hr2,Hc.out.trans hc2 fun _ _ e=>e⟩)
  clear hv hvn hr2 hc2 Hr
  go_wp2_with fail
  go_ret
  exact HE.out
def WrB (B:Nat) (w:World) (k:Nat) (l:Bs):Prop:=∃ v,WrIn w k v l∧B≤k∧(∀ j,v.ownBlock=some j→B≤j)∧B≤w.heap.size
section
variable {B:Nat} {w w1:World} {k:Nat} {l:Bs}
theorem WrB.keep (h:WrB B w k l) (hb:Below w.heap.size w w1):WrB B w1 k l:=let ⟨v,h1,h2,h3,h4⟩:=h;⟨v,h1.keep hb,h2,h3,Nat.le_trans h4 hb.size⟩
end
def RowNew (w:World) (b:Bs) (e:Ending) (w':World):Prop:=∃ v,e=.returned v∧OwnB w' 5 v b∧(∀ k,v.ownBlock=some k→w.heap.size≤k)∧Below w.heap.size w w'
section
variable {w w1:World} {j d:Nat} {pre:ByteArray} {D:zAA} {M:JouM} {F:Nat→Prop}
end
structure RowsN (w W:World) (v:Value) (vs:List Value) (ls:List Bs):Prop where
 rows:zAz W v vs ls
 new:zCK w.heap.size v vs
 bel:Below w.heap.size w W
theorem RowsN.nil (w:World):RowsN w w (.slice none 0 0) [] []:=⟨zAz.nil _,⟨fun k hk=>(by cases hk),fun u hu=>(by simp at hu)⟩,Below.refl _ _⟩
theorem RowsN.next {w W W2:World} {v:Value} {vs:List Value} {ls:List Bs} (h:RowsN w W v vs ls) (hb:Below W.heap.size W W2):RowsN w W2 v vs ls:=⟨h.rows.below hb,h.new,h.bel.trans (hb.mono h.bel.size)⟩
theorem RowsN.push {w W W2 w3:World} {v v3 u:Value} {vs:List Value} {ls:List Bs} {x:Bs} {o:Obj} (h:RowsN w W v vs ls) (hb:Below W.heap.size W W2) (hu:OwnB W2 5 u x) (hun:∀ k,u.ownBlock=some k→W.heap.size≤k)
  (hown:OwnR w3 22 1 v3 (ls.length+1) (vs ++ [u])) (hg:(W2.alloc o).grownBy w3 v.ownBlock) (hloc:v3.ownBlock=v.ownBlock∨∃ g,v3.ownBlock=some g∧(W2.alloc o).heap.size≤g):RowsN w w3 v3 (vs ++ [u]) (ls ++ [x]):=by
 have h1:=h.next hb
 have h2:=zAF W2 o
 have hs:=hb.size
 have hs2:=h2.size
 have hs3:=h.bel.size
 refine ⟨zAz.push (h1.rows.below h2) (zDF hu h2) (fun k hk e=>by have a:=hun k hk;have b:=OwnR.lt h.rows.row e;omega) hown hg hloc,zCK.push h.new (fun k hk=>Nat.le_trans hs3 (hun k hk)) hloc (by omega),?_⟩
 exact ((Chg.of_below (h1.bel.trans (h2.mono h1.bel.size))).trans (Chg.of_grown hg) fun k hk e=>by have:=h.new.1 k e.symm;omega:Chg (fun _=>False) w w3).below (Nat.le_refl _) fun _ _=>id
theorem zAz.at {w:World} {p:Option Addr} {n c:Nat} {vs:List Value} {ls:List Bs} (h:zAz w (.slice p n c) vs ls):zAy w (.slice p n c) ls:=by
 have hlen:=h.len
 rcases h.row.2 with ⟨e,h0⟩ | ⟨g,cap,cur,e,hg,hnc,-⟩
 ·simp only [Value.slice.injEq] at e
  obtain ⟨rfl,rfl,rfl⟩:=e
  have hl:ls=[]:=List.eq_nil_of_length_eq_zero h0
  subst hl
  exact ⟨none,0,rfl,Nat.le_refl _,fun h=>absurd rfl h⟩
 ·simp only [Value.slice.injEq] at e
  obtain ⟨rfl,rfl,rfl⟩:=e
  refine ⟨_,c,rfl,hnc,fun _=>⟨g,0,vs,rfl,hlen,fun i u hu=>?_,fun i u m hu hm=>(h.has i u m hu hm).has.kit⟩⟩
  exact h.row.cells (g:=g) rfl i u hu
theorem holds_at4 {w:World} {p:Option Addr} {n c s:Nat} {xs:List Value} (h:zAX w s (.slice p n c) n xs) (hne:xs≠[]):∃ b o,p=some ⟨b,o,none⟩∧∀ i u,xs[i]?=some u→w.cell? ⟨b,o+i,none⟩=some u:=by
 obtain ⟨hlen,p',c',e,h0,hc⟩:=h
 simp only [Value.slice.injEq] at e
 obtain ⟨rfl,-,rfl⟩:=e
 cases p with
 | none =>
  have:=h0 rfl
  subst this
  exact absurd (List.eq_nil_of_length_eq_zero (by simpa using hlen)) hne
 | some a =>
  obtain ⟨b,o,sp⟩:=a
  cases xs with
  | nil=>exact absurd rfl hne
  | cons x r =>
   have h1:=hc _ rfl 0 x rfl
   have hsp:sp=none:=by
    have:=World.cell?_spot h1
    simpa [Addr.add] using this
   subst hsp
   refine ⟨b,o,rfl,fun i u hu=>?_⟩
   have h2:=hc _ rfl i u hu
   have e:(⟨b,o,none⟩:Addr).add i=⟨b,o+i,none⟩:=by unfold Addr.add;split <;> simp_all
   rw [← e]
   exact h2
def EntsHas (w:World) (x:Value) (es:List Ent) (vs:List EV):Prop:=vs.length=es.length∧zAX w 4 x es.length (entsC es vs)∧∀ (i:Nat) e v,es[i]?=some e→vs[i]?=some v→zCX w e v
theorem EntsHas.len {w:World} {p:Option Addr} {n c:Nat} {es:List Ent} {vs:List EV} (h:EntsHas w (.slice p n c) es vs):es.length=n:=by
 obtain ⟨-,⟨-,_,_,e,-⟩,-⟩:=h
 simp only [Value.slice.injEq] at e
 exact e.2.1.symm
theorem EntsHas.ent {w:World} {p:Option Addr} {n c:Nat} {es:List Ent} {vs:List EV} (h:EntsHas w (.slice p n c) es vs) {i:Nat} (hi:i < es.length):∃ b o v,p=some ⟨b,o,none⟩∧zCX w es[i] v ∧
  w.cell? ⟨b,o+i * 4,none⟩=some (.int .i64 es[i].term)∧w.cell? ⟨b,o+i * 4+1,none⟩=some (.int .i64 es[i].kind)∧w.cell? ⟨b,o+i * 4+2,none⟩=some v.1∧w.cell? ⟨b,o+i * 4+3,none⟩=some v.2:=by
 have hn:=h.len
 obtain ⟨hlen,hh,hE⟩:=h
 rw [hn] at hh
 have hv:vs[i]?=some (vs[i]'(by omega)):=List.getElem?_eq_getElem _
 generalize vs[i]'(by omega)=v at hv
 have he:=List.getElem?_eq_getElem hi
 have hne:entsC es vs≠[]:=fun e=>by
  have:=entsC_len es vs hlen
  rw [e] at this
  simp at this
  omega
 obtain ⟨b,o,rfl,hc⟩:=holds_at4 hh hne
 have hc':∀ (k:Nat) u,(entC es[i] v)[k]?=some u→w.cell? ⟨b,o+(i * 4+k),none⟩=some u:=fun k u hu=>hc _ _ (entsC_at _ _ i _ v he hv k u hu)
 exact ⟨b,o,v,rfl,hE i _ v he hv,hc' 0 _ rfl,hc' 1 _ rfl,hc' 2 _ rfl,hc' 3 _ rfl⟩
theorem RowsN.two {w W:World} {u1 u2:Value} {x1 x2:Bs} (hb:Below w.heap.size w W) (h1:OwnB W 5 u1 x1) (n1:∀ k,u1.ownBlock=some k→w.heap.size≤k) (h2:OwnB W 5 u2 x2) (n2:∀ k,u2.ownBlock=some k→w.heap.size≤k) :
  RowsN w (W.alloc (.cells #[u1,u2] 22)) (.slice (some ⟨W.heap.size,0,none⟩) 2 2) [u1,u2] [x1,x2]:=by
 have ha:=zAc W (.cells #[u1,u2] 22)
 have hs:=hb.size
 refine ⟨⟨⟨rfl,.inr ⟨W.heap.size,2,#[u1,u2],rfl,zAU W _,Nat.le_refl _,by decide,Nat.le_refl _,rfl⟩⟩,fun i u b hu hl=>?_,fun u hu k hk e=>?_⟩,⟨fun k hk=>?_,fun u hu k hk=>?_⟩,hb.trans (ha.mono hs)⟩
 ·match i,hu,hl with
  | 0,hu,hl=>cases hu;cases hl;exact zDF h1 ha
  | 1,hu,hl=>cases hu;cases hl;exact zDF h2 ha
 ·obtain rfl:W.heap.size=k:=Option.some.inj e
  rcases List.mem_cons.1 hu with rfl | hu
  ·have:=OwnR.lt h1 hk
   omega
  ·obtain rfl:u=u2:=by simpa using hu
   have:=OwnR.lt h2 hk
   omega
 ·cases hk
  exact hs
 ·rcases List.mem_cons.1 hu with rfl | hu
  ·exact n1 k hk
  ·obtain rfl:u=u2:=by simpa using hu
   exact n2 k hk
section
variable {w w1 w2:World} {j d:Nat} {pre:ByteArray} {D:zAA} {M:JouM} {F:Nat→Prop}
end
theorem zCJ.shape {w:World} {j d:Nat} {pre:ByteArray} {own:Nat→Prop} {M:JouM} {gv dv ev:Value} {vs:List EV} (h:zCJ w j d pre own M gv dv ev vs):∀ v ∈ vs,v.1.oneCell'=true∧v.2.oneCell'=true:=fun v hv=>by
 obtain ⟨i,hi⟩:=List.getElem?_of_mem hv
 have hl:=(List.getElem?_eq_some_iff.1 hi).1
 have he:=h.rows.2 i _ v (List.getElem?_eq_getElem (by rw [← h.rows.1];exact hl)) hi
 obtain ⟨p,c,e1,-⟩:=zAb he.data
 obtain ⟨q,c2,e2,-⟩:=own_capI he.nodes
 rw [e1,e2]
 exact ⟨rfl,rfl⟩
structure Snap.OK (s:Snap):Prop where
 number:s.number≤1099511627776
 term:isTm s.term=true
 group:zCx s.group=true
 data:s.data.length≤1073741824
section
variable {w w1 w2:World} {j d:Nat} {pre:ByteArray} {D:zAA} {M:JouM} {F F2:Nat→Prop}
end
structure Places (w:World) (r:Nat) (ps:List Addr):Prop where
 cell:∀ a ∈ ps,∃ z,w.cell? a=some (.int .i64 z)
 free:∀ a ∈ ps,w.frozen? a=false
 ne:∀ a ∈ ps,a.block≠r
 sp:∀ a ∈ ps,a.spot=none
theorem Places.chg {w w':World} {r:Nat} {ps:List Addr} (h:Places w r ps) (hc:Chg (fun k=>k=r) w w'):Places w' r ps:=by
 have hb:∀ a ∈ ps,w'.heap[a.block]?=w.heap[a.block]?:=fun a ha=>by
  obtain ⟨z,hz⟩:=h.cell a ha
  exact hc.block _ (World.block_lt_of_cell? _ _ hz) (h.ne a ha)
 exact ⟨fun a ha=>by obtain ⟨z,hz⟩:=h.cell a ha;exact ⟨z,(World.cell?_of_block (hb a ha)).trans hz⟩,fun a ha=>by have:=h.free a ha;simpa [World.frozen?,hb a ha] using this,h.ne,h.sp⟩
theorem Places.set {w:World} {r:Nat} {ps:List Addr} (h:Places w r ps) {a:Addr} (ha:a ∈ ps) (z:Int):Places (w.setCell a (.int .i64 z)) r ps:=by
 have hcell:∀ b,w.cell? b≠none→(∃ y,(w.setCell a (.int .i64 z)).cell? b=some y∧(y=.int .i64 z∨w.cell? b=some y)):=fun b hb=>by
  by_cases e:a=b
  ·subst e
   exact ⟨.int .i64 z,by obtain ⟨z',hz⟩:=h.cell a ha;exact World.cell?_setCell_same w a _ hz,.inl rfl⟩
  ·rw [World.cell?_setCell_other (h:=e)]
   cases hc:w.cell? b with
   | none=>exact absurd hc hb
   | some y=>exact ⟨y,rfl,.inr rfl⟩
 refine ⟨fun b hb=>?_,fun b hb=>by rw [World.frozen?_setCell];exact h.free b hb,h.ne,h.sp⟩
 ·obtain ⟨z',hz⟩:=h.cell b hb
  obtain ⟨y,hy,he⟩:=hcell b (by rw [hz];simp)
  rcases he with rfl | he
  ·exact ⟨z,hy⟩
  ·rw [hz] at he
   cases he
   exact ⟨z',hy⟩
theorem loadE_cases (o:Option zAN):loadE o=0∨loadE o=3∨loadE o=7:=by
 unfold loadE
 split
 ·split
  ·exact .inl rfl
  ·exact .inr (.inl rfl)
 ·exact .inr (.inr rfl)
theorem loadB_le {D:zAA} (h:D.OK) (n:Bs):(zBJ (Sat.get n D.files)).length≤1073741824:=by
 have hln:=zCN h n
 cases ho:Sat.get n D.files with
 | none=>rw [zCl];exact Nat.zero_le _
 | some f =>
  rw [ho] at hln
  rw [zCD]
  unfold oneB decB
  split
  ·split
   ·rw [List.length_take,List.length_drop]
    omega
   ·exact Nat.zero_le _
  ·exact Nat.zero_le _
theorem snapOf_7 {o:Option zAN} (h:loadE o=7):snapOf o=(0,none):=by unfold snapOf;rw [if_pos h]
theorem snapOf_0 {o:Option zAN} (h:loadE o=0):snapOf o=match snapIs (zBJ o) with | none=>(3,none) | some s=>(0,some s):=by unfold snapOf;rw [if_neg (by omega),if_neg (by omega)];rfl
section
variable {w w1 w2:World} {j d:Nat} {pre:ByteArray} {D:zAA} {M:JouM} {F:Nat→Prop}
end
structure OpensJ (D:zAA) (pre:Bs) (nodes:List Int) where
 D1:zAA
 e1:Nat
 h1:D.rid1 (zAE (logN pre))=(D1,e1)
 D2:zAA
 e2:Nat
 h2:D1.rid1 (zAE (snpN pre))=(D2,e2)
 s:Nat × Option Snap
 hs:snapOf (Sat.get (snpN pre) D2.files)=s
 l:zAA × Nat × Bool × JouM
 hl:readLogJ D2 pre (JouM.none0 nodes)=l
theorem opensJ_of (D:zAA) (pre:Bs) (nodes:List Int):Nonempty (OpensJ D pre nodes):=⟨⟨_,_,rfl,_,_,rfl,_,rfl,_,rfl⟩⟩
section
variable {D:zAA} {pre:Bs} {nodes:List Int} (O:OpensJ D pre nodes)
theorem oj_rid2 (h1:O.e1=0):D.rid [zAE (logN pre),zAE (snpN pre)]=(O.D2,O.e2):=by
 unfold zAA.rid
 rw [O.h1]
 refine (if_pos h1).trans ?_
 show zAA.rid O.D1 [zAE (snpN pre)]=_
 unfold zAA.rid
 rw [O.h2]
 dsimp only
 by_cases h2:O.e2=0
 ·rw [if_pos h2]
  show (O.D2,0)=_
  rw [h2]
 ·exact if_neg h2
theorem oj_go (h:¬ (pre.length < 1∨20 < pre.length∨zCx nodes=false)) (h1:O.e1=0) (h2:O.e2=0) (h3:O.s.1=0):jouOpen D pre nodes=(if O.l.2.1≠0 then (O.l.1,O.l.2.1,JouM.none0 nodes) else
 match joins O.s.2 O.l.2.2.2 O.l.2.2.1 with
 | none=>(O.l.1,3,JouM.none0 nodes)
 | some (anew,M)=>if anew then ((writesJ O.l.1 pre M).1,(writesJ O.l.1 pre M).2,M) else (O.l.1,0,M)):=by
 unfold jouOpen
 rw [if_neg h,oj_rid2 O h1]
 dsimp only
 rw [if_neg (by simpa using h2),O.hs,if_neg (by simpa using h3),O.hl]
 rfl
theorem oj_keep (h:¬ (pre.length < 1∨20 < pre.length∨zCx nodes=false)) (h1:O.e1=0) (h2:O.e2=0) (h3:O.s.1=0) (h4:O.l.2.1=0) {M:JouM} (h5:joins O.s.2 O.l.2.2.2 O.l.2.2.1=some (false,M)):jouOpen D pre nodes=(O.l.1,0,M):=by
 rw [oj_go O h h1 h2 h3,if_neg (by simpa using h4),h5]
 rfl
end
structure RowB (w W:World) (v:Value) (l:Bs):Prop where
 own:OwnB W 5 v l
 new:∀ k,v.ownBlock=some k→w.heap.size≤k
 bel:Below w.heap.size w W
theorem RowB.nil (w:World):RowB w w (.slice none 0 0) []:=⟨OwnR.nil _ _ _,fun k hk=>(by cases hk),Below.refl _ _⟩
theorem RowB.next {w W W2:World} {v:Value} {l:Bs} (h:RowB w W v l) (hb:Below W.heap.size W W2):RowB w W2 v l:=⟨zDF h.own hb,h.new,h.bel.trans (hb.mono h.bel.size)⟩
theorem RowB.alloc {w W:World} {v:Value} {l:Bs} (h:RowB w W v l) (o:Obj):RowB w (W.alloc o) v l:=h.next (zAc W o)
theorem RowB.told {w W:World} {v:Value} {l:Bs} (h:RowB w W v l):RowNew w l (.returned v) W:=⟨v,rfl,h.own,h.new,h.bel⟩
theorem RowB.grown {w W0 w3:World} {v v3:Value} {l x:Bs} (h:RowB w W0 v l) (hown:OwnR w3 5 1 v3 (l.length+x.length) (zAR l ++ zAR x)) (hg:W0.grownBy w3 v.ownBlock) (hloc:v3.ownBlock=v.ownBlock∨∃ g,v3.ownBlock=some g∧W0.heap.size≤g):RowB w w3 v3 (l ++ x):=by
 refine ⟨?_,zAn hloc h.new h.bel.size,h.bel.grown hg h.bel.size fun j e=>h.new j e⟩
 show OwnR _ _ _ _ (l ++ x).length (zAR (l ++ x))
 rw [List.length_append,show zAR (l ++ x)=zAR l ++ zAR x from List.map_append]
 exact hown
abbrev RJC (r:Nat) (n t:Int) (gv:Value) (pre:ByteArray) (now vote:Int) (dv ev:Value) (dead:Bool):Obj:=.cells #[.int .i64 n,.int .i64 t,gv,.pointer (some ⟨r,0,none⟩),.string pre,.int .i64 now,.int .i64 vote,dv,ev,.bool dead] 84 (0,0)
def RSt (w0 w1:World) (r:Nat) (own0:Nat→Prop) (D:zAA) (F:Nat→Prop):Prop :=
 ∃ own v L,zAS w1 r v L own D∧Chg own0 w0 w1∧(∀ k,own k→(own0 k∨w0.heap.size≤k)∧¬ F k)∧∀ k,F k→k < w1.heap.size
section
variable {w w0 w1 w2:World} {r:Nat} {v:Value} {L:List zAH} {own own0:Nat→Prop} {D:zAA} {F:Nat→Prop}
theorem RSt.ok (h:RSt w0 w1 r own0 D F):D.OK:=let ⟨_,_,_,hR,_⟩:=h;hR.ok
theorem RSt.flt (h:RSt w0 w1 r own0 D F) {k:Nat} (hk:F k):k < w1.heap.size:=let ⟨_,_,_,_,_,_,hF⟩:=h;hF k hk
theorem RSt.next (h:RSt w0 w1 r own0 D F) (hb:Below w1.heap.size w1 w2):RSt w0 w2 r own0 D F:=by
 obtain ⟨own,v,L,hR,hc,hx,hF⟩:=h
 exact ⟨own,v,L,hR.below hb,hc.trans (Chg.of_below hb) fun _ _ h=>h.elim,hx,fun k hk=>Nat.lt_of_lt_of_le (hF k hk) hb.size⟩
theorem RSt.same (h:RSt w0 w1 r own0 D F) (hb:Below w1.heap.size w1 w2):Same F w1 w2:=fun _ hk=>hb.block _ (h.flt hk)
theorem RSt.apart {F':Nat→Prop} (h:RSt w0 w1 r own0 D F) (hb:Below w1.heap.size w1 w2) (hF':∀ k,F' k→F k∨(w1.heap.size≤k∧k < w2.heap.size)):RSt w0 w2 r own0 D F':=by
 obtain ⟨own,v,L,hR,hc,hx,hF⟩:=h
 refine ⟨own,v,L,hR.below hb,hc.trans (Chg.of_below hb) fun _ _ h=>h.elim,fun k hk=>⟨(hx k hk).1,fun hf=>?_⟩,fun k hk=>?_⟩
 ·rcases hF' k hf with h | h
  ·exact (hx k hk).2 h
  ·have:=hR.olt k hk
   omega
 ·rcases hF' k hk with h | h
  ·exact Nat.lt_of_lt_of_le (hF k h) hb.size
  ·exact h.2
end
structure RJIn (w:World) (j r:Nat) (pre:ByteArray) (O C:Nat→Prop) (M:JouM) (gv dv ev:Value) (vs:List EV):Prop where
 cells:w.heap[j]?=some (RJC r (M.number:Int) M.term gv pre M.now M.vote dv ev M.dead)
 group:HasI w gv M.group
 data:HasB w dv M.data
 row:OwnR w 50 4 ev M.entries.length (entsC M.entries vs)
 rlen:vs.length=M.entries.length
 rows:∀ (i:Nat) e v,M.entries[i]?=some e→vs[i]?=some v→zCX w e v
 oj:O j
 oe:∀ k,ev.ownBlock=some k→O k∧k≠j
 cg:∀ k,gv.ownBlock=some k→C k
 cd:∀ k,dv.ownBlock=some k→C k
 cv:∀ u ∈ vs,∀ k,(u.1.ownBlock=some k∨u.2.ownBlock=some k)→C k
 dis:∀ k,C k→¬ O k
 olt:∀ k,O k→k < w.heap.size
 clt:∀ k,C k→k < w.heap.size
 psz:1≤pre.size∧pre.size≤20
 ok:M.OK
section
variable {w w':World} {j r:Nat} {pre:ByteArray} {O C:Nat→Prop} {M:JouM} {gv dv ev:Value} {vs:List EV}
theorem zCX.keep {e:Ent} {v:EV} (h:zCX w e v) (hb:∀ k,(v.1.ownBlock=some k∨v.2.ownBlock=some k)→w'.heap[k]?=w.heap[k]?):zCX w' e v :=
 ⟨zAX.keep h.data fun k hk=>hb k (.inl hk),zAX.keep h.nodes fun k hk=>hb k (.inr hk),h.dl,h.nl⟩
theorem RJIn.keep (h:RJIn w j r pre O C M gv dv ev vs) (hs:∀ k,O k∨C k→w'.heap[k]?=w.heap[k]?) (hl:∀ k,O k∨C k→k < w'.heap.size):RJIn w' j r pre O C M gv dv ev vs where
 cells:=(hs j (.inl h.oj)).trans h.cells
 group:=zAX.keep h.group fun k hk=>hs k (.inr (h.cg k hk))
 data:=zAX.keep h.data fun k hk=>hs k (.inr (h.cd k hk))
 row:=h.row.keep fun k hk=>hs k (.inl (h.oe k hk).1)
 rlen:=h.rlen
 rows:=fun i e v he hv=>(h.rows i e v he hv).keep fun k hk=>hs k (.inr (h.cv v (List.mem_of_getElem? hv) k hk))
 oj:=h.oj
 oe:=h.oe
 cg:=h.cg
 cd:=h.cd
 cv:=h.cv
 dis:=h.dis
 olt:=fun k hk=>hl k (.inl hk)
 clt:=fun k hk=>hl k (.inr hk)
 psz:=h.psz
 ok:=h.ok
theorem RJIn.below (h:RJIn w j r pre O C M gv dv ev vs) (hb:Below w.heap.size w w'):RJIn w' j r pre O C M gv dv ev vs :=
 h.keep (fun k hk=>hb.block k (hk.elim (h.olt k) (h.clt k))) fun k hk=>Nat.lt_of_lt_of_le (hk.elim (h.olt k) (h.clt k)) hb.size
theorem RJIn.chg {S:Nat→Prop} (h:RJIn w j r pre O C M gv dv ev vs) (hc:Chg S w w') (hS:∀ k,S k→¬ O k∧¬ C k):RJIn w' j r pre O C M gv dv ev vs :=
 h.keep (fun k hk=>hc.block k (hk.elim (h.olt k) (h.clt k)) fun s=>hk.elim (hS k s).1 (hS k s).2) fun k hk=>Nat.lt_of_lt_of_le (hk.elim (h.olt k) (h.clt k)) hc.size
theorem RJIn.c (h:RJIn w j r pre O C M gv dv ev vs) (i:Nat) {v:Value} (hi:(#[.int .i64 (M.number:Int),.int .i64 M.term,gv,.pointer (some ⟨r,0,none⟩),.string pre,.int .i64 M.now,.int .i64 M.vote,dv,ev,.bool M.dead]:Array Value)[i]?=some v):w.cell? ⟨j,i,none⟩=some v:=zAC h.cells hi
theorem RJIn.fr (h:RJIn w j r pre O C M gv dv ev vs) (i:Nat):w.frozen? ⟨j,i,none⟩=false:=zAK h.cells i
theorem RJIn.ent (h:RJIn w j r pre O C M gv dv ev vs) {i:Nat} {e:Ent} (he:M.entries[i]?=some e):∃ g c v,ev=.slice (some ⟨g,0,none⟩) M.entries.length c∧vs[i]?=some v∧zCX w e v ∧
  w.cell? ⟨g,i * 4,none⟩=some (.int .i64 e.term)∧w.cell? ⟨g,i * 4+1,none⟩=some (.int .i64 e.kind)∧w.cell? ⟨g,i * 4+2,none⟩=some v.1∧w.cell? ⟨g,i * 4+3,none⟩=some v.2:=by
 have hi:=(List.getElem?_eq_some_iff.1 he).1
 have hv:vs[i]?=some (vs[i]'(by rw [h.rlen];exact hi)):=List.getElem?_eq_getElem _
 generalize vs[i]'(by rw [h.rlen];exact hi)=v at hv
 rcases h.row.2 with ⟨-,h0⟩ | ⟨g,cap,cur,rfl,-⟩
 ·omega
 ·have hc:∀ (k:Nat) u,(entC e v)[k]?=some u→w.cell? ⟨g,i * 4+k,none⟩=some u:=fun k u hu=>by
   have:=h.row.cells (g:=g) rfl (i * 4+k) u (entsC_at _ _ i e v he hv k u hu)
   rwa [add_zero] at this
  exact ⟨g,cap,v,rfl,hv,h.rows i e v he hv,hc 0 _ rfl,hc 1 _ rfl,hc 2 _ rfl,hc 3 _ rfl⟩
end
def RJF (w1:World) (j r:Nat) (pre:ByteArray) (D:zAA) (M:JouM) (Hot Cold:Nat→Prop):Prop :=
 ∃ O own gv dv ev vs v L,RJIn w1 j r pre O Cold M gv dv ev vs∧zAS w1 r v L own D∧(∀ k,O k→¬ own k)∧(∀ k,Cold k→¬ own k)∧∀ k,Hot k ↔ O k∨own k
section
variable {w1 w2:World} {j r:Nat} {pre:ByteArray} {D:zAA} {M:JouM} {Hot Cold:Nat→Prop}
theorem RJF.okD (h:RJF w1 j r pre D M Hot Cold):D.OK:=let ⟨_,_,_,_,_,_,_,_,_,hR,_⟩:=h;hR.ok
theorem RJF.hlt (h:RJF w1 j r pre D M Hot Cold) {k:Nat} (hk:Hot k):k < w1.heap.size:=by
 obtain ⟨_,_,_,_,_,_,_,_,hJ,hR,_,_,hH⟩:=h
 exact ((hH k).1 hk).elim (hJ.olt k) (hR.olt k)
theorem RJF.clt (h:RJF w1 j r pre D M Hot Cold) {k:Nat} (hk:Cold k):k < w1.heap.size:=let ⟨_,_,_,_,_,_,_,_,hJ,_⟩:=h;hJ.clt k hk
theorem RJF.dis (h:RJF w1 j r pre D M Hot Cold) {k:Nat} (hk:Cold k):¬ Hot k:=by
 obtain ⟨_,_,_,_,_,_,_,_,hJ,hR,_,hC,hH⟩:=h
 exact fun hh=>((hH k).1 hh).elim (hJ.dis k hk) (hC k hk)
theorem RJF.psz (h:RJF w1 j r pre D M Hot Cold):1≤pre.size∧pre.size≤20:=let ⟨_,_,_,_,_,_,_,_,hJ,_⟩:=h;hJ.psz
theorem RJF.chg {S:Nat→Prop} (h:RJF w1 j r pre D M Hot Cold) (hc:Chg S w1 w2) (hS:∀ k,S k→¬ Hot k∧¬ Cold k):RJF w2 j r pre D M Hot Cold:=by
 obtain ⟨O,own,gv,dv,ev,vs,v,L,hJ,hR,hO,hC,hH⟩:=h
 exact ⟨O,own,gv,dv,ev,vs,v,L,hJ.chg hc fun k s=>⟨fun o=>(hS k s).1 ((hH k).2 (.inl o)),(hS k s).2⟩,hR.keep hc.size (fun k hk=>hc.block k (hR.olt k hk) fun s=>(hS k s).1 ((hH k).2 (.inr hk))),hO,hC,hH⟩
theorem RJF.below (h:RJF w1 j r pre D M Hot Cold) (hb:Below w1.heap.size w1 w2):RJF w2 j r pre D M Hot Cold:=h.chg (Chg.of_below hb) fun _ s=>s.elim
theorem RJF.drewN (h:RJF w1 j r pre D M Hot Cold) (q:Nat):RJF (w1.drewN q) j r pre D M Hot Cold:=h.below ⟨rfl,rfl,rfl,Nat.le_refl _,fun _ _=>rfl⟩
def RJTold (w1:World) (j r:Nat) (pre:ByteArray) (Hot Cold:Nat→Prop) (res:WroteJ) (e:Ending) (w':World):Prop :=
 e=.returned (.int .i64 (res.err:Int))∧∃ Hot' Cold',RJF w' j r pre res.disk res.jou Hot' Cold'∧Chg Hot w1 w'∧(∀ k,Hot' k→Hot k∨w1.heap.size≤k)∧∀ k,Cold' k→Cold k∨w1.heap.size≤k
end
def JouM.upto (M:JouM) (z:Int):Nat:=min (z - (M.number:Int)).toNat M.entries.length
section
variable {w1 w2:World} {j r:Nat} {pre:ByteArray} {D:zAA} {M:JouM} {Hot Cold:Nat→Prop}
end
abbrev RowT:=TypeId × Value × Nat × List Value
structure RowS (W1 W:World) (x:RowT):Prop where
 own:OwnR W x.1 1 x.2.1 x.2.2.1 x.2.2.2
 new:∀ k,x.2.1.ownBlock=some k→W1.heap.size≤k
def zCB (W1 W:World) (a b:Option RowT):Prop:=Below W1.heap.size W1 W∧(∀ x,a=some x→RowS W1 W x)∧(∀ y,b=some y→RowS W1 W y)∧∀ x y,a=some x→b=some y→∀ k,x.2.1.ownBlock=some k→y.2.1.ownBlock≠some k
section
variable {W1 W W':World} {a b:Option RowT} {e:TypeId} {v v':Value} {n m:Nat} {xs news:List Value}
theorem zCB.swap (h:zCB W1 W a b):zCB W1 W b a:=⟨h.1,h.2.2.1,h.2.1,fun x y hx hy k hk e=>h.2.2.2 y x hy hx k e hk⟩
theorem zCB.own (h:zCB W1 W (some (e,v,n,xs)) b):OwnR W e 1 v n xs:=(h.2.1 _ rfl).own
theorem zCB.new (h:zCB W1 W (some (e,v,n,xs)) b):∀ k,v.ownBlock=some k→W1.heap.size≤k:=(h.2.1 _ rfl).new
theorem zCB.alloc (h:zCB W1 W none b):zCB W1 (W.alloc (.cells #[] e)) (some (e,.slice (some ⟨W.heap.size,0,none⟩) 0 0,0,[])) b:=by
 have hb:=zAc W (.cells #[] e)
 refine ⟨h.1.trans (hb.mono h.1.size),fun x hx=>?_,fun y hy=>⟨OwnR.keep (h.2.2.1 y hy).own fun k hk=>hb.block k (OwnR.lt (h.2.2.1 y hy).own hk),(h.2.2.1 y hy).new⟩,fun x y hx hy k hk e2=>?_⟩
 ·cases hx
  refine ⟨zBG W e,fun k hk=>?_⟩
  have:=Option.some.inj hk
  have:=h.1.size
  dsimp only at *
  omega
 ·cases hx
  have h1:=OwnR.lt (h.2.2.1 y hy).own e2
  have h2:=Option.some.inj hk
  dsimp only at h2
  omega
end
def zBP (w0:World) (j r:Nat) (pre:ByteArray) (Hot0 Cold0:Nat→Prop) (w1:World) (D:zAA) (M:JouM):Prop :=
 ∃ Hot Cold,RJF w1 j r pre D M Hot Cold∧Chg Hot0 w0 w1∧(∀ k,Hot k→Hot0 k∨w0.heap.size≤k)∧∀ k,Cold k→Cold0 k∨w0.heap.size≤k
theorem zBP.told {w0 w1:World} {j r:Nat} {pre:ByteArray} {Hot0 Cold0:Nat→Prop} {res:WroteJ} (h:zBP w0 j r pre Hot0 Cold0 w1 res.disk res.jou):RJTold w0 j r pre Hot0 Cold0 res (.returned (.int .i64 (res.err:Int))) w1:=⟨rfl,h⟩
theorem RJTold.step {w0 w1:World} {j r:Nat} {pre:ByteArray} {Hot0 Cold0:Nat→Prop} {res:WroteJ} {e:Ending} (h:RJTold w0 j r pre Hot0 Cold0 res e w1):zBP w0 j r pre Hot0 Cold0 w1 res.disk res.jou:=h.2
section
variable {w0 w1 w2:World} {j r:Nat} {pre:ByteArray} {D D2:zAA} {M M2:JouM} {Hot Cold Hot1 Cold1:Nat→Prop}
theorem RJF.step (h:RJF w1 j r pre D M Hot Cold):zBP w1 j r pre Hot Cold w1 D M:=⟨Hot,Cold,h,Chg.refl _ _,fun _ h=>.inl h,fun _ h=>.inl h⟩
theorem RJF.stepB (h:RJF w1 j r pre D M Hot Cold) (hb:Below w1.heap.size w1 w2):zBP w1 j r pre Hot Cold w2 D M:=⟨Hot,Cold,h.below hb,(Chg.of_below hb).mono fun _ _ h=>h.elim,fun _ h=>.inl h,fun _ h=>.inl h⟩
theorem zBP.comp (hc:Chg Hot w0 w1) (hh:∀ k,Hot1 k→Hot k∨w0.heap.size≤k) (hco:∀ k,Cold1 k→Cold k∨w0.heap.size≤k) (h2:zBP w1 j r pre Hot1 Cold1 w2 D2 M2):zBP w0 j r pre Hot Cold w2 D2 M2:=by
 obtain ⟨Hot2,Cold2,hF2,hc2,hh2,hco2⟩:=h2
 refine ⟨Hot2,Cold2,hF2,hc.trans hc2 fun k hk hs=>(hh k hs).resolve_right (by omega),fun k hk=>?_,fun k hk=>?_⟩
 ·rcases hh2 k hk with h | h
  ·exact hh k h
  ·exact .inr (Nat.le_trans hc.size h)
 ·rcases hco2 k hk with h | h
  ·exact hco k h
  ·exact .inr (Nat.le_trans hc.size h)
theorem zBP.trans (h:zBP w0 j r pre Hot Cold w1 D M) (hx:∀ Hot1 Cold1,RJF w1 j r pre D M Hot1 Cold1→zBP w1 j r pre Hot1 Cold1 w2 D2 M2):zBP w0 j r pre Hot Cold w2 D2 M2:=by
 obtain ⟨Hot1,Cold1,hF,hc,hh,hco⟩:=h
 exact zBP.comp hc hh hco (hx _ _ hF)
theorem zBP.next (h:zBP w0 j r pre Hot Cold w1 D M) (hb:Below w1.heap.size w1 w2):zBP w0 j r pre Hot Cold w2 D M:=h.trans fun _ _ hF=>hF.stepB hb
theorem zBP.since (h:zBP w1 j r pre Hot Cold w2 D M) (hb:Below w0.heap.size w0 w1):zBP w0 j r pre Hot Cold w2 D M:=by
 obtain ⟨Hot1,Cold1,hF,hc,hh,hco⟩:=h
 exact ⟨Hot1,Cold1,hF,((Chg.of_below hb).mono fun _ _ h=>h.elim).trans hc fun _ _ h=>h,fun k hk=>(hh k hk).imp id (Nat.le_trans hb.size),fun k hk=>(hco k hk).imp id (Nat.le_trans hb.size)⟩
theorem RJIn.set {w w':World} {O C:Nat→Prop} {M M':JouM} {gv dv ev:Value} {vs:List EV} (h:RJIn w j r pre O C M gv dv ev vs)
  (hc:w'.heap[j]?=some (RJC r (M'.number:Int) M'.term gv pre M'.now M'.vote dv ev M'.dead))
  (hs:Chg (fun k=>k=j) w w') (hg:M'.group=M.group) (hd:M'.data=M.data) (he:M'.entries=M.entries) (ok:M'.OK):RJIn w' j r pre O C M' gv dv ev vs where
 cells:=hc
 group:=by rw [hg];exact zAX.chg h.group hs fun k hk e=>h.dis k (h.cg k hk) (e ▸ h.oj)
 data:=by rw [hd];exact zAX.chg h.data hs fun k hk e=>h.dis k (h.cd k hk) (e ▸ h.oj)
 row:=by rw [he];exact h.row.keep fun k hk=>hs.block k (h.olt k (h.oe k hk).1) (h.oe k hk).2
 rlen:=by rw [he];exact h.rlen
 rows:=by rw [he];exact fun i e v he hv=>(h.rows i e v he hv).keep fun k hk=>hs.block k (h.clt k (h.cv v (List.mem_of_getElem? hv) k hk)) fun e=>h.dis k (h.cv v (List.mem_of_getElem? hv) k hk) (e ▸ h.oj)
 oj:=h.oj
 oe:=h.oe
 cg:=h.cg
 cd:=h.cd
 cv:=h.cv
 dis:=h.dis
 olt:=fun k hk=>Nat.lt_of_lt_of_le (h.olt k hk) hs.size
 clt:=fun k hk=>Nat.lt_of_lt_of_le (h.clt k hk) hs.size
 psz:=h.psz
 ok:=ok
theorem RJF.set (h:RJF w1 j r pre D M Hot Cold) {M':JouM} (hs:Chg (fun k=>k=j) w1 w2)
  (hc:∀ gv dv ev,w1.heap[j]?=some (RJC r (M.number:Int) M.term gv pre M.now M.vote dv ev M.dead)→w2.heap[j]?=some (RJC r (M'.number:Int) M'.term gv pre M'.now M'.vote dv ev M'.dead))
  (hg:M'.group=M.group) (hd:M'.data=M.data) (he:M'.entries=M.entries) (ok:M'.OK):zBP w1 j r pre Hot Cold w2 D M':=by
 obtain ⟨O,own,gv,dv,ev,vs,v,L,hJ,hR,hO,hC,hH⟩:=h
 exact ⟨Hot,Cold,⟨O,own,gv,dv,ev,vs,v,L,hJ.set (hc _ _ _ hJ.cells) hs hg hd he ok,hR.keep hs.size (fun k hk=>hs.block k (hR.olt k hk) fun e=>hO j hJ.oj (e ▸ hk)),hO,hC,hH⟩,hs.mono fun k _ e=>(hH k).2 (.inl (e ▸ hJ.oj)),fun k hk=>.inl hk,fun k hk=>.inl hk⟩
theorem RJF.cellsD (h:RJF w1 j r pre D M Hot Cold):∃ gv dv ev,w1.heap[j]?=some (RJC r (M.number:Int) M.term gv pre M.now M.vote dv ev M.dead):=let ⟨_,_,gv,dv,ev,_,_,_,hJ,_⟩:=h;⟨gv,dv,ev,hJ.cells⟩
end
def wh (c:Bs):zAN:=⟨c,c.length⟩
def snpL (s:Option Bs):List (Bs × zAN):=match s with
 | none=>[]
 | some b=>[(snpN [97],wh b)]
def dJ (room:Nat) (c:Bs) (s:Option Bs):zAA:=⟨room,(logN [97],wh c) :: snpL s,none⟩
section
variable {room:Nat} {c b:Bs} {s:Option Bs}
theorem dj_log:Sat.get (logN [97]) (dJ room c s).files=some (wh c):=by cases s <;> rfl
theorem dj_shl:Sat.get (zAE (logN [97])) (dJ room c s).files=none:=by cases s <;> rfl
theorem dj_shs:Sat.get (zAE (snpN [97])) (dJ room c s).files=none:=by cases s <;> rfl
theorem dj_snp:Sat.get (snpN [97]) (dJ room c s).files=s.map wh:=by cases s <;> rfl
theorem crash_dj (k:Int):(dJ room c s).crash k=dJ room c s:=by
 have h1:∀ x:Bs,zAA.crashF k (wh x)=wh x:=fun x=>crash_whole x k
 unfold dJ zAA.crash
 cases s with
 | none =>
  show (⟨room,[(logN [97],zAA.crashF k (wh c))],none⟩:zAA)=_
  rw [h1]
  rfl
 | some b =>
  show (⟨room,[(logN [97],zAA.crashF k (wh c)),(snpN [97],zAA.crashF k (wh b))],none⟩:zAA)=_
  rw [h1,h1]
  rfl
end
def Snap.bytes (s:Snap):Bs:=snpB s.number s.term s.group s.data
theorem snapIs_bytes {s:Snap} (h:s.OK) (h1:1≤s.number) (hd:s.data.length≤524288):snapIs s.bytes=some s:=by
 have ht:=isTm_iff.1 h.term
 have hg:=grp_bound h.group
 have hn:=h.number
 have hb:s.bytes=numB s.number ++ (numI s.term ++ (grpB s.group ++ (rowB s.data ++ []))):=by simp [Snap.bytes,snpB]
 rw [hb]
 unfold snapIs
 dsimp only
 rw [Rd.num_of (by omega)]
 dsimp only
 rw [rd_int ht.1 (by omega)]
 dsimp only
 rw [grp_of hg.1 hg.2 h.group]
 dsimp only
 rw [Rd.bytes_of (by omega)]
 dsimp only
 rw [if_pos ⟨whole_of false,h1,hn,by omega,hd⟩,Int.toNat_of_nonneg ht.1]
theorem snapOf_bytes {s:Snap} (h:s.OK) (h1:1≤s.number) (hd:s.data.length≤524288) (hl:s.bytes.length≤1048576):snapOf (some (wh (zAG s.bytes)))=(0,some s):=by
 obtain ⟨a,b⟩:=load_frame s.bytes hl (zAG s.bytes).length
 rw [show (wh (zAG s.bytes))=⟨zAG s.bytes,(zAG s.bytes).length⟩ from rfl,snapOf_0 a,b,snapIs_bytes h h1 hd]
def zC1 (s:Option Snap):Option Bs:=s.map fun s=>zAG s.bytes
def SnapOK (s:Option Snap):Prop:=∀ x,s=some x→x.OK∧1≤x.number∧x.data.length≤524288∧x.bytes.length≤1048576
theorem open_dj {room:Nat} {ls:List Bs} {s:Option Snap} {g:List Int} {M0 M:JouM} (hg:zCx g=true) (hls:∀ l ∈ ls,l.length≤1048576) (hs:SnapOK s) (h0:recAll (JouM.none0 g) ls=some M0) (hj:joins s M0 false=some (false,M)) :
  jouOpen (dJ room (zAm ls) (zC1 s)) [97] g=(dJ room (zAm ls) (zC1 s),0,M):=by
 obtain ⟨O⟩:=opensJ_of (dJ room (zAm ls) (zC1 s)) [97] g
 have a1:=O.h1
 have a2:=O.h2
 have a3:=O.hs
 have a4:=O.hl
 have b1:(dJ room (zAm ls) (zC1 s)).rid1 (zAE (logN [97]))=(dJ room (zAm ls) (zC1 s),0):=by unfold zAA.rid1;rw [dj_shl];rfl
 rw [b1] at a1
 have d1:dJ room (zAm ls) (zC1 s)=O.D1:=congrArg Prod.fst a1
 have e1:0=O.e1:=congrArg Prod.snd a1
 rw [← d1] at a2
 have b2:(dJ room (zAm ls) (zC1 s)).rid1 (zAE (snpN [97]))=(dJ room (zAm ls) (zC1 s),0):=by unfold zAA.rid1;rw [dj_shs];rfl
 rw [b2] at a2
 have d2:dJ room (zAm ls) (zC1 s)=O.D2:=congrArg Prod.fst a2
 have e2:0=O.e2:=congrArg Prod.snd a2
 rw [← d2] at a3 a4
 have b3:snapOf (Sat.get (snpN [97]) (dJ room (zAm ls) (zC1 s)).files)=(0,s):=by
  rw [dj_snp]
  cases s with
  | none=>exact snapOf_7 zCm
  | some x =>
   obtain ⟨q1,q2,q3,q4⟩:=hs x rfl
   exact snapOf_bytes q1 q2 q3 q4
 rw [b3] at a3
 have hsc:=scan_recs ls [] hls (.inl rfl)
 rw [List.append_nil] at hsc
 have b4:readLogJ (dJ room (zAm ls) (zC1 s)) [97] (JouM.none0 g)=(dJ room (zAm ls) (zC1 s),0,false,M0):=by
  unfold readLogJ
  rw [dj_log]
  dsimp only
  rw [show (wh (zAm ls)).data=zAm ls from rfl,hsc]
  dsimp only
  rw [h0]
  dsimp only
  have ht:zAV (dJ room (zAm ls) (zC1 s)) (logN [97]) (zAm ls).length (zAm ls).length=(dJ room (zAm ls) (zC1 s),0):=by unfold zAV;rw [if_neg (by omega)]
  rw [ht]
 rw [b4] at a4
 have hok:¬ ((([97]:Bs).length) < 1∨20 < ([97]:Bs).length∨zCx g=false):=by
  rintro (h | h | h)
  ·exact absurd h (by decide)
  ·exact absurd h (by decide)
  ·rw [hg] at h
   cases h
 rw [oj_keep O hok e1.symm e2.symm (by rw [← a3]) (by rw [← a4]) (M:=M) (by rw [← a3,← a4];exact hj),← a4]
structure Kept5 (room:Nat) (g:List Int) (M:JouM) (D:zAA) (u:Nat):Prop where
 ex:∃ ls s M0,D=dJ room (zAm ls) (zC1 s)∧(∀ l ∈ ls,l.length≤1048576)∧SnapOK s∧recAll (JouM.none0 g) ls=some M0∧joins s M0 false=some (false,M)
 used:D.used≤u
 grp:zCx g=true
 alive:M.dead=false
theorem Kept5.open {room:Nat} {g:List Int} {M:JouM} {D:zAA} {u:Nat} (h:Kept5 room g M D u):jouOpen D [97] g=(D,0,M):=by
 obtain ⟨⟨ls,s,M0,rfl,h1,h2,h3,h4⟩,-,hg,-⟩:=h
 exact open_dj hg h1 h2 h3 h4
theorem Kept5.crash {room:Nat} {g:List Int} {M:JouM} {D:zAA} {u:Nat} (h:Kept5 room g M D u) (k:Int):D.crash k=D:=by
 obtain ⟨⟨ls,s,M0,rfl,-⟩,-⟩:=h
 exact crash_dj k
section
variable {w w1 w2:World} {j r:Nat} {pre:ByteArray} {D:zAA} {M:JouM} {Hot Cold O C C':Nat→Prop} {gv dv ev v':Value} {vs vs':List EV} {es':List Ent}
theorem RJIn.one (h:RJIn w j r pre O C M gv dv ev vs):∀ v ∈ vs,v.1.oneCell'=true∧v.2.oneCell'=true:=fun v hv=>by
 obtain ⟨i,hi,rfl⟩:=List.getElem_of_mem hv
 have hie:i < M.entries.length:=by rw [← h.rlen];exact hi
 have he:=h.rows i _ _ (List.getElem?_eq_getElem hie) (List.getElem?_eq_getElem hi)
 obtain ⟨_,_,e1⟩:=he.data.slice
 obtain ⟨_,_,e2⟩:=he.nodes.slice
 rw [e1,e2]
 exact ⟨rfl,rfl⟩
theorem RJIn.list (h:RJIn w j r pre O C M gv dv ev vs) (hc:Chg (fun k=>ev.ownBlock=some k) w w2) (hown:OwnR w2 50 4 v' es'.length (entsC es' vs')) (hnew:∀ k,v'.ownBlock=some k→(ev.ownBlock=some k∨w.heap.size≤k)) (hrl:vs'.length=es'.length)
  (hrows:∀ (i:Nat) e v,es'[i]?=some e→vs'[i]?=some v→zCX w2 e v) (hcv:∀ u ∈ vs',∀ k,(u.1.ownBlock=some k∨u.2.ownBlock=some k)→C' k) (hC:∀ k,C k→C' k) (hC2:∀ k,C' k→(C k∨w.heap.size≤k)∧k < w2.heap.size∧v'.ownBlock≠some k) (ok:({ M with entries:=es' }:JouM).OK) :
  RJIn (w2.setCell ⟨j,8,none⟩ v') j r pre (fun k=>O k∨v'.ownBlock=some k) C' { M with entries:=es' } gv dv v' vs':=by
 have hjlt:=h.olt j h.oj
 have hjne:ev.ownBlock≠some j:=fun e=>(h.oe j e).2 rfl
 have hvj:v'.ownBlock≠some j:=fun e=>(hnew j e).elim hjne (by omega)
 have hcj:w2.heap[j]?=w.heap[j]?:=hc.block j hjlt hjne
 have hco:∀ k,C k→¬ (ev.ownBlock=some k):=fun k hk e=>h.dis k hk (h.oe k e).1
 have hcold:∀ k,C' k→k≠j:=fun k hk e=>by
  rcases (hC2 k hk).1 with h1 | h1
  ·exact h.dis k h1 (e ▸ h.oj)
  ·omega
 have hS:∀ k,k≠j→(w2.setCell ⟨j,8,none⟩ v').heap[k]?=w2.heap[k]?:=fun k hk=>zAD _ hk
 have hz:(w2.setCell ⟨j,8,none⟩ v').heap.size=w2.heap.size:=by simp [World.setCell]
 exact {
  cells:=by
   have h1:=zAP (hcj.trans h.cells) 8 v'
   simpa using h1
  group:=zAX.keep (zAX.chg h.group hc fun k hk=>hco k (h.cg k hk)) fun k hk=>hS k (hcold k (hC k (h.cg k hk)))
  data:=zAX.keep (zAX.chg h.data hc fun k hk=>hco k (h.cd k hk)) fun k hk=>hS k (hcold k (hC k (h.cd k hk)))
  row:=OwnR.keep hown fun k hk=>hS k fun e=>hvj (e ▸ hk)
  rlen:=hrl
  rows:=fun i e v he hv=>(hrows i e v he hv).keep fun k hk=>hS k (hcold k (hcv v (List.mem_of_getElem? hv) k hk))
  oj:=.inl h.oj
  oe:=fun k hk=>⟨.inr hk,fun e=>hvj (e ▸ hk)⟩
  cg:=fun k hk=>hC k (h.cg k hk)
  cd:=fun k hk=>hC k (h.cd k hk)
  cv:=hcv
  dis:=fun k hk ho=>by
   rcases ho with ho | ho
   ·rcases (hC2 k hk).1 with h1 | h1
    ·exact h.dis k h1 ho
    ·have:=h.olt k ho
     omega
   ·exact (hC2 k hk).2.2 ho
  olt:=fun k hk=>by
   rw [hz]
   rcases hk with hk | hk
   ·exact Nat.lt_of_lt_of_le (h.olt k hk) hc.size
   ·exact OwnR.lt hown hk
  clt:=fun k hk=>by
   rw [hz]
   exact (hC2 k hk).2.1
  psz:=h.psz
  ok:=ok }
end
end Go.Proofs.YtapfnehdgailmaaGreat
