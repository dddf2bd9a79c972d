/- The document's journal: reads, kinds 2 and 1. (Printed by mkro3.py.) The document's journal: Append. (Printed by mkrk9.py.) The document's journal: reads, kinds 4 and 3; all of it. (Printed by mkro4.py.) The document's journal: reads. (Printed by mkro5.py.) The document's journal: anew, of no entries. (Printed by mkrj4.py.) -/
import Derived.Test.YtapfnehdgailmaaGreatGG
import Derived.Test.YtapfnehdgailmaaGreatGH
import Derived.Test.YtapfnehdgailmaaGreatGQ
import Derived.Test.YtapfnehdgailmaaGreatGT
import Derived.Test.YtapfnehdgailmaaGreatGU
set_option maxRecDepth 100000
set_option maxHeartbeats 64000000
namespace Go.Proofs.YtapfnehdgailmaaGreat
open Go.RowKit Go.Sat Go.Maps
section
variable {S:Nat→Prop} {w w1 w2:World} {j r:Nat} {pre:ByteArray} {M:JouM}
theorem zBI.vote (h:zBI S w1 j r pre M) {t v:Int} (ht:isTm t=true) (hv:-1≤v∧v < 7):zBI S ((w1.setCell ⟨j,5,none⟩ (.int .i64 t)).setCell ⟨j,6,none⟩ (.int .i64 v)) j r pre { M with now:=t,vote:=v }:=by
 obtain ⟨O,C,gv,dv,ev,vs,hJ,hn⟩:=h
 refine ⟨O,C,gv,dv,ev,vs,hJ.set ?_ ((Chg.setCell w1 ⟨j,5,none⟩ _).trans (Chg.setCell _ ⟨j,6,none⟩ _) fun _ _ e=>e) rfl rfl rfl ⟨hJ.ok.last,hJ.ok.term,hJ.ok.group,ht,hv,hJ.ok.data,hJ.ok.ents⟩,hn⟩
 have h1:=zAE hJ.cells 5 (.int .i64 t)
 have h2:=zAE h1 6 (.int .i64 v)
 simpa using h2
theorem zBI.base (h:zBI S w1 j r pre M) (he:M.entries=[]) (hk:∀ k,k < w1.heap.size→k≠j→w2.heap[k]?=w1.heap[k]?) (hsz:w1.heap.size≤w2.heap.size) {n:Nat} {t:Int} {g:List Int} {gv:Value} (hcell:∀ gv0 dv ev,w1.heap[j]?=some (RJC r (M.number:Int) M.term gv0 pre M.now M.vote dv ev M.dead)→w2.heap[j]?=some (RJC r (n:Int) t gv pre M.now M.vote dv ev M.dead))
  (hg:HasI w2 gv g) (hgn:∀ k,gv.ownBlock=some k→w1.heap.size≤k∧k < w2.heap.size) (hn40:n≤1099511627776) (ht:isTm t=true) (hgr:zAW g=true):zBI (fun k=>S k∨w1.heap.size≤k) w2 j r pre { M with number:=n,term:=t,group:=g }:=by
 obtain ⟨O,C,gv0,dv,ev,vs,hJ,hn⟩:=h
 have hjl:=hJ.olt j hJ.oj
 have hcj:∀ k,C k→k≠j:=fun k hk e=>hJ.dis k hk (e ▸ hJ.oj)
 refine ⟨O,fun k=>C k∨gv.ownBlock=some k,gv,dv,ev,vs,{
  cells:=hcell _ _ _ hJ.cells
  group:=hg
  data:=zAL.keep hJ.data fun k h=>hk k (hJ.clt k (hJ.cd k h)) (hcj k (hJ.cd k h))
  row:=hJ.row.keep fun k h=>hk k (hJ.olt k (hJ.oe k h).1) (hJ.oe k h).2
  rlen:=hJ.rlen
  rows:=fun i e v he hv=>(hJ.rows i e v he hv).keep fun k h=>hk k (hJ.clt k (hJ.cv v (List.mem_of_getElem? hv) k h)) (hcj k (hJ.cv v (List.mem_of_getElem? hv) k h))
  oj:=hJ.oj
  oe:=hJ.oe
  cg:=fun k hk=>.inr hk
  cd:=fun k hk=>.inl (hJ.cd k hk)
  cv:=fun u hu k hk=>.inl (hJ.cv u hu k hk)
  dis:=fun k hk ho=>by
   rcases hk with hk | hk
   ·exact hJ.dis k hk ho
   ·have h1:=(hgn k hk).1
    have h2:=hJ.olt k ho
    omega
  olt:=fun k h=>Nat.lt_of_lt_of_le (hJ.olt k h) hsz
  clt:=fun k h=>h.elim (fun h=>Nat.lt_of_lt_of_le (hJ.clt k h) hsz) fun h=>(hgn k h).2
  psz:=hJ.psz
  ok:=⟨by show n+M.entries.length≤_;rw [he];exact hn40,ht,hgr,hJ.ok.now,hJ.ok.vote,hJ.ok.data,hJ.ok.ents⟩ },fun k hk=>?_⟩
 rcases hk with hk | hk | hk
 ·exact .inl (hn k (.inl hk))
 ·exact .inl (hn k (.inr hk))
 ·exact .inr (hgn k hk).1
theorem rds_k2 (h:zBI S w1 j r pre M) {p:Option Addr} {n c:Nat} {l:Bs} (hx:HasB w1 (.slice p n c) (2 :: l)) (hcap:n≤c) (hl:n≤1073741824) (hlt:∀ k,(Value.slice p n c).ownBlock=some k→k < w1.heap.size) :
  Calls Tryz.prog 89 #[.pointer (some ⟨j,0,none⟩),.slice p n c,.bool false] w1 (zCi S w1 j r pre (rec1 false M (2 :: l))):=by
 have HR0:=zh (zEL (w:=w1) hx hcap hlt (by omega))
 have HF:=zh (zDw HR0.out)
 have HJ:=zh h
 have HBq:=zh (zAD w1 (.cells #[.slice p n c,.bool false] 148))
 clear HR0
 have HM:=zh (show rec1 false M (2 :: l)=(if (Rd.num ⟨l,false⟩).2.num.2.whole && M.mayVote ((Rd.num ⟨l,false⟩).1:Int) (((Rd.num ⟨l,false⟩).2.num.1:Int) - 1) then
    some { M with now:=((Rd.num ⟨l,false⟩).1:Int),vote:=(((Rd.num ⟨l,false⟩).2.num.1:Int) - 1) } else none) from rfl)
 have hm1:=Rd.num_le ⟨l,false⟩
 have hm2:=Rd.num_le (Rd.num ⟨l,false⟩).2
 generalize rec1 false M (2 :: l)=O at *
 have hnow:=zAr.1 h.ok.now
 clear h hx hl hcap hlt
 go_enter Tryz.func89,Tryz.ntmps89
 go_wp2_with fail
 generalize hWq:w1.alloc (.cells #[.slice p n c,.bool false] 148)=Wq at *
 refine HF.out.mono ?_
 rintro e w3 ⟨g,q,rfl,hg,hgl,hr3,hc3⟩
 have HB3:=zh (show Below w1.heap.size w1 w3 from HBq.out.trans (hc3.below HBq.out.size fun i hi e=>by omega))
 have HJ3:=zh (HJ.out.below HB3.out)
 have HR3:=zh hr3
 have HG3:=zh hgl
 have hb3:=hr3.c1
 have hkc:w3.cell? ⟨g,0,none⟩=some (.int .u8 2):=hg
 clear hr3 hc3 HF hg hgl
 go_wp2_with fail
 have HN1:=zh (zAv HR3.out)
 refine HN1.out.mono ?_
 rintro e w4 ⟨rfl,hr4,hc4⟩
 have HN2:=zh (zAv hr4)
 have HB4:=zh (show Below w1.heap.size w1 w4 from HB3.out.trans (hc4.below HB3.out.size fun i hi e=>by omega))
 clear hr4 hc4 HN1
 go_wp2_with fail
 refine HN2.out.mono ?_
 rintro e w5 ⟨rfl,hr5,hc5⟩
 have HB5:=zh (show Below w1.heap.size w1 w5 from HB4.out.trans (hc5.below HB4.out.size fun i hi e=>by omega))
 have HR5:=zh hr5
 clear hr5 hc5 HN2
 have HW:=zh (zBz HR5.out)
 obtain ⟨gv,dv,ev,hcell⟩:=(HJ.out.below HB5.out).cells
 have c5:=zAA hcell (i:=5) rfl
 have c6:=zAA hcell (i:=6) rfl
 have f5:=zAF hcell 5
 have f6:=zAF hcell 6
 have Hmv:=zh (show ∀ t v,M.mayVote t v=(decide (M.now≤t∧t≤1099511627776∧-1≤v∧v < 7) && !decide (t=M.now∧M.vote≠-1∧v≠M.vote)) from fun _ _=>rfl)
 generalize (Rd.num ⟨l,false⟩).2.num.2=R5 at *
 generalize (Rd.num ⟨l,false⟩).2.num.1=m2 at *
 generalize (Rd.num ⟨l,false⟩).1=m1 at *
 obtain ⟨v,hv⟩:∃ v:Int,v=(m2:Int) - 1:=⟨_,rfl⟩
 have hvw:IntKind.i64.wrap ((m2:Int) - 1)=v:=by rw [IntWalk.i64_in _ (by omega)];omega
 rw [← hv] at HM
 have hv1:-1≤v:=by omega
 have HV:=zh (fun (ht:isTm (m1:Int)=true) (h7:v < 7)=>(HJ.out.below HB5.out).vote ht ⟨hv1,h7⟩)
 have HC6:=zh (fun t v=>show Chg S w1 ((w5.setCell ⟨j,5,none⟩ (.int .i64 t)).setCell ⟨j,6,none⟩ (.int .i64 v)) from (zBH HB5.out).trans ((Chg.setCell w5 ⟨j,5,none⟩ (.int .i64 t)).trans (Chg.setCell _ ⟨j,6,none⟩ (.int .i64 v)) fun _ _ e=>e) fun k _ e=>by have e2:k=j:=e;rw [e2];exact HJ.out.lt.1)
 clear hv hm2
 go_wp2_with fail
 refine HW.out.mono ?_
 rintro e w6 ⟨rfl,rfl⟩
 cases hw:R5.whole with
 | false =>
  have HE:=zh (zDr (S:=S) (j:=j) (r:=r) (pre:=pre) (o:=O) (zBH HB5.out) (by rw [HM.out,hw];rfl))
  clear hw HR5 hcell
  go_wp2_with fail
  go_ret
  exact HE.out
 | true =>
  have HM2:=zh (show O=if M.mayVote (m1:Int) v=true then some { M with now:=(m1:Int),vote:=v } else none from by rw [HM.out,hw];simp)
  have Hno:=zh (fun (hm:M.mayVote (m1:Int) v=false)=>show O=none from by rw [HM2.out,hm];rfl)
  clear hw
  generalize hnw:M.now=now at *
  generalize hvo:M.vote=vote at *
  by_cases h7:7≤v
  ·have d7:decide ((7:Int)≤v)=true:=decide_eq_true h7
   have HE:=zh (zDr (S:=S) (j:=j) (r:=r) (pre:=pre) (o:=O) (zBH HB5.out) (Hno.out (by rw [Hmv.out,decide_eq_false (by omega)];rfl)))
   clear HR5 hcell
   go_wp2_with fail
   go_ret
   exact HE.out
  ·have d7:decide ((7:Int)≤v)=false:=decide_eq_false h7
   by_cases ht:1099511627776 < m1
   ·have dt:decide ((1099511627776:Int) < (m1:Int))=true:=decide_eq_true (by omega)
    have dtn:decide (1099511627776 < m1)=true:=decide_eq_true ht
    have HE:=zh (zDr (S:=S) (j:=j) (r:=r) (pre:=pre) (o:=O) (zBH HB5.out) (Hno.out (by rw [Hmv.out,decide_eq_false (by omega)];rfl)))
    clear HR5 hcell
    go_wp2_with fail
    go_ret
    exact HE.out
   ·have dt:decide ((1099511627776:Int) < (m1:Int))=false:=decide_eq_false (by omega)
    have dtn:decide (1099511627776 < m1)=false:=decide_eq_false ht
    by_cases hn:(m1:Int) < now
    ·have dn:decide ((m1:Int) < now)=true:=decide_eq_true hn
     have HE:=zh (zDr (S:=S) (j:=j) (r:=r) (pre:=pre) (o:=O) (zBH HB5.out) (Hno.out (by rw [Hmv.out,decide_eq_false (by omega)];rfl)))
     clear HR5 hcell
     go_wp2_with fail
     go_ret
     exact HE.out
    ·have dn:decide ((m1:Int) < now)=false:=decide_eq_false hn
     have hT:isTm (m1:Int)=true:=zAr.2 ⟨by omega,by omega⟩
     have HGo:=zh (fun (hm:M.mayVote (m1:Int) v=true)=>rds_yes (S:=S) (w1:=w1) (o:=O) (HC6.out (m1:Int) v) ((HV.out hT (by omega)).wide fun _ h=>.inl h) (by rw [HM2.out,if_pos hm]))
     by_cases he:(m1:Int)=now
     ·have de:((m1:Int) == now)=true:=by simpa using he
      by_cases hv1':vote=-1
      ·have dv1:(vote != -1)=false:=by simpa using hv1'
       have HE:=zh (HGo.out (by rw [Hmv.out,decide_eq_true (by omega),decide_eq_false (by omega)];rfl))
       clear hcell HR5 he hv1'
       go_wp2_with fail
       go_ret
       exact HE.out
      ·have dv1:(vote != -1)=true:=by simpa using hv1'
       by_cases hvv:v=vote
       ·have dvv:(v != vote)=false:=by simpa using hvv
        have HE:=zh (HGo.out (by rw [Hmv.out,decide_eq_true (by omega),decide_eq_false (by omega)];rfl))
        clear hcell HR5 he hv1' hvv
        go_wp2_with fail
        go_ret
        exact HE.out
       ·have dvv:(v != vote)=true:=by simpa using hvv
        have HE:=zh (zDr (S:=S) (j:=j) (r:=r) (pre:=pre) (o:=O) (zBH HB5.out) (Hno.out (by rw [Hmv.out,decide_eq_true (p:=(m1:Int)=now∧vote≠-1∧v≠vote) ⟨he,hv1',hvv⟩,Bool.and_comm];rfl)))
        clear HR5 hcell he hv1' hvv
        go_wp2_with fail
        go_ret
        exact HE.out
     ·have de:((m1:Int) == now)=false:=by simpa using he
      have HE:=zh (HGo.out (by rw [Hmv.out,decide_eq_true (by omega),decide_eq_false (by omega)];rfl))
      clear hcell HR5 he
      go_wp2_with fail
      go_ret
      exact HE.out
theorem rds_k1 (h:zBI S w1 j r pre M) {p:Option Addr} {n c:Nat} {l:Bs} (hx:HasB w1 (.slice p n c) (1 :: l)) (hcap:n≤c) (hl:n≤1073741824) (hlt:∀ k,(Value.slice p n c).ownBlock=some k→k < w1.heap.size) (he:M.entries=[]) (hpj:∀ k,(Value.slice p n c).ownBlock=some k→k≠j) :
  Calls Tryz.prog 89 #[.pointer (some ⟨j,0,none⟩),.slice p n c,.bool true] w1 (zCi S w1 j r pre (rec1 true M (1 :: l))):=by
 have HR0:=zh (zEL (w:=w1) hx hcap hlt (by omega))
 have HF:=zh (zDw HR0.out)
 have HJ:=zh h
 have HBq:=zh (zAD w1 (.cells #[.slice p n c,.bool false] 148))
 clear HR0
 have HM:=zh (show rec1 true M (1 :: l)=(if (Rd.num ⟨l,false⟩).2.num.2.grp zAW |>.2.whole then
    if (Rd.num ⟨l,false⟩).1≤1099511627776∧(Rd.num ⟨l,false⟩).2.num.1≤1099511627776 then
     some { M with number:=(Rd.num ⟨l,false⟩).1,term:=((Rd.num ⟨l,false⟩).2.num.1:Int),group:=((Rd.num ⟨l,false⟩).2.num.2.grp zAW).1 } else none
   else none) from rfl)
 have hm1:=Rd.num_le ⟨l,false⟩
 have hm2:=Rd.num_le (Rd.num ⟨l,false⟩).2
 have Hlf:=zh (fun l' R' (hL:RLst (Rd.num ⟨l,false⟩).2.num.2 l' R')=>lst_first hL)
 generalize rec1 true M (1 :: l)=O at *
 have HA:=zh hlt
 have HPJ:=zh hpj
 have He:=zh he
 have hjl:=h.lt
 clear h hx hl hcap hlt hpj he
 go_enter Tryz.func89,Tryz.ntmps89
 go_wp2_with fail
 generalize hWq:w1.alloc (.cells #[.slice p n c,.bool false] 148)=Wq at *
 refine HF.out.mono ?_
 rintro e w3 ⟨g,q,rfl,hg,hgl,hr3,hc3⟩
 have HB3:=zh (show Below w1.heap.size w1 w3 from HBq.out.trans (hc3.below HBq.out.size fun i hi e=>by omega))
 have HJ3:=zh (HJ.out.below HB3.out)
 have HR3:=zh hr3
 have HG3:=zh hgl
 have hb3:=hr3.c1
 have hkc:w3.cell? ⟨g,0,none⟩=some (.int .u8 1):=hg
 clear hr3 hc3 HF hg hgl
 go_wp2_with fail
 have HN1:=zh (zAv HR3.out)
 refine HN1.out.mono ?_
 rintro e w4 ⟨rfl,hr4,hc4⟩
 have HN2:=zh (zAv hr4)
 have HB4:=zh (show Below w1.heap.size w1 w4 from HB3.out.trans (hc4.below HB3.out.size fun i hi e=>by omega))
 clear hr4 hc4 HN1
 go_wp2_with fail
 refine HN2.out.mono ?_
 rintro e w5 ⟨rfl,hr5,hc5⟩
 have HB5:=zh (show Below w1.heap.size w1 w5 from HB4.out.trans (hc5.below HB4.out.size fun i hi e=>by omega))
 have HR5:=zh hr5
 clear hr5 hc5 HN2
 generalize (Rd.num ⟨l,false⟩).2.num.2=R5 at *
 generalize (Rd.num ⟨l,false⟩).2.num.1=m2 at *
 generalize (Rd.num ⟨l,false⟩).1=m1 at *
 have hs5:=HB5.out.size
 have HLs:=zh (rlst_calls HR5.out fun k hk=>⟨by have:=HA.out k hk;omega,fun e=>by have:=HA.out k hk;omega⟩)
 go_wp2_with fail
 refine HLs.out.mono ?_
 rintro e w6 ⟨vl,lg,R6,rfl,hR6,hvl,hnl,hl18,hlz,hr6,hc6⟩
 have HB6:=zh (show Below w1.heap.size w1 w6 from HB5.out.trans (hc6.below HB5.out.size fun i hi e=>by omega))
 obtain ⟨Hf1,Hf2⟩:=Hlf.out lg R6 hR6
 have HLF:=zh (And.intro Hf1 Hf2)
 have HJ6:=zh (HJ.out.below HB6.out)
 have hs6:=HB6.out.size
 obtain ⟨pl,cl,rfl,-⟩:=zAl hvl
 generalize hnl':lg.length=nl at *
 have Hnl':=zh hnl'
 have HVL:=zh (And.intro hvl (show ∀ k,(Value.slice pl nl cl).ownBlock=some k→w5.heap.size≤k∧k < w6.heap.size from fun k hk=>⟨hnl k hk,OwnR.lt hvl hk⟩))
 obtain ⟨gv,dv,ev,hcell⟩:=HJ6.out.cells
 have c0:=zAA hcell (i:=0) rfl
 have c1:=zAA hcell (i:=1) rfl
 have c2:=zAA hcell (i:=2) rfl
 have f0:=zAF hcell 0
 have f1:=zAF hcell 1
 have f2:=zAF hcell 2
 have hC7:Chg (fun k=>k=j) w6 (((w6.setCell ⟨j,0,none⟩ (.int .i64 (m1:Int))).setCell ⟨j,1,none⟩ (.int .i64 (m2:Int))).setCell ⟨j,2,none⟩ (.slice pl nl cl)):=((Chg.setCell w6 ⟨j,0,none⟩ _).trans (Chg.setCell _ ⟨j,1,none⟩ _) fun _ _ e=>e).trans (Chg.setCell _ ⟨j,2,none⟩ _) fun _ _ e=>e
 have hk7:=fun gv0 dv0 ev0 (hc0:w6.heap[j]?=some (RJC r (M.number:Int) M.term gv0 pre M.now M.vote dv0 ev0 M.dead))=>show (((w6.setCell ⟨j,0,none⟩ (.int .i64 (m1:Int))).setCell ⟨j,1,none⟩ (.int .i64 (m2:Int))).setCell ⟨j,2,none⟩ (.slice pl nl cl)).heap[j]?=some (RJC r (m1:Int) (m2:Int) (.slice pl nl cl) pre M.now M.vote dv0 ev0 M.dead) from by
  have h1:=zAE hc0 0 (.int .i64 (m1:Int))
  have h2:=zAE h1 1 (.int .i64 (m2:Int))
  have h3:=zAE h2 2 (.slice pl nl cl)
  simpa using h3
 have HW7:=zh (zBz (hr6.chg hC7 (fun e=>by omega) fun k hk e=>HPJ.out k hk e))
 have hI7:HasI (((w6.setCell ⟨j,0,none⟩ (.int .i64 (m1:Int))).setCell ⟨j,1,none⟩ (.int .i64 (m2:Int))).setCell ⟨j,2,none⟩ (.slice pl nl cl)) (.slice pl nl cl) lg:=by
  have:=zAL.chg (OwnI.has hvl) hC7 fun k hk e=>by have:=hnl k hk;omega
  exact this
 have Hg7:=zh (zC2 hI7 (by omega))
 have hB7:Chg S w1 (((w6.setCell ⟨j,0,none⟩ (.int .i64 (m1:Int))).setCell ⟨j,1,none⟩ (.int .i64 (m2:Int))).setCell ⟨j,2,none⟩ (.slice pl nl cl)):=(zBH HB6.out).trans hC7 fun k _ e=>by rw [e];exact hjl.1
 have HNo:=zh (fun q (ho:O=none)=>zDr (S:=S) (w1:=w1) (j:=j) (r:=r) (pre:=pre) (hB7.trans (zBH (zAX _ q)) fun _ _ h=>h) ho)
 have HNo0:=zh (fun (ho:O=none)=>zDr (S:=S) (w1:=w1) (j:=j) (r:=r) (pre:=pre) hB7 ho)
 have HYes:=zh (fun q (h1:m1≤1099511627776) (h2:m2≤1099511627776) (hg:zAW lg=true) (ho:O=some { M with number:=m1,term:=(m2:Int),group:=lg })=>rds_yes (S:=S) (w1:=w1) (hB7.trans (zBH (zAX _ q)) fun _ _ h=>h) ((HJ.out.base He.out (fun k hk hne=>(hC7.block k (Nat.lt_of_lt_of_le hk hs6) hne).trans (HB6.out.block k hk)) (Nat.le_trans hs6 hC7.size) (fun gv0 dv0 ev0 h=>hk7 gv0 dv0 ev0 ((HB6.out.block j hjl.2).trans h)) hI7 (fun k hk=>⟨by have:=hnl k hk;omega,Nat.lt_of_lt_of_le (OwnR.lt hvl hk) hC7.size⟩) h1 (zAr.2 ⟨by omega,by omega⟩) hg).below (zAX _ q)) ho)
 have hj7:=hk7 gv dv ev hcell
 have d0:=zAA hj7 (i:=0) rfl
 have d1:=zAA hj7 (i:=1) rfl
 have d2:=zAA hj7 (i:=2) rfl
 have HD:=zh (And.intro d0 (And.intro d1 d2))
 clear hvl hnl hl18 hlz hr6 hc6 HLs hcell hC7 hk7 hI7 hB7 hj7 Hf1 Hf2 hR6 hnl' d0 d1 d2 Hlf
 go_wp2_with fail
 clear c0 c1 c2 f0 f1 f2
 generalize ((w6.setCell ⟨j,0,none⟩ (.int .i64 (m1:Int))).setCell ⟨j,1,none⟩ (.int .i64 (m2:Int))).setCell ⟨j,2,none⟩ (.slice pl nl cl)=W7 at *
 obtain ⟨d0,d1,d2⟩:=HD.out
 refine HW7.out.mono ?_
 rintro e w8 ⟨rfl,rfl⟩
 cases hw:R6.whole with
 | false =>
  have HE:=zh (HNo0.out (by rw [HM.out,← HLF.out.1,hw];rfl))
  clear hw
  go_wp2_with fail
  go_ret
  exact HE.out
 | true =>
  cases hg:zAW lg with
  | false =>
   have HE:=zh (fun q=>HNo.out q (by rw [HM.out,← HLF.out.1,hw,hg];rfl))
   rw [hg] at Hg7
   clear hw hg
   go_wp2_with fail
   refine Hg7.out.mono ?_
   rintro e w9 ⟨rfl,q,rfl⟩
   go_wp2_with fail
   go_ret
   exact HE.out q
  | true =>
   have hwt:((R5.grp zAW).2.whole)=true:=by rw [← HLF.out.1,hw,hg];rfl
   have HG:=zh hg
   have HM2:=zh (show O=if m1≤1099511627776∧m2≤1099511627776 then some { M with number:=m1,term:=(m2:Int),group:=lg } else none from by rw [HM.out,if_pos hwt,HLF.out.2 hwt])
   rw [hg] at Hg7
   clear hw hg hwt
   have q0:∀ q,(w8.drewN q).cell? ⟨j,0,none⟩=some (.int .i64 (m1:Int)):=fun _=>d0
   have q1:∀ q,(w8.drewN q).cell? ⟨j,1,none⟩=some (.int .i64 (m2:Int)):=fun _=>d1
   by_cases h1:m1≤1099511627776
   ·have e1:decide ((m1:Int)≤1099511627776)=true:=decide_eq_true (by omega)
    have e1n:decide (m1≤1099511627776)=true:=decide_eq_true h1
    by_cases h2:m2≤1099511627776
    ·have e2:decide ((m2:Int)≤1099511627776)=true:=decide_eq_true (by omega)
     have e2n:decide (m2≤1099511627776)=true:=decide_eq_true h2
     have HE:=zh (fun q=>HYes.out q h1 h2 HG.out (by rw [HM2.out,if_pos ⟨h1,h2⟩]))
     clear h1 h2
     go_wp2_with fail
     refine Hg7.out.mono ?_
     rintro e w9 ⟨rfl,q,rfl⟩
     have q0:=q0 q
     have q1:=q1 q
     go_wp2_with fail
     go_ret
     exact HE.out q
    ·have e2:decide ((m2:Int)≤1099511627776)=false:=decide_eq_false (by omega)
     have e2n:decide (m2≤1099511627776)=false:=decide_eq_false h2
     have HE:=zh (fun q=>HNo.out q (by rw [HM2.out,if_neg (fun e=>h2 e.2)]))
     clear h1 h2
     go_wp2_with fail
     refine Hg7.out.mono ?_
     rintro e w9 ⟨rfl,q,rfl⟩
     have q0:=q0 q
     have q1:=q1 q
     go_wp2_with fail
     go_ret
     exact HE.out q
   ·have e1:decide ((m1:Int)≤1099511627776)=false:=decide_eq_false (by omega)
    have e1n:decide (m1≤1099511627776)=false:=decide_eq_false h1
    have HE:=zh (fun q=>HNo.out q (by rw [HM2.out,if_neg (fun e=>h1 e.1)]))
    clear h1
    go_wp2_with fail
    refine Hg7.out.mono ?_
    rintro e w9 ⟨rfl,q,rfl⟩
    have q0:=q0 q
    go_wp2_with fail
    go_ret
    exact HE.out q
end
section
variable {S:Nat→Prop} {w w1 w2:World} {j r:Nat} {pre:ByteArray} {M:JouM}
theorem rds_k4 (h:zBI S w1 j r pre M) {p:Option Addr} {n c:Nat} {l:Bs} (hx:HasB w1 (.slice p n c) (4 :: l)) (hcap:n≤c) (hl:n≤1073741824) (hlt:∀ k,(Value.slice p n c).ownBlock=some k→k < w1.heap.size) :
  Calls Tryz.prog 89 #[.pointer (some ⟨j,0,none⟩),.slice p n c,.bool false] w1 (zCi S w1 j r pre (rec1 false M (4 :: l))):=by
 obtain ⟨i4,hi4,hz40,hz41,hz42⟩:=info_parts (show (Tryz.prog.info? 50).map (fun i=>(i.zero,i.size,i.bytes))=some (some (.agg #[.int .i64 0,.int .i64 0,.slice none 0 0,.slice none 0 0]),4,64) by kernel_rfl)
 have HR0:=zh (zEL (w:=w1) hx hcap hlt (by omega))
 have HF:=zh (zDw HR0.out)
 have HJ:=zh h
 have HBq:=zh (zAD w1 (.cells #[.slice p n c,.bool false] 148))
 clear HR0
 have HM:=zh (show rec1 false M (4 :: l)=(if (Rd.num ⟨l,false⟩).2.whole∧M.number < (Rd.num ⟨l,false⟩).1∧(Rd.num ⟨l,false⟩).1≤M.last+1 then some { M with entries:=M.entries.take ((Rd.num ⟨l,false⟩).1 - M.number - 1) } else none) from rfl)
 have hm1:=Rd.num_le ⟨l,false⟩
 generalize rec1 false M (4 :: l)=O at *
 have hlast:=h.ok.last
 have Hml:=zh (show M.last=M.number+M.entries.length from rfl)
 clear h hx hl hcap hlt
 go_enter Tryz.func89,Tryz.ntmps89
 go_wp2_with fail
 generalize hWq:w1.alloc (.cells #[.slice p n c,.bool false] 148)=Wq at *
 refine HF.out.mono ?_
 rintro e w3 ⟨g,q,rfl,hg,hgl,hr3,hc3⟩
 have HB3:=zh (show Below w1.heap.size w1 w3 from HBq.out.trans (hc3.below HBq.out.size fun i hi e=>by omega))
 have HJ3:=zh (HJ.out.below HB3.out)
 have HR3:=zh hr3
 have HG3:=zh hgl
 have hb3:=hr3.c1
 have hkc:w3.cell? ⟨g,0,none⟩=some (.int .u8 4):=hg
 clear hr3 hc3 HF hg hgl
 go_wp2_with fail
 have HN1:=zh (zAv HR3.out)
 refine HN1.out.mono ?_
 rintro e w4 ⟨rfl,hr4,hc4⟩
 have HB4:=zh (show Below w1.heap.size w1 w4 from HB3.out.trans (hc4.below HB3.out.size fun i hi e=>by omega))
 have HR4:=zh hr4
 clear hr4 hc4 HN1
 have HW:=zh (fun q=>zBz (HR4.out.below (⟨rfl,rfl,rfl,Nat.le_refl _,fun _ _=>rfl⟩:Below w4.heap.size w4 (w4.drewN q))))
 have HLa:=zh (HJ.out.below HB4.out).last_calls
 generalize (Rd.num ⟨l,false⟩).2=R5 at *
 generalize (Rd.num ⟨l,false⟩).1=z at *
 have Hno:=zh (fun q (ho:O=none)=>zDr (S:=S) (w1:=w1) (j:=j) (r:=r) (pre:=pre) ((zBH HB4.out).trans (zBH (zAX w4 q)) fun _ _ h=>h) ho)
 go_wp2_with fail
 refine HLa.out.mono ?_
 rintro e w5 ⟨rfl,q,rfl⟩
 have HWq:=zh (HW.out q)
 have HB5:=zh (HB4.out.trans (⟨rfl,rfl,rfl,Nat.le_refl _,fun _ _=>rfl⟩:Below w1.heap.size w4 (w4.drewN q)))
 have HJ5:=zh (HJ.out.below HB5.out)
 have HN5:=zh (Hno.out q)
 clear HW HLa Hno
 generalize w4.drewN q=w6 at *
 obtain ⟨O1,C1,gv,dv,ev,vs,hJ,hnw⟩:=HJ5.out
 have s0:=hJ.c 0 rfl
 have hwl:IntKind.i64.wrap ((M.last:Int)+1)=(M.last:Int)+1:=IntWalk.i64_in _ (by omega)
 go_wp2_with fail
 refine HWq.out.mono ?_
 rintro e w7 ⟨rfl,hw67⟩
 obtain rfl:=hw67.symm
 cases hw:R5.whole with
 | false =>
  have HE:=zh (HN5.out (by rw [HM.out,hw];simp))
  clear hw hJ
  go_wp2_with fail
  go_ret
  exact HE.out
 | true =>
  have HM2:=zh (show O=if M.number < z∧z≤M.last+1 then some { M with entries:=M.entries.take (z - M.number - 1) } else none from by rw [HM.out,hw];simp)
  clear hw
  by_cases h1:z≤M.number
  ·have d1:decide ((z:Int)≤(M.number:Int))=true:=decide_eq_true (by omega)
   have d1n:decide (z≤M.number)=true:=decide_eq_true h1
   have HE:=zh (HN5.out (by rw [HM2.out,if_neg (by omega)]))
   clear hJ h1
   go_wp2_with fail
   go_ret
   exact HE.out
  have d1:decide ((z:Int)≤(M.number:Int))=false:=decide_eq_false (by omega)
  have d1n:decide (z≤M.number)=false:=decide_eq_false h1
  by_cases h2:M.last+1 < z
  ·have d2:decide ((M.last:Int)+1 < (z:Int))=true:=decide_eq_true (by omega)
   have d2n:decide (M.last+1 < z)=true:=decide_eq_true h2
   have HE:=zh (HN5.out (by rw [HM2.out,if_neg (by omega)]))
   clear hJ h1 h2
   go_wp2_with fail
   go_ret
   exact HE.out
  have d2:decide ((M.last:Int)+1 < (z:Int))=false:=decide_eq_false (by omega)
  have d2n:decide (M.last+1 < z)=false:=decide_eq_false h2
  have HM3:=zh (show O=some { M with entries:=M.entries.take (z - M.number - 1) } from by rw [HM2.out,if_pos (by omega)])
  have hml:=Hml.out
  have s8:=hJ.c 8 rfl
  have hfr:=hJ.fr 8
  obtain ⟨p8,c8,hev8⟩:=hJ.row.shape
  have hle8:M.entries.length≤c8:=by
   rcases hJ.row.2 with ⟨h8,h0⟩ | ⟨g,cap,cur,h8,-,hnc,-⟩
   ·omega
   ·rw [hev8] at h8
    cases h8
    exact hnc
  have t8:w6.cell? ⟨j,8,none⟩=some (.slice p8 M.entries.length c8):=by rw [← hev8];exact s8
  clear s8
  have HX:=zh (And.intro hJ (And.intro hnw hev8))
  obtain ⟨k,hk⟩:∃ k,k=z - M.number - 1:=⟨_,rfl⟩
  have hkn:k≤M.entries.length:=by omega
  have Hone:=zh (zEc (M.entries.take k) (vs.take k) fun v hv=>hJ.one v (List.mem_of_mem_take hv))
  have hrow:=hJ.row
  rw [hev8] at hrow
  have Hents0:=zh (show zAL w6 4 (.slice p8 k c8) k (zA1 (M.entries.take k) (vs.take k)) from by
   rw [entsC_take k _ _ hJ.rlen]
   exact zAL.upto (OwnR.holds hrow) hkn c8)
  have hzk:z=M.number+1+k:=by omega
  rw [← hk] at HM3
  have Ht:=zh (show (M.entries.take k).length=k by rw [List.length_take];omega)
  have hok:=zh hJ.ok
  clear hJ hnw hev8 hrow hk h1 h2
  generalize hn8:M.entries.length=n8 at *
  generalize hb8:M.number=b at *
  have Hb8:=zh hb8
  have Hn8:=zh hn8
  have hw1:IntKind.i64.wrap ((z:Int) - (b:Int))=(k:Int)+1:=by rw [IntWalk.i64_in _ (by omega)];omega
  have hw2:IntKind.i64.wrap (k:Int)=(k:Int):=IntWalk.i64_in _ (by omega)
  have hkc:k≤c8:=by omega
  have hk40:k≤1099511627776:=by omega
  clear hzk hb8 hn8 hml
  go_wp2_with fail
  have Hents:=zh (show ∀ W,Below w6.drew.heap.size w6.drew W→zAL W 4 (.slice p8 k c8) k (zA1 (M.entries.take k) (vs.take k)) from fun W hbW=>zAL.chg Hents0.out (Chg.of_below ((⟨rfl,rfl,rfl,Nat.le_refl _,fun _ _=>rfl⟩:Below w6.heap.size w6 w6.drew).trans hbW)) fun _ _=>id)
  have Hfr:=zh (show ∀ W,Below w6.drew.heap.size w6.drew W→W.frozen? ⟨j,8,none⟩=false from fun W hbW=>zAF ((hbW.block j (zAC HX.out.1.cells)).trans HX.out.1.cells) 8)
  have HBd:=zh (⟨rfl,rfl,rfl,Nat.le_refl _,fun _ _=>rfl⟩:Below w6.heap.size w6 w6.drew)
  clear hfr
  refine zDm [18] (fun w':World=>w'.cell? ⟨j,8,none⟩=some (.slice p8 n8 c8)∧w'.cell? ⟨j,0,none⟩=some (.int .i64 (b:Int))) (n:=19) (by kernel_rfl) rfl (⟨t8,s0⟩) (fun hHeld=>?_)
  generalize w6.drew=W1 at *
  refine gtk 0 (v:=?v1x0) rfl ?_
  simp only [Act.put,uA,uB,uC]
  refine gtk 2 (v:=?v1x2) rfl ?_
  simp only [Act.put,uA,uB,uC]
  refine gtk 3 (v:=?v1x3) rfl ?_
  simp only [Act.put,uA,uB,uC]
  refine gtk 4 (v:=?v1x4) rfl ?_
  simp only [Act.put,uA,uB,uC]
  refine gtk 5 (v:=?v1x5) rfl ?_
  simp only [Act.put,uA,uB,uC]
  refine gtk 6 (v:=?v1x6) rfl ?_
  simp only [Act.put,uA,uB,uC]
  refine gtk 7 (v:=?v1x7) rfl ?_
  simp only [Act.put,uA,uB,uC]
  refine gtk 8 (v:=?v1x8) rfl ?_
  simp only [Act.put,uA,uB,uC]
  refine gtk 9 (v:=?v1x9) rfl ?_
  simp only [Act.put,uA,uB,uC]
  refine gtk 10 (v:=?v1x10) rfl ?_
  simp only [Act.put,uA,uB,uC]
  refine gtk 11 (v:=?v1x11) rfl ?_
  simp only [Act.put,uA,uB,uC]
  refine gtk 12 (v:=?v1x12) rfl ?_
  simp only [Act.put,uA,uB,uC]
  refine gtk 13 (v:=?v1x13) rfl ?_
  simp only [Act.put,uA,uB,uC]
  refine zBG 14 (v:=.slice p8 k c8) rfl (by kernel_rfl) (by kernel_rfl) (by kernel_rfl) (by kernel_rfl) (fun _ _ _ h=>h) (by rfl) (by assumption) (fun W hSw=>by have hup:=zB0 W Tryz.underlying78 hi4 p8 n8 c8 k (by omega);go_simp;try with_reducible rfl) ?_
  simp only [Act.put,uA,uB,uC]
  refine zEg 1 rfl (by kernel_rfl) (by rfl) (fun K hK=>?_)
  have HBW:=zh (zAD W1 (.cells #[] 50))
  have Hh1:=zh (And.intro (zAJ hHeld.1 HBW.out) (zAJ hHeld.2 HBW.out))
  have HeldX:=zh hHeld
  go_wp2_with fail
  refine hK.out _ _ (Hh1.out) (fun hHeld=>?_)
  clear hK
  try simp only [Act.put,uA,uB,uC]
  refine zEg 15 rfl (by kernel_rfl) (by rfl) (fun K hK=>?_)
  have Hal:=zh (zA5 W1 50 4)
  have Hxx:=zh (Hents.out _ HBW.out)
  refine zAj (.tmp 203) (.tmp 216) 78 rfl 50 i4 (.agg #[.int .i64 0,.int .i64 0,.slice none 0 0,.slice none 0 0]) 4 64 Tryz.underlying78 hi4 hz40 hz41 hz42 rfl (by decide) (.slice (some ⟨W1.heap.size,0,none⟩) 0 0) 0 [] rfl Hal.out (.slice p8 k c8) k _ rfl Hxx.out Hone.out (by unfold maxLen;omega) (by omega) ?_
  intro v7 w7 hown hgrow hloc
  have HN:=zh (copy_newE hown hgrow hloc)
  have Hh6:=zh (And.intro (zAJ HeldX.out.1 HN.out.2.2) (zAJ HeldX.out.2 HN.out.2.2))
  clear hown hgrow hloc Hal Hxx
  obtain ⟨p6,c6,rfl⟩:=OwnR.shape HN.out.1
  go_wp2_with fail
  refine hK.out _ _ (Hh6.out) (fun hHeld=>?_)
  clear hK
  try simp only [Act.put,uA,uB,uC]
  refine gpu 16 (v:=?v1x16) rfl ?_
  simp only [Act.put,uA,uB,uC]
  refine gpu 17 (v:=?v1x17) rfl ?_
  simp only [Act.put,uA,uB,uC]
  refine g_end 18 rfl (by kernel_rfl) (by rfl) (by kernel_rfl) (fun K hK=>?_)
  have s88:=Hh6.out.1
  have f8:=Hfr.out _ HN.out.2.2
  go_wp2_with fail
  refine hK.out _ _ ?_
  clear hK
  try simp only [Act.put,uA,uB,uC]
  refine g_done (by kernel_rfl) ?_ _
  have HE:=zh (show zCi S w1 j r pre O (.returned (.bool true)) (w7.setCell ⟨j,8,none⟩ (.slice p6 k c6)) from by
   obtain ⟨hJ,hnw,hev8⟩:=HX.out
   have hB7:Below w6.heap.size w6 w7:=HBd.out.trans (HN.out.2.2.mono HBd.out.size)
   have hn7:∀ y,(Value.slice p6 k c6).ownBlock=some y→w6.heap.size≤y:=fun y hy=>Nat.le_trans HBd.out.size (HN.out.2.1 y hy)
   have hB6:=HB5.out.size
   refine rds_yes (((zBH HB5.out).trans (zBH hB7) fun _ _ h=>h).trans (Chg.setCell w7 ⟨j,8,none⟩ _) fun x _ e=>by rw [show x=j from e];exact hnw j (.inl hJ.oj)) ⟨_,C1,gv,dv,_,vs.take k,hJ.list (es':=M.entries.take k) (vs':=vs.take k) (C':=C1) ((Chg.of_below hB7).mono fun _ _ h=>h.elim) (by rw [Ht.out];exact HN.out.1) (fun y hy=>.inr (hn7 y hy)) (by rw [List.length_take,List.length_take,hJ.rlen]) (fun i e v he hv=>?_) (fun u hu y hy=>hJ.cv u (List.mem_of_mem_take hu) y hy) (fun _ h=>h) (fun y hy=>⟨.inl hy,Nat.lt_of_lt_of_le (hJ.clt y hy) hB7.size,fun e=>by have h1:=hn7 y e;have h2:=hJ.clt y hy;omega⟩) ⟨?_,hJ.ok.term,hJ.ok.group,hJ.ok.now,hJ.ok.vote,hJ.ok.data,fun e he=>hJ.ok.ents e (List.mem_of_mem_take he)⟩,fun y hy=>?_⟩ (by rw [Hb8.out];exact HM3.out)
   ·rw [List.getElem?_take] at he hv
    split at he
    ·rw [if_pos (by assumption)] at hv
     exact (hJ.rows i e v he hv).below hB7
    ·cases he
   ·have h1:=hJ.ok.last
    unfold JouM.last at h1 ⊢
    show M.number+(M.entries.take k).length≤_
    rw [Ht.out]
    have h2:=Hn8.out
    omega
   ·rcases hy with (hy | hy) | hy
    ·exact .inl (hnw y (.inl hy))
    ·exact .inr (Nat.le_trans hB6 (hn7 y hy))
    ·exact .inl (hnw y (.inr hy)))
  go_wp2_with fail
  go_ret
  exact HE.out
theorem rds_k3 (h:zBI S w1 j r pre M) {p:Option Addr} {n c:Nat} {l:Bs} (hx:HasB w1 (.slice p n c) (3 :: l)) (hcap:n≤c) (hl:n≤1073741824) (hlt:∀ k,(Value.slice p n c).ownBlock=some k→k < w1.heap.size) (hmx:M.entries.length≤1073741824) :
  Calls Tryz.prog 89 #[.pointer (some ⟨j,0,none⟩),.slice p n c,.bool false] w1 (zCi S w1 j r pre (rec1 false M (3 :: l))):=by
 obtain ⟨i4,hi4,hz40,hz41,hz42⟩:=info_parts (show (Tryz.prog.info? 50).map (fun i=>(i.zero,i.size,i.bytes))=some (some (.agg #[.int .i64 0,.int .i64 0,.slice none 0 0,.slice none 0 0]),4,64) by kernel_rfl)
 have hll:l.length≤1073741824:=by
  obtain ⟨_,_,e⟩:=hx.slice
  simp only [Value.slice.injEq,List.length_cons] at e
  omega
 have HR0:=zh (zEL (w:=w1) hx hcap hlt (by omega))
 have HF:=zh (zDw HR0.out)
 have HJ:=zh h
 have HBq:=zh (zAD w1 (.cells #[.slice p n c,.bool false] 148))
 clear HR0
 have HM:=zh (show rec1 false M (3 :: l)=(if ((Rd.num ⟨l,false⟩).2.num.2.num.2.bytes.2.grp anyG).2.whole∧(Rd.num ⟨l,false⟩).1=M.last+1∧(Rd.num ⟨l,false⟩).1≤1099511627776∧zAs ⟨((Rd.num ⟨l,false⟩).2.num.1:Int),((Rd.num ⟨l,false⟩).2.num.2.num.1:Int),(Rd.num ⟨l,false⟩).2.num.2.num.2.bytes.1,((Rd.num ⟨l,false⟩).2.num.2.num.2.bytes.2.grp anyG).1⟩ then
    some { M with entries:=M.entries ++ [⟨((Rd.num ⟨l,false⟩).2.num.1:Int),((Rd.num ⟨l,false⟩).2.num.2.num.1:Int),(Rd.num ⟨l,false⟩).2.num.2.num.2.bytes.1,((Rd.num ⟨l,false⟩).2.num.2.num.2.bytes.2.grp anyG).1⟩] } else none) from rfl)
 have hm1:=Rd.num_le ⟨l,false⟩
 have hrl:(Rd.num ⟨l,false⟩).2.rest.length≤1073741824:=Nat.le_trans (Rd.num_rest _) hll
 generalize rec1 false M (3 :: l)=O at *
 have hlast:=h.ok.last
 have Hml:=zh (show M.last=M.number+M.entries.length from rfl)
 have HA:=zh hlt
 clear h hx hl hcap hlt
 go_enter Tryz.func89,Tryz.ntmps89
 go_wp2_with fail
 generalize hWq:w1.alloc (.cells #[.slice p n c,.bool false] 148)=Wq at *
 refine HF.out.mono ?_
 rintro e w3 ⟨g,q,rfl,hg,hgl,hr3,hc3⟩
 have HB3:=zh (show Below w1.heap.size w1 w3 from HBq.out.trans (hc3.below HBq.out.size fun i hi e=>by omega))
 have HJ3:=zh (HJ.out.below HB3.out)
 have HR3:=zh hr3
 have HG3:=zh hgl
 have hb3:=hr3.c1
 have hkc:w3.cell? ⟨g,0,none⟩=some (.int .u8 3):=hg
 clear hr3 hc3 HF hg hgl
 go_wp2_with fail
 have HN1:=zh (zAv HR3.out)
 refine HN1.out.mono ?_
 rintro e w4 ⟨rfl,hr4,hc4⟩
 have HB4:=zh (show Below w1.heap.size w1 w4 from HB3.out.trans (hc4.below HB3.out.size fun i hi e=>by omega))
 have HR4:=zh hr4
 clear hr4 hc4 HN1
 have hs4:=HB4.out.size
 have HRe:=zh (rrdent_calls HR4.out (fun k hk=>⟨by have:=HA.out k hk;omega,fun e=>by have:=HA.out k hk;omega⟩) hrl)
 have HEq:=zh (fun e R' (hR:REntR (Rd.num ⟨l,false⟩).2 e R')=>rent_whole hR)
 generalize (Rd.num ⟨l,false⟩).1=z at *
 generalize (Rd.num ⟨l,false⟩).2=R1 at *
 go_wp2_with fail
 refine HRe.out.mono ?_
 rintro x w5 ⟨e,⟨v1,v2⟩,R',rfl,hRR,hEH,hEN,hr5,hc5⟩
 have HB5:=zh (show Below w1.heap.size w1 w5 from HB4.out.trans (hc5.below HB4.out.size fun i hi e=>by omega))
 have hE:=HEq.out e R' hRR
 have HWE:=zh hE
 have HM2:=zh (show O=if R'.whole=true∧z=M.last+1∧z≤1099511627776 then some { M with entries:=M.entries ++ [e] } else none from by
  rw [HM.out]
  by_cases hw:R'.whole=true
  ·have h1:=hE.1.1 hw
   have h2:=hE.2 hw
   by_cases hc:z=M.last+1∧z≤1099511627776
   ·rw [if_pos ⟨h1.1,hc.1,hc.2,h1.2⟩,if_pos ⟨hw,hc⟩,← h2]
   ·rw [if_neg (fun e=>hc ⟨e.2.1,e.2.2.1⟩),if_neg (fun e=>hc e.2)]
  ·rw [if_neg (fun e=>hw (hE.1.2 ⟨e.1,e.2.2.2⟩)),if_neg (fun e=>hw e.1)])
 have HIE:=zh (show R'.whole=true→zAs e=true from fun hw=>by rw [hE.2 hw];exact (hE.1.1 hw).2)
 obtain ⟨p1,c1,e1⟩:=hEH.data.slice
 obtain ⟨p2,c2,e2⟩:=hEH.nodes.slice
 have e1:v1=.slice p1 e.data.length c1:=e1
 have e2:v2=.slice p2 e.nodes.length c2:=e2
 subst e1
 subst e2
 have Hdl:=zh (And.intro hEH.dl hEH.nl)
 generalize hn1:e.data.length=n1 at *
 generalize hn2:e.nodes.length=n2 at *
 have Hn12:=zh (And.intro hn1 hn2)
 have HbE:=zh (zAD w5 (.cells #[.int .i64 e.term,.int .i64 e.kind,.slice p1 n1 c1,.slice p2 n2 c2] 50))
 have HqE:=zh (zAI w5 (.cells #[.int .i64 e.term,.int .i64 e.kind,.slice p1 n1 c1,.slice p2 n2 c2] 50))
 have HR6:=zh (hr5.below HbE.out)
 have HEH:=zh (hEH.below HbE.out)
 have HEN:=zh hEN
 have HB6:=zh (HB5.out.trans (HbE.out.mono HB5.out.size))
 have HJ6:=zh (HJ.out.below HB6.out)
 have HLa:=zh HJ6.out.last_calls
 have HbE2:=zh (show w5.heap.size < (w5.alloc (.cells #[.int .i64 e.term,.int .i64 e.kind,.slice p1 n1 c1,.slice p2 n2 c2] 50)).heap.size from by simp)
 have hs5:=HB5.out.size
 clear hRR hEH hEN hr5 hc5 hE HM HEq hn1 hn2 HRe
 unfold entV
 go_wp2_with fail
 generalize hbE:w5.heap.size=bE at *
 generalize w5.alloc (.cells #[.int .i64 e.term,.int .i64 e.kind,.slice p1 n1 c1,.slice p2 n2 c2] 50)=w6 at *
 refine HLa.out.mono ?_
 rintro x w7 ⟨rfl,q,rfl⟩
 have HB7:=zh (HB6.out.trans (⟨rfl,rfl,rfl,Nat.le_refl _,fun _ _=>rfl⟩:Below w1.heap.size w6 (w6.drewN q)))
 have HJ7:=zh (HJ6.out.below (⟨rfl,rfl,rfl,Nat.le_refl _,fun _ _=>rfl⟩:Below w6.heap.size w6 (w6.drewN q)))
 have HW7:=zh (zBz (HR6.out.below (⟨rfl,rfl,rfl,Nat.le_refl _,fun _ _=>rfl⟩:Below w6.heap.size w6 (w6.drewN q))))
 have HEH7:=zh (HEH.out.below (⟨rfl,rfl,rfl,Nat.le_refl _,fun _ _=>rfl⟩:Below w6.heap.size w6 (w6.drewN q)))
 have HqE7:=zh (show (w6.drewN q).heap[bE]?=_ from HqE.out)
 have HbE7:=zh (show bE < (w6.drewN q).heap.size from HbE2.out)
 have HNo:=zh (fun (ho:O=none)=>zDr (S:=S) (w1:=w1) (j:=j) (r:=r) (pre:=pre) (zBH HB7.out) ho)
 have hwl:IntKind.i64.wrap ((M.last:Int)+1)=(M.last:Int)+1:=IntWalk.i64_in _ (by omega)
 clear HLa HJ6 HR6 HEH HqE HB6 HbE HbE2
 generalize w6.drewN q=w8 at *
 go_wp2_with fail
 refine HW7.out.mono ?_
 rintro x w9 ⟨rfl,hw89⟩
 obtain rfl:=hw89.symm
 cases hw:R'.whole with
 | false =>
  have HE:=zh (HNo.out (by rw [HM2.out,hw];simp))
  clear hw
  go_wp2_with fail
  go_ret
  exact HE.out
 | true =>
  have Hie:=zh (HIE.out hw)
  have HM3:=zh (show O=if z=M.last+1∧z≤1099511627776 then some { M with entries:=M.entries ++ [e] } else none from by rw [HM2.out,hw];simp)
  clear hw
  by_cases h1:z=M.last+1
  ·have d1:((z:Int) != (M.last:Int)+1)=false:=by simp;omega
   by_cases h2:z≤1099511627776
   ·have d2:decide ((1099511627776:Int) < (z:Int))=false:=decide_eq_false (by omega)
    have d2n:decide (1099511627776 < z)=false:=decide_eq_false (by omega)
    have HM4:=zh (show O=some { M with entries:=M.entries ++ [e] } from by rw [HM3.out,if_pos ⟨h1,h2⟩])
    have Hz:=zh (show M.last+1≤1099511627776 from by omega)
    obtain ⟨O1,C1,gv,dv,ev,vs,hJ1,hnw⟩:=HJ.out
    have hJ:=hJ1.below HB7.out
    obtain ⟨pe,ce,hev8⟩:=hJ.row.shape
    have t8:w8.cell? ⟨j,8,none⟩=some (.slice pe M.entries.length ce):=by rw [← hev8];exact hJ.c 8 rfl
    have k0:=zAA HqE7.out (i:=0) rfl
    have k1:=zAA HqE7.out (i:=1) rfl
    have k2:=zAA HqE7.out (i:=2) rfl
    have k3:=zAA HqE7.out (i:=3) rfl
    have hbO:∀ x,O1 x∨C1 x→x≠bE:=fun x hx=>by have:=hx.elim (hJ1.olt x) (hJ1.clt x);omega
    have Hrow8:=zh (fun W (hb:Below w8.heap.size w8 W)=>show OwnR W 50 4 (.slice pe M.entries.length ce) M.entries.length (zA1 M.entries vs) from by rw [← hev8];exact hJ.row.keep fun y hy=>hb.block y (OwnR.lt hJ.row hy))
    have Hjl:=zh (show j < w8.heap.size∧(Value.slice pe M.entries.length ce).ownBlock≠some j from ⟨hJ.olt j hJ.oj,fun e=>(hJ.oe j (by rw [hev8];exact e)).2 rfl⟩)
    have Hbl:=zh (show bE < w8.heap.size∧(Value.slice pe M.entries.length ce).ownBlock≠some bE from ⟨HbE7.out,fun e=>hbO bE (.inl (hJ.oe bE (by rw [hev8];exact e)).1) rfl⟩)
    have Hfr8:=zh (fun (W:World) (hj:W.heap[j]?=w8.heap[j]?)=>zAF (hj.trans hJ.cells) 8)
    have HX:=zh (And.intro hJ1 (And.intro hnw hev8))
    have HBd:=zh (⟨rfl,rfl,rfl,Nat.le_refl _,fun _ _=>rfl⟩:Below w8.heap.size w8 w8.drew)
    clear hJ hJ1 hnw hev8 hbO h1 h2
    generalize hne:M.entries.length=ne at *
    have Hne:=zh hne
    clear hne
    go_wp2_with fail
    refine zDm [10] (fun w':World=>w'.cell? ⟨j,8,none⟩=some (.slice pe ne ce)∧w'.cell? ⟨bE,0,none⟩=some (.int .i64 e.term)∧w'.cell? ⟨bE,1,none⟩=some (.int .i64 e.kind)∧w'.cell? ⟨bE,2,none⟩=some (.slice p1 n1 c1)∧w'.cell? ⟨bE,3,none⟩=some (.slice p2 n2 c2)) (n:=11) (by kernel_rfl) rfl (⟨t8,k0,k1,k2,k3⟩) (fun hHeld=>?_)
    generalize w8.drew=W1 at *
    refine gtk 0 (v:=?v2x0) rfl ?_
    simp only [Act.put,uA,uB,uC]
    refine gtk 1 (v:=?v2x1) rfl ?_
    simp only [Act.put,uA,uB,uC]
    refine gtk 2 (v:=?v2x2) rfl ?_
    simp only [Act.put,uA,uB,uC]
    refine gtk 3 (v:=?v2x3) rfl ?_
    simp only [Act.put,uA,uB,uC]
    refine gtk 4 (v:=?v2x4) rfl ?_
    simp only [Act.put,uA,uB,uC]
    refine gtk 5 (v:=?v2x5) rfl ?_
    simp only [Act.put,uA,uB,uC]
    refine zEg 6 rfl (by kernel_rfl) (by rfl) (fun K hK=>?_)
    have hba:=zAD W1 (.cells #[.int .i64 e.term,.int .i64 e.kind,.slice p1 n1 c1,.slice p2 n2 c2] 50)
    have Hh10:=zh (And.intro (zAJ hHeld.1 hba) (And.intro (zAJ hHeld.2.1 hba) (And.intro (zAJ hHeld.2.2.1 hba) (And.intro (zAJ hHeld.2.2.2.1 hba) (zAJ hHeld.2.2.2.2 hba)))))
    have HBa:=zh hba
    clear hba
    go_wp2_with fail
    refine hK.out _ _ (Hh10.out) (fun hHeld=>?_)
    clear hK
    try simp only [Act.put,uA,uB,uC]
    refine zEg 7 rfl (by kernel_rfl) (by rfl) (fun K hK=>?_)
    have Hal:=zh (Hrow8.out _ (HBd.out.trans (HBa.out.mono HBd.out.size)))
    have Hxx:=zh (holds_lit W1 #[.int .i64 e.term,.int .i64 e.kind,.slice p1 n1 c1,.slice p2 n2 c2] _ 4 1 1 rfl rfl 50 (0,0))
    refine zAj (.tmp 169) (.tmp 171) 78 rfl 50 i4 (.agg #[.int .i64 0,.int .i64 0,.slice none 0 0,.slice none 0 0]) 4 64 Tryz.underlying78 hi4 hz40 hz41 hz42 rfl (by decide) (.slice pe ne ce) ne _ rfl Hal.out (.slice (some ⟨W1.heap.size,0,none⟩) 1 1) 1 _ rfl Hxx.out (fun u hu=>by simp at hu;rcases hu with rfl | rfl | rfl | rfl <;> rfl) (by unfold maxLen;omega) (by omega) ?_
    intro v10 w10 hown hgrow hloc
    have HN:=zh (And.intro hown (And.intro hgrow hloc))
    have hbl:=fun (x:Nat) (hx:x < w8.heap.size) (hne:(Value.slice pe ne ce).ownBlock≠some x)=>show w10.heap[x]?=w8.heap[x]? from ((Chg.of_grown hgrow).block x (Nat.lt_of_lt_of_le hx (Nat.le_trans HBd.out.size HBa.out.size)) (fun e=>hne e.symm)).trans ((HBd.out.trans (HBa.out.mono HBd.out.size)).block x hx)
    have hjc:=hbl j Hjl.out.1 Hjl.out.2
    have hec:=hbl bE Hbl.out.1 Hbl.out.2
    obtain ⟨p10,c10,rfl⟩:=OwnR.shape hown
    have Hh11:=zh (And.intro ((World.cell?_of_block (a:=⟨j,8,none⟩) hjc).trans t8) (And.intro ((World.cell?_of_block (a:=⟨bE,0,none⟩) hec).trans k0) (And.intro ((World.cell?_of_block (a:=⟨bE,1,none⟩) hec).trans k1) (And.intro ((World.cell?_of_block (a:=⟨bE,2,none⟩) hec).trans k2) ((World.cell?_of_block (a:=⟨bE,3,none⟩) hec).trans k3)))))
    have f8:=Hfr8.out w10 hjc
    clear hown hgrow hloc Hal Hxx hjc hec hbl
    go_wp2_with fail
    refine hK.out _ _ (Hh11.out) (fun hHeld=>?_)
    clear hK
    try simp only [Act.put,uA,uB,uC]
    refine gpu 8 (v:=?v2x8) rfl ?_
    simp only [Act.put,uA,uB,uC]
    refine gpu 9 (v:=?v2x9) rfl ?_
    simp only [Act.put,uA,uB,uC]
    refine g_end 10 rfl (by kernel_rfl) (by rfl) (by kernel_rfl) (fun K hK=>?_)
    have s8:=Hh11.out.1
    go_wp2_with fail
    refine hK.out _ _ ?_
    clear hK
    try simp only [Act.put,uA,uB,uC]
    refine g_done (by kernel_rfl) ?_ _
    have HE:=zh (show zCi S w1 j r pre O (.returned (.bool true)) (w10.setCell ⟨j,8,none⟩ (.slice p10 (ne+1) c10)) from by
     obtain ⟨hJ,hnw,hev8⟩:=HX.out
     obtain ⟨hown,hgrow,hloc⟩:=HN.out
     rw [← hev8] at hgrow hloc
     have hBa:Below w8.heap.size w8 (W1.alloc (.cells #[.int .i64 e.term,.int .i64 e.kind,.slice p1 n1 c1,.slice p2 n2 c2] 50)):=HBd.out.trans (HBa.out.mono HBd.out.size)
     have hsa:=HBa.out.size
     have hsd:=HBd.out.size
     have hs8:w8.heap.size≤W1.heap.size:=hsd
     have hC8:Chg (fun y=>ev.ownBlock=some y) w8 w10:=((Chg.of_below hBa).mono fun _ _ h=>h.elim).trans ((Chg.of_grown hgrow).mono fun _ _ h=>h.symm) fun _ _ h=>h
     have hC:Chg (fun y=>ev.ownBlock=some y) w1 w10:=((Chg.of_below HB7.out).mono fun _ _ h=>h.elim).trans hC8 fun _ _ h=>h
     have hB8:=HB7.out.size
     have hnew:∀ y,(Value.slice p10 (ne+1) c10).ownBlock=some y→(ev.ownBlock=some y∨w8.heap.size≤y):=fun y hy=>by
      rcases hloc with e3 | ⟨g3,e3,hg3⟩
      ·exact .inl (e3 ▸ hy)
      ·rw [e3] at hy
       cases hy
       exact .inr (by omega)
     have hel:M.entries.length=ne:=Hne.out
     have hul:vs.length=M.entries.length:=hJ.rlen
     have hEb:∀ y,((Value.slice p1 n1 c1).ownBlock=some y∨(Value.slice p2 n2 c2).ownBlock=some y)→w4.heap.size≤y∧y < bE:=HEN.out
     have hb4:=HB4.out.size
     have hbE8:=HbE7.out
     have hevlt:∀ y,ev.ownBlock=some y→y < w1.heap.size:=fun y hy=>OwnR.lt hJ.row hy
     refine rds_yes ((hC.mono (T:=fun y=>ev.ownBlock=some y∨y=j) fun _ _ q=>.inl q).trans (Chg.setCell w10 ⟨j,8,none⟩ (.slice p10 (ne+1) c10)) (fun x _ q=>.inr q) |>.mono (T:=S) fun x hx hq=>?_) ⟨_,_,gv,dv,_,_,hJ.list (es':=M.entries ++ [e]) (vs':=vs ++ [(.slice p1 n1 c1,.slice p2 n2 c2)]) (C':=fun y=>C1 y∨((Value.slice p1 n1 c1).ownBlock=some y∨(Value.slice p2 n2 c2).ownBlock=some y)) hC ?_ (fun y hy=>(hnew y hy).imp id fun h=>by omega) (by rw [List.length_append,List.length_append,hul];rfl) (fun i e' v' he' hv'=>?_) (fun u hu y hy=>?_) (fun _ h=>.inl h) (fun y hy=>?_) ⟨?_,hJ.ok.term,hJ.ok.group,hJ.ok.now,hJ.ok.vote,hJ.ok.data,fun e' he'=>?_⟩,fun y hy=>?_⟩ HM4.out
     ·rcases hq with hq | hq
      ·exact hnw x (.inl (hJ.oe x hq).1)
      ·rw [hq]
       exact hnw j (.inl hJ.oj)
     ·rw [entsC_app _ _ _ _ hul,List.length_append,hel]
      exact hown
     ·by_cases hi:i < ne
      ·rw [List.getElem?_append_left (by rw [hel];exact hi)] at he'
       rw [List.getElem?_append_left (by rw [hul,hel];exact hi)] at hv'
       exact (hJ.rows i e' v' he' hv').keep fun y hy=>hC.block y (hJ.clt y (hJ.cv v' (List.mem_of_getElem? hv') y hy)) fun e3=>hJ.dis y (hJ.cv v' (List.mem_of_getElem? hv') y hy) (hJ.oe y e3).1
      ·have hi2:=(List.getElem?_eq_some_iff.1 he').1
       rw [List.length_append,hel,List.length_singleton] at hi2
       obtain rfl:i=ne:=by omega
       rw [List.getElem?_append_right (by rw [hel];exact Nat.le_refl _),hel,Nat.sub_self] at he'
       rw [List.getElem?_append_right (by rw [hul,hel];exact Nat.le_refl _),hul,hel,Nat.sub_self] at hv'
       cases he'
       cases hv'
       exact HEH7.out.keep fun y hy=>hC8.block y (by have:=hEb y hy;omega) fun e3=>by
        have h1:=hevlt y e3
        have h2:=hEb y hy
        omega
     ·rcases List.mem_append.1 hu with hu | hu
      ·exact .inl (hJ.cv u hu y hy)
      ·rw [List.mem_singleton.1 hu] at hy
       exact .inr hy
     ·rcases hy with hy | hy
      ·refine ⟨.inl hy,Nat.lt_of_lt_of_le (hJ.clt y hy) hC.size,fun e3=>?_⟩
       rcases hnew y e3 with h1 | h1
       ·exact hJ.dis y hy (hJ.oe y h1).1
       ·have:=hJ.clt y hy
        omega
      ·have h2:=hEb y hy
       refine ⟨.inr (by omega),Nat.lt_of_lt_of_le (show y < w8.heap.size by omega) hC8.size,fun e3=>?_⟩
       rcases hnew y e3 with h1 | h1
       ·have:=hevlt y h1
        omega
       ·omega
     ·have h1:=Hz.out
      unfold JouM.last at h1 ⊢
      show M.number+(M.entries ++ [e]).length≤_
      rw [List.length_append,List.length_singleton]
      omega
     ·rcases List.mem_append.1 he' with he' | he'
      ·exact hJ.ok.ents e' he'
      ·rw [List.mem_singleton.1 he']
       exact Hie.out
     ·rcases hy with (hy | hy) | (hy | hy)
      ·exact .inl (hnw y (.inl hy))
      ·rcases hnew y hy with h1 | h1
       ·exact .inl (hnw y (.inl (hJ.oe y h1).1))
       ·exact .inr (by omega)
      ·exact .inl (hnw y (.inr hy))
      ·exact .inr (by have:=hEb y hy;omega))
    go_wp2_with fail
    go_ret
    exact HE.out
   ·have d2:decide ((1099511627776:Int) < (z:Int))=true:=decide_eq_true (by omega)
    have d2n:decide (1099511627776 < z)=true:=decide_eq_true (by omega)
    have HE:=zh (HNo.out (by rw [HM3.out,if_neg (fun e=>h2 e.2)]))
    clear h1 h2
    go_wp2_with fail
    go_ret
    exact HE.out
  ·have d1:((z:Int) != (M.last:Int)+1)=true:=by simp;omega
   have HE:=zh (HNo.out (by rw [HM3.out,if_neg (fun e=>h1 e.1)]))
   clear h1
   go_wp2_with fail
   go_ret
   exact HE.out
end
theorem rreads_calls {S:Nat→Prop} {w1:World} {j r:Nat} {pre:ByteArray} {M:JouM} (h:zBI S w1 j r pre M) (f:Bool) (he:f=true→M.entries=[]) {p:Option Addr} {n c:Nat} {b:Bs} (hx:HasB w1 (.slice p n c) b) (hcap:n≤c) (hl:n≤1073741824) (hlt:∀ k,(Value.slice p n c).ownBlock=some k→k < w1.heap.size) (hpj:∀ k,(Value.slice p n c).ownBlock=some k→k≠j) (hmx:M.entries.length≤1073741824) :
  Calls Tryz.prog 89 #[.pointer (some ⟨j,0,none⟩),.slice p n c,.bool f] w1 (zCi S w1 j r pre (rec1 f M b)):=by
 have hn:n=b.length:=by
  obtain ⟨_,_,e⟩:=hx.slice
  simp only [Value.slice.injEq] at e
  exact e.2.1
 cases b with
 | nil =>
  subst hn
  exact rds_nil h f hx hlt
 | cons k l =>
  by_cases h1:f≠decide (k=1)
  ·exact rds_else h hx hcap hl hlt (.inl h1)
  ·have h1:f=decide (k=1):=by simpa using h1
   by_cases hk1:k=1
   ·subst hk1
    rw [h1]
    exact rds_k1 h hx hcap hl hlt (he (by rw [h1];rfl)) hpj
   ·rw [decide_eq_false hk1] at h1
    subst h1
    by_cases hk2:k=2
    ·subst hk2
     exact rds_k2 h hx hcap hl hlt
    ·by_cases hk3:k=3
     ·subst hk3
      exact rds_k3 h hx hcap hl hlt hmx
     ·by_cases hk4:k=4
      ·subst hk4
       exact rds_k4 h hx hcap hl hlt
      ·exact rds_else h hx hcap hl hlt (.inr ⟨hk1,hk2,hk3,hk4⟩)
end Go.Proofs.YtapfnehdgailmaaGreat
