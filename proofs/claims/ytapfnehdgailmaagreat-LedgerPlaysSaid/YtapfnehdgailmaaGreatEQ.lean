/- The document's ledger: entries. (Printed by mkrl4.py.) ledger: Open. -/
import Derived.Test.YtapfnehdgailmaaGreatEL
import Derived.Test.YtapfnehdgailmaaGreatEM
import Derived.Test.YtapfnehdgailmaaGreatEO
set_option maxRecDepth 100000
set_option maxHeartbeats 64000000
namespace Go.Proofs.YtapfnehdgailmaaGreat
open Go.RowKit Go.Sat Go.Maps
theorem LRIn.push {w1 w2 w3:World} {l r:Nat} {pre:ByteArray} {O C:Nat→Prop} {M:LedM} {dv ev u v3:Value} {vs:List Value} {x:Bs} (h:LRIn w1 l r pre O C M dv ev vs) (hb:Below w1.heap.size w1 w2) (hu:HasB w2 u x) (huo:∀ k,u.ownBlock=some k→w1.heap.size≤k∧k < w2.heap.size)
  (hown:OwnR w3 22 1 v3 (M.entries.length+1) (vs ++ [u])) (hgrow:w2.grownBy w3 ev.ownBlock) (hloc:v3.ownBlock=ev.ownBlock∨∃ g,v3.ownBlock=some g∧w2.heap.size≤g) (hlast:M.last+1≤1099511627776) (hx:x.length≤1073741824) :
  LRIn (w3.setCell ⟨l,4,none⟩ v3) l r pre (fun k=>O k∨v3.ownBlock=some k) (fun k=>C k∨u.ownBlock=some k) { M with entries:=M.entries ++ [x] } dv v3 (vs ++ [u])∧(∀ k,v3.ownBlock=some k→O k∨w1.heap.size≤k)∧Chg O w1 (w3.setCell ⟨l,4,none⟩ v3):=by
 have hs:=hb.size
 have hl1:=h.olt l h.oj
 have hg:=Chg.of_grown hgrow
 have hgs:=hg.size
 have hsz:(w3.setCell ⟨l,4,none⟩ v3).heap.size=w3.heap.size:=by simp [World.setCell]
 have hev:∀ k,ev.ownBlock=some k→k < w1.heap.size:=fun k hk=>h.olt k (h.oe k hk).1
 have hv3:∀ k,v3.ownBlock=some k→ev.ownBlock=some k∨w2.heap.size≤k:=fun k hk=>by
  rcases hloc with e | ⟨g,e,hge⟩
  ·exact .inl (e ▸ hk)
  ·rw [hk] at e
   cases e
   exact .inr hge
 have hold:∀ k,k < w2.heap.size→k≠l→ev.ownBlock≠some k→(w3.setCell ⟨l,4,none⟩ v3).heap[k]?=w2.heap[k]?:=fun k hk hne he=>(zAE _ hne).trans (hg.block k hk fun e=>he e.symm)
 have hold1:∀ k,k < w1.heap.size→k≠l→ev.ownBlock≠some k→(w3.setCell ⟨l,4,none⟩ v3).heap[k]?=w1.heap[k]?:=fun k hk hne he=>(hold k (by omega) hne he).trans (hb.block k hk)
 have hC:∀ k,C k→(w3.setCell ⟨l,4,none⟩ v3).heap[k]?=w1.heap[k]?:=fun k hk=>hold1 k (h.clt k hk) (fun e=>h.dis k hk (e ▸ h.oj)) fun e=>h.dis k hk (h.oe k e).1
 have hcell3:w3.heap[l]?=some (LRC r pre (M.base:Int) dv ev M.dead):=((hg.block l (by omega) fun e=>(h.oe l e.symm).2 rfl).trans (hb.block l hl1)).trans h.cells
 have hvl:vs.length=M.entries.length:=h.rlen
 have hnew:∀ k,v3.ownBlock=some k→O k∨w1.heap.size≤k:=fun k hk=>(hv3 k hk).elim (fun e=>.inl (h.oe k e).1) fun e=>.inr (by omega)
 refine ⟨{
  cells:=by simpa using zAO hcell3 4 v3
  data:=zAY.keep h.data fun k hk=>hC k (h.cd k hk)
  row:=by
   show OwnR _ _ _ _ (M.entries ++ [x]).length _
   rw [List.length_append]
   exact hown.keep fun k hk=>zAE _ fun e=>(hv3 k hk).elim (fun e2=>(h.oe k e2).2 e) fun e2=>by have e3:k=l:=e;omega
  rows:=fun i e v he hv=>by
   by_cases hi:i < M.entries.length
   ·rw [List.getElem?_append_left hi] at he
    rw [List.getElem?_append_left (by omega)] at hv
    exact zAY.keep (h.rows i e v he hv) fun k hk=>hC k (h.cv v (List.mem_of_getElem? hv) k hk)
   ·rw [List.getElem?_append_right (by omega)] at he hv
    rw [hvl] at hv
    cases hj:i - M.entries.length with
    | succ j=>rw [hj] at he;simp at he
    | zero =>
     rw [hj] at he hv
     simp only [List.getElem?_cons_zero,Option.some.injEq] at he hv
     subst he
     subst hv
     exact zAY.keep hu fun k hk=>hold k (huo k hk).2 (fun e=>by have:=(huo k hk).1;omega) fun e=>by have:=hev k e;have:=(huo k hk).1;omega
  oj:=.inl h.oj
  oe:=fun k hk=>⟨.inr hk,fun e=>(hv3 k hk).elim (fun e2=>(h.oe k e2).2 e) fun e2=>by omega⟩
  cd:=fun k hk=>.inl (h.cd k hk)
  cv:=fun z hz k hk=>by
   rcases List.mem_append.1 hz with hz | hz
   ·exact .inl (h.cv z hz k hk)
   ·rw [List.mem_singleton] at hz
    exact .inr (hz ▸ hk)
  dis:=fun k hk ho=>by
   rcases hk with hk | hk
   ·rcases ho with ho | ho
    ·exact h.dis k hk ho
    ·rcases hv3 k ho with e | e
     ·exact h.dis k hk (h.oe k e).1
     ·have:=h.clt k hk
      omega
   ·have hu1:=huo k hk
    rcases ho with ho | ho
    ·have:=h.olt k ho
     omega
    ·rcases hv3 k ho with e | e
     ·have:=hev k e
      omega
     ·omega
  olt:=fun k hk=>by
   rw [hsz]
   rcases hk with hk | hk
   ·have:=h.olt k hk
    omega
   ·exact OwnR.lt hown hk
  clt:=fun k hk=>by
   rw [hsz]
   rcases hk with hk | hk
   ·have:=h.clt k hk
    omega
   ·have:=(huo k hk).2
    omega
  psz:=h.psz
  last:=by
   show M.base+(M.entries ++ [x]).length≤_
   rw [List.length_append]
   exact hlast
  big:=⟨h.big.1,fun b hb=>(List.mem_append.1 hb).elim (h.big.2 b) fun e=>by rw [List.mem_singleton] at e;rw [e];exact hx⟩ },hnew,?_⟩
 exact ((Chg.of_below hb).mono fun _ _ e=>e.elim:Chg O w1 w2).trans ((hg.mono fun k _ e=>(h.oe k e.symm).1:Chg O w2 w3).trans (Chg.setCell w3 ⟨l,4,none⟩ v3) fun k _ e=>by have e2:k=l:=e;rw [e2];exact h.oj) fun _ _ e=>e
def LEnts (w:World) (F:Nat→Prop) (l r:Nat) (pre:ByteArray) (own:Nat→Prop) (W:World) (D:zAA) (base:Nat) (data:Bs) (o:Option (Int × List Bs)) (q:Nat) (e:Ending) (w':World):Prop :=
 match o with
 | none=>e=.returned (.tuple #[.int .i64 3,.int .i64 0])∧∃ own',RefAt w' r D own'∧Chg own w w'∧∀ k,own' k→own k∨w.heap.size≤k
 | some s=>e=.returned (.tuple #[.int .i64 0,.int .i64 (q:Int)])∧LOS w F l r pre own w' D ⟨base,data,s.2,false⟩∧Same F W w'
def EntRel (S:Nat→Prop) (w2:World) (l r:Nat) (pre:ByteArray) (base:Nat) (data:Bs) (rows:List Bs) (n:Nat) (x y:Value) (wr:World):Prop :=
 ∃ (k z:Nat) (la:Int) (es:List Bs),k≤n∧y=.int .i64 (k:Int)∧x=.int .i64 (z:Int)∧((k=0∧la=-1)∨(0 < k∧la=(z:Int)))∧z≤1099511627776∧zB2 (fun k=>S k∨w2.heap.size≤k) wr l r pre ⟨base,data,es,false⟩∧Chg S w2 wr∧zAh base (-1,[]) rows=zAh base (la,es) (rows.drop k)
theorem lrnew_idx {S:Nat→Prop} {w1:World} {l r:Nat} {pre:ByteArray} {M:LedM} (h:zB2 S w1 l r pre M):w1.cell? ⟨l,2,none⟩=some (.int .i64 (M.base:Int)):=by
 obtain ⟨dv,ev,hc⟩:=h.cells
 exact zAC hc (i:=2) rfl
theorem lrnew_last {S:Nat→Prop} {w1:World} {l r:Nat} {pre:ByteArray} {M:LedM} (h:zB2 S w1 l r pre M):M.last≤1099511627776:=let ⟨_,_,_,_,_,hJ,_⟩:=h;hJ.last
theorem los_entries {w W:World} {F own:Nat→Prop} {l r:Nat} {pre:ByteArray} {D:zAA} {base:Nat} {data:Bs} (h:LOS w F l r pre own W D ⟨base,data,[],false⟩) {p:Option Addr} {nb c:Nat} {b:Bs} (hx:HasB W (.slice p nb c) b) (hcap:nb≤c) (hl:b.length≤1073741824) :
  Calls Tryz.prog 178 #[.pointer (some ⟨l,0,none⟩),.slice p nb c] W (LEnts w F l r pre own W D base data (zAh base (-1,[]) (scan b).1) (scan b).2):=by
 obtain ⟨i0,hi,hz0,hz1,hz2⟩:=info_parts (show (Tryz.prog.info? 22).map (fun i=>(i.zero,i.size,i.bytes))=some (some (.slice none 0 0),1,24) by kernel_rfl)
 obtain ⟨S,hN,hSF,hgood,hbad⟩:=los_new h
 have Hgood:=zh hgood
 have Hbad:=zh hbad
 have Hsc:=zh (rscan_calls hx hcap hl)
 have HN:=zh hN
 have hlS:=hN.lt
 have hSl:=fun k hk=>(hSF k hk).1
 have Hrl:=zh (show ∀ x ∈ (scan b).1,x.length≤1073741824 from fun x hx=>scan_row hl rfl hx)
 have hbl:=lrnew_last hN
 have hb40:base≤1099511627776:=by simpa [LedM.last] using hbl
 clear hgood hbad hx hcap hN hSF h hbl
 go_enter Tryz.func178,Tryz.ntmps178
 go_wp2_with fail
 refine Hsc.out.mono ?_
 rintro e w2 ⟨v2,vs,rfl,hr2,hn2,hb2⟩
 have HR2:=zh hr2
 have HN2:=zh hn2
 have HB2:=zh hb2
 have HL2:=zh ((HN.out.below hb2).wide (T:=fun k=>S k∨w2.heap.size≤k) fun _ h=>.inl h)
 have hs2:=hb2.size
 obtain ⟨pr,cr,rfl⟩:=OwnR.shape hr2.row
 have HBd:=zh (fun (wr:World) (hc:Chg S w2 wr) (ho:zAh base (-1,[]) (scan b).1=none)=>show LEnts w F l r pre own W D base data (zAh base (-1,[]) (scan b).1) (scan b).2 (.returned (.tuple #[.int .i64 3,.int .i64 0])) wr from by
  rw [ho]
  exact ⟨rfl,Hbad.out wr (((Chg.of_below HB2.out).mono fun _ _ e=>e.elim:Chg (fun k=>S k∨W.heap.size≤k) W w2).trans hc fun _ _ h=>.inl h)⟩)
 have HGd:=zh (fun (wr:World) (hc:Chg S w2 wr) (la:Int) (es:List Bs) (hn:zB2 (fun k=>S k∨w2.heap.size≤k) wr l r pre ⟨base,data,es,false⟩) (ho:zAh base (-1,[]) (scan b).1=some (la,es))=>show LEnts w F l r pre own W D base data (zAh base (-1,[]) (scan b).1) (scan b).2 (.returned (.tuple #[.int .i64 0,.int .i64 ((scan b).2:Int)])) wr from by
  rw [ho]
  exact ⟨rfl,Hgood.out wr _ (hn.wide fun k hk=>hk.imp id fun h=>Nat.le_trans HB2.out.size h) (((Chg.of_below HB2.out).mono fun _ _ e=>e.elim:Chg (fun k=>S k∨W.heap.size≤k) W w2).trans hc fun _ _ h=>.inl h)⟩)
 generalize hq:(scan b).2=q at *
 generalize hrows:(scan b).1=rows at *
 have hnr:rows.length≤1073741824:=scan_count hl rfl hrows
 generalize hnn:rows.length=n at *
 have Hnn:=zh hnn
 generalize hTell:LEnts w F l r pre own W D base data (zAh base (-1,[]) rows) q=Tell at *
 clear hq hrows hnn hr2 hn2 hb2 Hsc Hgood Hbad HN hl
 go_wp2_with fail
 go_loopw [8,9] (EntRel S w2 l r pre base data rows n) (fun _ y _=>n - (intOf y).toNat)
 case atStart=>exact ⟨0,0,-1,[],Nat.zero_le _,rfl,rfl,.inl ⟨rfl,rfl⟩,Nat.zero_le _,HL2.out,Chg.refl _ _,rfl⟩
 case round =>
  obtain ⟨k,z,la,es,hk,rfl,rfl,hla,hz,hL,hc,htk⟩:=hrel
  by_cases hlt:k < n
  ·have hkl:k < rows.length:=by rw [Hnn.out];exact hlt
   rw [List.drop_eq_getElem_cons hkl,takeAll_cons] at htk
   have hRW:zBC wr (.slice pr n cr) vs rows:=zBC.keep HR2.out fun j hj=>by
    rcases hj with hj | ⟨u,hu,hj⟩
    ·exact hc.block j (OwnR.lt HR2.out.row hj) fun hS=>by have h1:=hSl j hS;have h2:=HN2.out.1 j hj;omega
    ·obtain ⟨cu,hcu⟩:=mem_rows HR2.out hu
     exact hc.block j (OwnR.lt hcu hj) fun hS=>by have h1:=hSl j hS;have h2:=HN2.out.2 u hu j hj;omega
   have hkv:k < vs.length:=by rw [hRW.len];exact hkl
   have hxr:=hRW.has k _ _ (List.getElem?_eq_getElem hkv) (List.getElem?_eq_getElem hkl)
   have hcell:∃ g,pr=some ⟨g,0,none⟩∧wr.cell? ⟨g,k,none⟩=some vs[k]:=by
    rcases hRW.row.2 with ⟨-,h0⟩ | ⟨g,cap,cur,e,-⟩
    ·omega
    ·refine ⟨g,?_,?_⟩
     ·simp only [Value.slice.injEq] at e
      exact e.1
     ·have hc:=hRW.row.cells (g:=g) (by rw [e];rfl) k _ (List.getElem?_eq_getElem hkv)
      rwa [add_zero] at hc
   obtain ⟨g,rfl,hcell⟩:=hcell
   have hx30:=Hrl.out _ (List.getElem_mem hkl)
   obtain ⟨px,cx,hpx,hcapx⟩:=zAv hxr
   rw [hpx] at hxr hcell
   have HT:=zh (show zB1 base (la,es) rows[k]=if (Rd.num ⟨rows[k],false⟩).2.bytes.2.whole=false∨(Rd.num ⟨rows[k],false⟩).1 < 1∨1099511627776 < (Rd.num ⟨rows[k],false⟩).1∨(0≤la∧((Rd.num ⟨rows[k],false⟩).1:Int)≠la+1) then none
    else if (Rd.num ⟨rows[k],false⟩).1≤base then some (((Rd.num ⟨rows[k],false⟩).1:Int),es)
    else if (Rd.num ⟨rows[k],false⟩).1≠base+es.length+1 then none
    else some (((Rd.num ⟨rows[k],false⟩).1:Int),es ++ [(Rd.num ⟨rows[k],false⟩).2.bytes.1]) from rfl)
   have hm1:=Rd.num_le ⟨rows[k],false⟩
   have Hbl:=zh (show (Rd.num ⟨rows[k],false⟩).2.bytes.1.length≤1073741824 from Nat.le_trans (Rd.bytes_len _) (Nat.le_trans (Rd.num_rest _) (by show rows[k].length≤_;exact hx30)))
   have HR0:=zh (rdy_new (w:=wr) hxr.has hcapx (fun k hk=>OwnR.lt hxr hk) (by omega))
   have HBq:=zh (zAb wr (.cells #[.slice px rows[k].length cx,.bool false] 148))
   have HL:=zh hL
   have Hc:=zh hc
   have Htk:=zh htk
   have hls:=lrnew_last hL
   clear hRW hkv hxr hpx hcapx hL hc htk
   generalize zB1 base (la,es) rows[k]=ot at *
   generalize hx:rows[k]=x at *
   clear hx hkl
   generalize hxl:x.length=nx at *
   clear hxl
   go_wp2_with fail
   have HN1:=zh (zDc HR0.out)
   refine HN1.out.mono ?_
   rintro e w3 ⟨rfl,hr3,hc3⟩
   have HB3:=zh (show Below wr.heap.size wr w3 from HBq.out.trans (hc3.below HBq.out.size fun i hi e=>by omega))
   have HNb:=zh (zDw hr3)
   generalize (Rd.num ⟨x,false⟩).2=R3 at *
   generalize (Rd.num ⟨x,false⟩).1=m1 at *
   clear hr3 hc3 HN1 HR0 HBq
   go_wp2_with fail
   refine HNb.out.mono ?_
   rintro e w4 ⟨v4,rfl,hv4,hn4,hr4,hc4⟩
   obtain ⟨p4,c4,rfl,hcap4⟩:=zAv hv4
   have hs3:=HB3.out.size
   have HB4:=zh (show Below wr.heap.size wr w4 from HB3.out.trans (hc4.below hs3 fun i hi e=>by omega))
   have HW:=zh (zDx hr4)
   have HV4:=zh (And.intro hv4 (show ∀ k,(Value.slice p4 R3.bytes.1.length c4).ownBlock=some k→wr.heap.size≤k∧k < w4.heap.size from fun k hk=>⟨Nat.le_trans hs3 (hn4 k hk),OwnR.lt hv4 hk⟩))
   have HL4:=zh (HL.out.below HB4.out)
   have HC4:=zh (Hc.out.trans ((Chg.of_below HB4.out).mono fun _ _ e=>e.elim:Chg S wr w4) fun _ _ h=>h)
   clear hv4 hn4 hr4 hc4 HNb HB3
   generalize R3.bytes.2=R4 at *
   generalize hy:R3.bytes.1=y at *
   clear hy
   generalize hny:y.length=ny at *
   go_wp2_with fail
   refine HW.out.mono ?_
   rintro e w5 ⟨rfl,rfl⟩
   have HNo:=zh (fun (hb:R4.whole=false∨m1 < 1∨1099511627776 < m1∨(0≤la∧(m1:Int)≠la+1))=>HBd.out w5 HC4.out (by rw [Htk.out,HT.out,if_pos hb]))
   have Hno0:=zh (show 0 < k→la=(z:Int) from fun h=>hla.elim (fun e=>by omega) fun e=>e.2)
   have Hno1:=zh (show k=0→la=-1 from fun h=>hla.elim (fun e=>e.2) fun e=>by omega)
   have hw1:IntKind.i64.wrap ((z:Int)+1)=(z:Int)+1:=IntWalk.i64_in _ (by omega)
   have c2:=lrnew_idx HL4.out
   clear HW hla
   by_cases hw:R4.whole=false
   ·have hw':=hw
    have HE:=zh (HNo.out (.inl hw))
    go_wp2_with fail
    all_goals (try go_ret2)
    all_goals exact HE.out
   ·have hw':R4.whole=true:=by simpa using hw
    by_cases hk0:0 < k
    ·have d1:decide ((0:Int) < (k:Int))=true:=decide_eq_true (by omega)
     have hlz:=Hno0.out hk0
     by_cases hz1:(m1:Int)=(z:Int)+1
     ·have d2:((m1:Int) != (z:Int)+1)=false:=by simpa using hz1
      have hno:¬ (0≤la∧(m1:Int)≠la+1):=fun h=>h.2 (by omega)
      clear hz1
      by_cases h3:m1 < 1
      ·have d3:decide ((m1:Int) < 1)=true:=decide_eq_true (by omega)
       have HE:=zh (HNo.out (.inr (.inl h3)))
       go_wp2_with fail
       all_goals (try go_ret2)
       all_goals exact HE.out
      ·have d3:decide ((m1:Int) < 1)=false:=decide_eq_false (by omega)
       by_cases h4:1099511627776 < m1
       ·have d4:decide ((1099511627776:Int) < (m1:Int))=true:=decide_eq_true (by omega)
        have HE:=zh (HNo.out (.inr (.inr (.inl h4))))
        go_wp2_with fail
        all_goals (try go_ret2)
        all_goals exact HE.out
       ·have d4:decide ((1099511627776:Int) < (m1:Int))=false:=decide_eq_false (by omega)
        have HY:=zh (show ot=if m1≤base then some ((m1:Int),es) else if m1≠base+es.length+1 then none else some ((m1:Int),es ++ [y]) from by
         rw [HT.out,if_neg]
         rintro (h | h | h | h)
         ·exact hw h
         ·exact h3 h
         ·exact h4 h
         ·exact hno h)
        by_cases h5:m1≤base
        ·have d5:decide ((m1:Int)≤(base:Int))=true:=decide_eq_true (by omega)
         have HE:=zh (And.intro HL4.out (And.intro HC4.out (show zAh base (-1,[]) rows=zAh base ((m1:Int),es) (rows.drop (k+1)) from by rw [Htk.out,HY.out,if_pos h5])))
         go_wp2_with fail
         go_roundw
         case rel=>exact ⟨k+1,m1,(m1:Int),es,by omega,by go_num,rfl,.inr ⟨by omega,rfl⟩,by omega,HE.out.1,HE.out.2.1,HE.out.2.2⟩
         case measure=>simp [intOf];omega
        ·have d5:decide ((m1:Int)≤(base:Int))=false:=decide_eq_false (by omega)
         have HLc:=zh (HL4.out.last_calls)
         go_wp2_with fail
         refine HLc.out.mono ?_
         rintro e w7 ⟨rfl,q7,rfl⟩
         have HBL:=zh (show LedM.last ⟨base,data,es,false⟩=base+es.length from rfl)
         generalize LedM.last ⟨base,data,es,false⟩=la7 at *
         have hw7:IntKind.i64.wrap ((la7:Int)+1)=(la7:Int)+1:=IntWalk.i64_in _ (by omega)
         have HB6:=zh (show Below wr.heap.size wr (w5.drewN q7) from HB4.out.trans ⟨rfl,rfl,rfl,Nat.le_refl _,fun _ _=>rfl⟩)
         have HO6:=zh (show OwnB (w5.drewN q7) 5 (.slice p4 ny c4) y from OwnR.keep HV4.out.1 fun _ _=>rfl)
         have HO6l:=zh (show ∀ k,(Value.slice p4 ny c4).ownBlock=some k→wr.heap.size≤k∧k < (w5.drewN q7).heap.size from HV4.out.2)
         generalize w5.drewN q7=w6 at *
         by_cases h6:m1=la7+1
         ·have d6:((m1:Int) != (la7:Int)+1)=false:=by simp;omega
          have Hk6:=zh (show zAh base (-1,[]) rows=zAh base ((m1:Int),es ++ [y]) (rows.drop (k+1)) from by rw [Htk.out,HY.out,if_neg h5,if_neg (by have:=HBL.out;omega)])
          have H6:=zh h6
          clear h6
          obtain ⟨O,C,dv,ev,vs8,hJ,hn⟩:=HL.out
          obtain ⟨p8,c8,hev⟩:=hJ.row.shape
          have hev:ev=.slice p8 es.length c8:=hev
          have hm8l:es.length≤1099511627776:=by have:=HBL.out;omega
          have hJ6:=hJ.below HB6.out
          have h8:=hJ6.c 4 rfl
          have hcl:=hJ6.cells
          have HOw:=zh (show OwnR w6 22 1 ev es.length vs8 from hJ6.row)
          rw [hev] at h8
          have HPush:=zh (fun v9 w9 hown hgrow hloc=>(hJ.push (w2:=w6.alloc (.cells #[.slice p4 ny c4] 22)) (w3:=w9) (v3:=v9) (HB6.out.trans ((zAJ w6 _).mono HB6.out.size)) (HO6.out.has.below (zAJ w6 _)) (fun k hk=>⟨(HO6l.out k hk).1,Nat.lt_of_lt_of_le (HO6l.out k hk).2 (zAJ w6 _).size⟩) hown hgrow hloc (by show base+es.length+1≤_;have:=HBL.out;have:=H6.out;omega) (by have:=Hbl.out;omega)))
          have HF9:=zh (show ∀ w9,(w6.alloc (.cells #[.slice p4 ny c4] 22)).grownBy w9 ev.ownBlock→w9.heap[l]?=some (LRC r pre (base:Int) dv ev false) from fun w9 hg=>by
           have h1:=zAt hcl
           exact (((Chg.of_grown hg).block l (Nat.lt_of_lt_of_le h1 (zAJ w6 _).size) fun e=>(hJ.oe l e.symm).2 rfl).trans ((zAJ w6 _).block l h1)).trans hcl)
          have Hn:=zh hn
          rw [hev] at HPush HF9 HOw
          clear hJ hJ6 hn
          generalize hm8:es.length=m8 at *
          go_wp2_with (at_builtin;have hal:=HOw.out.keep (w':=w6.alloc (.cells #[.slice p4 ny c4] 22)) (fun j hj=>(zAJ w6 _).block j (OwnR.lt HOw.out hj));have hxx:=zBV w6 (.slice p4 ny c4) 22 (0,0);refine zAR _ rfl (.tmp 71) (.tmp 73) 108 rfl 22 i0 (.slice none 0 0) 1 24 Tryz.underlying108 hi hz0 hz1 hz2 rfl (by decide) (.slice p8 m8 c8) m8 _ rfl hal (.slice (some ⟨w6.heap.size,0,none⟩) 1 1) 1 _ rfl hxx (by simp [Value.oneCell']) (by unfold maxLen;omega) (by omega) ?_;clear hal hxx;intro v9 w9 hown9 hgrow9 hloc9;go_loud (have hE:=HPush.out v9 w9 hown9 hgrow9 hloc9;have hc9:=HF9.out w9 hgrow9;have hf9:=zAI hc9 4;have hc9:=zAC hc9 (i:=4) rfl;have HE:=zh hE;clear hE hgrow9 hloc9;obtain ⟨p9,q9,rfl⟩:=OwnR.shape hown9;clear hown9))
          go_roundw
          case rel =>
           refine ⟨k+1,m1,(m1:Int),es ++ [y],by omega,by go_num,rfl,.inr ⟨by omega,rfl⟩,by omega,⟨_,_,_,_,_,HE.out.1,fun j hj=>?_⟩,Hc.out.trans HE.out.2.2 fun j hj e=>(Hn.out j (.inl e)).resolve_right (by omega),Hk6.out⟩
           have hwr:=Hc.out.size
           rcases hj with (hj | hj) | (hj | hj)
           ·exact Hn.out j (.inl hj)
           ·rcases HE.out.2.1 j hj with e | e
            ·exact Hn.out j (.inl e)
            ·exact .inr (by omega)
           ·exact Hn.out j (.inr hj)
           ·have:=(HO6l.out j hj).1
            exact .inr (by omega)
          case measure=>simp [intOf];omega
         ·have d6:((m1:Int) != (la7:Int)+1)=true:=by simp;omega
          have HE:=zh (HBd.out w6 (Hc.out.trans ((Chg.of_below HB6.out).mono fun _ _ e=>e.elim:Chg S wr w6) fun _ _ h=>h) (by rw [Htk.out,HY.out,if_neg h5,if_pos (by have:=HBL.out;omega)]))
          go_wp2_with fail
          all_goals (try go_ret2)
          all_goals exact HE.out
     ·have d2:((m1:Int) != (z:Int)+1)=true:=by simpa using hz1
      have HE:=zh (HNo.out (.inr (.inr (.inr ⟨by omega,by omega⟩))))
      go_wp2_with fail
      all_goals (try go_ret2)
      all_goals exact HE.out
    ·have d1:decide ((0:Int) < (k:Int))=false:=decide_eq_false (by omega)
     have hlz:=Hno1.out (by omega)
     have hno:¬ (0≤la∧(m1:Int)≠la+1):=fun h=>by omega
     by_cases h3:m1 < 1
     ·have d3:decide ((m1:Int) < 1)=true:=decide_eq_true (by omega)
      have HE:=zh (HNo.out (.inr (.inl h3)))
      go_wp2_with fail
      all_goals (try go_ret2)
      all_goals exact HE.out
     ·have d3:decide ((m1:Int) < 1)=false:=decide_eq_false (by omega)
      by_cases h4:1099511627776 < m1
      ·have d4:decide ((1099511627776:Int) < (m1:Int))=true:=decide_eq_true (by omega)
       have HE:=zh (HNo.out (.inr (.inr (.inl h4))))
       go_wp2_with fail
       all_goals (try go_ret2)
       all_goals exact HE.out
      ·have d4:decide ((1099511627776:Int) < (m1:Int))=false:=decide_eq_false (by omega)
       have HY:=zh (show ot=if m1≤base then some ((m1:Int),es) else if m1≠base+es.length+1 then none else some ((m1:Int),es ++ [y]) from by
        rw [HT.out,if_neg]
        rintro (h | h | h | h)
        ·exact hw h
        ·exact h3 h
        ·exact h4 h
        ·exact hno h)
       by_cases h5:m1≤base
       ·have d5:decide ((m1:Int)≤(base:Int))=true:=decide_eq_true (by omega)
        have HE:=zh (And.intro HL4.out (And.intro HC4.out (show zAh base (-1,[]) rows=zAh base ((m1:Int),es) (rows.drop (k+1)) from by rw [Htk.out,HY.out,if_pos h5])))
        go_wp2_with fail
        go_roundw
        case rel=>exact ⟨k+1,m1,(m1:Int),es,by omega,by go_num,rfl,.inr ⟨by omega,rfl⟩,by omega,HE.out.1,HE.out.2.1,HE.out.2.2⟩
        case measure=>simp [intOf];omega
       ·have d5:decide ((m1:Int)≤(base:Int))=false:=decide_eq_false (by omega)
        have HLc:=zh (HL4.out.last_calls)
        go_wp2_with fail
        refine HLc.out.mono ?_
        rintro e w7 ⟨rfl,q7,rfl⟩
        have HBL:=zh (show LedM.last ⟨base,data,es,false⟩=base+es.length from rfl)
        generalize LedM.last ⟨base,data,es,false⟩=la7 at *
        have hw7:IntKind.i64.wrap ((la7:Int)+1)=(la7:Int)+1:=IntWalk.i64_in _ (by omega)
        have HB6:=zh (show Below wr.heap.size wr (w5.drewN q7) from HB4.out.trans ⟨rfl,rfl,rfl,Nat.le_refl _,fun _ _=>rfl⟩)
        have HO6:=zh (show OwnB (w5.drewN q7) 5 (.slice p4 ny c4) y from OwnR.keep HV4.out.1 fun _ _=>rfl)
        have HO6l:=zh (show ∀ k,(Value.slice p4 ny c4).ownBlock=some k→wr.heap.size≤k∧k < (w5.drewN q7).heap.size from HV4.out.2)
        generalize w5.drewN q7=w6 at *
        by_cases h6:m1=la7+1
        ·have d6:((m1:Int) != (la7:Int)+1)=false:=by simp;omega
         have Hk6:=zh (show zAh base (-1,[]) rows=zAh base ((m1:Int),es ++ [y]) (rows.drop (k+1)) from by rw [Htk.out,HY.out,if_neg h5,if_neg (by have:=HBL.out;omega)])
         have H6:=zh h6
         clear h6
         obtain ⟨O,C,dv,ev,vs8,hJ,hn⟩:=HL.out
         obtain ⟨p8,c8,hev⟩:=hJ.row.shape
         have hev:ev=.slice p8 es.length c8:=hev
         have hm8l:es.length≤1099511627776:=by have:=HBL.out;omega
         have hJ6:=hJ.below HB6.out
         have h8:=hJ6.c 4 rfl
         have hcl:=hJ6.cells
         have HOw:=zh (show OwnR w6 22 1 ev es.length vs8 from hJ6.row)
         rw [hev] at h8
         have HPush:=zh (fun v9 w9 hown hgrow hloc=>(hJ.push (w2:=w6.alloc (.cells #[.slice p4 ny c4] 22)) (w3:=w9) (v3:=v9) (HB6.out.trans ((zAJ w6 _).mono HB6.out.size)) (HO6.out.has.below (zAJ w6 _)) (fun k hk=>⟨(HO6l.out k hk).1,Nat.lt_of_lt_of_le (HO6l.out k hk).2 (zAJ w6 _).size⟩) hown hgrow hloc (by show base+es.length+1≤_;have:=HBL.out;have:=H6.out;omega) (by have:=Hbl.out;omega)))
         have HF9:=zh (show ∀ w9,(w6.alloc (.cells #[.slice p4 ny c4] 22)).grownBy w9 ev.ownBlock→w9.heap[l]?=some (LRC r pre (base:Int) dv ev false) from fun w9 hg=>by
          have h1:=zAt hcl
          exact (((Chg.of_grown hg).block l (Nat.lt_of_lt_of_le h1 (zAJ w6 _).size) fun e=>(hJ.oe l e.symm).2 rfl).trans ((zAJ w6 _).block l h1)).trans hcl)
         have Hn:=zh hn
         rw [hev] at HPush HF9 HOw
         clear hJ hJ6 hn
         generalize hm8:es.length=m8 at *
         go_wp2_with (at_builtin;have hal:=HOw.out.keep (w':=w6.alloc (.cells #[.slice p4 ny c4] 22)) (fun j hj=>(zAJ w6 _).block j (OwnR.lt HOw.out hj));have hxx:=zBV w6 (.slice p4 ny c4) 22 (0,0);refine zAR _ rfl (.tmp 71) (.tmp 73) 108 rfl 22 i0 (.slice none 0 0) 1 24 Tryz.underlying108 hi hz0 hz1 hz2 rfl (by decide) (.slice p8 m8 c8) m8 _ rfl hal (.slice (some ⟨w6.heap.size,0,none⟩) 1 1) 1 _ rfl hxx (by simp [Value.oneCell']) (by unfold maxLen;omega) (by omega) ?_;clear hal hxx;intro v9 w9 hown9 hgrow9 hloc9;go_loud (have hE:=HPush.out v9 w9 hown9 hgrow9 hloc9;have hc9:=HF9.out w9 hgrow9;have hf9:=zAI hc9 4;have hc9:=zAC hc9 (i:=4) rfl;have HE:=zh hE;clear hE hgrow9 hloc9;obtain ⟨p9,q9,rfl⟩:=OwnR.shape hown9;clear hown9))
         go_roundw
         case rel =>
          refine ⟨k+1,m1,(m1:Int),es ++ [y],by omega,by go_num,rfl,.inr ⟨by omega,rfl⟩,by omega,⟨_,_,_,_,_,HE.out.1,fun j hj=>?_⟩,Hc.out.trans HE.out.2.2 fun j hj e=>(Hn.out j (.inl e)).resolve_right (by omega),Hk6.out⟩
          have hwr:=Hc.out.size
          rcases hj with (hj | hj) | (hj | hj)
          ·exact Hn.out j (.inl hj)
          ·rcases HE.out.2.1 j hj with e | e
           ·exact Hn.out j (.inl e)
           ·exact .inr (by omega)
          ·exact Hn.out j (.inr hj)
          ·have:=(HO6l.out j hj).1
           exact .inr (by omega)
         case measure=>simp [intOf];omega
        ·have d6:((m1:Int) != (la7:Int)+1)=true:=by simp;omega
         have HE:=zh (HBd.out w6 (Hc.out.trans ((Chg.of_below HB6.out).mono fun _ _ e=>e.elim:Chg S wr w6) fun _ _ h=>h) (by rw [Htk.out,HY.out,if_neg h5,if_pos (by have:=HBL.out;omega)]))
         go_wp2_with fail
         all_goals (try go_ret2)
         all_goals exact HE.out
  ·have hrn:rows.drop k=[]:=List.drop_of_length_le (by rw [Hnn.out];omega)
   have HE:=zh (HGd.out wr hc la es hL (by rw [htk,hrn];rfl))
   clear hL hc htk hrn hla
   go_wp2_with fail
   exact HE.out
def zDD (w w1:World) (d:Nat) (pre:ByteArray) (F:Nat→Prop) (r:zAA × Nat × LedM) (e:Ending) (w':World):Prop :=
 St w w' d r.1 F∧Same F w1 w'∧((r.2.1=0∧∃ l,e=.returned (.tuple #[.pointer (some ⟨l,0,none⟩),.int .i64 0])∧LedF w w' l d pre r.1 r.2.2 F)∨(r.2.1≠0∧e=.returned (.tuple #[.pointer none,.int .i64 (r.2.1:Int)])))
structure Opens (D:zAA) (pre:Bs) where
 D1:zAA
 e1:Nat
 h1:D.rid [zAD (imgN pre)]=(D1,e1)
 i:Nat × Nat × Bs
 hi:zAg (Sat.get (imgN pre) D1.files)=i
 g:zAA × Nat × List Bs
 hg:zBc D1 pre i.2.1=g
theorem opens_of (D:zAA) (pre:Bs):Nonempty (Opens D pre):=⟨⟨_,_,rfl,_,rfl,_,rfl⟩⟩
section
variable {D:zAA} {pre:Bs} (O:Opens D pre)
theorem open_e1 (h:¬ (pre.length < 1∨20 < pre.length)) (h1:O.e1≠0):zAa D pre=(O.D1,O.e1,LedM.none0):=by
 unfold zAa
 rw [if_neg h,O.h1]
 exact if_pos h1
theorem open_e2 (h:¬ (pre.length < 1∨20 < pre.length)) (h1:O.e1=0) (h2:O.i.1≠0):zAa D pre=(O.D1,O.i.1,LedM.none0):=by
 unfold zAa
 rw [if_neg h,O.h1]
 rw [if_neg (by simpa using h1)]
 dsimp only
 rw [O.hi,if_pos h2]
theorem zAz (h:¬ (pre.length < 1∨20 < pre.length)) (h1:O.e1=0) (h2:O.i.1=0):zAa D pre=(O.g.1,O.g.2.1,⟨O.i.2.1,O.i.2.2,O.g.2.2,false⟩):=by
 unfold zAa
 rw [if_neg h,O.h1]
 rw [if_neg (by simpa using h1)]
 dsimp only
 rw [O.hi,if_neg (by simpa using h2),O.hg]
end
def OpenRel (w w0:World) (l d:Nat) (pre:ByteArray) (G:Nat→Prop) (D D1 D3:zAA) (M2 M3:LedM) (e1 e2 e3:Nat) (x:Value) (wr:World):Prop :=
 Same G w0 wr∧((x=.int .i64 0∧LedF w wr l d pre D LedM.none0 G)∨(x=.int .i64 1∧e1=0∧LedF w wr l d pre D1 LedM.none0 G)∨(x=.int .i64 2∧e1=0∧e2=0∧LedF w wr l d pre D1 M2 G)∨(x=.int .i64 3∧e1=0∧e2=0∧e3=0∧LedF w wr l d pre D3 M3 G))
theorem led_clears {w w1:World} {l d:Nat} {pre:ByteArray} {D:zAA} {M:LedM} {F:Nat→Prop} (h:LedF w w1 l d pre D M F) :
  Calls Tryz.prog 174 #[.pointer (some ⟨l,0,none⟩)] w1 fun e w'=>e=.returned (.int .i64 ((D.rid [zAD (imgN (nm pre))]).2:Int))∧LedF w w' l d pre (D.rid [zAD (imgN (nm pre))]).1 M F∧Same F w1 w':=by
 obtain ⟨own,dv,ev,vs,hL,hS,hn,hl⟩:=h
 refine (clears_calls hS hL.lc (.inl hL.ol)).mono ?_
 rintro e w' ⟨rfl,hS',hs⟩
 exact ⟨rfl,⟨own,dv,ev,vs,hL.keep (fun k hk=>hs k (.inl hk)) fun k hk=>hS'.flt (.inl hk),hS',hn,fun k hk=>hS'.flt (.inr hk)⟩,fun k hk=>hs k (.inr hk)⟩
theorem led_fresh {w w1:World} {d:Nat} {D:zAA} {F:Nat→Prop} (h:St w w1 d D F) (pre:ByteArray) (hp:1≤pre.size∧pre.size≤20) :
  LedF w (w1.alloc (.cells #[.pointer (some ⟨d,0,none⟩),.string pre,.int .i64 0,.slice none 0 0,.slice none 0 0,.bool false] 183)) w1.heap.size d pre D LedM.none0 F:=by
 have hb:=zAb w1 (.cells #[.pointer (some ⟨d,0,none⟩),.string pre,.int .i64 0,.slice none 0 0,.slice none 0 0,.bool false] 183)
 refine ⟨fun k=>k=w1.heap.size,.slice none 0 0,.slice none 0 0,[],⟨zAW w1 _,OwnR.nil _ _ _,OwnR.nil _ _ _,fun i u b hu=>(by simp at hu),rfl,fun k hk=>(by cases hk),fun k hk=>(by cases hk),fun u hu=>(by simp at hu),fun k hk=>(by rw [hk];simp),Nat.zero_le _,hp,⟨Nat.zero_le _,fun b hb=>(by cases hb)⟩⟩,h.move (Chg.of_below hb) (fun _ _ h=>h.elim) (fun k hk=>?_),fun k hk=>⟨by rw [hk];exact h.below.size,fun hf=>by have:=h.flt hf;omega⟩,fun k hk=>Nat.lt_of_lt_of_le (h.flt hk) hb.size⟩
 rcases hk with hk | hk
 ·exact ⟨.inr (by omega),by rw [hk];simp⟩
 ·exact ⟨.inl hk,Nat.lt_of_lt_of_le (h.flt hk) hb.size⟩
theorem open_calls {w w1:World} {d:Nat} {D:zAA} {F:Nat→Prop} (h:St w w1 d D F) (pre:ByteArray) :
  Calls Tryz.prog 123 #[.pointer (some ⟨d,0,none⟩),.string pre] w1 (zDD w w1 d pre F (zAa D (nm pre))):=by
 have hsz:(nm pre).length=pre.size:=zDU pre
 by_cases hp:(nm pre).length < 1∨20 < (nm pre).length
 ·have HE:=zh (show zDD w w1 d pre F (zAa D (nm pre)) (.returned (.tuple #[.pointer none,.int .i64 1])) w1 from by
   unfold zAa
   rw [if_pos hp]
   exact ⟨h,fun _ _=>rfl,.inr ⟨(show (1:Nat)≠0 by decide),rfl⟩⟩)
  rw [hsz] at hp
  clear h hsz
  generalize hzz:pre.size=z at *
  by_cases hz:z < 1
  ·have hz0:z=0:=by omega
   subst hz0
   go_enter Tryz.func123,Tryz.ntmps123
   go_wp2_with fail
   go_ret2
   exact HE.out
  ·have hz6:20 < z:=by omega
   go_enter Tryz.func123,Tryz.ntmps123
   go_wp2_with fail
   go_ret2
   exact HE.out
 ·obtain ⟨O⟩:=opens_of D (nm pre)
  have hp2:1≤pre.size∧pre.size≤20:=by rw [hsz] at hp;omega
  have H0:=zh (led_fresh h pre hp2)
  have Hs0:=zh (zBF h (zAb w1 (.cells #[.pointer (some ⟨d,0,none⟩),.string pre,.int .i64 0,.slice none 0 0,.slice none 0 0,.bool false] 183)))
  have Hp:=zh hp
  obtain ⟨hpa,hpb⟩:=hp2
  have hmf:∀ (fn:Fn) (first cap:Array Value) (w:World),(Instr.makeFunc fn first cap).run Tryz.prog w=.ok (.func fn first cap) w:=fun _ _ _ _=>rfl
  clear h hsz hp
  generalize hzz:pre.size=z at *
  go_enter Tryz.func123,Tryz.ntmps123
  go_wp2_with fail
  have hz1:(w1.alloc (.cells #[.pointer (some ⟨d,0,none⟩),.string pre,.int .i64 0,.slice none 0 0,.slice none 0 0,.bool false] 183)).heap.size=w1.heap.size+1:=by simp
  have hL1:=H0.out.box (.cells #[.func (.func 174) #[.pointer (some ⟨w1.heap.size,0,none⟩)] #[],.func (.func 175) #[.pointer (some ⟨w1.heap.size,0,none⟩)] #[],.func (.func 176) #[.pointer (some ⟨w1.heap.size,0,none⟩)] #[]] 106)
  have hfs:=zAW (w1.alloc (.cells #[.pointer (some ⟨d,0,none⟩),.string pre,.int .i64 0,.slice none 0 0,.slice none 0 0,.bool false] 183)) (.cells #[.func (.func 174) #[.pointer (some ⟨w1.heap.size,0,none⟩)] #[],.func (.func 175) #[.pointer (some ⟨w1.heap.size,0,none⟩)] #[],.func (.func 176) #[.pointer (some ⟨w1.heap.size,0,none⟩)] #[]] 106)
  rw [hz1] at hL1 hfs
  have HL1:=zh hL1
  have Hs1:=zh (show Same F w1 ((w1.alloc (.cells #[.pointer (some ⟨d,0,none⟩),.string pre,.int .i64 0,.slice none 0 0,.slice none 0 0,.bool false] 183)).alloc (.cells #[.func (.func 174) #[.pointer (some ⟨w1.heap.size,0,none⟩)] #[],.func (.func 175) #[.pointer (some ⟨w1.heap.size,0,none⟩)] #[],.func (.func 176) #[.pointer (some ⟨w1.heap.size,0,none⟩)] #[]] 106)) from fun k hk=>(H0.out.same (zAb _ _) k hk).trans (Hs0.out k hk))
  have Hfs:=zh hfs
  clear hz1 hL1 hfs H0 Hs0
  generalize (w1.alloc (.cells #[.pointer (some ⟨d,0,none⟩),.string pre,.int .i64 0,.slice none 0 0,.slice none 0 0,.bool false] 183)).alloc (.cells #[.func (.func 174) #[.pointer (some ⟨w1.heap.size,0,none⟩)] #[],.func (.func 175) #[.pointer (some ⟨w1.heap.size,0,none⟩)] #[],.func (.func 176) #[.pointer (some ⟨w1.heap.size,0,none⟩)] #[]] 106)=W0 at *
  generalize w1.heap.size=l at *
  go_loopw [34] (OpenRel w W0 l d pre (fun k=>F k∨k=l+1) D O.D1 O.g.1 ⟨O.i.2.1,O.i.2.2,[],false⟩ ⟨O.i.2.1,O.i.2.2,O.g.2.2,false⟩ O.e1 O.i.1 O.g.2.1) (fun i _=>3 - (intOf i).toNat)
  case atStart=>exact ⟨fun _ _=>rfl,.inl ⟨rfl,HL1.out⟩⟩
  case round =>
   clear HL1
   obtain ⟨hsm,hx⟩:=hrel
   have hfb:=(hsm (l+1) (.inr rfl)).trans Hfs.out
   have k0:=zAC hfb (i:=0) rfl
   have k1:=zAC hfb (i:=1) rfl
   have k2:=zAC hfb (i:=2) rfl
   have HsF:=zh (show Same F w1 wr from fun k hk=>(hsm k (.inl hk)).trans (Hs1.out k hk))
   have Hsm:=zh hsm
   clear hsm hfb
   rcases hx with ⟨rfl,hL⟩ | ⟨rfl,he1,hL⟩ | ⟨rfl,he1,he2,hL⟩ | ⟨rfl,he1,he2,he3,hL⟩
   ·have hcl:=led_clears hL
    rw [O.h1] at hcl
    have Hcl:=zh hcl
    clear hcl hL
    by_cases he:O.e1=0
    ·have He:=zh he
     rw [he] at Hcl
     clear he
     go_wp2_with fail
     refine Hcl.out.mono ?_
     rintro e w3 ⟨rfl,hL3,hs3⟩
     have HE:=zh (show OpenRel w W0 l d pre (fun k=>F k∨k=l+1) D O.D1 O.g.1 ⟨O.i.2.1,O.i.2.2,[],false⟩ ⟨O.i.2.1,O.i.2.2,O.g.2.2,false⟩ O.e1 O.i.1 O.g.2.1 (.int .i64 1) w3 from ⟨Hsm.out.trans hs3,.inr (.inl ⟨rfl,He.out,hL3⟩)⟩)
     clear hL3 hs3
     go_wp2_with fail
     go_roundw
     case rel=>first | exact HE.out | ((repeat apply Exists.intro);exact ⟨HE.out,rfl⟩)
     case measure=>simp [intOf]
    ·have hne:((O.e1:Int) != 0)=true:=by simp;omega
     have HR:=zh (open_e1 O Hp.out he)
     have He:=zh he
     clear he
     generalize hek:O.e1=k at *
     go_wp2_with fail
     refine Hcl.out.mono ?_
     rintro e w3 ⟨rfl,hL3,hs3⟩
     have HE:=zh (show zDD w w1 d pre F (zAa D (nm pre)) (.returned (.tuple #[.pointer none,.int .i64 (k:Int)])) w3 from by
      rw [HR.out]
      exact ⟨hL3.stF.less fun _ h=>.inl h,fun j hj=>(hs3 j (.inl hj)).trans (HsF.out j hj),.inr ⟨He.out,rfl⟩⟩)
     clear hL3 hs3
     go_wp2_with fail
     go_ret2
     exact HE.out
   ·have him:=image_calls hL
    rw [O.hi] at him
    have Him:=zh him
    have He1:=zh he1
    clear him hL he1
    by_cases he:O.i.1=0
    ·have He:=zh he
     clear he
     go_wp2_with fail
     refine Him.out.mono ?_
     intro e w3 hT
     have HE:=zh (show OpenRel w W0 l d pre (fun k=>F k∨k=l+1) D O.D1 O.g.1 ⟨O.i.2.1,O.i.2.2,[],false⟩ ⟨O.i.2.1,O.i.2.2,O.g.2.2,false⟩ O.e1 O.i.1 O.g.2.1 (.int .i64 2) w3 from ⟨Hsm.out.trans hT.2.2.2,.inr (.inr (.inl ⟨rfl,He1.out,He.out,hT.2.1 He.out⟩))⟩)
     obtain ⟨he3,-⟩:=hT
     rw [He.out] at he3
     subst he3
     go_wp2_with fail
     go_roundw
     case rel=>first | exact HE.out | ((repeat apply Exists.intro);exact ⟨HE.out,rfl⟩)
     case measure=>simp [intOf]
    ·have hne:((O.i.1:Int) != 0)=true:=by simp;omega
     have HR:=zh (open_e2 O Hp.out He1.out he)
     have He:=zh he
     clear he
     go_wp2_with fail
     refine Him.out.mono ?_
     intro e w3 hT
     have HE:=zh (show zDD w w1 d pre F (zAa D (nm pre)) (.returned (.tuple #[.pointer none,.int .i64 (O.i.1:Int)])) w3 from by
      rw [HR.out]
      exact ⟨hT.2.2.1.less fun _ h=>.inl h,fun j hj=>(hT.2.2.2 j (.inl hj)).trans (HsF.out j hj),.inr ⟨He.out,rfl⟩⟩)
     obtain ⟨he3,-⟩:=hT
     subst he3
     generalize O.i.1=k at *
     go_wp2_with fail
     go_ret2
     exact HE.out
   ·have hlo:=log_calls hL rfl
    rw [show zBc O.D1 (nm pre) (LedM.mk O.i.2.1 O.i.2.2 [] false).base=O.g from O.hg] at hlo
    have Hlo:=zh hlo
    have He1:=zh he1
    have He2:=zh he2
    clear hlo hL he1 he2
    by_cases he:O.g.2.1=0
    ·have He:=zh he
     clear he
     go_wp2_with fail
     refine Hlo.out.mono ?_
     intro e w3 hT
     have HE:=zh (show OpenRel w W0 l d pre (fun k=>F k∨k=l+1) D O.D1 O.g.1 ⟨O.i.2.1,O.i.2.2,[],false⟩ ⟨O.i.2.1,O.i.2.2,O.g.2.2,false⟩ O.e1 O.i.1 O.g.2.1 (.int .i64 3) w3 from ⟨Hsm.out.trans hT.2.2.1,.inr (.inr (.inr ⟨rfl,He1.out,He2.out,He.out,hT.2.2.2 He.out⟩))⟩)
     obtain ⟨he3,-⟩:=hT
     rw [He.out] at he3
     subst he3
     go_wp2_with fail
     go_roundw
     case rel=>first | exact HE.out | ((repeat apply Exists.intro);exact ⟨HE.out,rfl⟩)
     case measure=>simp [intOf]
    ·have hne:((O.g.2.1:Int) != 0)=true:=by simp;omega
     have HR:=zh (zAz O Hp.out He1.out He2.out)
     have He:=zh he
     clear he
     go_wp2_with fail
     refine Hlo.out.mono ?_
     intro e w3 hT
     have HE:=zh (show zDD w w1 d pre F (zAa D (nm pre)) (.returned (.tuple #[.pointer none,.int .i64 (O.g.2.1:Int)])) w3 from by
      rw [HR.out]
      exact ⟨hT.2.1.less fun _ h=>.inl h,fun j hj=>(hT.2.2.1 j (.inl hj)).trans (HsF.out j hj),.inr ⟨He.out,rfl⟩⟩)
     obtain ⟨he3,-⟩:=hT
     subst he3
     generalize O.g.2.1=k at *
     go_wp2_with fail
     go_ret2
     exact HE.out
   ·have HE:=zh (show zDD w w1 d pre F (zAa D (nm pre)) (.returned (.tuple #[.pointer (some ⟨l,0,none⟩),.int .i64 0])) wr from by
     rw [zAz O Hp.out he1 he2]
     exact ⟨hL.stF.less fun _ h=>.inl h,HsF.out,.inl ⟨he3,l,rfl,hL.less fun _ h=>.inl h⟩⟩)
    clear hL he1 he2 he3
    go_wp2_with fail
    go_ret2
    exact HE.out
end Go.Proofs.YtapfnehdgailmaaGreat
