/- journal: rows that are gathered, entries handed in. (Printed by mkj11.py.) journal: Append. (Printed by mkj12.py.) journal: writes. (Printed by mkj13.py.) journal: slices.Clone of entries, rebase. (Printed by mkj14.py.) journal: goes. (Printed by mkj15.py.) journal: Compact, Install. (Printed by mkj16.py.) journal: Install. (Printed by mkj17.py.) octet: Reader.Nums; journal: readGroup. (Printed by mkj18.py.) The document's ReadList (satrapyref5). journal: record. (Printed by mkj19.py.) journal: record, kind 4. (Printed by mkj20.py.) journal: record, kind 2. (Printed by mkj21.py.) journal: record, kind 3. (Printed by mkj22.py.) journal: record. (Printed by mkj23.py.) journal: readSnap. (Printed by mkj24.py.) journal: readLog. (Printed by mkj25.py.) journal: Open (plain laws). The document's ReadEntry and reads: plain laws (what its list of nodes says is what the program's says). The document's journal: Group. The document's Is (satrapyref5). (Printed by mkrk1.py out of the text JouB.) The document's octet: Num, Nums. (Printed by mkrj1.py.) The document's: Nums, List, record, terms. (Printed by mkrj2.py.) The document's journal: List, first. (Printed by mkrj3.py.) The document's disk through several steps: what is set apart (F) stays as it was. The document's journal (satrapyref5) in memory; Last, TermAt. The document's journal: GroupAt, Config. (Printed by mkrk2.py.) satrapyref5.Own. (Printed by mkrk3.py.) satrapyref5.ReadEntry. (Printed by mkro1.py.) The document's journal: At. (Printed by mkrk4.py.) The document's Whole (satrapyref4): a file is made to hold just these bytes. The document's journal: a thing done with its disk; lays. (Printed by mkrk6.py.) What an empty disk opens as (plain laws). The disk of a journal "a": a log, and a snapshot or none (plain laws). What the disk of a journal "a" opens as (plain laws). A journal of a law's own on its disk: what each thing done leaves (plain laws). A journal of a law's own on its disk: start, SetTerm, Append, Cut (plain laws). A journal of a law's own on its disk: Compact, Install (plain laws). satrapylaw5.known: what it does (plain). satrapyref1.Bytes, satrapyref5.Bytes, entry. (Printed by mkrk5.py.) The document's journal: SetTerm, Cut. (Printed by mkrk7.py.) The document's journal: its list turned; Cut. (Printed by mkrk8.py.) -/
import Derived.Lib.SliceRun
import Derived.Test.YtapfnehdgailmaaGreatED
import Derived.Test.YtapfnehdgailmaaGreatEF
import Derived.Test.YtapfnehdgailmaaGreatEH
import Derived.Test.YtapfnehdgailmaaGreatEJ
import Derived.Test.YtapfnehdgailmaaGreatEK
set_option maxRecDepth 100000
set_option maxHeartbeats 64000000
namespace Go.Proofs.YtapfnehdgailmaaGreat
open Go.RowKit Go.Sat Go.Maps
structure RowsN (w W:World) (v:Value) (vs:List Value) (ls:List Bs):Prop where
 rows:zBC W v vs ls
 new:zCh w.heap.size v vs
 bel:Below w.heap.size w W
theorem RowsN.nil (w:World):RowsN w w (.slice none 0 0) [] []:=⟨zBC.nil _,⟨fun k hk=>(by cases hk),fun u hu=>(by simp at hu)⟩,Below.refl _ _⟩
theorem RowsN.next {w W W2:World} {v:Value} {vs:List Value} {ls:List Bs} (h:RowsN w W v vs ls) (hb:Below W.heap.size W W2):RowsN w W2 v vs ls:=⟨h.rows.below hb,h.new,h.bel.trans (hb.mono h.bel.size)⟩
theorem RowsN.push {w W W2 w3:World} {v v3 u:Value} {vs:List Value} {ls:List Bs} {x:Bs} {o:Obj} (h:RowsN w W v vs ls) (hb:Below W.heap.size W W2) (hu:OwnB W2 5 u x) (hun:∀ k,u.ownBlock=some k→W.heap.size≤k)
  (hown:OwnR w3 22 1 v3 (ls.length+1) (vs ++ [u])) (hg:(W2.alloc o).grownBy w3 v.ownBlock) (hloc:v3.ownBlock=v.ownBlock∨∃ g,v3.ownBlock=some g∧(W2.alloc o).heap.size≤g):RowsN w w3 v3 (vs ++ [u]) (ls ++ [x]):=by
 have h1:=h.next hb
 have h2:=zAJ W2 o
 have hs:=hb.size
 have hs2:=h2.size
 have hs3:=h.bel.size
 refine ⟨zBC.push (h1.rows.below h2) (zDr hu h2) (fun k hk e=>by have a:=hun k hk;have b:=OwnR.lt h.rows.row e;omega) hown hg hloc,zCh.push h.new (fun k hk=>Nat.le_trans hs3 (hun k hk)) hloc (by omega),?_⟩
 exact ((Chg.of_below (h1.bel.trans (h2.mono h1.bel.size))).trans (Chg.of_grown hg) fun k hk e=>by have:=h.new.1 k e.symm;omega:Chg (fun _=>False) w w3).below (Nat.le_refl _) fun _ _=>id
theorem zBC.at {w:World} {p:Option Addr} {n c:Nat} {vs:List Value} {ls:List Bs} (h:zBC w (.slice p n c) vs ls):zBA w (.slice p n c) ls:=by
 have hlen:=h.len
 rcases h.row.2 with ⟨e,h0⟩ | ⟨g,cap,cur,e,hg,hnc,-⟩
 ·simp only [Value.slice.injEq] at e
  obtain ⟨rfl,rfl,rfl⟩:=e
  have hl:ls=[]:=List.eq_nil_of_length_eq_zero h0
  subst hl
  exact ⟨none,0,rfl,Nat.le_refl _,fun h=>absurd rfl h⟩
 ·simp only [Value.slice.injEq] at e
  obtain ⟨rfl,rfl,rfl⟩:=e
  refine ⟨_,c,rfl,hnc,fun _=>⟨g,0,vs,rfl,hlen,fun i u hu=>?_,fun i u m hu hm=>(h.has i u m hu hm).has.kit⟩⟩
  exact h.row.cells (g:=g) rfl i u hu
theorem holds_at4 {w:World} {p:Option Addr} {n c s:Nat} {xs:List Value} (h:zAY w s (.slice p n c) n xs) (hne:xs≠[]):∃ b o,p=some ⟨b,o,none⟩∧∀ i u,xs[i]?=some u→w.cell? ⟨b,o+i,none⟩=some u:=by
 obtain ⟨hlen,p',c',e,h0,hc⟩:=h
 simp only [Value.slice.injEq] at e
 obtain ⟨rfl,-,rfl⟩:=e
 cases p with
 | none =>
  have:=h0 rfl
  subst this
  exact absurd (List.eq_nil_of_length_eq_zero (by simpa using hlen)) hne
 | some a =>
  obtain ⟨b,o,sp⟩:=a
  cases xs with
  | nil=>exact absurd rfl hne
  | cons x r =>
   have h1:=hc _ rfl 0 x rfl
   have hsp:sp=none:=by
    have:=World.cell?_spot h1
    simpa [Addr.add] using this
   subst hsp
   refine ⟨b,o,rfl,fun i u hu=>?_⟩
   have h2:=hc _ rfl i u hu
   have e:(⟨b,o,none⟩:Addr).add i=⟨b,o+i,none⟩:=by unfold Addr.add;split <;> simp_all
   rw [← e]
   exact h2
def EntsHas (w:World) (x:Value) (es:List Ent) (vs:List EV):Prop:=vs.length=es.length∧zAY w 4 x es.length (entsC es vs)∧∀ (i:Nat) e v,es[i]?=some e→vs[i]?=some v→zCz w e v
theorem EntsHas.len {w:World} {p:Option Addr} {n c:Nat} {es:List Ent} {vs:List EV} (h:EntsHas w (.slice p n c) es vs):es.length=n:=by
 obtain ⟨-,⟨-,_,_,e,-⟩,-⟩:=h
 simp only [Value.slice.injEq] at e
 exact e.2.1.symm
theorem EntsHas.ent {w:World} {p:Option Addr} {n c:Nat} {es:List Ent} {vs:List EV} (h:EntsHas w (.slice p n c) es vs) {i:Nat} (hi:i < es.length):∃ b o v,p=some ⟨b,o,none⟩∧zCz w es[i] v ∧
  w.cell? ⟨b,o+i * 4,none⟩=some (.int .i64 es[i].term)∧w.cell? ⟨b,o+i * 4+1,none⟩=some (.int .i64 es[i].kind)∧w.cell? ⟨b,o+i * 4+2,none⟩=some v.1∧w.cell? ⟨b,o+i * 4+3,none⟩=some v.2:=by
 have hn:=h.len
 obtain ⟨hlen,hh,hE⟩:=h
 rw [hn] at hh
 have hv:vs[i]?=some (vs[i]'(by omega)):=List.getElem?_eq_getElem _
 generalize vs[i]'(by omega)=v at hv
 have he:=List.getElem?_eq_getElem hi
 have hne:entsC es vs≠[]:=fun e=>by
  have:=entsC_len es vs hlen
  rw [e] at this
  simp at this
  omega
 obtain ⟨b,o,rfl,hc⟩:=holds_at4 hh hne
 have hc':∀ (k:Nat) u,(entC es[i] v)[k]?=some u→w.cell? ⟨b,o+(i * 4+k),none⟩=some u:=fun k u hu=>hc _ _ (entsC_at _ _ i _ v he hv k u hu)
 exact ⟨b,o,v,rfl,hE i _ v he hv,hc' 0 _ rfl,hc' 1 _ rfl,hc' 2 _ rfl,hc' 3 _ rfl⟩
theorem RowsN.two {w W:World} {u1 u2:Value} {x1 x2:Bs} (hb:Below w.heap.size w W) (h1:OwnB W 5 u1 x1) (n1:∀ k,u1.ownBlock=some k→w.heap.size≤k) (h2:OwnB W 5 u2 x2) (n2:∀ k,u2.ownBlock=some k→w.heap.size≤k) :
  RowsN w (W.alloc (.cells #[u1,u2] 22)) (.slice (some ⟨W.heap.size,0,none⟩) 2 2) [u1,u2] [x1,x2]:=by
 have ha:=zAb W (.cells #[u1,u2] 22)
 have hs:=hb.size
 refine ⟨⟨⟨rfl,.inr ⟨W.heap.size,2,#[u1,u2],rfl,zAW W _,Nat.le_refl _,by decide,Nat.le_refl _,rfl⟩⟩,fun i u b hu hl=>?_,fun u hu k hk e=>?_⟩,⟨fun k hk=>?_,fun u hu k hk=>?_⟩,hb.trans (ha.mono hs)⟩
 ·match i,hu,hl with
  | 0,hu,hl=>cases hu;cases hl;exact zDr h1 ha
  | 1,hu,hl=>cases hu;cases hl;exact zDr h2 ha
 ·obtain rfl:W.heap.size=k:=Option.some.inj e
  rcases List.mem_cons.1 hu with rfl | hu
  ·have:=OwnR.lt h1 hk
   omega
  ·obtain rfl:u=u2:=by simpa using hu
   have:=OwnR.lt h2 hk
   omega
 ·cases hk
  exact hs
 ·rcases List.mem_cons.1 hu with rfl | hu
  ·exact n1 k hk
  ·obtain rfl:u=u2:=by simpa using hu
   exact n2 k hk
section
variable {w w1 w2:World} {j d:Nat} {pre:ByteArray} {D:zAA} {M:JouM} {F:Nat→Prop}
end
theorem zCg.shape {w:World} {j d:Nat} {pre:ByteArray} {own:Nat→Prop} {M:JouM} {gv dv ev:Value} {vs:List EV} (h:zCg w j d pre own M gv dv ev vs):∀ v ∈ vs,v.1.oneCell'=true∧v.2.oneCell'=true:=fun v hv=>by
 obtain ⟨i,hi⟩:=List.getElem?_of_mem hv
 have hl:=(List.getElem?_eq_some_iff.1 hi).1
 have he:=h.rows.2 i _ v (List.getElem?_eq_getElem (by rw [← h.rows.1];exact hl)) hi
 obtain ⟨p,c,e1,-⟩:=zAX he.data
 obtain ⟨q,c2,e2,-⟩:=own_capI he.nodes
 rw [e1,e2]
 exact ⟨rfl,rfl⟩
structure Snap.OK (s:Snap):Prop where
 number:s.number≤1099511627776
 term:isTm s.term=true
 group:zDY s.group=true
 data:s.data.length≤1073741824
section
variable {w w1 w2:World} {j d:Nat} {pre:ByteArray} {D:zAA} {M:JouM} {F F2:Nat→Prop}
end
structure Places (w:World) (r:Nat) (ps:List Addr):Prop where
 cell:∀ a ∈ ps,∃ z,w.cell? a=some (.int .i64 z)
 free:∀ a ∈ ps,w.frozen? a=false
 ne:∀ a ∈ ps,a.block≠r
 sp:∀ a ∈ ps,a.spot=none
theorem Places.chg {w w':World} {r:Nat} {ps:List Addr} (h:Places w r ps) (hc:Chg (fun k=>k=r) w w'):Places w' r ps:=by
 have hb:∀ a ∈ ps,w'.heap[a.block]?=w.heap[a.block]?:=fun a ha=>by
  obtain ⟨z,hz⟩:=h.cell a ha
  exact hc.block _ (World.block_lt_of_cell? _ _ hz) (h.ne a ha)
 exact ⟨fun a ha=>by obtain ⟨z,hz⟩:=h.cell a ha;exact ⟨z,(World.cell?_of_block (hb a ha)).trans hz⟩,fun a ha=>by have:=h.free a ha;simpa [World.frozen?,hb a ha] using this,h.ne,h.sp⟩
theorem Places.set {w:World} {r:Nat} {ps:List Addr} (h:Places w r ps) {a:Addr} (ha:a ∈ ps) (z:Int):Places (w.setCell a (.int .i64 z)) r ps:=by
 have hcell:∀ b,w.cell? b≠none→(∃ y,(w.setCell a (.int .i64 z)).cell? b=some y∧(y=.int .i64 z∨w.cell? b=some y)):=fun b hb=>by
  by_cases e:a=b
  ·subst e
   exact ⟨.int .i64 z,by obtain ⟨z',hz⟩:=h.cell a ha;exact World.cell?_setCell_same w a _ hz,.inl rfl⟩
  ·rw [World.cell?_setCell_other (h:=e)]
   cases hc:w.cell? b with
   | none=>exact absurd hc hb
   | some y=>exact ⟨y,rfl,.inr rfl⟩
 refine ⟨fun b hb=>?_,fun b hb=>by rw [World.frozen?_setCell];exact h.free b hb,h.ne,h.sp⟩
 ·obtain ⟨z',hz⟩:=h.cell b hb
  obtain ⟨y,hy,he⟩:=hcell b (by rw [hz];simp)
  rcases he with rfl | he
  ·exact ⟨z,hy⟩
  ·rw [hz] at he
   cases he
   exact ⟨z',hy⟩
theorem loadE_cases (o:Option zAP):loadE o=0∨loadE o=3∨loadE o=7:=by
 unfold loadE
 split
 ·split
  ·exact .inl rfl
  ·exact .inr (.inl rfl)
 ·exact .inr (.inr rfl)
theorem loadB_le {D:zAA} (h:D.OK) (n:Bs):(zBT (Sat.get n D.files)).length≤1073741824:=by
 have hln:=zCk h n
 cases ho:Sat.get n D.files with
 | none=>rw [zDJ];exact Nat.zero_le _
 | some f =>
  rw [ho] at hln
  rw [zCb]
  unfold oneB decB
  split
  ·split
   ·rw [List.length_take,List.length_drop]
    omega
   ·exact Nat.zero_le _
  ·exact Nat.zero_le _
theorem snapOf_7 {o:Option zAP} (h:loadE o=7):snapOf o=(0,none):=by unfold snapOf;rw [if_pos h]
theorem snapOf_0 {o:Option zAP} (h:loadE o=0):snapOf o=match snapIs (zBT o) with | none=>(3,none) | some s=>(0,some s):=by unfold snapOf;rw [if_neg (by omega),if_neg (by omega)];rfl
section
variable {w w1 w2:World} {j d:Nat} {pre:ByteArray} {D:zAA} {M:JouM} {F:Nat→Prop}
end
structure OpensJ (D:zAA) (pre:Bs) (nodes:List Int) where
 D1:zAA
 e1:Nat
 h1:D.rid1 (zAD (logN pre))=(D1,e1)
 D2:zAA
 e2:Nat
 h2:D1.rid1 (zAD (snpN pre))=(D2,e2)
 s:Nat × Option Snap
 hs:snapOf (Sat.get (snpN pre) D2.files)=s
 l:zAA × Nat × Bool × JouM
 hl:readLogJ D2 pre (JouM.none0 nodes)=l
theorem opensJ_of (D:zAA) (pre:Bs) (nodes:List Int):Nonempty (OpensJ D pre nodes):=⟨⟨_,_,rfl,_,_,rfl,_,rfl,_,rfl⟩⟩
section
variable {D:zAA} {pre:Bs} {nodes:List Int} (O:OpensJ D pre nodes)
theorem oj_rid2 (h1:O.e1=0):D.rid [zAD (logN pre),zAD (snpN pre)]=(O.D2,O.e2):=by
 unfold zAA.rid
 rw [O.h1]
 refine (if_pos h1).trans ?_
 show zAA.rid O.D1 [zAD (snpN pre)]=_
 unfold zAA.rid
 rw [O.h2]
 dsimp only
 by_cases h2:O.e2=0
 ·rw [if_pos h2]
  show (O.D2,0)=_
  rw [h2]
 ·exact if_neg h2
theorem oj_go (h:¬ (pre.length < 1∨20 < pre.length∨zDY nodes=false)) (h1:O.e1=0) (h2:O.e2=0) (h3:O.s.1=0):jouOpen D pre nodes=(if O.l.2.1≠0 then (O.l.1,O.l.2.1,JouM.none0 nodes) else
 match joins O.s.2 O.l.2.2.2 O.l.2.2.1 with
 | none=>(O.l.1,3,JouM.none0 nodes)
 | some (anew,M)=>if anew then ((writesJ O.l.1 pre M).1,(writesJ O.l.1 pre M).2,M) else (O.l.1,0,M)):=by
 unfold jouOpen
 rw [if_neg h,oj_rid2 O h1]
 dsimp only
 rw [if_neg (by simpa using h2),O.hs,if_neg (by simpa using h3),O.hl]
 rfl
theorem oj_keep (h:¬ (pre.length < 1∨20 < pre.length∨zDY nodes=false)) (h1:O.e1=0) (h2:O.e2=0) (h3:O.s.1=0) (h4:O.l.2.1=0) {M:JouM} (h5:joins O.s.2 O.l.2.2.2 O.l.2.2.1=some (false,M)):jouOpen D pre nodes=(O.l.1,0,M):=by
 rw [oj_go O h h1 h2 h3,if_neg (by simpa using h4),h5]
 rfl
end
structure RowB (w W:World) (v:Value) (l:Bs):Prop where
 own:OwnB W 5 v l
 new:∀ k,v.ownBlock=some k→w.heap.size≤k
 bel:Below w.heap.size w W
theorem RowB.nil (w:World):RowB w w (.slice none 0 0) []:=⟨OwnR.nil _ _ _,fun k hk=>(by cases hk),Below.refl _ _⟩
theorem RowB.next {w W W2:World} {v:Value} {l:Bs} (h:RowB w W v l) (hb:Below W.heap.size W W2):RowB w W2 v l:=⟨zDr h.own hb,h.new,h.bel.trans (hb.mono h.bel.size)⟩
theorem RowB.alloc {w W:World} {v:Value} {l:Bs} (h:RowB w W v l) (o:Obj):RowB w (W.alloc o) v l:=h.next (zAb W o)
theorem RowB.told {w W:World} {v:Value} {l:Bs} (h:RowB w W v l):RowNew w l (.returned v) W:=⟨v,rfl,h.own,h.new,h.bel⟩
theorem RowB.grown {w W0 w3:World} {v v3:Value} {l x:Bs} (h:RowB w W0 v l) (hown:OwnR w3 5 1 v3 (l.length+x.length) (zAN l ++ zAN x)) (hg:W0.grownBy w3 v.ownBlock) (hloc:v3.ownBlock=v.ownBlock∨∃ g,v3.ownBlock=some g∧W0.heap.size≤g):RowB w w3 v3 (l ++ x):=by
 refine ⟨?_,zAj hloc h.new h.bel.size,h.bel.grown hg h.bel.size fun j e=>h.new j e⟩
 show OwnR _ _ _ _ (l ++ x).length (zAN (l ++ x))
 rw [List.length_append,show zAN (l ++ x)=zAN l ++ zAN x from List.map_append]
 exact hown
theorem or_high2 {a:Nat} (ha:a≤4611686018427387904):bits .or .u8 (bits .and .u64 (a:Int) 127 % 256) 128=(((UInt8.ofNat (a % 128+128)).toNat:Nat):Int):=by
 have h1:bits .and .u64 (a:Int) 127=((a % 128:Nat):Int):=by
  refine (u64_and_nat a 127 (by omega) (by decide)).trans ?_
  rw [show (127:Nat)=2 ^ 7 - 1 from rfl,Nat.and_two_pow_sub_one_eq_mod]
 have h2:∀ y:Fin 256,(y.val ||| 128)=y.val % 128+128:=by decide +kernel
 have h3:(a % 128 ||| 128)=a % 128 % 128+128:=h2 ⟨a % 128,by omega⟩
 rw [h1,show ((a % 128:Nat):Int) % 256=((a % 128:Nat):Int) by omega]
 refine (u8_or_nat (a % 128) 128 (by omega) (by decide)).trans ?_
 rw [h3,UInt8.toNat_ofNat']
 omega
theorem zDb (w:World) (z:Int) (hz:-9223372036854775808≤z∧z≤9223372036854775807) :
  Calls Tryz.prog 118 #[.int .i64 z] w (RowNew w (numI z)):=by
 obtain ⟨i0,hi,hz0,hz1,hz2⟩:=info_parts (show (Tryz.prog.info? 5).map (fun i=>(i.zero,i.size,i.bytes))=some (some (.int .u8 0),1,1) by kernel_rfl)
 obtain ⟨hza,hzb⟩:=hz
 have main:∀ (K:Nat),(K=(max 0 (min z 4611686018427387904)).toNat)→K≤4611686018427387904:=fun K hK=>by omega
 have HN:=zh (show numI z=numB (max 0 (min z 4611686018427387904)).toNat from rfl)
 generalize hN:(max 0 (min z 4611686018427387904)).toNat=N at *
 have hN2:N≤4611686018427387904:=main N rfl
 have HNz:=zh hN
 clear main hN
 go_enter Tryz.func118,Tryz.ntmps118
 by_cases h1:4611686018427387904 < z
 ·have hNe:N=4611686018427387904:=by have:=HNz.out;omega
  have HNe:=zh hNe
  clear hNe
  go_wp2_with fail
  go_loopw [3,4] (fun u b wr=>∃ (a:Nat) (cur:Bs) (bv:Value),u=.int .u64 a∧bv=b∧a≤4611686018427387904∧RowB w wr bv cur∧cur ++ numB a=numB N) (fun u _ _=>(intOf u).toNat)
  case atStart=>exact ⟨4611686018427387904,[],_,rfl,rfl,Nat.le_refl _,RowB.nil w,by rw [HNe.out];rfl⟩
  case round =>
   obtain ⟨a,cur,bv,rfl,rfl,ha,hst,hcur⟩:=hrel
   have hlen:=zAu hN2
   rw [← hcur,List.length_append] at hlen
   have hba:=numB_len a
   have Hst:=zh hst
   have Hcur:=zh hcur
   obtain ⟨pv,cv,rfl,-⟩:=zAX hst.own
   clear hst hcur
   generalize hL:cur.length=m at *
   have HL:=zh hL
   clear hL
   have Hrow:=zh (show OwnR wr 5 1 (.slice pv m cv) m (zAN cur) by have:=Hst.out.own;unfold OwnB at this;rwa [HL.out] at this)
   by_cases h128:128≤a
   ·have Hmore:=zh (zCc h128)
    have hor:=or_high2 ha
    generalize UInt8.ofNat (a % 128+128)=x at *
    go_wp2_with (at_builtin;have hal:=zBz Hrow.out (.cells #[.int .u8 (x.toNat:Int)] 5);have hxx:=zC5 wr x;refine zAR _ rfl (.tmp 13) (.tmp 18) 22 rfl 5 i0 (.int .u8 0) 1 1 Tryz.underlying22 hi hz0 hz1 hz2 rfl (by decide) (.slice pv m cv) m _ rfl hal (.slice (some ⟨wr.heap.size,0,none⟩) 1 1) 1 _ rfl hxx (zAM _) (by unfold maxLen;omega) (by omega) ?_;clear hal hxx;intro v3 w3 hown3 hgrow3 hloc3;go_loud (have HE:=zh (RowB.grown (x:=[x]) (Hst.out.alloc (.cells #[.int .u8 (x.toNat:Int)] 5)) (by rw [HL.out];exact hown3) hgrow3 hloc3);clear hgrow3 hloc3;obtain ⟨p3,q3,rfl⟩:=OwnR.shape hown3;clear hown3))
    go_roundw
    case rel=>exact ⟨a / 128,cur ++ [x],_,by first | rfl | go_num,rfl,by omega,HE.out,by rw [← Hcur.out,Hmore.out];simp⟩
    case measure=>simp [intOf];omega
   ·have Hless:=zh (zBq (n:=a) (by omega))
    obtain ⟨x,hx⟩:∃ x:UInt8,a=x.toNat:=⟨UInt8.ofNat a,by rw [UInt8.toNat_ofNat'];omega⟩
    rw [show UInt8.ofNat a=x by rw [hx];simp] at Hless
    subst hx
    have hwr:(x.toNat:Int) % 256=(x.toNat:Int):=by omega
    have hax:=x.toNat_lt
    go_wp2_with (at_builtin;have hal:=zBz Hrow.out (.cells #[.int .u8 (x.toNat:Int)] 5);have hxx:=zC5 wr x;refine zAR _ rfl (.tmp 22) (.tmp 25) 22 rfl 5 i0 (.int .u8 0) 1 1 Tryz.underlying22 hi hz0 hz1 hz2 rfl (by decide) (.slice pv m cv) m _ rfl hal (.slice (some ⟨wr.heap.size,0,none⟩) 1 1) 1 _ rfl hxx (zAM _) (by unfold maxLen;omega) (by omega) ?_;clear hal hxx;intro v3 w3 hown3 hgrow3 hloc3;go_loud (have HE:=zh (RowB.grown (x:=[x]) (Hst.out.alloc (.cells #[.int .u8 (x.toNat:Int)] 5)) (by rw [HL.out];exact hown3) hgrow3 hloc3);clear hgrow3 hloc3;obtain ⟨p3,q3,rfl⟩:=OwnR.shape hown3;clear hown3))
    go_ret
    have:=HE.out.told
    rw [HN.out,← Hcur.out,Hless.out]
    exact this
 ·by_cases h2:0 < z
  ·have hcv:IntKind.u64.wrap z=z:=by rw [show IntKind.u64.wrap z=z % 18446744073709551616 from rfl];omega
   have hcv2:z % 18446744073709551616=z:=by omega
   have hNe:z=(N:Int):=by have:=HNz.out;omega
   have HNe:=zh hNe
   clear hNe
   go_wp2_with fail
   go_loopw [3,4] (fun u b wr=>∃ (a:Nat) (cur:Bs) (bv:Value),u=.int .u64 a∧bv=b∧a≤4611686018427387904∧RowB w wr bv cur∧cur ++ numB a=numB N) (fun u _ _=>(intOf u).toNat)
   case atStart=>exact ⟨N,[],_,by rw [HNe.out],rfl,hN2,RowB.nil w,rfl⟩
   case round =>
    obtain ⟨a,cur,bv,rfl,rfl,ha,hst,hcur⟩:=hrel
    have hlen:=zAu hN2
    rw [← hcur,List.length_append] at hlen
    have hba:=numB_len a
    have Hst:=zh hst
    have Hcur:=zh hcur
    obtain ⟨pv,cv,rfl,-⟩:=zAX hst.own
    clear hst hcur
    generalize hL:cur.length=m at *
    have HL:=zh hL
    clear hL
    have Hrow:=zh (show OwnR wr 5 1 (.slice pv m cv) m (zAN cur) by have:=Hst.out.own;unfold OwnB at this;rwa [HL.out] at this)
    by_cases h128:128≤a
    ·have Hmore:=zh (zCc h128)
     have hor:=or_high2 ha
     generalize UInt8.ofNat (a % 128+128)=x at *
     go_wp2_with (at_builtin;have hal:=zBz Hrow.out (.cells #[.int .u8 (x.toNat:Int)] 5);have hxx:=zC5 wr x;refine zAR _ rfl (.tmp 13) (.tmp 18) 22 rfl 5 i0 (.int .u8 0) 1 1 Tryz.underlying22 hi hz0 hz1 hz2 rfl (by decide) (.slice pv m cv) m _ rfl hal (.slice (some ⟨wr.heap.size,0,none⟩) 1 1) 1 _ rfl hxx (zAM _) (by unfold maxLen;omega) (by omega) ?_;clear hal hxx;intro v3 w3 hown3 hgrow3 hloc3;go_loud (have HE:=zh (RowB.grown (x:=[x]) (Hst.out.alloc (.cells #[.int .u8 (x.toNat:Int)] 5)) (by rw [HL.out];exact hown3) hgrow3 hloc3);clear hgrow3 hloc3;obtain ⟨p3,q3,rfl⟩:=OwnR.shape hown3;clear hown3))
     go_roundw
     case rel=>exact ⟨a / 128,cur ++ [x],_,by first | rfl | go_num,rfl,by omega,HE.out,by rw [← Hcur.out,Hmore.out];simp⟩
     case measure=>simp [intOf];omega
    ·have Hless:=zh (zBq (n:=a) (by omega))
     obtain ⟨x,hx⟩:∃ x:UInt8,a=x.toNat:=⟨UInt8.ofNat a,by rw [UInt8.toNat_ofNat'];omega⟩
     rw [show UInt8.ofNat a=x by rw [hx];simp] at Hless
     subst hx
     have hwr:(x.toNat:Int) % 256=(x.toNat:Int):=by omega
     have hax:=x.toNat_lt
     go_wp2_with (at_builtin;have hal:=zBz Hrow.out (.cells #[.int .u8 (x.toNat:Int)] 5);have hxx:=zC5 wr x;refine zAR _ rfl (.tmp 22) (.tmp 25) 22 rfl 5 i0 (.int .u8 0) 1 1 Tryz.underlying22 hi hz0 hz1 hz2 rfl (by decide) (.slice pv m cv) m _ rfl hal (.slice (some ⟨wr.heap.size,0,none⟩) 1 1) 1 _ rfl hxx (zAM _) (by unfold maxLen;omega) (by omega) ?_;clear hal hxx;intro v3 w3 hown3 hgrow3 hloc3;go_loud (have HE:=zh (RowB.grown (x:=[x]) (Hst.out.alloc (.cells #[.int .u8 (x.toNat:Int)] 5)) (by rw [HL.out];exact hown3) hgrow3 hloc3);clear hgrow3 hloc3;obtain ⟨p3,q3,rfl⟩:=OwnR.shape hown3;clear hown3))
     go_ret
     have:=HE.out.told
     rw [HN.out,← Hcur.out,Hless.out]
     exact this
  ·have hNe:N=0:=by have:=HNz.out;omega
   have HNe:=zh hNe
   clear hNe
   go_wp2_with fail
   go_loopw [3,4] (fun u b wr=>∃ (a:Nat) (cur:Bs) (bv:Value),u=.int .u64 a∧bv=b∧a≤4611686018427387904∧RowB w wr bv cur∧cur ++ numB a=numB N) (fun u _ _=>(intOf u).toNat)
   case atStart=>exact ⟨0,[],_,rfl,rfl,by decide,RowB.nil w,by rw [HNe.out];rfl⟩
   case round =>
    obtain ⟨a,cur,bv,rfl,rfl,ha,hst,hcur⟩:=hrel
    have hlen:=zAu hN2
    rw [← hcur,List.length_append] at hlen
    have hba:=numB_len a
    have Hst:=zh hst
    have Hcur:=zh hcur
    obtain ⟨pv,cv,rfl,-⟩:=zAX hst.own
    clear hst hcur
    generalize hL:cur.length=m at *
    have HL:=zh hL
    clear hL
    have Hrow:=zh (show OwnR wr 5 1 (.slice pv m cv) m (zAN cur) by have:=Hst.out.own;unfold OwnB at this;rwa [HL.out] at this)
    by_cases h128:128≤a
    ·have Hmore:=zh (zCc h128)
     have hor:=or_high2 ha
     generalize UInt8.ofNat (a % 128+128)=x at *
     go_wp2_with (at_builtin;have hal:=zBz Hrow.out (.cells #[.int .u8 (x.toNat:Int)] 5);have hxx:=zC5 wr x;refine zAR _ rfl (.tmp 13) (.tmp 18) 22 rfl 5 i0 (.int .u8 0) 1 1 Tryz.underlying22 hi hz0 hz1 hz2 rfl (by decide) (.slice pv m cv) m _ rfl hal (.slice (some ⟨wr.heap.size,0,none⟩) 1 1) 1 _ rfl hxx (zAM _) (by unfold maxLen;omega) (by omega) ?_;clear hal hxx;intro v3 w3 hown3 hgrow3 hloc3;go_loud (have HE:=zh (RowB.grown (x:=[x]) (Hst.out.alloc (.cells #[.int .u8 (x.toNat:Int)] 5)) (by rw [HL.out];exact hown3) hgrow3 hloc3);clear hgrow3 hloc3;obtain ⟨p3,q3,rfl⟩:=OwnR.shape hown3;clear hown3))
     go_roundw
     case rel=>exact ⟨a / 128,cur ++ [x],_,by first | rfl | go_num,rfl,by omega,HE.out,by rw [← Hcur.out,Hmore.out];simp⟩
     case measure=>simp [intOf];omega
    ·have Hless:=zh (zBq (n:=a) (by omega))
     obtain ⟨x,hx⟩:∃ x:UInt8,a=x.toNat:=⟨UInt8.ofNat a,by rw [UInt8.toNat_ofNat'];omega⟩
     rw [show UInt8.ofNat a=x by rw [hx];simp] at Hless
     subst hx
     have hwr:(x.toNat:Int) % 256=(x.toNat:Int):=by omega
     have hax:=x.toNat_lt
     go_wp2_with (at_builtin;have hal:=zBz Hrow.out (.cells #[.int .u8 (x.toNat:Int)] 5);have hxx:=zC5 wr x;refine zAR _ rfl (.tmp 22) (.tmp 25) 22 rfl 5 i0 (.int .u8 0) 1 1 Tryz.underlying22 hi hz0 hz1 hz2 rfl (by decide) (.slice pv m cv) m _ rfl hal (.slice (some ⟨wr.heap.size,0,none⟩) 1 1) 1 _ rfl hxx (zAM _) (by unfold maxLen;omega) (by omega) ?_;clear hal hxx;intro v3 w3 hown3 hgrow3 hloc3;go_loud (have HE:=zh (RowB.grown (x:=[x]) (Hst.out.alloc (.cells #[.int .u8 (x.toNat:Int)] 5)) (by rw [HL.out];exact hown3) hgrow3 hloc3);clear hgrow3 hloc3;obtain ⟨p3,q3,rfl⟩:=OwnR.shape hown3;clear hown3))
     go_ret
     have:=HE.out.told
     rw [HN.out,← Hcur.out,Hless.out]
     exact this
abbrev RJC (r:Nat) (n t:Int) (gv:Value) (pre:ByteArray) (now vote:Int) (dv ev:Value) (dead:Bool):Obj:=.cells #[.int .i64 n,.int .i64 t,gv,.pointer (some ⟨r,0,none⟩),.string pre,.int .i64 now,.int .i64 vote,dv,ev,.bool dead] 84 (0,0)
def RSt (w0 w1:World) (r:Nat) (own0:Nat→Prop) (D:zAA) (F:Nat→Prop):Prop :=
 ∃ own v L,zAU w1 r v L own D∧Chg own0 w0 w1∧(∀ k,own k→(own0 k∨w0.heap.size≤k)∧¬ F k)∧∀ k,F k→k < w1.heap.size
section
variable {w w0 w1 w2:World} {r:Nat} {v:Value} {L:List zAF} {own own0:Nat→Prop} {D:zAA} {F:Nat→Prop}
theorem RSt.start (h:zAU w r v L own D) (hb:Below w.heap.size w w1) (hF:∀ k,F k→¬ own k∧k < w1.heap.size):RSt w w1 r own D F :=
 ⟨own,v,L,h.below hb,(Chg.of_below hb).mono fun _ _ h=>h.elim,fun k hk=>⟨.inl hk,fun hf=>(hF k hf).1 hk⟩,fun k hk=>(hF k hk).2⟩
theorem RSt.ok (h:RSt w0 w1 r own0 D F):D.OK:=let ⟨_,_,_,hR,_⟩:=h;hR.ok
theorem RSt.flt (h:RSt w0 w1 r own0 D F) {k:Nat} (hk:F k):k < w1.heap.size:=let ⟨_,_,_,_,_,_,hF⟩:=h;hF k hk
theorem RSt.next (h:RSt w0 w1 r own0 D F) (hb:Below w1.heap.size w1 w2):RSt w0 w2 r own0 D F:=by
 obtain ⟨own,v,L,hR,hc,hx,hF⟩:=h
 exact ⟨own,v,L,hR.below hb,hc.trans (Chg.of_below hb) fun _ _ h=>h.elim,hx,fun k hk=>Nat.lt_of_lt_of_le (hF k hk) hb.size⟩
theorem RSt.same (h:RSt w0 w1 r own0 D F) (hb:Below w1.heap.size w1 w2):Same F w1 w2:=fun _ hk=>hb.block _ (h.flt hk)
theorem RSt.apart {F':Nat→Prop} (h:RSt w0 w1 r own0 D F) (hb:Below w1.heap.size w1 w2) (hF':∀ k,F' k→F k∨(w1.heap.size≤k∧k < w2.heap.size)):RSt w0 w2 r own0 D F':=by
 obtain ⟨own,v,L,hR,hc,hx,hF⟩:=h
 refine ⟨own,v,L,hR.below hb,hc.trans (Chg.of_below hb) fun _ _ h=>h.elim,fun k hk=>⟨(hx k hk).1,fun hf=>?_⟩,fun k hk=>?_⟩
 ·rcases hF' k hf with h | h
  ·exact (hx k hk).2 h
  ·have:=hR.olt k hk
   omega
 ·rcases hF' k hk with h | h
  ·exact Nat.lt_of_lt_of_le (hF k h) hb.size
  ·exact h.2
theorem zCw {P:Program} {f:FuncId} {args:Array Value} {Re:zAA × Nat} (h:RSt w0 w1 r own0 D F) (hx:∀ own v L,zAU w1 r v L own D→(∀ k,own k→¬ F k)→Calls P f args w1 (zBi w1 r own Re)) :
  Calls P f args w1 fun e w'=>e=.returned (.int .i64 (Re.2:Int))∧RSt w0 w' r own0 Re.1 F∧Same F w1 w':=by
 obtain ⟨own,v,L,hR,hc,hown,hF⟩:=h
 refine (hx own v L hR fun k hk=>(hown k hk).2).mono ?_
 rintro e w' ⟨rfl,own',⟨v',L',hR'⟩,hc',he⟩
 refine ⟨rfl,⟨own',v',L',hR',hc.trans hc' fun i hi ho=>?_,fun k hk=>?_,fun k hk=>Nat.lt_of_lt_of_le (hF k hk) hc'.size⟩,fun k hk=>hc'.block k (hF k hk) fun ho=>(hown k ho).2 hk⟩
 ·rcases (hown i ho).1 with h | h
  ·exact h
  ·omega
 ·rcases he k hk with h | h
  ·exact hown k h
  ·exact ⟨.inr (Nat.le_trans hc.size h),fun hf=>by have:=hF k hf;omega⟩
theorem RSt.stop (h:RSt w0 w1 r own0 D F) (k:Nat):zBi w0 r own0 (D,k) (.returned (.int .i64 (k:Int))) w1:=by
 obtain ⟨own,v,L,hR,hc,hx,-⟩:=h
 exact ⟨rfl,own,⟨v,L,hR⟩,hc,fun k hk=>(hx k hk).1⟩
theorem rst_has (h:RSt w0 w1 r own0 D F) (s:ByteArray) :
  Calls Tryz.prog 198 #[.pointer (some ⟨r,0,none⟩),.string s] w1 fun e w'=>e=.returned (.bool (Sat.get (nm s) D.files).isSome)∧RSt w0 w' r own0 D F∧Same F w1 w':=by
 have h0:=h
 obtain ⟨own,v,L,hR,-⟩:=h
 exact (rhas_calls hR s).mono fun e w' ⟨he,hb⟩=>⟨he,h0.next hb,h0.same hb⟩
theorem rstep_below {w':World} {R:zAA × Nat} {e:Ending} {w'':World} (hb:Below w.heap.size w w') (h:zBi w' r own R e w''):zBi w r own R e w'':=by
 obtain ⟨he,own',hR,hc,hx⟩:=h
 exact ⟨he,own',hR,zBk hb hc,fun k hk=>(hx k hk).imp id fun h=>Nat.le_trans hb.size h⟩
end
structure RJIn (w:World) (j r:Nat) (pre:ByteArray) (O C:Nat→Prop) (M:JouM) (gv dv ev:Value) (vs:List EV):Prop where
 cells:w.heap[j]?=some (RJC r (M.number:Int) M.term gv pre M.now M.vote dv ev M.dead)
 group:HasI w gv M.group
 data:HasB w dv M.data
 row:OwnR w 50 4 ev M.entries.length (entsC M.entries vs)
 rlen:vs.length=M.entries.length
 rows:∀ (i:Nat) e v,M.entries[i]?=some e→vs[i]?=some v→zCz w e v
 oj:O j
 oe:∀ k,ev.ownBlock=some k→O k∧k≠j
 cg:∀ k,gv.ownBlock=some k→C k
 cd:∀ k,dv.ownBlock=some k→C k
 cv:∀ u ∈ vs,∀ k,(u.1.ownBlock=some k∨u.2.ownBlock=some k)→C k
 dis:∀ k,C k→¬ O k
 olt:∀ k,O k→k < w.heap.size
 clt:∀ k,C k→k < w.heap.size
 psz:1≤pre.size∧pre.size≤20
 ok:M.OK
section
variable {w w':World} {j r:Nat} {pre:ByteArray} {O C:Nat→Prop} {M:JouM} {gv dv ev:Value} {vs:List EV}
theorem zCz.keep {e:Ent} {v:EV} (h:zCz w e v) (hb:∀ k,(v.1.ownBlock=some k∨v.2.ownBlock=some k)→w'.heap[k]?=w.heap[k]?):zCz w' e v :=
 ⟨zAY.keep h.data fun k hk=>hb k (.inl hk),zAY.keep h.nodes fun k hk=>hb k (.inr hk),h.dl,h.nl⟩
theorem RJIn.keep (h:RJIn w j r pre O C M gv dv ev vs) (hs:∀ k,O k∨C k→w'.heap[k]?=w.heap[k]?) (hl:∀ k,O k∨C k→k < w'.heap.size):RJIn w' j r pre O C M gv dv ev vs where
 cells:=(hs j (.inl h.oj)).trans h.cells
 group:=zAY.keep h.group fun k hk=>hs k (.inr (h.cg k hk))
 data:=zAY.keep h.data fun k hk=>hs k (.inr (h.cd k hk))
 row:=h.row.keep fun k hk=>hs k (.inl (h.oe k hk).1)
 rlen:=h.rlen
 rows:=fun i e v he hv=>(h.rows i e v he hv).keep fun k hk=>hs k (.inr (h.cv v (List.mem_of_getElem? hv) k hk))
 oj:=h.oj
 oe:=h.oe
 cg:=h.cg
 cd:=h.cd
 cv:=h.cv
 dis:=h.dis
 olt:=fun k hk=>hl k (.inl hk)
 clt:=fun k hk=>hl k (.inr hk)
 psz:=h.psz
 ok:=h.ok
theorem RJIn.below (h:RJIn w j r pre O C M gv dv ev vs) (hb:Below w.heap.size w w'):RJIn w' j r pre O C M gv dv ev vs :=
 h.keep (fun k hk=>hb.block k (hk.elim (h.olt k) (h.clt k))) fun k hk=>Nat.lt_of_lt_of_le (hk.elim (h.olt k) (h.clt k)) hb.size
theorem RJIn.chg {S:Nat→Prop} (h:RJIn w j r pre O C M gv dv ev vs) (hc:Chg S w w') (hS:∀ k,S k→¬ O k∧¬ C k):RJIn w' j r pre O C M gv dv ev vs :=
 h.keep (fun k hk=>hc.block k (hk.elim (h.olt k) (h.clt k)) fun s=>hk.elim (hS k s).1 (hS k s).2) fun k hk=>Nat.lt_of_lt_of_le (hk.elim (h.olt k) (h.clt k)) hc.size
theorem RJIn.c (h:RJIn w j r pre O C M gv dv ev vs) (i:Nat) {v:Value} (hi:(#[.int .i64 (M.number:Int),.int .i64 M.term,gv,.pointer (some ⟨r,0,none⟩),.string pre,.int .i64 M.now,.int .i64 M.vote,dv,ev,.bool M.dead]:Array Value)[i]?=some v):w.cell? ⟨j,i,none⟩=some v:=zAC h.cells hi
theorem RJIn.fr (h:RJIn w j r pre O C M gv dv ev vs) (i:Nat):w.frozen? ⟨j,i,none⟩=false:=zAI h.cells i
theorem RJIn.ent (h:RJIn w j r pre O C M gv dv ev vs) {i:Nat} {e:Ent} (he:M.entries[i]?=some e):∃ g c v,ev=.slice (some ⟨g,0,none⟩) M.entries.length c∧vs[i]?=some v∧zCz w e v ∧
  w.cell? ⟨g,i * 4,none⟩=some (.int .i64 e.term)∧w.cell? ⟨g,i * 4+1,none⟩=some (.int .i64 e.kind)∧w.cell? ⟨g,i * 4+2,none⟩=some v.1∧w.cell? ⟨g,i * 4+3,none⟩=some v.2:=by
 have hi:=(List.getElem?_eq_some_iff.1 he).1
 have hv:vs[i]?=some (vs[i]'(by rw [h.rlen];exact hi)):=List.getElem?_eq_getElem _
 generalize vs[i]'(by rw [h.rlen];exact hi)=v at hv
 rcases h.row.2 with ⟨-,h0⟩ | ⟨g,cap,cur,rfl,-⟩
 ·omega
 ·have hc:∀ (k:Nat) u,(entC e v)[k]?=some u→w.cell? ⟨g,i * 4+k,none⟩=some u:=fun k u hu=>by
   have:=h.row.cells (g:=g) rfl (i * 4+k) u (entsC_at _ _ i e v he hv k u hu)
   rwa [add_zero] at this
  exact ⟨g,cap,v,rfl,hv,h.rows i e v he hv,hc 0 _ rfl,hc 1 _ rfl,hc 2 _ rfl,hc 3 _ rfl⟩
end
def RJF (w1:World) (j r:Nat) (pre:ByteArray) (D:zAA) (M:JouM) (Hot Cold:Nat→Prop):Prop :=
 ∃ O own gv dv ev vs v L,RJIn w1 j r pre O Cold M gv dv ev vs∧zAU w1 r v L own D∧(∀ k,O k→¬ own k)∧(∀ k,Cold k→¬ own k)∧∀ k,Hot k ↔ O k∨own k
section
variable {w1 w2:World} {j r:Nat} {pre:ByteArray} {D:zAA} {M:JouM} {Hot Cold:Nat→Prop}
theorem RJF.okD (h:RJF w1 j r pre D M Hot Cold):D.OK:=let ⟨_,_,_,_,_,_,_,_,_,hR,_⟩:=h;hR.ok
theorem RJF.hlt (h:RJF w1 j r pre D M Hot Cold) {k:Nat} (hk:Hot k):k < w1.heap.size:=by
 obtain ⟨_,_,_,_,_,_,_,_,hJ,hR,_,_,hH⟩:=h
 exact ((hH k).1 hk).elim (hJ.olt k) (hR.olt k)
theorem RJF.clt (h:RJF w1 j r pre D M Hot Cold) {k:Nat} (hk:Cold k):k < w1.heap.size:=let ⟨_,_,_,_,_,_,_,_,hJ,_⟩:=h;hJ.clt k hk
theorem RJF.dis (h:RJF w1 j r pre D M Hot Cold) {k:Nat} (hk:Cold k):¬ Hot k:=by
 obtain ⟨_,_,_,_,_,_,_,_,hJ,hR,_,hC,hH⟩:=h
 exact fun hh=>((hH k).1 hh).elim (hJ.dis k hk) (hC k hk)
theorem RJF.psz (h:RJF w1 j r pre D M Hot Cold):1≤pre.size∧pre.size≤20:=let ⟨_,_,_,_,_,_,_,_,hJ,_⟩:=h;hJ.psz
theorem RJF.chg {S:Nat→Prop} (h:RJF w1 j r pre D M Hot Cold) (hc:Chg S w1 w2) (hS:∀ k,S k→¬ Hot k∧¬ Cold k):RJF w2 j r pre D M Hot Cold:=by
 obtain ⟨O,own,gv,dv,ev,vs,v,L,hJ,hR,hO,hC,hH⟩:=h
 exact ⟨O,own,gv,dv,ev,vs,v,L,hJ.chg hc fun k s=>⟨fun o=>(hS k s).1 ((hH k).2 (.inl o)),(hS k s).2⟩,hR.keep hc.size (fun k hk=>hc.block k (hR.olt k hk) fun s=>(hS k s).1 ((hH k).2 (.inr hk))),hO,hC,hH⟩
theorem RJF.below (h:RJF w1 j r pre D M Hot Cold) (hb:Below w1.heap.size w1 w2):RJF w2 j r pre D M Hot Cold:=h.chg (Chg.of_below hb) fun _ s=>s.elim
theorem RJF.drewN (h:RJF w1 j r pre D M Hot Cold) (q:Nat):RJF (w1.drewN q) j r pre D M Hot Cold:=h.below ⟨rfl,rfl,rfl,Nat.le_refl _,fun _ _=>rfl⟩
def RJTold (w1:World) (j r:Nat) (pre:ByteArray) (Hot Cold:Nat→Prop) (res:WroteJ) (e:Ending) (w':World):Prop :=
 e=.returned (.int .i64 (res.err:Int))∧∃ Hot' Cold',RJF w' j r pre res.disk res.jou Hot' Cold'∧Chg Hot w1 w'∧(∀ k,Hot' k→Hot k∨w1.heap.size≤k)∧∀ k,Cold' k→Cold k∨w1.heap.size≤k
end
def JouM.upto (M:JouM) (z:Int):Nat:=min (z - (M.number:Int)).toNat M.entries.length
section
variable {w1 w2:World} {j r:Nat} {pre:ByteArray} {D:zAA} {M:JouM} {Hot Cold:Nat→Prop}
end
abbrev RowT:=TypeId × Value × Nat × List Value
structure RowS (W1 W:World) (x:RowT):Prop where
 own:OwnR W x.1 1 x.2.1 x.2.2.1 x.2.2.2
 new:∀ k,x.2.1.ownBlock=some k→W1.heap.size≤k
def zCU (W1 W:World) (a b:Option RowT):Prop:=Below W1.heap.size W1 W∧(∀ x,a=some x→RowS W1 W x)∧(∀ y,b=some y→RowS W1 W y)∧∀ x y,a=some x→b=some y→∀ k,x.2.1.ownBlock=some k→y.2.1.ownBlock≠some k
section
variable {W1 W W':World} {a b:Option RowT} {e:TypeId} {v v':Value} {n m:Nat} {xs news:List Value}
theorem zCU.swap (h:zCU W1 W a b):zCU W1 W b a:=⟨h.1,h.2.2.1,h.2.1,fun x y hx hy k hk e=>h.2.2.2 y x hy hx k e hk⟩
theorem zCU.own (h:zCU W1 W (some (e,v,n,xs)) b):OwnR W e 1 v n xs:=(h.2.1 _ rfl).own
theorem zCU.new (h:zCU W1 W (some (e,v,n,xs)) b):∀ k,v.ownBlock=some k→W1.heap.size≤k:=(h.2.1 _ rfl).new
theorem zCU.alloc (h:zCU W1 W none b):zCU W1 (W.alloc (.cells #[] e)) (some (e,.slice (some ⟨W.heap.size,0,none⟩) 0 0,0,[])) b:=by
 have hb:=zAb W (.cells #[] e)
 refine ⟨h.1.trans (hb.mono h.1.size),fun x hx=>?_,fun y hy=>⟨OwnR.keep (h.2.2.1 y hy).own fun k hk=>hb.block k (OwnR.lt (h.2.2.1 y hy).own hk),(h.2.2.1 y hy).new⟩,fun x y hx hy k hk e2=>?_⟩
 ·cases hx
  refine ⟨zAq W e,fun k hk=>?_⟩
  have:=Option.some.inj hk
  have:=h.1.size
  dsimp only at *
  omega
 ·cases hx
  have h1:=OwnR.lt (h.2.2.1 y hy).own e2
  have h2:=Option.some.inj hk
  dsimp only at h2
  omega
end
section
variable {w:World} {r:Nat} {v:Value} {L:List zAF} {own:Nat→Prop} {D:zAA}
theorem rwhole_calls (h:zAU w r v L own D) (s:ByteArray) (hs:s.size≤9223372036854775000) {pb:Option Addr} {m cb:Nat} {l:Bs} (hl:HasB w (.slice pb m cb) l) (hlm:l.length≤140737488355328) (hF:∀ k,(Value.slice pb m cb).ownBlock=some k→¬ own k∧k < w.heap.size) :
  Calls Tryz.prog 168 #[.pointer (some ⟨r,0,none⟩),.string s,.slice pb m cb] w (zBi w r own (D.save1 (nm s) l)):=by
 have hsh:(s ++ (⟨#[126]⟩:ByteArray)).size=s.size+1:=by simp [ByteArray.size_append];rfl
 have hst:RSt w w r own D (fun k=>(Value.slice pb m cb).ownBlock=some k):=RSt.start h (Below.refl _ _) hF
 have Hth:=zh (rst_has hst (s ++ (⟨#[126]⟩:ByteArray)))
 rw [zAp] at Hth
 have Hl:=zh hl
 have Hlm:=zh hlm
 clear hst h hl hlm hF
 cases hg:Sat.get (zAD (nm s)) D.files with
 | none =>
  rw [hg] at Hth
  obtain ⟨D0,h0,hD⟩:∃ D0,D.save0 (nm s)=(D0,0)∧D0=D:=⟨D,by unfold zAA.save0;rw [hg];rfl,rfl⟩
  go_enter Tryz.func168,Tryz.ntmps168
  go_wp2_with fail
  refine Hth.out.mono ?_
  rintro e w3 ⟨rfl,hst3,hs3⟩
  rw [← hD] at hst3
  have Hst:=zh hst3
  have Hv:=zh (Hl.out.same hs3)
  clear hst3 hs3 Hth hD hg
  have Hap:=zh (zCw Hst.out (Re:=D0.append (zAD (nm s)) l) fun own v L hR hn=>by
   have:=zCu hR (s ++ (⟨#[126]⟩:ByteArray)) (by rw [hsh];omega) (Hv.out) Hlm.out (fun _ k hk ho=>hn k ho hk)
   rwa [zAp] at this)
  cases h1:zAA.append D0 (zAD (nm s)) l with
  | mk D1 e1 =>
   rw [h1] at Hap
   by_cases he1:e1=0
   ·subst he1
    go_wp2_with fail
    refine Hap.out.mono ?_
    rintro e w5 ⟨rfl,hst5,-⟩
    have Hst5:=zh (show RSt w w5 r own D1 (fun k=>(Value.slice pb m cb).ownBlock=some k) from hst5)
    have Hsy:=zh (zCw Hst5.out (Re:=D1.sync [zAD (nm s)]) fun own v L hR hn=>by
     have:=zCL hR (s ++ (⟨#[126]⟩:ByteArray)) (by rw [hsh];omega)
     rwa [zAp] at this)
    clear hst5 Hap
    cases h2:zAA.sync D1 [zAD (nm s)] with
    | mk D2 e2 =>
     rw [h2] at Hsy
     by_cases he2:e2=0
     ·subst he2
      have Hend:=zh (zDA h0 h1 h2)
      clear h0 h1 h2
      go_wp2_with fail
      refine Hsy.out.mono ?_
      rintro e w6 ⟨rfl,hst6,-⟩
      have Hst6:=zh (show RSt w w6 r own D2 (fun k=>(Value.slice pb m cb).ownBlock=some k) from hst6)
      have Hrn:=zh (zCw Hst6.out (Re:=D2.rename (zAD (nm s)) (nm s)) fun own v L hR hn=>by
       have:=rren_calls hR (s ++ (⟨#[126]⟩:ByteArray)) s (by rw [hsh];omega) (by omega)
       rwa [zAp] at this)
      clear hst6 Hsy
      go_wp2_with fail
      refine Hrn.out.mono ?_
      rintro e w7 ⟨rfl,hst7,-⟩
      have HE:=zh (show zBi w r own (D.save1 (nm s) l) (.returned (.int .i64 ((D2.rename (zAD (nm s)) (nm s)).2:Int))) w7 from by rw [Hend.out];exact hst7.stop _)
      clear hst7 Hrn
      generalize (D2.rename (zAD (nm s)) (nm s)).2=e3 at *
      go_wp2_with fail
      go_ret
      exact HE.out
     ·have hne:((e2:Int) == 0)=false:=by simp;omega
      have Hend:=zh (zD0 h0 h1 h2 he2)
      clear h0 h1 h2 he2
      go_wp2_with fail
      refine Hsy.out.mono ?_
      rintro e w6 ⟨rfl,hst6,-⟩
      have HE:=zh (show zBi w r own (D.save1 (nm s) l) (.returned (.int .i64 (e2:Int))) w6 from by rw [Hend.out];exact hst6.stop _)
      clear hst6 Hsy
      go_wp2_with fail
      go_ret
      exact HE.out
   ·have hne:((e1:Int) == 0)=false:=by simp;omega
    have Hend:=zh (zDz h0 h1 he1)
    clear h0 h1 he1
    go_wp2_with fail
    refine Hap.out.mono ?_
    rintro e w5 ⟨rfl,hst5,-⟩
    have HE:=zh (show zBi w r own (D.save1 (nm s) l) (.returned (.int .i64 (e1:Int))) w5 from by rw [Hend.out];exact hst5.stop _)
    clear hst5 Hap
    go_wp2_with fail
    go_ret
    exact HE.out
 | some f =>
  rw [hg] at Hth
  cases h0:D.save0 (nm s) with
  | mk D0 e0 =>
   have hz0:zAA.remove D [zAD (nm s)]=(D0,e0):=by rw [← h0];unfold zAA.save0;rw [hg];rfl
   have Hz0:=zh hz0
   clear hz0 hg
   go_enter Tryz.func168,Tryz.ntmps168
   go_wp2_with fail
   refine Hth.out.mono ?_
   rintro e w3 ⟨rfl,hst3,hs3⟩
   have Hrm:=zh (zCw hst3 (Re:=D.remove [zAD (nm s)]) fun own v L hR hn=>by
    have:=zBu hR (s ++ (⟨#[126]⟩:ByteArray)) (by rw [hsh];omega)
    rwa [zAp] at this)
   rw [Hz0.out] at Hrm
   have Hv3:=zh (Hl.out.same hs3)
   clear hst3 hs3 Hth
   by_cases he0:e0=0
   ·subst he0
    go_wp2_with fail
    refine Hrm.out.mono ?_
    rintro e w4 ⟨rfl,hst4,hs4⟩
    have Hst:=zh (show RSt w w4 r own D0 (fun k=>(Value.slice pb m cb).ownBlock=some k) from hst4)
    have Hv:=zh (Hv3.out.same hs4)
    clear hst4 hs4 Hv3 Hrm Hz0
    have Hap:=zh (zCw Hst.out (Re:=D0.append (zAD (nm s)) l) fun own v L hR hn=>by
     have:=zCu hR (s ++ (⟨#[126]⟩:ByteArray)) (by rw [hsh];omega) (Hv.out) Hlm.out (fun _ k hk ho=>hn k ho hk)
     rwa [zAp] at this)
    cases h1:zAA.append D0 (zAD (nm s)) l with
    | mk D1 e1 =>
     rw [h1] at Hap
     by_cases he1:e1=0
     ·subst he1
      go_wp2_with fail
      refine Hap.out.mono ?_
      rintro e w5 ⟨rfl,hst5,-⟩
      have Hst5:=zh (show RSt w w5 r own D1 (fun k=>(Value.slice pb m cb).ownBlock=some k) from hst5)
      have Hsy:=zh (zCw Hst5.out (Re:=D1.sync [zAD (nm s)]) fun own v L hR hn=>by
       have:=zCL hR (s ++ (⟨#[126]⟩:ByteArray)) (by rw [hsh];omega)
       rwa [zAp] at this)
      clear hst5 Hap
      cases h2:zAA.sync D1 [zAD (nm s)] with
      | mk D2 e2 =>
       rw [h2] at Hsy
       by_cases he2:e2=0
       ·subst he2
        have Hend:=zh (zDA h0 h1 h2)
        clear h0 h1 h2
        go_wp2_with fail
        refine Hsy.out.mono ?_
        rintro e w6 ⟨rfl,hst6,-⟩
        have Hst6:=zh (show RSt w w6 r own D2 (fun k=>(Value.slice pb m cb).ownBlock=some k) from hst6)
        have Hrn:=zh (zCw Hst6.out (Re:=D2.rename (zAD (nm s)) (nm s)) fun own v L hR hn=>by
         have:=rren_calls hR (s ++ (⟨#[126]⟩:ByteArray)) s (by rw [hsh];omega) (by omega)
         rwa [zAp] at this)
        clear hst6 Hsy
        go_wp2_with fail
        refine Hrn.out.mono ?_
        rintro e w7 ⟨rfl,hst7,-⟩
        have HE:=zh (show zBi w r own (D.save1 (nm s) l) (.returned (.int .i64 ((D2.rename (zAD (nm s)) (nm s)).2:Int))) w7 from by rw [Hend.out];exact hst7.stop _)
        clear hst7 Hrn
        generalize (D2.rename (zAD (nm s)) (nm s)).2=e3 at *
        go_wp2_with fail
        go_ret
        exact HE.out
       ·have hne:((e2:Int) == 0)=false:=by simp;omega
        have Hend:=zh (zD0 h0 h1 h2 he2)
        clear h0 h1 h2 he2
        go_wp2_with fail
        refine Hsy.out.mono ?_
        rintro e w6 ⟨rfl,hst6,-⟩
        have HE:=zh (show zBi w r own (D.save1 (nm s) l) (.returned (.int .i64 (e2:Int))) w6 from by rw [Hend.out];exact hst6.stop _)
        clear hst6 Hsy
        go_wp2_with fail
        go_ret
        exact HE.out
     ·have hne:((e1:Int) == 0)=false:=by simp;omega
      have Hend:=zh (zDz h0 h1 he1)
      clear h0 h1 he1
      go_wp2_with fail
      refine Hap.out.mono ?_
      rintro e w5 ⟨rfl,hst5,-⟩
      have HE:=zh (show zBi w r own (D.save1 (nm s) l) (.returned (.int .i64 (e1:Int))) w5 from by rw [Hend.out];exact hst5.stop _)
      clear hst5 Hap
      go_wp2_with fail
      go_ret
      exact HE.out
   ·have hne:((e0:Int) != 0)=true:=by simp;omega
    have Hend:=zh (save1_rem (b:=l) h0 he0)
    clear h0 he0
    go_wp2_with fail
    refine Hrm.out.mono ?_
    rintro e w4 ⟨rfl,hst4,-⟩
    have HE:=zh (show zBi w r own (D.save1 (nm s) l) (.returned (.int .i64 (e0:Int))) w4 from by rw [Hend.out];exact hst4.stop _)
    clear hst4 Hrm
    go_wp2_with fail
    go_ret
    exact HE.out
end
def zBf (w0:World) (j r:Nat) (pre:ByteArray) (Hot0 Cold0:Nat→Prop) (w1:World) (D:zAA) (M:JouM):Prop :=
 ∃ Hot Cold,RJF w1 j r pre D M Hot Cold∧Chg Hot0 w0 w1∧(∀ k,Hot k→Hot0 k∨w0.heap.size≤k)∧∀ k,Cold k→Cold0 k∨w0.heap.size≤k
theorem zBf.told {w0 w1:World} {j r:Nat} {pre:ByteArray} {Hot0 Cold0:Nat→Prop} {res:WroteJ} (h:zBf w0 j r pre Hot0 Cold0 w1 res.disk res.jou):RJTold w0 j r pre Hot0 Cold0 res (.returned (.int .i64 (res.err:Int))) w1:=⟨rfl,h⟩
theorem RJTold.step {w0 w1:World} {j r:Nat} {pre:ByteArray} {Hot0 Cold0:Nat→Prop} {res:WroteJ} {e:Ending} (h:RJTold w0 j r pre Hot0 Cold0 res e w1):zBf w0 j r pre Hot0 Cold0 w1 res.disk res.jou:=h.2
section
variable {w0 w1 w2:World} {j r:Nat} {pre:ByteArray} {D D2:zAA} {M M2:JouM} {Hot Cold Hot1 Cold1:Nat→Prop}
theorem RJF.step (h:RJF w1 j r pre D M Hot Cold):zBf w1 j r pre Hot Cold w1 D M:=⟨Hot,Cold,h,Chg.refl _ _,fun _ h=>.inl h,fun _ h=>.inl h⟩
theorem RJF.stepB (h:RJF w1 j r pre D M Hot Cold) (hb:Below w1.heap.size w1 w2):zBf w1 j r pre Hot Cold w2 D M:=⟨Hot,Cold,h.below hb,(Chg.of_below hb).mono fun _ _ h=>h.elim,fun _ h=>.inl h,fun _ h=>.inl h⟩
theorem zBf.comp (hc:Chg Hot w0 w1) (hh:∀ k,Hot1 k→Hot k∨w0.heap.size≤k) (hco:∀ k,Cold1 k→Cold k∨w0.heap.size≤k) (h2:zBf w1 j r pre Hot1 Cold1 w2 D2 M2):zBf w0 j r pre Hot Cold w2 D2 M2:=by
 obtain ⟨Hot2,Cold2,hF2,hc2,hh2,hco2⟩:=h2
 refine ⟨Hot2,Cold2,hF2,hc.trans hc2 fun k hk hs=>(hh k hs).resolve_right (by omega),fun k hk=>?_,fun k hk=>?_⟩
 ·rcases hh2 k hk with h | h
  ·exact hh k h
  ·exact .inr (Nat.le_trans hc.size h)
 ·rcases hco2 k hk with h | h
  ·exact hco k h
  ·exact .inr (Nat.le_trans hc.size h)
theorem zBf.trans (h:zBf w0 j r pre Hot Cold w1 D M) (hx:∀ Hot1 Cold1,RJF w1 j r pre D M Hot1 Cold1→zBf w1 j r pre Hot1 Cold1 w2 D2 M2):zBf w0 j r pre Hot Cold w2 D2 M2:=by
 obtain ⟨Hot1,Cold1,hF,hc,hh,hco⟩:=h
 exact zBf.comp hc hh hco (hx _ _ hF)
theorem zBf.next (h:zBf w0 j r pre Hot Cold w1 D M) (hb:Below w1.heap.size w1 w2):zBf w0 j r pre Hot Cold w2 D M:=h.trans fun _ _ hF=>hF.stepB hb
theorem zBf.since (h:zBf w1 j r pre Hot Cold w2 D M) (hb:Below w0.heap.size w0 w1):zBf w0 j r pre Hot Cold w2 D M:=by
 obtain ⟨Hot1,Cold1,hF,hc,hh,hco⟩:=h
 exact ⟨Hot1,Cold1,hF,((Chg.of_below hb).mono fun _ _ h=>h.elim).trans hc fun _ _ h=>h,fun k hk=>(hh k hk).imp id (Nat.le_trans hb.size),fun k hk=>(hco k hk).imp id (Nat.le_trans hb.size)⟩
theorem RJIn.set {w w':World} {O C:Nat→Prop} {M M':JouM} {gv dv ev:Value} {vs:List EV} (h:RJIn w j r pre O C M gv dv ev vs)
  (hc:w'.heap[j]?=some (RJC r (M'.number:Int) M'.term gv pre M'.now M'.vote dv ev M'.dead))
  (hs:Chg (fun k=>k=j) w w') (hg:M'.group=M.group) (hd:M'.data=M.data) (he:M'.entries=M.entries) (ok:M'.OK):RJIn w' j r pre O C M' gv dv ev vs where
 cells:=hc
 group:=by rw [hg];exact zAY.chg h.group hs fun k hk e=>h.dis k (h.cg k hk) (e ▸ h.oj)
 data:=by rw [hd];exact zAY.chg h.data hs fun k hk e=>h.dis k (h.cd k hk) (e ▸ h.oj)
 row:=by rw [he];exact h.row.keep fun k hk=>hs.block k (h.olt k (h.oe k hk).1) (h.oe k hk).2
 rlen:=by rw [he];exact h.rlen
 rows:=by rw [he];exact fun i e v he hv=>(h.rows i e v he hv).keep fun k hk=>hs.block k (h.clt k (h.cv v (List.mem_of_getElem? hv) k hk)) fun e=>h.dis k (h.cv v (List.mem_of_getElem? hv) k hk) (e ▸ h.oj)
 oj:=h.oj
 oe:=h.oe
 cg:=h.cg
 cd:=h.cd
 cv:=h.cv
 dis:=h.dis
 olt:=fun k hk=>Nat.lt_of_lt_of_le (h.olt k hk) hs.size
 clt:=fun k hk=>Nat.lt_of_lt_of_le (h.clt k hk) hs.size
 psz:=h.psz
 ok:=ok
theorem RJF.set (h:RJF w1 j r pre D M Hot Cold) {M':JouM} (hs:Chg (fun k=>k=j) w1 w2)
  (hc:∀ gv dv ev,w1.heap[j]?=some (RJC r (M.number:Int) M.term gv pre M.now M.vote dv ev M.dead)→w2.heap[j]?=some (RJC r (M'.number:Int) M'.term gv pre M'.now M'.vote dv ev M'.dead))
  (hg:M'.group=M.group) (hd:M'.data=M.data) (he:M'.entries=M.entries) (ok:M'.OK):zBf w1 j r pre Hot Cold w2 D M':=by
 obtain ⟨O,own,gv,dv,ev,vs,v,L,hJ,hR,hO,hC,hH⟩:=h
 exact ⟨Hot,Cold,⟨O,own,gv,dv,ev,vs,v,L,hJ.set (hc _ _ _ hJ.cells) hs hg hd he ok,hR.keep hs.size (fun k hk=>hs.block k (hR.olt k hk) fun e=>hO j hJ.oj (e ▸ hk)),hO,hC,hH⟩,hs.mono fun k _ e=>(hH k).2 (.inl (e ▸ hJ.oj)),fun k hk=>.inl hk,fun k hk=>.inl hk⟩
theorem RJF.cellsD (h:RJF w1 j r pre D M Hot Cold):∃ gv dv ev,w1.heap[j]?=some (RJC r (M.number:Int) M.term gv pre M.now M.vote dv ev M.dead):=let ⟨_,_,gv,dv,ev,_,_,_,hJ,_⟩:=h;⟨gv,dv,ev,hJ.cells⟩
end
def wh (c:Bs):zAP:=⟨c,c.length⟩
def snpL (s:Option Bs):List (Bs × zAP):=match s with
 | none=>[]
 | some b=>[(snpN [97],wh b)]
def dJ (room:Nat) (c:Bs) (s:Option Bs):zAA:=⟨room,(logN [97],wh c) :: snpL s,none⟩
section
variable {room:Nat} {c b:Bs} {s:Option Bs}
theorem dj_log:Sat.get (logN [97]) (dJ room c s).files=some (wh c):=by cases s <;> rfl
theorem dj_shl:Sat.get (zAD (logN [97])) (dJ room c s).files=none:=by cases s <;> rfl
theorem dj_shs:Sat.get (zAD (snpN [97])) (dJ room c s).files=none:=by cases s <;> rfl
theorem dj_snp:Sat.get (snpN [97]) (dJ room c s).files=s.map wh:=by cases s <;> rfl
theorem crash_dj (k:Int):(dJ room c s).crash k=dJ room c s:=by
 have h1:∀ x:Bs,zAA.crashF k (wh x)=wh x:=fun x=>crash_whole x k
 unfold dJ zAA.crash
 cases s with
 | none =>
  show (⟨room,[(logN [97],zAA.crashF k (wh c))],none⟩:zAA)=_
  rw [h1]
  rfl
 | some b =>
  show (⟨room,[(logN [97],zAA.crashF k (wh c)),(snpN [97],zAA.crashF k (wh b))],none⟩:zAA)=_
  rw [h1,h1]
  rfl
end
def Snap.bytes (s:Snap):Bs:=snpB s.number s.term s.group s.data
theorem snapIs_bytes {s:Snap} (h:s.OK) (h1:1≤s.number) (hd:s.data.length≤524288):snapIs s.bytes=some s:=by
 have ht:=isTm_iff.1 h.term
 have hg:=grp_bound h.group
 have hn:=h.number
 have hb:s.bytes=numB s.number ++ (numI s.term ++ (grpB s.group ++ (rowB s.data ++ []))):=by simp [Snap.bytes,snpB]
 rw [hb]
 unfold snapIs
 dsimp only
 rw [Rd.num_of (by omega)]
 dsimp only
 rw [rd_int ht.1 (by omega)]
 dsimp only
 rw [grp_of hg.1 hg.2 h.group]
 dsimp only
 rw [Rd.bytes_of (by omega)]
 dsimp only
 rw [if_pos ⟨whole_of false,h1,hn,by omega,hd⟩,Int.toNat_of_nonneg ht.1]
theorem snapOf_bytes {s:Snap} (h:s.OK) (h1:1≤s.number) (hd:s.data.length≤524288) (hl:s.bytes.length≤1048576):snapOf (some (wh (zAG s.bytes)))=(0,some s):=by
 obtain ⟨a,b⟩:=load_frame s.bytes hl (zAG s.bytes).length
 rw [show (wh (zAG s.bytes))=⟨zAG s.bytes,(zAG s.bytes).length⟩ from rfl,snapOf_0 a,b,snapIs_bytes h h1 hd]
def zDe (s:Option Snap):Option Bs:=s.map fun s=>zAG s.bytes
def SnapOK (s:Option Snap):Prop:=∀ x,s=some x→x.OK∧1≤x.number∧x.data.length≤524288∧x.bytes.length≤1048576
theorem open_dj {room:Nat} {ls:List Bs} {s:Option Snap} {g:List Int} {M0 M:JouM} (hg:zDY g=true) (hls:∀ l ∈ ls,l.length≤1048576) (hs:SnapOK s) (h0:recAll (JouM.none0 g) ls=some M0) (hj:joins s M0 false=some (false,M)) :
  jouOpen (dJ room (zAs ls) (zDe s)) [97] g=(dJ room (zAs ls) (zDe s),0,M):=by
 obtain ⟨O⟩:=opensJ_of (dJ room (zAs ls) (zDe s)) [97] g
 have a1:=O.h1
 have a2:=O.h2
 have a3:=O.hs
 have a4:=O.hl
 have b1:(dJ room (zAs ls) (zDe s)).rid1 (zAD (logN [97]))=(dJ room (zAs ls) (zDe s),0):=by unfold zAA.rid1;rw [dj_shl];rfl
 rw [b1] at a1
 have d1:dJ room (zAs ls) (zDe s)=O.D1:=congrArg Prod.fst a1
 have e1:0=O.e1:=congrArg Prod.snd a1
 rw [← d1] at a2
 have b2:(dJ room (zAs ls) (zDe s)).rid1 (zAD (snpN [97]))=(dJ room (zAs ls) (zDe s),0):=by unfold zAA.rid1;rw [dj_shs];rfl
 rw [b2] at a2
 have d2:dJ room (zAs ls) (zDe s)=O.D2:=congrArg Prod.fst a2
 have e2:0=O.e2:=congrArg Prod.snd a2
 rw [← d2] at a3 a4
 have b3:snapOf (Sat.get (snpN [97]) (dJ room (zAs ls) (zDe s)).files)=(0,s):=by
  rw [dj_snp]
  cases s with
  | none=>exact snapOf_7 zDK
  | some x =>
   obtain ⟨q1,q2,q3,q4⟩:=hs x rfl
   exact snapOf_bytes q1 q2 q3 q4
 rw [b3] at a3
 have hsc:=scan_recs ls [] hls (.inl rfl)
 rw [List.append_nil] at hsc
 have b4:readLogJ (dJ room (zAs ls) (zDe s)) [97] (JouM.none0 g)=(dJ room (zAs ls) (zDe s),0,false,M0):=by
  unfold readLogJ
  rw [dj_log]
  dsimp only
  rw [show (wh (zAs ls)).data=zAs ls from rfl,hsc]
  dsimp only
  rw [h0]
  dsimp only
  have ht:zAc (dJ room (zAs ls) (zDe s)) (logN [97]) (zAs ls).length (zAs ls).length=(dJ room (zAs ls) (zDe s),0):=by unfold zAc;rw [if_neg (by omega)]
  rw [ht]
 rw [b4] at a4
 have hok:¬ ((([97]:Bs).length) < 1∨20 < ([97]:Bs).length∨zDY g=false):=by
  rintro (h | h | h)
  ·exact absurd h (by decide)
  ·exact absurd h (by decide)
  ·rw [hg] at h
   cases h
 rw [oj_keep O hok e1.symm e2.symm (by rw [← a3]) (by rw [← a4]) (M:=M) (by rw [← a3,← a4];exact hj),← a4]
structure Kept5 (room:Nat) (g:List Int) (M:JouM) (D:zAA) (u:Nat):Prop where
 ex:∃ ls s M0,D=dJ room (zAs ls) (zDe s)∧(∀ l ∈ ls,l.length≤1048576)∧SnapOK s∧recAll (JouM.none0 g) ls=some M0∧joins s M0 false=some (false,M)
 used:D.used≤u
 grp:zDY g=true
 alive:M.dead=false
theorem Kept5.open {room:Nat} {g:List Int} {M:JouM} {D:zAA} {u:Nat} (h:Kept5 room g M D u):jouOpen D [97] g=(D,0,M):=by
 obtain ⟨⟨ls,s,M0,rfl,h1,h2,h3,h4⟩,-,hg,-⟩:=h
 exact open_dj hg h1 h2 h3 h4
theorem Kept5.crash {room:Nat} {g:List Int} {M:JouM} {D:zAA} {u:Nat} (h:Kept5 room g M D u) (k:Int):D.crash k=D:=by
 obtain ⟨⟨ls,s,M0,rfl,-⟩,-⟩:=h
 exact crash_dj k
theorem zDu {w:World} {p:Option Addr} {n c:Nat} {l:Bs} (hx:HasB w (.slice p n c) l) (hl:l.length≤1073741824) :
  Calls Tryz.prog 133 #[.slice p n c] w (RowNew w (rowB l)):=by
 obtain ⟨i0,hi,hz0,hz1,hz2⟩:=info_parts (show (Tryz.prog.info? 5).map (fun i=>(i.zero,i.size,i.bytes))=some (some (.int .u8 0),1,1) by kernel_rfl)
 have hn:l.length=n:=by obtain ⟨_,_,e⟩:=hx.slice;simp only [Value.slice.injEq] at e;exact e.2.1.symm
 have Hnum:=zh (zDb w (n:Int) (by omega))
 have HT:=zh (show numI (n:Int) ++ l=rowB l by rw [zCr (by omega),← hn];rfl)
 have hnl:(numI (n:Int)).length≤9:=numI_len _
 have Hx:=zh hx
 have Hn:=zh hn
 have hn30:n≤1073741824:=by omega
 clear hx hn hl
 go_enter Tryz.func133,Tryz.ntmps133
 go_wp2_with fail
 refine Hnum.out.mono ?_
 rintro e w2 ⟨x,rfl,hx2,hxn,hb2⟩
 obtain ⟨px,cx,rfl,-⟩:=zAX hx2
 have HS2:=zh (show RowB w w2 (.slice px (numI (n:Int)).length cx) (numI (n:Int)) from ⟨hx2,hxn,hb2⟩)
 have Hxx3:=zh (show zAY w2 1 (.slice p n c) n (zAN l) by have:=Hx.out.below hb2;unfold HasB at this;rwa [Hn.out] at this)
 clear hx2 hxn hb2 Hnum
 generalize hL2:(numI (n:Int)).length=m2 at *
 have HL:=zh hL2
 clear hL2
 have Hrow3:=zh (show OwnR w2 5 1 (.slice px m2 cx) m2 (zAN (numI (n:Int))) from by have:=HS2.out.own;unfold OwnB at this;rwa [HL.out] at this)
 go_wp2_with (at_builtin;refine zAR _ rfl (.tmp 5) (.tmp 6) 22 rfl 5 i0 (.int .u8 0) 1 1 Tryz.underlying22 hi hz0 hz1 hz2 rfl (by decide) (.slice px m2 cx) m2 _ rfl Hrow3.out (.slice p n c) n _ rfl Hxx3.out (zAM _) (by unfold maxLen;omega) (by omega) ?_;intro v3 w3 hown hgrow hloc;go_loud (have HE3:=zh (RowB.grown (x:=l) HS2.out (by rw [HL.out,Hn.out];exact hown) hgrow hloc);clear hgrow hloc;obtain ⟨p3,q3,rfl⟩:=OwnR.shape hown;clear hown))
 go_ret
 rw [← HT.out]
 exact HE3.out.told
section
variable {w w1 w2:World} {j r:Nat} {pre:ByteArray} {D:zAA} {M:JouM} {Hot Cold O C C':Nat→Prop} {gv dv ev v':Value} {vs vs':List EV} {es':List Ent}
theorem RJIn.one (h:RJIn w j r pre O C M gv dv ev vs):∀ v ∈ vs,v.1.oneCell'=true∧v.2.oneCell'=true:=fun v hv=>by
 obtain ⟨i,hi,rfl⟩:=List.getElem_of_mem hv
 have hie:i < M.entries.length:=by rw [← h.rlen];exact hi
 have he:=h.rows i _ _ (List.getElem?_eq_getElem hie) (List.getElem?_eq_getElem hi)
 obtain ⟨_,_,e1⟩:=he.data.slice
 obtain ⟨_,_,e2⟩:=he.nodes.slice
 rw [e1,e2]
 exact ⟨rfl,rfl⟩
theorem RJIn.list (h:RJIn w j r pre O C M gv dv ev vs) (hc:Chg (fun k=>ev.ownBlock=some k) w w2) (hown:OwnR w2 50 4 v' es'.length (entsC es' vs')) (hnew:∀ k,v'.ownBlock=some k→(ev.ownBlock=some k∨w.heap.size≤k)) (hrl:vs'.length=es'.length)
  (hrows:∀ (i:Nat) e v,es'[i]?=some e→vs'[i]?=some v→zCz w2 e v) (hcv:∀ u ∈ vs',∀ k,(u.1.ownBlock=some k∨u.2.ownBlock=some k)→C' k) (hC:∀ k,C k→C' k) (hC2:∀ k,C' k→(C k∨w.heap.size≤k)∧k < w2.heap.size∧v'.ownBlock≠some k) (ok:({ M with entries:=es' }:JouM).OK) :
  RJIn (w2.setCell ⟨j,8,none⟩ v') j r pre (fun k=>O k∨v'.ownBlock=some k) C' { M with entries:=es' } gv dv v' vs':=by
 have hjlt:=h.olt j h.oj
 have hjne:ev.ownBlock≠some j:=fun e=>(h.oe j e).2 rfl
 have hvj:v'.ownBlock≠some j:=fun e=>(hnew j e).elim hjne (by omega)
 have hcj:w2.heap[j]?=w.heap[j]?:=hc.block j hjlt hjne
 have hco:∀ k,C k→¬ (ev.ownBlock=some k):=fun k hk e=>h.dis k hk (h.oe k e).1
 have hcold:∀ k,C' k→k≠j:=fun k hk e=>by
  rcases (hC2 k hk).1 with h1 | h1
  ·exact h.dis k h1 (e ▸ h.oj)
  ·omega
 have hS:∀ k,k≠j→(w2.setCell ⟨j,8,none⟩ v').heap[k]?=w2.heap[k]?:=fun k hk=>zAE _ hk
 have hz:(w2.setCell ⟨j,8,none⟩ v').heap.size=w2.heap.size:=by simp [World.setCell]
 exact {
  cells:=by
   have h1:=zAO (hcj.trans h.cells) 8 v'
   simpa using h1
  group:=zAY.keep (zAY.chg h.group hc fun k hk=>hco k (h.cg k hk)) fun k hk=>hS k (hcold k (hC k (h.cg k hk)))
  data:=zAY.keep (zAY.chg h.data hc fun k hk=>hco k (h.cd k hk)) fun k hk=>hS k (hcold k (hC k (h.cd k hk)))
  row:=OwnR.keep hown fun k hk=>hS k fun e=>hvj (e ▸ hk)
  rlen:=hrl
  rows:=fun i e v he hv=>(hrows i e v he hv).keep fun k hk=>hS k (hcold k (hcv v (List.mem_of_getElem? hv) k hk))
  oj:=.inl h.oj
  oe:=fun k hk=>⟨.inr hk,fun e=>hvj (e ▸ hk)⟩
  cg:=fun k hk=>hC k (h.cg k hk)
  cd:=fun k hk=>hC k (h.cd k hk)
  cv:=hcv
  dis:=fun k hk ho=>by
   rcases ho with ho | ho
   ·rcases (hC2 k hk).1 with h1 | h1
    ·exact h.dis k h1 ho
    ·have:=h.olt k ho
     omega
   ·exact (hC2 k hk).2.2 ho
  olt:=fun k hk=>by
   rw [hz]
   rcases hk with hk | hk
   ·exact Nat.lt_of_lt_of_le (h.olt k hk) hc.size
   ·exact OwnR.lt hown hk
  clt:=fun k hk=>by
   rw [hz]
   exact (hC2 k hk).2.1
  psz:=h.psz
  ok:=ok }
end
end Go.Proofs.YtapfnehdgailmaaGreat
