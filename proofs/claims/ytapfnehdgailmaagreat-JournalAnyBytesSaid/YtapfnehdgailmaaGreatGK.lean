/- journal: Compact, Install. (Printed by mkj16.py.) journal: Install. (Printed by mkj17.py.) The contracts of octet's Reader, with the set of blocks in which its bytes lie. (Printed by mkx.py out of the texts Rdr, RdrN.) octet: Reader.Nums; journal: readGroup. (Printed by mkj18.py.) journal: record. (Printed by mkj19.py.) -/
import Derived.Test.YtapfnehdgailmaaGreatGD
import Derived.Test.YtapfnehdgailmaaGreatGJ
set_option maxRecDepth 100000
set_option maxHeartbeats 64000000
namespace Go.Proofs.YtapfnehdgailmaaGreat
open Go.RowKit Go.Sat Go.Maps
theorem grpIn_ok {M:JouM} (h:M.OK):∀ k,zAW (M.grpIn k).1=true
 | 0=>h.group
 | k+1=>by
  have ih:=grpIn_ok h k
  cases he:M.entries[k]? with
  | none =>
   have:M.grpIn (k+1)=M.grpIn k:=by
    show (match M.entries[k]? with | some e=>_ | none=>_)=_
    rw [he]
   rw [this]
   exact ih
  | some e =>
   by_cases hk:e.kind=2
   ·rw [grpIn_yes he hk]
    have:=h.ents e (List.mem_of_getElem? he)
    rw [ent_two hk] at this
    simp only [Bool.and_eq_true] at this
    exact this.2.2
   ·rw [grpIn_no he hk]
    exact ih
theorem termAt_ok {M:JouM} (h:M.OK) {i:Int} {t:Int} (ht:M.termAt i=some t):isTm t=true:=by
 unfold JouM.termAt at ht
 split at ht
 ·cases ht
  exact h.term
 ·split at ht
  ·cases ht
  ·cases he:M.entries[(i - (M.number:Int) - 1).toNat]? with
   | none=>rw [he] at ht;cases ht
   | some e =>
    rw [he] at ht
    cases ht
    exact zAr.2 (zA8 (h.ents e (List.mem_of_getElem? he))).1
section
variable {w w1:World} {j d:Nat} {pre:ByteArray} {D:zAB} {M:JouM} {F:Nat→Prop}
theorem jcompact_calls (h:JouF w w1 j d pre D M F) (hm:M.entries.length≤1000000) (i:Int) (hi:-9223372036854775808≤i∧i≤9223372036854775807) {pd:Option Addr} {n cd:Nat} {b:Bs} (hn:b.length=n) (hn47:n≤140737488355328)
  (hx:∀ W,Below w.heap.size w W→Same F w1 W→HasB W (.slice pd n cd) b) :
  Calls Tryz.prog 30 #[.pointer (some ⟨j,0,none⟩),.int .i64 i,.slice pd n cd] w1 (JouTold w w1 j d pre F (zBc (nm pre) D M i b)):=by
 have Hmay:=zh (jmay_calls h)
 have Hha:=zh (zD5 h i hi)
 have Hid:=zh (fun k w2 (hb:Below w1.heap.size w1 w2) (hr:zBc (nm pre) D M i b=⟨D,M,k⟩)=>jouTold_id h hb hr)
 have HR:=zh (show zBc (nm pre) D M i b=if M.dead then ⟨D,M,9⟩ else if i≤(M.number:Int)∨(M.last:Int) < i∨524288 < b.length then ⟨D,M,1⟩ else zB7 (nm pre) D M ⟨i.toNat,(M.termAt i).getD 0,(M.grpIn (i.toNat - M.number)).1,b⟩ from rfl)
 have hok:=h.okM
 have hlast:=hok.last
 cases hd:M.dead with
 | true =>
  rw [hd] at Hmay
  have HE:=zh (Hid.out 9 w1 (Below.refl _ _) (by rw [HR.out,hd];rfl))
  clear h
  go_enter Tryz.func30,Tryz.ntmps30
  go_wp2_with fail
  refine Hmay.out.mono ?_
  rintro e w2 ⟨rfl,rfl⟩
  go_wp2_with fail
  go_ret
  exact HE.out
 | false =>
  rw [hd] at Hmay
  by_cases hin:(M.number:Int) < i∧i≤(M.last:Int)
  ·rw [decide_eq_true hin] at Hha
   by_cases hbig:524288 < n
   ·have HE:=zh (fun q=>Hid.out 1 (w1.drewN q) ⟨rfl,rfl,rfl,Nat.le_refl _,fun _ _=>rfl⟩ (by rw [HR.out,hd,if_neg (by simp),if_pos (.inr (.inr (by rw [hn];exact hbig)))]))
    clear h hx hin
    go_enter Tryz.func30,Tryz.ntmps30
    go_wp2_with fail
    refine Hmay.out.mono ?_
    rintro e w2 ⟨rfl,rfl⟩
    go_wp2_with fail
    refine Hha.out.mono ?_
    rintro e w2 ⟨rfl,q,rfl⟩
    go_wp2_with fail
    go_ret
    exact HE.out q
   ·have hdb:decide (524288 < (n:Int))=false:=by simp;omega
    have HR2:=zh (show zBc (nm pre) D M i b=zB7 (nm pre) D M ⟨i.toNat,(M.termAt i).getD 0,(M.grpIn (i.toNat - M.number)).1,b⟩ from by rw [HR.out,hd,if_neg (by simp),if_neg (by rw [hn];omega)])
    have hlm:(M.last:Int)=(M.number:Int)+(M.entries.length:Int):=by unfold JouM.last;omega
    have hit:∃ t,M.termAt i=some t:=by
     have hkl:(i - (M.number:Int) - 1).toNat < M.entries.length:=by omega
     exact ⟨_,zEE hin.1 (List.getElem?_eq_getElem hkl)⟩
    obtain ⟨t,ht⟩:=hit
    have htm:=termAt_ok hok ht
    generalize hN:i.toNat - M.number=N at *
    have hNl:N≤M.entries.length:=by omega
    have hiN:i=((M.number+N:Nat):Int):=by omega
    have hgo:=grpIn_ok hok N
    rw [ht] at HR2
    have Hta:=zh (fun q=>zDS (h.drewN q) i hi)
    rw [ht] at Hta
    have Hgr:=zh (fun q=>show Calls Tryz.prog 107 #[.pointer (some ⟨j,0,none⟩),.int .i64 i] (w1.drewN q) (zBX (w1.drewN q) (M.grpIn N)) from by rw [hiN];exact jgrpAt_calls (h.drewN q) N hNl)
    have HBq:=zh (fun q=>(show Below w1.heap.size w1 (w1.drewN q) from ⟨rfl,rfl,rfl,Nat.le_refl _,fun _ _=>rfl⟩))
    have hi0:((i.toNat:Nat):Int)=i:=by omega
    have Hgo:=zh (fun W v pg cg (hb:Below w1.heap.size w1 W) (hv:OwnI W v (M.grpIn N).1) (hvn:∀ k,v.ownBlock=some k→w1.heap.size≤k) (hsh:v=.slice pg (M.grpIn N).1.length cg)=>show Calls Tryz.prog 110 #[.pointer (some ⟨j,0,none⟩),.agg #[.int .i64 i,.int .i64 t,.slice pg (M.grpIn N).1.length cg],.slice pd n cd] W (JouTold w w1 j d pre F (zBc (nm pre) D M i b)) from by
     subst hsh
     rw [HR2.out]
     have hJ:JouF w W j d pre D M (fun k=>F k∨(Value.slice pg (M.grpIn N).1.length cg).ownBlock=some k):=h.more hb fun k hk=>hk.imp id fun e=>⟨hvn k e,OwnR.lt hv e⟩
     have:=jgoes_calls (F2:=F) hJ hm (s:=⟨i.toNat,t,(M.grpIn N).1,b⟩) ⟨by show i.toNat≤_;omega,htm,hgo,by show b.length≤_;omega⟩ (by show b.length≤_;omega) (pg:=pg) (cg:=cg) (pd:=pd) (cd:=cd) hv (fun W' hb' hs'=>by show HasB W' (.slice pd b.length cd) b;rw [hn];exact hx W' hb' fun k hk=>(hs' k (.inl hk)).trans (h.same hb k hk)) (fun k hk=>⟨.inr hk,Nat.le_trans h.bel.size (hvn k hk)⟩) (fun k hk=>⟨.inl hk,fun e=>by have h1:=hvn k e;have h2:=h.flt hk;omega⟩)
     dsimp only at this
     rw [hi0,hn] at this
     exact this.mono fun e w' hT=>⟨hT.1,hT.2.1,fun k hk=>(hT.2.2 k hk).trans (h.same hb k hk)⟩)
    clear h hx hin hok ht htm hN hNl hiN hgo hlm hlast hi0 hd hi
    go_enter Tryz.func30,Tryz.ntmps30
    go_wp2_with fail
    refine Hmay.out.mono ?_
    rintro e w2 ⟨rfl,rfl⟩
    go_wp2_with fail
    refine Hha.out.mono ?_
    rintro e w3 ⟨rfl,q,rfl⟩
    go_wp2_with fail
    refine (Hta.out q).mono ?_
    rintro e w3 ⟨rfl,q2,rfl⟩
    rw [zEa]
    go_wp2_with fail
    refine (Hgr.out (q+q2)).mono ?_
    rintro e w4 ⟨v,rfl,hv,hvn,hb⟩
    obtain ⟨pg,cg,hsh,-⟩:=zAl hv
    have Hcl:=zh (Hgo.out w4 v pg cg ((HBq.out (q+q2)).trans hb) hv hvn hsh)
    subst hsh
    clear hv hvn hb Hgo
    go_wp2_with fail
    refine Hcl.out.mono ?_
    intro e w5 hT
    obtain ⟨e1,hT2⟩:=hT
    have HE:=zh hT2
    subst e1
    clear hT2 Hcl
    go_wp2_with fail
    go_ret
    exact ⟨rfl,HE.out⟩
  ·rw [decide_eq_false hin] at Hha
   have HE:=zh (fun q=>Hid.out 1 (w1.drewN q) ⟨rfl,rfl,rfl,Nat.le_refl _,fun _ _=>rfl⟩ (by rw [HR.out,hd,if_neg (by simp),if_pos (by omega)]))
   clear h hx hin
   go_enter Tryz.func30,Tryz.ntmps30
   go_wp2_with fail
   refine Hmay.out.mono ?_
   rintro e w2 ⟨rfl,rfl⟩
   go_wp2_with fail
   refine Hha.out.mono ?_
   rintro e w2 ⟨rfl,q,rfl⟩
   go_wp2_with fail
   go_ret
   exact HE.out q
end
def RdX (A:Nat→Prop) (w:World) (r:Nat) (R:Rd):Prop:=∃ p n c,RdIn w r R p n c∧∀ k,(Value.slice p n c).ownBlock=some k→A k
theorem RdX.at {A:Nat→Prop} {w:World} {r:Nat} {R:Rd} (h:RdX A w r R):RdAt w r R:=let ⟨p,n,c,h,_⟩:=h;⟨p,n,c,h⟩
theorem RdX.lt {A:Nat→Prop} {w:World} {r:Nat} {R:Rd} (h:RdX A w r R):r < w.heap.size:=let ⟨_,_,_,h,_⟩:=h;h.rlt
theorem RdX.chg {A S:Nat→Prop} {w w':World} {r:Nat} {R:Rd} (h:RdX A w r R) (hc:Chg S w w') (hr:¬ S r) (hA:∀ k,A k→¬ S k):RdX A w' r R:=by
 obtain ⟨p,n,c,h,ha⟩:=h
 exact ⟨p,n,c,⟨(hc.block r h.rlt hr).trans h.cells,HasB.chg h.has hc fun k hk=>hA k (ha k hk),h.cap,h.ne,h.len⟩,ha⟩
def RStepX (A:Nat→Prop) (w:World) (r:Nat) (R':Rd) (v:Value) (e:Ending) (w':World):Prop:=e=.returned v∧RdX A w' r R'∧Chg (fun k=>k=r) w w'
def NumX (A:Nat→Prop) (w:World) (r:Nat) (R:Rd) (e:Ending) (w':World):Prop:=e=.returned (.int .i64 (R.num.1:Int))∧RdX A w' r R.num.2∧Chg (fun k=>k=r) w w'
def RowX (A:Nat→Prop) (w:World) (r:Nat) (b:Bs) (R':Rd) (e:Ending) (w':World):Prop :=
 ∃ v,e=.returned v∧OwnB w' 5 v b∧(∀ j,v.ownBlock=some j→w.heap.size≤j)∧RdX A w' r R'∧Chg (fun j=>j=r) w w'
theorem run_tailX {P:Program} {w:World} {t e:TypeId} {i:TypeInfo} (ht:P.underlying t=some (.slice e)) (hi:P.info? e=some i) (hsz:i.size=1) {p:Option Addr} {n c:Nat} {l:Bs} (h:HasB w (.slice p n c) l) (hnc:n≤c) (r k:Nat) (hne:(Value.slice p n c).ownBlock≠some r) (hk:k≤n) :
  ∃ p' c',(∀ W,(Instr.slice t (.slice p n c) (some (.int .i64 (k:Int))) none none).run P W=.ok (.slice p' (n - k) c') W)∧HasB w (.slice p' (n - k) c') (l.drop k)∧n - k≤c'∧(Value.slice p' (n - k) c').ownBlock≠some r∧∀ x,(Value.slice p' (n - k) c').ownBlock=some x→(Value.slice p n c).ownBlock=some x:=by
 obtain ⟨p',c',h1,h2,h3,h4⟩:=run_tail (P:=P) ht hi hsz h hnc r k hne hk
 refine ⟨p',c',h1,h2,h3,h4,fun x hx=>?_⟩
 have e1:=h1 w
 rw [run_tail0 (P:=P) w ht hi hsz p n c k hk hnc] at e1
 have e2:(if c=k then p else p.map fun x=>x.add k)=p':=by
  have:=congrArg (fun z:Result Value=>match z with | .ok (.slice a _ _) _=>a | _=>none) e1
  exact this
 subst e2
 split at hx
 ·cases p with
  | none=>cases hx
  | some a=>exact hx
 ·cases p with
  | none=>cases hx
  | some a =>
   have e3:(Value.slice (some (a.add k)) (n - k) c').ownBlock=some (a.add k).block:=rfl
   have hx':(Value.slice (some (a.add k)) (n - k) c').ownBlock=some x:=hx
   rw [e3,zCj] at hx'
   exact hx'
section
variable {w:World} {r:Nat} {R:Rd} {p:Option Addr} {n c:Nat}
theorem rdX_bad {A:Nat→Prop} (h:RdIn w r R p n c):RdX A ((w.setCell ⟨r,0,none⟩ (.slice none 0 0)).setCell ⟨r,1,none⟩ (.bool true)) r Rd.fail :=
 ⟨none,0,0,⟨rd_set h _ _,OwnB.has (e:=0) (OwnR.nil _ _ _),Nat.le_refl _,fun h=>(by cases h),Nat.zero_le _⟩,fun k hk=>(by cases hk)⟩
theorem zCe {A:Nat→Prop} (h:RdIn w r R p n c) :
  Calls Tryz.prog 192 #[.pointer (some ⟨r,0,none⟩)] w (RStepX A w r Rd.fail (.tuple #[])):=by
 have h0:=h.c0
 have h1:=h.c1
 have hf:=fun i=>zAF h.cells i
 have HE:=zh (show RStepX A w r Rd.fail (.tuple #[]) (.returned (.tuple #[])) ((w.setCell ⟨r,0,none⟩ (.slice none 0 0)).setCell ⟨r,1,none⟩ (.bool true)) from ⟨rfl,rdX_bad h,(Chg.setCell w ⟨r,0,none⟩ _).trans (Chg.setCell _ ⟨r,1,none⟩ _) fun _ _ e=>e⟩)
 clear h
 go_enter Tryz.func192,Tryz.ntmps192
 go_wp2_with fail
 go_end0
 exact HE.out
theorem rawX_calls {A:Nat→Prop} (h:RdIn w r R p n c) (hA:∀ k,(Value.slice p n c).ownBlock=some k→A k) (k:Int) (hk:0≤k) (hk':k≤9223372036854775807) :
  Calls Tryz.prog 193 #[.pointer (some ⟨r,0,none⟩),.int .i64 k] w fun e w'=>∃ v,e=.returned v∧OwnB w' 5 v (R.raw k.toNat).1∧(∀ j,v.ownBlock=some j→w.heap.size≤j)∧RdX A w' r (R.raw k.toNat).2∧Chg (fun j=>j=r) w w':=by
 obtain ⟨i0,hi,-,hz1,-⟩:=info_parts (show (Tryz.prog.info? 5).map (fun i=>(i.zero,i.size,i.bytes))=some (some (.int .u8 0),1,1) by kernel_rfl)
 obtain ⟨m,rfl⟩:∃ m:Nat,k=(m:Int):=⟨k.toNat,by omega⟩
 have hn:=h.n_eq
 have hlen:=h.len
 rw [Int.toNat_natCast]
 have c0:=h.c0
 have hfr:=fun i=>zAF h.cells i
 by_cases hm:m≤n
 ·have hR:R.raw m=(R.rest.take m,⟨R.rest.drop m,R.bad⟩):=by unfold Rd.raw;rw [if_pos (by omega)]
  rw [hR]
  obtain ⟨p',c',hsl,hh,hc,hne,hnA⟩:=run_tailX (P:=Tryz.prog) Tryz.underlying22 hi hz1 h.has h.cap r m h.ne hm
  have hup:∀ W,(Instr.slice 22 (.slice p n c) none (some (.int .i64 (m:Int))) none).run Tryz.prog W=.ok (.slice p m c) W:=fun W=>zB0 W Tryz.underlying22 hi p n c m (by have:=h.cap;omega)
  have Hcl:=zh (zBY (HasB.cut h.has (k:=m) (by omega) c) (by rw [List.length_take];omega))
  have Hin:=zh h
  have Hh:=zh (And.intro hh (And.intro hc hne))
  have HA:=zh (fun k hk=>hA k (hnA k hk))
  clear hh hc hne h hR hnA hA
  go_enter Tryz.func193,Tryz.ntmps193
  go_wp2_with fail
  refine Hcl.out.mono ?_
  rintro e w1 ⟨v,rfl,hv,hvn,hb⟩
  have hcell:=hb.block r Hin.out.rlt
  have hin1:RdIn w1 r R p n c:=⟨hcell.trans Hin.out.cells,HasB.below Hin.out.has hb,Hin.out.cap,Hin.out.ne,Hin.out.len⟩
  have hc1:=hin1.c0
  have hfr1:=fun i=>zAF hin1.cells i
  have HV:=zh (And.intro (show OwnB (w1.setCell ⟨r,0,none⟩ (.slice p' (n - m) c')) 5 v (R.rest.take m) from hv.keep fun k hk=>set_other _ fun e=>by
   have:=hvn k hk
   have h2:=Hin.out.rlt
   have h3:k=r:=e
   omega) (And.intro hvn (And.intro (show RdX A (w1.setCell ⟨r,0,none⟩ (.slice p' (n - m) c')) r ⟨R.rest.drop m,R.bad⟩ from ⟨p',n - m,c',⟨rd_set0 hin1 _,(HasB.set (HasB.below Hh.out.1 hb) _ Hh.out.2.2),Hh.out.2.1,Hh.out.2.2,by rw [List.length_drop];omega⟩,HA.out⟩)
    (((Chg.of_below hb).mono fun _ _ h=>h.elim).trans (Chg.setCell _ ⟨r,0,none⟩ _) fun _ _ e=>e:Chg (fun j=>j=r) w (w1.setCell ⟨r,0,none⟩ (.slice p' (n - m) c'))))))
  clear hv hvn hin1 Hin Hh Hcl hcell
  go_wp2_with fail
  go_ret
  exact ⟨v,rfl,HV.out⟩
 ·have hR:R.raw m=([],Rd.fail):=by unfold Rd.raw;rw [if_neg (by omega)]
  rw [hR]
  have Hbd:=zh (zCe (A:=A) h)
  have hgt:((m:Int) > (n:Int)):=by omega
  clear h hR
  go_enter Tryz.func193,Tryz.ntmps193
  go_wp2_with fail
  refine Hbd.out.mono ?_
  rintro e w1 ⟨rfl,hr,hc⟩
  have HE:=zh (And.intro hr hc)
  clear hr hc
  go_wp2_with fail
  go_ret
  exact ⟨_,rfl,OwnR.nil _ _ _,fun j hj=>(by cases hj),HE.out⟩
end
theorem zB9 {AA:Nat→Prop} {w:World} {r:Nat} {R:Rd} {p:Option Addr} {n c:Nat} (h:RdIn w r R p n c) (hA:∀ k,(Value.slice p n c).ownBlock=some k→AA k) :
  Calls Tryz.prog 191 #[.pointer (some ⟨r,0,none⟩)] w (NumX AA w r R):=by
 obtain ⟨i0,hi,-,hz1,-⟩:=info_parts (show (Tryz.prog.info? 5).map (fun i=>(i.zero,i.size,i.bytes))=some (some (.int .u8 0),1,1) by kernel_rfl)
 have hn:=h.n_eq
 have hlen:=h.len
 rw [hn] at hlen
 have c0:=h.c0
 have hfr:=zAF h.cells 0
 have Hbad:=zh (zCe (A:=AA) h)
 have Hno:=zh (show zB3 0 0 R.rest=none→R.num=(0,Rd.fail) from fun e=>by unfold Rd.num;rw [e])
 have Hyes:=zh (show ∀ v t,zB3 0 0 R.rest=some (v,t)→R.num=(v,⟨t,R.bad⟩) from fun v t e=>by unfold Rd.num;rw [e])
 have Hin:=zh h
 have HA:=zh hA
 have Hn:=zh hn
 clear h hn hA
 go_enter Tryz.func191,Tryz.ntmps191
 go_wp2_with fail
 go_loop [3,13] (fun u i=>∃ k a:Nat,k≤n∧k≤9∧i=.int .i64 k∧u=.int .u64 a∧a < 128 ^ k∧zB3 0 0 R.rest=zB3 k a (R.rest.drop k)) (fun _ i=>n - (intOf i).toNat)
 case atStart=>exact ⟨0,0,Nat.zero_le _,by omega,rfl,rfl,by simp,rfl⟩
 case round =>
  obtain ⟨k,a,hk,hk9,rfl,rfl,ha,hgo⟩:=hrel
  by_cases hlt:k < n
  ·have hkl:k < R.rest.length:=by rw [Hn.out];exact hlt
   rw [List.drop_eq_getElem_cons hkl] at hgo
   rcases Hin.out.has.at with h0 | ⟨g,o,c1,e1,hc⟩
   ·rw [h0] at hkl
    simp at hkl
   simp only [Value.slice.injEq] at e1
   obtain ⟨rfl,-,rfl⟩:=e1
   have hck:=hc k _ (List.getElem?_eq_getElem hkl)
   have Hgo:=zh hgo
   clear hc hgo
   have hx:=R.rest[k].toNat_lt
   have Hstop:=zh (show 9≤k∨(0 < k∧R.rest[k].toNat=0)→zB3 k a (R.rest[k] :: R.rest.drop (k+1))=none from fun e=>by
    unfold zB3
    rw [if_pos (e.imp id fun e=>⟨e.1,UInt8.toNat.inj (by rw [e.2];rfl)⟩)])
   have Hgo1:=zh (show ¬ (9≤k∨(0 < k∧R.rest[k].toNat=0))→R.rest[k].toNat < 128→zB3 k a (R.rest[k] :: R.rest.drop (k+1))=if 4611686018427387904 < a+R.rest[k].toNat * 128 ^ k then none else some (a+R.rest[k].toNat * 128 ^ k,R.rest.drop (k+1)) from fun e h=>by
    rw [zB3,if_neg (fun h=>e (h.imp id fun h=>⟨h.1,by rw [h.2];rfl⟩)),if_pos h])
   have Hgo2:=zh (show ¬ (9≤k∨(0 < k∧R.rest[k].toNat=0))→¬ R.rest[k].toNat < 128→zB3 k a (R.rest[k] :: R.rest.drop (k+1))=zB3 (k+1) (a+R.rest[k].toNat % 128 * 128 ^ k) (R.rest.drop (k+1)) from fun e h=>by
    rw [zB3,if_neg (fun h=>e (h.imp id fun h=>⟨h.1,by rw [h.2];rfl⟩)),if_neg h])
   generalize R.rest[k].toNat=x at *
   by_cases h9:9≤k
   ·have HE:=zh (Hno.out (Hgo.out.trans (Hstop.out (.inl h9))))
    go_wp2_with fail
    refine Hbad.out.mono ?_
    rintro e w1 ⟨rfl,hr,hc⟩
    have HF:=zh (show NumX AA w r R (.returned (.int .i64 0)) w1 from ⟨by rw [HE.out];rfl,by rw [HE.out];exact hr,hc⟩)
    clear hr hc
    go_wp2_with fail
    go_ret
    exact HF.out
   ·by_cases hz:0 < k∧x=0
    ·have HE:=zh (Hno.out (Hgo.out.trans (Hstop.out (.inr hz))))
     obtain ⟨hk0,rfl⟩:=hz
     go_wp2_with fail
     refine Hbad.out.mono ?_
     rintro e w1 ⟨rfl,hr,hc⟩
     have HF:=zh (show NumX AA w r R (.returned (.int .i64 0)) w1 from ⟨by rw [HE.out];rfl,by rw [HE.out];exact hr,hc⟩)
     clear hr hc
     go_wp2_with fail
     go_ret
     exact HF.out
    ·have hs:¬ (9≤k∨(0 < k∧x=0)):=fun e=>e.elim h9 hz
     have hd9:decide ((9:Int)≤(k:Int))=false:=by simp;omega
     by_cases h128:x < 128
     ·have HE:=zh (Hgo.out.trans (Hgo1.out hs h128))
      have h7:=zEz ha (by omega) (show x < 256 by omega)
      rw [show x % 128=x by omega] at h7
      obtain ⟨h7,-,h73⟩:=h7
      generalize a+x * 128 ^ k=A at *
      by_cases hA:4611686018427387904 < A
      ·have HE2:=zh (Hno.out (HE.out.trans (if_pos hA)))
       rcases Nat.lt_or_ge 0 k with hk0 | hk0
       rotate_left
       ·go_wp2_with fail
        refine Hbad.out.mono ?_
        rintro e w1 ⟨rfl,hr,hc⟩
        have HF:=zh (show NumX AA w r R (.returned (.int .i64 0)) w1 from ⟨by rw [HE2.out];rfl,by rw [HE2.out];exact hr,hc⟩)
        clear hr hc
        go_wp2_with fail
        go_ret
        exact HF.out
       ·have hx0:0 < x:=by omega
        go_wp2_with fail
        refine Hbad.out.mono ?_
        rintro e w1 ⟨rfl,hr,hc⟩
        have HF:=zh (show NumX AA w r R (.returned (.int .i64 0)) w1 from ⟨by rw [HE2.out];rfl,by rw [HE2.out];exact hr,hc⟩)
        clear hr hc
        go_wp2_with fail
        go_ret
        exact HF.out
      ·have HE2:=zh (Hyes.out _ _ (HE.out.trans (if_neg hA)))
       obtain ⟨p',c',hsl,hh,hcc,hne,hnA⟩:=run_tailX (P:=Tryz.prog) Tryz.underlying22 hi hz1 Hin.out.has Hin.out.cap r (k+1) Hin.out.ne hlt
       have HF:=zh (show NumX AA w r R (.returned (.int .i64 (A:Int))) (w.setCell ⟨r,0,none⟩ (.slice p' (n - (k+1)) c')) from
        ⟨by rw [HE2.out],by rw [HE2.out];exact ⟨p',n - (k+1),c',⟨rd_set0 Hin.out _,HasB.set hh _ hne,hcc,hne,by rw [List.length_drop,Hn.out];omega⟩,fun k hk=>HA.out k (hnA k hk)⟩,Chg.setCell w ⟨r,0,none⟩ _⟩)
       rw [Int.natCast_add,Int.natCast_one] at hsl
       clear hh hcc hne hnA
       rcases Nat.lt_or_ge 0 k with hk0 | hk0
       rotate_left
       ·go_wp2_with fail
        go_ret
        exact HF.out
       ·have hx0:0 < x:=by omega
        go_wp2_with fail
        go_ret
        exact HF.out
     ·have hgo2:=Hgo.out.trans (Hgo2.out hs h128)
      obtain ⟨h7,h72,h73⟩:=zEz ha (by omega) (show x < 256 by omega)
      have Hgn:=zh (And.intro hgo2 h72)
      clear hgo2 h72
      generalize a+x % 128 * 128 ^ k=A at *
      rcases Nat.lt_or_ge 0 k with hk0 | hk0
      rotate_left
      ·go_wp2_with fail
       go_round
       case rel=>exact ⟨k+1,A,by omega,by omega,by go_num,rfl,Hgn.out.2,Hgn.out.1⟩
       case measure=>simp [intOf];omega
      ·have hx0:0 < x:=by omega
       go_wp2_with fail
       go_round
       case rel=>exact ⟨k+1,A,by omega,by omega,by go_num,rfl,Hgn.out.2,Hgn.out.1⟩
       case measure=>simp [intOf];omega
  ·have hkn:R.rest.drop k=[]:=List.drop_of_length_le (by rw [Hn.out];omega)
   rw [hkn] at hgo
   have HE:=zh (Hno.out hgo)
   clear hgo hkn
   go_wp2_with fail
   refine Hbad.out.mono ?_
   rintro e w1 ⟨rfl,hr,hc⟩
   have HF:=zh (show NumX AA w r R (.returned (.int .i64 0)) w1 from ⟨by rw [HE.out];rfl,by rw [HE.out];exact hr,hc⟩)
   clear hr hc
   go_wp2_with fail
   go_ret
   exact HF.out
theorem zEs {A:Nat→Prop} {w:World} {r:Nat} {R:Rd} (h:RdX A w r R) :
  Calls Tryz.prog 152 #[.pointer (some ⟨r,0,none⟩)] w (RowX A w r R.bytes.1 R.bytes.2):=by
 obtain ⟨p,n,c,h,hA⟩:=h
 have Hn:=zh (zB9 h hA)
 have hle:=Rd.num_le R
 have HB:=zh (show R.bytes=R.num.2.raw R.num.1 from rfl)
 clear h hA
 go_enter Tryz.func152,Tryz.ntmps152
 go_wp2_with fail
 refine Hn.out.mono ?_
 rintro e w1 ⟨rfl,⟨p1,n1,c1,hr,hA1⟩,hc⟩
 have Hr:=zh (rawX_calls hr hA1 (R.num.1:Int) (by omega) (by omega))
 have Hc:=zh hc
 rw [Int.toNat_natCast] at Hr
 clear hr hc Hn hA1
 generalize R.num.1=m at *
 generalize R.num.2=R1 at *
 go_wp2_with fail
 refine Hr.out.mono ?_
 rintro e w2 ⟨v,rfl,hv,hvn,hr2,hc2⟩
 have HE:=zh (show RowX A w r R.bytes.1 R.bytes.2 (.returned v) w2 from ⟨v,rfl,by rw [HB.out];exact hv,fun j hj=>Nat.le_trans Hc.out.size (hvn j hj),by rw [HB.out];exact hr2,Hc.out.trans hc2 fun _ _ e=>e⟩)
 clear hv hvn hr2 hc2 Hr
 go_wp2_with fail
 go_ret
 exact HE.out
theorem zBZ {w:World} {x:Value} {l:Bs} (h:HasB w x l) (hl:l.length≤140737488355328) :
  Calls Tryz.prog 149 #[x] w fun e w'=>∃ r,e=.returned (.pointer (some ⟨r,0,none⟩))∧RdX (fun k=>w.heap.size≤k∧k < r) w' r ⟨l,false⟩∧w.heap.size≤r∧r < w'.heap.size∧Below w.heap.size w w':=by
 have Hc:=zh (zBY h hl)
 clear h
 go_enter Tryz.func149,Tryz.ntmps149
 go_wp2_with fail
 refine Hc.out.mono ?_
 rintro e w1 ⟨v,rfl,hv,hvn,hb⟩
 obtain ⟨p,c,rfl,hcap⟩:=zAO hv
 have HE:=zh (show RdX (fun k=>w.heap.size≤k∧k < w1.heap.size) (w1.alloc (.cells #[.slice p l.length c,.bool false] 232)) w1.heap.size ⟨l,false⟩ from
  ⟨p,l.length,c,⟨zAI w1 _,zEj hv.has _,hcap,fun e=>by have:=OwnR.lt hv e;omega,hl⟩,fun k hk=>⟨hvn k hk,OwnR.lt hv hk⟩⟩)
 have HB:=zh (And.intro hb.size (And.intro (show w1.heap.size < (w1.alloc (.cells #[.slice p l.length c,.bool false] 232)).heap.size from by simp) (hb.alloc hb.size (.cells #[.slice p l.length c,.bool false] 232))))
 clear hv hvn hb Hc
 generalize l.length=n at *
 go_wp2_with fail
 go_ret
 exact ⟨_,rfl,HE.out,HB.out⟩
theorem setCell_heap {w u:World} (a:Addr) (v:Value) {b:Nat} (h:w.heap[b]?=u.heap[b]?):(w.setCell a v).heap[b]?=(u.setCell a v).heap[b]?:=by
 simp [World.setCell,Array.getElem?_modify,h]
def putN (w:World):List Addr→List Int→World
 | a :: l,z :: zs=>putN (w.setCell a (.int .i64 z)) l zs
 | _,_=>w
theorem putN_snoc:∀ (l:List Addr) (zs:List Int) (w:World) (a:Addr) (z:Int),zs.length=l.length→putN w (l ++ [a]) (zs ++ [z])=(putN w l zs).setCell a (.int .i64 z)
 | [],[],_,_,_,_=>rfl
 | _ :: l,_ :: zs,_,a,z,h=>putN_snoc l zs _ a z (by simpa using h)
 | [],_ :: _,_,_,_,h=>by simp at h
 | _ :: _,[],_,_,_,h=>by simp at h
theorem zCJ:∀ (k:Nat) (R:Rd),(Rd.ints k R).1.length=k
 | 0,_=>rfl
 | k+1,R=>by
  show ((R.num.1:Int) :: (Rd.ints k R.num.2).1).length=_
  rw [List.length_cons,zCJ k]
theorem zC8:∀ (k:Nat) (R:Rd),Rd.ints (k+1) R=((Rd.ints k R).1 ++ [((Rd.ints k R).2.num.1:Int)],(Rd.ints k R).2.num.2)
 | 0,R=>rfl
 | k+1,R=>by
  show ((R.num.1:Int) :: (Rd.ints (k+1) R.num.2).1,(Rd.ints (k+1) R.num.2).2)=_
  rw [zC8 k R.num.2]
  rfl
theorem ints_mem:∀ (k:Nat) (R:Rd),∀ z ∈ (Rd.ints k R).1,0≤z∧z≤4611686018427387904
 | 0,_,z,hz=>by cases hz
 | k+1,R,z,hz=>by
  have h1:=Rd.num_le R
  rcases List.mem_cons.1 (show z ∈ ((R.num.1:Int) :: (Rd.ints k R.num.2).1) from hz) with rfl | hz
  ·omega
  ·exact ints_mem k _ z hz
theorem zCn:∀ (k:Nat) (R:Rd),(Rd.ints k R).2.rest.length≤R.rest.length
 | 0,_=>Nat.le_refl _
 | k+1,R=>Nat.le_trans (zCn k R.num.2) (Rd.num_rest R)
structure zCh (w:World) (r:Nat) (ps:List Addr):Prop where
 cell:∀ a ∈ ps,∃ z,w.cell? a=some (.int .i64 z)
 free:∀ a ∈ ps,w.frozen? a=false
 ne:∀ a ∈ ps,a.block≠r
 sp:∀ a ∈ ps,a.spot=none
def NumsTold (A:Nat→Prop) (w:World) (r:Nat) (R:Rd) (ps:List Addr) (w':World):Prop :=
 RdX A w' r (Rd.ints ps.length R).2∧Chg (fun b=>b=r∨∃ a ∈ ps,b=a.block) w w'∧∀ b,b < w.heap.size→b≠r→w'.heap[b]?=(putN w ps (Rd.ints ps.length R).1).heap[b]?
theorem zCh.chg {w w':World} {r:Nat} {ps:List Addr} (h:zCh w r ps) (hc:Chg (fun k=>k=r) w w'):zCh w' r ps:=by
 have hb:∀ a ∈ ps,w'.heap[a.block]?=w.heap[a.block]?:=fun a ha=>by
  obtain ⟨z,hz⟩:=h.cell a ha
  exact hc.block _ (World.block_lt_of_cell? _ _ hz) (h.ne a ha)
 exact ⟨fun a ha=>by obtain ⟨z,hz⟩:=h.cell a ha;exact ⟨z,(World.cell?_of_block (hb a ha)).trans hz⟩,fun a ha=>by have:=h.free a ha;simpa [World.frozen?,hb a ha] using this,h.ne,h.sp⟩
theorem zCh.set {w:World} {r:Nat} {ps:List Addr} (h:zCh w r ps) {a:Addr} (ha:a ∈ ps) (z:Int):zCh (w.setCell a (.int .i64 z)) r ps:=by
 have hcell:∀ b,w.cell? b≠none→(∃ y,(w.setCell a (.int .i64 z)).cell? b=some y∧(y=.int .i64 z∨w.cell? b=some y)):=fun b hb=>by
  by_cases e:a=b
  ·subst e
   exact ⟨.int .i64 z,by obtain ⟨z',hz⟩:=h.cell a ha;exact World.cell?_setCell_same w a _ hz,.inl rfl⟩
  ·rw [World.cell?_setCell_other (h:=e)]
   cases hc:w.cell? b with
   | none=>exact absurd hc hb
   | some y=>exact ⟨y,rfl,.inr rfl⟩
 refine ⟨fun b hb=>?_,fun b hb=>by rw [World.frozen?_setCell];exact h.free b hb,h.ne,h.sp⟩
 ·obtain ⟨z',hz⟩:=h.cell b hb
  obtain ⟨y,hy,he⟩:=hcell b (by rw [hz];simp)
  rcases he with rfl | he
  ·exact ⟨z,hy⟩
  ·rw [hz] at he
   cases he
   exact ⟨z',hy⟩
theorem zDX {A:Nat→Prop} {w:World} {r:Nat} {R:Rd} (h:RdX A w r R) {g c:Nat} {ps:List Addr} (hp:zCh w r ps) (hl:ps.length≤1000) (hg:∀ i a,ps[i]?=some a→w.cell? ⟨g,i,none⟩=some (.pointer (some a))) (hgr:g≠r) (hgn:∀ a ∈ ps,a.block≠g) (hA:∀ k,A k→k≠r∧∀ a ∈ ps,k≠a.block) :
  Calls Tryz.prog 150 #[.pointer (some ⟨r,0,none⟩),.slice (some ⟨g,0,none⟩) ps.length c] w fun e w'=>e=.returned (.tuple #[])∧NumsTold A w r R ps w':=by
 have Hg:=zh hg
 have H:=zh h
 have Hp:=zh hp
 have Hgr:=zh hgr
 have Hgn:=zh hgn
 have HA:=zh hA
 clear h hp hg hgr hgn hA
 generalize hn:ps.length=n at *
 have Hn:=zh hn
 clear hn
 go_enter Tryz.func150,Tryz.ntmps150
 go_wp2_with fail
 go_loopw [9] (fun i wr=>∃ k:Nat,k≤n∧i=.int .i64 k∧RdX A wr r (Rd.ints k R).2∧Chg (fun b=>b=r∨∃ a ∈ ps,b=a.block) w wr∧zCh wr r ps∧∀ b,b < w.heap.size→b≠r→wr.heap[b]?=(putN w (ps.take k) (Rd.ints k R).1).heap[b]?) (fun i _=>n - (intOf i).toNat)
 case atStart=>exact ⟨0,Nat.zero_le _,rfl,H.out,Chg.refl _ _,Hp.out,fun b _ _=>by rw [List.take_zero];rfl⟩
 case round =>
  clear H Hp
  obtain ⟨k,hk,rfl,hrd,hch,hpl,hpu⟩:=hrel
  by_cases hlt:k < n
  ·have hkl:k < ps.length:=by rw [Hn.out];exact hlt
   have ha:=List.getElem?_eq_getElem hkl
   have ham:=List.getElem_mem hkl
   have hcg:=hch.cell (Hg.out k _ ha) (fun e=>e.elim Hgr.out fun ⟨a,h1,h2⟩=>Hgn.out a h1 h2.symm)
   have Hsn:=zh (zC8 k R)
   have HTk:=zh (List.take_succ_eq_append_getElem hkl)
   generalize ps[k]=a at *
   have Hlen:=zh (show ((Rd.ints k R).1).length=(ps.take k).length from by rw [zCJ,List.length_take,Nat.min_eq_left (by omega)])
   have Hnum:=zh (show Calls Tryz.prog 191 #[.pointer (some ⟨r,0,none⟩)] wr (NumX A wr r (Rd.ints k R).2) from by obtain ⟨_,_,_,h,ha⟩:=hrd;exact zB9 h ha)
   have HX:=zh (And.intro hch (And.intro hpl hpu))
   have Ham:=zh ham
   have hle:=Rd.num_le (Rd.ints k R).2
   clear hrd hch hpl hpu hkl ha ham
   generalize hRk:(Rd.ints k R).2=Rk at *
   generalize hv:Rk.num.1=v at *
   have HRk:=zh hRk
   have Hv:=zh hv
   clear hRk hv
   go_wp2_with fail
   refine Hnum.out.mono ?_
   rintro e w2 ⟨rfl,hr2,hc2⟩
   have hpl2:=HX.out.2.1.chg hc2
   have HP2:=zh hpl2
   obtain ⟨z,hz⟩:=hpl2.cell a Ham.out
   have hfz:=hpl2.free a Ham.out
   have HR2:=zh hr2
   have HC2:=zh hc2
   rw [Hv.out]
   clear hr2 hc2 hpl2 Hnum
   go_wp2_with fail
   have HE:=zh (show RdX A (w2.setCell a (.int .i64 (v:Int))) r (Rd.ints (k+1) R).2∧Chg (fun b=>b=r∨∃ a ∈ ps,b=a.block) w (w2.setCell a (.int .i64 (v:Int)))∧zCh (w2.setCell a (.int .i64 (v:Int))) r ps∧∀ b,b < w.heap.size→b≠r→(w2.setCell a (.int .i64 (v:Int))).heap[b]?=(putN w (ps.take (k+1)) (Rd.ints (k+1) R).1).heap[b]? from by
    rw [Hsn.out,HTk.out]
    refine ⟨HR2.out.chg (Chg.setCell w2 a _) (fun e=>HP2.out.ne a Ham.out e.symm) (fun k hk e=>(HA.out k hk).2 a Ham.out e),?_,HP2.out.set Ham.out _,fun b hb hbr=>?_⟩
    ·exact (HX.out.1.trans (HC2.out.mono (T:=fun b=>b=r∨∃ a ∈ ps,b=a.block) fun _ _ e=>.inl e) fun _ _ e=>e).trans ((Chg.setCell w2 a (.int .i64 (v:Int))).mono (T:=fun b=>b=r∨∃ a ∈ ps,b=a.block) fun _ _ e=>.inr ⟨a,Ham.out,e⟩) fun _ _ e=>e
    ·rw [putN_snoc _ _ _ _ _ Hlen.out]
     exact setCell_heap _ _ ((HC2.out.block b (Nat.lt_of_lt_of_le hb HX.out.1.size) hbr).trans (HX.out.2.2 b hb hbr)))
   go_roundw
   case rel=>exact ⟨k+1,by omega,by go_num,HE.out⟩
   case measure=>simp [intOf];omega
  ·have hkn:k=n:=by omega
   have het:ps.take k=ps:=List.take_of_length_le (by rw [Hn.out];omega)
   rw [het,hkn] at hpu
   rw [hkn] at hrd
   have HE:=zh (show NumsTold A w r R ps wr from ⟨by rw [Hn.out];exact hrd,hch,by rw [Hn.out];exact hpu⟩)
   clear hrd hch hpl hpu het hkn
   go_wp2_with fail
   go_end0
   exact ⟨rfl,HE.out⟩
def zDi (A:Nat→Prop) (w:World) (r:Nat) (g:List Int × Rd) (e:Ending) (w':World):Prop :=
 ∃ v,e=.returned v∧OwnI w' v g.1∧(∀ k,v.ownBlock=some k→w.heap.size≤k)∧RdX A w' r g.2∧Chg (fun k=>k=r) w w'
theorem any_calls (w:World) (x:Value):Calls Tryz.prog 196 #[x] w fun e w'=>e=.returned (.bool true)∧w'=w:=by
 go_enter Tryz.func196,Tryz.ntmps196
 go_wp2_with fail
 go_ret
 exact ⟨rfl,rfl⟩
theorem grp_big {may:List Int→Bool} {R:Rd} (h:7 < R.num.1):R.grp may=([],Rd.fail):=by
 unfold Rd.grp
 rw [if_pos h]
theorem zCm {may:List Int→Bool} {R:Rd} (h:¬ 7 < R.num.1):R.grp may=((Rd.ints R.num.1 R.num.2).1,if may (Rd.ints R.num.1 R.num.2).1 then (Rd.ints R.num.1 R.num.2).2 else Rd.fail):=by
 unfold Rd.grp
 rw [if_neg h]
theorem grp_round {A:Nat→Prop} {w wr w3 w4:World} {r k v:Nat} {xv v4:Value} {zs:List Int} {R2:Rd} {o:Obj} (hA:∀ k,A k→k < w.heap.size∧k≠r) (hrl:r < w.heap.size) (hnew:∀ y,xv.ownBlock=some y→w.heap.size≤y∧y≠r) (hch:Chg (fun k=>k=r) w wr)
  (hr3:RdX A w3 r R2) (hc3:Chg (fun k=>k=r) wr w3) (hik:zs.length=k) (hown:OwnR w4 3 1 v4 (k+1) (intsV zs ++ [.int .i64 (v:Int)])) (hg:(w3.alloc o).grownBy w4 xv.ownBlock) (hloc:v4.ownBlock=xv.ownBlock∨∃ g,v4.ownBlock=some g∧(w3.alloc o).heap.size≤g) :
  OwnI w4 v4 (zs ++ [(v:Int)])∧(∀ y,v4.ownBlock=some y→w.heap.size≤y∧y≠r)∧RdX A w4 r R2∧Chg (fun k=>k=r) w w4:=by
 have hs1:=hch.size
 have hs3:=hc3.size
 have hb:=zAi w3 o
 have hs4:=hb.size
 have hC:Chg (fun k=>some k=xv.ownBlock) w3 w4:=((Chg.of_below hb).mono fun _ _ e=>e.elim).trans (Chg.of_grown hg) fun _ _ e=>e
 refine ⟨?_,fun y hy=>?_,hr3.chg hC (fun e=>(hnew r e.symm).2 rfl) (fun x hx e=>by have h1:=(hnew x e.symm).1;have h2:=(hA x hx).1;omega),(hch.trans hc3 fun _ _ e=>e).trans hC fun x hx e=>by have:=(hnew x e.symm).1;omega⟩
 ·unfold OwnI intsV
  rw [List.length_append,hik,List.map_append]
  exact hown
 ·rcases hloc with e | ⟨g,e,hge⟩
  ·exact hnew y (e ▸ hy)
  ·rw [hy] at e
   cases e
   exact ⟨by omega,by omega⟩
theorem readGrp_grp {A:Nat→Prop} {w:World} {r:Nat} {R:Rd} (h:RdX A w r R) (hA:∀ k,A k→k < w.heap.size∧k≠r) :
  Calls Tryz.prog 151 #[.pointer (some ⟨r,0,none⟩),.func (.func 73) #[] #[]] w (zDi A w r (R.grp zAW)):=by
 obtain ⟨i0,hi,hz0,hz1,hz2⟩:=info_parts (show (Tryz.prog.info? 3).map (fun i=>(i.zero,i.size,i.bytes))=some (some (.int .i64 0),1,8) by kernel_rfl)
 have Hnum:=zh (show Calls Tryz.prog 191 #[.pointer (some ⟨r,0,none⟩)] w (NumX A w r R) from by obtain ⟨_,_,_,h,ha⟩:=h;exact zB9 h ha)
 have hle:=Rd.num_le R
 have HB:=zh (grp_big (may:=zAW) (R:=R))
 have HS:=zh (zCm (may:=zAW) (R:=R))
 have HA:=zh hA
 have Hrl:=zh h.lt
 clear h hA
 generalize R.grp zAW=G at *
 generalize hn:R.num.1=n at *
 generalize hR1:R.num.2=R1 at *
 have Hn:=zh hn
 have HR1:=zh hR1
 clear hn hR1
 go_enter Tryz.func151,Tryz.ntmps151
 go_wp2_with fail
 refine Hnum.out.mono ?_
 rintro e w2 ⟨rfl,hr2,hc2⟩
 rw [HR1.out] at hr2
 rw [Hn.out]
 have HR2:=zh hr2
 have HC2:=zh hc2
 by_cases h7:7 < n
 ·have Hbad:=zh (show Calls Tryz.prog 192 #[.pointer (some ⟨r,0,none⟩)] w2 (RStepX A w2 r Rd.fail (.tuple #[])) from by obtain ⟨_,_,_,h,_⟩:=hr2;exact zCe h)
  have HG:=zh (HB.out h7)
  clear hr2 hc2 Hnum
  go_wp2_with fail
  refine Hbad.out.mono ?_
  rintro e w3 ⟨rfl,hr3,hc3⟩
  have HE:=zh (show zDi A w r G (.returned (.slice none 0 0)) w3 from ⟨.slice none 0 0,rfl,by rw [HG.out];exact OwnR.nil _ _ _,fun k hk=>(by cases hk),by rw [HG.out];exact hr3,HC2.out.trans hc3 fun _ _ e=>e⟩)
  clear hr3 hc3 Hbad
  go_wp2_with fail
  go_ret
  exact HE.out
 ·have HG:=zh (HS.out h7)
  have hn7:n≤7:=by omega
  clear hr2 hc2 Hnum
  go_wp2_with fail
  go_loopw [6,14] (fun x i wr=>∃ (k:Nat) (xv:Value),k≤n∧i=.int .i64 k∧xv=x∧OwnI wr xv (Rd.ints k R1).1∧(∀ y,xv.ownBlock=some y→w.heap.size≤y∧y≠r)∧RdX A wr r (Rd.ints k R1).2∧Chg (fun k=>k=r) w wr) (fun _ i _=>n - (intOf i).toNat)
  case atStart=>exact ⟨0,_,Nat.zero_le _,rfl,rfl,OwnR.nil _ _ _,fun y hy=>(by cases hy),HR2.out,HC2.out⟩
  case round =>
   clear HR2 HC2
   obtain ⟨k,xv,hk,rfl,rfl,hown,hnew,hrd,hch⟩:=hrel
   by_cases hlt:k < n
   ·have Hnm:=zh (show Calls Tryz.prog 191 #[.pointer (some ⟨r,0,none⟩)] wr (NumX A wr r (Rd.ints k R1).2) from by obtain ⟨_,_,_,h,ha⟩:=hrd;exact zB9 h ha)
    have Hsn:=zh (zC8 k R1)
    have hik:=zCJ k R1
    have HX:=zh (And.intro hown (And.intro hnew hch))
    have Hrow:=zh (show OwnR wr 3 1 xv k (intsV (Rd.ints k R1).1) from by have:=hown;unfold OwnI at this;rwa [hik] at this)
    have Hik:=zh hik
    have hle2:=Rd.num_le (Rd.ints k R1).2
    have Hsn2:=zh Hsn.out
    clear hown hnew hrd hch hik
    generalize hv:(Rd.ints k R1).2.num.1=v at *
    have Hv:=zh hv
    clear hv
    go_wp2_with fail
    refine Hnm.out.mono ?_
    rintro e w3 ⟨rfl,hr3,hc3⟩
    have HR3:=zh hr3
    have HC3:=zh hc3
    rw [Hv.out]
    have Hrow3:=zh (Hrow.out.keep fun y hy=>hc3.block y (OwnR.lt Hrow.out hy) fun e=>(HX.out.2.1 y hy).2 e)
    clear hr3 hc3 Hnm
    go_wp2_with (at_builtin;have hal:=Hrow3.out.keep (w':=w3.alloc (.cells #[.int .i64 (v:Int)] 3)) (fun z hz=>(zAi w3 _).block z (OwnR.lt Hrow3.out hz));have hxx:=zC3 w3 (.int .i64 (v:Int)) 3 (0,0);refine zAP _ rfl (.tmp 16) (.tmp 19) 38 rfl 3 i0 (.int .i64 0) 1 8 Tryz.underlying38 hi hz0 hz1 hz2 rfl (by decide) xv k _ rfl hal (.slice (some ⟨w3.heap.size,0,none⟩) 1 1) 1 _ rfl hxx (by simp [Value.oneCell']) (by unfold maxLen;omega) (by omega) ?_;clear hal hxx;intro v4 w4 hown4 hgrow4 hloc4;go_loud (have HE:=zh (grp_round (v:=v) HA.out Hrl.out HX.out.2.1 HX.out.2.2 HR3.out HC3.out Hik.out hown4 hgrow4 hloc4);clear hgrow4 hloc4;obtain ⟨p4,q4,rfl⟩:=OwnR.shape hown4;clear hown4))
    go_roundw
    case rel=>exact ⟨k+1,_,by omega,by go_num,rfl,by rw [Hsn2.out];exact HE.out.1,HE.out.2.1,by rw [Hsn2.out];exact HE.out.2.2.1,HE.out.2.2.2⟩
    case measure=>simp [intOf];omega
   ·have hkn:k=n:=by omega
    subst hkn
    have hlen:=zCJ k R1
    obtain ⟨px,cx,e1,-⟩:=zAl hown
    have Hmay:=zh (show Calls Tryz.prog 73 #[xv] wr fun e w'=>e=.returned (.bool (zAW (Rd.ints k R1).1))∧w'=wr from by rw [e1];exact zEJ (by rw [← e1];exact OwnI.has hown) (by omega))
    have Hbad:=zh (show Calls Tryz.prog 192 #[.pointer (some ⟨r,0,none⟩)] wr (RStepX A wr r Rd.fail (.tuple #[])) from by obtain ⟨_,_,_,h,_⟩:=hrd;exact zCe h)
    have HX:=zh (And.intro hown (And.intro hnew (And.intro hch hrd)))
    have HXS:=zh (show xv.ownBlock≠some r from fun e=>(hnew r e).2 rfl)
    subst e1
    clear hown hnew hch hrd hlen
    cases hmy:zAW (Rd.ints k R1).1 with
    | false =>
     rw [hmy] at Hmay HG
     go_wp2_with fail
     refine Hmay.out.mono ?_
     rintro e w3 ⟨rfl,rfl⟩
     go_wp2_with fail
     refine Hbad.out.mono ?_
     rintro e w4 ⟨rfl,hr4,hc4⟩
     have HE:=zh (show zDi A w r G (.returned (.slice px (Rd.ints k R1).1.length cx)) w4 from ⟨_,rfl,by rw [HG.out];exact OwnR.keep HX.out.1 fun y hy=>hc4.block y (OwnR.lt HX.out.1 hy) fun e=>HXS.out (e ▸ hy),fun y hy=>(HX.out.2.1 y hy).1,by rw [HG.out];exact hr4,HX.out.2.2.1.trans hc4 fun _ _ e=>e⟩)
     clear hr4 hc4 Hbad
     go_wp2_with fail
     go_ret
     exact HE.out
    | true =>
     rw [hmy] at Hmay HG
     have HE:=zh (show zDi A w r G (.returned (.slice px (Rd.ints k R1).1.length cx)) wr from ⟨_,rfl,by rw [HG.out];exact HX.out.1,fun y hy=>(HX.out.2.1 y hy).1,by rw [HG.out];exact HX.out.2.2.2,HX.out.2.2.1⟩)
     go_wp2_with fail
     refine Hmay.out.mono ?_
     rintro e w3 ⟨rfl,rfl⟩
     go_wp2_with fail
     go_ret
     exact HE.out
theorem readGrp_any {A:Nat→Prop} {w:World} {r:Nat} {R:Rd} (h:RdX A w r R) (hA:∀ k,A k→k < w.heap.size∧k≠r) :
  Calls Tryz.prog 151 #[.pointer (some ⟨r,0,none⟩),.func (.func 196) #[] #[]] w (zDi A w r (R.grp anyG)):=by
 obtain ⟨i0,hi,hz0,hz1,hz2⟩:=info_parts (show (Tryz.prog.info? 3).map (fun i=>(i.zero,i.size,i.bytes))=some (some (.int .i64 0),1,8) by kernel_rfl)
 have Hnum:=zh (show Calls Tryz.prog 191 #[.pointer (some ⟨r,0,none⟩)] w (NumX A w r R) from by obtain ⟨_,_,_,h,ha⟩:=h;exact zB9 h ha)
 have hle:=Rd.num_le R
 have HB:=zh (grp_big (may:=anyG) (R:=R))
 have HS:=zh (zCm (may:=anyG) (R:=R))
 have HA:=zh hA
 have Hrl:=zh h.lt
 clear h hA
 generalize R.grp anyG=G at *
 generalize hn:R.num.1=n at *
 generalize hR1:R.num.2=R1 at *
 have Hn:=zh hn
 have HR1:=zh hR1
 clear hn hR1
 go_enter Tryz.func151,Tryz.ntmps151
 go_wp2_with fail
 refine Hnum.out.mono ?_
 rintro e w2 ⟨rfl,hr2,hc2⟩
 rw [HR1.out] at hr2
 rw [Hn.out]
 have HR2:=zh hr2
 have HC2:=zh hc2
 by_cases h7:7 < n
 ·have Hbad:=zh (show Calls Tryz.prog 192 #[.pointer (some ⟨r,0,none⟩)] w2 (RStepX A w2 r Rd.fail (.tuple #[])) from by obtain ⟨_,_,_,h,_⟩:=hr2;exact zCe h)
  have HG:=zh (HB.out h7)
  clear hr2 hc2 Hnum
  go_wp2_with fail
  refine Hbad.out.mono ?_
  rintro e w3 ⟨rfl,hr3,hc3⟩
  have HE:=zh (show zDi A w r G (.returned (.slice none 0 0)) w3 from ⟨.slice none 0 0,rfl,by rw [HG.out];exact OwnR.nil _ _ _,fun k hk=>(by cases hk),by rw [HG.out];exact hr3,HC2.out.trans hc3 fun _ _ e=>e⟩)
  clear hr3 hc3 Hbad
  go_wp2_with fail
  go_ret
  exact HE.out
 ·have HG:=zh (HS.out h7)
  have hn7:n≤7:=by omega
  clear hr2 hc2 Hnum
  go_wp2_with fail
  go_loopw [6,14] (fun x i wr=>∃ (k:Nat) (xv:Value),k≤n∧i=.int .i64 k∧xv=x∧OwnI wr xv (Rd.ints k R1).1∧(∀ y,xv.ownBlock=some y→w.heap.size≤y∧y≠r)∧RdX A wr r (Rd.ints k R1).2∧Chg (fun k=>k=r) w wr) (fun _ i _=>n - (intOf i).toNat)
  case atStart=>exact ⟨0,_,Nat.zero_le _,rfl,rfl,OwnR.nil _ _ _,fun y hy=>(by cases hy),HR2.out,HC2.out⟩
  case round =>
   clear HR2 HC2
   obtain ⟨k,xv,hk,rfl,rfl,hown,hnew,hrd,hch⟩:=hrel
   by_cases hlt:k < n
   ·have Hnm:=zh (show Calls Tryz.prog 191 #[.pointer (some ⟨r,0,none⟩)] wr (NumX A wr r (Rd.ints k R1).2) from by obtain ⟨_,_,_,h,ha⟩:=hrd;exact zB9 h ha)
    have Hsn:=zh (zC8 k R1)
    have hik:=zCJ k R1
    have HX:=zh (And.intro hown (And.intro hnew hch))
    have Hrow:=zh (show OwnR wr 3 1 xv k (intsV (Rd.ints k R1).1) from by have:=hown;unfold OwnI at this;rwa [hik] at this)
    have Hik:=zh hik
    have hle2:=Rd.num_le (Rd.ints k R1).2
    have Hsn2:=zh Hsn.out
    clear hown hnew hrd hch hik
    generalize hv:(Rd.ints k R1).2.num.1=v at *
    have Hv:=zh hv
    clear hv
    go_wp2_with fail
    refine Hnm.out.mono ?_
    rintro e w3 ⟨rfl,hr3,hc3⟩
    have HR3:=zh hr3
    have HC3:=zh hc3
    rw [Hv.out]
    have Hrow3:=zh (Hrow.out.keep fun y hy=>hc3.block y (OwnR.lt Hrow.out hy) fun e=>(HX.out.2.1 y hy).2 e)
    clear hr3 hc3 Hnm
    go_wp2_with (at_builtin;have hal:=Hrow3.out.keep (w':=w3.alloc (.cells #[.int .i64 (v:Int)] 3)) (fun z hz=>(zAi w3 _).block z (OwnR.lt Hrow3.out hz));have hxx:=zC3 w3 (.int .i64 (v:Int)) 3 (0,0);refine zAP _ rfl (.tmp 16) (.tmp 19) 38 rfl 3 i0 (.int .i64 0) 1 8 Tryz.underlying38 hi hz0 hz1 hz2 rfl (by decide) xv k _ rfl hal (.slice (some ⟨w3.heap.size,0,none⟩) 1 1) 1 _ rfl hxx (by simp [Value.oneCell']) (by unfold maxLen;omega) (by omega) ?_;clear hal hxx;intro v4 w4 hown4 hgrow4 hloc4;go_loud (have HE:=zh (grp_round (v:=v) HA.out Hrl.out HX.out.2.1 HX.out.2.2 HR3.out HC3.out Hik.out hown4 hgrow4 hloc4);clear hgrow4 hloc4;obtain ⟨p4,q4,rfl⟩:=OwnR.shape hown4;clear hown4))
    go_roundw
    case rel=>exact ⟨k+1,_,by omega,by go_num,rfl,by rw [Hsn2.out];exact HE.out.1,HE.out.2.1,by rw [Hsn2.out];exact HE.out.2.2.1,HE.out.2.2.2⟩
    case measure=>simp [intOf];omega
   ·have hkn:k=n:=by omega
    subst hkn
    have hlen:=zCJ k R1
    obtain ⟨px,cx,e1,-⟩:=zAl hown
    have Hmay:=zh (show Calls Tryz.prog 196 #[xv] wr fun e w'=>e=.returned (.bool (anyG (Rd.ints k R1).1))∧w'=wr from by exact any_calls wr xv)
    have Hbad:=zh (show Calls Tryz.prog 192 #[.pointer (some ⟨r,0,none⟩)] wr (RStepX A wr r Rd.fail (.tuple #[])) from by obtain ⟨_,_,_,h,_⟩:=hrd;exact zCe h)
    have HX:=zh (And.intro hown (And.intro hnew (And.intro hch hrd)))
    have HXS:=zh (show xv.ownBlock≠some r from fun e=>(hnew r e).2 rfl)
    subst e1
    clear hown hnew hch hrd hlen
    cases hmy:anyG (Rd.ints k R1).1 with
    | false =>
     rw [hmy] at Hmay HG
     go_wp2_with fail
     refine Hmay.out.mono ?_
     rintro e w3 ⟨rfl,rfl⟩
     go_wp2_with fail
     refine Hbad.out.mono ?_
     rintro e w4 ⟨rfl,hr4,hc4⟩
     have HE:=zh (show zDi A w r G (.returned (.slice px (Rd.ints k R1).1.length cx)) w4 from ⟨_,rfl,by rw [HG.out];exact OwnR.keep HX.out.1 fun y hy=>hc4.block y (OwnR.lt HX.out.1 hy) fun e=>HXS.out (e ▸ hy),fun y hy=>(HX.out.2.1 y hy).1,by rw [HG.out];exact hr4,HX.out.2.2.1.trans hc4 fun _ _ e=>e⟩)
     clear hr4 hc4 Hbad
     go_wp2_with fail
     go_ret
     exact HE.out
    | true =>
     rw [hmy] at Hmay HG
     have HE:=zh (show zDi A w r G (.returned (.slice px (Rd.ints k R1).1.length cx)) wr from ⟨_,rfl,by rw [HG.out];exact HX.out.1,fun y hy=>(HX.out.2.1 y hy).1,by rw [HG.out];exact HX.out.2.2.2,HX.out.2.2.1⟩)
     go_wp2_with fail
     refine Hmay.out.mono ?_
     rintro e w3 ⟨rfl,rfl⟩
     go_wp2_with fail
     go_ret
     exact HE.out
def zBg (w w1:World) (j d:Nat) (pre:ByteArray) (D:zAB) (F:Nat→Prop) (o:Option JouM) (e:Ending) (w':World):Prop :=
 St w w' d D F∧Same F w1 w'∧match o with
 | none=>e=.returned (.bool false)
 | some M'=>e=.returned (.bool true)∧JouF w w' j d pre D M' F
theorem zEt {w w2:World} {r:Nat} {k:UInt8} {l:Bs} (h:RdX (fun k=>w.heap.size≤k∧k < r) w2 r ⟨k :: l,false⟩) :
  Calls Tryz.prog 193 #[.pointer (some ⟨r,0,none⟩),.int .i64 1] w2 fun e w'=>∃ g q,e=.returned (.slice (some ⟨g,0,none⟩) 1 q)∧w'.cell? ⟨g,0,none⟩=some (.int .u8 (k.toNat:Int))∧RdX (fun k=>w.heap.size≤k∧k < r) w' r ⟨l,false⟩∧Chg (fun j=>j=r) w2 w':=by
 obtain ⟨p,n,c,h,hA⟩:=h
 refine (rawX_calls h hA 1 (by decide) (by decide)).mono ?_
 rintro e w' ⟨v,rfl,hv,hvn,hr,hc⟩
 have e1:Rd.raw ⟨k :: l,false⟩ (1:Int).toNat=([k],⟨l,false⟩):=by
  unfold Rd.raw
  simp
 rw [e1] at hv hr
 rcases hv.2 with ⟨-,h0⟩ | ⟨g,cap,cur,rfl,-⟩
 ·simp at h0
 ·have:=OwnR.cells hv (g:=g) rfl 0 (.int .u8 (k.toNat:Int)) rfl
  rw [add_zero] at this
  exact ⟨g,cap,rfl,this,hr,hc⟩
section
variable {w w1 w2:World} {j d:Nat} {pre:ByteArray} {D:zAB} {M:JouM} {F:Nat→Prop}
theorem rec_no (h:JouF w w1 j d pre D M F) (hb:Below w1.heap.size w1 w2) {o:Option JouM} (ho:o=none):zBg w w1 j d pre D F o (.returned (.bool false)) w2:=by
 subst ho
 exact ⟨(h.next hb).stF,h.same hb,rfl⟩
theorem rec_noj (h:JouF w w1 j d pre D M F) (hc:Chg (fun k=>k=j) w1 w2) {o:Option JouM} (ho:o=none):zBg w w1 j d pre D F o (.returned (.bool false)) w2:=by
 subst ho
 obtain ⟨own,gv,dv,ev,vs,hJ,hS,hn,hl⟩:=h
 have hco:Chg own w1 w2:=hc.mono fun k _ e=>by rw [e];exact hJ.ol
 exact ⟨hS.move hco (fun k _ hk=>⟨.inl hk,(hn k hk).1⟩) fun k hk=>⟨.inl (.inr hk),Nat.lt_of_lt_of_le (hl k hk) hc.size⟩,fun k hk=>hc.block k (hl k hk) fun e=>(hn j hJ.ol).2 (e ▸ hk),rfl⟩
theorem rec_fst_ok (h:JouF w w1 j d pre D M F) (hc:Chg (fun k=>k=j) w1 w2) {n:Nat} {t:Int} {g:List Int} {gv:Value} (hcell:∀ own gv0 dv ev vs,zBQ w1 j d pre own M gv0 dv ev vs→w2.heap[j]?=some (.cells #[.int .i64 (n:Int),.int .i64 t,gv,.pointer (some ⟨d,0,none⟩),.string pre,.int .i64 M.now,.int .i64 M.vote,dv,ev,.bool M.dead] 132 (0,0)))
  (hg:OwnI w2 gv g) (hgn:∀ k,gv.ownBlock=some k→w1.heap.size≤k) (he:M.entries=[]) (hn40:n≤1099511627776) (ht:isTm t=true) (hgr:zAW g=true) {o:Option JouM} (ho:o=some { M with number:=n,term:=t,group:=g }):zBg w w1 j d pre D F o (.returned (.bool true)) w2:=by
 subst ho
 obtain ⟨own,gv0,dv,ev,vs,hJ,hS,hn,hl⟩:=h
 have hco:Chg own w1 w2:=hc.mono fun k _ e=>by rw [e];exact hJ.ol
 have hjl:=hJ.olt j hJ.ol
 have hk:∀ k,own k→k≠j→w2.heap[k]?=w1.heap[k]?:=fun k ho hne=>hc.block k (hJ.olt k ho) hne
 have hJ':zBQ w2 j d pre (fun k=>own k∨gv.ownBlock=some k) { M with number:=n,term:=t,group:=g } gv dv ev vs:=by
  refine ⟨hcell _ _ _ _ _ hJ,hg,OwnR.keep hJ.data fun k h=>hk k (hJ.od k h).1 (hJ.od k h).2.1,hJ.row.keep fun k h=>hk k (hJ.oe k h).1 (hJ.oe k h).2,⟨hJ.rows.1,fun i e v h1 h2=>(hJ.rows.2 i e v h1 h2).keep fun k h=>hk k (hJ.ov v (List.mem_of_getElem? h2) k h).1 (hJ.ov v (List.mem_of_getElem? h2) k h).2.1⟩,.inl hJ.ol,fun k h=>⟨.inr h,fun e=>by have:=hgn k h;omega,fun e=>by have h1:=hgn k h;have h2:=hJ.olt k (hJ.oe k e).1;omega⟩,fun k h=>⟨.inl (hJ.od k h).1,(hJ.od k h).2⟩,fun k h=>⟨.inl (hJ.oe k h).1,(hJ.oe k h).2⟩,fun u hu k h=>⟨.inl (hJ.ov u hu k h).1,(hJ.ov u hu k h).2⟩,fun k h=>?_,hJ.psz,⟨?_,ht,hgr,hJ.ok.now,hJ.ok.vote,hJ.ok.data,hJ.ok.ents⟩⟩
  ·rcases h with h | h
   ·exact Nat.lt_of_lt_of_le (hJ.olt k h) hc.size
   ·exact OwnR.lt hg h
  ·show n+M.entries.length≤_
   rw [he]
   exact hn40
 obtain ⟨h1,h2⟩:=JouF.turned hS hn hl hJ' hco fun k h=>h.imp id (hgn k)
 exact ⟨h1.stF,h2,rfl,h1⟩
theorem rec_yes {M':JouM} (h:JouF w w2 j d pre D M' F) (hs:Same F w1 w2) {o:Option JouM} (ho:o=some M'):zBg w w1 j d pre D F o (.returned (.bool true)) w2:=by
 subst ho
 exact ⟨h.stF,hs,rfl,h⟩
theorem rec1_early {f:Bool} {k:UInt8} {l:Bs} (h:f≠decide (k=1)):rec1 f M (k :: l)=none:=by
 unfold rec1
 dsimp only
 rw [if_pos h]
theorem rec1_other {f:Bool} {k:UInt8} {l:Bs} (h1:k≠1) (h2:k≠2) (h3:k≠3) (h4:k≠4):rec1 f M (k :: l)=none:=by
 unfold rec1
 dsimp only
 by_cases h:f≠decide (k=1)
 ·rw [if_pos h]
 ·rw [if_neg h,if_neg h1,if_neg h2,if_neg h3,if_neg h4]
theorem jou_places {own:Nat→Prop} {gv dv ev:Value} {vs:List EV} {W:World} {r:Nat} (hJ:zBQ w1 j d pre own M gv dv ev vs) (hb:Below w1.heap.size w1 W) (hr:j≠r):zCh W r [⟨j,0,none⟩,⟨j,1,none⟩]:=by
 have hb1:=hJ.below hb
 refine ⟨fun a ha=>?_,fun a ha=>?_,fun a ha=>?_,fun a ha=>?_⟩
 all_goals
  simp only [List.mem_cons,List.not_mem_nil,or_false] at ha
  rcases ha with rfl | rfl
 ·exact ⟨_,hb1.c 0 rfl⟩
 ·exact ⟨_,hb1.c 1 rfl⟩
 ·exact hb1.fr 0
 ·exact hb1.fr 1
 ·exact hr
 ·exact hr
 ·rfl
 ·rfl
theorem grp_whole {R:Rd} (h:(R.grp zAW).2.whole=true):zAW (R.grp zAW).1=true:=by
 unfold Rd.grp at h ⊢
 split at h
 ·cases h
 ·rename_i h7
  rw [if_neg h7]
  dsimp only at h ⊢
  split at h
  ·assumption
  ·cases h
theorem rec_k1 (h:JouF w w1 j d pre D M F) {p:Option Addr} {n c:Nat} {l:Bs} (hx:HasB w1 (.slice p n c) (1 :: l)) (hl:n≤1073741824) (he:M.entries=[]) :
  Calls Tryz.prog 155 #[.pointer (some ⟨j,0,none⟩),.bool true,.slice p n c] w1 (zBg w w1 j d pre D F (rec1 true M (1 :: l))):=by
 have Hrd0:=zh (zBZ hx (by obtain ⟨_,_,e⟩:=hx.slice;simp only [Value.slice.injEq] at e;omega))
 have H:=zh h
 have Hjlt:=zh h.jlt
 have HM:=zh (show rec1 true M (1 :: l)=(if (Rd.num ⟨l,false⟩).2.num.2.grp zAW |>.2.whole then
    if (Rd.num ⟨l,false⟩).1≤1099511627776∧(Rd.num ⟨l,false⟩).2.num.1≤1099511627776 then
     some { M with number:=(Rd.num ⟨l,false⟩).1,term:=((Rd.num ⟨l,false⟩).2.num.1:Int),group:=((Rd.num ⟨l,false⟩).2.num.2.grp zAW).1 } else none
   else none) from rfl)
 have Hgok:=zh (grp_whole (R:=(Rd.num ⟨l,false⟩).2.num.2))
 have hm1:=Rd.num_le ⟨l,false⟩
 have hm2:=Rd.num_le (Rd.num ⟨l,false⟩).2
 have HI:=zh (show Rd.ints 2 ⟨l,false⟩=([((Rd.num ⟨l,false⟩).1:Int),((Rd.num ⟨l,false⟩).2.num.1:Int)],(Rd.num ⟨l,false⟩).2.num.2) from rfl)
 have He:=zh he
 generalize rec1 true M (1 :: l)=O at *
 generalize (Rd.num ⟨l,false⟩).1=m1 at *
 generalize (Rd.num ⟨l,false⟩).2.num.1=m2 at *
 generalize (Rd.num ⟨l,false⟩).2.num.2=R3 at *
 clear h hx he
 go_enter Tryz.func155,Tryz.ntmps155
 go_wp2_with fail
 refine Hrd0.out.mono ?_
 rintro e w2 ⟨r,rfl,hr,hrn,hrl,hb2⟩
 have HR2:=zh (zEt hr)
 have HB2:=zh hb2
 have HRn:=zh (And.intro hrn hrl)
 clear hr hrn hrl hb2 Hrd0
 go_wp2_with fail
 refine HR2.out.mono ?_
 rintro e w3 ⟨g,q,rfl,hg,hr3,hc3⟩
 have HB3:=zh (show Below w1.heap.size w1 w3 from HB2.out.trans (hc3.below HB2.out.size fun i hi e=>by have:=HRn.out.1;omega))
 have HR3:=zh hr3
 have HRl:=zh hr3.lt
 have hkc:w3.cell? ⟨g,0,none⟩=some (.int .u8 1):=hg
 clear hr3 hc3 HR2 hg
 go_wp2_with fail
 refine zAT (fun _:World=>True) (n:=11) (by kernel_rfl) rfl (trivial) (fun hHeld=>?_)
 refine otk 0 (v:=?v10x0) rfl ?_
 simp only [Act.put,uA,uB,uC]
 refine otk 1 (v:=?v10x1) rfl ?_
 simp only [Act.put,uA,uB,uC]
 refine otk 2 (v:=?v10x2) rfl ?_
 simp only [Act.put,uA,uB,uC]
 refine otk 3 (v:=?v10x3) rfl ?_
 simp only [Act.put,uA,uB,uC]
 refine otk 4 (v:=?v10x4) rfl ?_
 simp only [Act.put,uA,uB,uC]
 refine otk 5 (v:=?v10x5) rfl ?_
 simp only [Act.put,uA,uB,uC]
 refine otk 6 (v:=?v10x6) rfl ?_
 simp only [Act.put,uA,uB,uC]
 refine otk 7 (v:=?v10x7) rfl ?_
 simp only [Act.put,uA,uB,uC]
 refine otk 8 (v:=?v10x8) rfl ?_
 simp only [Act.put,uA,uB,uC]
 refine zAG 9 rfl (by kernel_rfl) (by rfl) (fun K hK=>?_)
 go_wp2_with fail
 refine hK.out _ _ (trivial) (fun hHeld=>?_)
 clear hK
 try simp only [Act.put,uA,uB,uC]
 refine zAG 10 rfl (by kernel_rfl) (by rfl) (fun K hK=>?_)
 have HP:=zh (show zCh (w3.drew.alloc (.cells #[.pointer (some ⟨j,0,none⟩),.pointer (some ⟨j,1,none⟩)] 204)) r [⟨j,0,none⟩,⟨j,1,none⟩] from by
  obtain ⟨own,gv,dv,ev,vs,hJ,-⟩:=H.out
  exact jou_places hJ (HB3.out.trans ((zAb w3).trans (zAD w3.drew _) |>.mono HB3.out.size)) (by have:=HRn.out.1;have:=Hjlt.out;omega))
 have HN:=zh (zDX (R:=⟨l,false⟩) ((HR3.out.chg (Chg.drew w3) (fun e=>e) fun _ _ e=>e).chg (Chg.alloc w3.drew (.cells #[.pointer (some ⟨j,0,none⟩),.pointer (some ⟨j,1,none⟩)] 204)) (fun e=>e) fun _ _ e=>e) (g:=w3.drew.heap.size) (c:=2) HP.out (by simp) (fun i a hi=>by
  refine zAA (zAI w3.drew _) ?_
  match i,hi with
  | 0,hi=>cases hi;rfl
  | 1,hi=>cases hi;rfl) (fun e=>by have:=HRl.out;have e2:w3.heap.size=r:=e;omega) (fun a ha e=>by
   have h1:=Hjlt.out
   have h2:=HB3.out.size
   have e2:a.block=w3.heap.size:=e
   simp at ha
   rcases ha with rfl | rfl
   ·have e3:j=w3.heap.size:=e2
    omega
   ·have e3:j=w3.heap.size:=e2
    omega) (fun k hk=>⟨by omega,fun a ha e=>by
   have h1:=Hjlt.out
   simp at ha
   rcases ha with rfl | rfl
   ·have e3:k=j:=e
    omega
   ·have e3:k=j:=e
    omega⟩))
 go_wp2_with fail
 refine HN.out.mono ?_
 rintro e w4 ⟨rfl,hn4⟩
 have HN4:=zh hn4
 clear hn4 HN
 go_wp2_with fail
 refine hK.out _ _ (trivial) (fun hHeld=>?_)
 clear hK
 try simp only [Act.put,uA,uB,uC]
 refine wpAnyH_done (by kernel_rfl) ?_ _
 have Hgr:=zh (readGrp_grp (A:=fun k=>w1.heap.size≤k∧k < r) (w:=w4) (by have:=HN4.out.1;rw [show [(⟨j,0,none⟩:Addr),⟨j,1,none⟩].length=2 from rfl,HI.out] at this;exact this) (fun k hk=>⟨by have:=HN4.out.1.lt;omega,by omega⟩))
 have HC4:=zh (show Chg (fun k=>k=j) w1 w4 from by
  refine ((Chg.of_below (HB3.out.trans (((zAb w3).trans (zAD w3.drew (.cells #[.pointer (some ⟨j,0,none⟩),.pointer (some ⟨j,1,none⟩)] 204))).mono HB3.out.size))).mono (T:=fun k=>k=j) fun _ _ e=>e.elim).trans HN4.out.2.1 fun k hk e=>?_
  rcases e with e | ⟨a,ha,e⟩
  ·have:=HRn.out.1
   omega
  ·simp at ha
   rcases ha with rfl | rfl <;> exact e)
 have Hj4:=zh (fun own gv0 dv ev vs (hJ:zBQ w1 j d pre own M gv0 dv ev vs)=>show w4.heap[j]?=some (.cells #[.int .i64 (m1:Int),.int .i64 (m2:Int),gv0,.pointer (some ⟨d,0,none⟩),.string pre,.int .i64 M.now,.int .i64 M.vote,dv,ev,.bool M.dead] 132 (0,0)) from by
  have hjl:=Hjlt.out
  have hs3:=HB3.out.size
  rw [HN4.out.2.2 j (by simp;show j < w3.heap.size+1;omega) (by have:=HRn.out.1;omega)]
  rw [show [(⟨j,0,none⟩:Addr),⟨j,1,none⟩].length=2 from rfl,HI.out]
  have hjc:=(((zAb w3).trans (zAD w3.drew (.cells #[.pointer (some ⟨j,0,none⟩),.pointer (some ⟨j,1,none⟩)] 204))).block j (by omega)).trans ((HB3.out.block j hjl).trans hJ.cells)
  have h1:=zAE hjc 0 (.int .i64 (m1:Int))
  have h2:=zAE h1 1 (.int .i64 (m2:Int))
  have e0:∀ (W:World) (z:Int),putN W [(⟨j,0,none⟩:Addr),⟨j,1,none⟩] [(m1:Int),(m2:Int)]=(W.setCell ⟨j,0,none⟩ (.int .i64 (m1:Int))).setCell ⟨j,1,none⟩ (.int .i64 (m2:Int)):=fun _ _=>rfl
  rw [e0 _ 0]
  simpa using h2)
 clear HN4
 go_wp2_with fail
 refine Hgr.out.mono ?_
 rintro e w5 ⟨v5,rfl,hv5,hn5,hr5,hc5⟩
 have HC5:=zh (show Chg (fun k=>k=j) w1 w5 from HC4.out.trans (hc5.mono (T:=fun k=>k=r) fun _ _ e=>e) fun k hk e=>by have:=HRn.out.1;omega)
 have Hrj:=zh (show r≠j from fun e=>by have h1:=HRn.out.1;have h2:=Hjlt.out;omega)
 have Hj5:=zh (fun own gv0 dv ev vs (hJ:zBQ w1 j d pre own M gv0 dv ev vs)=>(hc5.block j (zAC (Hj4.out own gv0 dv ev vs hJ)) fun e=>Hrj.out e.symm).trans (Hj4.out own gv0 dv ev vs hJ))
 have HV5:=zh (And.intro hv5 (show ∀ k,v5.ownBlock=some k→w1.heap.size≤k from fun k hk=>Nat.le_trans HC4.out.size (hn5 k hk)))
 have HR5:=zh hr5
 obtain ⟨own,gv0,dv,ev,vs,hJ,-⟩:=H.out
 have hj5:=Hj5.out own gv0 dv ev vs hJ
 have c2:=zAA hj5 (i:=2) rfl
 have f2:=zAF hj5 2
 have h6:=zAE hj5 2 v5
 have d0:(w5.setCell ⟨j,2,none⟩ v5).cell? ⟨j,0,none⟩=some (.int .i64 (m1:Int)):=zAA h6 (by simp)
 have d1:(w5.setCell ⟨j,2,none⟩ v5).cell? ⟨j,1,none⟩=some (.int .i64 (m2:Int)):=zAA h6 (by simp)
 have Hd:=zh (And.intro d0 d1)
 have HW:=zh (zCu ((hr5.at.hd).same (w':=w5.setCell ⟨j,2,none⟩ v5) (set_other _ Hrj.out)))
 have HC6:=zh (show Chg (fun k=>k=j) w1 (w5.setCell ⟨j,2,none⟩ v5) from HC5.out.trans (Chg.setCell w5 ⟨j,2,none⟩ v5) fun _ _ e=>e)
 have HG6:=zh (show OwnI (w5.setCell ⟨j,2,none⟩ v5) v5 (R3.grp zAW).1 from OwnR.keep HV5.out.1 fun k hk=>set_other _ fun e=>by have h1:=HV5.out.2 k hk;have h2:=Hjlt.out;have e2:k=j:=e;omega)
 have Hj6:=zh (fun own gv0 dv ev vs (hJ:zBQ w1 j d pre own M gv0 dv ev vs)=>show (w5.setCell ⟨j,2,none⟩ v5).heap[j]?=some (.cells #[.int .i64 (m1:Int),.int .i64 (m2:Int),v5,.pointer (some ⟨d,0,none⟩),.string pre,.int .i64 M.now,.int .i64 M.vote,dv,ev,.bool M.dead] 132 (0,0)) from by
  have:=zAE (Hj5.out own gv0 dv ev vs hJ) 2 v5
  simpa using this)
 obtain ⟨p5,c5,e5,-⟩:=zAl hv5
 subst e5
 clear hv5 hn5 hr5 hc5 Hgr hJ hj5 h6 d0 d1
 generalize (R3.grp zAW).2=R5 at *
 generalize (R3.grp zAW).1=gg at *
 cases hw:R5.whole with
 | false =>
  rw [hw] at HW
  have HE:=zh (rec_noj (o:=O) H.out HC6.out (by rw [HM.out,hw];rfl))
  clear hw
  go_wp2_with fail
  clear c2 f2
  generalize w5.setCell ⟨j,2,none⟩ (.slice p5 gg.length c5)=w6 at *
  refine HW.out.mono ?_
  rintro e w7 ⟨rfl,rfl⟩
  go_wp2_with fail
  go_ret
  exact HE.out
 | true =>
  rw [hw] at HW
  go_wp2_with fail
  clear c2 f2
  generalize w5.setCell ⟨j,2,none⟩ (.slice p5 gg.length c5)=w6 at *
  refine HW.out.mono ?_
  rintro e w7 ⟨rfl,rfl⟩
  obtain ⟨d0,d1⟩:=Hd.out
  have Ht1:=zh (zD4 w7 (m1:Int))
  have Ht2:=zh (zD4 w7 (m2:Int))
  by_cases h1:m1≤1099511627776
  ·rw [show isTm (m1:Int)=true from zAr.2 ⟨by omega,by omega⟩] at Ht1
   by_cases h2:m2≤1099511627776
   ·rw [show isTm (m2:Int)=true from zAr.2 ⟨by omega,by omega⟩] at Ht2
    have HE:=zh (rec_fst_ok (o:=O) H.out HC6.out Hj6.out HG6.out HV5.out.2 He.out h1 (zAr.2 ⟨by omega,by omega⟩) (Hgok.out hw) (by rw [HM.out,if_pos hw,if_pos ⟨h1,h2⟩]))
    clear hw h1 h2
    go_wp2_with fail
    refine Ht1.out.mono ?_
    rintro e w8 ⟨rfl,rfl⟩
    go_wp2_with fail
    refine Ht2.out.mono ?_
    rintro e w8 ⟨rfl,rfl⟩
    go_wp2_with fail
    go_ret
    exact HE.out
   ·rw [show isTm (m2:Int)=false from by rw [Bool.eq_false_iff];intro e;have:=zAr.1 e;omega] at Ht2
    have HE:=zh (rec_noj (o:=O) H.out HC6.out (by rw [HM.out,if_pos hw,if_neg (fun e=>h2 e.2)]))
    clear hw h1 h2
    go_wp2_with fail
    refine Ht1.out.mono ?_
    rintro e w8 ⟨rfl,rfl⟩
    go_wp2_with fail
    refine Ht2.out.mono ?_
    rintro e w8 ⟨rfl,rfl⟩
    go_wp2_with fail
    go_ret
    exact HE.out
  ·rw [show isTm (m1:Int)=false from by rw [Bool.eq_false_iff];intro e;have:=zAr.1 e;omega] at Ht1
   have HE:=zh (rec_noj (o:=O) H.out HC6.out (by rw [HM.out,if_pos hw,if_neg (fun e=>h1 e.1)]))
   clear hw h1
   go_wp2_with fail
   refine Ht1.out.mono ?_
   rintro e w8 ⟨rfl,rfl⟩
   go_wp2_with fail
   go_ret
   exact HE.out
end
end Go.Proofs.YtapfnehdgailmaaGreat
