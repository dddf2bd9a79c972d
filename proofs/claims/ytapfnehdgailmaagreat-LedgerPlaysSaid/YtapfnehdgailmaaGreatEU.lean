/- The document's ledger: wrote, Append. The document's ledger: Append. The document's ledger: Append, walked. The document's ledger: Drop. (Printed by mkrl8.py.) The document's ledger: Write. (Printed by mkrl8.py.) What a law does with a ledger beside Append and Write: the fuse, a reading, rows that were handed in, rows of its own. The document's Clear (satrapyref4). The program's disk and the document's, side by side, and blocks (F) that neither has. -/
import Derived.Deep.DeepCutAuto
import Derived.StillTailTactics
import Derived.Test.YtapfnehdgailmaaGreatEA
import Derived.Test.YtapfnehdgailmaaGreatEF
import Derived.Test.YtapfnehdgailmaaGreatEI
import Derived.Test.YtapfnehdgailmaaGreatEK
import Derived.Test.YtapfnehdgailmaaGreatEL
import Derived.Test.YtapfnehdgailmaaGreatEM
import Derived.Test.YtapfnehdgailmaaGreatEQ
import Derived.Test.YtapfnehdgailmaaGreatES
import Derived.Test.YtapfnehdgailmaaGreatET
set_option maxRecDepth 100000
set_option maxHeartbeats 64000000
namespace Go.Proofs.YtapfnehdgailmaaGreat
open Go.RowKit Go.Sat Go.Maps
theorem hasB_keep {w w':World} {S:Nat→Prop} {v:Value} {b:Bs} (h:HasB w v b) (hc:Chg S w w') (hno:b≠[]→∀ k,v.ownBlock=some k→¬ S k):HasB w' v b:=by
 by_cases hb:b=[]
 ·subst hb
  obtain ⟨hl,p,cap,rfl,h0,-⟩:=h
  exact ⟨hl,p,cap,rfl,h0,fun a ha i u hu=>by simp [zAN] at hu⟩
 ·exact h.chg hc (hno hb)
section
variable {w0 w1 w2:World} {l r:Nat} {pre:ByteArray} {D:zAA} {M:LedM} {Hot Cold:Nat→Prop}
theorem LRIn.set {w w':World} {O C:Nat→Prop} {M M':LedM} {dv ev:Value} {vs:List Value} (h:LRIn w l r pre O C M dv ev vs)
  (hc:w'.heap[l]?=some (LRC r pre (M'.base:Int) dv ev M'.dead)) (hs:Chg (fun k=>k=l) w w') (hd:M'.data=M.data) (he:M'.entries=M.entries) (hb:M'.base=M.base):LRIn w' l r pre O C M' dv ev vs where
 cells:=hc
 data:=by rw [hd];exact zAY.chg h.data hs fun k hk e=>h.dis k (h.cd k hk) (e ▸ h.oj)
 row:=by rw [he];exact h.row.keep fun k hk=>hs.block k (h.olt k (h.oe k hk).1) (h.oe k hk).2
 rows:=by rw [he];exact fun i e v he hv=>zAY.chg (h.rows i e v he hv) hs fun k hk e=>h.dis k (h.cv v (List.mem_of_getElem? hv) k hk) (e ▸ h.oj)
 oj:=h.oj
 oe:=h.oe
 cd:=h.cd
 cv:=h.cv
 dis:=h.dis
 olt:=fun k hk=>Nat.lt_of_lt_of_le (h.olt k hk) hs.size
 clt:=fun k hk=>Nat.lt_of_lt_of_le (h.clt k hk) hs.size
 psz:=h.psz
 last:=by unfold LedM.last;rw [he,hb];exact h.last
 big:=by rw [hd,he];exact h.big
theorem LRF.set (h:LRF w1 l r pre D M Hot Cold) {M':LedM} (hs:Chg (fun k=>k=l) w1 w2)
  (hc:∀ dv ev,w1.heap[l]?=some (LRC r pre (M.base:Int) dv ev M.dead)→w2.heap[l]?=some (LRC r pre (M'.base:Int) dv ev M'.dead)) (hd:M'.data=M.data) (he:M'.entries=M.entries) (hb:M'.base=M.base):zAZ w1 l r pre Hot Cold w2 D M':=by
 obtain ⟨O,own,dv,ev,vs,v,L,hJ,hR,hO,hC,hH⟩:=h
 exact ⟨Hot,Cold,⟨O,own,dv,ev,vs,v,L,hJ.set (hc _ _ hJ.cells) hs hd he hb,hR.keep hs.size (fun k hk=>hs.block k (hR.olt k hk) fun e=>hO l hJ.oj (e ▸ hk)),hO,hC,hH⟩,hs.mono fun k _ e=>(hH k).2 (.inl (e ▸ hJ.oj)),fun k hk=>.inl hk,fun k hk=>.inl hk⟩
theorem LRF.cellsD (h:LRF w1 l r pre D M Hot Cold):∃ dv ev,w1.heap[l]?=some (LRC r pre (M.base:Int) dv ev M.dead):=let ⟨_,_,dv,ev,_,_,_,hJ,_⟩:=h;⟨dv,ev,hJ.cells⟩
theorem LRF.lastL (h:LRF w1 l r pre D M Hot Cold):M.last≤1099511627776:=let ⟨_,_,_,_,_,_,_,hJ,_⟩:=h;hJ.last
theorem lr_die (h:LRF w1 l r pre D M Hot Cold):zAZ w1 l r pre Hot Cold (w1.setCell ⟨l,5,none⟩ (.bool true)) D M.die :=
 h.set (Chg.setCell w1 ⟨l,5,none⟩ _) (fun dv ev hc=>by
  have:=zAO hc 5 (.bool true)
  simpa [LedM.die] using this) rfl rfl rfl
theorem zAZ.cellsD (h:zAZ w0 l r pre Hot Cold w1 D M):∃ dv ev,w1.heap[l]?=some (LRC r pre (M.base:Int) dv ev M.dead):=let ⟨_,_,hF,_⟩:=h;hF.cellsD
theorem zAZ.chg (h:zAZ w0 l r pre Hot Cold w1 D M):Chg Hot w0 w1:=let ⟨_,_,_,hc,_⟩:=h;hc
def LedM.dieIf (M:LedM) (e:Nat):LedM:=if e=0 then M else M.die
theorem lrwrote_calls (h:LRF w1 l r pre D M Hot Cold) (e:Nat) :
  Calls Tryz.prog 134 #[.pointer (some ⟨l,0,none⟩),.int .i64 (e:Int)] w1 fun x w'=>x=.returned (.int .i64 (e:Int))∧zAZ w1 l r pre Hot Cold w' D (M.dieIf e):=by
 obtain ⟨dv,ev,hcell⟩:=h.cellsD
 have f5:=zAI hcell 5
 have hcell:=zAC hcell (i:=5) rfl
 unfold LedM.dieIf
 by_cases h0:e=0
 ·rw [if_pos h0]
  have hne:((e:Int) != 0)=false:=by simp;omega
  have HE:=zh h.step
  clear h h0 hcell f5
  go_enter Tryz.func134,Tryz.ntmps134
  go_wp2_with fail
  go_ret
  exact ⟨rfl,HE.out⟩
 ·rw [if_neg h0]
  have hne:((e:Int) != 0)=true:=by simp;omega
  have HE:=zh (lr_die h)
  clear h h0
  go_enter Tryz.func134,Tryz.ntmps134
  go_wp2_with fail
  go_ret
  exact ⟨rfl,HE.out⟩
theorem lrs_disk {P:Program} {f:FuncId} {args:Array Value} {Re:zAA × Nat} {wc:World} (h:zAZ w0 l r pre Hot Cold w1 D M) (hb:Below w1.heap.size w1 wc) (hx:∀ v L own,zAU wc r v L own D→(∀ k,own k→Hot k∨w0.heap.size≤k)→Calls P f args wc (zBi wc r own Re)) :
  Calls P f args wc fun e w'=>e=.returned (.int .i64 (Re.2:Int))∧zAZ w0 l r pre Hot Cold w' Re.1 M:=by
 obtain ⟨Hot1,Cold1,hF,hc,hh,hco⟩:=h
 refine (lr_disk hF hb fun v L own hR ho=>hx v L own hR fun k hk=>hh k (ho k hk)).mono ?_
 rintro e w' ⟨rfl,hst,-⟩
 exact ⟨rfl,zAZ.comp hc hh hco hst⟩
theorem lrs_wrote (h:zAZ w0 l r pre Hot Cold w1 D M) (e:Nat) :
  Calls Tryz.prog 134 #[.pointer (some ⟨l,0,none⟩),.int .i64 (e:Int)] w1 fun x w'=>x=.returned (.int .i64 (e:Int))∧zAZ w0 l r pre Hot Cold w' D (M.dieIf e):=by
 obtain ⟨Hot1,Cold1,hF,hc,hh,hco⟩:=h
 refine (lrwrote_calls hF e).mono ?_
 rintro x w' ⟨rfl,hst⟩
 exact ⟨rfl,zAZ.comp hc hh hco hst⟩
end
section
variable {w0 w1 w2:World} {l r:Nat} {pre:ByteArray} {D:zAA} {M:LedM} {Hot Cold:Nat→Prop}
def LRTold2 (w1:World) (l r:Nat) (pre:ByteArray) (Hot Cold:Nat→Prop) (Z:Wrote) (e:Ending) (w':World):Prop:=e=.returned (.tuple #[.int .i64 (Z.num:Int),.int .i64 (Z.err:Int)])∧zAZ w1 l r pre Hot Cold w' Z.disk Z.led
theorem lnm_log (pre:ByteArray):nm (pre ++ (⟨#[45,108,111,103]⟩:ByteArray))=logN (nm pre):=by simp [nm,logN,logX]
theorem lrs_push (h:zAZ w0 l r pre Hot Cold w1 D M) (hlast:M.last+1≤1099511627776) :
  ∃ p c vs,w1.cell? ⟨l,4,none⟩=some (.slice p M.entries.length c)∧OwnR w1 22 1 (.slice p M.entries.length c) M.entries.length vs∧∀ W u x,Below w1.heap.size w1 W→HasB W u x→(∀ k,u.ownBlock=some k→w1.heap.size≤k∧k < W.heap.size)→x.length≤1073741824 →
   (∀ W3,W.grownBy W3 (Value.slice p M.entries.length c).ownBlock→W3.heap[l]?=w1.heap[l]?) ∧
   ∀ W3 v3,OwnR W3 22 1 v3 (M.entries.length+1) (vs ++ [u])→W.grownBy W3 (Value.slice p M.entries.length c).ownBlock→(v3.ownBlock=(Value.slice p M.entries.length c).ownBlock∨∃ g,v3.ownBlock=some g∧W.heap.size≤g) →
    zAZ w0 l r pre Hot Cold (W3.setCell ⟨l,4,none⟩ v3) D { M with entries:=M.entries ++ [x] }:=by
 obtain ⟨Hot1,Cold1,hF,hc,hh,hco⟩:=h
 obtain ⟨O,own,dv,ev,vs,v,L,hJ,hR,hO,hC,hH⟩:=hF
 obtain ⟨p,c,hev⟩:=hJ.row.shape
 have hrow:=hJ.row
 have hc4:=hJ.c 4 rfl
 rw [hev] at hrow hc4
 refine ⟨p,c,vs,hc4,hrow,fun W u x hb hu huo hx=>⟨fun W3 hg=>?_,fun W3 v3 hown hgrow hloc=>?_⟩⟩
 ·rw [← hev] at hg
  have h1:=hJ.olt l hJ.oj
  exact ((Chg.of_grown hg).block l (Nat.lt_of_lt_of_le h1 hb.size) fun e=>(hJ.oe l e.symm).2 rfl).trans (hb.block l h1)
 rw [← hev] at hgrow hloc
 obtain ⟨hJ2,hv3,hcg⟩:=hJ.push hb hu huo hown hgrow hloc hlast hx
 have hsz:=hcg.size
 refine zAZ.comp hc hh hco ⟨fun k=>(O k∨v3.ownBlock=some k)∨own k,fun k=>Cold1 k∨u.ownBlock=some k,⟨_,own,_,_,_,v,L,hJ2,hR.keep hsz (fun k hk=>hcg.block k (hR.olt k hk) fun e=>hO k e hk),fun k hk=>?_,fun k hk=>?_,fun k=>Iff.rfl⟩,hcg.mono fun k _ hk=>(hH k).2 (.inl hk),fun k hk=>?_,fun k hk=>?_⟩
 ·rcases hk with hk | hk
  ·exact hO k hk
  ·rcases hv3 k hk with e | e
   ·exact hO k e
   ·exact fun ho=>by have:=hR.olt k ho;omega
 ·rcases hk with hk | hk
  ·exact hC k hk
  ·exact fun ho=>by have:=hR.olt k ho;have:=(huo k hk).1;omega
 ·rcases hk with (hk | hk) | hk
  ·exact .inl ((hH k).2 (.inl hk))
  ·exact (hv3 k hk).imp (fun e=>(hH k).2 (.inl e)) id
  ·exact .inl ((hH k).2 (.inr hk))
 ·exact hk.imp id fun e=>(huo k e).1
end
theorem imgB_le (n:Nat) (p:Bs) (hn:n≤4611686018427387904) (hp:p.length≤65536):(imgB n p).length≤1048576:=by
 have:=zCo n p hn (by omega)
 omega
section
variable {w0 w1 w2:World} {l r:Nat} {pre:ByteArray} {D:zAA} {M:LedM} {Hot Cold:Nat→Prop}
theorem lrappend_calls (h:LRF w1 l r pre D M Hot Cold) {pb:Option Addr} {m cb:Nat} {b:Bs} (hb:HasB w1 (.slice pb m cb) b) (hbl:b.length≤140737488355328) (hno:b≠[]→∀ k,(Value.slice pb m cb).ownBlock=some k→¬ Hot k) :
  Calls Tryz.prog 56 #[.pointer (some ⟨l,0,none⟩),.slice pb m cb] w1 (LRTold2 w1 l r pre Hot Cold (zAL (nm pre) D M b)):=by
 obtain ⟨i0,hi,hz0,hz1,hz2⟩:=info_parts (show (Tryz.prog.info? 5).map (fun i=>(i.zero,i.size,i.bytes))=some (some (.int .u8 0),1,1) by kernel_rfl)
 obtain ⟨i1,hj,hy0,hy1,hy2⟩:=info_parts (show (Tryz.prog.info? 22).map (fun i=>(i.zero,i.size,i.bytes))=some (some (.slice none 0 0),1,24) by kernel_rfl)
 have hm:b.length=m:=by obtain ⟨_,_,e⟩:=hb.slice;simp only [Value.slice.injEq] at e;exact e.2.1.symm
 have hps:=h.psz
 have hs4:(pre ++ (⟨#[45,108,111,103]⟩:ByteArray)).size=pre.size+4:=by simp [ByteArray.size_append];rfl
 have hsl:(pre ++ (⟨#[45,108,111,103]⟩:ByteArray)).size≤9223372036854775807:=by omega
 have hps2:=hps.2
 clear hs4 hps
 obtain ⟨dv,ev,hcell⟩:=h.cellsD
 have c0:w1.cell? ⟨l,0,none⟩=some (.pointer (some ⟨r,0,none⟩)):=zAC hcell rfl
 have c1:w1.cell? ⟨l,1,none⟩=some (.string pre):=zAC hcell rfl
 have c5:w1.cell? ⟨l,5,none⟩=some (.bool M.dead):=zAC hcell rfl
 have HL:=zh (zC6 h)
 have hla:=h.lastL
 have H:=zh h
 have Hb:=zh hb
 have Hno:=zh hno
 have Hm:=zh hm
 rw [hm] at hbl
 clear h hb hno hcell
 cases hd:M.dead with
 | true =>
  have HE:=zh (fun q=>show LRTold2 w1 l r pre Hot Cold (zAL (nm pre) D M b) (.returned (.tuple #[.int .i64 0,.int .i64 9])) (w1.drewN q) from by
   unfold zAL
   rw [if_pos hd]
   exact ⟨rfl,H.out.stepB (zAw w1 q)⟩)
  rw [hd] at c5
  clear hd hm
  generalize M.last=la at *
  go_enter Tryz.func56,Tryz.ntmps56
  go_wp2_with fail
  refine HL.out.mono ?_
  rintro e w2 ⟨rfl,q,rfl⟩
  go_wp2_with fail
  go_ret2
  exact HE.out q
 | false =>
  have Hd:=zh (show ¬ (M.dead=true) by rw [hd];simp)
  rw [hd] at c5
  by_cases hbig:65536 < m∨1099511627776≤M.last
  ·have HE:=zh (fun q=>show LRTold2 w1 l r pre Hot Cold (zAL (nm pre) D M b) (.returned (.tuple #[.int .i64 0,.int .i64 5])) (w1.drewN q) from by
    unfold zAL
    rw [if_neg Hd.out,if_pos (by rw [hm];exact hbig)]
    exact ⟨rfl,H.out.stepB (zAw w1 q)⟩)
   clear hd hm
   generalize M.last=la at *
   by_cases h1:65536 < m
   ·have d1:decide ((65536:Int) < (m:Int))=true:=decide_eq_true (by omega)
    have d1n:decide (65536 < m)=true:=decide_eq_true h1
    clear hbig
    go_enter Tryz.func56,Tryz.ntmps56
    go_wp2_with fail
    refine HL.out.mono ?_
    rintro e w2 ⟨rfl,q,rfl⟩
    go_wp2_with fail
    go_ret2
    exact HE.out q
   ·have d1:decide ((65536:Int) < (m:Int))=false:=decide_eq_false (by omega)
    have d1n:decide (65536 < m)=false:=decide_eq_false h1
    obtain rfl:la=1099511627776:=by omega
    clear hbig
    go_enter Tryz.func56,Tryz.ntmps56
    go_wp2_with fail
    refine HL.out.mono ?_
    rintro e w2 ⟨rfl,q,rfl⟩
    go_wp2_with fail
    go_ret2
    exact HE.out q
  ·have h1:¬ 65536 < m:=fun e=>hbig (.inl e)
   have h2:M.last < 1099511627776:=by omega
   have d1:decide ((65536:Int) < (m:Int))=false:=decide_eq_false (by omega)
   have d1n:decide (65536 < m)=false:=decide_eq_false h1
   have hZ:zAL (nm pre) D M b=if (zCq D (logN (nm pre)) (zAG (imgB (M.last+1) b))).2≠0 then ⟨(zCq D (logN (nm pre)) (zAG (imgB (M.last+1) b))).1,M.die,0,(zCq D (logN (nm pre)) (zAG (imgB (M.last+1) b))).2⟩
     else ⟨(zCq D (logN (nm pre)) (zAG (imgB (M.last+1) b))).1,{ M with entries:=M.entries ++ [b] },M.last+1,0⟩:=by
    unfold zAL
    rw [if_neg Hd.out,if_neg (by rw [hm];exact hbig)]
   have Hil:=zh (imgB_le (M.last+1) b (by omega) (by omega))
   have Hlla:=zh (show M.last+1≤1099511627776 from h2)
   obtain ⟨x0,hx0⟩:∃ x0:Nat,x0=M.last+1:=⟨_,rfl⟩
   have Hnum:=zh (fun W=>show Calls Tryz.prog 118 #[.int .i64 (x0:Int)] W (RowNew W (numB (M.last+1))) from by
    have:=zDb W (x0:Int) (by omega)
    rw [zCr (by omega)] at this
    rw [← hx0]
    exact this)
   have hw0:IntKind.i64.wrap ((M.last:Int)+1)=(x0:Int):=by rw [IntWalk.i64_in _ (by omega)];omega
   have d2:decide ((1099511627776:Int) < (x0:Int))=false:=decide_eq_false (by omega)
   have hnl:(numB (M.last+1)).length≤9:=zAu (by omega)
   have hrl:(rowB b).length≤65545:=by
    have:=Hil.out
    have h9:(rowB b).length≤b.length+9:=by
     unfold rowB
     rw [List.length_append]
     have:=zAu (n:=b.length) (by omega)
     omega
    omega
   have Himg:=zh (show numB (M.last+1) ++ rowB b=imgB (M.last+1) b from rfl)
   generalize hZZ:zAL (nm pre) D M b=ZZ at *
   have HZ:=zh hZ
   have Hx0:=zh hx0
   clear hZ hZZ hbig hd hm h2 hla hx0
   generalize hla2:M.last=la at *
   have Hlast:=zh hla2
   clear hla2
   generalize hN:numB (la+1)=nb at *
   generalize hR:rowB b=rb at *
   generalize hI:imgB (la+1) b=ib at *
   clear hN hI
   generalize hn:nb.length=n1 at *
   generalize hn2:rb.length=n2 at *
   have Hn:=zh hn
   have Hn2:=zh hn2
   have HR:=zh hR
   clear hn hn2 hR
   go_enter Tryz.func56,Tryz.ntmps56
   go_wp2_with fail
   refine HL.out.mono ?_
   rintro e w2 ⟨rfl,q,rfl⟩
   have HBq:=zh (show Below w1.heap.size w1 (w1.drewN q) from zAw w1 q)
   have Hnq:=zh (Hnum.out (w1.drewN q))
   go_wp2_with fail
   refine Hnq.out.mono ?_
   rintro e w3 ⟨x,rfl,hx,hxn,hb3⟩
   have HB3:=zh (HBq.out.trans (hb3.mono HBq.out.size))
   have HX:=zh (show RowB (w1.drewN q) w3 x nb from ⟨hx,hxn,hb3⟩)
   obtain ⟨px,cx,rfl,-⟩:=zAX hx
   rw [Hn.out] at HX
   have Hby:=zh (zDu (HasB.below Hb.out HB3.out) (by have:=Hm.out;omega))
   rw [HR.out] at Hby
   rw [Hn.out]
   clear hx hxn hb3 Hnq
   go_wp2_with fail
   refine Hby.out.mono ?_
   rintro e w4 ⟨z,rfl,hz,hzn,hb4⟩
   have HX4:=zh (HX.out.next hb4)
   have Hz4:=zh (OwnB.has hz)
   obtain ⟨pz,cz,rfl,-⟩:=zAX hz
   rw [Hn2.out] at Hz4
   rw [Hn2.out]
   have Hrow:=zh (show OwnR w4 5 1 (.slice px n1 cx) n1 (zAN nb) from by have:=HX4.out.own;unfold OwnB at this;rwa [Hn.out] at this)
   have Hxx:=zh (show zAY w4 1 (.slice pz n2 cz) n2 (zAN rb) from by have:=Hz4.out;unfold HasB at this;rwa [Hn2.out] at this)
   clear hz hzn hb4 Hby
   go_wp2_with (at_builtin;refine zAR _ rfl (.tmp 28) (.tmp 30) 22 rfl 5 i0 (.int .u8 0) 1 1 Tryz.underlying22 hi hz0 hz1 hz2 rfl (by decide) (.slice px n1 cx) n1 _ rfl Hrow.out (.slice pz n2 cz) n2 _ rfl Hxx.out (zAM _) (by unfold maxLen;omega) (by omega) ?_;intro v5 w5 hown hgrow hloc;go_loud (have HX5:=zh (RowB.grown (x:=rb) HX4.out (by rw [Hn.out,Hn2.out];exact hown) hgrow hloc);clear hgrow hloc;obtain ⟨p5,g5,rfl⟩:=OwnR.shape hown;clear hown Hrow Hxx))
   have Henc:=zh (renc_calls (p:=p5) (m:=n1+n2) (c:=g5) (l:=ib) (by have:=HX5.out.own.has;rwa [Himg.out] at this) Hil.out)
   have hil:=Hil.out
   have Hfl:=zh (zAo ib)
   go_wp2_with fail
   refine Henc.out.mono ?_
   rintro e w6 ⟨v6,rfl,hv6,hvn6,hb6⟩
   have HB6:=zh (HBq.out.trans ((HX5.out.bel.trans (hb6.mono HX5.out.bel.size)).mono HBq.out.size))
   have HV6:=zh (And.intro hv6 (show ∀ k,v6.ownBlock=some k→w1.heap.size≤k from fun k hk=>Nat.le_trans HBq.out.size (Nat.le_trans HX5.out.bel.size (hvn6 k hk))))
   obtain ⟨p6,c6,rfl,-⟩:=zAX hv6
   clear hv6 hvn6 hb6 Henc HX5 HX4 Hz4 HX Hnum HB3 hil
   generalize hfb:zAG ib=fb at *
   generalize hfl:fb.length=fl at *
   have HFL:=zh hfl
   have hfl9:fl≤1048600:=by have:=Hfl.out;have:=Hil.out;omega
   have HF6:=zh (H.out.below HB6.out)
   have Hap:=zh (fun W (hb:Below w6.heap.size w6 W)=>show Calls Tryz.prog 16 #[.pointer (some ⟨r,0,none⟩),.string (pre ++ (⟨#[45,108,111,103]⟩:ByteArray)),.slice p6 fl c6] W fun e w'=>e=.returned (.int .i64 ((D.append (logN (nm pre)) fb).2:Int))∧zAZ w1 l r pre Hot Cold w' (D.append (logN (nm pre)) fb).1 M from by
    have:=lr_disk (Re:=D.append (logN (nm pre)) fb) HF6.out hb fun v L own hR ho=>by
     have:=zCu hR (pre ++ (⟨#[45,108,111,103]⟩:ByteArray)) hsl (pb:=p6) (m:=fl) (cb:=c6) (HasB.below HV6.out.1.has hb) (by rw [HFL.out];omega) fun hne k hk hown=>by
      have h1:=HV6.out.2 k hk
      have h2:=H.out.hlt (ho k hown)
      omega
     rwa [lnm_log] at this
    refine this.mono ?_
    rintro e w' ⟨rfl,hst,-⟩
    exact ⟨rfl,hst.since HB6.out⟩)
   have e0:w6.cell? ⟨l,0,none⟩=some (.pointer (some ⟨r,0,none⟩)):=zAx c0 HB6.out
   have e1':w6.cell? ⟨l,1,none⟩=some (.string pre):=zAx c1 HB6.out
   clear c0 c1 c5 hfl
   go_wp2_with fail
   obtain ⟨D1,e1,hap⟩:∃ D1 e1,D.append (logN (nm pre)) fb=(D1,e1):=⟨_,_,rfl⟩
   rw [hap] at Hap
   dsimp only at Hap
   have Hlo:=zh (show zCq D (logN (nm pre)) fb=if e1≠0 then (D1,e1) else D1.sync [logN (nm pre)] by unfold zCq;rw [hap])
   clear hap
   generalize zCq D (logN (nm pre)) fb=Z at *
   refine zAK (fun w':World=>w'.cell? ⟨l,0,none⟩=some (.pointer (some ⟨r,0,none⟩))∧w'.cell? ⟨l,1,none⟩=some (.string pre)) (n:=12) (by kernel_rfl) rfl ⟨e0,e1'⟩ (fun hHeld=>?_)
   refine pl [0,1,2,3,4,5,6,7,8,9] ?_
   iterate 10 (refine pc rfl ?_;simp only [Act.put,uA,uB,uC])
   refine pn ?_
   refine zAB 10 rfl (by kernel_rfl) (by rfl) (fun K hK=>?_)
   go_wp2_with fail
   refine (Hap.out w6.drew (zAH w6)).mono ?_
   rintro e w7 ⟨rfl,h7⟩
   have H7:=zh h7
   obtain ⟨dv7,ev7,hcell7⟩:=h7.cellsD
   have k0:w7.cell? ⟨l,0,none⟩=some (.pointer (some ⟨r,0,none⟩)):=zAC hcell7 rfl
   have k1:w7.cell? ⟨l,1,none⟩=some (.string pre):=zAC hcell7 rfl
   clear h7 hcell7 Hap hHeld
   go_wp2_with fail
   refine hK.out _ _ ⟨k0,k1⟩ (fun hHeld=>?_)
   clear hK
   try simp only [Act.put,uA,uB,uC]
   refine pl [11] ?_
   iterate 1 (refine pc rfl ?_;simp only [Act.put,uA,uB,uC])
   refine pn ?_
   refine wpAnyH_done (by kernel_rfl) ?_ _
   clear hHeld
   go_upto_if 47 with (fail)
   go_cut [9] (fun s9 wx=>s9=.int .i64 (Z.2:Int)∧zAZ w1 l r pre Hot Cold wx Z.1 M)
   case first =>
    by_cases he1:e1=0
    ·subst he1
     have HZ:=zh (show D1.sync [logN (nm pre)]=Z from by rw [Hlo.out,if_neg (by simp)])
     have Hsy:=zh (show Calls Tryz.prog 91 #[.pointer (some ⟨r,0,none⟩),.string (pre ++ (⟨#[45,108,111,103]⟩:ByteArray))] w7.drew fun e w'=>e=.returned (.int .i64 (Z.2:Int))∧zAZ w1 l r pre Hot Cold w' Z.1 M from
      lrs_disk (Re:=Z) H7.out (zAH w7) fun v L own hR ho=>by
       have:=zCL hR (pre ++ (⟨#[45,108,111,103]⟩:ByteArray)) hsl
       rwa [lnm_log,HZ.out] at this)
     go_wp2_with fail
     refine zAK (fun w':World=>w'.cell? ⟨l,0,none⟩=some (.pointer (some ⟨r,0,none⟩))∧w'.cell? ⟨l,1,none⟩=some (.string pre)) (n:=11) (by kernel_rfl) rfl ⟨k0,k1⟩ (fun hHeld=>?_)
     refine pl [0,1,2,3,4,5,6,7,8] ?_
     iterate 9 (refine pc rfl ?_;simp only [Act.put,uA,uB,uC])
     refine pn ?_
     refine zAB 9 rfl (by kernel_rfl) (by rfl) (fun K hK=>?_)
     go_wp2_with fail
     refine Hsy.out.mono ?_
     rintro e w8 ⟨rfl,h8⟩
     have H8:=zh h8
     obtain ⟨dv8,ev8,hcell8⟩:=h8.cellsD
     have hk8:=And.intro (show w8.cell? ⟨l,0,none⟩=some (.pointer (some ⟨r,0,none⟩)) from zAC hcell8 rfl) (show w8.cell? ⟨l,1,none⟩=some (.string pre) from zAC hcell8 rfl)
     have Hk8:=zh hk8
     clear h8 hcell8 hk8 hHeld
     go_wp2_with fail
     refine hK.out _ _ Hk8.out (fun hHeld=>?_)
     clear hK
     try simp only [Act.put,uA,uB,uC]
     refine pl [10] ?_
     iterate 1 (refine pc rfl ?_;simp only [Act.put,uA,uB,uC])
     refine pn ?_
     refine wpAnyH_done (by kernel_rfl) ?_ _
     clear hHeld
     go_wp2_with fail
     go_meet
     exact ⟨rfl,H8.out⟩
    ·have HZ:=zh (show Z=(D1,e1) from by rw [Hlo.out,if_pos he1])
     have hne:((e1:Int) == 0)=false:=by simp;omega
     clear he1
     go_wp2_with fail
     go_meet
     exact ⟨by rw [HZ.out],by rw [HZ.out];exact H7.out⟩
   case rest =>
    obtain ⟨rfl,h8⟩:=hcut
    have H8:=zh h8
    have Hwr:=zh (lrs_wrote h8 Z.2)
    clear h8 k0 k1 H7
    obtain ⟨D2,e2⟩:=Z
    dsimp only at *
    go_wp2_with fail
    refine Hwr.out.mono ?_
    rintro e w9 ⟨rfl,h9⟩
    by_cases he2:e2=0
    ·subst he2
     have h9:zAZ w1 l r pre Hot Cold w9 D2 M:=h9
     have H9:=zh h9
     obtain ⟨p4,c4,vs,k4,hrow4,hpush⟩:=lrs_push h9 (by rw [Hlast.out];exact Hlla.out)
     obtain ⟨dv9,ev9,hcell9⟩:=h9.cellsD
     have f4:=zAI hcell9 4
     have HB9:=zh (hasB_keep Hb.out h9.chg Hno.out)
     have HP:=zh hpush
     have HO4:=zh hrow4
     have hl9:=zAt hcell9
     have Hl9:=zh hl9
     have Hbm:=zh (show b.length≤1073741824 by have:=Hm.out;omega)
     have hel:M.entries.length≤1099511627776:=by have h1:=Hlla.out;have h2:=Hlast.out;unfold LedM.last at h2;omega
     have HE0:=zh (show ∀ W,zAZ w1 l r pre Hot Cold W D2 { M with entries:=M.entries ++ [b] }→LRTold2 w1 l r pre Hot Cold ZZ (.returned (.tuple #[.int .i64 (x0:Int),.int .i64 0])) W from fun W h=>by
      rw [HZ.out,if_neg (by simp)]
      refine ⟨?_,h⟩
      rw [Hx0.out]
      rfl)
     clear h9 hpush hrow4 hcell9 hl9
     generalize hne:M.entries.length=ne at *
     clear hne
     go_wp2_with fail
     refine g_start [12] (fun w':World=>w'.cell? ⟨l,4,none⟩=some (.slice p4 ne c4)) (n:=13) (by kernel_rfl) rfl k4 (fun hHeld=>?_)
     refine gpl [0,1,2,3,4,6] ?_
     iterate 6 (refine gpc rfl ?_;simp only [Act.put,uA,uB,uC])
     refine gpn ?_
     have HBd:=zh (zAH w9)
     generalize w9.drew=W9 at *
     refine g_one 5 rfl (by kernel_rfl) (by rfl) (fun K hK=>?_)
     have HBe:=zh (zAb W9 (.cells #[] 5))
     have Hh:=zh (zAx hHeld HBe.out)
     have Hh0:=zh hHeld
     go_wp2_with fail
     refine hK.out _ _ Hh.out (fun hHeld=>?_)
     clear hK
     try simp only [Act.put,uA,uB,uC]
     refine g_one 7 rfl (by kernel_rfl) (by rfl) (fun K hK=>?_)
     have Hal:=zh (zAq W9 5)
     have Hxx:=zh (show zAY (W9.alloc (.cells #[] 5)) 1 (.slice pb m cb) m (zAN b) from by
      have h1:=HB9.out.below (HBd.out.trans (HBe.out.mono HBd.out.size))
      unfold HasB at h1
      rwa [Hm.out] at h1)
     refine zAi (.tmp 68) (.tmp 69) 22 rfl 5 i0 (.int .u8 0) 1 1 Tryz.underlying22 hi hz0 hz1 hz2 rfl (by decide) (.slice (some ⟨W9.heap.size,0,none⟩) 0 0) 0 [] rfl Hal.out (.slice pb m cb) m _ rfl Hxx.out (zAM _) (by unfold maxLen;omega) (by omega) ?_
     intro v10 w10 hown hgrow hloc
     have HN:=zh (zDG Hm.out hown hgrow hloc)
     have HB10:=zh (HBd.out.trans (HN.out.2.2.mono HBd.out.size))
     have Hh:=zh (zAx Hh0.out HN.out.2.2)
     obtain ⟨p10,c10,e10,-⟩:=zAX HN.out.1
     subst e10
     clear hown hgrow hloc Hal Hxx hHeld
     go_wp2_with fail
     refine hK.out _ _ Hh.out (fun hHeld=>?_)
     clear hK
     try simp only [Act.put,uA,uB,uC]
     rw [Hm.out] at HN ⊢
     refine g_one 8 rfl (by kernel_rfl) (by rfl) (fun K hK=>?_)
     have HBf:=zh (zAb w10 (.cells #[.slice p10 m c10] 22))
     have Hh:=zh (zAx hHeld HBf.out)
     clear hHeld
     go_wp2_with fail
     refine hK.out _ _ Hh.out (fun hHeld=>?_)
     clear hK
     try simp only [Act.put,uA,uB,uC]
     refine g_one 9 rfl (by kernel_rfl) (by rfl) (fun K hK=>?_)
     have HB11:=zh (HB10.out.trans (HBf.out.mono HB10.out.size))
     have Hpu:=zh (HP.out (w10.alloc (.cells #[.slice p10 m c10] 22)) (.slice p10 m c10) b HB11.out (HN.out.1.has.below HBf.out) (fun k hk=>⟨Nat.le_trans HBd.out.size (HN.out.2.1 k hk),Nat.lt_of_lt_of_le (OwnR.lt HN.out.1 hk) HBf.out.size⟩) Hbm.out)
     have Hal:=zh (OwnR.keep HO4.out fun k hk=>HB11.out.block k (OwnR.lt HO4.out hk))
     have Hxx:=zh (zBV w10 (.slice p10 m c10) 22 (0,0))
     refine zAi (.tmp 67) (.tmp 71) 108 rfl 22 i1 (.slice none 0 0) 1 24 Tryz.underlying108 hj hy0 hy1 hy2 rfl (by decide) (.slice p4 ne c4) ne _ rfl Hal.out (.slice (some ⟨w10.heap.size,0,none⟩) 1 1) 1 _ rfl Hxx.out (by simp [Value.oneCell']) (by unfold maxLen;omega) (by omega) ?_
     intro v12 w12 hown hgrow hloc
     have HE:=zh (HE0.out _ (Hpu.out.2 w12 v12 hown hgrow hloc))
     have hcl:=Hpu.out.1 w12 hgrow
     have f4:w12.frozen? ⟨l,4,none⟩=false:=by rw [← f4];exact World.frozen?_of_block (a:=⟨l,4,none⟩) hcl
     have k4:w12.cell? ⟨l,4,none⟩=some (.slice p4 ne c4):=(World.cell?_of_block (a:=⟨l,4,none⟩) hcl).trans k4
     obtain ⟨p12,c12,rfl⟩:=OwnR.shape hown
     clear hown hgrow hloc Hal Hxx hHeld hcl Hpu
     go_wp2_with fail
     refine hK.out _ _ k4 (fun hHeld=>?_)
     clear hK
     try simp only [Act.put,uA,uB,uC]
     refine gpl [10,11] ?_
     iterate 2 (refine gpp rfl ?_;simp only [Act.put,uA,uB,uC])
     refine gpn ?_
     refine g_end 12 rfl (by kernel_rfl) (by rfl) (by kernel_rfl) (fun K hK=>?_)
     go_wp2_with fail
     refine hK.out _ _ ?_
     clear hK
     try simp only [Act.put,uA,uB,uC]
     refine g_done (by kernel_rfl) ?_ _
     go_wp2_with fail
     go_ret2
     exact HE.out
    ·have hne:((e2:Int) != 0)=true:=by simp;omega
     have HE:=zh (show LRTold2 w1 l r pre Hot Cold ZZ (.returned (.tuple #[.int .i64 0,.int .i64 (e2:Int)])) w9 from by
      rw [HZ.out,if_pos he2]
      refine ⟨rfl,?_⟩
      have h9:=h9
      unfold LedM.dieIf at h9
      rwa [if_neg he2] at h9)
     clear he2 h9
     go_wp2_with fail
     go_ret2
     exact HE.out
end
theorem lnm_img (pre:ByteArray):nm (pre ++ (⟨#[45,105,109,103]⟩:ByteArray))=imgN (nm pre):=by simp [nm,imgN,imgX]
theorem rid1_no {D:zAA} {n:Bs} (h:(Sat.get n D.files).isSome=false):D.rid1 n=(D,0):=by unfold zAA.rid1;rw [h];rfl
theorem rid1_yes {D:zAA} {n:Bs} (h:(Sat.get n D.files).isSome=true):D.rid1 n=D.remove [n]:=by unfold zAA.rid1;rw [if_pos h]
theorem rid_one (D:zAA) (n:Bs):D.rid [n]=D.rid1 n:=by
 unfold zAA.rid
 split
 next h=>unfold zAA.rid;exact Prod.ext rfl h.symm
 next=>rfl
theorem rid_two (D:zAA) (n m:Bs):D.rid [n,m]=if (D.rid1 n).2=0 then (D.rid1 n).1.rid1 m else D.rid1 n:=by
 rw [zAA.rid,rid_one]
section
variable {w0 w1 w2:World} {l r:Nat} {pre:ByteArray} {D:zAA} {M:LedM} {Hot Cold:Nat→Prop}
def zCD (w1:World) (l r:Nat) (pre:ByteArray) (Hot Cold:Nat→Prop) (Z:Wrote) (e:Ending) (w':World):Prop:=e=.returned (.int .i64 (Z.err:Int))∧zAZ w1 l r pre Hot Cold w' Z.disk Z.led
theorem lrs_has (h:zAZ w0 l r pre Hot Cold w1 D M) (s:ByteArray) :
  Calls Tryz.prog 139 #[.pointer (some ⟨l,0,none⟩),.string s] w1 fun e w'=>e=.returned (.bool (Sat.get (nm s) D.files).isSome)∧zAZ w0 l r pre Hot Cold w' D M:=by
 obtain ⟨Hot1,Cold1,hF,hc,hh,hco⟩:=h
 refine (lrhas_calls hF s).mono ?_
 rintro e w' ⟨rfl,hb⟩
 exact ⟨rfl,zAZ.comp hc hh hco (hF.stepB hb)⟩
theorem lrs_rem (h:zAZ w0 l r pre Hot Cold w1 D M) (s:ByteArray) (hs:s.size≤9223372036854775807) {W:World} (hb:Below w1.heap.size w1 W) :
  Calls Tryz.prog 82 #[.pointer (some ⟨r,0,none⟩),.string s] W fun e w'=>e=.returned (.int .i64 ((D.remove [nm s]).2:Int))∧zAZ w0 l r pre Hot Cold w' (D.remove [nm s]).1 M :=
 lrs_disk (Re:=D.remove [nm s]) h hb fun _ _ _ hR _=>zBu hR s hs
theorem lrdrop_calls (h:LRF w1 l r pre D M Hot Cold) :
  Calls Tryz.prog 61 #[.pointer (some ⟨l,0,none⟩)] w1 (zCD w1 l r pre Hot Cold (zA8 (nm pre) D M)):=by
 have hps2:=h.psz.2
 have hs4:(pre ++ (⟨#[45,108,111,103]⟩:ByteArray)).size=pre.size+4:=by simp [ByteArray.size_append];rfl
 have hs5:(pre ++ (⟨#[45,105,109,103]⟩:ByteArray)).size=pre.size+4:=by simp [ByteArray.size_append];rfl
 have hsl:(pre ++ (⟨#[45,108,111,103]⟩:ByteArray)).size≤9223372036854775807:=by omega
 have hsi:(pre ++ (⟨#[45,105,109,103]⟩:ByteArray)).size≤9223372036854775807:=by omega
 clear hs4 hs5
 obtain ⟨dv,ev,hcell⟩:=h.cellsD
 have c5:w1.cell? ⟨l,5,none⟩=some (.bool M.dead):=zAC hcell rfl
 have f5:=zAI hcell 5
 cases hd:M.dead with
 | true =>
  have HE:=zh (show zCD w1 l r pre Hot Cold (zA8 (nm pre) D M) (.returned (.int .i64 9)) w1 from by unfold zA8;rw [if_pos hd];exact ⟨rfl,h.step⟩)
  rw [hd] at c5
  clear h hd hcell
  go_enter Tryz.func61,Tryz.ntmps61
  go_wp2_with fail
  go_ret
  exact HE.out
 | false =>
  have hZ:zA8 (nm pre) D M=⟨(D.rid [logN (nm pre),imgN (nm pre)]).1,M.die,0,(D.rid [logN (nm pre),imgN (nm pre)]).2⟩:=by unfold zA8;rw [if_neg (by simp [hd])]
  rw [rid_two] at hZ
  have HZ:=zh hZ
  generalize zA8 (nm pre) D M=ZZ at *
  have H1:=zh (lr_die h)
  have Hhas:=zh (lrs_has H1.out (pre ++ (⟨#[45,108,111,103]⟩:ByteArray)))
  rw [lnm_log] at Hhas
  rw [hd] at c5
  obtain ⟨dv1,ev1,hcell1⟩:=H1.out.cellsD
  have k0:(w1.setCell ⟨l,5,none⟩ (.bool true)).cell? ⟨l,0,none⟩=some (.pointer (some ⟨r,0,none⟩)):=zAC hcell1 rfl
  have k1:(w1.setCell ⟨l,5,none⟩ (.bool true)).cell? ⟨l,1,none⟩=some (.string pre):=zAC hcell1 rfl
  clear hcell1
  have hx0:=zAC hcell (i:=0) rfl
  have hx1:=zAC hcell (i:=1) rfl
  clear h hd hcell hZ
  go_enter Tryz.func61,Tryz.ntmps61
  go_wp2_with fail
  generalize w1.setCell ⟨l,5,none⟩ (.bool true)=W1 at *
  refine Hhas.out.mono ?_
  rintro e w3 ⟨rfl,h3⟩
  have H3:=zh h3
  obtain ⟨dv3,ev3,hcell3⟩:=h3.cellsD
  have k0:w3.cell? ⟨l,0,none⟩=some (.pointer (some ⟨r,0,none⟩)):=zAC hcell3 rfl
  have k1:w3.cell? ⟨l,1,none⟩=some (.string pre):=zAC hcell3 rfl
  clear hcell3
  clear h3 Hhas H1 c5 f5 hx0 hx1
  go_upto_if 17 with (fail)
  go_cut [3] (fun s3 wx=>s3=.int .i64 ((D.rid1 (logN (nm pre))).2:Int)∧zAZ w1 l r pre Hot Cold wx (D.rid1 (logN (nm pre))).1 M.die)
  case first =>
   cases hgs:(Sat.get (logN (nm pre)) D.files).isSome with
   | true =>
    have Hrm:=zh (fun W hb=>lrs_rem H3.out (pre ++ (⟨#[45,108,111,103]⟩:ByteArray)) hsl (W:=W) hb)
    rw [lnm_log] at Hrm
    rw [← rid1_yes hgs] at Hrm
    clear hgs
    go_wp2_with fail
    refine zAK (fun w':World=>w'.cell? ⟨l,0,none⟩=some (.pointer (some ⟨r,0,none⟩))∧w'.cell? ⟨l,1,none⟩=some (.string pre)) (n:=11) (by kernel_rfl) rfl ⟨k0,k1⟩ (fun hHeld=>?_)
    refine pl [0,1,2,3,4,5,6,7,8] ?_
    iterate 9 (refine pc rfl ?_;simp only [Act.put,uA,uB,uC])
    refine pn ?_
    refine zAB 9 rfl (by kernel_rfl) (by rfl) (fun K hK=>?_)
    go_wp2_with fail
    refine (Hrm.out w3.drew (zAH w3)).mono ?_
    rintro e w8 ⟨rfl,h8⟩
    have H8:=zh h8
    obtain ⟨dv8,ev8,hcell8⟩:=h8.cellsD
    have hk8:=And.intro (show w8.cell? ⟨l,0,none⟩=some (.pointer (some ⟨r,0,none⟩)) from zAC hcell8 rfl) (show w8.cell? ⟨l,1,none⟩=some (.string pre) from zAC hcell8 rfl)
    have Hk8:=zh hk8
    clear h8 hcell8 hk8 hHeld
    go_wp2_with fail
    refine hK.out _ _ Hk8.out (fun hHeld=>?_)
    clear hK
    try simp only [Act.put,uA,uB,uC]
    refine pl [10] ?_
    iterate 1 (refine pc rfl ?_;simp only [Act.put,uA,uB,uC])
    refine pn ?_
    refine wpAnyH_done (by kernel_rfl) ?_ _
    clear hHeld
    go_wp2_with fail
    go_meet
    exact ⟨rfl,H8.out⟩
   | false =>
    have HE:=zh (show (D.rid1 (logN (nm pre))).2=0∧zAZ w1 l r pre Hot Cold w3 (D.rid1 (logN (nm pre))).1 M.die from by rw [rid1_no hgs];exact ⟨rfl,H3.out⟩)
    clear hgs
    go_wp2_with fail
    go_meet
    exact ⟨by rw [HE.out.1];rfl,HE.out.2⟩
  case rest =>
   obtain ⟨rfl,h4⟩:=hcut
   have H4:=zh h4
   clear k0 k1 H3
   obtain ⟨dv4,ev4,hcell4⟩:=h4.cellsD
   have k0:wc.cell? ⟨l,0,none⟩=some (.pointer (some ⟨r,0,none⟩)):=zAC hcell4 rfl
   have k1:wc.cell? ⟨l,1,none⟩=some (.string pre):=zAC hcell4 rfl
   clear hcell4
   clear h4
   generalize D.rid1 (logN (nm pre))=Z1 at *
   obtain ⟨D1,e1⟩:=Z1
   dsimp only at *
   by_cases he1:e1=0
   ·subst he1
    have HZ2:=zh (show ZZ=⟨(D1.rid1 (imgN (nm pre))).1,M.die,0,(D1.rid1 (imgN (nm pre))).2⟩ from by rw [HZ.out];rfl)
    have Hhas:=zh (lrs_has H4.out (pre ++ (⟨#[45,105,109,103]⟩:ByteArray)))
    rw [lnm_img] at Hhas
    go_wp2_with fail
    refine Hhas.out.mono ?_
    rintro e w5 ⟨rfl,h5⟩
    have H5:=zh h5
    clear k0 k1
    obtain ⟨dv5,ev5,hcell5⟩:=h5.cellsD
    have k0:w5.cell? ⟨l,0,none⟩=some (.pointer (some ⟨r,0,none⟩)):=zAC hcell5 rfl
    have k1:w5.cell? ⟨l,1,none⟩=some (.string pre):=zAC hcell5 rfl
    clear hcell5
    clear h5 Hhas H4
    cases hgs:(Sat.get (imgN (nm pre)) D1.files).isSome with
    | true =>
     have Hrm:=zh (fun W hb=>lrs_rem H5.out (pre ++ (⟨#[45,105,109,103]⟩:ByteArray)) hsi (W:=W) hb)
     rw [lnm_img] at Hrm
     rw [← rid1_yes hgs] at Hrm
     clear hgs
     go_wp2_with fail
     refine zAK (fun w':World=>w'.cell? ⟨l,0,none⟩=some (.pointer (some ⟨r,0,none⟩))∧w'.cell? ⟨l,1,none⟩=some (.string pre)) (n:=11) (by kernel_rfl) rfl ⟨k0,k1⟩ (fun hHeld=>?_)
     refine pl [0,1,2,3,4,5,6,7,8] ?_
     iterate 9 (refine pc rfl ?_;simp only [Act.put,uA,uB,uC])
     refine pn ?_
     refine zAB 9 rfl (by kernel_rfl) (by rfl) (fun K hK=>?_)
     go_wp2_with fail
     refine (Hrm.out w5.drew (zAH w5)).mono ?_
     rintro e w8 ⟨rfl,h8⟩
     have H8:=zh h8
     obtain ⟨dv8,ev8,hcell8⟩:=h8.cellsD
     have hk8:=And.intro (show w8.cell? ⟨l,0,none⟩=some (.pointer (some ⟨r,0,none⟩)) from zAC hcell8 rfl) (show w8.cell? ⟨l,1,none⟩=some (.string pre) from zAC hcell8 rfl)
     have Hk8:=zh hk8
     clear h8 hcell8 hk8 hHeld
     go_wp2_with fail
     refine hK.out _ _ Hk8.out (fun hHeld=>?_)
     clear hK
     try simp only [Act.put,uA,uB,uC]
     refine pl [10] ?_
     iterate 1 (refine pc rfl ?_;simp only [Act.put,uA,uB,uC])
     refine pn ?_
     refine wpAnyH_done (by kernel_rfl) ?_ _
     clear hHeld
     have HE:=zh (show zCD w1 l r pre Hot Cold ZZ (.returned (.int .i64 ((D1.rid1 (imgN (nm pre))).2:Int))) w8 from by rw [HZ2.out];exact ⟨rfl,H8.out⟩)
     go_wp2_with fail
     go_ret
     exact HE.out
    | false =>
     have HE:=zh (show zCD w1 l r pre Hot Cold ZZ (.returned (.int .i64 0)) w5 from by rw [HZ2.out,rid1_no hgs];exact ⟨rfl,H5.out⟩)
     clear hgs
     go_wp2_with fail
     go_ret
     exact HE.out
   ·have hne:((e1:Int) == 0)=false:=by simp;omega
    have HE:=zh (show zCD w1 l r pre Hot Cold ZZ (.returned (.int .i64 (e1:Int))) wc from by rw [HZ.out,if_neg he1];exact ⟨rfl,H4.out⟩)
    clear he1
    go_wp2_with fail
    go_ret
    exact HE.out
end
section
variable {w0 w1 w2:World} {l r:Nat} {pre:ByteArray} {D:zAA} {M:LedM} {Hot Cold:Nat→Prop}
theorem lrs_img (h:zAZ w0 l r pre Hot Cold w1 D M) {W:World} {v:Value} {p:Bs} {n:Nat} (hb:Below w1.heap.size w1 W) (hv:HasB W v p) (hvo:∀ k,v.ownBlock=some k→w1.heap.size≤k∧k < W.heap.size) (hn:n≤1099511627776) (hp:p.length≤1073741824) :
  zAZ w0 l r pre Hot Cold (((W.setCell ⟨l,2,none⟩ (.int .i64 (n:Int))).setCell ⟨l,3,none⟩ v).setCell ⟨l,4,none⟩ (.slice none 0 0)) D ⟨n,p,[],M.dead⟩:=by
 obtain ⟨Hot1,Cold1,hF,hc,hh,hco⟩:=h
 obtain ⟨O,own,dv,ev,vs,vr,L,hJ,hR,hO,hC,hH⟩:=hF
 have hl:=hJ.olt l hJ.oj
 have hsz:=hb.size
 have hcW:W.heap[l]?=some (LRC r pre (M.base:Int) dv ev M.dead):=(hb.block l hl).trans hJ.cells
 have hs:Chg (fun k=>k=l) W (((W.setCell ⟨l,2,none⟩ (.int .i64 (n:Int))).setCell ⟨l,3,none⟩ v).setCell ⟨l,4,none⟩ (.slice none 0 0)) :=
  ((Chg.setCell W ⟨l,2,none⟩ _).trans (Chg.setCell _ ⟨l,3,none⟩ _) fun _ _ e=>e).trans (Chg.setCell _ ⟨l,4,none⟩ _) fun _ _ e=>e
 have hcell:(((W.setCell ⟨l,2,none⟩ (.int .i64 (n:Int))).setCell ⟨l,3,none⟩ v).setCell ⟨l,4,none⟩ (.slice none 0 0)).heap[l]?=some (LRC r pre (n:Int) v (.slice none 0 0) M.dead):=by
  have q1:=zAO hcW 2 (.int .i64 (n:Int))
  have q2:=zAO q1 3 v
  have q3:=zAO q2 4 (.slice none 0 0)
  simpa using q3
 generalize ((W.setCell ⟨l,2,none⟩ (.int .i64 (n:Int))).setCell ⟨l,3,none⟩ v).setCell ⟨l,4,none⟩ (.slice none 0 0)=W' at *
 have hcx:Chg (fun k=>k=l) w1 W':=((Chg.of_below hb).mono fun _ _ e=>e.elim).trans hs fun _ _ e=>e
 have hsz':=hcx.size
 refine zAZ.comp hc hh hco ⟨Hot1,fun k=>Cold1 k∨v.ownBlock=some k,⟨O,own,v,.slice none 0 0,[],vr,L,{
  cells:=hcell
  data:=HasB.chg hv hs fun k hk e=>by have:=(hvo k hk).1;omega
  row:=OwnR.nil _ _ _
  rows:=fun i e v he hv=>by simp at hv
  oj:=hJ.oj
  oe:=fun k hk=>by cases hk
  cd:=fun k hk=>.inr hk
  cv:=fun u hu=>by simp at hu
  dis:=fun k hk ho=>hk.elim (fun c=>hJ.dis k c ho) fun e=>by have h1:=hJ.olt k ho;have h2:=(hvo k e).1;omega
  olt:=fun k hk=>Nat.lt_of_lt_of_le (hJ.olt k hk) hsz'
  clt:=fun k hk=>hk.elim (fun c=>Nat.lt_of_lt_of_le (hJ.clt k c) hsz') fun e=>Nat.lt_of_lt_of_le (hvo k e).2 hs.size
  psz:=hJ.psz
  last:=hn
  big:=⟨hp,fun e he=>(by cases he)⟩ },hR.keep hsz' (fun k hk=>hcx.block k (hR.olt k hk) fun e=>hO l hJ.oj (e ▸ hk)),hO,fun k hk ho=>?_,hH⟩,hcx.mono fun k _ e=>(hH k).2 (.inl (e ▸ hJ.oj)),fun k hk=>.inl hk,fun k hk=>hk.imp id fun e=>(hvo k e).1⟩
 rcases hk with hk | hk
 ·exact hC k hk ho
 ·have h1:=hR.olt k ho
  have h2:=(hvo k hk).1
  omega
theorem lrs_save (h:LRF w1 l r pre D M Hot Cold) {wc:World} (hb:Below w1.heap.size w1 wc) (s:ByteArray) (hs:s.size≤9223372036854775000) {p:Option Addr} {m c:Nat} {x:Bs} (hx:HasB wc (.slice p m c) x) (hl:x.length≤1048576) :
  Calls Tryz.prog 138 #[.pointer (some ⟨r,0,none⟩),.string s,.slice p m c] wc fun e w'=>e=.returned (.int .i64 ((D.save (nm s) x).2:Int))∧zAZ w1 l r pre Hot Cold w' (D.save (nm s) x).1 M:=by
 refine (lr_disk (Re:=D.save (nm s) x) h hb fun _ _ _ hR _=>rsave_calls hR s hs hx hl).mono ?_
 rintro e w' ⟨rfl,hst,-⟩
 exact ⟨rfl,hst⟩
theorem lrwrite_calls (h:LRF w1 l r pre D M Hot Cold) (i:Int) (hir:-9223372036854775808≤i∧i≤9223372036854775807) {pb:Option Addr} {m cb:Nat} {b:Bs} (hb:HasB w1 (.slice pb m cb) b) (hbl:b.length≤140737488355328) (hno:b≠[]→∀ k,(Value.slice pb m cb).ownBlock=some k→¬ Hot k) :
  Calls Tryz.prog 59 #[.pointer (some ⟨l,0,none⟩),.int .i64 i,.slice pb m cb] w1 (zCD w1 l r pre Hot Cold (zAV (nm pre) D M i b)):=by
 obtain ⟨i0,hi,hz0,hz1,hz2⟩:=info_parts (show (Tryz.prog.info? 5).map (fun i=>(i.zero,i.size,i.bytes))=some (some (.int .u8 0),1,1) by kernel_rfl)
 have hm:b.length=m:=by obtain ⟨_,_,e⟩:=hb.slice;simp only [Value.slice.injEq] at e;exact e.2.1.symm
 have hps2:=h.psz.2
 have hs4:(pre ++ (⟨#[45,108,111,103]⟩:ByteArray)).size=pre.size+4:=by simp [ByteArray.size_append];rfl
 have hs5:(pre ++ (⟨#[45,105,109,103]⟩:ByteArray)).size=pre.size+4:=by simp [ByteArray.size_append];rfl
 have hsl:(pre ++ (⟨#[45,108,111,103]⟩:ByteArray)).size≤9223372036854775807:=by omega
 have hsi:(pre ++ (⟨#[45,105,109,103]⟩:ByteArray)).size≤9223372036854775000:=by omega
 clear hs4 hs5
 obtain ⟨dv,ev,hcell⟩:=h.cellsD
 have c0:w1.cell? ⟨l,0,none⟩=some (.pointer (some ⟨r,0,none⟩)):=zAC hcell rfl
 have c1:w1.cell? ⟨l,1,none⟩=some (.string pre):=zAC hcell rfl
 have c5:w1.cell? ⟨l,5,none⟩=some (.bool M.dead):=zAC hcell rfl
 have HL:=zh (zC6 h)
 have hla:=h.lastL
 have H:=zh h
 have Hb:=zh hb
 have Hno:=zh hno
 have Hm:=zh hm
 have Hla:=zh hla
 rw [hm] at hbl
 clear h hb hno hcell
 cases hd:M.dead with
 | true =>
  have HE:=zh (show zCD w1 l r pre Hot Cold (zAV (nm pre) D M i b) (.returned (.int .i64 9)) w1 from by
   unfold zAV
   rw [if_pos hd]
   exact ⟨rfl,H.out.step⟩)
  rw [hd] at c5
  clear hd hm hla
  go_enter Tryz.func59,Tryz.ntmps59
  go_wp2_with fail
  go_ret
  exact HE.out
 | false =>
  have Hd:=zh (show ¬ (M.dead=true) by rw [hd];simp)
  rw [hd] at c5
  by_cases hbad:i < (M.last:Int)∨1099511627776 < i
  ·have HE:=zh (fun q=>show zCD w1 l r pre Hot Cold (zAV (nm pre) D M i b) (.returned (.int .i64 1)) (w1.drewN q) from by
    unfold zAV
    rw [if_neg Hd.out,if_pos hbad]
    exact ⟨rfl,H.out.stepB (zAw w1 q)⟩)
   clear hd hm hla Hla
   generalize M.last=la at *
   by_cases h1:i < (la:Int)
   ·have d1:decide (i < (la:Int))=true:=decide_eq_true h1
    clear hbad
    go_enter Tryz.func59,Tryz.ntmps59
    go_wp2_with fail
    refine HL.out.mono ?_
    rintro e w2 ⟨rfl,q,rfl⟩
    go_wp2_with fail
    go_ret
    exact HE.out q
   ·have d1:decide (i < (la:Int))=false:=decide_eq_false h1
    have d2:decide ((1099511627776:Int) < i)=true:=decide_eq_true (by omega)
    clear hbad h1
    go_enter Tryz.func59,Tryz.ntmps59
    go_wp2_with fail
    refine HL.out.mono ?_
    rintro e w2 ⟨rfl,q,rfl⟩
    go_wp2_with fail
    go_ret
    exact HE.out q
  have d1:decide (i < (M.last:Int))=false:=decide_eq_false fun e=>hbad (.inl e)
  have d2:decide ((1099511627776:Int) < i)=false:=decide_eq_false fun e=>hbad (.inr e)
  by_cases hbig:524288 < m
  ·have HE:=zh (fun q=>show zCD w1 l r pre Hot Cold (zAV (nm pre) D M i b) (.returned (.int .i64 5)) (w1.drewN q) from by
    unfold zAV
    rw [if_neg Hd.out,if_neg hbad,if_pos (by rw [hm];exact hbig)]
    exact ⟨rfl,H.out.stepB (zAw w1 q)⟩)
   have d3:decide ((524288:Int) < (m:Int))=true:=decide_eq_true (by omega)
   have d3n:decide (524288 < m)=true:=decide_eq_true hbig
   clear hd hm hla Hla hbad
   generalize M.last=la at *
   go_enter Tryz.func59,Tryz.ntmps59
   go_wp2_with fail
   refine HL.out.mono ?_
   rintro e w2 ⟨rfl,q,rfl⟩
   go_wp2_with fail
   go_ret
   exact HE.out q
  have d3:decide ((524288:Int) < (m:Int))=false:=decide_eq_false (by omega)
  have d3n:decide (524288 < m)=false:=decide_eq_false hbig
  obtain ⟨n,rfl⟩:∃ n:Nat,i=(n:Int):=⟨i.toNat,by omega⟩
  have hZ:zAV (nm pre) D M (n:Int) b=if (zCa (nm pre) D n b).2≠0 then ⟨(zCa (nm pre) D n b).1,M.die,0,(zCa (nm pre) D n b).2⟩ else ⟨(zCa (nm pre) D n b).1,⟨n,b,[],M.dead⟩,0,0⟩:=by
   unfold zAV
   rw [if_neg Hd.out,if_neg hbad,if_neg (by rw [hm];exact hbig)]
   rfl
  have hn40:n≤1099511627776:=by omega
  have Hn40:=zh hn40
  have Hil:=zh (show (imgB n b).length≤1048576 from by have:=zCo n b (by omega) (by omega);omega)
  have Hnum:=zh (fun W=>show Calls Tryz.prog 118 #[.int .i64 (n:Int)] W (RowNew W (numB n)) from by
   have:=zDb W (n:Int) (by omega)
   rwa [zCr (by omega)] at this)
  have hnl:(numB n).length≤9:=zAu (by omega)
  have hrl:(rowB b).length≤524297:=by
   unfold rowB
   rw [List.length_append]
   have:=zAu (n:=b.length) (by omega)
   omega
  have Himg:=zh (show numB n ++ rowB b=imgB n b from rfl)
  have hon:zCa (nm pre) D n b=if (D.save (imgN (nm pre)) (imgB n b)).2≠0 then D.save (imgN (nm pre)) (imgB n b) else (D.save (imgN (nm pre)) (imgB n b)).1.rid1 (logN (nm pre)):=by
   unfold zCa
   rw [rid_one]
  obtain ⟨D1,e1,hsv⟩:∃ D1 e1,D.save (imgN (nm pre)) (imgB n b)=(D1,e1):=⟨_,_,rfl⟩
  rw [hsv] at hon
  have Hsv:=zh hsv
  have Hon:=zh (show zCa (nm pre) D n b=if e1≠0 then (D1,e1) else D1.rid1 (logN (nm pre)) from hon)
  generalize zCa (nm pre) D n b=Z at *
  have HZ:=zh hZ
  generalize zAV (nm pre) D M (n:Int) b=ZZ at *
  have hm5:m≤524288:=by omega
  have d1n:decide (n < M.last)=false:=decide_eq_false (by omega)
  have d2n:decide (1099511627776 < n)=false:=decide_eq_false (by omega)
  clear hZ hbad hbig hd hm hla Hla hir hn40 hsv hon
  generalize M.last=la at *
  generalize hN:numB n=nb at *
  generalize hR:rowB b=rb at *
  generalize hI:imgB n b=ib at *
  clear hN hI
  generalize hn:nb.length=n1 at *
  generalize hn2:rb.length=n2 at *
  have Hn:=zh hn
  have Hn2:=zh hn2
  have HR:=zh hR
  clear hn hn2 hR
  go_enter Tryz.func59,Tryz.ntmps59
  go_wp2_with fail
  refine HL.out.mono ?_
  rintro e w2 ⟨rfl,q,rfl⟩
  go_wp2_with fail
  have HBq:=zh (show Below w1.heap.size w1 (w1.drewN q).drew from ⟨rfl,rfl,rfl,Nat.le_refl _,fun _ _=>rfl⟩)
  have c0q:(w1.drewN q).cell? ⟨l,0,none⟩=some (.pointer (some ⟨r,0,none⟩)):=c0
  have c1q:(w1.drewN q).cell? ⟨l,1,none⟩=some (.string pre):=c1
  refine zAK (fun w':World=>w'.cell? ⟨l,0,none⟩=some (.pointer (some ⟨r,0,none⟩))∧w'.cell? ⟨l,1,none⟩=some (.string pre)) (n:=16) (by kernel_rfl) rfl ⟨c0q,c1q⟩ (fun hHeld=>?_)
  refine pl [0,1,2,3,4,5,6,7,8,9,11] ?_
  iterate 11 (refine pc rfl ?_;simp only [Act.put,uA,uB,uC])
  refine pn ?_
  clear c0 c1 c5 c0q c1q HL
  generalize (w1.drewN q).drew=W2 at *
  refine zAB 10 rfl (by kernel_rfl) (by rfl) (fun K hK=>?_)
  have Hnq:=zh (Hnum.out W2)
  go_wp2_with fail
  refine Hnq.out.mono ?_
  rintro e w3 ⟨x,rfl,hx,hxn,hb3⟩
  have Hh:=zh (And.intro (zAx hHeld.1 hb3) (zAx hHeld.2 hb3))
  have HB3:=zh (HBq.out.trans (hb3.mono HBq.out.size))
  have HX:=zh (show RowB W2 w3 x nb from ⟨hx,hxn,hb3⟩)
  obtain ⟨px,cx,rfl,-⟩:=zAX hx
  rw [Hn.out] at HX
  rw [Hn.out]
  have Hby:=zh (zDu (HasB.below Hb.out HB3.out) (by have:=Hm.out;omega))
  rw [HR.out] at Hby
  clear hx hxn hb3 Hnq hHeld
  go_wp2_with fail
  refine hK.out _ _ Hh.out (fun hHeld=>?_)
  clear hK
  try simp only [Act.put,uA,uB,uC]
  refine zAB 12 rfl (by kernel_rfl) (by rfl) (fun K hK=>?_)
  go_wp2_with fail
  refine Hby.out.mono ?_
  rintro e w4 ⟨z,rfl,hz,hzn,hb4⟩
  have Hh:=zh (And.intro (zAx hHeld.1 hb4) (zAx hHeld.2 hb4))
  have HX4:=zh (HX.out.next hb4)
  have Hz4:=zh (OwnB.has hz)
  obtain ⟨pz,cz,rfl,-⟩:=zAX hz
  rw [Hn2.out] at Hz4
  rw [Hn2.out]
  clear hz hzn hb4 Hby hHeld
  go_wp2_with fail
  refine hK.out _ _ Hh.out (fun hHeld=>?_)
  clear hK
  try simp only [Act.put,uA,uB,uC]
  refine zAB 13 rfl (by kernel_rfl) (by rfl) (fun K hK=>?_)
  have Hrow:=zh (show OwnR w4 5 1 (.slice px n1 cx) n1 (zAN nb) from by have:=HX4.out.own;unfold OwnB at this;rwa [Hn.out] at this)
  have Hxx:=zh (show zAY w4 1 (.slice pz n2 cz) n2 (zAN rb) from by have:=Hz4.out;unfold HasB at this;rwa [Hn2.out] at this)
  refine zAi (.tmp 36) (.tmp 38) 22 rfl 5 i0 (.int .u8 0) 1 1 Tryz.underlying22 hi hz0 hz1 hz2 rfl (by decide) (.slice px n1 cx) n1 _ rfl Hrow.out (.slice pz n2 cz) n2 _ rfl Hxx.out (zAM _) (by unfold maxLen;omega) (by omega) ?_
  intro v5 w5 hown hgrow hloc
  have HX5:=zh (RowB.grown (x:=rb) HX4.out (by rw [Hn.out,Hn2.out];exact hown) hgrow hloc)
  have HB5:=zh (HBq.out.trans (HX5.out.bel.mono HBq.out.size))
  obtain ⟨dv5,ev5,hcell5⟩:=H.out.cellsD
  have hcl5:=(HB5.out.block l (zAt hcell5)).trans hcell5
  have Hh:=zh (And.intro (show w5.cell? ⟨l,0,none⟩=some (.pointer (some ⟨r,0,none⟩)) from zAC hcl5 rfl) (show w5.cell? ⟨l,1,none⟩=some (.string pre) from zAC hcl5 rfl))
  obtain ⟨p5,g5,rfl⟩:=OwnR.shape hown
  have Hsave:=zh (lrs_save H.out HB5.out (pre ++ (⟨#[45,105,109,103]⟩:ByteArray)) hsi (p:=p5) (m:=n1+n2) (c:=g5) (x:=ib) (by have:=HX5.out.own.has;rwa [Himg.out] at this) Hil.out)
  rw [lnm_img,Hsv.out] at Hsave
  dsimp only at Hsave
  clear hgrow hloc hown Hrow Hxx hHeld hcell5 hcl5 HX5 HX4 Hz4 HX HB3
  go_wp2_with fail
  refine hK.out _ _ Hh.out (fun hHeld=>?_)
  clear hK
  try simp only [Act.put,uA,uB,uC]
  refine zAB 14 rfl (by kernel_rfl) (by rfl) (fun K hK=>?_)
  go_wp2_with fail
  refine Hsave.out.mono ?_
  rintro e w6 ⟨rfl,h6⟩
  have H6:=zh h6
  obtain ⟨dv6,ev6,hcell6⟩:=h6.cellsD
  have k0:w6.cell? ⟨l,0,none⟩=some (.pointer (some ⟨r,0,none⟩)):=zAC hcell6 rfl
  have k1:w6.cell? ⟨l,1,none⟩=some (.string pre):=zAC hcell6 rfl
  clear hcell6
  clear h6 Hsave hHeld
  go_wp2_with fail
  refine hK.out _ _ ⟨k0,k1⟩ (fun hHeld=>?_)
  clear hK
  try simp only [Act.put,uA,uB,uC]
  refine pl [15] ?_
  iterate 1 (refine pc rfl ?_;simp only [Act.put,uA,uB,uC])
  refine pn ?_
  refine wpAnyH_done (by kernel_rfl) ?_ _
  clear hHeld Hh
  go_upto_region 8 with (fail)
  go_cut [51] (fun s51 wx=>s51=.bool (decide (e1=0) && (Sat.get (logN (nm pre)) D1.files).isSome)∧zAZ w1 l r pre Hot Cold wx D1 M)
  case first =>
   by_cases he1:e1=0
   ·subst he1
    have Hhas:=zh (lrs_has H6.out (pre ++ (⟨#[45,108,111,103]⟩:ByteArray)))
    rw [lnm_log] at Hhas
    go_wp2_with fail
    refine Hhas.out.mono ?_
    rintro e w7 ⟨rfl,h7⟩
    have H7:=zh h7
    clear h7 Hhas
    go_wp2_with fail
    go_meet
    exact ⟨by simp,H7.out⟩
   ·have hne:((e1:Int) == 0)=false:=by simp;omega
    have hdd:decide (e1=0)=false:=decide_eq_false he1
    clear he1
    go_wp2_with fail
    go_meet
    exact ⟨by simp [hdd],H6.out⟩
  case rest =>
   obtain ⟨rfl,h7⟩:=hcut
   have H7:=zh h7
   clear k0 k1 H6
   obtain ⟨dv7,ev7,hcell7⟩:=h7.cellsD
   have k0:wc.cell? ⟨l,0,none⟩=some (.pointer (some ⟨r,0,none⟩)):=zAC hcell7 rfl
   have k1:wc.cell? ⟨l,1,none⟩=some (.string pre):=zAC hcell7 rfl
   clear hcell7
   clear h7
   go_upto_if 51 with (fail)
   go_cut [7] (fun s7 wx=>s7=.int .i64 (Z.2:Int)∧zAZ w1 l r pre Hot Cold wx Z.1 M)
   case first =>
    cases hgb:(decide (e1=0) && (Sat.get (logN (nm pre)) D1.files).isSome) with
    | true =>
     rw [Bool.and_eq_true] at hgb
     obtain ⟨he,hgs⟩:=hgb
     have he1:e1=0:=of_decide_eq_true he
     subst he1
     have HZ1:=zh (show D1.rid1 (logN (nm pre))=Z from by rw [Hon.out,if_neg (by simp)])
     have Hrm:=zh (fun W hb=>lrs_rem H7.out (pre ++ (⟨#[45,108,111,103]⟩:ByteArray)) hsl (W:=W) hb)
     rw [lnm_log] at Hrm
     rw [← rid1_yes hgs,HZ1.out] at Hrm
     clear hgs he
     go_wp2_with fail
     refine zAK (fun w':World=>w'.cell? ⟨l,0,none⟩=some (.pointer (some ⟨r,0,none⟩))∧w'.cell? ⟨l,1,none⟩=some (.string pre)) (n:=11) (by kernel_rfl) rfl ⟨k0,k1⟩ (fun hHeld=>?_)
     refine pl [0,1,2,3,4,5,6,7,8] ?_
     iterate 9 (refine pc rfl ?_;simp only [Act.put,uA,uB,uC])
     refine pn ?_
     refine zAB 9 rfl (by kernel_rfl) (by rfl) (fun K hK=>?_)
     go_wp2_with fail
     refine (Hrm.out wc.drew (zAH wc)).mono ?_
     rintro e w8 ⟨rfl,h8⟩
     have H8:=zh h8
     obtain ⟨dv8,ev8,hcell8⟩:=h8.cellsD
     have hk8:=And.intro (show w8.cell? ⟨l,0,none⟩=some (.pointer (some ⟨r,0,none⟩)) from zAC hcell8 rfl) (show w8.cell? ⟨l,1,none⟩=some (.string pre) from zAC hcell8 rfl)
     have Hk8:=zh hk8
     clear h8 hcell8 hk8 hHeld
     go_wp2_with fail
     refine hK.out _ _ Hk8.out (fun hHeld=>?_)
     clear hK
     try simp only [Act.put,uA,uB,uC]
     refine pl [10] ?_
     iterate 1 (refine pc rfl ?_;simp only [Act.put,uA,uB,uC])
     refine pn ?_
     refine wpAnyH_done (by kernel_rfl) ?_ _
     clear hHeld
     go_wp2_with fail
     go_meet
     exact ⟨rfl,H8.out⟩
    | false =>
     have HZ1:=zh (show Z=(D1,e1) from by
      rw [Hon.out]
      by_cases he:e1=0
      ·rw [if_neg (by simpa using he),he]
       have hgs:(Sat.get (logN (nm pre)) D1.files).isSome=false:=by simpa [he] using hgb
       exact rid1_no hgs
      ·rw [if_pos he])
     clear hgb
     go_wp2_with fail
     go_meet
     exact ⟨by rw [HZ1.out],by rw [HZ1.out];exact H7.out⟩
   case rest =>
    obtain ⟨rfl,h8⟩:=hcut
    have H8:=zh h8
    have Hwr:=zh (lrs_wrote h8 Z.2)
    clear h8 k0 k1 H7
    obtain ⟨D2,e2⟩:=Z
    dsimp only at *
    go_wp2_with fail
    refine Hwr.out.mono ?_
    rintro e w9 ⟨rfl,h9⟩
    by_cases he2:e2=0
    ·subst he2
     have h9:zAZ w1 l r pre Hot Cold w9 D2 M:=h9
     have H9:=zh h9
     obtain ⟨dv9,ev9,hcell9⟩:=h9.cellsD
     have HB9:=zh (hasB_keep Hb.out h9.chg Hno.out)
     have HE0:=zh (show ∀ W,zAZ w1 l r pre Hot Cold W D2 ⟨n,b,[],M.dead⟩→zCD w1 l r pre Hot Cold ZZ (.returned (.int .i64 0)) W from fun W h=>by
      rw [HZ.out,if_neg (by simp)]
      exact ⟨rfl,h⟩)
     have Hal:=zh (zAq w9 5)
     have Hxx:=zh (show zAY (w9.alloc (.cells #[] 5)) 1 (.slice pb m cb) m (zAN b) from by
      have h1:=HB9.out.below (zAb w9 (.cells #[] 5))
      unfold HasB at h1
      rwa [Hm.out] at h1)
     have Hc9:=zh hcell9
     clear h9 hcell9
     go_wp2_with (at_builtin;refine zAR _ rfl (.tmp 71) (.tmp 72) 22 rfl 5 i0 (.int .u8 0) 1 1 Tryz.underlying22 hi hz0 hz1 hz2 rfl (by decide) (.slice (some ⟨w9.heap.size,0,none⟩) 0 0) 0 [] rfl Hal.out (.slice pb m cb) m _ rfl Hxx.out (zAM _) (by unfold maxLen;omega) (by omega) ?_;intro v10 w10 hown hgrow hloc;go_loud (have HN:=zh (zDG Hm.out hown hgrow hloc);clear hgrow hloc;obtain ⟨p10,c10,rfl⟩:=OwnR.shape hown;clear hown;have HE:=zh (HE0.out _ (lrs_img (n:=n) H9.out HN.out.2.2 HN.out.1.has (fun k hk=>⟨HN.out.2.1 k hk,OwnR.lt HN.out.1 hk⟩) Hn40.out (by have:=Hm.out;omega)));have hc10:=(HN.out.2.2.block l (zAt Hc9.out)).trans Hc9.out;have s2:=zAC hc10 (i:=2) rfl;have s3:=zAC hc10 (i:=3) rfl;have s4:=zAC hc10 (i:=4) rfl;have f2:=zAI hc10 2;have f3:=zAI hc10 3;have f4:=zAI hc10 4;clear hc10))
     go_ret
     have hE:=HE.out
     rw [Nat.zero_add] at hE
     exact hE
    ·have hne:((e2:Int) != 0)=true:=by simp;omega
     have HE:=zh (show zCD w1 l r pre Hot Cold ZZ (.returned (.int .i64 (e2:Int))) w9 from by
      rw [HZ.out,if_pos he2]
      refine ⟨rfl,?_⟩
      have h9:=h9
      unfold LedM.dieIf at h9
      rwa [if_neg he2] at h9)
     clear he2 h9
     go_wp2_with fail
     go_ret
     exact HE.out
end
section
variable {w w1:World} {l d:Nat} {pre:ByteArray} {D D':zAA} {M:LedM} {F:Nat→Prop}
theorem led_disk0 {P:Program} {f:FuncId} {args:Array Value} (h:LedF w w1 l d pre D M F) (hx:∀ G,St w w1 d D G→Calls P f args w1 (Told0 w d G w1 D')) :
  Calls P f args w1 fun e w'=>e=.returned (.tuple #[])∧LedF w w' l d pre D' M F∧Same F w1 w':=by
 obtain ⟨own,dv,ev,vs,hL,hS,hn,hl⟩:=h
 refine (hx _ hS).mono ?_
 rintro e w' ⟨rfl,hS',hs⟩
 exact ⟨rfl,⟨own,dv,ev,vs,hL.keep (fun k hk=>hs k (.inl hk)) fun k hk=>hS'.flt (.inl hk),hS',hn,fun k hk=>hS'.flt (.inr hk)⟩,fun k hk=>hs k (.inr hk)⟩
theorem led_fuse (h:LedF w w1 l d pre D M F) (n:Int) (hn0:-9223372036854775808≤n) (hn:n≤9223372036854775807) :
  Calls Tryz.prog 40 #[.pointer (some ⟨d,0,none⟩),.int .i64 n] w1 fun e w'=>e=.returned (.tuple #[])∧LedF w w' l d pre (D.setFuse n) M F∧Same F w1 w' :=
 led_disk0 h fun _ hS=>st_fuse hS n hn0 hn
end
section
variable {w w1:World} {l d:Nat} {pre:ByteArray} {D:zAA} {M:LedM} {F:Nat→Prop}
end
section
variable {w w1 w2 w3:World} {l d:Nat} {pre:ByteArray} {D:zAA} {M:LedM} {F:Nat→Prop}
end
def zBZ (w w1:World) (d:Nat) (D:zAA) (r:Nat) (R:zAA) (F:Nat→Prop):Prop :=
 ∃ own v L,St w w1 d D (fun k=>own k∨F k)∧zAU w1 r v L own R∧(∀ k,own k→w.heap.size≤k∧¬ F k)∧∀ k,F k→k < w1.heap.size
section
variable {w w1 w2:World} {d:Nat} {D:zAA} {r:Nat} {R:zAA} {F F':Nat→Prop}
theorem zBZ.bel (h:zBZ w w1 d D r R F):Below w.heap.size w w1:=let ⟨_,_,_,hS,_⟩:=h;hS.below
theorem zBZ.okD (h:zBZ w w1 d D r R F):D.OK:=let ⟨_,_,_,hS,_⟩:=h;hS.ok
theorem zBZ.flt (h:zBZ w w1 d D r R F) {k:Nat} (hk:F k):k < w1.heap.size:=let ⟨_,_,_,_,_,_,hF⟩:=h;hF k hk
theorem zBZ.pair (h:zBZ w w1 d D r R F):Pair w w1 d D r R:=by
 obtain ⟨own,v,L,hS,hR,hn,-⟩:=h
 exact ⟨own,v,L,hS.less fun _ hk=>.inl hk,hR,fun k hk=>(hn k hk).1⟩
theorem Pair.apart (h:Pair w w1 d D r R):zBZ w w1 d D r R NoF:=by
 obtain ⟨own,v,L,hS,hR,hn⟩:=h
 exact ⟨own,v,L,hS.less fun _ hk=>hk.elim id fun h=>h.elim,hR,fun k hk=>⟨hn k hk,fun h=>h⟩,fun _ h=>h.elim⟩
theorem zBZ.move {S:Nat→Prop} (h:zBZ w w1 d D r R F) (hc:Chg S w1 w2) (hS:∀ k,k < w1.heap.size→S k→F k∧w.heap.size≤k) (hF:∀ k,F' k→(F k∨w1.heap.size≤k)∧k < w2.heap.size):zBZ w w2 d D r R F':=by
 obtain ⟨own,v,L,hSt,hR,hn,hl⟩:=h
 refine ⟨own,v,L,hSt.move hc (fun k hk hs=>⟨.inr (hS k hk hs).1,(hS k hk hs).2⟩) (fun k hk=>?_),hR.keep hc.size fun k hk=>hc.block k (hR.olt k hk) fun hs=>(hn k hk).2 (hS k (hR.olt k hk) hs).1,fun k hk=>⟨(hn k hk).1,fun hf=>?_⟩,fun k hk=>(hF k hk).2⟩
 ·rcases hk with hk | hk
  ·exact ⟨.inl (.inl hk),Nat.lt_of_lt_of_le (hR.olt k hk) hc.size⟩
  ·exact ⟨(hF k hk).1.imp .inr id,(hF k hk).2⟩
 ·rcases (hF k hf).1 with h | h
  ·exact (hn k hk).2 h
  ·have:=hR.olt k hk
   omega
theorem zBZ.next (h:zBZ w w1 d D r R F) (hb:Below w1.heap.size w1 w2):zBZ w w2 d D r R F :=
 h.move (Chg.of_below hb) (fun _ _ h=>h.elim) fun _ hk=>⟨.inl hk,Nat.lt_of_lt_of_le (h.flt hk) hb.size⟩
theorem zBZ.same (h:zBZ w w1 d D r R F) (hb:Below w1.heap.size w1 w2):Same F w1 w2:=fun _ hk=>hb.block _ (h.flt hk)
theorem zBZ.less (h:zBZ w w1 d D r R F) (hF:∀ k,F' k→F k):zBZ w w1 d D r R F' :=
 h.move (Chg.refl _ _:Chg (fun _=>False) w1 w1) (fun _ _ h=>h.elim) fun _ hk=>⟨.inl (hF _ hk),h.flt (hF _ hk)⟩
theorem zBZ.box (h:zBZ w w1 d D r R F) (o:Obj):zBZ w (w1.alloc o) d D r R (fun k=>F k∨k=w1.heap.size) :=
 h.move (Chg.of_below ((Below.refl _ _).alloc (Nat.le_refl _) o)) (fun _ _ h=>h.elim) fun k hk=>by
  rcases hk with hk | hk
  ·have:=h.flt hk
   exact ⟨.inl hk,by simp;omega⟩
  ·exact ⟨.inr (by omega),by simp;omega⟩
theorem pairf_disk0 {P:Program} {f:FuncId} {args:Array Value} {D':zAA} {wc:World} (h:zBZ w w1 d D r R F) (hb:Below w1.heap.size w1 wc) (hx:∀ G,St w w1 d D G→Calls P f args wc (Told0 w d G wc D')) :
  Calls P f args wc fun e w'=>e=.returned (.tuple #[])∧zBZ w w' d D' r R F∧Same F w1 w':=by
 obtain ⟨own,v,L,hS,hR,hn,hl⟩:=h
 refine (hx _ hS).mono ?_
 rintro e w' ⟨rfl,hS',hs⟩
 refine ⟨rfl,⟨own,v,L,hS',?_,hn,fun k hk=>hS'.flt (.inr hk)⟩,fun k hk=>(hs k (.inr hk)).trans (hb.block k (hl k hk))⟩
 exact zAU.same (hR.below hb) (hS'.less fun _ hk=>.inl hk) fun k hk=>hs k (.inl hk)
theorem zBZ.moved {w':World} {own own':Nat→Prop} {v':Value} {L':List zAF} {R':zAA} (hS:St w w1 d D (fun k=>own k∨F k)) (hn:∀ k,own k→w.heap.size≤k∧¬ F k) (hl:∀ k,F k→k < w1.heap.size) (hR':zAU w' r v' L' own' R') (hc:Chg own w1 w') (hx:∀ k,own' k→own k∨w1.heap.size≤k):zBZ w w' d D r R' F∧Same F w1 w':=by
 refine ⟨⟨own',v',L',hS.move hc (fun k _ hk=>⟨.inl hk,(hn k hk).1⟩) (fun k hk=>?_),hR',fun k hk=>?_,fun k hk=>Nat.lt_of_lt_of_le (hl k hk) hc.size⟩,fun k hk=>hc.block k (hl k hk) fun ho=>(hn k ho).2 hk⟩
 ·rcases hk with hk | hk
  ·exact ⟨(hx k hk).imp .inl id,hR'.olt k hk⟩
  ·exact ⟨.inl (.inr hk),Nat.lt_of_lt_of_le (hl k hk) hc.size⟩
 ·rcases hx k hk with h | h
  ·exact hn k h
  ·exact ⟨Nat.le_trans hS.below.size h,fun hf=>by have:=hl k hf;omega⟩
theorem pairf_rcrash (h:zBZ w w1 d D r R F) (n:Int) (hn0:-9223372036854775808≤n) (hn:n≤9223372036854775807) :
  Calls Tryz.prog 51 #[.pointer (some ⟨r,0,none⟩),.int .i64 n] w1 fun e w'=>e=.returned (.tuple #[])∧zBZ w w' d D r (R.crash n) F∧Same F w1 w':=by
 obtain ⟨own,v,L,hS,hR,hb,hl⟩:=h
 refine (rcrash_calls hR n hn0 hn).mono ?_
 rintro e w' ⟨rfl,own',v',L',hR',hc,hx⟩
 exact ⟨rfl,zBZ.moved hS hb hl hR' hc hx⟩
end
end Go.Proofs.YtapfnehdgailmaaGreat
