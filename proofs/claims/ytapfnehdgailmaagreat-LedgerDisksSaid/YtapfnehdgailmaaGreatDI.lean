/- The document's Decode (satrapyref2): the walk. The document's Scan (satrapyref2). The document's One (satrapyref2). The program's disk and the document's, side by side. The document's keep (satrapyref4): has, Load. The document's ledger (satrapyref14) in memory, over its disk. (Printed by mkrl1.py.) The contracts of octet's Reader, with the set of blocks in which its bytes lie. (Printed by mkx.py out of the texts Rdr, RdrN.) A journal (a plain model): its records, what a disk opens as, what each change leaves. What the records of a journal say when they are read again (plain laws). A journal in memory, its disk, and blocks (F) that neither has. journal: isTermOf, isGroup, isOne, own. (Printed by mkj1.py.) journal: isOne, own, may, Term, Base, mayVote, ended. (Printed by mkj2.py.) journal: own, may, Term, Base, Last, has, mayVote, ended. (Printed by mkj3.py.) journal: may, Term, Base, Last, has, mayVote, ended. (Printed by mkj4.py.) journal: At, TermAt, groupAt, Nodes, Snapshot. (Printed by mkj5.py.) -/
import Derived.Test.YtapfnehdgailmaaGreatDA
import Derived.Test.YtapfnehdgailmaaGreatDD
import Derived.Test.YtapfnehdgailmaaGreatDE
import Derived.Test.YtapfnehdgailmaaGreatDF
import Derived.Test.YtapfnehdgailmaaGreatDH
set_option maxRecDepth 100000
set_option maxHeartbeats 64000000
namespace Go.Proofs.YtapfnehdgailmaaGreat
open Go.RowKit Go.Sat Go.Maps
theorem zBb {P:Program} {f:FuncId} {args:Array Value} {w:World} {n:Nat} {v:Value} (h:Calls P f args (w.drewN n) fun e w'=>e=.returned v∧∃ q,w'=(w.drewN n).drewN q):Calls P f args (w.drewN n) fun e w''=>e=.returned v∧∃ m,w''=w.drewN m :=
 h.mono fun _ _ ⟨he,q,hq⟩=>⟨he,n+q,by rw [hq,World.drewN_drewN]⟩
theorem run_window {P:Program} (W:World) (t e:TypeId) (ht:P.underlying t=some (.slice e)) (hz:∀ w,(Go.sizeOf e).run P w=.ok 1 w) (b o len cap l h:Nat) (hlh:l≤h) (hh:h≤cap) (hl:l < cap) :
  (Instr.slice t (.slice (some ⟨b,o,none⟩) len cap) (some (.int .i64 (l:Int))) (some (.int .i64 (h:Int))) none).run P W=.ok (.slice (some ⟨b,o+l,none⟩) (h - l) (cap - l)) W:=by
 have ht':P.underlying t=some (.slice (P.elem t)):=by simp [Program.elem,ht]
 have he:P.elem t=e:=by simp [Program.elem,ht]
 rw [run_slice_lh W t _ _ _ ht' .i64 .i64 _ _ (by omega) (by omega) (by omega),he,hz]
 have hne:¬ cap=l:=by omega
 by_cases h0:l=0
 ·subst h0
  simp [Result.andThen,sliced,Addr.add,hne]
 ·simp [Result.andThen,sliced,Addr.add,hne,h0]
theorem zAW (w:World) (n:Nat):Below w.heap.size w (w.drewN n):=⟨rfl,rfl,rfl,Nat.le_refl _,fun _ _=>rfl⟩
theorem zB5 {w W:World} (h:Below w.heap.size w W) (n:Nat):Below w.heap.size w (W.drewN n):=h.trans ⟨rfl,rfl,rfl,Nat.le_refl _,fun _ _=>rfl⟩
theorem rdec_calls {w:World} {p:Option Addr} {n c:Nat} {b:Bs} (h:HasB w (.slice p n c) b) (hnc:n≤c) (hl:b.length≤140737488355328) :
  Calls Tryz.prog 165 #[.slice p n c] w (zCI w b):=by
 have hn:n=b.length:=(zBe h).1
 subst hn
 obtain ⟨i0,hi,hz0,hz1,hz2⟩:=info_parts (show (Tryz.prog.info? 5).map (fun i=>(i.zero,i.size,i.bytes))=some (some (.int .u8 0),1,1) by kernel_rfl)
 by_cases h8:b.length < 8
 ·have Hfin:=zh (zAw (w:=w) (w':=w) (b:=b) (k:=2) (by unfold decE;rw [if_pos h8]) (by decide) (Below.refl _ _))
  generalize hN:b.length=N at *
  clear hN h
  go_enter Tryz.func165,Tryz.ntmps165
  go_wp2_with fail
  go_ret3
  exact Hfin.out
 ·have hpos:0 < b.length:=by omega
  rcases h.at with e | ⟨g,o,c2,e,-⟩
  ·rw [e] at hpos
   simp at hpos
  cases e
  have H4:=zh (fun (W:World) (hb:Below w.heap.size w W)=>rfour_at (HasB.from (h.below hb) (k:=4) (by omega) (c - 4)) (by rw [List.length_drop];omega))
  have HS:=zh (fun (W:World) (hb:Below w.heap.size w W)=>rsum_calls (HasB.cut (h.below hb) (k:=4) (by omega) c) (by rw [List.length_take];omega))
  have hs1:∀ W,(Instr.slice 22 (.slice (some ⟨g,o,none⟩) b.length c) (some (.int .i64 4)) none none).run Tryz.prog W=.ok (.slice (some ⟨g,o+4,none⟩) (b.length - 4) (c - 4)) W:=fun W=>run_from W Tryz.underlying22 hi hz1 g o b.length c 4 (by omega) hnc (by omega)
  have hs2:∀ W,(Instr.slice 22 (.slice (some ⟨g,o,none⟩) b.length c) none (some (.int .i64 4)) none).run Tryz.prog W=.ok (.slice (some ⟨g,o,none⟩) 4 c) W:=fun W=>zB8 W Tryz.underlying22 hi _ _ c 4 (by omega)
  by_cases hh:fourAt (b.drop 4)=sumN (b.take 4)
  ·have hhead:=(head_iff (b:=b) (by omega)).2 hh
   have heq:((fourAt (b.drop 4):Int) != sumF (b.take 4))=false:=by rw [zCV];simp;omega
   have HF:=zh (fun (W:World) (hb:Below w.heap.size w W)=>rfour_at (h.below hb) (by omega))
   by_cases hm:1048576 < fourAt b
   ·have Hfin:=zh (fun W=>zAw (w:=w) (w':=W) (b:=b) (k:=5) (by unfold decE;rw [if_neg h8,if_neg (by simpa using hhead),if_pos hm]) (by decide))
    have hlt:=zB1 b
    generalize fourAt (b.drop 4)=x at *
    generalize sumF (b.take 4)=y at *
    generalize fourAt b=z at *
    generalize b.length=N at *
    clear h hh hhead
    go_enter Tryz.func165,Tryz.ntmps165
    go_wp2_with fail
    go_quiet ((first | (go_at_call 197;refine zBb (H4.out _ (zAW _ _))) | (go_at_call 184;refine Calls.quiet_of_same (HS.out _ (zAW _ _)))))
    go_wp2_with fail
    refine (HF.out _ (zAW _ _)).mono ?_
    rintro e w2 ⟨rfl,q2,rfl⟩
    go_wp2_with fail
    go_ret3
    exact Hfin.out _ (zAW _ _)
   ·by_cases hd:b.length < fourAt b+12
    ·have Hfin:=zh (fun W=>zAw (w:=w) (w':=W) (b:=b) (k:=2) (by unfold decE;rw [if_neg h8,if_neg (by simpa using hhead),if_neg hm,if_pos hd]) (by decide))
     have hlt:=zB1 b
     generalize fourAt (b.drop 4)=x at *
     generalize sumF (b.take 4)=y at *
     generalize fourAt b=z at *
     generalize b.length=N at *
     clear h hh hhead
     go_enter Tryz.func165,Tryz.ntmps165
     go_wp2_with fail
     go_quiet ((first | (go_at_call 197;refine zBb (H4.out _ (zAW _ _))) | (go_at_call 184;refine Calls.quiet_of_same (HS.out _ (zAW _ _)))))
     go_wp2_with fail
     refine (HF.out _ (zAW _ _)).mono ?_
     rintro e w2 ⟨rfl,q2,rfl⟩
     go_wp2_with fail
     go_ret3
     exact Hfin.out _ (zAW _ _)
    ·have hlt:=zB1 b
     have H8:=zh (fun (W:World) (hb:Below w.heap.size w W)=>rfour_at (HasB.from (h.below hb) (k:=8+fourAt b) (by omega) (c - (8+fourAt b))) (by rw [List.length_drop];omega))
     have HS8:=zh (fun (W:World) (hb:Below w.heap.size w W)=>rsum_calls (HasB.cut (h.below hb) (k:=8+fourAt b) (by omega) c) (by rw [List.length_take];omega))
     have HxW:=zh (show ∀ W,Below w.heap.size w W→zAX W 1 (.slice (some ⟨g,o+8,none⟩) (fourAt b) (c - 8)) (fourAt b) (zAR ((b.drop 8).take (fourAt b))) from fun W hb=>by
      have h2:=HasB.cut (HasB.from (h.below hb) (k:=8) (by omega) (c - 8)) (k:=fourAt b) (by rw [List.length_drop];omega) (c - 8)
      unfold HasB at h2
      rw [List.length_take,List.length_drop,Nat.min_eq_left (by omega)] at h2
      exact h2)
     have hs3:∀ W,(Instr.slice 22 (.slice (some ⟨g,o,none⟩) b.length c) (some (.int .i64 (8+(fourAt b:Int)))) none none).run Tryz.prog W=.ok (.slice (some ⟨g,o+(8+fourAt b),none⟩) (b.length - (8+fourAt b)) (c - (8+fourAt b))) W:=fun W=>by
      have:=run_from (P:=Tryz.prog) W Tryz.underlying22 hi hz1 g o b.length c (8+fourAt b) (by omega) hnc (by omega)
      rwa [show ((8+fourAt b:Nat):Int)=8+(fourAt b:Int) by omega] at this
     have hs4:∀ W,(Instr.slice 22 (.slice (some ⟨g,o,none⟩) b.length c) none (some (.int .i64 (8+(fourAt b:Int)))) none).run Tryz.prog W=.ok (.slice (some ⟨g,o,none⟩) (8+fourAt b) c) W:=fun W=>by
      have:=zB8 (P:=Tryz.prog) W Tryz.underlying22 hi (some ⟨g,o,none⟩) b.length c (8+fourAt b) (by omega)
      rwa [show ((8+fourAt b:Nat):Int)=8+(fourAt b:Int) by omega] at this
     have hs5:∀ W,(Instr.slice 22 (.slice (some ⟨g,o,none⟩) b.length c) (some (.int .i64 8)) (some (.int .i64 (8+(fourAt b:Int)))) none).run Tryz.prog W=.ok (.slice (some ⟨g,o+8,none⟩) (fourAt b) (c - 8)) W:=fun W=>by
      have:=run_window (P:=Tryz.prog) W 22 5 Tryz.underlying22 (fun w=>by simp [sizeOf,typeInfo,hi,hz1]) g o b.length c 8 (8+fourAt b) (by omega) (by omega) (by omega)
      rwa [show ((8+fourAt b:Nat):Int)=8+(fourAt b:Int) by omega,Nat.add_sub_cancel_left] at this
     have hwr:IntKind.i64.wrap (8+(fourAt b:Int))=8+(fourAt b:Int):=IntWalk.i64_in _ ⟨by omega,by omega⟩
     have hwr2:IntKind.i64.wrap (12+(fourAt b:Int))=12+(fourAt b:Int):=IntWalk.i64_in _ ⟨by omega,by omega⟩
     by_cases hs:fourAt (b.drop (8+fourAt b))=sumN (b.take (8+fourAt b))
     ·have hE:decE b=0:=by unfold decE;rw [if_neg h8,if_neg (by simpa using hhead),if_neg hm,if_neg hd,if_neg (by simpa using hs)]
      have Hfin:=zh (show ∀ v W,OwnR W 5 1 v (fourAt b) (zAR ((b.drop 8).take (fourAt b)))→(∀ k,v.ownBlock=some k→w.heap.size≤k)→Below w.heap.size w W→zCI w b (.returned (.tuple #[v,.int .i64 (12+(fourAt b:Int)),.int .i64 0])) W from fun v W ho hn hb =>
       ⟨v,by unfold decL;rw [hE,if_pos rfl,show ((fourAt b+12:Nat):Int)=12+(fourAt b:Int) by omega];rfl,by
        unfold decB
        rw [if_pos hE]
        unfold OwnB
        rw [List.length_take,List.length_drop,Nat.min_eq_left (by omega)]
        exact ho,hn,hb⟩)
      have heq2:((fourAt (b.drop (8+fourAt b)):Int) != sumF (b.take (8+fourAt b)))=false:=by rw [zCV];simp;omega
      generalize fourAt (b.drop (8+fourAt b))=x2 at *
      generalize sumF (b.take (8+fourAt b))=y2 at *
      generalize fourAt (b.drop 4)=x at *
      generalize sumF (b.take 4)=y at *
      generalize hz:fourAt b=z at *
      generalize b.length=N at *
      clear h hh hhead hs hE hz
      go_enter Tryz.func165,Tryz.ntmps165
      go_wp2_with fail
      go_quiet ((first | (go_at_call 197;refine zBb (H4.out _ (zAW _ _))) | (go_at_call 184;refine Calls.quiet_of_same (HS.out _ (zAW _ _)))))
      go_wp2_with fail
      refine (HF.out _ (zAW _ _)).mono ?_
      rintro e w2 ⟨rfl,q2,hq2⟩
      have HbX:=zh (show Below w.heap.size w w2 by rw [hq2];exact zB5 (zAW _ _) _)
      clear hq2
      go_wp2_with fail
      go_quiet ((first | (go_at_call 197;refine zBb (H8.out _ (zB5 HbX.out _))) | (go_at_call 184;refine Calls.quiet_of_same (HS8.out _ (zB5 HbX.out _)))))
      have HbY:=zh (zB5 HbX.out nq)
      generalize w2.drewN nq=w5 at *
      have HbZ:=zh (HbY.out.alloc HbY.out.size (.cells #[] 5))
      go_wp2_with (at_builtin;refine zAf (w5.alloc (.cells #[] 5)) rfl (.tmp 37) (.tmp 41) 22 rfl 5 i0 (.int .u8 0) 1 1 Tryz.underlying22 hi hz0 hz1 hz2 rfl (by decide) (.slice (some ⟨w5.heap.size,0,none⟩) 0 0) 0 [] rfl (zBG w5 _) (.slice (some ⟨g,o+8,none⟩) z (c - 8)) z _ rfl (HxW.out _ HbZ.out) (zAY _) (by unfold maxLen;omega) (by omega) ?_;intro v12 w12 hown12 hgrow12 hloc12;rw [Nat.zero_add,List.nil_append] at hown12;have hX:=HbZ.out.grown hgrow12 HbZ.out.size (fun j e=>by have:=HbY.out.size;simp [Value.ownBlock] at e;omega);have hnew:=zAn (B:=w.heap.size) hloc12 (fun k hk=>by have:=HbY.out.size;simp [Value.ownBlock] at hk;omega) HbZ.out.size;have X12:=zh (And.intro hX (And.intro hown12 hnew));clear hown12 hgrow12 hloc12 hX hnew)
      go_ret3
      exact Hfin.out _ _ X12.out.2.1 X12.out.2.2 X12.out.1
     ·have Hfin:=zh (fun W=>zAw (w:=w) (w':=W) (b:=b) (k:=4) (by unfold decE;rw [if_neg h8,if_neg (by simpa using hhead),if_neg hm,if_neg hd,if_pos hs]) (by decide))
      have heq2:((fourAt (b.drop (8+fourAt b)):Int) != sumF (b.take (8+fourAt b)))=true:=by rw [zCV];simp;omega
      generalize fourAt (b.drop (8+fourAt b))=x2 at *
      generalize sumF (b.take (8+fourAt b))=y2 at *
      generalize fourAt (b.drop 4)=x at *
      generalize sumF (b.take 4)=y at *
      generalize fourAt b=z at *
      generalize b.length=N at *
      clear h hh hhead hs
      go_enter Tryz.func165,Tryz.ntmps165
      go_wp2_with fail
      go_quiet ((first | (go_at_call 197;refine zBb (H4.out _ (zAW _ _))) | (go_at_call 184;refine Calls.quiet_of_same (HS.out _ (zAW _ _)))))
      go_wp2_with fail
      refine (HF.out _ (zAW _ _)).mono ?_
      rintro e w2 ⟨rfl,q2,hq2⟩
      have HbX:=zh (show Below w.heap.size w w2 by rw [hq2];exact zB5 (zAW _ _) _)
      clear hq2
      go_wp2_with fail
      go_quiet ((first | (go_at_call 197;refine zBb (H8.out _ (zB5 HbX.out _))) | (go_at_call 184;refine Calls.quiet_of_same (HS8.out _ (zB5 HbX.out _)))))
      go_wp2_with fail
      go_ret3
      exact Hfin.out _ (zB5 HbX.out _)
  ·have Hfin:=zh (fun W=>zAw (w:=w) (w':=W) (b:=b) (k:=4) (by unfold decE;rw [if_neg h8,if_pos (fun e=>hh ((head_iff (by omega)).1 e))]) (by decide))
   have hne:((fourAt (b.drop 4):Int) != sumF (b.take 4))=true:=by rw [zCV];simp;omega
   generalize fourAt (b.drop 4)=x at *
   generalize sumF (b.take 4)=y at *
   generalize b.length=N at *
   clear h hh
   go_enter Tryz.func165,Tryz.ntmps165
   go_wp2_with fail
   go_quiet ((first | (go_at_call 197;refine zBb (H4.out _ (zAW _ _))) | (go_at_call 184;refine Calls.quiet_of_same (HS.out _ (zAW _ _)))))
   go_wp2
   go_ret3
   exact Hfin.out _ (zAW _ _)
theorem rscan_calls {w:World} {p:Option Addr} {n c:Nat} {b:Bs} (h:HasB w (.slice p n c) b) (hnc:n≤c) (hl:b.length≤1073741824) :
  Calls Tryz.prog 88 #[.slice p n c] w (Scanned w b):=by
 obtain ⟨i1,hi1,-,hs1,-⟩:=info_parts (show (Tryz.prog.info? 5).map (fun i=>(i.zero,i.size,i.bytes))=some (some (.int .u8 0),1,1) by kernel_rfl)
 obtain ⟨i0,hi,hz0,hz1,hz2⟩:=info_parts (show (Tryz.prog.info? 22).map (fun i=>(i.zero,i.size,i.bytes))=some (some (.slice none 0 0),1,24) by kernel_rfl)
 have hn:b.length=n:=by obtain ⟨_,_,e⟩:=h.slice;simp only [Value.slice.injEq] at e;exact e.2.1.symm
 have hn30:n≤1073741824:=by omega
 have H:=zh h
 have Hn:=zh hn
 have Hnc:=zh hnc
 clear h hn hnc hl
 go_enter Tryz.func88,Tryz.ntmps88
 go_wp2_with fail
 go_loopw [4,5] (ScanRel w b n) (fun _ y _=>n - (intOf y).toNat)
 case atStart=>exact ⟨0,_,[],[],Nat.zero_le _,rfl,rfl,Nat.zero_le _,zAz.nil _,⟨fun k hk=>(by cases hk),fun u hu=>(by simp at hu)⟩,Below.refl _ _,by simp,by simp⟩
 case round =>
  obtain ⟨k,v,vs,ls,hk,rfl,rfl,hlk,hrow,hnew,hb,hsc1,hsc2⟩:=hrel
  by_cases hlt:k < n
  ·obtain ⟨r0,hr0⟩:∃ r0,(Value.slice p n c).ownBlock≠some r0:=by
    cases (Value.slice p n c).ownBlock with
    | none=>exact ⟨0,by simp⟩
    | some g=>exact ⟨g+1,by simp⟩
   obtain ⟨p',c',hsl,hh,hc',-⟩:=zDJ (P:=Tryz.prog) Tryz.underlying22 hi1 hs1 (HasB.below H.out hb) Hnc.out r0 k hr0 (Nat.le_of_lt hlt)
   have Hd:=zh (rdec_calls hh hc' (by rw [List.length_drop,Hn.out];omega))
   have Hx:=zh (And.intro hrow (And.intro hnew (And.intro hb (And.intro hsc1 hsc2))))
   have hbl:(b.drop k).length=n - k:=by rw [List.length_drop,Hn.out]
   clear hh hc' hrow hnew hb hsc1 hsc2
   by_cases he:decE (b.drop k)=0
   ·have hL:=zCj he
    rw [hbl] at hL
    have Hgo:=zh (scan_go he)
    rw [List.drop_drop] at Hgo
    unfold zCI at Hd
    rw [he] at Hd
    generalize decL (b.drop k)=L at *
    generalize decB (b.drop k)=x at *
    clear he
    go_wp2_with fail
    refine Hd.out.mono ?_
    rintro e w2 ⟨v2,rfl,hv2,hn2,hb2⟩
    have hrow2:=Hx.out.1.below hb2
    have Hv2:=zh hv2
    have Hsep:=zh (show ∀ j,v2.ownBlock=some j→v.ownBlock≠some j from fun j hj e=>by have h1:=hn2 j hj;have h2:=OwnR.lt Hx.out.1.row e;omega)
    have Hn2:=zh (show ∀ j,v2.ownBlock=some j→w.heap.size≤j from fun j hj=>Nat.le_trans Hx.out.2.2.1.size (hn2 j hj))
    have Hb2:=zh hb2
    have Hr2:=zh hrow2
    obtain ⟨p2,c2,rfl,-⟩:=zAb hv2
    clear hv2 hn2 hb2 hrow2 Hd
    generalize hq:x.length=q at *
    have Hq:=zh hq
    generalize hm:ls.length=m at *
    have Hm:=zh hm
    clear hq hm
    have Hrow2:=zh (show OwnR w2 22 1 v m vs by have:=Hr2.out.row;rwa [Hm.out] at this)
    go_wp2_with (at_builtin;have hal:=Hrow2.out.keep (w':=w2.alloc (.cells #[.slice p2 q c2] 22)) (fun j hj=>(zAF w2 _).block j (OwnR.lt Hrow2.out hj));have hxx:=zBN w2 (.slice p2 q c2) 22 (0,0);refine zAf _ rfl (.tmp 23) (.tmp 25) 108 rfl 22 i0 (.slice none 0 0) 1 24 Tryz.underlying108 hi hz0 hz1 hz2 rfl (by decide) v m _ rfl hal (.slice (some ⟨w2.heap.size,0,none⟩) 1 1) 1 _ rfl hxx (by simp [Value.oneCell']) (by unfold maxLen;omega) (by omega) ?_;clear hal hxx;intro v3 w3 hown3 hgrow3 hloc3;go_loud (have hE:=zAz.push (b:=x) (Hr2.out.below (zAF w2 (.cells #[.slice p2 q c2] 22))) (OwnR.keep Hv2.out fun j hj=>(zAF w2 _).block j (OwnR.lt Hv2.out hj)) Hsep.out (by rw [Hm.out];exact hown3) hgrow3 hloc3;have hN:=zCK.push (u:=.slice p2 q c2) Hx.out.2.1 Hn2.out hloc3 (by have h1:=Hx.out.2.2.1.size;have h2:=Hb2.out.size;have h3:=(zAF w2 (.cells #[.slice p2 q c2] 22)).size;omega);have hB:Below w.heap.size w w3:=by { have h1:=Hx.out.2.2.1.trans ((Hb2.out.trans ((zAF w2 (.cells #[.slice p2 q c2] 22)).mono Hb2.out.size)).mono Hx.out.2.2.1.size);exact ((Chg.of_below h1).trans (Chg.of_grown hgrow3) fun j hj e=>by have h5:=Hx.out.2.1.1 j e.symm;omega).below (Nat.le_refl _) fun _ _=>id };have HE:=zh (And.intro hE (And.intro hN hB));clear hE hN hB hgrow3 hloc3;obtain ⟨p3,q3,rfl⟩:=OwnR.shape hown3;clear hown3))
    go_roundw
    case rel=>exact ⟨k+L,_,_,ls ++ [x],by omega,by go_num,rfl,by rw [List.length_append,Hm.out];simp;omega,HE.out.1,HE.out.2.1,HE.out.2.2,by rw [Hx.out.2.2.2.1,Hgo.out];simp,by rw [Hx.out.2.2.2.2,Hgo.out];simp;omega⟩
    case measure=>simp [intOf];omega
   ·have Hst:=zh (zBX (.inr he))
    have hne:((decE (b.drop k):Int) != 0)=true:=by simp;omega
    unfold zCI at Hd
    generalize decE (b.drop k)=E at *
    generalize decL (b.drop k)=L at *
    go_wp2_with fail
    refine Hd.out.mono ?_
    rintro e w2 ⟨v2,rfl,-,-,hb2⟩
    have HE:=zh (show Scanned w b (.returned (.tuple #[v,.int .i64 (k:Int)])) w2 from ⟨v,vs,by rw [Hx.out.2.2.2.2,Hst.out];rfl,by rw [Hx.out.2.2.2.1,Hst.out,List.append_nil];exact Hx.out.1.below hb2,Hx.out.2.1,Hx.out.2.2.1.trans (hb2.mono Hx.out.2.2.1.size)⟩)
    clear hb2 Hd
    go_wp2_with fail
    go_ret2
    exact HE.out
  ·have he:b.drop k=[]:=List.drop_of_length_le (by rw [Hn.out];omega)
   rw [he,zBX (.inl rfl)] at hsc1 hsc2
   have HE:=zh (show Scanned w b (.returned (.tuple #[v,.int .i64 (k:Int)])) wr from ⟨v,vs,by rw [hsc2];rfl,by rw [hsc1,List.append_nil];exact hrow,hnew,hb⟩)
   clear hrow hnew hb hsc1 hsc2 he
   go_wp2_with fail
   go_ret2
   exact HE.out
theorem rone_calls {w:World} {p:Option Addr} {n c:Nat} {b:Bs} (h:HasB w (.slice p n c) b) (hnc:n≤c) (hl:b.length≤140737488355328) :
  Calls Tryz.prog 162 #[.slice p n c] w (OneOf w b):=by
 have hn:n=b.length:=(zBe h).1
 subst hn
 have Hd:=zh (rdec_calls h hnc hl)
 have hdl:decL b≤4294967307:=by
  have:=zB1 b
  unfold decL
  split <;> omega
 clear h
 go_enter Tryz.func162,Tryz.ntmps162
 go_wp2_with fail
 refine Hd.out.mono ?_
 rintro e w1 ⟨v,rfl,hv,hn1,hb1⟩
 by_cases he:decE b=0
 ·by_cases hL:decL b=b.length
  ·have hE:oneE b=0:=by unfold oneE;rw [if_pos he,if_pos hL]
   have Hfin:=zh (show OneOf w b (.returned (.tuple #[v,.int .i64 0])) w1 from ⟨v,by rw [hE];rfl,by unfold oneB;rw [if_pos hE];exact hv,hn1,hb1⟩)
   rw [he,hL]
   generalize b.length=N at *
   clear hv hn1 hb1 he hL hE hdl
   go_wp2_with fail
   go_ret2
   exact Hfin.out
  ·have Hfin:=zh (one_nil (w:=w) (w':=w1) (b:=b) (k:=3) (by unfold oneE;rw [if_pos he,if_neg hL]) (by decide) hb1)
   have hne:((decL b:Int) != (b.length:Int))=true:=by
    simp only [bne_iff_ne,ne_eq,Int.natCast_inj]
    exact hL
   rw [he]
   generalize decL b=M at *
   generalize b.length=N at *
   clear hv hn1 hb1 he hL
   go_wp2_with fail
   go_ret2
   exact Hfin.out
 ·have hE:oneE b=decE b:=by unfold oneE;rw [if_neg he]
  have Hfin:=zh (one_nil (w:=w) (w':=w1) (b:=b) (k:=decE b) hE he hb1)
  have hne:((decE b:Int) == 0)=false:=by simp;omega
  have hne2:((decE b:Int) != 0)=true:=by simp;omega
  generalize decE b=E at *
  generalize decL b=M at *
  generalize b.length=N at *
  clear hv hn1 hb1 hE
  go_wp2_with fail
  go_ret2
  exact Hfin.out
def Pair (w w1:World) (d:Nat) (D:zAA) (r:Nat) (R:zAA):Prop:=∃ own v L,St w w1 d D own∧zAS w1 r v L own R∧∀ k,own k→w.heap.size≤k
section
variable {w w1:World} {d:Nat} {D:zAA} {r:Nat} {R:zAA}
theorem Pair.bel (h:Pair w w1 d D r R):Below w.heap.size w w1:=let ⟨_,_,_,hS,_,_⟩:=h;hS.below
theorem Pair.okD (h:Pair w w1 d D r R):D.OK:=let ⟨_,_,_,hS,_,_⟩:=h;hS.ok
theorem Pair.next (h:Pair w w1 d D r R) {w2:World} (hb:Below w1.heap.size w1 w2):Pair w w2 d D r R:=by
 obtain ⟨own,v,L,hS,hR,hn⟩:=h
 exact ⟨own,v,L,hS.next hb,hR.below hb,hn⟩
theorem Pair.alloc (h:Pair w w1 d D r R) (o:Obj):Pair w (w1.alloc o) d D r R:=h.next ((Below.refl _ _).alloc (Nat.le_refl _) o)
theorem Pair.drewN (h:Pair w w1 d D r R) (n:Nat):Pair w (w1.drewN n) d D r R:=h.next ⟨rfl,rfl,rfl,Nat.le_refl _,fun _ _=>rfl⟩
theorem zAS.same {w2:World} {own:Nat→Prop} {v:Value} {L:List zAH} (h:zAS w1 r v L own R) (hS:St w w2 d D own) (hs:Same own w1 w2):zAS w2 r v L own R where
 cells:=(hs r h.or).trans h.cells
 row:=h.row.keep fun k hk=>hs k (h.ov k hk).1
 files:=h.files
 data:=fun x hx=>OwnR.keep (h.data x hx) fun k hk=>hs k (h.ob x hx k hk).1
 or:=h.or
 ov:=h.ov
 ob:=h.ob
 olt:=fun _ hk=>hS.flt hk
 ok:=h.ok
theorem pair_disk {P:Program} {f:FuncId} {args:Array Value} {Re:zAA × Nat} (h:Pair w w1 d D r R) (hx:∀ own,St w w1 d D own→Calls P f args w1 (Told w d own w1 Re)) :
  Calls P f args w1 fun e w'=>e=.returned (.int .i64 (Re.2:Int))∧Pair w w' d Re.1 r R:=by
 obtain ⟨own,v,L,hS,hR,hn⟩:=h
 refine (hx own hS).mono ?_
 rintro e w' ⟨rfl,hS',hs⟩
 exact ⟨rfl,own,v,L,hS',hR.same hS' hs,hn⟩
theorem Pair.moved {w':World} {own own':Nat→Prop} {v':Value} {L':List zAH} {R':zAA} (hS:St w w1 d D own) (hn:∀ k,own k→w.heap.size≤k) (hR':zAS w' r v' L' own' R') (hc:Chg own w1 w') (hx:∀ k,own' k→own k∨w1.heap.size≤k):Pair w w' d D r R':=by
 refine ⟨own',v',L',hS.move hc (fun k _ hk=>⟨hk,hn k hk⟩) (fun k hk=>⟨hx k hk,hR'.olt k hk⟩),hR',fun k hk=>?_⟩
 rcases hx k hk with h | h
 ·exact hn k h
 ·exact Nat.le_trans hS.below.size h
theorem pair_ref {P:Program} {f:FuncId} {args:Array Value} {Re:zAA × Nat} (h:Pair w w1 d D r R) (hx:∀ own v L,zAS w1 r v L own R→(∀ k,own k→w.heap.size≤k)→Calls P f args w1 (zCu w1 r own Re)) :
  Calls P f args w1 fun e w'=>e=.returned (.int .i64 (Re.2:Int))∧Pair w w' d D r Re.1:=by
 obtain ⟨own,v,L,hS,hR,hn⟩:=h
 refine (hx own v L hR hn).mono ?_
 rintro e w' ⟨rfl,own',⟨v',L',hR'⟩,hc,hext⟩
 exact ⟨rfl,Pair.moved hS hn hR' hc hext⟩
theorem pair_new (h:St w w1 d D NoF) (n:Int) (h0:0≤n) (h1:n≤1073741824) :
  Calls Tryz.prog 14 #[.int .i64 n] w1 fun e w'=>∃ r,e=.returned (.tuple #[.pointer (some ⟨r,0,none⟩),.int .i64 0])∧Pair w w' d D r (zAA.fresh n.toNat):=by
 refine (rnew_calls w1 n h0 h1).mono ?_
 rintro e w' ⟨r,rfl,hR,hb,hr⟩
 have hc:Chg NoF w1 w':=(Chg.of_below hb).mono fun _ _ h=>h
 exact ⟨r,rfl,_,_,_,h.move hc (fun _ _ h=>h.elim) (fun k hk=>⟨.inr (by rw [hk];exact hr),hR.olt k hk⟩),hR,fun k hk=>by rw [hk];exact Nat.le_trans h.below.size hr⟩
end
section
variable {w:World} {r:Nat} {v:Value} {L:List zAH} {own:Nat→Prop} {D:zAA}
def RGotL (w:World) (o:Option zAN) (e:Ending) (w':World):Prop :=
 ∃ v,e=.returned (.tuple #[v,.int .i64 (loadE o:Int)])∧OwnB w' 5 v (zBJ o)∧(∀ k,v.ownBlock=some k→w.heap.size≤k)∧Below w.heap.size w w'
theorem rload_calls (h:zAS w r v L own D) (s:ByteArray) :
  Calls Tryz.prog 83 #[.pointer (some ⟨r,0,none⟩),.string s] w (RGotL w (Sat.get (nm s) D.files)):=by
 have hln:=zCN h.ok (nm s)
 have H:=zh (zB2 h s)
 clear h
 cases hg:Sat.get (nm s) D.files with
 | none =>
  rw [hg] at H
  clear hln
  go_enter Tryz.func83,Tryz.ntmps83
  go_wp2_with fail
  refine H.out.mono ?_
  rintro e w2 ⟨v,rfl,-,-,hb⟩
  have Hf:=zh (show RGotL w none (.returned (.tuple #[.slice none 0 0,.int .i64 7])) w2 from ⟨.slice none 0 0,by rw [zCm];rfl,by rw [zCl];exact OwnR.nil _ _ _,fun k hk=>(by cases hk),hb⟩)
  clear hb
  go_wp2_with fail
  go_ret2
  exact Hf.out
 | some f =>
  rw [hg] at H hln
  go_enter Tryz.func83,Tryz.ntmps83
  go_wp2_with fail
  refine H.out.mono ?_
  rintro e w2 ⟨v,rfl,hv,-,hb⟩
  obtain ⟨p,c,rfl,hnc⟩:=zAt hv
  have H1:=zh (rone_calls hv.has hnc (by omega))
  have Hb:=zh hb
  have hE:=zCn f
  have hB:=zCD f
  generalize zBz (some f)=b at *
  generalize hN:b.length=N at *
  clear hv hb hnc hln
  go_wp2_with fail
  refine H1.out.mono ?_
  rintro e w3 ⟨v,rfl,hv,hn,hb3⟩
  have hb4:=Hb.out.trans (hb3.mono Hb.out.size)
  by_cases he:oneE b=0
  ·have Hf:=zh (show RGotL w (some f) (.returned (.tuple #[v,.int .i64 0])) w3 from ⟨v,by rw [hE,if_pos he];rfl,by rw [hB];exact hv,fun k hk=>Nat.le_trans Hb.out.size (hn k hk),hb4⟩)
   rw [he]
   clear hv hn hb3 hb4
   go_wp2_with fail
   go_ret2
   exact Hf.out
  ·have Hf:=zh (show RGotL w (some f) (.returned (.tuple #[.slice none 0 0,.int .i64 3])) w3 from ⟨.slice none 0 0,by rw [hE,if_neg he];rfl,by rw [hB];unfold oneB;rw [if_neg he];exact OwnR.nil _ _ _,fun k hk=>(by cases hk),hb4⟩)
   have hne:((oneE b:Int) != 0)=true:=by simp;omega
   generalize oneE b=E at *
   clear hv hn hb3 hb4
   go_wp2_with fail
   go_ret2
   exact Hf.out
end
abbrev LRC (r:Nat) (pre:ByteArray) (n:Int) (dv ev:Value) (dead:Bool):Obj:=.cells #[.pointer (some ⟨r,0,none⟩),.string pre,.int .i64 n,dv,ev,.bool dead] 110 (0,0)
structure LRIn (w:World) (l r:Nat) (pre:ByteArray) (O C:Nat→Prop) (M:LedM) (dv ev:Value) (vs:List Value):Prop where
 cells:w.heap[l]?=some (LRC r pre (M.base:Int) dv ev M.dead)
 data:HasB w dv M.data
 row:OwnR w 22 1 ev M.entries.length vs
 rows:∀ (i:Nat) b v,M.entries[i]?=some b→vs[i]?=some v→HasB w v b
 oj:O l
 oe:∀ k,ev.ownBlock=some k→O k∧k≠l
 cd:∀ k,dv.ownBlock=some k→C k
 cv:∀ u ∈ vs,∀ k,u.ownBlock=some k→C k
 dis:∀ k,C k→¬ O k
 olt:∀ k,O k→k < w.heap.size
 clt:∀ k,C k→k < w.heap.size
 psz:1≤pre.size∧pre.size≤20
 last:M.last≤1099511627776
 big:M.data.length≤1073741824∧∀ b ∈ M.entries,b.length≤1073741824
section
variable {w w':World} {l r:Nat} {pre:ByteArray} {O C:Nat→Prop} {M:LedM} {dv ev:Value} {vs:List Value}
theorem LRIn.rlen (h:LRIn w l r pre O C M dv ev vs):vs.length=M.entries.length:=by have:=h.row.1;omega
theorem LRIn.keep (h:LRIn w l r pre O C M dv ev vs) (hs:∀ k,O k∨C k→w'.heap[k]?=w.heap[k]?) (hl:∀ k,O k∨C k→k < w'.heap.size):LRIn w' l r pre O C M dv ev vs where
 cells:=(hs l (.inl h.oj)).trans h.cells
 data:=zAX.keep h.data fun k hk=>hs k (.inr (h.cd k hk))
 row:=h.row.keep fun k hk=>hs k (.inl (h.oe k hk).1)
 rows:=fun i e v he hv=>zAX.keep (h.rows i e v he hv) fun k hk=>hs k (.inr (h.cv v (List.mem_of_getElem? hv) k hk))
 oj:=h.oj
 oe:=h.oe
 cd:=h.cd
 cv:=h.cv
 dis:=h.dis
 olt:=fun k hk=>hl k (.inl hk)
 clt:=fun k hk=>hl k (.inr hk)
 psz:=h.psz
 last:=h.last
 big:=h.big
theorem LRIn.below (h:LRIn w l r pre O C M dv ev vs) (hb:Below w.heap.size w w'):LRIn w' l r pre O C M dv ev vs :=
 h.keep (fun k hk=>hb.block k (hk.elim (h.olt k) (h.clt k))) fun k hk=>Nat.lt_of_lt_of_le (hk.elim (h.olt k) (h.clt k)) hb.size
theorem LRIn.chg {S:Nat→Prop} (h:LRIn w l r pre O C M dv ev vs) (hc:Chg S w w') (hS:∀ k,S k→¬ O k∧¬ C k):LRIn w' l r pre O C M dv ev vs :=
 h.keep (fun k hk=>hc.block k (hk.elim (h.olt k) (h.clt k)) fun s=>hk.elim (hS k s).1 (hS k s).2) fun k hk=>Nat.lt_of_lt_of_le (hk.elim (h.olt k) (h.clt k)) hc.size
theorem LRIn.c (h:LRIn w l r pre O C M dv ev vs) (i:Nat) {v:Value} (hi:(#[.pointer (some ⟨r,0,none⟩),.string pre,.int .i64 (M.base:Int),dv,ev,.bool M.dead]:Array Value)[i]?=some v):w.cell? ⟨l,i,none⟩=some v:=zAC h.cells hi
theorem LRIn.fr (h:LRIn w l r pre O C M dv ev vs) (i:Nat):w.frozen? ⟨l,i,none⟩=false:=zAK h.cells i
end
def LRF (w1:World) (l r:Nat) (pre:ByteArray) (D:zAA) (M:LedM) (Hot Cold:Nat→Prop):Prop :=
 ∃ O own dv ev vs v L,LRIn w1 l r pre O Cold M dv ev vs∧zAS w1 r v L own D∧(∀ k,O k→¬ own k)∧(∀ k,Cold k→¬ own k)∧∀ k,Hot k ↔ O k∨own k
section
variable {w1 w2:World} {l r:Nat} {pre:ByteArray} {D:zAA} {M:LedM} {Hot Cold:Nat→Prop}
theorem LRF.okD (h:LRF w1 l r pre D M Hot Cold):D.OK:=let ⟨_,_,_,_,_,_,_,_,hR,_⟩:=h;hR.ok
theorem LRF.hlt (h:LRF w1 l r pre D M Hot Cold) {k:Nat} (hk:Hot k):k < w1.heap.size:=by
 obtain ⟨_,_,_,_,_,_,_,hJ,hR,_,_,hH⟩:=h
 exact ((hH k).1 hk).elim (hJ.olt k) (hR.olt k)
theorem LRF.clt (h:LRF w1 l r pre D M Hot Cold) {k:Nat} (hk:Cold k):k < w1.heap.size:=let ⟨_,_,_,_,_,_,_,hJ,_⟩:=h;hJ.clt k hk
theorem LRF.dis (h:LRF w1 l r pre D M Hot Cold) {k:Nat} (hk:Cold k):¬ Hot k:=by
 obtain ⟨_,_,_,_,_,_,_,hJ,hR,_,hC,hH⟩:=h
 exact fun hh=>((hH k).1 hh).elim (hJ.dis k hk) (hC k hk)
theorem LRF.psz (h:LRF w1 l r pre D M Hot Cold):1≤pre.size∧pre.size≤20:=let ⟨_,_,_,_,_,_,_,hJ,_⟩:=h;hJ.psz
theorem LRF.chg {S:Nat→Prop} (h:LRF w1 l r pre D M Hot Cold) (hc:Chg S w1 w2) (hS:∀ k,S k→¬ Hot k∧¬ Cold k):LRF w2 l r pre D M Hot Cold:=by
 obtain ⟨O,own,dv,ev,vs,v,L,hJ,hR,hO,hC,hH⟩:=h
 exact ⟨O,own,dv,ev,vs,v,L,hJ.chg hc fun k s=>⟨fun o=>(hS k s).1 ((hH k).2 (.inl o)),(hS k s).2⟩,hR.keep hc.size (fun k hk=>hc.block k (hR.olt k hk) fun s=>(hS k s).1 ((hH k).2 (.inr hk))),hO,hC,hH⟩
theorem LRF.below (h:LRF w1 l r pre D M Hot Cold) (hb:Below w1.heap.size w1 w2):LRF w2 l r pre D M Hot Cold:=h.chg (Chg.of_below hb) fun _ s=>s.elim
theorem LRF.drewN (h:LRF w1 l r pre D M Hot Cold) (q:Nat):LRF (w1.drewN q) l r pre D M Hot Cold:=h.below ⟨rfl,rfl,rfl,Nat.le_refl _,fun _ _=>rfl⟩
def zBZ (w0:World) (l r:Nat) (pre:ByteArray) (Hot0 Cold0:Nat→Prop) (w1:World) (D:zAA) (M:LedM):Prop :=
 ∃ Hot Cold,LRF w1 l r pre D M Hot Cold∧Chg Hot0 w0 w1∧(∀ k,Hot k→Hot0 k∨w0.heap.size≤k)∧∀ k,Cold k→Cold0 k∨w0.heap.size≤k
end
section
variable {w0 w1 w2:World} {l r:Nat} {pre:ByteArray} {D D2:zAA} {M M2:LedM} {Hot Cold Hot1 Cold1:Nat→Prop}
theorem LRF.step (h:LRF w1 l r pre D M Hot Cold):zBZ w1 l r pre Hot Cold w1 D M:=⟨Hot,Cold,h,Chg.refl _ _,fun _ h=>.inl h,fun _ h=>.inl h⟩
theorem LRF.stepB (h:LRF w1 l r pre D M Hot Cold) (hb:Below w1.heap.size w1 w2):zBZ w1 l r pre Hot Cold w2 D M:=⟨Hot,Cold,h.below hb,(Chg.of_below hb).mono fun _ _ h=>h.elim,fun _ h=>.inl h,fun _ h=>.inl h⟩
theorem zBZ.comp (hc:Chg Hot w0 w1) (hh:∀ k,Hot1 k→Hot k∨w0.heap.size≤k) (hco:∀ k,Cold1 k→Cold k∨w0.heap.size≤k) (h2:zBZ w1 l r pre Hot1 Cold1 w2 D2 M2):zBZ w0 l r pre Hot Cold w2 D2 M2:=by
 obtain ⟨Hot2,Cold2,hF2,hc2,hh2,hco2⟩:=h2
 refine ⟨Hot2,Cold2,hF2,hc.trans hc2 fun k hk hs=>(hh k hs).resolve_right (by omega),fun k hk=>?_,fun k hk=>?_⟩
 ·rcases hh2 k hk with h | h
  ·exact hh k h
  ·exact .inr (Nat.le_trans hc.size h)
 ·rcases hco2 k hk with h | h
  ·exact hco k h
  ·exact .inr (Nat.le_trans hc.size h)
theorem zBZ.trans (h:zBZ w0 l r pre Hot Cold w1 D M) (hx:∀ Hot1 Cold1,LRF w1 l r pre D M Hot1 Cold1→zBZ w1 l r pre Hot1 Cold1 w2 D2 M2):zBZ w0 l r pre Hot Cold w2 D2 M2:=by
 obtain ⟨Hot1,Cold1,hF,hc,hh,hco⟩:=h
 exact zBZ.comp hc hh hco (hx _ _ hF)
theorem zBZ.next (h:zBZ w0 l r pre Hot Cold w1 D M) (hb:Below w1.heap.size w1 w2):zBZ w0 l r pre Hot Cold w2 D M:=h.trans fun _ _ hF=>hF.stepB hb
theorem zBZ.since (h:zBZ w1 l r pre Hot Cold w2 D M) (hb:Below w0.heap.size w0 w1):zBZ w0 l r pre Hot Cold w2 D M:=by
 obtain ⟨Hot1,Cold1,hF,hc,hh,hco⟩:=h
 exact ⟨Hot1,Cold1,hF,((Chg.of_below hb).mono fun _ _ h=>h.elim).trans hc fun _ _ h=>h,fun k hk=>(hh k hk).imp id (Nat.le_trans hb.size),fun k hk=>(hco k hk).imp id (Nat.le_trans hb.size)⟩
theorem lr_disk {P:Program} {f:FuncId} {args:Array Value} {Re:zAA × Nat} {wc:World} (h:LRF w1 l r pre D M Hot Cold) (hb:Below w1.heap.size w1 wc) (hx:∀ v L own,zAS wc r v L own D→(∀ k,own k→Hot k)→Calls P f args wc (zCu wc r own Re)) :
  Calls P f args wc fun e w'=>e=.returned (.int .i64 (Re.2:Int))∧zBZ w1 l r pre Hot Cold w' Re.1 M∧w'.heap[l]?=w1.heap[l]?:=by
 obtain ⟨O,own,dv,ev,vs,v,L,hJ,hR,hO,hC,hH⟩:=h
 refine (hx v L own (hR.below hb) fun k hk=>(hH k).2 (.inr hk)).mono ?_
 rintro e w' ⟨rfl,own',⟨v',L',hR'⟩,hc,hn⟩
 have hc1:Chg own w1 w':=zBy hb hc
 have hn1:∀ k,own' k→own k∨w1.heap.size≤k:=fun k hk=>(hn k hk).imp id (Nat.le_trans hb.size)
 have hJ':=hJ.chg hc1 fun k hk=>⟨fun o=>hO k o hk,fun c=>hC k c hk⟩
 refine ⟨rfl,⟨fun k=>O k∨own' k,Cold,⟨O,own',dv,ev,vs,v',L',hJ',hR',fun k hk hk2=>?_,fun k hk hk2=>?_,fun k=>Iff.rfl⟩,hc1.mono fun k _ hk=>(hH k).2 (.inr hk),fun k hk=>?_,fun k hk=>.inl hk⟩,hc1.block l (hJ.olt l hJ.oj) (hO l hJ.oj)⟩
 ·rcases hn1 k hk2 with h | h
  ·exact hO k hk h
  ·have:=hJ.olt k hk
   omega
 ·rcases hn1 k hk2 with h | h
  ·exact hC k hk h
  ·have:=hJ.clt k hk
   omega
 ·rcases hk with hk | hk
  ·exact .inl ((hH k).2 (.inl hk))
  ·exact (hn1 k hk).imp (fun h=>(hH k).2 (.inr h)) id
end
def zBi (S:Nat→Prop) (w:World) (l r:Nat) (pre:ByteArray) (M:LedM):Prop :=
 ∃ O C dv ev vs,LRIn w l r pre O C M dv ev vs∧∀ k,(O k∨C k)→S k
section
variable {S:Nat→Prop} {w w1 w2:World} {l r:Nat} {pre:ByteArray} {M:LedM}
theorem zBi.below (h:zBi S w1 l r pre M) (hb:Below w1.heap.size w1 w2):zBi S w2 l r pre M:=by
 obtain ⟨O,C,dv,ev,vs,hJ,hn⟩:=h
 exact ⟨O,C,dv,ev,vs,hJ.below hb,hn⟩
theorem zBi.lt (h:zBi S w l r pre M):S l∧l < w.heap.size:=let ⟨_,_,_,_,_,hJ,hn⟩:=h;⟨hn l (.inl hJ.oj),hJ.olt l hJ.oj⟩
theorem zBi.cells (h:zBi S w l r pre M):∃ dv ev,w.heap[l]?=some (LRC r pre (M.base:Int) dv ev M.dead):=let ⟨_,_,dv,ev,_,hJ,_⟩:=h;⟨dv,ev,hJ.cells⟩
theorem zBi.wide {T:Nat→Prop} (h:zBi S w1 l r pre M) (hT:∀ k,S k→T k):zBi T w1 l r pre M:=by
 obtain ⟨O,C,dv,ev,vs,hJ,hn⟩:=h
 exact ⟨O,C,dv,ev,vs,hJ,fun k hk=>hT k (hn k hk)⟩
end
def RdX (A:Nat→Prop) (w:World) (r:Nat) (R:Rd):Prop:=∃ p n c,RdIn w r R p n c∧∀ k,(Value.slice p n c).ownBlock=some k→A k
theorem RdX.at {A:Nat→Prop} {w:World} {r:Nat} {R:Rd} (h:RdX A w r R):RdAt w r R:=let ⟨p,n,c,h,_⟩:=h;⟨p,n,c,h⟩
theorem RdX.lt {A:Nat→Prop} {w:World} {r:Nat} {R:Rd} (h:RdX A w r R):r < w.heap.size:=let ⟨_,_,_,h,_⟩:=h;h.rlt
theorem RdX.chg {A S:Nat→Prop} {w w':World} {r:Nat} {R:Rd} (h:RdX A w r R) (hc:Chg S w w') (hr:¬ S r) (hA:∀ k,A k→¬ S k):RdX A w' r R:=by
 obtain ⟨p,n,c,h,ha⟩:=h
 exact ⟨p,n,c,⟨(hc.block r h.rlt hr).trans h.cells,HasB.chg h.has hc fun k hk=>hA k (ha k hk),h.cap,h.ne,h.len⟩,ha⟩
theorem run_tailX {P:Program} {w:World} {t e:TypeId} {i:TypeInfo} (ht:P.underlying t=some (.slice e)) (hi:P.info? e=some i) (hsz:i.size=1) {p:Option Addr} {n c:Nat} {l:Bs} (h:HasB w (.slice p n c) l) (hnc:n≤c) (r k:Nat) (hne:(Value.slice p n c).ownBlock≠some r) (hk:k≤n) :
  ∃ p' c',(∀ W,(Instr.slice t (.slice p n c) (some (.int .i64 (k:Int))) none none).run P W=.ok (.slice p' (n - k) c') W)∧HasB w (.slice p' (n - k) c') (l.drop k)∧n - k≤c'∧(Value.slice p' (n - k) c').ownBlock≠some r∧∀ x,(Value.slice p' (n - k) c').ownBlock=some x→(Value.slice p n c).ownBlock=some x:=by
 obtain ⟨p',c',h1,h2,h3,h4⟩:=zDJ (P:=P) ht hi hsz h hnc r k hne hk
 refine ⟨p',c',h1,h2,h3,h4,fun x hx=>?_⟩
 have e1:=h1 w
 rw [run_tail0 (P:=P) w ht hi hsz p n c k hk hnc] at e1
 have e2:(if c=k then p else p.map fun x=>x.add k)=p':=by
  have:=congrArg (fun z:Result Value=>match z with | .ok (.slice a _ _) _=>a | _=>none) e1
  exact this
 subst e2
 split at hx
 ·cases p with
  | none=>cases hx
  | some a=>exact hx
 ·cases p with
  | none=>cases hx
  | some a =>
   have e3:(Value.slice (some (a.add k)) (n - k) c').ownBlock=some (a.add k).block:=rfl
   have hx':(Value.slice (some (a.add k)) (n - k) c').ownBlock=some x:=hx
   rw [e3,zBw] at hx'
   exact hx'
section
variable {w:World} {r:Nat} {R:Rd} {p:Option Addr} {n c:Nat}
end
end Go.Proofs.YtapfnehdgailmaaGreat
namespace Go.Sat
namespace Rd
def ints:Nat→Rd→List Int × Rd
 | 0,R=>([],R)
 | k+1,R=>((R.num.1:Int) :: (ints k R.num.2).1,(ints k R.num.2).2)
def grp (may:List Int→Bool) (R:Rd):List Int × Rd :=
 if 7 < R.num.1 then ([],fail) else ((ints R.num.1 R.num.2).1,if may (ints R.num.1 R.num.2).1 then (ints R.num.1 R.num.2).2 else fail)
end Rd
def anyG (_:List Int):Bool:=true
end Go.Sat
namespace Go.Proofs.YtapfnehdgailmaaGreat
open Go.RowKit Go.Sat Go.Maps
structure Ent where
 term:Int
 kind:Int
 data:Bs
 nodes:List Int
structure JouM where
 number:Nat
 term:Int
 group:List Int
 now:Int
 vote:Int
 data:Bs
 entries:List Ent
 dead:Bool
def grpGo (prev:Int):List Int→Bool
 | []=>true
 | n :: r=>decide (prev < n∧n < 7) && grpGo n r
def zCx (l:List Int):Bool:=grpGo (-1) l && decide (1≤l.length∧l.length≤7)
def isTm (n:Int):Bool:=decide (0≤n∧n≤1099511627776)
def isEnt (e:Ent):Bool :=
 isTm e.term && (if e.kind=0 then decide (e.data=[]∧e.nodes=[]) else if e.kind=1 then decide (1≤e.data.length∧e.data.length≤65536∧e.nodes=[])
  else if e.kind=2 then decide (e.data=[]) && zCx e.nodes else false)
def snpX:Bs:=[45,115,110,97,112]
def snpN (p:Bs):Bs:=p ++ snpX
/-! ### Records -/
def grpB (l:List Int):Bs:=numB l.length ++ zCS l
def fstB (n:Nat) (t:Int) (g:List Int):Bs:=1 :: (numB n ++ numI t ++ grpB g)
def trmB (t v:Int):Bs:=2 :: (numI t ++ numI (v+1))
def entB (n:Nat) (e:Ent):Bs:=3 :: (numB n ++ numI e.term ++ numI e.kind ++ rowB e.data ++ grpB e.nodes)
def snpB (n:Nat) (t:Int) (g:List Int) (b:Bs):Bs:=numB n ++ numI t ++ grpB g ++ rowB b
def entsB:Nat→List Ent→List Bs
 | _,[]=>[]
 | n,e :: r=>entB (n+1) e :: entsB (n+1) r
namespace JouM
def none0 (g:List Int):JouM:=⟨0,0,g,0,-1,[],[],false⟩
def last (M:JouM):Nat:=M.number+M.entries.length
def die (M:JouM):JouM:={ M with dead:=true }
def termAt (M:JouM) (i:Int):Option Int :=
 if i=(M.number:Int) then some M.term else if i < (M.number:Int) then none else (M.entries[(i - M.number - 1).toNat]?).map Ent.term
def lastT (M:JouM):Int:=match M.entries.getLast? with
 | some e=>e.term
 | none=>M.term
def mayVote (M:JouM) (t v:Int):Bool:=decide (M.now≤t∧t≤1099511627776∧-1≤v∧v < 7) && !decide (t=M.now∧M.vote≠-1∧v≠M.vote)
def rows (M:JouM):List Bs:=fstB M.number M.term M.group :: trmB M.now M.vote :: entsB M.number M.entries
end JouM
def rec1 (first:Bool) (M:JouM) (p:Bs):Option JouM:=match p with
 | []=>none
 | k :: r =>
  if first≠decide (k=1) then none
  else if k=1 then
   (if (Rd.num ⟨r,false⟩).2.num.2.grp zCx |>.2.whole then
    if (Rd.num ⟨r,false⟩).1≤1099511627776∧(Rd.num ⟨r,false⟩).2.num.1≤1099511627776 then
     some { M with number:=(Rd.num ⟨r,false⟩).1,term:=((Rd.num ⟨r,false⟩).2.num.1:Int),group:=((Rd.num ⟨r,false⟩).2.num.2.grp zCx).1 } else none
   else none)
  else if k=2 then
   (if (Rd.num ⟨r,false⟩).2.num.2.whole && M.mayVote ((Rd.num ⟨r,false⟩).1:Int) (((Rd.num ⟨r,false⟩).2.num.1:Int) - 1) then
    some { M with now:=((Rd.num ⟨r,false⟩).1:Int),vote:=(((Rd.num ⟨r,false⟩).2.num.1:Int) - 1) } else none)
  else if k=3 then
   (let R1:=Rd.num ⟨r,false⟩
    let R2:=R1.2.num
    let R3:=R2.2.num
    let R4:=R3.2.bytes
    let R5:=R4.2.grp anyG
    let e:Ent:=⟨R2.1,R3.1,R4.1,R5.1⟩
    if R5.2.whole∧R1.1=M.last+1∧R1.1≤1099511627776∧isEnt e then some { M with entries:=M.entries ++ [e] } else none)
  else if k=4 then
   (if (Rd.num ⟨r,false⟩).2.whole∧M.number < (Rd.num ⟨r,false⟩).1∧(Rd.num ⟨r,false⟩).1≤M.last+1 then some { M with entries:=M.entries.take ((Rd.num ⟨r,false⟩).1 - M.number - 1) } else none)
  else none
def recGo (M:JouM):List Bs→Option JouM
 | []=>some M
 | p :: r=>(rec1 false M p).bind fun M'=>recGo M' r
def recAll (M:JouM):List Bs→Option JouM
 | []=>none
 | p :: r=>(rec1 true M p).bind fun M'=>recGo M' r
structure Snap where
 number:Nat
 term:Int
 group:List Int
 data:Bs
def snapIs (b:Bs):Option Snap :=
 let R1:=Rd.num ⟨b,false⟩
 let R2:=R1.2.num
 let R3:=R2.2.grp zCx
 let R4:=R3.2.bytes
 if R4.2.whole∧1≤R1.1∧R1.1≤1099511627776∧R2.1≤1099511627776∧R4.1.length≤524288 then some ⟨R1.1,R2.1,R3.1,R4.1⟩ else none
def snapOf (o:Option zAN):Nat × Option Snap :=
 if loadE o=7 then (0,none) else if loadE o≠0 then (loadE o,none) else match snapIs (zBJ o) with
  | none=>(3,none)
  | some s=>(0,some s)
def JouM.rebase (M:JouM) (s:Snap):JouM :=
 { M with number:=s.number,term:=s.term,group:=s.group,data:=s.data,entries:=if M.number < s.number∧M.termAt s.number=some s.term then M.entries.drop (s.number - M.number) else [] }
def writesJ (D:zAA) (pre:Bs) (M:JouM):zAA × Nat:=D.save1 (logN pre) (zAm M.rows)
def readLogJ (D:zAA) (pre:Bs) (M:JouM):zAA × Nat × Bool × JouM:=match get (logN pre) D.files with
 | none=>(D,0,true,M)
 | some f=>match recAll M (scan f.data).1 with
  | none=>(D,3,false,M)
  | some M'=>((zAV D (logN pre) (scan f.data).2 f.data.length).1,(zAV D (logN pre) (scan f.data).2 f.data.length).2,false,M')
def joins (s:Option Snap) (M:JouM) (anew:Bool):Option (Bool × JouM):=match s with
 | none=>if 0 < M.number then none else some (anew,M)
 | some s=>if M.number < s.number then some (true,M.rebase s) else if s.number < M.number then none else some (anew,{ M with data:=s.data })
def jouOpen (D:zAA) (pre:Bs) (nodes:List Int):zAA × Nat × JouM :=
 if pre.length < 1∨20 < pre.length∨zCx nodes=false then (D,1,JouM.none0 nodes) else
 let r0:=D.rid [zAE (logN pre),zAE (snpN pre)]
 if r0.2≠0 then (r0.1,r0.2,JouM.none0 nodes) else
 let s:=snapOf (get (snpN pre) r0.1.files)
 if s.1≠0 then (r0.1,s.1,JouM.none0 nodes) else
 let l:=readLogJ r0.1 pre (JouM.none0 nodes)
 if l.2.1≠0 then (l.1,l.2.1,JouM.none0 nodes) else
 match joins s.2 l.2.2.2 l.2.2.1 with
 | none=>(l.1,3,JouM.none0 nodes)
 | some (anew,M)=>if anew then ((writesJ l.1 pre M).1,(writesJ l.1 pre M).2,M) else (l.1,0,M)
structure WroteJ where
 disk:zAA
 jou:JouM
 err:Nat
end Go.Proofs.YtapfnehdgailmaaGreat
namespace Go.Proofs.YtapfnehdgailmaaGreat
open Go.RowKit Go.Sat Go.Maps
theorem numI_of {z:Int} (h0:0≤z) (h1:z≤4611686018427387904):numI z=numB z.toNat:=by
 have:=numI_nat (n:=z.toNat) (by omega)
 rwa [Int.toNat_of_nonneg h0] at this
theorem rd_int {z:Int} (h0:0≤z) (h1:z≤4611686018427387904) (r:Bs) (b:Bool):Rd.num ⟨numI z ++ r,b⟩=(z.toNat,⟨r,b⟩):=by
 rw [numI_of h0 h1]
 exact Rd.num_of (by omega) r b
theorem ints_of:∀ (l:List Int) (r:Bs) (b:Bool),(∀ x ∈ l,0≤x∧x≤4611686018427387904)→Rd.ints l.length ⟨zCS l ++ r,b⟩=(l,⟨r,b⟩)
 | [],_,_,_=>rfl
 | z :: l,r,b,h=>by
  have hz:=h z (by simp)
  have e1:zCS (z :: l) ++ r=numI z ++ (zCS l ++ r):=by simp [zCS]
  show (((Rd.num _).1:Int) :: (Rd.ints l.length (Rd.num _).2).1,(Rd.ints l.length (Rd.num _).2).2)=_
  rw [e1,rd_int hz.1 hz.2]
  dsimp only
  rw [ints_of l r b fun x hx=>h x (by simp [hx]),Int.toNat_of_nonneg hz.1]
theorem grp_of {may:List Int→Bool} {l:List Int} (hl:l.length≤7) (h:∀ x ∈ l,0≤x∧x < 7) (hm:may l=true) (r:Bs) (b:Bool):Rd.grp may ⟨grpB l ++ r,b⟩=(l,⟨r,b⟩):=by
 unfold Rd.grp grpB
 rw [List.append_assoc,Rd.num_of (by omega)]
 dsimp only
 rw [if_neg (by omega),ints_of l r b fun x hx=>by have:=h x hx;omega]
 dsimp only
 rw [if_pos hm]
theorem whole_of (b:Bool):Rd.whole ⟨[],b⟩=!b:=by
 unfold Rd.whole
 simp
theorem grp_bound {l:List Int} (h:zCx l=true):l.length≤7∧∀ x ∈ l,0≤x∧x < 7:=by
 unfold zCx at h
 simp only [Bool.and_eq_true,decide_eq_true_eq] at h
 refine ⟨h.2.2,?_⟩
 have go:∀ (l:List Int) (p:Int),-1≤p→grpGo p l=true→∀ x ∈ l,p < x∧x < 7:=by
  intro l
  induction l with
  | nil=>intro p _ _ x hx;cases hx
  | cons n r ih =>
   intro p hp hg x hx
   unfold grpGo at hg
   simp only [Bool.and_eq_true,decide_eq_true_eq] at hg
   cases hx with
   | head=>exact hg.1
   | tail _ hx =>
    have:=ih n (by omega) hg.2 x hx
    omega
 intro x hx
 have:=go l (-1) (by omega) h.1 x hx
 omega
def intsV (l:List Int):List Value:=l.map (Value.int .i64)
def OwnI (w:World) (v:Value) (l:List Int):Prop:=OwnR w 3 1 v l.length (intsV l)
theorem OwnI.has {w:World} {v:Value} {l:List Int} (h:OwnI w v l):HasI w v l:=OwnR.holds h
theorem OwnI.keep {w w':World} {v:Value} {l:List Int} (h:OwnI w v l) (hb:∀ k,v.ownBlock=some k→w'.heap[k]?=w.heap[k]?):OwnI w' v l:=OwnR.keep h hb
theorem own_capI {w:World} {v:Value} {l:List Int} (h:OwnI w v l):∃ p c,v=.slice p l.length c∧l.length≤c:=by
 rcases h.2 with ⟨rfl,hn⟩ | ⟨g,cap,cur,rfl,_,hnc,_⟩
 ·exact ⟨none,0,by rw [hn],by omega⟩
 ·exact ⟨_,cap,rfl,hnc⟩
/-! ### Entries in memory -/
abbrev EV:=Value × Value
def entC (e:Ent) (v:EV):List Value:=[.int .i64 e.term,.int .i64 e.kind,v.1,v.2]
def entsC:List Ent→List EV→List Value
 | e :: es,v :: vs=>entC e v ++ entsC es vs
 | _,_=>[]
theorem entsC_len:∀ (es:List Ent) (vs:List EV),vs.length=es.length→(entsC es vs).length=es.length * 4
 | [],[],_=>rfl
 | e :: es,v :: vs,h=>by
  show (entC e v ++ entsC es vs).length=_
  rw [List.length_append,entsC_len es vs (by simpa using h),List.length_cons]
  show 4+_=_
  omega
 | [],_ :: _,h=>by simp at h
 | _ :: _,[],h=>by simp at h
theorem entsC_at:∀ (es:List Ent) (vs:List EV) (i:Nat) (e:Ent) (v:EV),es[i]?=some e→vs[i]?=some v→∀ (j:Nat) u,(entC e v)[j]?=some u→(entsC es vs)[i * 4+j]?=some u
 | [],_,i,e,v,h,_=>by simp at h
 | _ :: _,[],i,e,v,_,h=>by simp at h
 | x :: es,y :: vs,0,e,v,h1,h2=>by
  simp only [List.getElem?_cons_zero,Option.some.injEq] at h1 h2
  subst h1
  subst h2
  intro j u hu
  have hj:j < 4:=by
   have:=(List.getElem?_eq_some_iff.1 hu).1
   exact this
  show (entC x y ++ entsC es vs)[0 * 4+j]?=_
  rw [List.getElem?_append_left (by show _ < 4;omega),show 0 * 4+j=j by omega]
  exact hu
 | x :: es,y :: vs,i+1,e,v,h1,h2=>by
  intro j u hu
  have:=entsC_at es vs i e v (by simpa using h1) (by simpa using h2) j u hu
  show (entC x y ++ entsC es vs)[(i+1) * 4+j]?=_
  rw [List.getElem?_append_right (by show 4≤_;omega)]
  show (entsC es vs)[(i+1) * 4+j - 4]?=_
  rw [show (i+1) * 4+j - 4=i * 4+j by omega]
  exact this
structure EntAt (w:World) (e:Ent) (v:EV):Prop where
 data:OwnB w 5 v.1 e.data
 nodes:OwnI w v.2 e.nodes
theorem EntAt.keep {w w':World} {e:Ent} {v:EV} (h:EntAt w e v) (hb:∀ k,(v.1.ownBlock=some k∨v.2.ownBlock=some k)→w'.heap[k]?=w.heap[k]?):EntAt w' e v :=
 ⟨OwnR.keep h.data fun k hk=>hb k (.inl hk),OwnR.keep h.nodes fun k hk=>hb k (.inr hk)⟩
theorem EntAt.lt {w:World} {e:Ent} {v:EV} (h:EntAt w e v) {k:Nat} (hk:v.1.ownBlock=some k∨v.2.ownBlock=some k):k < w.heap.size:=hk.elim (OwnR.lt h.data) (OwnR.lt h.nodes)
def EntsAt (w:World) (es:List Ent) (vs:List EV):Prop:=vs.length=es.length∧∀ (i:Nat) e v,es[i]?=some e→vs[i]?=some v→EntAt w e v
structure JouM.OK (M:JouM):Prop where
 last:M.last≤1099511627776
 term:isTm M.term=true
 group:zCx M.group=true
 now:isTm M.now=true
 vote:-1≤M.vote∧M.vote < 7
 data:M.data.length≤1073741824
 ents:∀ e ∈ M.entries,isEnt e=true
theorem isTm_iff {n:Int}:isTm n=true ↔ 0≤n∧n≤1099511627776:=by simp [isTm]
/-! ### A journal in memory -/
structure zCJ (w:World) (j d:Nat) (pre:ByteArray) (own:Nat→Prop) (M:JouM) (gv dv ev:Value) (vs:List EV):Prop where
 cells:w.heap[j]?=some (.cells #[.int .i64 (M.number:Int),.int .i64 M.term,gv,.pointer (some ⟨d,0,none⟩),.string pre,.int .i64 M.now,.int .i64 M.vote,dv,ev,.bool M.dead] 132 (0,0))
 group:OwnI w gv M.group
 data:OwnB w 5 dv M.data
 row:OwnR w 50 4 ev M.entries.length (entsC M.entries vs)
 rows:EntsAt w M.entries vs
 ol:own j
 og:∀ k,gv.ownBlock=some k→own k∧k≠j∧ev.ownBlock≠some k
 od:∀ k,dv.ownBlock=some k→own k∧k≠j∧ev.ownBlock≠some k
 oe:∀ k,ev.ownBlock=some k→own k∧k≠j
 ov:∀ u ∈ vs,∀ k,(u.1.ownBlock=some k∨u.2.ownBlock=some k)→own k∧k≠j∧ev.ownBlock≠some k
 olt:∀ k,own k→k < w.heap.size
 psz:1≤pre.size∧pre.size≤20
 ok:M.OK
section
variable {w w':World} {j d:Nat} {pre:ByteArray} {own:Nat→Prop} {M:JouM} {gv dv ev:Value} {vs:List EV}
theorem zCJ.keep (h:zCJ w j d pre own M gv dv ev vs) (hs:∀ k,own k→w'.heap[k]?=w.heap[k]?) (hl:∀ k,own k→k < w'.heap.size):zCJ w' j d pre own M gv dv ev vs where
 cells:=(hs j h.ol).trans h.cells
 group:=OwnR.keep h.group fun k hk=>hs k (h.og k hk).1
 data:=OwnR.keep h.data fun k hk=>hs k (h.od k hk).1
 row:=h.row.keep fun k hk=>hs k (h.oe k hk).1
 rows:=⟨h.rows.1,fun i e v he hv=>(h.rows.2 i e v he hv).keep fun k hk=>hs k (h.ov v (List.mem_of_getElem? hv) k hk).1⟩
 ol:=h.ol
 og:=h.og
 od:=h.od
 oe:=h.oe
 ov:=h.ov
 olt:=hl
 psz:=h.psz
 ok:=h.ok
theorem zCJ.below (h:zCJ w j d pre own M gv dv ev vs) (hb:Below w.heap.size w w'):zCJ w' j d pre own M gv dv ev vs :=
 h.keep (fun k hk=>hb.block k (h.olt k hk)) fun k hk=>Nat.lt_of_lt_of_le (h.olt k hk) hb.size
theorem zCJ.c (h:zCJ w j d pre own M gv dv ev vs) (i:Nat) {v:Value} (hi:(#[.int .i64 (M.number:Int),.int .i64 M.term,gv,.pointer (some ⟨d,0,none⟩),.string pre,.int .i64 M.now,.int .i64 M.vote,dv,ev,.bool M.dead]:Array Value)[i]?=some v):w.cell? ⟨j,i,none⟩=some v:=zAC h.cells hi
theorem zCJ.fr (h:zCJ w j d pre own M gv dv ev vs) (i:Nat):w.frozen? ⟨j,i,none⟩=false:=zAK h.cells i
theorem zCJ.ent (h:zCJ w j d pre own M gv dv ev vs) {i:Nat} {e:Ent} (he:M.entries[i]?=some e):∃ g c v,ev=.slice (some ⟨g,0,none⟩) M.entries.length c∧vs[i]?=some v∧EntAt w e v ∧
  w.cell? ⟨g,i * 4,none⟩=some (.int .i64 e.term)∧w.cell? ⟨g,i * 4+1,none⟩=some (.int .i64 e.kind)∧w.cell? ⟨g,i * 4+2,none⟩=some v.1∧w.cell? ⟨g,i * 4+3,none⟩=some v.2:=by
 have hi:=(List.getElem?_eq_some_iff.1 he).1
 have hv:vs[i]?=some (vs[i]'(by rw [h.rows.1];exact hi)):=List.getElem?_eq_getElem _
 generalize vs[i]'(by rw [h.rows.1];exact hi)=v at hv
 rcases h.row.2 with ⟨-,h0⟩ | ⟨g,cap,cur,rfl,-⟩
 ·omega
 ·have hc:∀ (k:Nat) u,(entC e v)[k]?=some u→w.cell? ⟨g,i * 4+k,none⟩=some u:=fun k u hu=>by
   have:=h.row.cells (g:=g) rfl (i * 4+k) u (entsC_at _ _ i e v he hv k u hu)
   rwa [add_zero] at this
  exact ⟨g,cap,v,rfl,hv,h.rows.2 i e v he hv,hc 0 _ rfl,hc 1 _ rfl,hc 2 _ rfl,hc 3 _ rfl⟩
end
def JouF (w w1:World) (j d:Nat) (pre:ByteArray) (D:zAA) (M:JouM) (F:Nat→Prop):Prop :=
 ∃ own gv dv ev vs,zCJ w1 j d pre own M gv dv ev vs∧St w w1 d D (fun k=>own k∨F k)∧(∀ k,own k→w.heap.size≤k∧¬ F k)∧∀ k,F k→k < w1.heap.size
def JouCells (j d:Nat) (pre:ByteArray) (w:World):Prop:=w.cell? ⟨j,3,none⟩=some (.pointer (some ⟨d,0,none⟩))∧w.cell? ⟨j,4,none⟩=some (.string pre)∧pre.size≤20
theorem JouCells.same {l d:Nat} {pre:ByteArray} {w w':World} (h:JouCells l d pre w) (hb:w'.heap[l]?=w.heap[l]?):JouCells l d pre w' :=
 ⟨(World.cell?_of_block (a:=⟨l,3,none⟩) hb).trans h.1,(World.cell?_of_block (a:=⟨l,4,none⟩) hb).trans h.2.1,h.2.2⟩
section
variable {w w1 w2:World} {j d:Nat} {pre:ByteArray} {D:zAA} {M:JouM} {F F':Nat→Prop}
theorem JouF.bel (h:JouF w w1 j d pre D M F):Below w.heap.size w w1:=let ⟨_,_,_,_,_,_,hS,_,_⟩:=h;hS.below
theorem JouF.okD (h:JouF w w1 j d pre D M F):D.OK:=let ⟨_,_,_,_,_,_,hS,_,_⟩:=h;hS.ok
theorem JouF.flt (h:JouF w w1 j d pre D M F) {k:Nat} (hk:F k):k < w1.heap.size:=let ⟨_,_,_,_,_,_,_,_,hF⟩:=h;hF k hk
theorem JouF.stF (h:JouF w w1 j d pre D M F):St w w1 d D F:=let ⟨_,_,_,_,_,_,hS,_,_⟩:=h;hS.less fun _ hk=>.inr hk
theorem JouF.st (h:JouF w w1 j d pre D M F):St w w1 d D NoF:=let ⟨_,_,_,_,_,_,hS,_,_⟩:=h;hS.noF
theorem JouF.psz (h:JouF w w1 j d pre D M F):1≤pre.size∧pre.size≤20:=let ⟨_,_,_,_,_,hJ,_,_,_⟩:=h;hJ.psz
theorem JouF.move {S:Nat→Prop} (h:JouF w w1 j d pre D M F) (hc:Chg S w1 w2) (hS:∀ k,k < w1.heap.size→S k→F k∧w.heap.size≤k) (hF:∀ k,F' k→(F k∨w1.heap.size≤k)∧k < w2.heap.size):JouF w w2 j d pre D M F':=by
 obtain ⟨own,gv,dv,ev,vs,hL,hSt,hn,hl⟩:=h
 refine ⟨own,gv,dv,ev,vs,hL.keep (fun k hk=>hc.block k (hL.olt k hk) fun hs=>(hn k hk).2 (hS k (hL.olt k hk) hs).1) fun k hk=>Nat.lt_of_lt_of_le (hL.olt k hk) hc.size,hSt.move hc (fun k hk hs=>⟨.inr (hS k hk hs).1,(hS k hk hs).2⟩) (fun k hk=>?_),fun k hk=>⟨(hn k hk).1,fun hf=>?_⟩,fun k hk=>(hF k hk).2⟩
 ·rcases hk with hk | hk
  ·exact ⟨.inl (.inl hk),Nat.lt_of_lt_of_le (hL.olt k hk) hc.size⟩
  ·exact ⟨(hF k hk).1.imp .inr id,(hF k hk).2⟩
 ·rcases (hF k hf).1 with h | h
  ·exact (hn k hk).2 h
  ·have:=hL.olt k hk
   omega
theorem JouF.next (h:JouF w w1 j d pre D M F) (hb:Below w1.heap.size w1 w2):JouF w w2 j d pre D M F :=
 h.move (Chg.of_below hb) (fun _ _ h=>h.elim) fun _ hk=>⟨.inl hk,Nat.lt_of_lt_of_le (h.flt hk) hb.size⟩
theorem JouF.drewN (h:JouF w w1 j d pre D M F) (q:Nat):JouF w (w1.drewN q) j d pre D M F:=h.next ⟨rfl,rfl,rfl,Nat.le_refl _,fun _ _=>rfl⟩
theorem JouF.same (h:JouF w w1 j d pre D M F) (hb:Below w1.heap.size w1 w2):Same F w1 w2:=fun _ hk=>hb.block _ (h.flt hk)
theorem JouF.less (h:JouF w w1 j d pre D M F) (hF:∀ k,F' k→F k):JouF w w1 j d pre D M F' :=
 h.move (Chg.refl _ _:Chg (fun _=>False) w1 w1) (fun _ _ h=>h.elim) fun _ hk=>⟨.inl (hF _ hk),h.flt (hF _ hk)⟩
theorem JouF.more (h:JouF w w1 j d pre D M F) (hb:Below w1.heap.size w1 w2) (hF:∀ k,F' k→F k∨w1.heap.size≤k∧k < w2.heap.size):JouF w w2 j d pre D M F' :=
 h.move (Chg.of_below hb) (fun _ _ h=>h.elim) fun k hk=>by
  rcases hF k hk with h1 | h1
  ·exact ⟨.inl h1,Nat.lt_of_lt_of_le (h.flt h1) hb.size⟩
  ·exact ⟨.inr h1.1,h1.2⟩
theorem JouF.box (h:JouF w w1 j d pre D M F) (o:Obj):JouF w (w1.alloc o) j d pre D M (fun k=>F k∨k=w1.heap.size) :=
 h.more (zAc w1 o) fun k hk=>hk.imp id fun e=>⟨by omega,by simp;omega⟩
theorem JouF.turned {own own':Nat→Prop} {M':JouM} {gv' dv' ev':Value} {vs':List EV} (hS:St w w1 d D (fun k=>own k∨F k)) (hn:∀ k,own k→w.heap.size≤k∧¬ F k) (hl:∀ k,F k→k < w1.heap.size)
  (hL':zCJ w2 j d pre own' M' gv' dv' ev' vs') (hc:Chg own w1 w2) (hx:∀ k,own' k→own k∨w1.heap.size≤k):JouF w w2 j d pre D M' F∧Same F w1 w2:=by
 refine ⟨⟨own',gv',dv',ev',vs',hL',hS.move hc (fun k _ hk=>⟨.inl hk,(hn k hk).1⟩) (fun k hk=>?_),fun k hk=>?_,fun k hk=>Nat.lt_of_lt_of_le (hl k hk) hc.size⟩,fun k hk=>hc.block k (hl k hk) fun ho=>(hn k ho).2 hk⟩
 ·rcases hk with hk | hk
  ·exact ⟨(hx k hk).imp .inl id,hL'.olt k hk⟩
  ·exact ⟨.inl (.inr hk),Nat.lt_of_lt_of_le (hl k hk) hc.size⟩
 ·rcases hx k hk with h | h
  ·exact hn k h
  ·exact ⟨Nat.le_trans hS.below.size h,fun hf=>by have:=hl k hf;omega⟩
end
theorem zCJ.set {w w':World} {j d:Nat} {pre:ByteArray} {own:Nat→Prop} {M M':JouM} {gv dv ev:Value} {vs:List EV} (h:zCJ w j d pre own M gv dv ev vs)
  (hc:w'.heap[j]?=some (.cells #[.int .i64 (M'.number:Int),.int .i64 M'.term,gv,.pointer (some ⟨d,0,none⟩),.string pre,.int .i64 M'.now,.int .i64 M'.vote,dv,ev,.bool M'.dead] 132 (0,0)))
  (hs:∀ k,k≠j→w'.heap[k]?=w.heap[k]?) (hz:w'.heap.size=w.heap.size) (hg:M'.group=M.group) (hd:M'.data=M.data) (he:M'.entries=M.entries) (ok:M'.OK):zCJ w' j d pre own M' gv dv ev vs where
 cells:=hc
 group:=by rw [hg];exact OwnR.keep h.group fun k hk=>hs k (h.og k hk).2.1
 data:=by rw [hd];exact OwnR.keep h.data fun k hk=>hs k (h.od k hk).2.1
 row:=by rw [he];exact h.row.keep fun k hk=>hs k (h.oe k hk).2
 rows:=by rw [he];exact ⟨h.rows.1,fun i e v he hv=>(h.rows.2 i e v he hv).keep fun k hk=>hs k (h.ov v (List.mem_of_getElem? hv) k hk).2.1⟩
 ol:=h.ol
 og:=h.og
 od:=h.od
 oe:=h.oe
 ov:=h.ov
 olt:=fun k hk=>by rw [hz];exact h.olt k hk
 psz:=h.psz
 ok:=ok
structure zCX (w:World) (e:Ent) (v:EV):Prop where
 data:HasB w v.1 e.data
 nodes:HasI w v.2 e.nodes
 dl:e.data.length≤1099511627776
 nl:e.nodes.length≤1099511627776
theorem zCX.below {w w':World} {e:Ent} {v:EV} (h:zCX w e v) (hb:Below w.heap.size w w'):zCX w' e v:=⟨HasB.below h.data hb,zAX.chg h.nodes (Chg.of_below hb) fun _ _=>id,h.dl,h.nl⟩
theorem EntAt.has {w:World} {e:Ent} {v:EV} (h:EntAt w e v) (hd:e.data.length≤1099511627776) (hn:e.nodes.length≤1099511627776):zCX w e v:=⟨OwnB.has h.data,OwnI.has h.nodes,hd,hn⟩
theorem zBl {w w':World} {a:Addr} {v:Value} (h:w.cell? a=some v) (hb:Below w.heap.size w w'):w'.cell? a=some v:=(hb.cell (World.block_lt_of_cell? w a h)).trans h
section
variable {w w1:World} {j d:Nat} {pre:ByteArray} {D:zAA} {M:JouM} {F:Nat→Prop}
end
end Go.Proofs.YtapfnehdgailmaaGreat
