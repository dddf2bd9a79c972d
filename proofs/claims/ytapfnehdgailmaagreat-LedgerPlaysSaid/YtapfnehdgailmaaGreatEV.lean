/- Both ledgers side by side, each with a model of its own, and blocks set apart (G). Arguments that are slices of structs of one-cell fields, and slices of texts. What a script of satrapylaw14 is, as the form reads it. The contract of satrapylaw14.heavy. LedgerPlays: the walk. (Printed by mkrl9.py.) -/
import Derived.Deep.CutBlock
import Derived.Deep.CutRange
import Derived.Deep.Fields
import Derived.Deep.Strs
import Derived.Test.YtapfnehdgailmaaGreatEB
import Derived.Test.YtapfnehdgailmaaGreatEF
import Derived.Test.YtapfnehdgailmaaGreatET
import Derived.Test.YtapfnehdgailmaaGreatEU
set_option maxRecDepth 100000
set_option maxHeartbeats 64000000
namespace Go.Proofs.YtapfnehdgailmaaGreat
open Go.RowKit Go.Sat Go.Maps
def zA5 (w w1:World) (l d y r:Nat) (D:zAA) (M:LedM) (D2:zAA) (M2:LedM) (G:Nat→Prop):Prop :=
 ∃ F Hot Cold,LedF w w1 l d sA D M F∧LRF w1 y r sA D2 M2 Hot Cold∧(∀ k,Hot k∨Cold k→F k∧w.heap.size≤k)∧∀ k,G k→F k∧¬ Hot k∧¬ Cold k
section
variable {w w1 w2:World} {l d y r:Nat} {D D2 D':zAA} {M M2 M':LedM} {G:Nat→Prop}
theorem zC1.x (h:zC1 w w1 l d y r D M):zA5 w w1 l d y r D M D M NoF:=let ⟨F,Hot,Cold,hL,hR,hk⟩:=h;⟨F,Hot,Cold,hL,hR,hk,fun _ h=>h.elim⟩
theorem zA5.toL (h:zA5 w w1 l d y r D M D M G):zC1 w w1 l d y r D M:=let ⟨F,Hot,Cold,hL,hR,hk,_⟩:=h;⟨F,Hot,Cold,hL,hR,hk⟩
theorem zA5.bel (h:zA5 w w1 l d y r D M D2 M2 G):Below w.heap.size w w1:=let ⟨_,_,_,h,_⟩:=h;h.bel
theorem zA5.glt (h:zA5 w w1 l d y r D M D2 M2 G) {k:Nat} (hk:G k):k < w1.heap.size:=let ⟨_,_,_,hL,_,_,hG⟩:=h;hL.flt (hG k hk).1
theorem zA5.next (h:zA5 w w1 l d y r D M D2 M2 G) (hb:Below w1.heap.size w1 w2):zA5 w w2 l d y r D M D2 M2 G:=by
 obtain ⟨F,Hot,Cold,hL,hR,hk,hG⟩:=h
 exact ⟨F,Hot,Cold,hL.next hb,hR.below hb,hk,hG⟩
theorem zA5.same (h:zA5 w w1 l d y r D M D2 M2 G) (hb:Below w1.heap.size w1 w2):Same G w1 w2:=fun _ hk=>hb.block _ (h.glt hk)
theorem zA5.less {G':Nat→Prop} (h:zA5 w w1 l d y r D M D2 M2 G) (hG':∀ k,G' k→G k):zA5 w w1 l d y r D M D2 M2 G':=by
 obtain ⟨F,Hot,Cold,hL,hR,hk,hG⟩:=h
 exact ⟨F,Hot,Cold,hL,hR,hk,fun k h=>hG k (hG' k h)⟩
theorem zA5.more {G':Nat→Prop} (h:zA5 w w1 l d y r D M D2 M2 G) (hb:Below w1.heap.size w1 w2) (hG':∀ k,G' k→G k∨(w1.heap.size≤k∧k < w2.heap.size)):zA5 w w2 l d y r D M D2 M2 G':=by
 obtain ⟨F,Hot,Cold,hL,hR,hk,hG⟩:=h
 refine ⟨fun k=>F k∨G' k,Hot,Cold,hL.more hb fun k h=>?_,hR.below hb,fun k h=>⟨.inl (hk k h).1,(hk k h).2⟩,fun k h=>⟨.inr h,?_⟩⟩
 ·rcases h with h | h
  ·exact .inl h
  ·exact (hG' k h).imp (fun e=>(hG k e).1) id
 ·rcases hG' k h with e | e
  ·exact (hG k e).2
  ·exact ⟨fun e2=>by have:=hR.hlt e2;omega,fun e2=>by have:=hR.clt e2;omega⟩
theorem zA5.box (h:zA5 w w1 l d y r D M D2 M2 G) (o:Obj):zA5 w (w1.alloc o) l d y r D M D2 M2 (fun k=>G k∨k=w1.heap.size) :=
 h.more (zAb w1 o) fun k hk=>hk.imp id fun e=>⟨by omega,by simp;omega⟩
theorem px_p {P:Program} {f:FuncId} {args:Array Value} {Q:Ending→Prop} {wc:World} (h:zA5 w w1 l d y r D M D2 M2 G) (hx:∀ F,LedF w w1 l d sA D M F→Calls P f args wc fun e w'=>Q e∧LedF w w' l d sA D' M' F∧Same F w1 w') :
  Calls P f args wc fun e w'=>Q e∧zA5 w w' l d y r D' M' D2 M2 G∧Same G w1 w':=by
 obtain ⟨F,Hot,Cold,hL,hR,hk,hG⟩:=h
 refine (hx F hL).mono ?_
 rintro e w' ⟨hq,hL',hs⟩
 exact ⟨hq,⟨F,Hot,Cold,hL',hR.same fun k h=>⟨hs k (hk k h).1,hL'.flt (hk k h).1⟩,hk,hG⟩,fun k h=>hs k (hG k h).1⟩
theorem px_r {P:Program} {f:FuncId} {args:Array Value} {Q:Ending→Prop} {wc:World} (h:zA5 w w1 l d y r D M D2 M2 G) (hx:∀ Hot Cold,LRF w1 y r sA D2 M2 Hot Cold→(∀ k,Hot k→w.heap.size≤k)→(∀ k,G k→¬ Hot k)→Calls P f args wc fun e w'=>Q e∧zAZ w1 y r sA Hot Cold w' D' M') :
  Calls P f args wc fun e w'=>Q e∧zA5 w w' l d y r D M D' M' G∧Same G w1 w':=by
 obtain ⟨F,Hot,Cold,hL,hR,hk,hG⟩:=h
 refine (hx Hot Cold hR (fun k h=>(hk k (.inl h)).2) fun k h=>(hG k h).2.1).mono ?_
 rintro e w' ⟨hq,Hot',Cold',hR',hc,hh,hco⟩
 have hw:=hL.bel.size
 have hk':∀ k,Hot' k∨Cold' k→(F k∨w1.heap.size≤k)∧k < w'.heap.size∧w.heap.size≤k:=fun k h=>by
  have h1:(Hot k∨Cold k)∨w1.heap.size≤k:=h.elim (fun e=>(hh k e).imp .inl id) fun e=>(hco k e).imp .inr id
  refine ⟨h1.imp (fun e=>(hk k e).1) id,h.elim hR'.hlt hR'.clt,?_⟩
  rcases h1 with e | e
  ·exact (hk k e).2
  ·omega
 refine ⟨hq,⟨fun k=>Hot' k∨Cold' k∨G k,Hot',Cold',hL.move hc (fun k _ e=>hk k (.inl e)) fun k h=>?_,hR',fun k h=>⟨h.elim .inl fun e=>.inr (.inl e),(hk' k h).2.2⟩,fun k h=>⟨.inr (.inr h),fun e=>?_,fun e=>?_⟩⟩,fun k h=>hc.block k (hL.flt (hG k h).1) (hG k h).2.1⟩
 ·rcases h with h | h | h
  ·exact ⟨(hk' k (.inl h)).1,(hk' k (.inl h)).2.1⟩
  ·exact ⟨(hk' k (.inr h)).1,(hk' k (.inr h)).2.1⟩
  ·exact ⟨.inl (hG k h).1,Nat.lt_of_lt_of_le (hL.flt (hG k h).1) hc.size⟩
 ·rcases hh k e with e2 | e2
  ·exact (hG k h).2.1 e2
  ·have:=hL.flt (hG k h).1
   omega
 ·rcases hco k e with e2 | e2
  ·exact (hG k h).2.2 e2
  ·have:=hL.flt (hG k h).1
   omega
theorem zA5.pairF (h:zA5 w w1 l d y r D M D2 M2 G):zBZ w w1 d D r D2 G:=by
 obtain ⟨F,Hot,Cold,hL,hR,hk,hG⟩:=h
 obtain ⟨own0,dv,ev,vs,hI,hS,hn,hl⟩:=hL
 obtain ⟨O,own,dv2,ev2,vs2,v,L,hJ,hR2,hO,hC,hH⟩:=hR
 have ho:∀ k,own k→Hot k:=fun k hk=>(hH k).2 (.inr hk)
 refine ⟨own,v,L,hS.move (S:=fun _=>False) (Chg.refl _ _) (fun _ _ h=>h.elim) (fun k h=>?_),hR2,fun k h=>⟨(hk k (.inl (ho k h))).2,fun e=>(hG k e).2.1 (ho k h)⟩,fun k h=>hl k (hG k h).1⟩
 rcases h with h | h
 ·exact ⟨.inl (.inr (hk k (.inl (ho k h))).1),hR2.olt k h⟩
 ·exact ⟨.inl (.inr (hG k h).1),hl k (hG k h).1⟩
theorem lr_fuse {Hot Cold:Nat→Prop} (h:LRF w1 y r sA D2 M2 Hot Cold) (n:Int) (hn0:-9223372036854775808≤n) (hn:n≤9223372036854775807) :
  Calls Tryz.prog 49 #[.pointer (some ⟨r,0,none⟩),.int .i64 n] w1 fun e w'=>e=.returned (.tuple #[])∧zAZ w1 y r sA Hot Cold w' (D2.setFuse n) M2:=by
 obtain ⟨O,own,dv,ev,vs,v,L,hJ,hR,hO,hC,hH⟩:=h
 refine (rfuse_calls hR n hn hn0).mono ?_
 rintro e w' ⟨rfl,hR',hc⟩
 exact ⟨rfl,Hot,Cold,⟨O,own,dv,ev,vs,v,L,hJ.chg hc fun k hk=>⟨fun o=>hO k o hk,fun c=>hC k c hk⟩,hR',hO,hC,hH⟩,hc.mono fun k _ hk=>(hH k).2 (.inr hk),fun k hk=>.inl hk,fun k hk=>.inl hk⟩
theorem px_append (h:zA5 w w1 l d y r D M D2 M2 G) {p:Option Addr} {n c:Nat} {b:Bs} {W:World} (hb:Below w1.heap.size w1 W) (hv:OwnB W 5 (.slice p n c) b) (hvo:∀ k,(Value.slice p n c).ownBlock=some k→w1.heap.size≤k) (hl:b.length≤140737488355328) :
  Calls Tryz.prog 55 #[.pointer (some ⟨l,0,none⟩),.slice p n c] W fun e w'=>e=.returned (.tuple #[.int .i64 ((zAL pA D M b).num:Int),.int .i64 ((zAL pA D M b).err:Int)])∧zA5 w w' l d y r (zAL pA D M b).disk (zAL pA D M b).led D2 M2 G∧Same G W w':=by
 have hP:=h.more (G':=fun k=>G k∨(Value.slice p n c).ownBlock=some k) hb fun k hk=>hk.imp id fun e=>⟨hvo k e,OwnR.lt hv e⟩
 obtain ⟨F,Hot,Cold,hL,hR,hk,hG⟩:=hP
 refine (zDo hL (b:=b) (fun W' _ hs=>zAY.keep hv.has fun k e=>hs k (hG k (.inr e)).1) hl).mono ?_
 rintro e w' ⟨rfl,hL',hs⟩
 exact ⟨rfl,⟨F,Hot,Cold,hL',hR.same fun k h=>⟨hs k (hk k h).1,hL'.flt (hk k h).1⟩,hk,fun k h=>hG k (.inl h)⟩,fun k h=>hs k (hG k (.inl h)).1⟩
theorem px_write (h:zA5 w w1 l d y r D M D2 M2 G) (i:Int) (hir:-9223372036854775808≤i∧i≤9223372036854775807) {p:Option Addr} {n c:Nat} {b:Bs} {W:World} (hb:Below w1.heap.size w1 W) (hv:OwnB W 5 (.slice p n c) b) (hvo:∀ k,(Value.slice p n c).ownBlock=some k→w1.heap.size≤k) (hl:b.length≤140737488355328) :
  Calls Tryz.prog 58 #[.pointer (some ⟨l,0,none⟩),.int .i64 i,.slice p n c] W fun e w'=>e=.returned (.int .i64 ((zAV pA D M i b).err:Int))∧zA5 w w' l d y r (zAV pA D M i b).disk (zAV pA D M i b).led D2 M2 G∧Same G W w':=by
 have hP:=h.more (G':=fun k=>G k∨(Value.slice p n c).ownBlock=some k) hb fun k hk=>hk.imp id fun e=>⟨hvo k e,OwnR.lt hv e⟩
 obtain ⟨F,Hot,Cold,hL,hR,hk,hG⟩:=hP
 refine (lwrite_calls hL i hir (b:=b) (fun W' _ hs=>zAY.keep hv.has fun k e=>hs k (hG k (.inr e)).1) hl).mono ?_
 rintro e w' ⟨rfl,hL',hs⟩
 exact ⟨rfl,⟨F,Hot,Cold,hL',hR.same fun k h=>⟨hs k (hk k h).1,hL'.flt (hk k h).1⟩,hk,fun k h=>hG k (.inl h)⟩,fun k h=>hs k (hG k (.inl h)).1⟩
theorem px_rappend (h:zA5 w w1 l d y r D M D2 M2 G) {p:Option Addr} {n c:Nat} {b:Bs} (hv:HasB w (.slice p n c) b) (hl:b.length≤140737488355328) :
  Calls Tryz.prog 56 #[.pointer (some ⟨y,0,none⟩),.slice p n c] w1 fun e w'=>e=.returned (.tuple #[.int .i64 ((zAL pA D2 M2 b).num:Int),.int .i64 ((zAL pA D2 M2 b).err:Int)])∧zA5 w w' l d y r D M (zAL pA D2 M2 b).disk (zAL pA D2 M2 b).led G∧Same G w1 w' :=
 px_r (Q:=fun e=>e=.returned (.tuple #[.int .i64 ((zAL pA D2 M2 b).num:Int),.int .i64 ((zAL pA D2 M2 b).err:Int)])) h fun _ _ hR hh _=>lrappend_calls hR (HasB.old hv h.bel) hl fun hne k hk hok=>by
  have h1:=HasB.lt hv hne hk
  have h2:=hh k hok
  omega
theorem px_rwrite (h:zA5 w w1 l d y r D M D2 M2 G) (i:Int) (hir:-9223372036854775808≤i∧i≤9223372036854775807) {p:Option Addr} {n c:Nat} {b:Bs} (hv:HasB w (.slice p n c) b) (hl:b.length≤140737488355328) :
  Calls Tryz.prog 59 #[.pointer (some ⟨y,0,none⟩),.int .i64 i,.slice p n c] w1 fun e w'=>e=.returned (.int .i64 ((zAV pA D2 M2 i b).err:Int))∧zA5 w w' l d y r D M (zAV pA D2 M2 i b).disk (zAV pA D2 M2 i b).led G∧Same G w1 w' :=
 px_r (Q:=fun e=>e=.returned (.int .i64 ((zAV pA D2 M2 i b).err:Int))) h fun _ _ hR hh _=>lrwrite_calls hR i hir (HasB.old hv h.bel) hl fun hne k hk hok=>by
  have h1:=HasB.lt hv hne hk
  have h2:=hh k hok
  omega
theorem px_drop (h:zA5 w w1 l d y r D M D2 M2 G) :
  Calls Tryz.prog 60 #[.pointer (some ⟨l,0,none⟩)] w1 fun e w'=>e=.returned (.int .i64 ((zA8 pA D M).err:Int))∧zA5 w w' l d y r (zA8 pA D M).disk (zA8 pA D M).led D2 M2 G∧Same G w1 w' :=
 px_p (Q:=fun e=>e=.returned (.int .i64 ((zA8 pA D M).err:Int))) h fun _ hL=>ldrop_calls hL
theorem px_rdrop (h:zA5 w w1 l d y r D M D2 M2 G) :
  Calls Tryz.prog 61 #[.pointer (some ⟨y,0,none⟩)] w1 fun e w'=>e=.returned (.int .i64 ((zA8 pA D2 M2).err:Int))∧zA5 w w' l d y r D M (zA8 pA D2 M2).disk (zA8 pA D2 M2).led G∧Same G w1 w' :=
 px_r (Q:=fun e=>e=.returned (.int .i64 ((zA8 pA D2 M2).err:Int))) h fun _ _ hR _ _=>lrdrop_calls hR
theorem px_fuse (h:zA5 w w1 l d y r D M D2 M2 G) (n:Int) (hn0:-9223372036854775808≤n) (hn:n≤9223372036854775807) :
  Calls Tryz.prog 40 #[.pointer (some ⟨d,0,none⟩),.int .i64 n] w1 fun e w'=>e=.returned (.tuple #[])∧zA5 w w' l d y r (D.setFuse n) M D2 M2 G∧Same G w1 w' :=
 px_p (Q:=fun e=>e=.returned (.tuple #[])) h fun _ hL=>led_fuse hL n hn0 hn
theorem px_rfuse (h:zA5 w w1 l d y r D M D2 M2 G) (n:Int) (hn0:-9223372036854775808≤n) (hn:n≤9223372036854775807) :
  Calls Tryz.prog 49 #[.pointer (some ⟨r,0,none⟩),.int .i64 n] w1 fun e w'=>e=.returned (.tuple #[])∧zA5 w w' l d y r D M (D2.setFuse n) M2 G∧Same G w1 w' :=
 px_r (Q:=fun e=>e=.returned (.tuple #[])) h fun _ _ hR _ _=>lr_fuse hR n hn0 hn
end
end Go.Proofs.YtapfnehdgailmaaGreat
namespace Go.Proofs.YtapfnehdgailmaaGreat
open Go.RowKit Go.Sat Go.ChangeShapes Go.WideShapes Go.ChangeAt Go.Deep
section
variable {H:Type} {enc:TypeId × Value→H} {P:Program} {W:World}
theorem bulk_pos (d:DataW H):1≤Rows.uptoBulk d:=by
 cases d with
 | lit l=>cases l <;> simp [Rows.uptoBulk]
 | _=>simp [Rows.uptoBulk]
theorem bulk_mem {d:DataW H}:∀ {l:List (DataW H)},d ∈ l→Rows.uptoBulk d≤Rows.uptoBulkAll l
 | [],h=>by simp at h
 | x :: r,h=>by
  simp only [Rows.uptoBulkAll]
  rcases List.mem_cons.1 h with rfl | h
  ·omega
  ·have:=bulk_mem h
   omega
theorem bulk_len:∀ l:List (DataW H),l.length≤Rows.uptoBulkAll l
 | []=>Nat.zero_le _
 | x :: r=>by
  have h1:=bulk_len r
  have h2:=bulk_pos x
  simp only [Rows.uptoBulkAll,List.length_cons]
  omega
theorem bulk_slice (l r:List (DataW H)):Rows.uptoBulkAll l≤Rows.uptoBulk (.slice l r):=by simp only [Rows.uptoBulk];omega
theorem bulk_agg (l:List (DataW H)):Rows.uptoBulkAll l≤Rows.uptoBulk (.agg l):=by simp only [Rows.uptoBulk];omega
theorem slice_bulk {t e:TypeId} {fuel:Nat} {a:Option Addr} {len cap:Nat} {d:DataW H} {ps:List MemPlace} (ht:P.underlying t=some (.slice e)) (hf:DataW.trod enc P W 0 (fun _=>true) true fuel t [.slice a len cap]=some (d,ps)):len≤Rows.uptoBulk d:=by
 rcases open_slice ht hf with ⟨hcs,-⟩ | ⟨x,l,c,m,n,D,Pl,hcs,-,hl,hm,hmm,hd,hi⟩
 ·simp only [List.cons.injEq,Value.slice.injEq,and_true] at hcs
  omega
 ·simp only [List.cons.injEq,Value.slice.injEq,and_true] at hcs
  obtain ⟨rfl,rfl,rfl⟩:=hcs
  obtain ⟨rfl,-⟩:=Prod.mk.inj hd
  have h1:=bulk_len ((List.range len).map D)
  have h2:=bulk_slice ((List.range len).map D) ((List.range (m - len)).map fun j=>D (len+j))
  rw [List.length_map,List.length_range] at h1
  omega
def FieldAt (enc:TypeId × Value→H) (P:Program) (W:World) (B K:Nat) (a:Addr) (t:TypeId):Prop :=
 ∃ (v:Value) (fuel:Nat) (d:DataW H) (ps:List MemPlace),W.cell? a=some v∧DataW.trod enc P W 0 (fun _=>true) true fuel t [v]=some (d,ps)∧(∀ m ∈ d.weights P t,m≤B)∧Rows.uptoBulk d≤K
theorem open_recs {t e:TypeId} {fs:Array Field} {fuel:Nat} {a:Option Addr} {len cap B:Nat} {d:DataW H} {ps:List MemPlace} (ht:P.underlying t=some (.slice e)) (he:P.underlying e=some (.struct fs))
  (hone:oneCellFields P fs=true) (hC:P.cellsOf e=fs.size) (hf:DataW.trod enc P W 0 (fun _=>true) true fuel t [.slice a len cap]=some (d,ps)) (hw:∀ n ∈ d.weights P t,n≤B) :
  (a=none∧len=0)∨∃ x,a=some x∧len * P.bytesOf e≤B∧∀ i,i < len→∀ j f,fs[j]?=some f→FieldAt enc P W B (Rows.uptoBulk d) (x.add (i * fs.size+j)) f.type:=by
 rcases open_slice ht hf with ⟨hcs,-⟩ | ⟨x,l,c,m,n,D,Pl,hcs,-,hl,hm,hmm,hd,hi⟩
 ·simp only [List.cons.injEq,Value.slice.injEq,and_true] at hcs
  exact .inl ⟨hcs.1,hcs.2.1⟩
 ·simp only [List.cons.injEq,Value.slice.injEq,and_true] at hcs
  obtain ⟨rfl,rfl,rfl⟩:=hcs
  obtain ⟨rfl,-⟩:=Prod.mk.inj hd
  have hlm:len≤m:=by rw [hmm];split <;> omega
  have hb:=weights_head ht hw
  simp only [List.length_map,List.length_range] at hb
  refine .inr ⟨x,rfl,Nat.le_trans (Nat.mul_le_mul_right _ (Nat.le_add_right _ _)) hb,fun i hil j f hj=>?_⟩
  obtain ⟨cs',hc,ht'⟩:=hi i (by omega)
  rw [hC] at hc
  obtain ⟨_,hcl,hat⟩:=World.cells?_some hc
  obtain ⟨ys,n',-,hy,-,hyl,hfld⟩:=DataW.trod_struct he ht'
  obtain ⟨hD,-⟩:=Prod.mk.inj hy
  have hjl:j < fs.size:=(Array.getElem?_eq_some_iff.1 hj).1
  obtain ⟨ho,hk⟩:=hone_of hone j f hj
  have h1:=hfld j f hj
  rw [ho,hk,List.drop_eq_getElem_cons (show j < cs'.length by omega),List.take_succ_cons,List.take_zero,List.getElem?_eq_getElem (show j < ys.length by omega)] at h1
  have hcell:=hat j hjl
  rw [Go.Deep.add_add,List.getElem?_eq_getElem (show j < cs'.length by omega)] at hcell
  have hin:D i ∈ (List.range len).map D:=List.mem_map.2 ⟨i,List.mem_range.2 hil,rfl⟩
  have hyj:(ys.map (·.1))[j]?=some (ys[j]'(by omega)).1:=by
   rw [List.getElem?_map,List.getElem?_eq_getElem (show j < ys.length by omega)]
   rfl
  refine ⟨_,n',(ys[j]'(by omega)).1,(ys[j]'(by omega)).2,hcell,h1,fun k hk=>?_,?_⟩
  rotate_left
  ·have k1:=bulk_mem (List.mem_of_getElem? hyj)
   have k2:=bulk_agg (ys.map (·.1))
   have k3:=bulk_mem hin
   have k4:=bulk_slice ((List.range len).map D) ((List.range (m - len)).map fun j=>D (len+j))
   rw [hD] at k3
   omega
  refine weights_elem ht hw hin k ?_
  rw [hD]
  simp only [DataW.weights,he]
  refine DataW.weights_mem_each (j:=j) (t:=f.type) (d:=(ys[j]'(by omega)).1) ?_ hyj k hk
  rw [List.getElem?_map,Array.getElem?_toList,hj]
  rfl
theorem field_int {a:Addr} {t:TypeId} {k:IntKind} {B K:Nat} (ht:P.underlying t=some (.int k)) (h:FieldAt enc P W B K a t):∃ n,W.cell? a=some (.int k n)∧(Lit.int k n).wf=true:=by
 obtain ⟨v,fuel,d,ps,hc,htr,-⟩:=h
 obtain ⟨n,e,-,hwf⟩:=DataW.trod_int ht htr
 cases e
 exact ⟨n,hc,hwf⟩
end
section
variable {H:Type} {enc:TypeId × Value→H} {W:World}
theorem trod_slice_one {P:Program} {t e:TypeId} {fuel:Nat} {v:Value} {x:DataW H × List MemPlace} (ht:P.underlying t=some (.slice e)) (h:DataW.trod enc P W 0 (fun _=>true) true fuel t [v]=some x):∃ a len cap,v=.slice a len cap:=by
 rcases open_slice ht h with ⟨hcs,-⟩ | ⟨a,len,cap,_,_,_,_,hcs,-⟩ <;> (simp only [List.cons.injEq,and_true] at hcs;exact ⟨_,_,_,hcs⟩)
theorem field_bytes {a:Addr} {K:Nat} (h:FieldAt enc Tryz.prog W reachBytes K a 22):∃ p n c l,W.cell? a=some (.slice p n c)∧HasB W (.slice p n c) l∧l.length≤140737488355328∧l.length≤K:=by
 obtain ⟨v,fuel,d,ps,hc,htr,hw,hk⟩:=h
 obtain ⟨p,n,c,rfl⟩:=trod_slice_one Tryz.underlying22 htr
 obtain ⟨l,hl,hn⟩:=bytes_arg htr hw
 have h1:=slice_bulk Tryz.underlying22 htr
 obtain ⟨p',c',e⟩:=hl.slice
 cases e
 exact ⟨p,_,c,l,hc,hl,hn,Nat.le_trans h1 hk⟩
end
structure Act14 where
 kind:Int
 n:Int
 pb:Option Addr
 nb:Nat
 cb:Nat
 b:Bs
structure Act14At (w:World) (g j:Nat) (s:Act14):Prop where
 ck:w.cell? ⟨g,j,none⟩=some (.int .i64 s.kind)
 cn:w.cell? ⟨g,j+1,none⟩=some (.int .i64 s.n)
 c2:w.cell? ⟨g,j+2,none⟩=some (.slice s.pb s.nb s.cb)
 hb:HasB w (.slice s.pb s.nb s.cb) s.b
 ok:(-9223372036854775808≤s.kind∧s.kind≤9223372036854775807)∧(-9223372036854775808≤s.n∧s.n≤9223372036854775807)∧s.b.length≤140737488355328
def Acts14 (w:World) (p:Option Addr) (n:Nat) (l:List Act14):Prop:=l.length=n∧(l=[]∨∃ g o,p=some ⟨g,o,none⟩∧∀ i s,l[i]?=some s→Act14At w g (o+i * 3) s)
section
variable {H:Type} {enc:TypeId × Value→H} {W:World}
theorem zDW {g o i j K:Nat} {t:TypeId} (h:FieldAt enc Tryz.prog W reachBytes K ((⟨g,o,none⟩:Addr).add (i * 3+j)) t):FieldAt enc Tryz.prog W reachBytes K ⟨g,o+i * 3+j,none⟩ t:=by
 have e:(⟨g,o,none⟩:Addr).add (i * 3+j)=⟨g,o+i * 3+j,none⟩:=by unfold Addr.add;split <;> simp_all <;> omega
 rwa [e] at h
theorem acts14_arg {fuel:Nat} {d:DataW H} {ps:List MemPlace} {a:Option Addr} {len cap:Nat} (hf:DataW.trod enc Tryz.prog W 0 (fun _=>true) true fuel 98 [.slice a len cap]=some (d,ps)) (hw:∀ n ∈ d.weights Tryz.prog 98,n≤reachBytes) :
  ∃ l,Acts14 W a len l∧len≤140737488355328:=by
 rcases open_recs Tryz.underlying98 Tryz.underlying101 (by kernel_rfl) (by kernel_rfl) hf hw with ⟨rfl,rfl⟩ | ⟨x,rfl,hlen,hel⟩
 ·exact ⟨[],⟨rfl,.inl rfl⟩,by decide⟩
 ·rw [show Tryz.prog.bytesOf 101=40 by kernel_rfl] at hlen
  have hlen':len≤140737488355328:=by unfold reachBytes at hlen;omega
  by_cases h0:len=0
  ·subst h0
   exact ⟨[],⟨rfl,.inl rfl⟩,hlen'⟩
  obtain ⟨g,o,sp⟩:=x
  have hsp:sp=none:=by
   obtain ⟨v,_,_,_,hc,-⟩:=hel 0 (by omega) 0 _ rfl
   have:=World.cell?_spot hc
   simpa [Addr.add] using this
  subst hsp
  have hall:∀ i,i < len→∃ s:Act14,Act14At W g (o+i * 3) s:=fun i hi=>by
   obtain ⟨k,ck,wk⟩:=field_int Tryz.underlying3 (zDW (hel i hi 0 _ rfl))
   obtain ⟨n,cn,wn⟩:=field_int Tryz.underlying3 (zDW (hel i hi 1 _ rfl))
   obtain ⟨pb,nb,cb,lb,c4,hb,wb⟩:=field_bytes (zDW (hel i hi 2 _ rfl))
   have b1:=bounds_i64 wk
   have b2:=bounds_i64 wn
   exact ⟨⟨k,n,pb,nb,cb,lb⟩,⟨ck,cn,c4,hb,⟨⟨b1.1,b1.2⟩,⟨b2.1,b2.2⟩,wb.1⟩⟩⟩
  have inh:Inhabited Act14:=⟨⟨0,0,none,0,0,[]⟩⟩
  obtain ⟨f,hfn⟩:=choose_lt hall
  refine ⟨(List.range len).map f,⟨by simp,.inr ⟨g,o,rfl,fun i s hs=>?_⟩⟩,hlen'⟩
  rw [List.getElem?_map,Option.map_eq_some_iff] at hs
  obtain ⟨j,hj,rfl⟩:=hs
  obtain ⟨hj1,hj2⟩:=List.getElem?_eq_some_iff.1 hj
  have hji:j=i:=by simpa using hj2.symm
  subst hji
  exact hfn j (by simpa using hj1)
end
end Go.Proofs.YtapfnehdgailmaaGreat
namespace Go.Proofs.YtapfnehdgailmaaGreat
open Go.RowKit Go.Sat Go.Maps
def Light14 (l:List Act14) (hv:Bool):Prop:=hv=false→∀ i s,i < 70→l[i]?=some s→s.b.length≤2000
def HeavyTold14 (w:World) (l:List Act14) (e:Ending) (w':World):Prop:=∃ hv,e=.returned (.bool hv)∧Light14 l hv∧w'=w
theorem heavy14_calls {w:World} {p:Option Addr} {n c:Nat} {l:List Act14} (hx:Acts14 w p n l) (hn:n≤140737488355328) :
  Calls Tryz.prog 54 #[.slice p n c] w (HeavyTold14 w l):=by
 have Hx:=zh hx
 clear hx
 go_enter Tryz.func54,Tryz.ntmps54
 go_wp2_with fail
 go_loop [3,4] (fun a i=>∃ k x:Nat,k≤n∧k≤70∧i=.int .i64 k∧a=.int .i64 x∧x≤2000∧(∀ i s,i < k→l[i]?=some s→s.b.length≤2000)) (fun _ i=>n - (intOf i).toNat)
 case atStart=>exact ⟨0,0,Nat.zero_le _,by omega,rfl,rfl,by omega,fun i s h=>by omega⟩
 case round =>
  obtain ⟨k,x,hk,hk8,rfl,rfl,hx5,hall⟩:=hrel
  have Hall:=zh hall
  clear hall
  by_cases hlt:k < n
  ·by_cases h80:k < 70
   ·have hlen:=Hx.out.1
    have hkl:k < l.length:=by omega
    obtain ⟨s,hs⟩:∃ s,l[k]?=some s:=⟨_,List.getElem?_eq_getElem hkl⟩
    rcases Hx.out.2 with h0 | ⟨g,o,rfl,hat⟩
    ·rw [h0] at hkl
     simp at hkl
    have hst:=hat k s hs
    obtain ⟨-,-,ok3⟩:=hst.ok
    have c2:=hst.c2
    have hnb:s.nb=s.b.length:=by obtain ⟨_,_,e⟩:=hst.hb.slice;simp only [Value.slice.injEq] at e;exact e.2.1
    have Hs:=zh hs
    have Hnb:=zh hnb
    rw [← hnb] at ok3
    clear hst hat hs hkl hnb hlen
    generalize hNb:s.nb=nb at *
    have HNb:=zh hNb
    clear hNb
    by_cases h2:nb≤2000
    ·have Hnext:=zh (show ∀ i t,i < k+1→l[i]?=some t→t.b.length≤2000 from fun i t hi ht=>by
      by_cases hik:i < k
      ·exact Hall.out i t hik ht
      ·obtain rfl:i=k:=by omega
       rw [Hs.out] at ht
       cases ht
       rw [← Hnb.out]
       omega)
     by_cases hy5:x+30+nb≤2000
     ·go_wp2_with fail
      go_round
      case rel=>exact ⟨k+1,x+30+nb,by omega,by omega,by go_num,by go_num,hy5,Hnext.out⟩
      case measure=>simp [intOf];omega
     ·go_wp2_with fail
      go_ret
      exact ⟨true,rfl,(fun h=>by cases h),rfl⟩
    ·go_wp2_with fail
     go_ret
     exact ⟨true,rfl,(fun h=>by cases h),rfl⟩
   ·obtain rfl:k=70:=by omega
    have Hf:=zh (show Light14 l false from fun _ i s hi hs=>Hall.out i s hi hs)
    go_wp2_with fail
    go_ret
    exact ⟨false,rfl,Hf.out,rfl⟩
  ·have Hf:=zh (show Light14 l false from fun _ i s hi hs=>by
    have h1:=(List.getElem?_eq_some_iff.1 hs).1
    have h2:=Hx.out.1
    exact Hall.out i s (by omega) hs)
   go_wp2_with fail
   go_ret
   exact ⟨false,rfl,Hf.out,rfl⟩
def zDR (w wr:World) (d r:Nat) (vl vy:Value):Prop:=(∃ l y D M,vl=.pointer (some ⟨l,0,none⟩)∧vy=.pointer (some ⟨y,0,none⟩)∧zC1 w wr l d y r D M)∨(vl=.pointer none∧vy=.pointer none∧∃ D,Pair w wr d D r D)
theorem zDR.bel {w wr:World} {d r:Nat} {vl vy:Value} (h:zDR w wr d r vl vy):Below w.heap.size w wr:=by
 rcases h with ⟨_,_,_,_,-,-,h⟩ | ⟨-,-,_,h⟩
 ·exact h.bel
 ·exact h.bel
theorem OpenedL.both {w w':World} {d r:Nat} {R:zAA × Nat × LedM} {e:Ending} (h:OpenedL w d r R e w'):∃ vl vy,e=.returned (.tuple #[vl,vy,.bool true])∧zDR w w' d r vl vy:=by
 rcases h with ⟨-,l,y,rfl,hP⟩ | ⟨-,rfl,hP⟩
 ·exact ⟨_,_,rfl,.inl ⟨l,y,_,_,rfl,rfl,hP⟩⟩
 ·exact ⟨_,_,rfl,.inr ⟨rfl,rfl,_,hP⟩⟩
theorem lplays_walk {w:World} {p:Option Addr} {n c:Nat} {l:List Act14} (hx:Acts14 w p n l) (hn:n≤140737488355328) :
  Calls Tryz.prog 11 #[.slice p n c] w (True3 w):=by
 have Hx:=zh hx
 have Hhv:=zh (heavy14_calls (c:=c) hx hn)
 obtain ⟨i0,hi,hzz0,hzz1,hzz2⟩:=info_parts (show (Tryz.prog.info? 5).map (fun i=>(i.zero,i.size,i.bytes))=some (some (.int .u8 0),1,1) by kernel_rfl)
 clear hx
 go_enter Tryz.func11,Tryz.ntmps11
 go_wp2_with fail
 refine Hhv.out.mono ?_
 rintro e w1 ⟨hv,rfl,hlight,rfl⟩
 have Hlight:=zh hlight
 clear hlight Hhv
 cases hv with
 | true =>
  go_wp2_with fail
  go_ret
  exact ⟨rfl,Below.refl _ _⟩
 | false =>
  have Hnew:=zh (st_new (w:=w1) (w1:=w1) 65536 (by decide) (by decide) (Below.refl _ _))
  go_wp2_with fail
  refine Hnew.out.mono ?_
  rintro e w2 ⟨d,rfl,hd⟩
  have Hnew2:=zh (pair_new hd 65536 (by decide) (by decide))
  clear hd Hnew
  go_wp2_with fail
  refine Hnew2.out.mono ?_
  rintro e w3 ⟨r,rfl,hp⟩
  have Hop:=zh (zCS hp)
  clear hp Hnew2
  go_wp2_with fail
  refine Hop.out.mono ?_
  intro e w4 hO
  obtain ⟨vl,vy,rfl,hB⟩:=hO.both
  have HB:=zh hB
  clear hO hB Hop
  obtain ⟨w,rfl⟩:∃ w:World,w=w1:=⟨_,rfl⟩
  go_wp2_with fail
  go_loopw [7,8,9,10] (fun vl vy ok i wr=>∃ k:Nat,k≤n∧k≤70∧i=.int .i64 k∧ok=.bool true∧zDR w wr d r vl vy) (fun _ _ _ i _=>n - (intOf i).toNat)
  case atStart=>exact ⟨0,Nat.zero_le _,by omega,rfl,rfl,HB.out⟩
  case round =>
   clear HB
   obtain ⟨k,hk,hk8,rfl,rfl,hB⟩:=hrel
   have hbel:=hB.bel
   have HB:=zh hB
   clear hB
   by_cases hlt:k < n
   ·by_cases h80:k < 70
    ·have hkl:k < l.length:=by have:=Hx.out.1;omega
     obtain ⟨s,hs⟩:∃ s,l[k]?=some s:=⟨_,List.getElem?_eq_getElem hkl⟩
     rcases Hx.out.2 with hl0 | ⟨g,o,rfl,hat⟩
     ·rw [hl0] at hkl
      simp at hkl
     have hst:=hat k s hs
     have hsum:=Hlight.out rfl k s h80 hs
     obtain ⟨kd,m,pb,nb,cb,b⟩:=s
     dsimp only at hsum
     have c0:wr.cell? ⟨g,o+k * 3,none⟩=some (.int .i64 kd):=(hbel.cell (World.block_lt_of_cell? w _ hst.ck)).trans hst.ck
     have c1:wr.cell? ⟨g,o+k * 3+1,none⟩=some (.int .i64 m):=(hbel.cell (World.block_lt_of_cell? w _ hst.cn)).trans hst.cn
     have c2:wr.cell? ⟨g,o+k * 3+2,none⟩=some (.slice pb nb cb):=(hbel.cell (World.block_lt_of_cell? w _ hst.c2)).trans hst.c2
     obtain ⟨okk,⟨hm1,hm2⟩,-⟩:=hst.ok
     dsimp only at okk hm1 hm2
     have hlb:b.length=nb:=by obtain ⟨_,_,e⟩:=hst.hb.slice;simp only [Value.slice.injEq] at e;exact e.2.1.symm
     have Hbw:=zh (show HasB w (.slice pb nb cb) b from hst.hb)
     have Hbl:=zh (show b.length≤140737488355328 by omega)
     rw [hlb] at hsum
     have Hlb:=zh hlb
     clear hst hat hs hkl hlb
     have hb0:=zAb wr (.cells #[.int .i64 kd,.int .i64 m,.slice pb nb cb] 101)
     have Hb0:=zh (zAW wr (.cells #[.int .i64 kd,.int .i64 m,.slice pb nb cb] 101))
     have cb0:=zAC Hb0.out (i:=0) rfl
     have cb1:=zAC Hb0.out (i:=1) rfl
     have cb2:=zAC Hb0.out (i:=2) rfl
     rcases HB.out with ⟨l0,y0,D,M,rfl,rfl,hP⟩ | ⟨rfl,rfl,D,hP⟩
     ·have HP0:=zh ((hP.x.box (.cells #[.int .i64 kd,.int .i64 m,.slice pb nb cb] 101)).less (G':=fun k=>k=wr.heap.size) fun k hk=>.inr hk)
      clear hP HB hbel hb0
      go_upto_block 2 with fail
      go_cut [7,8,9] from 34 to 175 (fun s7 s8 s9 wx=>s9=.bool true∧zDR w wx d r s7 s8)
      case first =>
       generalize wr.alloc (.cells #[.int .i64 kd,.int .i64 m,.slice pb nb cb] 101)=W0 at *
       generalize wr.heap.size=bx at *
       clear c0 c1 c2
       by_cases k1:kd=1
       ·subst k1
        have Hal:=zh (zAq W0 5)
        have Hxx:=zh (show zAY (W0.alloc (.cells #[] 5)) 1 (.slice pb nb cb) nb (zAN b) from by
         have h1:=HasB.below (HasB.old Hbw.out HP0.out.bel) (zAb W0 (.cells #[] 5))
         unfold HasB at h1
         rwa [Hlb.out] at h1)
        have cbA:=zAT cb2 (.cells #[] 5)
        go_wp2_with (at_builtin;refine zAR _ rfl (.tmp 64) (.tmp 66) 22 rfl 5 i0 (.int .u8 0) 1 1 Tryz.underlying22 hi hzz0 hzz1 hzz2 rfl (by decide) (.slice (some ⟨W0.heap.size,0,none⟩) 0 0) 0 [] rfl Hal.out (.slice pb nb cb) nb _ rfl Hxx.out (zAM _) (by unfold maxLen;omega) (by omega) ?_;intro v7 w7 hown hgrow hloc;go_loud (have HN:=zh (zDG Hlb.out hown hgrow hloc);clear hgrow hloc hown Hal Hxx;obtain ⟨p7,c7,e7,-⟩:=zAX HN.out.1;rw [Hlb.out] at e7;subst e7;have Hap:=zh (px_append HP0.out HN.out.2.2 HN.out.1 HN.out.2.1 Hbl.out);generalize hZ:zAL pA D M b=Z at *))
        refine Hap.out.mono ?_
        rintro e w8 ⟨rfl,hp8,hs8⟩
        have Hb8:=zh ((hs8 bx rfl).trans ((HP0.out.same HN.out.2.2 bx rfl).trans Hb0.out))
        have cb2:=zAC Hb8.out (i:=2) rfl
        have Hra:=zh (px_rappend hp8 Hbw.out Hbl.out)
        clear hp8 hs8 Hap
        rw [hZ] at Hra
        clear hZ
        go_wp2_with fail
        refine Hra.out.mono ?_
        rintro e w9 ⟨rfl,hp9,-⟩
        have HE:=zh (show zDR w w9 d r (.pointer (some ⟨l0,0,none⟩)) (.pointer (some ⟨y0,0,none⟩)) from .inl ⟨l0,y0,_,_,rfl,rfl,hp9.toL⟩)
        clear hp9 Hra
        go_wp2_with fail
        go_meet
        exact ⟨rfl,HE.out⟩
       by_cases k2:kd=2
       ·subst k2
        have HLst:=zh (show Calls Tryz.prog 57 #[.pointer (some ⟨y0,0,none⟩)] W0.drew fun e w'=>e=.returned (.int .i64 (M.last:Int))∧∃ q,w'=W0.drew.drewN q from by
         obtain ⟨F,Hot,Cold,-,hR,-⟩:=HP0.out.next (zAH W0)
         exact zC6 hR)
        go_wp2_with fail
        refine zAK (fun w':World=>w'.cell? ⟨bx,1,none⟩=some (.int .i64 m)) (n:=8) (by kernel_rfl) rfl cb1 (fun hHeld=>?_)
        refine pl [0,2,3,4] ?_
        iterate 4 (refine pc rfl ?_;simp only [Act.put,uA,uB,uC])
        refine pn ?_
        refine zAB 1 rfl (by kernel_rfl) (by rfl) (fun K hK=>?_)
        go_wp2_with fail
        refine HLst.out.mono ?_
        rintro e wl ⟨rfl,q,rfl⟩
        have HPl:=zh (HP0.out.next (show Below W0.heap.size W0 (W0.drew.drewN q) from ⟨rfl,rfl,rfl,Nat.le_refl _,fun _ _=>rfl⟩))
        have Hbl2:=zh (show (W0.drew.drewN q).heap[bx]?=_ from Hb0.out)
        generalize W0.drew.drewN q=Wl at *
        have cb1:=zAC Hbl2.out (i:=1) rfl
        have cb2:=zAC Hbl2.out (i:=2) rfl
        go_wp2_with fail
        refine hK.out _ _ cb1 (fun hHeld=>?_)
        clear hK
        try simp only [Act.put,uA,uB,uC]
        refine pl [5,6,7] ?_
        iterate 3 (refine pc rfl ?_;simp only [Act.put,uA,uB,uC])
        refine pn ?_
        refine wpAnyH_done (by kernel_rfl) ?_ _
        clear hHeld HLst
        have hkr:=bounds_i64 (wf_wrap .i64 (IntKind.i64.wrap ((M.last:Int)+bits .and .i64 m 3) - 1))
        generalize IntKind.i64.wrap (IntKind.i64.wrap ((M.last:Int)+bits .and .i64 m 3) - 1)=ki at *
        have Hkr:=zh (show -9223372036854775808≤ki∧ki≤9223372036854775807 from ⟨hkr.1,hkr.2⟩)
        clear hkr cb1
        go_wp2_with fail
        refine zAK (fun w':World=>w'.cell? ⟨bx,2,none⟩=some (.slice pb nb cb)) (n:=14) (by kernel_rfl) rfl cb2 (fun hHeld=>?_)
        refine pl [0,1,3,4,7,8,9,10] ?_
        iterate 8 (refine pc rfl ?_;simp only [Act.put,uA,uB,uC])
        refine pn ?_
        have HPd:=zh (HPl.out.next (zAH Wl))
        have Hbd:=zh (show Wl.drew.heap[bx]?=_ from Hbl2.out)
        clear HPl Hbl2 cb2
        generalize Wl.drew=Wd at *
        refine zAB 2 rfl (by kernel_rfl) (by rfl) (fun K hK=>?_)
        have Hh:=zh (zAT hHeld (.cells #[] 5))
        go_wp2_with fail
        refine hK.out _ _ Hh.out (fun hHeld=>?_)
        clear hK
        try simp only [Act.put,uA,uB,uC]
        refine zAB 5 rfl (by kernel_rfl) (by rfl) (fun K hK=>?_)
        have Hal:=zh (zAq Wd 5)
        have Hxx:=zh (show zAY (Wd.alloc (.cells #[] 5)) 1 (.slice pb nb cb) nb (zAN b) from by
         have h1:=HasB.below (HasB.old Hbw.out HPd.out.bel) (zAb Wd (.cells #[] 5))
         unfold HasB at h1
         rwa [Hlb.out] at h1)
        refine zAi (.tmp 97) (.tmp 99) 22 rfl 5 i0 (.int .u8 0) 1 1 Tryz.underlying22 hi hzz0 hzz1 hzz2 rfl (by decide) (.slice (some ⟨Wd.heap.size,0,none⟩) 0 0) 0 [] rfl Hal.out (.slice pb nb cb) nb _ rfl Hxx.out (zAM _) (by unfold maxLen;omega) (by omega) ?_
        intro v7 w7 hown hgrow hloc
        have HN:=zh (zDG Hlb.out hown hgrow hloc)
        clear hgrow hloc hown Hal Hxx hHeld
        obtain ⟨p7,c7,e7,-⟩:=zAX HN.out.1
        rw [Hlb.out] at e7
        subst e7
        have Hwr:=zh (px_write HPd.out ki Hkr.out HN.out.2.2 HN.out.1 HN.out.2.1 Hbl.out)
        have Hb7:=zh ((HPd.out.same HN.out.2.2 bx rfl).trans Hbd.out)
        have Hh:=zh (show w7.cell? ⟨bx,2,none⟩=some (.slice pb nb cb) from zAC Hb7.out rfl)
        generalize hZ:zAV pA D M ki b=Z at *
        go_wp2_with fail
        refine hK.out _ _ Hh.out (fun hHeld=>?_)
        clear hK
        try simp only [Act.put,uA,uB,uC]
        refine zAB 6 rfl (by kernel_rfl) (by rfl) (fun K hK=>?_)
        go_wp2_with fail
        refine Hwr.out.mono ?_
        rintro e w8 ⟨rfl,hp8,hs8⟩
        have Hh:=zh (show w8.cell? ⟨bx,2,none⟩=some (.slice pb nb cb) from zAC ((hs8 bx rfl).trans Hb7.out) rfl)
        have Hra:=zh (px_rwrite hp8 ki Hkr.out Hbw.out Hbl.out)
        rw [hZ] at Hra
        clear hp8 hs8 Hwr hZ hHeld
        go_wp2_with fail
        refine hK.out _ _ Hh.out (fun hHeld=>?_)
        clear hK
        try simp only [Act.put,uA,uB,uC]
        refine zAB 11 rfl (by kernel_rfl) (by rfl) (fun K hK=>?_)
        go_wp2_with fail
        refine Hra.out.mono ?_
        rintro e w9 ⟨rfl,hp9,hs9⟩
        have HE:=zh (show zDR w w9 d r (.pointer (some ⟨l0,0,none⟩)) (.pointer (some ⟨y0,0,none⟩)) from .inl ⟨l0,y0,_,_,rfl,rfl,hp9.toL⟩)
        have Hh:=zh (show w9.cell? ⟨bx,2,none⟩=some (.slice pb nb cb) from (World.cell?_of_block (a:=⟨bx,2,none⟩) (hs9 bx rfl)).trans hHeld)
        clear hp9 hs9 Hra hHeld
        go_wp2_with fail
        refine hK.out _ _ Hh.out (fun hHeld=>?_)
        clear hK
        try simp only [Act.put,uA,uB,uC]
        refine pl [12,13] ?_
        iterate 2 (refine pc rfl ?_;simp only [Act.put,uA,uB,uC])
        refine pn ?_
        refine wpAnyH_done (by kernel_rfl) ?_ _
        clear hHeld
        go_wp2_with fail
        go_meet
        exact ⟨rfl,HE.out⟩
       by_cases k3:kd=3
       ·subst k3
        have Hcr:=zh (pairf_disk0 (D':=D.crash m) HP0.out.pairF (Below.refl _ _) fun _ hS=>st_crash hS m hm1 hm2)
        go_wp2_with fail
        refine Hcr.out.mono ?_
        rintro e wa ⟨rfl,hpa,hsa⟩
        have ca1:=zAC ((hsa bx rfl).trans Hb0.out) (i:=1) rfl
        have Hrc:=zh (pairf_rcrash hpa m hm1 hm2)
        clear hpa hsa Hcr
        go_wp2_with fail
        refine Hrc.out.mono ?_
        rintro e wb ⟨rfl,hpb,-⟩
        have Hop:=zh (zCS hpb.pair)
        clear hpb Hrc ca1
        go_wp2_with fail
        refine Hop.out.mono ?_
        intro e wo hO
        obtain ⟨vl,vy,rfl,hBo⟩:=hO.both
        have HBo:=zh hBo
        clear hO hBo Hop
        go_wp2_with fail
        go_meet
        exact ⟨rfl,HBo.out⟩
       by_cases k4:kd=4
       ·subst k4
        have Hfu:=zh (px_fuse HP0.out m hm1 hm2)
        go_wp2_with fail
        refine Hfu.out.mono ?_
        rintro e wa ⟨rfl,hpa,hsa⟩
        have ca1:=zAC ((hsa bx rfl).trans Hb0.out) (i:=1) rfl
        have Hrf:=zh (px_rfuse hpa m hm1 hm2)
        clear hpa hsa Hfu
        go_wp2_with fail
        refine Hrf.out.mono ?_
        rintro e wb ⟨rfl,hpb,-⟩
        have HE:=zh (show zDR w wb d r (.pointer (some ⟨l0,0,none⟩)) (.pointer (some ⟨y0,0,none⟩)) from .inl ⟨l0,y0,_,_,rfl,rfl,hpb.toL⟩)
        clear hpb Hrf ca1
        go_wp2_with fail
        go_meet
        exact ⟨rfl,HE.out⟩
       by_cases k5:kd=5
       ·subst k5
        have Hdr:=zh (px_drop HP0.out)
        generalize hZ:zA8 pA D M=Z at *
        go_wp2_with fail
        refine Hdr.out.mono ?_
        rintro e wa ⟨rfl,hpa,-⟩
        have Hrd:=zh (px_rdrop hpa)
        rw [hZ] at Hrd
        clear hpa Hdr hZ
        go_wp2_with fail
        refine Hrd.out.mono ?_
        rintro e wb ⟨rfl,hpb,-⟩
        have HPb:=zh hpb.toL.pair
        obtain ⟨own2,v2,L2,hS2,hR2,-⟩:=hpb.toL.pair
        have HF:=zh (zBa hS2.noF hR2)
        clear hpb Hrd hS2 hR2
        go_wp2_with fail
        refine HF.out.mono ?_
        rintro e wf ⟨rfl,hbf⟩
        have Hop:=zh (zCS (HPb.out.next hbf))
        clear hbf HF
        go_wp2_with fail
        refine Hop.out.mono ?_
        intro e wo hO
        obtain ⟨vl,vy,rfl,hBo⟩:=hO.both
        have HBo:=zh hBo
        clear hO hBo Hop
        go_wp2_with fail
        go_meet
        exact ⟨rfl,HBo.out⟩
       have q1:(kd == 1)=false:=by simpa using k1
       have q2:(kd == 2)=false:=by simpa using k2
       have q3:(kd == 3)=false:=by simpa using k3
       have q4:(kd == 4)=false:=by simpa using k4
       have q5:(kd == 5)=false:=by simpa using k5
       have HE:=zh (show zDR w W0 d r (.pointer (some ⟨l0,0,none⟩)) (.pointer (some ⟨y0,0,none⟩)) from .inl ⟨l0,y0,_,_,rfl,rfl,HP0.out.toL⟩)
       clear k1 k2 k3 k4 k5
       go_wp2_with fail
       go_meet
       exact ⟨rfl,HE.out⟩
      case rest =>
       obtain ⟨rfl,hB⟩:=hcut
       clear HP0 Hb0 cb0 cb1 cb2 c0 c1 c2 hm1 hm2 okk
       rcases hB with ⟨l',y',D',M',rfl,rfl,hP⟩ | ⟨rfl,rfl,D',hP⟩
       ·have HP:=zh hP
        obtain ⟨own2,v2,L2,hS2,hR2,-⟩:=hP.pair
        have HF:=zh (zBa hS2.noF hR2)
        clear hP hS2 hR2
        go_wp2_with fail
        refine HF.out.mono ?_
        rintro e wf ⟨rfl,hbf⟩
        have HPf:=zh (HP.out.next hbf)
        obtain ⟨dvf,evf,hcf⟩:=HPf.out.ref.cells
        have kf:wf.cell? ⟨y',5,none⟩=some (.bool M'.dead):=zAC hcf rfl
        have HAl:=zh (show Calls Tryz.prog 63 #[.pointer (some ⟨l',0,none⟩),.pointer (some ⟨y',0,none⟩)] wf (zDS wf M' M') from by
         have h9:=HPf.out.ref
         obtain ⟨F,Hot,Cold,hL,-,-⟩:=HPf.out
         exact zC3 hL h9)
        clear hbf hcf HF HP
        cases hdd:M'.dead with
        | true =>
         rw [hdd] at kf
         clear hdd
         have HE:=zh (show zDR w wf d r (.pointer (some ⟨l',0,none⟩)) (.pointer (some ⟨y',0,none⟩)) from .inl ⟨l',y',D',M',rfl,rfl,HPf.out⟩)
         go_wp2_with fail
         go_roundw
         case rel=>first | exact ⟨k+1,by omega,by omega,by go_num,rfl,HE.out⟩ | ((repeat apply Exists.intro);exact ⟨⟨by omega,by omega,by go_num,rfl,HE.out⟩,rfl⟩)
         case measure=>simp [intOf];omega
        | false =>
         rw [hdd] at kf
         clear hdd
         go_wp2_with fail
         refine HAl.out.mono ?_
         rintro e wg ⟨b9,rfl,hb9,hbg⟩
         obtain rfl:=hb9 ⟨rfl,rfl,rfl⟩
         have HE:=zh (show zDR w wg d r (.pointer (some ⟨l',0,none⟩)) (.pointer (some ⟨y',0,none⟩)) from .inl ⟨l',y',D',M',rfl,rfl,HPf.out.next hbg⟩)
         clear hb9 hbg HAl HPf
         go_wp2_with fail
         go_roundw
         case rel=>first | exact ⟨k+1,by omega,by omega,by go_num,rfl,HE.out⟩ | ((repeat apply Exists.intro);exact ⟨⟨by omega,by omega,by go_num,rfl,HE.out⟩,rfl⟩)
         case measure=>simp [intOf];omega
       ·have HP:=zh hP
        obtain ⟨own2,v2,L2,hS2,hR2,-⟩:=hP
        have HF:=zh (zBa hS2.noF hR2)
        clear hS2 hR2
        go_wp2_with fail
        refine HF.out.mono ?_
        rintro e wf ⟨rfl,hbf⟩
        have HE:=zh (show zDR w wf d r (.pointer none) (.pointer none) from .inr ⟨rfl,rfl,D',HP.out.next hbf⟩)
        clear hbf HF HP
        go_wp2_with fail
        go_roundw
        case rel=>first | exact ⟨k+1,by omega,by omega,by go_num,rfl,HE.out⟩ | ((repeat apply Exists.intro);exact ⟨⟨by omega,by omega,by go_num,rfl,HE.out⟩,rfl⟩)
        case measure=>simp [intOf];omega
     ·have HP0:=zh ((hP.apart.box (.cells #[.int .i64 kd,.int .i64 m,.slice pb nb cb] 101)).less (F':=fun k=>k=wr.heap.size) fun k hk=>.inr hk)
      clear hP HB hbel hb0
      by_cases k3:kd=3
      ·subst k3
       go_upto_block 2 with fail
       generalize hW0:wr.alloc (.cells #[.int .i64 3,.int .i64 m,.slice pb nb cb] 101)=W0 at *
       generalize hbx:wr.heap.size=bx at *
       clear c0 c1 c2 hW0
       have Hcr:=zh (pairf_disk0 (D':=D.crash m) HP0.out (Below.refl _ _) fun _ hS=>st_crash hS m hm1 hm2)
       go_wp2_with fail
       refine Hcr.out.mono ?_
       rintro e wa ⟨rfl,hpa,hsa⟩
       have ca1:=zAC ((hsa bx rfl).trans Hb0.out) (i:=1) rfl
       have Hrc:=zh (pairf_rcrash hpa m hm1 hm2)
       clear hpa hsa Hcr
       go_wp2_with fail
       refine Hrc.out.mono ?_
       rintro e wb ⟨rfl,hpb,-⟩
       have Hop:=zh (zCS hpb.pair)
       clear hpb Hrc ca1
       go_wp2_with fail
       refine Hop.out.mono ?_
       intro e wo hO
       obtain ⟨vl,vy,rfl,hBo⟩:=hO.both
       have HBo:=zh hBo
       clear hO hBo Hop
       clear HP0 Hb0 cb0 cb1 cb2 hm1 hm2 okk
       rcases HBo.out with ⟨l',y',D',M',rfl,rfl,hP⟩ | ⟨rfl,rfl,D',hP⟩
       ·clear HBo
        have HP:=zh hP
        obtain ⟨own2,v2,L2,hS2,hR2,-⟩:=hP.pair
        have HF:=zh (zBa hS2.noF hR2)
        clear hP hS2 hR2
        go_wp2_with fail
        refine HF.out.mono ?_
        rintro e wf ⟨rfl,hbf⟩
        have HPf:=zh (HP.out.next hbf)
        obtain ⟨dvf,evf,hcf⟩:=HPf.out.ref.cells
        have kf:wf.cell? ⟨y',5,none⟩=some (.bool M'.dead):=zAC hcf rfl
        have HAl:=zh (show Calls Tryz.prog 63 #[.pointer (some ⟨l',0,none⟩),.pointer (some ⟨y',0,none⟩)] wf (zDS wf M' M') from by
         have h9:=HPf.out.ref
         obtain ⟨F,Hot,Cold,hL,-,-⟩:=HPf.out
         exact zC3 hL h9)
        clear hbf hcf HF HP
        cases hdd:M'.dead with
        | true =>
         rw [hdd] at kf
         clear hdd
         have HE:=zh (show zDR w wf d r (.pointer (some ⟨l',0,none⟩)) (.pointer (some ⟨y',0,none⟩)) from .inl ⟨l',y',D',M',rfl,rfl,HPf.out⟩)
         go_wp2_with fail
         go_roundw
         case rel=>first | exact ⟨k+1,by omega,by omega,by go_num,rfl,HE.out⟩ | ((repeat apply Exists.intro);exact ⟨⟨by omega,by omega,by go_num,rfl,HE.out⟩,rfl⟩)
         case measure=>simp [intOf];omega
        | false =>
         rw [hdd] at kf
         clear hdd
         go_wp2_with fail
         refine HAl.out.mono ?_
         rintro e wg ⟨b9,rfl,hb9,hbg⟩
         obtain rfl:=hb9 ⟨rfl,rfl,rfl⟩
         have HE:=zh (show zDR w wg d r (.pointer (some ⟨l',0,none⟩)) (.pointer (some ⟨y',0,none⟩)) from .inl ⟨l',y',D',M',rfl,rfl,HPf.out.next hbg⟩)
         clear hb9 hbg HAl HPf
         go_wp2_with fail
         go_roundw
         case rel=>first | exact ⟨k+1,by omega,by omega,by go_num,rfl,HE.out⟩ | ((repeat apply Exists.intro);exact ⟨⟨by omega,by omega,by go_num,rfl,HE.out⟩,rfl⟩)
         case measure=>simp [intOf];omega
       ·clear HBo
        have HP:=zh hP
        obtain ⟨own2,v2,L2,hS2,hR2,-⟩:=hP
        have HF:=zh (zBa hS2.noF hR2)
        clear hS2 hR2
        go_wp2_with fail
        refine HF.out.mono ?_
        rintro e wf ⟨rfl,hbf⟩
        have HE:=zh (show zDR w wf d r (.pointer none) (.pointer none) from .inr ⟨rfl,rfl,D',HP.out.next hbf⟩)
        clear hbf HF HP
        go_wp2_with fail
        go_roundw
        case rel=>first | exact ⟨k+1,by omega,by omega,by go_num,rfl,HE.out⟩ | ((repeat apply Exists.intro);exact ⟨⟨by omega,by omega,by go_num,rfl,HE.out⟩,rfl⟩)
        case measure=>simp [intOf];omega
      ·have k3':(kd != 3)=true:=by simpa using k3
       have HE:=zh (show zDR w (wr.alloc (.cells #[.int .i64 kd,.int .i64 m,.slice pb nb cb] 101)) d r (.pointer none) (.pointer none) from .inr ⟨rfl,rfl,D,HP0.out.pair⟩)
       go_wp2_with fail
       go_roundw
       case rel=>first | exact ⟨k+1,by omega,by omega,by go_num,rfl,HE.out⟩ | ((repeat apply Exists.intro);exact ⟨⟨by omega,by omega,by go_num,rfl,HE.out⟩,rfl⟩)
       case measure=>simp [intOf];omega
    ·obtain rfl:k=70:=by omega
     have Hkn:=zh (knownL_calls wr)
     have HBe:=zh hbel
     clear hbel HB
     go_wp2_with fail
     refine Hkn.out.mono ?_
     rintro e w' ⟨rfl,hb⟩
     have HE:=zh (show True3 w (.returned (.bool true)) w' from ⟨rfl,HBe.out.trans (hb.mono HBe.out.size)⟩)
     clear hb Hkn
     go_wp2_with fail
     go_ret
     exact HE.out
   ·have Hkn:=zh (knownL_calls wr)
    have HBe:=zh hbel
    clear hbel HB
    go_wp2_with fail
    refine Hkn.out.mono ?_
    rintro e w' ⟨rfl,hb⟩
    have HE:=zh (show True3 w (.returned (.bool true)) w' from ⟨rfl,HBe.out.trans (hb.mono HBe.out.size)⟩)
    clear hb Hkn
    go_wp2_with fail
    go_ret
    exact HE.out
end Go.Proofs.YtapfnehdgailmaaGreat
