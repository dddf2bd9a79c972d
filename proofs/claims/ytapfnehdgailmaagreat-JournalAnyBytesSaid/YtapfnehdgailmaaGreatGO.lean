/- The document's disk: a cell of a file is written; Sync. The document's disk: Truncate. (Its walk is printed by mkr.py.) The document's journal: Group. The document's Is (satrapyref5). (Printed by mkrk1.py out of the text JouB.) The document's check sum (satrapyref1.Sum) is the program's. The document's Four and FromFour. The document's Encode (satrapyref2). -/
import Derived.StillTailTactics
import Derived.Test.YtapfnehdgailmaaGreatGA
import Derived.Test.YtapfnehdgailmaaGreatGD
import Derived.Test.YtapfnehdgailmaaGreatGF
import Derived.Test.YtapfnehdgailmaaGreatGN
set_option maxRecDepth 100000
set_option maxHeartbeats 64000000
namespace Go.Sat
open Go.RowKit
theorem OwnR.set {w:World} {e:TypeId} {size:Nat} {v:Value} {n:Nat} {xs:List Value} (h:OwnR w e size v n xs) {g:Nat} (hg:v.ownBlock=some g) (j:Nat) (u:Value):OwnR (w.setCell ⟨g,j,none⟩ u) e size v n (xs.set j u):=by
 refine ⟨by rw [List.length_set];exact h.1,?_⟩
 rcases h.2 with ⟨rfl,_⟩ | ⟨g',cap,cur,rfl,hgg,hnc,hcm,hcs,ht⟩
 ·cases hg
 ·cases hg
  refine .inr ⟨g',cap,cur.setIfInBounds j u,rfl,zAE hgg j u,hnc,hcm,by simpa using hcs,?_⟩
  rw [← ht,Array.toList_setIfInBounds,List.take_set]
end Go.Sat
namespace Go.Proofs.YtapfnehdgailmaaGreat
open Go.RowKit Go.Sat Go.Maps
theorem cells_set (L:List zAN) (i:Nat) (x x':zAN) (h:L[i]?=some x) (j:Nat) (hj:j < 3) (u:Value) (hc:x'.cells=x.cells.set j u):(L.flatMap zAN.cells).set (i * 3+j) u=(L.set i x').flatMap zAN.cells:=by
 induction L generalizing i with
 | nil=>simp at h
 | cons y r ih =>
  have hy:y.cells.length=3:=rfl
  rw [List.flatMap_cons]
  cases i with
  | zero =>
   simp at h
   subst h
   rw [List.set_cons_zero,List.flatMap_cons,hc,List.set_append_left _ _ (by omega),Nat.zero_mul,Nat.zero_add]
  | succ i =>
   rw [List.set_cons_succ,List.flatMap_cons,List.set_append_right _ _ (by omega),← ih i (by simpa using h)]
   congr 2
   omega
structure zAm (w:World) (r:Nat) (v:Value) (L:List zAN) (own:Nat→Prop) (room:Nat) (fuse:Option Nat):Prop where
 cells:w.heap[r]?=some (.cells #[.int .i64 (room:Int),v,.int .i64 (leftOf fuse)] 118 (0,0))
 row:OwnR w 127 3 v L.length (L.flatMap zAN.cells)
 data:∀ x ∈ L,OwnB w 5 x.b x.f.data
 or:own r
 ov:∀ k,v.ownBlock=some k→own k∧k≠r
 ob:∀ x ∈ L,∀ k,x.b.ownBlock=some k→own k∧k≠r∧v.ownBlock≠some k
 olt:∀ k,own k→k < w.heap.size
section
variable {w:World} {r:Nat} {v:Value} {L:List zAN} {own:Nat→Prop} {D:zAB} {room:Nat} {fuse:Option Nat}
theorem zAY.core (h:zAY w r v L own D):zAm w r v L own D.room D.fuse:=⟨h.cells,h.row,h.data,h.or,h.ov,h.ob,h.olt⟩
theorem zAm.full (h:zAm w r v L own room fuse) (hr:D.room=room) (hf:D.fuse=fuse) (hL:D.files=L.map zAN.key) (ok:D.OK):zAY w r v L own D:=by
 subst hr
 subst hf
 exact ⟨h.cells,h.row,hL,h.data,h.or,h.ov,h.ob,h.olt,ok⟩
theorem zAm.at (h:zAm w r v L own room fuse) {g:Nat} (hg:v.ownBlock=some g) {i:Nat} {x:zAN} (hx:L[i]?=some x):w.cell? ⟨g,i * 3,none⟩=some (encStr x.n)∧w.cell? ⟨g,i * 3+1,none⟩=some x.b∧w.cell? ⟨g,i * 3+2,none⟩=some (.int .i64 (x.f.lasts:Int)):=by
 have hc:=h.row.cells hg
 refine ⟨?_,?_,?_⟩
 ·have:=hc (i * 3+0) (encStr x.n) ((zD1 L i x hx 0 (by omega)).trans rfl)
  rwa [add_zero] at this
 ·have:=hc (i * 3+1) x.b ((zD1 L i x hx 1 (by omega)).trans rfl)
  rwa [add_zero] at this
 ·have:=hc (i * 3+2) _ ((zD1 L i x hx 2 (by omega)).trans rfl)
  rwa [add_zero] at this
theorem mem_set {α:Type} {L:List α} {i:Nat} {x' y:α} (h:y ∈ L.set i x'):y ∈ L∨y=x':=List.mem_or_eq_of_mem_set h
theorem zAm.store (h:zAm w r v L own room fuse) {g:Nat} (hg:v.ownBlock=some g) {i:Nat} {x:zAN} (hx:L[i]?=some x) (j:Nat) (hj:j < 3) (u:Value) (x':zAN) (hc:x'.cells=x.cells.set j u)
  {own':Nat→Prop} (hown:∀ k,own k→own' k) (hd:OwnB w 5 x'.b x'.f.data) (hb:∀ k,x'.b.ownBlock=some k→own' k∧k≠r∧k≠g) (holt:∀ k,own' k→k < w.heap.size) :
  zAm (w.setCell ⟨g,i * 3+j,none⟩ u) r v (L.set i x') own' room fuse where
 cells:=(set_other u (h.ov g hg).2.symm).trans h.cells
 row:=by
  rw [List.length_set,← cells_set L i x x' hx j hj u hc]
  exact h.row.set hg _ _
 data:=fun y hy=>by
  rcases mem_set hy with hy | rfl
  ·exact OwnR.keep (h.data y hy) fun k hk=>set_other u (fun e=>(h.ob y hy k hk).2.2 (by rw [hg];exact congrArg some e.symm))
  ·exact OwnR.keep hd fun k hk=>set_other u (hb k hk).2.2
 or:=hown r h.or
 ov:=fun k hk=>⟨hown k (h.ov k hk).1,(h.ov k hk).2⟩
 ob:=fun y hy k hk=>by
  rcases mem_set hy with hy | rfl
  ·exact ⟨hown k (h.ob y hy k hk).1,(h.ob y hy k hk).2⟩
  ·exact ⟨(hb k hk).1,(hb k hk).2.1,fun e=>(hb k hk).2.2 (Option.some.inj (e.symm.trans hg))⟩
 olt:=fun k hk=>by
  have:=holt k hk
  simpa [World.setCell] using this
theorem zAm.free (h:zAm w r v L own room fuse) {g:Nat} (hg:v.ownBlock=some g) (j:Nat):w.frozen? ⟨g,j,none⟩=false:=by
 rcases h.row.2 with ⟨rfl,_⟩ | ⟨g',cap,cur,rfl,hgg,_⟩
 ·cases hg
 ·cases hg
  exact zAF hgg j
def zCL (w:World) (r:Nat) (own:Nat→Prop) (R:zAB × Nat) (e:Ending) (w':World):Prop :=
 e=.returned (.int .i64 (R.2:Int))∧∃ own',RefAt w' r R.1 own'∧Chg own w w'∧∀ k,own' k→own k∨w.heap.size≤k
theorem zAY.below (h:zAY w r v L own D) {w':World} (hb:Below w.heap.size w w'):zAY w' r v L own D:=h.keep hb.size fun k hk=>hb.block k (h.olt k hk)
theorem zCM {w' w'':World} (hb:Below w.heap.size w w') (hc:Chg own w' w''):Chg own w w'' :=
 ((Chg.of_below hb).mono fun _ _ h=>h.elim).trans hc fun _ _ h=>h
theorem zBM (h:zAY w r v L own D) {w':World} (hb:Below w.heap.size w w') (k:Nat):zCL w r own (D,k) (.returned (.int .i64 (k:Int))) w' :=
 ⟨rfl,own,⟨v,L,h.below hb⟩,(Chg.of_below hb).mono fun _ _ h=>h.elim,fun _ h=>.inl h⟩
theorem zAg (w:World) (o:Obj) (q:Nat):Below w.heap.size w ((w.alloc o).drewN q):=((Below.refl _ _).alloc (Nat.le_refl _) o).trans ⟨rfl,rfl,rfl,Nat.le_refl _,fun _ _=>rfl⟩
theorem zD9 {ns:List Bs} (h:D.may ns=0):D.fuse≠some 0:=fun e=>by
 unfold zAB.may at h
 rw [if_pos e] at h
 cases h
theorem zCs {D1:zAB} {v':Value} {L':List zAN} {own':Nat→Prop} {w1 w2:World} {e:Ending} (hc:Chg own w w1) (hx:∀ k,own' k→own k∨w.heap.size≤k) (_ho:w.heap.size≤w1.heap.size)
  (h:e=.returned (.int .i64 0)∧zAY w2 r v' L' own' D1.done∧Chg own' w1 w2):zCL w r own (D1.done,0) e w2:=by
 obtain ⟨rfl,h2,hc2⟩:=h
 refine ⟨rfl,own',⟨v',L',h2⟩,hc.trans hc2 fun k hk hT=>?_,hx⟩
 rcases hx k hT with h | h
 ·exact h
 ·omega
theorem map_set_key (L:List zAN) (i:Nat) (x:zAN):(L.set i x).map zAN.key=(L.map zAN.key).set i x.key:=List.map_set ..
theorem zAY.put (h:zAY w r v L own D) {n:Bs} {f:zAV} (hg:Sat.get n D.files=some f) (x':zAN) (hn:x'.n=n):put n x'.f D.files=(L.set (zAo n (L.map zAN.n)) x').map zAN.key:=by
 have h1:isAt n (D.files.map (·.1))=true:=by rw [(zEx n h.ok.srt).1,hg];rfl
 rw [put_at n x'.f h.ok.srt h1,map_set_key,← h.files,h.names]
 unfold zAN.key
 rw [hn]
theorem zDc (h:zAY w r v L own D) (s:ByteArray) (hs:s.size≤9223372036854775807) :
  Calls Tryz.prog 91 #[.pointer (some ⟨r,0,none⟩),.string s] w (zCL w r own (D.sync [nm s])):=by
 have h1:zAY (w.alloc (.cells #[.string s] 9)) r v L own D:=h.below ((Below.refl _ _).alloc (Nat.le_refl _) _)
 have hmay:=zBs h1 (some ⟨w.heap.size,0,none⟩) [s] 1 (zBB w s) (by simp) (by simpa using hs)
 simp only [List.map_cons,List.map_nil] at hmay
 unfold zAB.sync
 rw [each_one]
 by_cases hm:D.may [nm s]=0
 ·have hsp:=zBU h1 s
  rw [h.is] at hsp
  rw [hm] at hmay
  cases hg:Sat.get (nm s) D.files with
  | none =>
   rw [hg] at hsp
   have hR:zAB.each1 zAB.gSync D (nm s)=(D,7):=by unfold zAB.each1;rw [if_neg (by rw [hm];simp),hg]
   rw [hR]
   have Hf:=zh (fun q=>zBM h (zAg w (.cells #[.string s] 9) q) 7)
   have Hmay:=zh hmay
   have Hsp:=zh hsp
   clear h h1 hmay hsp hm hR hg
   go_enter Tryz.func91,Tryz.ntmps91
   go_wp2_with fail
   refine Hmay.out.mono ?_
   rintro e w2 ⟨rfl,rfl⟩
   go_wp2_with fail
   refine Hsp.out.mono ?_
   rintro e w3 ⟨rfl,q,rfl⟩
   go_wp2_with fail
   go_ret
   exact Hf.out q
  | some f =>
   rw [hg] at hsp
   obtain ⟨x,hx,hxn,rfl⟩:=h.hit hg
   have hlm:=h.len_le hx
   have hput:=h.put hg ⟨x.n,x.b,⟨x.f.data,x.f.data.length⟩⟩ hxn
   have hxm:=List.mem_of_getElem? hx
   have hN:zAo (nm s) (L.map zAN.n) < L.length:=(List.getElem?_eq_some_iff.1 hx).1
   have hR:zAB.each1 zAB.gSync D (nm s)=(zAB.done { D with files:=zAB.gSync (nm s) x.f D.files },0):=by unfold zAB.each1;rw [if_neg (by rw [hm];simp),hg]
   rw [hR]
   have hok:=ok_sync h.ok hg
   generalize zAo (nm s) (L.map zAN.n)=i at *
   have hFin:∀ W g,Below w.heap.size w W→v.ownBlock=some g→zAY (W.setCell ⟨g,i * 3+2,none⟩ (.int .i64 (x.f.data.length:Int))) r v (L.set i ⟨x.n,x.b,⟨x.f.data,x.f.data.length⟩⟩) own { D with files:=zAB.gSync (nm s) x.f D.files }:=fun W g hbW hgv=>by
    have hW:=(h.below hbW).core
    exact (hW.store hgv hx 2 (by omega) _ ⟨x.n,x.b,⟨x.f.data,x.f.data.length⟩⟩ rfl (fun _ h=>h) (hW.data x hxm) (fun k hk=>⟨(h.ob x hxm k hk).1,(h.ob x hxm k hk).2.1,fun e=>(h.ob x hxm k hk).2.2 (by rw [hgv,e])⟩) hW.olt).full rfl rfl hput hok
   have hCh:∀ W g,Below w.heap.size w W→v.ownBlock=some g→Chg own w (W.setCell ⟨g,i * 3+2,none⟩ (.int .i64 (x.f.data.length:Int))):=fun W g hbW hgv=>zCM hbW (zDL (h.ov g hgv).1)
   rcases h.at with h0 | ⟨g,c0,rfl,hlc,-⟩
   ·rw [h0] at hN
    simp at hN
   have hDid:=fun W hbW=>zCB (hFin W g hbW rfl) (zD9 hm)
   have hCh':=fun W hbW=>hCh W g hbW rfl
   have hcell:∀ W,Below w.heap.size w W→(W.cell? ⟨r,1,none⟩=some (.slice (some ⟨g,0,none⟩) L.length c0)∧W.cell? ⟨g,i * 3+1,none⟩=some x.b∧W.cell? ⟨g,i * 3+2,none⟩=some (.int .i64 (x.f.lasts:Int))∧W.frozen? ⟨g,i * 3+2,none⟩=false):=fun W hbW=>by
    have hW:=h.below hbW
    exact ⟨hW.c1,(hW.core.at rfl hx).2.1,(hW.core.at rfl hx).2.2,hW.core.free rfl _⟩
   obtain ⟨pb,cb,eb⟩:=HasB.slice (h.data x hxm).has
   rw [eb] at hcell
   generalize x.f.data.length=m at *
   have HDid:=zh (And.intro hDid hCh')
   have Hcell:=zh hcell
   have Hmay:=zh hmay
   have Hsp:=zh hsp
   clear h h1 hmay hsp hm hR hg hput hok hFin hCh hDid hCh' hcell hx hxm eb
   go_enter Tryz.func91,Tryz.ntmps91
   go_wp2_with fail
   refine Hmay.out.mono ?_
   rintro e w2 ⟨rfl,rfl⟩
   go_wp2_with fail
   refine Hsp.out.mono ?_
   rintro e w3 ⟨rfl,q,rfl⟩
   have HbW:=zh (zAg w (.cells #[.string s] 9) q)
   generalize (w.alloc (.cells #[.string s] 9)).drewN q=W at *
   obtain ⟨hc1,hc2,hc3,hfz⟩:=Hcell.out W HbW.out
   go_wp2_with fail
   go_still_tail 14,(by kernel_rfl)
   change wpList _ _ _ _ _ W.drew
   have hbD:Below w.heap.size w W.drew:=HbW.out.trans ⟨rfl,rfl,rfl,Nat.le_refl _,fun _ _=>rfl⟩
   obtain ⟨hc1,hc2,hc3,hfz⟩:=Hcell.out _ hbD
   have Hdid:=zh (HDid.out.1 _ hbD)
   have Hch:=zh (HDid.out.2 _ hbD)
   clear Hcell HDid hbD
   generalize W.drew=Wd at *
   go_wp2_with fail
   refine Hdid.out.mono ?_
   intro e w4 h4
   have hE:=zCs Hch.out (fun _ h=>.inl h) Hch.out.size h4
   obtain ⟨rfl,-⟩:=h4
   have HE:=zh hE
   clear hE
   go_wp2_with fail
   go_ret
   exact HE.out
 ·have hR:zAB.each1 zAB.gSync D (nm s)=(D,D.may [nm s]):=by unfold zAB.each1;rw [if_pos hm]
  rw [hR]
  have Hf:=zh (zBM h ((Below.refl _ _).alloc (Nat.le_refl _) (.cells #[.string s] 9)) (D.may [nm s]))
  have Hmay:=zh hmay
  generalize D.may [nm s]=m at *
  have hne:((m:Int) != 0)=true:=by simp;omega
  clear h h1 hmay hR
  go_enter Tryz.func91,Tryz.ntmps91
  go_wp2_with fail
  refine Hmay.out.mono ?_
  rintro e w2 ⟨rfl,rfl⟩
  go_wp2_with fail
  go_ret
  exact Hf.out
end
end Go.Proofs.YtapfnehdgailmaaGreat
namespace Go.Sat
open Go Go.RowKit
theorem zCV {P:Program} {l:List Oper} {Q:Exit→Act→World→Prop} {md:Region.Mode} {S:World→Prop} {fuel:Nat} {listed:Array Bool} {a:Act} {w:World} (i j:Nat) {oi oj:Oper} {ri rj:List Oper} (hdi:l.drop i=oi :: ri) (hdj:l.drop j=oj :: rj) (hr:Region.ready md l.toArray listed=[i,j])
  (hwi:Region.wanted oi (yielded l.toArray a.tmps)=true) (hwj:Region.wanted oj (yielded l.toArray a.tmps)=true)
  (hi:∀ K:Act→World→Prop,Shut (∀ a w,S w→(S w→wpAnyH P md l.toArray Q S fuel (listed.setIfInBounds i true) a w)→K a w)→Oper.wp P oi a w K Q)
  (hj:∀ K:Act→World→Prop,Shut (∀ a w,S w→(S w→wpAnyH P md l.toArray Q S fuel (listed.setIfInBounds j true) a w)→K a w)→Oper.wp P oj a w K Q):wpAnyH P md l.toArray Q S (fuel+1) listed a w :=
 wpAnyH_ready hr (by simp) (AllReadyH.cons (zBi hdi) (fun K hK=>by rw [if_pos hwi];exact hi K hK) (AllReadyH.cons (zBi hdj) (fun K hK=>by rw [if_pos hwj];exact hj K hK) AllReadyH.nil))
end Go.Sat
namespace Go.Proofs.YtapfnehdgailmaaGreat
open Go.RowKit Go.Sat Go.Maps
theorem ok_cut {D:zAB} (h:D.OK) {n:Bs} {f:zAV} (hg:Sat.get n D.files=some f) (k:Nat):zAB.OK { D with files:=put n ⟨f.data.take k,min f.lasts k⟩ D.files } where
 srt:=zB1 h.srt
 room:=h.room
 used:=by
  show zBN zAB.size (put n _ D.files)≤D.room
  rw [sum_put]
  have h1:D.used=zAB.size f+zBN zAB.size (del n D.files):=zCt h.srt hg
  have:=h.used
  simp only [zAB.size,List.length_take] at h1 ⊢
  omega
 count:=by
  show (put n _ D.files).length≤4096
  rw [len_put]
  have:=len_del h.srt hg
  have:=h.count
  omega
 names p hp:=by
  rcases zBR.1 hp with rfl | ⟨hp,_⟩
  ·exact (h.names (n,f) (zBh hg):okN n=true)
  ·exact h.names p hp
 lasts p hp:=by
  rcases zBR.1 hp with rfl | ⟨hp,_⟩
  ·have h1:=h.lasts (n,f) (zBh hg)
   show min f.lasts k≤(f.data.take k).length
   rw [List.length_take]
   have h1:f.lasts≤f.data.length:=h1
   omega
  ·exact h.lasts p hp
 fuse:=h.fuse
section
variable {w:World} {r:Nat} {v:Value} {L:List zAN} {own:Nat→Prop} {D:zAB} {room:Nat} {fuse:Option Nat}
theorem zAm.keep {w':World} (h:zAm w r v L own room fuse) (hs:w.heap.size≤w'.heap.size) (hb:∀ k,own k→w'.heap[k]?=w.heap[k]?):zAm w' r v L own room fuse where
 cells:=(hb r h.or).trans h.cells
 row:=h.row.keep fun k hk=>hb k (h.ov k hk).1
 data:=fun x hx=>OwnR.keep (h.data x hx) fun k hk=>hb k (h.ob x hx k hk).1
 or:=h.or
 ov:=h.ov
 ob:=h.ob
 olt:=fun k hk=>Nat.lt_of_lt_of_le (h.olt k hk) hs
theorem zAm.c1 (h:zAm w r v L own room fuse):w.cell? ⟨r,1,none⟩=some v:=zAA h.cells rfl
theorem rtrunc_calls (h:zAY w r v L own D) (s:ByteArray) (hs:s.size≤9223372036854775807) (z:Int) (hz:-9223372036854775808≤z) (hz':z≤9223372036854775807) :
  Calls Tryz.prog 90 #[.pointer (some ⟨r,0,none⟩),.string s,.int .i64 z] w (zCL w r own (D.truncate (nm s) z)):=by
 have h1:zAY (w.alloc (.cells #[.string s] 9)) r v L own D:=h.below ((Below.refl _ _).alloc (Nat.le_refl _) _)
 have hmay:=zBs h1 (some ⟨w.heap.size,0,none⟩) [s] 1 (zBB w s) (by simp) (by simpa using hs)
 simp only [List.map_cons,List.map_nil] at hmay
 by_cases hm:D.may [nm s]=0
 ·have hsp:=zBU h1 s
  rw [h.is] at hsp
  rw [hm] at hmay
  cases hg:Sat.get (nm s) D.files with
  | none =>
   rw [hg] at hsp
   have hR:D.truncate (nm s) z=(D,7):=by unfold zAB.truncate;rw [if_neg (by rw [hm];simp),hg]
   rw [hR]
   have Hf:=zh (fun q=>zBM h (zAg w (.cells #[.string s] 9) q) 7)
   have Hmay:=zh hmay
   have Hsp:=zh hsp
   clear h h1 hmay hsp hm hR hg
   go_enter Tryz.func90,Tryz.ntmps90
   go_wp2_with fail
   refine Hmay.out.mono ?_
   rintro e w2 ⟨rfl,rfl⟩
   go_wp2_with fail
   refine Hsp.out.mono ?_
   rintro e w3 ⟨rfl,q,rfl⟩
   go_wp2_with fail
   go_ret
   exact Hf.out q
  | some f =>
   rw [hg] at hsp
   obtain ⟨x,hx,hxn,rfl⟩:=h.hit hg
   have hlm:=h.len_le hx
   have hxm:=List.mem_of_getElem? hx
   have hN:zAo (nm s) (L.map zAN.n) < L.length:=(List.getElem?_eq_some_iff.1 hx).1
   rcases h.at with h0 | ⟨g,c0,hgv,hlc,-⟩
   ·rw [h0] at hN
    simp at hN
   have hgo:v.ownBlock=some g:=by rw [hgv];rfl
   by_cases hzz:0≤z∧z≤(x.f.data.length:Int)
   ·obtain ⟨y,rfl⟩:∃ y:Nat,z=(y:Int):=⟨z.toNat,by omega⟩
    have hyl:y≤x.f.data.length:=by omega
    have hR:D.truncate (nm s) (y:Int)=(zAB.done { D with files:=put (nm s) ⟨x.f.data.take y,min x.f.lasts y⟩ D.files },0):=by
     unfold zAB.truncate
     rw [if_neg (by rw [hm];simp),hg]
     show (if (y:Int) < 0∨(x.f.data.length:Int) < y then _ else _)=_
     rw [if_neg (by omega),Int.toNat_natCast]
    rw [hR]
    have hput:∀ v',put (nm s) ⟨x.f.data.take y,min x.f.lasts y⟩ D.files=(L.set (zAo (nm s) (L.map zAN.n)) ⟨x.n,v',⟨x.f.data.take y,min x.f.lasts y⟩⟩).map zAN.key:=fun v'=>h.put hg ⟨x.n,v',⟨x.f.data.take y,min x.f.lasts y⟩⟩ hxn
    have hok:=ok_cut h.ok hg y
    have hfz:=zD9 hm
    generalize zAo (nm s) (L.map zAN.n)=i at *
    have Hcells:=zh (show ∀ W,Below w.heap.size w W→W.cell? ⟨r,1,none⟩=some (.slice (some ⟨g,0,none⟩) L.length c0)∧W.cell? ⟨g,i * 3+1,none⟩=some x.b∧W.frozen? ⟨g,i * 3+1,none⟩=false from fun W hb=>by
     have hW:=h.below hb
     refine ⟨hW.c1.trans (by rw [hgv]),(hW.core.at hgo hx).2.1,hW.core.free hgo _⟩)
    obtain ⟨pb,cb,eb,hmcb⟩:=zDA (h.data x hxm)
    -- behind both stores
    have Hfin:=zh (show ∀ W v' ,Below w.heap.size w W→OwnB W 5 v' (x.f.data.take y)→(∀ k,v'.ownBlock=some k→w.heap.size≤k∧k < W.heap.size) →
      zAm (W.setCell ⟨g,i * 3+1,none⟩ v') r v (L.set i ⟨x.n,v',⟨x.f.data.take y,x.f.lasts⟩⟩) (fun k=>own k∨v'.ownBlock=some k) D.room D.fuse from fun W v' hb hv hn =>
     (h.below hb).core.store hgo hx 1 (by omega) v' ⟨x.n,v',⟨x.f.data.take y,x.f.lasts⟩⟩ rfl (fun _ h=>.inl h) hv (fun k hk=>⟨.inr hk,fun e=>by have:=h.olt r h.or;have:=(hn k hk).1;omega,fun e=>by have:=h.olt g (h.ov g hgo).1;have:=(hn k hk).1;omega⟩)
      (fun k hk=>by
       rcases hk with hk | hk
       ·exact Nat.lt_of_lt_of_le (h.olt k hk) hb.size
       ·exact (hn k hk).2))
    have Hfin2:=zh (show ∀ W v',zAm W r v (L.set i ⟨x.n,v',⟨x.f.data.take y,x.f.lasts⟩⟩) (fun k=>own k∨v'.ownBlock=some k) D.room D.fuse→OwnB W 5 v' (x.f.data.take y) →
      zAY (W.setCell ⟨g,i * 3+2,none⟩ (.int .i64 ((min x.f.lasts y:Nat):Int))) r v (L.set i ⟨x.n,v',⟨x.f.data.take y,min x.f.lasts y⟩⟩) (fun k=>own k∨v'.ownBlock=some k) { D with files:=put (nm s) ⟨x.f.data.take y,min x.f.lasts y⟩ D.files } from fun W v' hc hv=>by
     have hi:(L.set i ⟨x.n,v',⟨x.f.data.take y,x.f.lasts⟩⟩)[i]?=some ⟨x.n,v',⟨x.f.data.take y,x.f.lasts⟩⟩:=by rw [List.getElem?_set_self (by omega)]
     have hm2:=List.mem_of_getElem? hi
     have h2:=hc.store hgo hi 2 (by omega) (.int .i64 ((min x.f.lasts y:Nat):Int)) ⟨x.n,v',⟨x.f.data.take y,min x.f.lasts y⟩⟩ rfl (fun _ h=>h) hv (fun k hk=>⟨.inr hk,(hc.ob _ hm2 k hk).2.1,fun e=>(hc.ob _ hm2 k hk).2.2 (by rw [hgo,e])⟩) hc.olt
     rw [List.set_set] at h2
     exact h2.full rfl rfl (hput v') hok)
    have Hown:=zh (show own r∧own g∧r≠g∧g < w.heap.size from ⟨h.or,(h.ov g hgo).1,(h.ov g hgo).2.symm,h.olt g (h.ov g hgo).1⟩)
    have Hd:=zh (show ∀ W,Below w.heap.size w W→HasB W (.slice pb y cb) (x.f.data.take y) from fun W hb=>HasB.cut (by rw [← eb];exact ((h.below hb).data x hxm).has) hyl cb)
    have Hlen:=zh (show (x.f.data.take y).length=y from by rw [List.length_take];omega)
    have Hfz:=zh hfz
    rw [eb] at Hcells
    obtain ⟨i0,hi,hz0,hz1,hz2⟩:=info_parts (show (Tryz.prog.info? 5).map (fun i=>(i.zero,i.size,i.bytes))=some (some (.int .u8 0),1,1) by kernel_rfl)
    have hcb:y≤cb:=Nat.le_trans hyl hmcb
    have hsl:∀ W,(Instr.slice 22 (.slice pb x.f.data.length cb) none (some (.int .i64 (y:Int))) none).run Tryz.prog W=.ok (.slice pb y cb) W:=fun W=>zB0 W Tryz.underlying22 hi pb _ cb y hcb
    have hmin:min (x.f.lasts:Int) (y:Int)=((min x.f.lasts y:Nat):Int):=by omega
    generalize hml:x.f.data.length=m at *
    generalize hla:x.f.lasts=la at *
    have Hmay:=zh hmay
    have Hsp:=zh hsp
    clear h h1 hmay hsp hm hR hg hput hok hx hxm eb hgo hml hla hlc hmcb
    subst hgv
    go_enter Tryz.func90,Tryz.ntmps90
    go_wp2_with fail
    refine Hmay.out.mono ?_
    rintro e w2 ⟨rfl,rfl⟩
    go_wp2_with fail
    refine Hsp.out.mono ?_
    rintro e w3 ⟨rfl,q,rfl⟩
    have HbW:=zh (zAg w (.cells #[.string s] 9) q)
    generalize (w.alloc (.cells #[.string s] 9)).drewN q=W at *
    obtain ⟨hc1,hc2,hfz1⟩:=Hcells.out W HbW.out
    go_wp2_with fail
    have X0:=zh (show Below w.heap.size w W.drew from HbW.out.trans ⟨rfl,rfl,rfl,Nat.le_refl _,fun _ _=>rfl⟩)
    clear hc1 hc2 hfz1
    have hS:=(Hcells.out _ X0.out).1
    refine zAT (fun W':World=>W'.cell? ⟨r,1,none⟩=some (.slice (some ⟨g,0,none⟩) L.length c0)) (n:=20) (by kernel_rfl) rfl hS (fun hHeld=>?_)
    clear hS
    generalize W.drew=Wd at *
    refine otk 0 (v:=?v0x0) rfl ?_
    simp only [Act.put,uA,uB,uC]
    refine otk 1 (v:=?v0x1) rfl ?_
    simp only [Act.put,uA,uB,uC]
    refine otk 2 (v:=?v0x2) rfl ?_
    simp only [Act.put,uA,uB,uC]
    refine otk 3 (v:=?v0x3) rfl ?_
    simp only [Act.put,uA,uB,uC]
    refine otk 4 (v:=?v0x4) rfl ?_
    simp only [Act.put,uA,uB,uC]
    refine otk 6 (v:=?v0x6) rfl ?_
    simp only [Act.put,uA,uB,uC]
    refine otk 7 (v:=?v0x7) rfl ?_
    simp only [Act.put,uA,uB,uC]
    refine otk 8 (v:=?v0x8) rfl ?_
    simp only [Act.put,uA,uB,uC]
    refine otk 9 (v:=?v0x9) rfl ?_
    simp only [Act.put,uA,uB,uC]
    refine otk 10 (v:=?v0x10) rfl ?_
    simp only [Act.put,uA,uB,uC]
    refine otk 11 (v:=?v0x11) rfl ?_
    simp only [Act.put,uA,uB,uC]
    refine otk 12 (v:=?v0x12) rfl ?_
    simp only [Act.put,uA,uB,uC]
    refine otk 14 (v:=?v0x14) rfl ?_
    simp only [Act.put,uA,uB,uC]
    refine zCV 5 13 rfl rfl (by kernel_rfl) (by rfl) (by rfl) (fun K hK=>?_) (fun K hK=>?_)
    ·go_wp2_with fail
     have X1:=zh (X0.out.alloc X0.out.size (.cells #[] 5))
     refine hK.out _ _ ((Hcells.out _ X1.out).1) (fun hHeld=>?_)
     clear hK
     try simp only [Act.put,uA,uB,uC]
     refine zAG 13 rfl (by kernel_rfl) (by rfl) (fun K hK=>?_)
     have hc2:=(Hcells.out _ X1.out).2.1
     go_wp2_with fail
     clear hc2
     refine hK.out _ _ ((Hcells.out _ X1.out).1) (fun hHeld=>?_)
     clear hK
     try simp only [Act.put,uA,uB,uC]
     refine otk 15 (v:=?v1x15) rfl ?_
     simp only [Act.put,uA,uB,uC]
     refine zAG 16 rfl (by kernel_rfl) (by rfl) (fun K hK=>?_)
     have hown0:=zAz Wd 5
     have hxd:=Hd.out _ X1.out
     unfold HasB at hxd
     rw [Hlen.out] at hxd
     refine zAj (.tmp 45) (.tmp 55) 22 (by rfl) 5 i0 (.int .u8 0) 1 1 Tryz.underlying22 hi hz0 hz1 hz2 rfl (by decide) (.slice (some ⟨Wd.heap.size,0,none⟩) 0 0) 0 [] (by rfl) hown0 (.slice pb y cb) y _ (by rfl) hxd (zAM _) (by unfold maxLen;omega) (by omega) ?_
     clear hown0 hxd
     intro v6 w6 hown6 hgrow6 hloc6
     have X6:=zh (X1.out.grown hgrow6 X1.out.size (fun j e=>by have:=X0.out.size;simp [Value.ownBlock] at e;omega))
     have hnew6:=zAp (B:=w.heap.size) hloc6 (fun k hk=>by have:=X0.out.size;simp [Value.ownBlock] at hk;omega) X1.out.size
     rw [Nat.zero_add,List.nil_append] at hown6
     obtain ⟨p6,c6,rfl⟩:=OwnR.shape hown6
     have Hv6:=zh (show OwnB w6 5 (.slice p6 y c6) (x.f.data.take y) from by unfold OwnB;rw [Hlen.out];exact hown6)
     have Hnew6:=zh hnew6
     clear hgrow6 hloc6 hown6 hnew6
     refine hK.out _ _ ((Hcells.out _ X6.out).1) (fun hHeld=>?_)
     clear hK
     try simp only [Act.put,uA,uB,uC]
     refine otk 17 (v:=?v1x17) rfl ?_
     simp only [Act.put,uA,uB,uC]
     refine otk 18 (v:=?v1x18) rfl ?_
     simp only [Act.put,uA,uB,uC]
     refine zAG 19 rfl (by kernel_rfl) (by rfl) (fun K hK=>?_)
     obtain ⟨hc1,hc2,hfz1⟩:=Hcells.out _ X6.out
     go_wp2_with fail
     have hcs:(w6.setCell ⟨g,i * 3+1,none⟩ (.slice p6 y c6)).cell? ⟨r,1,none⟩=some (.slice (some ⟨g,0,none⟩) L.length c0):=(World.cell?_of_block (set_other _ Hown.out.2.2.1)).trans hc1
     clear hc1 hc2 hfz1
     refine hK.out _ _ (hcs) (fun hHeld=>?_)
     clear hK
     try simp only [Act.put,uA,uB,uC]
     refine wpAnyH_done (by kernel_rfl) ?_ _
     clear hHeld
     have hcore:=Hfin.out w6 (.slice p6 y c6) X6.out Hv6.out (fun k hk=>⟨Hnew6.out k hk,OwnR.lt Hv6.out hk⟩)
     have hv7:OwnB (w6.setCell ⟨g,i * 3+1,none⟩ (.slice p6 y c6)) 5 (.slice p6 y c6) (x.f.data.take y):=OwnR.keep Hv6.out fun k hk=>set_other _ (fun e=>by have h1:k=g:=e;have:=Hnew6.out k hk;have:=Hown.out.2.2.2;omega)
     have hch:=zCM X6.out (zDL (own:=own) (w:=w6) (a:=⟨g,i * 3+1,none⟩) (u:=.slice p6 y c6) Hown.out.2.1)
     have hge:w.heap.size≤(w6.setCell ⟨g,i * 3+1,none⟩ (.slice p6 y c6)).heap.size:=by have:=X6.out.size;simpa [World.setCell] using this
     have H7:=zh (And.intro hcore (And.intro hv7 (And.intro hch hge)))
     clear hcore hv7 hch hge
     generalize w6.setCell ⟨g,i * 3+1,none⟩ (.slice p6 y c6)=Ws at *
     have hi1:(L.set i ⟨x.n,.slice p6 y c6,⟨x.f.data.take y,la⟩⟩)[i]?=some ⟨x.n,.slice p6 y c6,⟨x.f.data.take y,la⟩⟩:=by rw [List.getElem?_set_self (by omega)]
     have Hi1:=zh hi1
     clear hi1
     obtain ⟨-,-,hc3⟩:=H7.out.1.at rfl Hi1.out
     have hc1:=H7.out.1.c1
     go_wp2_with fail
     go_still_tail 15,(by kernel_rfl)
     clear hc1 hc3
     change wpList _ _ _ _ _ Ws.drew
     have hkd:zAm Ws.drew r _ _ _ _ _:=H7.out.1.keep (Nat.le_refl _) (fun _ _=>rfl)
     have hvd:OwnB Ws.drew 5 (.slice p6 y c6) (x.f.data.take y):=OwnR.keep H7.out.2.1 (fun _ _=>rfl)
     have hfin:=Hfin2.out _ _ hkd hvd
     obtain ⟨-,-,hc3⟩:=hkd.at rfl Hi1.out
     have hfz2:=hkd.free rfl (i * 3+2)
     have hchd:Chg own w Ws.drew:=H7.out.2.2.1.trans (Chg.drew Ws) (fun _ _ h=>h.elim)
     have hch2:Chg own w (Ws.drew.setCell ⟨g,i * 3+2,none⟩ (.int .i64 ((min la y:Nat):Int))):=hchd.trans (zDL (own:=own) (w:=Ws.drew) (a:=⟨g,i * 3+2,none⟩) Hown.out.2.1) (fun _ _ h=>h)
     have Hdid:=zh (zCB hfin Hfz.out)
     have Hch:=zh (And.intro hch2 (show w.heap.size≤(Ws.drew.setCell ⟨g,i * 3+2,none⟩ (.int .i64 ((min la y:Nat):Int))).heap.size from hch2.size))
     clear hkd hvd hfin hchd hch2 H7
     generalize Ws.drew=Wt at *
     go_wp2_with fail
     refine Hdid.out.mono ?_
     intro e w8 h8
     have hE:=zCs Hch.out.1 (fun k hk=>hk.imp id (fun e=>Hnew6.out k e)) Hch.out.2 h8
     obtain ⟨rfl,-⟩:=h8
     have HE:=zh hE
     clear hE
     go_wp2_with fail
     go_ret
     exact HE.out
    ·have hc2:=(Hcells.out _ X0.out).2.1
     go_wp2_with fail
     clear hc2
     refine hK.out _ _ ((Hcells.out _ X0.out).1) (fun hHeld=>?_)
     clear hK
     try simp only [Act.put,uA,uB,uC]
     refine otk 15 (v:=?v2x15) rfl ?_
     simp only [Act.put,uA,uB,uC]
     refine zAG 5 rfl (by kernel_rfl) (by rfl) (fun K hK=>?_)
     go_wp2_with fail
     have X1:=zh (X0.out.alloc X0.out.size (.cells #[] 5))
     refine hK.out _ _ ((Hcells.out _ X1.out).1) (fun hHeld=>?_)
     clear hK
     try simp only [Act.put,uA,uB,uC]
     refine zAG 16 rfl (by kernel_rfl) (by rfl) (fun K hK=>?_)
     have hown0:=zAz Wd 5
     have hxd:=Hd.out _ X1.out
     unfold HasB at hxd
     rw [Hlen.out] at hxd
     refine zAj (.tmp 45) (.tmp 55) 22 (by rfl) 5 i0 (.int .u8 0) 1 1 Tryz.underlying22 hi hz0 hz1 hz2 rfl (by decide) (.slice (some ⟨Wd.heap.size,0,none⟩) 0 0) 0 [] (by rfl) hown0 (.slice pb y cb) y _ (by rfl) hxd (zAM _) (by unfold maxLen;omega) (by omega) ?_
     clear hown0 hxd
     intro v6 w6 hown6 hgrow6 hloc6
     have X6:=zh (X1.out.grown hgrow6 X1.out.size (fun j e=>by have:=X0.out.size;simp [Value.ownBlock] at e;omega))
     have hnew6:=zAp (B:=w.heap.size) hloc6 (fun k hk=>by have:=X0.out.size;simp [Value.ownBlock] at hk;omega) X1.out.size
     rw [Nat.zero_add,List.nil_append] at hown6
     obtain ⟨p6,c6,rfl⟩:=OwnR.shape hown6
     have Hv6:=zh (show OwnB w6 5 (.slice p6 y c6) (x.f.data.take y) from by unfold OwnB;rw [Hlen.out];exact hown6)
     have Hnew6:=zh hnew6
     clear hgrow6 hloc6 hown6 hnew6
     refine hK.out _ _ ((Hcells.out _ X6.out).1) (fun hHeld=>?_)
     clear hK
     try simp only [Act.put,uA,uB,uC]
     refine otk 17 (v:=?v2x17) rfl ?_
     simp only [Act.put,uA,uB,uC]
     refine otk 18 (v:=?v2x18) rfl ?_
     simp only [Act.put,uA,uB,uC]
     refine zAG 19 rfl (by kernel_rfl) (by rfl) (fun K hK=>?_)
     obtain ⟨hc1,hc2,hfz1⟩:=Hcells.out _ X6.out
     go_wp2_with fail
     have hcs:(w6.setCell ⟨g,i * 3+1,none⟩ (.slice p6 y c6)).cell? ⟨r,1,none⟩=some (.slice (some ⟨g,0,none⟩) L.length c0):=(World.cell?_of_block (set_other _ Hown.out.2.2.1)).trans hc1
     clear hc1 hc2 hfz1
     refine hK.out _ _ (hcs) (fun hHeld=>?_)
     clear hK
     try simp only [Act.put,uA,uB,uC]
     refine wpAnyH_done (by kernel_rfl) ?_ _
     clear hHeld
     have hcore:=Hfin.out w6 (.slice p6 y c6) X6.out Hv6.out (fun k hk=>⟨Hnew6.out k hk,OwnR.lt Hv6.out hk⟩)
     have hv7:OwnB (w6.setCell ⟨g,i * 3+1,none⟩ (.slice p6 y c6)) 5 (.slice p6 y c6) (x.f.data.take y):=OwnR.keep Hv6.out fun k hk=>set_other _ (fun e=>by have h1:k=g:=e;have:=Hnew6.out k hk;have:=Hown.out.2.2.2;omega)
     have hch:=zCM X6.out (zDL (own:=own) (w:=w6) (a:=⟨g,i * 3+1,none⟩) (u:=.slice p6 y c6) Hown.out.2.1)
     have hge:w.heap.size≤(w6.setCell ⟨g,i * 3+1,none⟩ (.slice p6 y c6)).heap.size:=by have:=X6.out.size;simpa [World.setCell] using this
     have H7:=zh (And.intro hcore (And.intro hv7 (And.intro hch hge)))
     clear hcore hv7 hch hge
     generalize w6.setCell ⟨g,i * 3+1,none⟩ (.slice p6 y c6)=Ws at *
     have hi1:(L.set i ⟨x.n,.slice p6 y c6,⟨x.f.data.take y,la⟩⟩)[i]?=some ⟨x.n,.slice p6 y c6,⟨x.f.data.take y,la⟩⟩:=by rw [List.getElem?_set_self (by omega)]
     have Hi1:=zh hi1
     clear hi1
     obtain ⟨-,-,hc3⟩:=H7.out.1.at rfl Hi1.out
     have hc1:=H7.out.1.c1
     go_wp2_with fail
     go_still_tail 15,(by kernel_rfl)
     clear hc1 hc3
     change wpList _ _ _ _ _ Ws.drew
     have hkd:zAm Ws.drew r _ _ _ _ _:=H7.out.1.keep (Nat.le_refl _) (fun _ _=>rfl)
     have hvd:OwnB Ws.drew 5 (.slice p6 y c6) (x.f.data.take y):=OwnR.keep H7.out.2.1 (fun _ _=>rfl)
     have hfin:=Hfin2.out _ _ hkd hvd
     obtain ⟨-,-,hc3⟩:=hkd.at rfl Hi1.out
     have hfz2:=hkd.free rfl (i * 3+2)
     have hchd:Chg own w Ws.drew:=H7.out.2.2.1.trans (Chg.drew Ws) (fun _ _ h=>h.elim)
     have hch2:Chg own w (Ws.drew.setCell ⟨g,i * 3+2,none⟩ (.int .i64 ((min la y:Nat):Int))):=hchd.trans (zDL (own:=own) (w:=Ws.drew) (a:=⟨g,i * 3+2,none⟩) Hown.out.2.1) (fun _ _ h=>h)
     have Hdid:=zh (zCB hfin Hfz.out)
     have Hch:=zh (And.intro hch2 (show w.heap.size≤(Ws.drew.setCell ⟨g,i * 3+2,none⟩ (.int .i64 ((min la y:Nat):Int))).heap.size from hch2.size))
     clear hkd hvd hfin hchd hch2 H7
     generalize Ws.drew=Wt at *
     go_wp2_with fail
     refine Hdid.out.mono ?_
     intro e w8 h8
     have hE:=zCs Hch.out.1 (fun k hk=>hk.imp id (fun e=>Hnew6.out k e)) Hch.out.2 h8
     obtain ⟨rfl,-⟩:=h8
     have HE:=zh hE
     clear hE
     go_wp2_with fail
     go_ret
     exact HE.out
   ·have hR:D.truncate (nm s) z=(D,1):=by
     unfold zAB.truncate
     rw [if_neg (by rw [hm];simp),hg]
     show (if z < 0∨(x.f.data.length:Int) < z then _ else _)=_
     rw [if_pos (by omega)]
    rw [hR]
    generalize zAo (nm s) (L.map zAN.n)=i at *
    have Hf:=zh (fun q=>zBM h (zAg w (.cells #[.string s] 9) q) 1)
    have Hcells:=zh (show ∀ W,Below w.heap.size w W→W.cell? ⟨r,1,none⟩=some (.slice (some ⟨g,0,none⟩) L.length c0)∧W.cell? ⟨g,i * 3+1,none⟩=some x.b from fun W hb=>by
     have hW:=h.below hb
     exact ⟨hW.c1.trans (by rw [hgv]),(hW.core.at hgo hx).2.1⟩)
    obtain ⟨pb,cb,eb⟩:=HasB.slice (h.data x hxm).has
    rw [eb] at Hcells
    generalize x.f.data.length=m at *
    have Hmay:=zh hmay
    have Hsp:=zh hsp
    clear h h1 hmay hsp hm hR hg hx hxm eb hgo hlc
    subst hgv
    by_cases hz0:z < 0
    ·go_enter Tryz.func90,Tryz.ntmps90
     go_wp2_with fail
     refine Hmay.out.mono ?_
     rintro e w2 ⟨rfl,rfl⟩
     go_wp2_with fail
     refine Hsp.out.mono ?_
     rintro e w3 ⟨rfl,q,rfl⟩
     go_wp2_with fail
     go_ret
     exact Hf.out q
    ·obtain ⟨y,rfl⟩:∃ y:Nat,z=(y:Int):=⟨z.toNat,by omega⟩
     have hmy:m < y:=by omega
     go_enter Tryz.func90,Tryz.ntmps90
     go_wp2_with fail
     refine Hmay.out.mono ?_
     rintro e w2 ⟨rfl,rfl⟩
     go_wp2_with fail
     refine Hsp.out.mono ?_
     rintro e w3 ⟨rfl,q,rfl⟩
     obtain ⟨hc1,hc2⟩:=Hcells.out _ (zAg w (.cells #[.string s] 9) q)
     go_wp2_with fail
     go_ret
     exact Hf.out q
 ·have hR:D.truncate (nm s) z=(D,D.may [nm s]):=by unfold zAB.truncate;rw [if_pos hm]
  rw [hR]
  have Hf:=zh (zBM h ((Below.refl _ _).alloc (Nat.le_refl _) (.cells #[.string s] 9)) (D.may [nm s]))
  have Hmay:=zh hmay
  generalize D.may [nm s]=m at *
  have hne:((m:Int) != 0)=true:=by simp;omega
  clear h h1 hmay hR
  go_enter Tryz.func90,Tryz.ntmps90
  go_wp2_with fail
  refine Hmay.out.mono ?_
  rintro e w2 ⟨rfl,rfl⟩
  go_wp2_with fail
  go_ret
  exact Hf.out
end
theorem zC5 (w:World) (a b:Nat):(w.drewN a).drewN b=w.drewN (a+b):=by
 simp [World.drewN,Nat.add_assoc]
theorem zC2 {w:World} {p:Option Addr} {n c:Nat} {l:List Int} (h:HasI w (.slice p n c) l) (hl:l.length≤1099511627776) :
  Calls Tryz.prog 36 #[.slice p n c] w fun e w'=>e=.returned (.bool (zAW l))∧∃ q,w'=w.drewN q:=by
 have hn:l.length=n:=by obtain ⟨_,_,e⟩:=h.slice;simp only [Value.slice.injEq] at e;exact e.2.1.symm
 rw [hn] at hl
 have H:=zh h
 have Hn:=zh hn
 clear h hn
 go_enter Tryz.func36,Tryz.ntmps36
 go_wp2_with fail
 go_loopw [3] (fun i wr=>∃ k q:Nat,k≤n∧i=.int .i64 k∧zEH (-1) l=zEH (zDB l k) (l.drop k)∧-1≤zDB l k∧wr=w.drewN q) (fun i _=>n - (intOf i).toNat)
 case atStart=>exact ⟨0,0,Nat.zero_le _,rfl,rfl,Int.le_refl _,rfl⟩
 case round =>
  obtain ⟨k,q0,hk,rfl,hgo,hpv,hwr⟩:=hrel
  have Hwr:=zh hwr
  have H2:=zh (show HasI wr (.slice p n c) l by rw [hwr];exact zAL.chg H.out (Chg.of_below (⟨rfl,rfl,rfl,Nat.le_refl _,fun _ _=>rfl⟩:Below w.heap.size w (w.drewN q0))) fun _ _=>id)
  clear hwr
  by_cases hlt:k < n
  ·have hkl:k < l.length:=by rw [Hn.out];exact hlt
   have HB:=zh (show ¬ (zDB l k < l[k]∧l[k] < 7)→zAW l=false from fun hb=>by
    unfold zAW
    rw [hgo,List.drop_eq_getElem_cons hkl]
    unfold zEH
    rw [decide_eq_false hb]
    rfl)
   have HG:=zh (show zDB l k < l[k]∧l[k] < 7→zEH (-1) l=zEH (zDB l (k+1)) (l.drop (k+1)) from fun hb=>by
    rw [hgo,List.drop_eq_getElem_cons hkl,zEr hkl]
    show (decide _ && _)=_
    rw [decide_eq_true hb,Bool.true_and])
   have HP:=zh (zEr hkl)
   rcases H2.out.at with h0 | ⟨b,o,c1,e1,hc⟩
   ·rw [h0] at hkl
    simp at hkl
   rw [Hn.out] at e1
   simp only [Value.slice.injEq] at e1
   obtain ⟨rfl,-,rfl⟩:=e1
   have hck:=hc k _ (List.getElem?_eq_getElem hkl)
   have Hcp:=zh (show k≠0→wr.cell? ⟨b,o+(k - 1),none⟩=some (.int .i64 (zDB l k)) from fun h0=>by
    have hk1:k - 1 < l.length:=by omega
    have:=hc (k - 1) _ (List.getElem?_eq_getElem hk1)
    rw [this]
    unfold zDB
    rw [if_neg h0,List.getElem?_eq_getElem hk1]
    rfl)
   have Hp0:=zh (show k=0→zDB l k=-1 from fun h0=>by rw [h0];rfl)
   have hki:(k:Int) < (n:Int):=by omega
   clear hc hgo
   generalize l[k]=x at *
   generalize zDB l k=q at *
   by_cases hx0:x < 0
   ·have HE:=zh (HB.out (by omega))
    have hd0:decide (x < 0)=true:=by simpa using hx0
    go_wp2_with fail
    go_quiet (fail)
    go_wp2_with fail
    go_ret
    exact ⟨by rw [HE.out];rfl,_,by rw [Hwr.out];exact zC5 _ _ _⟩
   ·have hd0:decide (x < 0)=false:=by simpa using hx0
    by_cases hx7:7≤x
    ·have HE:=zh (HB.out (by omega))
     have hd7:decide (7≤x)=true:=by simpa using hx7
     go_wp2_with fail
     go_quiet (fail)
     go_wp2_with fail
     go_ret
     exact ⟨by rw [HE.out];rfl,_,by rw [Hwr.out];exact zC5 _ _ _⟩
    ·have hd7:decide (7≤x)=false:=by simpa using hx7
     by_cases hk0:k=0
     ·have HE:=zh (HG.out (by rw [Hp0.out hk0];omega))
      have hdk:decide ((0:Int) < (k:Int))=false:=by simp;omega
      have hdk2:decide (0 < k)=false:=by simp;omega
      clear hk0
      go_wp2_with fail
      go_quiet (fail)
      go_wp2_with fail
      go_roundw
      case rel=>exact ⟨k+1,_,by omega,by go_num,HE.out,by rw [HP.out];omega,by rw [Hwr.out];exact zC5 _ _ _⟩
      case measure=>simp [intOf];omega
     ·have hcp:=Hcp.out hk0
      have hk1:(0:Int) < (k:Int):=by omega
      have hdk:decide ((0:Int) < (k:Int))=true:=by simp;omega
      have hdk2:decide (0 < k)=true:=by simp;omega
      have hw1:IntKind.i64.wrap ((k:Int) - 1)=((k - 1:Nat):Int):=by rw [IntWalk.i64_in _ (by omega)];omega
      have hk1i:((k - 1:Nat):Int) < (n:Int):=by omega
      have hk1n:k - 1 < n:=by omega
      clear hk0
      by_cases hle:x≤q
      ·have HE:=zh (HB.out (by omega))
       have hdl:decide (x≤q)=true:=by simpa using hle
       go_wp2_with fail
       go_quiet (fail)
       go_wp2_with fail
       go_ret
       exact ⟨by rw [HE.out];rfl,_,by rw [Hwr.out];exact zC5 _ _ _⟩
      ·have hdl:decide (x≤q)=false:=by simpa using hle
       have HE:=zh (HG.out (by omega))
       go_wp2_with fail
       go_quiet (fail)
       go_wp2_with fail
       go_roundw
       case rel=>exact ⟨k+1,_,by omega,by go_num,HE.out,by rw [HP.out];omega,by rw [Hwr.out];exact zC5 _ _ _⟩
       case measure=>simp [intOf];omega
  ·have hkn:k=n:=by omega
   have hgl:zEH (-1) l=true:=by rw [hgo,List.drop_of_length_le (by rw [Hn.out];omega)];rfl
   have HE:=zh (show zAW l=decide (1≤n∧n≤7) from by unfold zAW;rw [hgl,Hn.out,Bool.true_and])
   clear hgo hgl
   by_cases h1:1≤n
   ·have d1:decide ((1:Int)≤(n:Int))=true:=by simp;omega
    by_cases h7:n≤7
    ·have d7:decide ((n:Int)≤7)=true:=by simp;omega
     have HF:=zh (show zAW l=true from HE.out.trans (decide_eq_true ⟨h1,h7⟩))
     go_wp2_with fail
     go_ret
     exact ⟨by rw [HF.out];rfl,_,Hwr.out⟩
    ·have d7:decide ((n:Int)≤7)=false:=by simp;omega
     have HF:=zh (show zAW l=false from HE.out.trans (decide_eq_false fun e=>h7 e.2))
     go_wp2_with fail
     go_ret
     exact ⟨by rw [HF.out];rfl,_,Hwr.out⟩
   ·have d1:decide ((1:Int)≤(n:Int))=false:=by simp;omega
    have HF:=zh (show zAW l=false from HE.out.trans (decide_eq_false fun e=>h1 e.1))
    go_wp2_with fail
    go_ret
    exact ⟨by rw [HF.out];rfl,_,Hwr.out⟩
theorem ris_calls {w:World} {e:Ent} {v:EV} (h:zBE w e v) :
  Calls Tryz.prog 43 #[entV e v] w fun r w'=>r=.returned (.bool (zAs e))∧Below w.heap.size w w':=by
 obtain ⟨t,k,da,no⟩:=e
 obtain ⟨v1,v2⟩:=v
 have hb:=zAD w (.cells #[.int .i64 t,.int .i64 k,v1,v2] 50)
 have Hg:=zh (show Calls Tryz.prog 36 #[v2] (w.alloc (.cells #[.int .i64 t,.int .i64 k,v1,v2] 50)) fun e w'=>e=.returned (.bool (zAW no))∧∃ q,w'=(w.alloc (.cells #[.int .i64 t,.int .i64 k,v1,v2] 50)).drewN q from by
  have hn:=(h.below hb).nodes
  obtain ⟨p,c,hv⟩:=hn.slice
  have hv':v2=.slice p no.length c:=hv
  subst hv'
  exact zC2 hn h.nl)
 have HB:=zh hb
 have hdl:=h.dl
 have hnl:=h.nl
 obtain ⟨p1,c1,e1⟩:=h.data.slice
 obtain ⟨p2,c2,e2⟩:=h.nodes.slice
 have e1':v1=.slice p1 da.length c1:=e1
 have e2':v2=.slice p2 no.length c2:=e2
 subst e1'
 subst e2'
 clear e1 e2 h hb
 dsimp only at hdl hnl
 have H0:=zh (ent_zero (e:=⟨t,k,da,no⟩))
 have H1:=zh (ent_one (e:=⟨t,k,da,no⟩))
 have H2:=zh (ent_two (e:=⟨t,k,da,no⟩))
 have H3:=zh (ent_none (e:=⟨t,k,da,no⟩))
 have Hno:=zh (show isTm t=false→zAs ⟨t,k,da,no⟩=false from fun h=>by unfold zAs;rw [h,Bool.false_and])
 unfold entV
 dsimp only at H0 H1 H2 H3 ⊢
 generalize zAs ⟨t,k,da,no⟩=res at *
 by_cases ht:0≤t∧t≤1099511627776
 rotate_left
 ·have HE:=zh (Hno.out (by unfold isTm;rw [decide_eq_false ht]))
  by_cases ht0:t < 0
  ·have d0:decide (t < 0)=true:=decide_eq_true ht0
   go_enter Tryz.func43,Tryz.ntmps43
   go_wp2_with fail
   go_ret
   exact ⟨by rw [HE.out];rfl,HB.out⟩
  ·have d0:decide (t < 0)=false:=decide_eq_false ht0
   have d1:decide (1099511627776 < t)=true:=decide_eq_true (by omega)
   go_enter Tryz.func43,Tryz.ntmps43
   go_wp2_with fail
   go_ret
   exact ⟨by rw [HE.out];rfl,HB.out⟩
 ·have ht2:isTm t=true:=by unfold isTm;rw [decide_eq_true ht]
  have d0:decide (t < 0)=false:=decide_eq_false (by omega)
  have d1:decide (1099511627776 < t)=false:=decide_eq_false (by omega)
  rw [ht2] at H0 H1 H2
  clear ht2
  by_cases h0:k=0
  ·have HE:=zh (H0.out h0)
   have hb0:(k == 0)=true:=by simpa using h0
   clear h0 ht
   generalize da.length=n at *
   generalize no.length=m at *
   by_cases hn:n=0
   ·have hbn:((n:Int) == 0)=true:=by simp;omega
    have hdn:decide (n=0∧m=0)=((m:Int) == 0):=by rw [Bool.eq_iff_iff];simp;omega
    rw [hdn] at HE
    clear hn hdn
    go_enter Tryz.func43,Tryz.ntmps43
    go_wp2_with fail
    go_ret
    exact ⟨by rw [HE.out];simp,HB.out⟩
   ·have hbn:((n:Int) == 0)=false:=by simp;omega
    have hdn:decide (n=0∧m=0)=false:=by simp;omega
    rw [hdn] at HE
    clear hn hdn
    go_enter Tryz.func43,Tryz.ntmps43
    go_wp2_with fail
    go_ret
    exact ⟨by rw [HE.out];simp,HB.out⟩
  ·have hb0:(k == 0)=false:=by simpa using h0
   by_cases h1:k=1
   ·have HE:=zh (H1.out h1)
    have hb1:(k == 1)=true:=by simpa using h1
    clear h0 ht h1
    generalize da.length=n at *
    generalize no.length=m at *
    by_cases hn:1≤n
    ·by_cases hn6:n≤65536
     ·have hd1:decide ((1:Int)≤(n:Int))=true:=by simp;omega
      have hd2:decide ((n:Int)≤65536)=true:=by simp;omega
      have hdn:decide (1≤n∧n≤65536∧m=0)=((m:Int) == 0):=by rw [Bool.eq_iff_iff];simp;omega
      rw [hdn] at HE
      clear hdn
      go_enter Tryz.func43,Tryz.ntmps43
      go_wp2_with fail
      go_ret
      exact ⟨by rw [HE.out];simp,HB.out⟩
     ·have hd1:decide ((1:Int)≤(n:Int))=true:=by simp;omega
      have hd2:decide ((n:Int)≤65536)=false:=by simp;omega
      have hdn:decide (1≤n∧n≤65536∧m=0)=false:=by simp;omega
      rw [hdn] at HE
      clear hdn
      go_enter Tryz.func43,Tryz.ntmps43
      go_wp2_with fail
      go_ret
      exact ⟨by rw [HE.out];simp,HB.out⟩
    ·have hd1:decide ((1:Int)≤(n:Int))=false:=by simp;omega
     have hdn:decide (1≤n∧n≤65536∧m=0)=false:=by simp;omega
     rw [hdn] at HE
     clear hdn
     go_enter Tryz.func43,Tryz.ntmps43
     go_wp2_with fail
     go_ret
     exact ⟨by rw [HE.out];simp,HB.out⟩
   ·have hb1:(k == 1)=false:=by simpa using h1
    by_cases h2:k=2
    ·have HE:=zh (H2.out h2)
     have hb2:(k == 2)=true:=by simpa using h2
     clear h0 ht h1 h2
     generalize da.length=n at *
     generalize no.length=m at *
     by_cases hn:n=0
     ·have hbn:((n:Int) == 0)=true:=by simp;omega
      have hdn:decide (n=0)=true:=by simpa using hn
      rw [hdn] at HE
      clear hn hdn
      go_enter Tryz.func43,Tryz.ntmps43
      go_wp2_with fail
      refine Hg.out.mono ?_
      rintro e w' ⟨rfl,q,rfl⟩
      go_wp2_with fail
      go_ret
      exact ⟨by rw [HE.out];simp,HB.out.trans ⟨rfl,rfl,rfl,Nat.le_refl _,fun _ _=>rfl⟩⟩
     ·have hbn:((n:Int) == 0)=false:=by simp;omega
      have hdn:decide (n=0)=false:=by simpa using hn
      rw [hdn] at HE
      clear hn hdn
      go_enter Tryz.func43,Tryz.ntmps43
      go_wp2_with fail
      go_ret
      exact ⟨by rw [HE.out];simp,HB.out⟩
    ·have hb2:(k == 2)=false:=by simpa using h2
     have HE:=zh (H3.out h0 h1 h2)
     clear h0 h1 h2
     go_enter Tryz.func43,Tryz.ntmps43
     go_wp2_with fail
     go_ret
     exact ⟨by rw [HE.out];rfl,HB.out⟩
theorem xor_range (a b:Int) (h1:0≤a) (h2:a < 4294967296) (h3:0≤b) (h4:b < 4294967296):0≤bits .xor .u32 a b∧bits .xor .u32 a b < 4294967296:=by
 rw [u32_xor a b h1 h2 h3 h4]
 have:a.toNat ^^^ b.toNat < 2 ^ 32:=Nat.xor_lt_two_pow (by omega) (by omega)
 omega
theorem and_one (z:Int) (h1:0≤z) (h2:z < 4294967296):bits .and .u32 z 1=0∨bits .and .u32 z 1=1:=by
 rw [u32_and z 1 h1 h2 (by decide) (by decide)]
 have:z.toNat &&& (1:Int).toNat=z.toNat % 2:=Nat.and_one_is_mod _
 rw [this]
 omega
theorem bitF_one {z:Int} (h:bits .and .u32 z 1=1):bitF z=bits .xor .u32 (z / 2) 3988292384:=by
 unfold bitF
 rw [h]
 congr 1
theorem bitF_zero {z:Int} (h1:0≤z) (h2:z < 4294967296) (h:bits .and .u32 z 1=0):bitF z=z / 2:=by
 unfold bitF
 rw [h]
 have e:bits .and .u32 3988292384 (-0 % 4294967296)=0:=by decide
 rw [e,u32_xor (z / 2) 0 (by omega) (by omega) (by decide) (by decide)]
 have:(z / 2).toNat ^^^ (0:Int).toNat=(z / 2).toNat:=Nat.xor_zero _
 rw [this]
 omega
theorem bitF_range {z:Int} (h1:0≤z) (h2:z < 4294967296):0≤bitF z∧bitF z < 4294967296:=by
 rcases and_one z h1 h2 with h | h
 ·rw [bitF_zero h1 h2 h];omega
 ·rw [bitF_one h];exact xor_range _ _ (by omega) (by omega) (by decide) (by decide)
theorem zDR {z:Int} (h1:0≤z) (h2:z < 4294967296):∀ k,0≤zEk k z∧zEk k z < 4294967296
 | 0=>⟨h1,h2⟩
 | k+1=>bitF_range (zDR h1 h2 k).1 (zDR h1 h2 k).2
theorem byteF_range {z:Int} (h1:0≤z) (h2:z < 4294967296) (c:UInt8):0≤byteF z c∧byteF z c < 4294967296:=by
 have hc:c.toNat < 256:=c.toNat_lt
 have:=xor_range z (c.toNat:Int) h1 h2 (by omega) (by omega)
 exact zDR this.1 this.2 8
theorem rowF_range {z:Int} (h1:0≤z) (h2:z < 4294967296) (l:Bs):0≤rowF z l∧rowF z l < 4294967296:=by
 induction l generalizing z with
 | nil=>exact ⟨h1,h2⟩
 | cons c r ih=>exact ih (byteF_range h1 h2 c).1 (byteF_range h1 h2 c).2
theorem zEB {w:World} {p:Option Addr} {m c:Nat} {l:Bs} (hx:HasB w (.slice p m c) l) (hl:l.length≤140737488355328) :
  Calls Tryz.prog 184 #[.slice p m c] w (fun e w'=>e=.returned (.int .u32 (sumF l))∧w'=w):=by
 have hm:m=l.length:=(zBw hx).1
 have Hat:=zh hx.at
 have Hm:=zh hm.symm
 have hmm:m≤140737488355328:=by omega
 clear hx hm hl
 go_enter Tryz.func184,Tryz.ntmps184
 go_wp2_with fail
 go_loop [3,4] (fun v i=>∃ j:Nat,j≤m∧i=.int .i64 j∧v=.int .u32 (rowF 4294967295 (l.take j))) (fun _ i=>m - (intOf i).toNat)
 case atStart=>exact ⟨0,Nat.zero_le _,rfl,rfl⟩
 case round =>
  obtain ⟨j,hj,rfl,rfl⟩:=hrel
  by_cases hlj:j < m
  ·have hljl:j < l.length:=by rw [Hm.out];exact hlj
   have Hbt:=zh (rowF_take 4294967295 l hljl)
   rcases Hat.out with h | ⟨b2,o2,c2,e1,hcx⟩
   ·rw [h] at hljl
    simp at hljl
   rw [Hm.out] at e1
   cases e1
   have hcb:=hcx j _ (List.getElem?_eq_getElem hljl)
   have hry:=rowF_range (z:=4294967295) (by decide) (by decide) (l.take j)
   generalize l[j]=cc at *
   generalize rowF 4294967295 (l.take j)=y at *
   have hcc:cc.toNat < 256:=cc.toNat_lt
   clear hcx
   go_wp2_with fail
   have HB:=zh (show byteF y cc=zEk 8 (bits .xor .u32 y (cc.toNat:Int)) from rfl)
   have hz0r:=xor_range y (cc.toNat:Int) hry.1 hry.2 (by omega) (by omega)
   generalize bits .xor .u32 y (cc.toNat:Int)=z0 at *
   go_loop [3,5] (fun v i=>∃ q:Nat,q≤8∧i=.int .i64 q∧v=.int .u32 (zEk q z0)) (fun _ i=>8 - (intOf i).toNat)
   case atStart=>exact ⟨0,Nat.zero_le _,rfl,rfl⟩
   case round =>
    obtain ⟨q,hq,rfl,rfl⟩:=hrel
    by_cases hlq:q < 8
    ·have Hit:=zh (show zEk (q+1) z0=bitF (zEk q z0) from rfl)
     have hrq:=zDR hz0r.1 hz0r.2 q
     generalize zEk q z0=z at *
     rcases and_one z hrq.1 hrq.2 with hb | hb
     ·have Hbf:=zh (bitF_zero hrq.1 hrq.2 hb)
      go_wp2_with fail
      go_round
      case rel=>exact ⟨q+1,by omega,by go_num,by rw [Hit.out,Hbf.out]⟩
      case measure=>simp [intOf];omega
     ·have Hbf:=zh (bitF_one hb)
      go_wp2_with fail
      go_round
      case rel=>exact ⟨q+1,by omega,by go_num,by rw [Hit.out,Hbf.out]⟩
      case measure=>simp [intOf];omega
    ·have hq8:q=8:=by omega
     subst hq8
     go_wp2_with fail
     go_round
     case rel=>exact ⟨j+1,by omega,by go_num,by rw [Hbt.out,HB.out]⟩
     case measure=>simp [intOf];omega
  ·have hjm:j=m:=by omega
   have hlk:l.take j=l:=List.take_of_length_le (by rw [Hm.out];omega)
   rw [hlk]
   clear hlk
   have He:=zh (show sumF l=bits .xor .u32 IntKind.u32.max (rowF 4294967295 l) from rfl)
   generalize rowF 4294967295 l=x at *
   go_wp2_with fail
   go_ret
   exact ⟨by rw [He.out];rfl,rfl⟩
def NewO (w:World) (l:Bs) (e:Ending) (w':World):Prop:=∃ v,e=.returned v∧OwnB w' 5 v l∧(∀ k,v.ownBlock=some k→w.heap.size≤k)∧Below w.heap.size w w'
theorem own_lit {w:World} (cs:Array Value) (l:Bs) (e:TypeId) (h:cs.toList=zAQ l) (n:Nat) (hn:n=l.length) (hm:n≤maxLen):OwnB (w.alloc (.cells cs e)) e (.slice (some ⟨w.heap.size,0,none⟩) n n) l:=by
 subst hn
 refine ⟨by rw [zD0,Nat.mul_one],.inr ⟨_,_,cs,rfl,zAI w _,Nat.le_refl _,?_,?_,?_⟩⟩
 ·exact hm
 ·have:=congrArg List.length h
  rw [zD0] at this
  simpa using Nat.le_of_eq this.symm
 ·rw [h,← zD0 l,Nat.mul_one,List.take_length]
theorem zEN {w:World} (v:Nat) (h1:v < 4294967296) :
  Calls Tryz.prog 183 #[.int .u32 (v:Int)] w (NewO w (zAn v)):=by
 have hfin:NewO w (zAn v) (.returned (.slice (some ⟨w.heap.size,0,none⟩) 4 4)) (w.alloc (.cells #[.int .u8 ((v:Int) % 256),.int .u8 ((v:Int) / 256 % 256),.int .u8 ((v:Int) / 65536 % 256),.int .u8 ((v:Int) / 16777216)] 5)) :=
  ⟨_,rfl,own_lit _ (zAn v) _ (by
   simp only [zAn,zAQ,List.map_cons,List.map_nil,UInt8.toNat_ofNat']
   have e1:(v:Int) / 16777216=((v / 16777216 % 256:Nat):Int):=by omega
   have e2:(v:Int) % 256=((v % 256:Nat):Int):=by omega
   have e3:(v:Int) / 256 % 256=((v / 256 % 256:Nat):Int):=by omega
   have e4:(v:Int) / 65536 % 256=((v / 65536 % 256:Nat):Int):=by omega
   rw [e1,e2,e3,e4]) 4 rfl (by decide),fun k hk=>(by cases hk;exact Nat.le_refl _),(Below.refl _ _).alloc (Nat.le_refl _) _⟩
 have Hfin:=zh hfin
 clear hfin
 go_enter Tryz.func183,Tryz.ntmps183
 go_wp2_with fail
 go_ret
 exact Hfin.out
theorem rfromFour_calls {w:World} {b o n c:Nat} {a0 a1 a2 a3:UInt8} (hn:4≤n) (h0:w.cell? ⟨b,o,none⟩=some (.int .u8 (a0.toNat:Int))) (h1:w.cell? ⟨b,o+1,none⟩=some (.int .u8 (a1.toNat:Int)))
  (h2:w.cell? ⟨b,o+2,none⟩=some (.int .u8 (a2.toNat:Int))) (h3:w.cell? ⟨b,o+3,none⟩=some (.int .u8 (a3.toNat:Int))) :
  Calls Tryz.prog 197 #[.slice (some ⟨b,o,none⟩) n c] w (fun e w'=>e=.returned (.int .u32 (ofFour a0 a1 a2 a3:Int))∧∃ q,w'=w.drewN q):=by
 have l0:=a0.toNat_lt
 have l1:=a1.toNat_lt
 have l2:=a2.toNat_lt
 have l3:=a3.toNat_lt
 have i0:(0:Int) < (n:Int):=by omega
 have i1:(1:Int) < (n:Int):=by omega
 have i2:(2:Int) < (n:Int):=by omega
 have i3:(3:Int) < (n:Int):=by omega
 have hF:=or_four l0 l1 l2 l3
 have HF:=zh (show bits .or .u32 (bits .or .u32 (bits .or .u32 (a0.toNat:Int) ((a1.toNat:Int) * 256)) ((a2.toNat:Int) * 65536)) ((a3.toNat:Int) * 16777216)=(ofFour a0 a1 a2 a3:Int) from hF)
 clear hF
 generalize ofFour a0 a1 a2 a3=r at *
 generalize a0.toNat=x0 at *
 generalize a1.toNat=x1 at *
 generalize a2.toNat=x2 at *
 generalize a3.toNat=x3 at *
 go_enter Tryz.func197,Tryz.ntmps197
 go_wp2_with fail
 go_quiet (fail)
 go_wp2
 go_ret
 exact ⟨by rw [← HF.out];rfl,_,rfl⟩
theorem rfour_at {w:World} {p:Option Addr} {n c:Nat} {b:Bs} (h:HasB w (.slice p n c) b) (h4:4≤b.length) :
  Calls Tryz.prog 197 #[.slice p n c] w (fun e w'=>e=.returned (.int .u32 (fourAt b:Int))∧∃ q,w'=w.drewN q):=by
 have h1:=h.at
 obtain ⟨p',c',e⟩:=h.slice
 cases e
 rcases h1 with e | ⟨g,o,c2,e,hc⟩
 ·rw [e] at h4
  simp at h4
 ·cases e
  have hb:∀ i,i < b.length→b[i]?=some (b.getD i 0):=fun i hi=>by simp [List.getD,List.getElem?_eq_getElem hi]
  exact rfromFour_calls h4 (by simpa using hc 0 _ (hb 0 (by omega))) (hc 1 _ (hb 1 (by omega))) (hc 2 _ (hb 2 (by omega))) (hc 3 _ (hb 3 (by omega)))
theorem ownB_keep {w w':World} {v:Value} {l:Bs} (h:OwnB w 5 v l) (hb:Below w.heap.size w w'):OwnB w' 5 v l:=OwnB.keep h fun k hk=>hb.block k (OwnR.lt h hk)
theorem renc_calls {w:World} {p:Option Addr} {m c:Nat} {l:Bs} (hx:HasB w (.slice p m c) l) (hl:l.length≤1048576) :
  Calls Tryz.prog 132 #[.slice p m c] w fun e w'=>∃ v,e=.returned (.tuple #[v,.int .i64 0])∧OwnB w' 5 v (zAK l)∧(∀ k,v.ownBlock=some k→w.heap.size≤k)∧Below w.heap.size w w':=by
 have hml:m=l.length:=(zBw hx).1
 have hm:m≤1048576:=by omega
 have Hx:=zh hx
 have Hml:=zh hml
 have Hf1:=zh (zEN (w:=w) m (by omega))
 obtain ⟨i0,hi,hz0,hz1,hz2⟩:=info_parts (show (Tryz.prog.info? 5).map (fun i=>(i.zero,i.size,i.bytes))=some (some (.int .u8 0),1,1) by kernel_rfl)
 clear hx hml hl
 go_enter Tryz.func132,Tryz.ntmps132
 go_wp2_with fail
 refine Hf1.out.mono ?_
 rintro e w1 ⟨v1,rfl,ho1,hn1,hb1⟩
 obtain ⟨p1,c1,rfl⟩:=OwnR.shape ho1
 have Ho1:=zh (And.intro ho1 (And.intro hn1 hb1))
 have Hs1:=zh (zEB (p:=p1) (m:=4) (c:=c1) ho1.has (by rw [show (zAn m).length=4 from rfl];decide))
 rw [show (zAn m).length=4 from rfl]
 clear ho1 hn1 hb1 Hf1
 go_wp2_with fail
 refine Hs1.out.mono ?_
 rintro e w2 ⟨rfl,rfl⟩
 rw [zCd]
 have Hf2:=zh (zEN (w:=w2) (sumN (zAn m)) (zES _))
 have hhd:zBp l.length=zAn m ++ zAn (sumN (zAn m)):=by rw [← Hml.out];rfl
 have Hhd:=zh hhd
 generalize sumN (zAn m)=q at *
 clear hhd Hs1
 go_wp2_with fail
 refine Hf2.out.mono ?_
 rintro e w3 ⟨v2,rfl,ho2,hn2,hb2⟩
 obtain ⟨p2,c2,rfl⟩:=OwnR.shape ho2
 have X3:=zh (Ho1.out.2.2.trans (hb2.mono Ho1.out.2.2.size))
 have hown1:OwnR w3 5 1 (.slice p1 4 c1) 4 (zAQ (zAn m)):=ownB_keep Ho1.out.1 hb2
 have Hown1:=zh hown1
 have H2:=zh (show zAL w3 1 (.slice p2 4 c2) 4 (zAQ (zAn q)) from ho2.has)
 have Hxs:=zh (show ∀ W,Below w.heap.size w W→zAL W 1 (.slice p m c) m (zAQ l) from fun W hb=>by
  have h:=Hx.out.below hb
  unfold HasB at h
  rw [← Hml.out] at h
  exact h)
 rw [show (zAn q).length=4 from rfl]
 clear ho2 hn2 hb2 hown1 Hf2
 go_wp2_with (first | (at_builtin;refine zAP w3 rfl (.tmp 12) (.tmp 15) 22 rfl 5 i0 (.int .u8 0) 1 1 Tryz.underlying22 hi hz0 hz1 hz2 rfl (by decide) (.slice p1 4 c1) 4 _ rfl Hown1.out (.slice p2 4 c2) 4 _ rfl H2.out (zAM _) (by decide) (by decide) ?_;intro v12 w12 hown12 hgrow12 hloc12;have hX:=X3.out.grown hgrow12 X3.out.size (fun j e=>Ho1.out.2.1 j e);have hnew:=zAp (B:=w.heap.size) hloc12 Ho1.out.2.1 X3.out.size;obtain ⟨p12,c12,rfl⟩:=OwnR.shape hown12;have X12:=zh (And.intro hX (And.intro hown12 hnew));clear hown12 hgrow12 hloc12 hX hnew) | (at_builtin;refine zAP w12 rfl (.tmp 17) (.tmp 18) 22 rfl 5 i0 (.int .u8 0) 1 1 Tryz.underlying22 hi hz0 hz1 hz2 rfl (by decide) (.slice p12 8 c12) 8 _ rfl X12.out.2.1 (.slice p m c) m _ rfl (Hxs.out _ X12.out.1) (zAM _) (by unfold maxLen;omega) (by omega) ?_;intro v13 w13 hown13 hgrow13 hloc13;have hX:=X12.out.1.grown hgrow13 X12.out.1.size (fun j e=>X12.out.2.2 j e);have hnew:=zAp (B:=w.heap.size) hloc13 X12.out.2.2 X12.out.1.size;obtain ⟨p13,c13,rfl⟩:=OwnR.shape hown13;have X13:=zh (And.intro hX (And.intro hown13 hnew));clear hown13 hgrow13 hloc13 hX hnew))
 have ho13:OwnB w13 5 (.slice p13 (8+m) c13) (zBp l.length ++ l):=by
  unfold OwnB
  rw [Hhd.out,zBT,zBT,List.length_append,List.length_append,show (zAn m).length=4 from rfl,show (zAn q).length=4 from rfl,← Hml.out]
  exact X13.out.2.1
 have hl13:(zBp l.length ++ l).length=8+m:=by rw [List.length_append,zA3,← Hml.out]
 have Hs2:=zh (zEB (p:=p13) (m:=8+m) (c:=c13) ho13.has (by rw [hl13];omega))
 have Ho13:=zh ho13
 have Hl13:=zh hl13
 have Hfr:=zh (show zAK l=(zBp l.length ++ l) ++ zAn (sumN (zBp l.length ++ l)) from rfl)
 clear ho13 hl13
 generalize zBp l.length ++ l=Y at *
 refine Hs2.out.mono ?_
 rintro e w14 ⟨rfl,rfl⟩
 rw [zCd]
 have Hf3:=zh (zEN (w:=w14) (sumN Y) (zES _))
 generalize sumN Y=q2 at *
 clear Hs2
 go_wp2_with fail
 refine Hf3.out.mono ?_
 rintro e w15 ⟨v15,rfl,ho15,hn15,hb15⟩
 obtain ⟨p15,c15,rfl⟩:=OwnR.shape ho15
 have X15:=zh (X13.out.1.trans (hb15.mono X13.out.1.size))
 have hown13:OwnR w15 5 1 (.slice p13 (8+m) c13) (8+m) (zAQ Y):=by
  have h:=ownB_keep Ho13.out hb15
  unfold OwnB at h
  rw [Hl13.out] at h
  exact h
 have Hown13:=zh hown13
 have H15:=zh (show zAL w15 1 (.slice p15 4 c15) 4 (zAQ (zAn q2)) from ho15.has)
 rw [show (zAn q2).length=4 from rfl]
 clear ho15 hn15 hb15 hown13 Hf3
 go_wp2_with (at_builtin;refine zAP w15 rfl (.tmp 20) (.tmp 23) 22 rfl 5 i0 (.int .u8 0) 1 1 Tryz.underlying22 hi hz0 hz1 hz2 rfl (by decide) (.slice p13 (8+m) c13) (8+m) _ rfl Hown13.out (.slice p15 4 c15) 4 _ rfl H15.out (zAM _) (by unfold maxLen;omega) (by omega) ?_;intro v16 w16 hown16 hgrow16 hloc16;have hX:=X15.out.grown hgrow16 X15.out.size (fun j e=>X13.out.2.2 j e);have hnew:=zAp (B:=w.heap.size) hloc16 X13.out.2.2 X15.out.size;obtain ⟨p16,c16,rfl⟩:=OwnR.shape hown16;have X16:=zh (And.intro hX (And.intro hown16 hnew));clear hown16 hgrow16 hloc16 hX hnew)
 go_ret2
 refine ⟨_,rfl,?_,X16.out.2.2,X16.out.1⟩
 unfold OwnB
 rw [Hfr.out,List.length_append,Hl13.out,show (zAn q2).length=4 from rfl,zBT]
 exact X16.out.2.1
end Go.Proofs.YtapfnehdgailmaaGreat
