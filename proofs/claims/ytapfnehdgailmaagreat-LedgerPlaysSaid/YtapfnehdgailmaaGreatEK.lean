/- The program's disk and the document's, side by side. The document's keep (satrapyref4): has, Load. The document's ledger (satrapyref14) in memory, over its disk. (Printed by mkrl1.py.) The contracts of octet's Reader, with the set of blocks in which its bytes lie. (Printed by mkx.py out of the texts Rdr, RdrN.) A journal (a plain model): its records, what a disk opens as, what each change leaves. What the records of a journal say when they are read again (plain laws). A journal in memory, its disk, and blocks (F) that neither has. journal: isTermOf, isGroup, isOne, own. (Printed by mkj1.py.) journal: isOne, own, may, Term, Base, mayVote, ended. (Printed by mkj2.py.) journal: own, may, Term, Base, Last, has, mayVote, ended. (Printed by mkj3.py.) journal: may, Term, Base, Last, has, mayVote, ended. (Printed by mkj4.py.) journal: At, TermAt, groupAt, Nodes, Snapshot. (Printed by mkj5.py.) The contracts of the document's Reader (satrapyref1), with the set of blocks in which its bytes lie. The document's Reader: Num, Bytes. journal: At (no), TermAt, groupAt, Nodes, Snapshot. (Printed by mkj6.py.) journal: a Writer of a function's own; group, first, termRecord, entryRecord, framed. (Printed by mkj7.py.) journal: lays, SetTerm. (Printed by mkj8.py.) journal: SetTerm. (Printed by mkj9.py.) journal: Cut. (Printed by mkj10.py.) -/
import Derived.Test.YtapfnehdgailmaaGreatEA
import Derived.Test.YtapfnehdgailmaaGreatEE
import Derived.Test.YtapfnehdgailmaaGreatEF
import Derived.Test.YtapfnehdgailmaaGreatEG
import Derived.Test.YtapfnehdgailmaaGreatEJ
set_option maxRecDepth 100000
set_option maxHeartbeats 64000000
namespace Go.Proofs.YtapfnehdgailmaaGreat
open Go.RowKit Go.Sat Go.Maps
def Pair (w w1:World) (d:Nat) (D:zAA) (r:Nat) (R:zAA):Prop:=∃ own v L,St w w1 d D own∧zAU w1 r v L own R∧∀ k,own k→w.heap.size≤k
section
variable {w w1:World} {d:Nat} {D:zAA} {r:Nat} {R:zAA}
theorem Pair.bel (h:Pair w w1 d D r R):Below w.heap.size w w1:=let ⟨_,_,_,hS,_,_⟩:=h;hS.below
theorem Pair.okD (h:Pair w w1 d D r R):D.OK:=let ⟨_,_,_,hS,_,_⟩:=h;hS.ok
theorem Pair.next (h:Pair w w1 d D r R) {w2:World} (hb:Below w1.heap.size w1 w2):Pair w w2 d D r R:=by
 obtain ⟨own,v,L,hS,hR,hn⟩:=h
 exact ⟨own,v,L,hS.next hb,hR.below hb,hn⟩
theorem Pair.alloc (h:Pair w w1 d D r R) (o:Obj):Pair w (w1.alloc o) d D r R:=h.next ((Below.refl _ _).alloc (Nat.le_refl _) o)
theorem Pair.drewN (h:Pair w w1 d D r R) (n:Nat):Pair w (w1.drewN n) d D r R:=h.next ⟨rfl,rfl,rfl,Nat.le_refl _,fun _ _=>rfl⟩
theorem zAU.same {w2:World} {own:Nat→Prop} {v:Value} {L:List zAF} (h:zAU w1 r v L own R) (hS:St w w2 d D own) (hs:Same own w1 w2):zAU w2 r v L own R where
 cells:=(hs r h.or).trans h.cells
 row:=h.row.keep fun k hk=>hs k (h.ov k hk).1
 files:=h.files
 data:=fun x hx=>OwnR.keep (h.data x hx) fun k hk=>hs k (h.ob x hx k hk).1
 or:=h.or
 ov:=h.ov
 ob:=h.ob
 olt:=fun _ hk=>hS.flt hk
 ok:=h.ok
theorem Pair.moved {w':World} {own own':Nat→Prop} {v':Value} {L':List zAF} {R':zAA} (hS:St w w1 d D own) (hn:∀ k,own k→w.heap.size≤k) (hR':zAU w' r v' L' own' R') (hc:Chg own w1 w') (hx:∀ k,own' k→own k∨w1.heap.size≤k):Pair w w' d D r R':=by
 refine ⟨own',v',L',hS.move hc (fun k _ hk=>⟨hk,hn k hk⟩) (fun k hk=>⟨hx k hk,hR'.olt k hk⟩),hR',fun k hk=>?_⟩
 rcases hx k hk with h | h
 ·exact hn k h
 ·exact Nat.le_trans hS.below.size h
theorem pair_new (h:St w w1 d D NoF) (n:Int) (h0:0≤n) (h1:n≤1073741824) :
  Calls Tryz.prog 14 #[.int .i64 n] w1 fun e w'=>∃ r,e=.returned (.tuple #[.pointer (some ⟨r,0,none⟩),.int .i64 0])∧Pair w w' d D r (zAA.fresh n.toNat):=by
 refine (rnew_calls w1 n h0 h1).mono ?_
 rintro e w' ⟨r,rfl,hR,hb,hr⟩
 have hc:Chg NoF w1 w':=(Chg.of_below hb).mono fun _ _ h=>h
 exact ⟨r,rfl,_,_,_,h.move hc (fun _ _ h=>h.elim) (fun k hk=>⟨.inr (by rw [hk];exact hr),hR.olt k hk⟩),hR,fun k hk=>by rw [hk];exact Nat.le_trans h.below.size hr⟩
end
section
variable {w:World} {r:Nat} {v:Value} {L:List zAF} {own:Nat→Prop} {D:zAA}
theorem rhas_calls (h:zAU w r v L own D) (s:ByteArray) :
  Calls Tryz.prog 198 #[.pointer (some ⟨r,0,none⟩),.string s] w fun e w'=>e=.returned (.bool (Sat.get (nm s) D.files).isSome)∧Below w.heap.size w w':=by
 have H:=zh (zBt h s)
 clear h
 cases hg:Sat.get (nm s) D.files with
 | none =>
  rw [hg] at H
  go_enter Tryz.func198,Tryz.ntmps198
  go_wp2_with fail
  refine H.out.mono ?_
  rintro e w' ⟨v,rfl,-,-,hb⟩
  have Hf:=zh hb
  clear hb
  go_wp2_with fail
  go_ret
  exact ⟨rfl,Hf.out⟩
 | some f =>
  rw [hg] at H
  go_enter Tryz.func198,Tryz.ntmps198
  go_wp2_with fail
  refine H.out.mono ?_
  rintro e w' ⟨v,rfl,-,-,hb⟩
  have Hf:=zh hb
  clear hb
  go_wp2_with fail
  go_ret
  exact ⟨rfl,Hf.out⟩
def RGotL (w:World) (o:Option zAP) (e:Ending) (w':World):Prop :=
 ∃ v,e=.returned (.tuple #[v,.int .i64 (loadE o:Int)])∧OwnB w' 5 v (zBT o)∧(∀ k,v.ownBlock=some k→w.heap.size≤k)∧Below w.heap.size w w'
theorem rload_calls (h:zAU w r v L own D) (s:ByteArray) :
  Calls Tryz.prog 83 #[.pointer (some ⟨r,0,none⟩),.string s] w (RGotL w (Sat.get (nm s) D.files)):=by
 have hln:=zCk h.ok (nm s)
 have H:=zh (zBt h s)
 clear h
 cases hg:Sat.get (nm s) D.files with
 | none =>
  rw [hg] at H
  clear hln
  go_enter Tryz.func83,Tryz.ntmps83
  go_wp2_with fail
  refine H.out.mono ?_
  rintro e w2 ⟨v,rfl,-,-,hb⟩
  have Hf:=zh (show RGotL w none (.returned (.tuple #[.slice none 0 0,.int .i64 7])) w2 from ⟨.slice none 0 0,by rw [zDK];rfl,by rw [zDJ];exact OwnR.nil _ _ _,fun k hk=>(by cases hk),hb⟩)
  clear hb
  go_wp2_with fail
  go_ret2
  exact Hf.out
 | some f =>
  rw [hg] at H hln
  go_enter Tryz.func83,Tryz.ntmps83
  go_wp2_with fail
  refine H.out.mono ?_
  rintro e w2 ⟨v,rfl,hv,-,hb⟩
  obtain ⟨p,c,rfl,hnc⟩:=zAv hv
  have H1:=zh (rone_calls hv.has hnc (by omega))
  have Hb:=zh hb
  have hE:=zDL f
  have hB:=zCb f
  generalize zCH (some f)=b at *
  generalize hN:b.length=N at *
  clear hv hb hnc hln
  go_wp2_with fail
  refine H1.out.mono ?_
  rintro e w3 ⟨v,rfl,hv,hn,hb3⟩
  have hb4:=Hb.out.trans (hb3.mono Hb.out.size)
  by_cases he:oneE b=0
  ·have Hf:=zh (show RGotL w (some f) (.returned (.tuple #[v,.int .i64 0])) w3 from ⟨v,by rw [hE,if_pos he];rfl,by rw [hB];exact hv,fun k hk=>Nat.le_trans Hb.out.size (hn k hk),hb4⟩)
   rw [he]
   clear hv hn hb3 hb4
   go_wp2_with fail
   go_ret2
   exact Hf.out
  ·have Hf:=zh (show RGotL w (some f) (.returned (.tuple #[.slice none 0 0,.int .i64 3])) w3 from ⟨.slice none 0 0,by rw [hE,if_neg he];rfl,by rw [hB];unfold oneB;rw [if_neg he];exact OwnR.nil _ _ _,fun k hk=>(by cases hk),hb4⟩)
   have hne:((oneE b:Int) != 0)=true:=by simp;omega
   generalize oneE b=E at *
   clear hv hn hb3 hb4
   go_wp2_with fail
   go_ret2
   exact Hf.out
end
abbrev LRC (r:Nat) (pre:ByteArray) (n:Int) (dv ev:Value) (dead:Bool):Obj:=.cells #[.pointer (some ⟨r,0,none⟩),.string pre,.int .i64 n,dv,ev,.bool dead] 110 (0,0)
structure LRIn (w:World) (l r:Nat) (pre:ByteArray) (O C:Nat→Prop) (M:LedM) (dv ev:Value) (vs:List Value):Prop where
 cells:w.heap[l]?=some (LRC r pre (M.base:Int) dv ev M.dead)
 data:HasB w dv M.data
 row:OwnR w 22 1 ev M.entries.length vs
 rows:∀ (i:Nat) b v,M.entries[i]?=some b→vs[i]?=some v→HasB w v b
 oj:O l
 oe:∀ k,ev.ownBlock=some k→O k∧k≠l
 cd:∀ k,dv.ownBlock=some k→C k
 cv:∀ u ∈ vs,∀ k,u.ownBlock=some k→C k
 dis:∀ k,C k→¬ O k
 olt:∀ k,O k→k < w.heap.size
 clt:∀ k,C k→k < w.heap.size
 psz:1≤pre.size∧pre.size≤20
 last:M.last≤1099511627776
 big:M.data.length≤1073741824∧∀ b ∈ M.entries,b.length≤1073741824
section
variable {w w':World} {l r:Nat} {pre:ByteArray} {O C:Nat→Prop} {M:LedM} {dv ev:Value} {vs:List Value}
theorem LRIn.rlen (h:LRIn w l r pre O C M dv ev vs):vs.length=M.entries.length:=by have:=h.row.1;omega
theorem LRIn.keep (h:LRIn w l r pre O C M dv ev vs) (hs:∀ k,O k∨C k→w'.heap[k]?=w.heap[k]?) (hl:∀ k,O k∨C k→k < w'.heap.size):LRIn w' l r pre O C M dv ev vs where
 cells:=(hs l (.inl h.oj)).trans h.cells
 data:=zAY.keep h.data fun k hk=>hs k (.inr (h.cd k hk))
 row:=h.row.keep fun k hk=>hs k (.inl (h.oe k hk).1)
 rows:=fun i e v he hv=>zAY.keep (h.rows i e v he hv) fun k hk=>hs k (.inr (h.cv v (List.mem_of_getElem? hv) k hk))
 oj:=h.oj
 oe:=h.oe
 cd:=h.cd
 cv:=h.cv
 dis:=h.dis
 olt:=fun k hk=>hl k (.inl hk)
 clt:=fun k hk=>hl k (.inr hk)
 psz:=h.psz
 last:=h.last
 big:=h.big
theorem LRIn.below (h:LRIn w l r pre O C M dv ev vs) (hb:Below w.heap.size w w'):LRIn w' l r pre O C M dv ev vs :=
 h.keep (fun k hk=>hb.block k (hk.elim (h.olt k) (h.clt k))) fun k hk=>Nat.lt_of_lt_of_le (hk.elim (h.olt k) (h.clt k)) hb.size
theorem LRIn.chg {S:Nat→Prop} (h:LRIn w l r pre O C M dv ev vs) (hc:Chg S w w') (hS:∀ k,S k→¬ O k∧¬ C k):LRIn w' l r pre O C M dv ev vs :=
 h.keep (fun k hk=>hc.block k (hk.elim (h.olt k) (h.clt k)) fun s=>hk.elim (hS k s).1 (hS k s).2) fun k hk=>Nat.lt_of_lt_of_le (hk.elim (h.olt k) (h.clt k)) hc.size
theorem LRIn.c (h:LRIn w l r pre O C M dv ev vs) (i:Nat) {v:Value} (hi:(#[.pointer (some ⟨r,0,none⟩),.string pre,.int .i64 (M.base:Int),dv,ev,.bool M.dead]:Array Value)[i]?=some v):w.cell? ⟨l,i,none⟩=some v:=zAC h.cells hi
theorem LRIn.fr (h:LRIn w l r pre O C M dv ev vs) (i:Nat):w.frozen? ⟨l,i,none⟩=false:=zAI h.cells i
end
def LRF (w1:World) (l r:Nat) (pre:ByteArray) (D:zAA) (M:LedM) (Hot Cold:Nat→Prop):Prop :=
 ∃ O own dv ev vs v L,LRIn w1 l r pre O Cold M dv ev vs∧zAU w1 r v L own D∧(∀ k,O k→¬ own k)∧(∀ k,Cold k→¬ own k)∧∀ k,Hot k ↔ O k∨own k
section
variable {w1 w2:World} {l r:Nat} {pre:ByteArray} {D:zAA} {M:LedM} {Hot Cold:Nat→Prop}
theorem LRF.okD (h:LRF w1 l r pre D M Hot Cold):D.OK:=let ⟨_,_,_,_,_,_,_,_,hR,_⟩:=h;hR.ok
theorem LRF.hlt (h:LRF w1 l r pre D M Hot Cold) {k:Nat} (hk:Hot k):k < w1.heap.size:=by
 obtain ⟨_,_,_,_,_,_,_,hJ,hR,_,_,hH⟩:=h
 exact ((hH k).1 hk).elim (hJ.olt k) (hR.olt k)
theorem LRF.clt (h:LRF w1 l r pre D M Hot Cold) {k:Nat} (hk:Cold k):k < w1.heap.size:=let ⟨_,_,_,_,_,_,_,hJ,_⟩:=h;hJ.clt k hk
theorem LRF.dis (h:LRF w1 l r pre D M Hot Cold) {k:Nat} (hk:Cold k):¬ Hot k:=by
 obtain ⟨_,_,_,_,_,_,_,hJ,hR,_,hC,hH⟩:=h
 exact fun hh=>((hH k).1 hh).elim (hJ.dis k hk) (hC k hk)
theorem LRF.psz (h:LRF w1 l r pre D M Hot Cold):1≤pre.size∧pre.size≤20:=let ⟨_,_,_,_,_,_,_,hJ,_⟩:=h;hJ.psz
theorem LRF.chg {S:Nat→Prop} (h:LRF w1 l r pre D M Hot Cold) (hc:Chg S w1 w2) (hS:∀ k,S k→¬ Hot k∧¬ Cold k):LRF w2 l r pre D M Hot Cold:=by
 obtain ⟨O,own,dv,ev,vs,v,L,hJ,hR,hO,hC,hH⟩:=h
 exact ⟨O,own,dv,ev,vs,v,L,hJ.chg hc fun k s=>⟨fun o=>(hS k s).1 ((hH k).2 (.inl o)),(hS k s).2⟩,hR.keep hc.size (fun k hk=>hc.block k (hR.olt k hk) fun s=>(hS k s).1 ((hH k).2 (.inr hk))),hO,hC,hH⟩
theorem LRF.below (h:LRF w1 l r pre D M Hot Cold) (hb:Below w1.heap.size w1 w2):LRF w2 l r pre D M Hot Cold:=h.chg (Chg.of_below hb) fun _ s=>s.elim
theorem LRF.drewN (h:LRF w1 l r pre D M Hot Cold) (q:Nat):LRF (w1.drewN q) l r pre D M Hot Cold:=h.below ⟨rfl,rfl,rfl,Nat.le_refl _,fun _ _=>rfl⟩
def zAZ (w0:World) (l r:Nat) (pre:ByteArray) (Hot0 Cold0:Nat→Prop) (w1:World) (D:zAA) (M:LedM):Prop :=
 ∃ Hot Cold,LRF w1 l r pre D M Hot Cold∧Chg Hot0 w0 w1∧(∀ k,Hot k→Hot0 k∨w0.heap.size≤k)∧∀ k,Cold k→Cold0 k∨w0.heap.size≤k
end
section
variable {w0 w1 w2:World} {l r:Nat} {pre:ByteArray} {D D2:zAA} {M M2:LedM} {Hot Cold Hot1 Cold1:Nat→Prop}
theorem LRF.step (h:LRF w1 l r pre D M Hot Cold):zAZ w1 l r pre Hot Cold w1 D M:=⟨Hot,Cold,h,Chg.refl _ _,fun _ h=>.inl h,fun _ h=>.inl h⟩
theorem LRF.stepB (h:LRF w1 l r pre D M Hot Cold) (hb:Below w1.heap.size w1 w2):zAZ w1 l r pre Hot Cold w2 D M:=⟨Hot,Cold,h.below hb,(Chg.of_below hb).mono fun _ _ h=>h.elim,fun _ h=>.inl h,fun _ h=>.inl h⟩
theorem zAZ.comp (hc:Chg Hot w0 w1) (hh:∀ k,Hot1 k→Hot k∨w0.heap.size≤k) (hco:∀ k,Cold1 k→Cold k∨w0.heap.size≤k) (h2:zAZ w1 l r pre Hot1 Cold1 w2 D2 M2):zAZ w0 l r pre Hot Cold w2 D2 M2:=by
 obtain ⟨Hot2,Cold2,hF2,hc2,hh2,hco2⟩:=h2
 refine ⟨Hot2,Cold2,hF2,hc.trans hc2 fun k hk hs=>(hh k hs).resolve_right (by omega),fun k hk=>?_,fun k hk=>?_⟩
 ·rcases hh2 k hk with h | h
  ·exact hh k h
  ·exact .inr (Nat.le_trans hc.size h)
 ·rcases hco2 k hk with h | h
  ·exact hco k h
  ·exact .inr (Nat.le_trans hc.size h)
theorem zAZ.trans (h:zAZ w0 l r pre Hot Cold w1 D M) (hx:∀ Hot1 Cold1,LRF w1 l r pre D M Hot1 Cold1→zAZ w1 l r pre Hot1 Cold1 w2 D2 M2):zAZ w0 l r pre Hot Cold w2 D2 M2:=by
 obtain ⟨Hot1,Cold1,hF,hc,hh,hco⟩:=h
 exact zAZ.comp hc hh hco (hx _ _ hF)
theorem zAZ.next (h:zAZ w0 l r pre Hot Cold w1 D M) (hb:Below w1.heap.size w1 w2):zAZ w0 l r pre Hot Cold w2 D M:=h.trans fun _ _ hF=>hF.stepB hb
theorem zAZ.since (h:zAZ w1 l r pre Hot Cold w2 D M) (hb:Below w0.heap.size w0 w1):zAZ w0 l r pre Hot Cold w2 D M:=by
 obtain ⟨Hot1,Cold1,hF,hc,hh,hco⟩:=h
 exact ⟨Hot1,Cold1,hF,((Chg.of_below hb).mono fun _ _ h=>h.elim).trans hc fun _ _ h=>h,fun k hk=>(hh k hk).imp id (Nat.le_trans hb.size),fun k hk=>(hco k hk).imp id (Nat.le_trans hb.size)⟩
theorem lr_disk {P:Program} {f:FuncId} {args:Array Value} {Re:zAA × Nat} {wc:World} (h:LRF w1 l r pre D M Hot Cold) (hb:Below w1.heap.size w1 wc) (hx:∀ v L own,zAU wc r v L own D→(∀ k,own k→Hot k)→Calls P f args wc (zBi wc r own Re)) :
  Calls P f args wc fun e w'=>e=.returned (.int .i64 (Re.2:Int))∧zAZ w1 l r pre Hot Cold w' Re.1 M∧w'.heap[l]?=w1.heap[l]?:=by
 obtain ⟨O,own,dv,ev,vs,v,L,hJ,hR,hO,hC,hH⟩:=h
 refine (hx v L own (hR.below hb) fun k hk=>(hH k).2 (.inr hk)).mono ?_
 rintro e w' ⟨rfl,own',⟨v',L',hR'⟩,hc,hn⟩
 have hc1:Chg own w1 w':=zBk hb hc
 have hn1:∀ k,own' k→own k∨w1.heap.size≤k:=fun k hk=>(hn k hk).imp id (Nat.le_trans hb.size)
 have hJ':=hJ.chg hc1 fun k hk=>⟨fun o=>hO k o hk,fun c=>hC k c hk⟩
 refine ⟨rfl,⟨fun k=>O k∨own' k,Cold,⟨O,own',dv,ev,vs,v',L',hJ',hR',fun k hk hk2=>?_,fun k hk hk2=>?_,fun k=>Iff.rfl⟩,hc1.mono fun k _ hk=>(hH k).2 (.inr hk),fun k hk=>?_,fun k hk=>.inl hk⟩,hc1.block l (hJ.olt l hJ.oj) (hO l hJ.oj)⟩
 ·rcases hn1 k hk2 with h | h
  ·exact hO k hk h
  ·have:=hJ.olt k hk
   omega
 ·rcases hn1 k hk2 with h | h
  ·exact hC k hk h
  ·have:=hJ.clt k hk
   omega
 ·rcases hk with hk | hk
  ·exact .inl ((hH k).2 (.inl hk))
  ·exact (hn1 k hk).imp (fun h=>(hH k).2 (.inr h)) id
end
def zB2 (S:Nat→Prop) (w:World) (l r:Nat) (pre:ByteArray) (M:LedM):Prop :=
 ∃ O C dv ev vs,LRIn w l r pre O C M dv ev vs∧∀ k,(O k∨C k)→S k
section
variable {S:Nat→Prop} {w w1 w2:World} {l r:Nat} {pre:ByteArray} {M:LedM}
theorem zB2.below (h:zB2 S w1 l r pre M) (hb:Below w1.heap.size w1 w2):zB2 S w2 l r pre M:=by
 obtain ⟨O,C,dv,ev,vs,hJ,hn⟩:=h
 exact ⟨O,C,dv,ev,vs,hJ.below hb,hn⟩
theorem zB2.lt (h:zB2 S w l r pre M):S l∧l < w.heap.size:=let ⟨_,_,_,_,_,hJ,hn⟩:=h;⟨hn l (.inl hJ.oj),hJ.olt l hJ.oj⟩
theorem zB2.cells (h:zB2 S w l r pre M):∃ dv ev,w.heap[l]?=some (LRC r pre (M.base:Int) dv ev M.dead):=let ⟨_,_,dv,ev,_,hJ,_⟩:=h;⟨dv,ev,hJ.cells⟩
theorem zB2.wide {T:Nat→Prop} (h:zB2 S w1 l r pre M) (hT:∀ k,S k→T k):zB2 T w1 l r pre M:=by
 obtain ⟨O,C,dv,ev,vs,hJ,hn⟩:=h
 exact ⟨O,C,dv,ev,vs,hJ,fun k hk=>hT k (hn k hk)⟩
end
def RdX (A:Nat→Prop) (w:World) (r:Nat) (R:Rd):Prop:=∃ p n c,RdIn w r R p n c∧∀ k,(Value.slice p n c).ownBlock=some k→A k
theorem RdX.at {A:Nat→Prop} {w:World} {r:Nat} {R:Rd} (h:RdX A w r R):RdAt w r R:=let ⟨p,n,c,h,_⟩:=h;⟨p,n,c,h⟩
theorem RdX.lt {A:Nat→Prop} {w:World} {r:Nat} {R:Rd} (h:RdX A w r R):r < w.heap.size:=let ⟨_,_,_,h,_⟩:=h;h.rlt
theorem RdX.chg {A S:Nat→Prop} {w w':World} {r:Nat} {R:Rd} (h:RdX A w r R) (hc:Chg S w w') (hr:¬ S r) (hA:∀ k,A k→¬ S k):RdX A w' r R:=by
 obtain ⟨p,n,c,h,ha⟩:=h
 exact ⟨p,n,c,⟨(hc.block r h.rlt hr).trans h.cells,HasB.chg h.has hc fun k hk=>hA k (ha k hk),h.cap,h.ne,h.len⟩,ha⟩
theorem run_tailX {P:Program} {w:World} {t e:TypeId} {i:TypeInfo} (ht:P.underlying t=some (.slice e)) (hi:P.info? e=some i) (hsz:i.size=1) {p:Option Addr} {n c:Nat} {l:Bs} (h:HasB w (.slice p n c) l) (hnc:n≤c) (r k:Nat) (hne:(Value.slice p n c).ownBlock≠some r) (hk:k≤n) :
  ∃ p' c',(∀ W,(Instr.slice t (.slice p n c) (some (.int .i64 (k:Int))) none none).run P W=.ok (.slice p' (n - k) c') W)∧HasB w (.slice p' (n - k) c') (l.drop k)∧n - k≤c'∧(Value.slice p' (n - k) c').ownBlock≠some r∧∀ x,(Value.slice p' (n - k) c').ownBlock=some x→(Value.slice p n c).ownBlock=some x:=by
 obtain ⟨p',c',h1,h2,h3,h4⟩:=zDy (P:=P) ht hi hsz h hnc r k hne hk
 refine ⟨p',c',h1,h2,h3,h4,fun x hx=>?_⟩
 have e1:=h1 w
 rw [run_tail0 (P:=P) w ht hi hsz p n c k hk hnc] at e1
 have e2:(if c=k then p else p.map fun x=>x.add k)=p':=by
  have:=congrArg (fun z:Result Value=>match z with | .ok (.slice a _ _) _=>a | _=>none) e1
  exact this
 subst e2
 split at hx
 ·cases p with
  | none=>cases hx
  | some a=>exact hx
 ·cases p with
  | none=>cases hx
  | some a =>
   have e3:(Value.slice (some (a.add k)) (n - k) c').ownBlock=some (a.add k).block:=rfl
   have hx':(Value.slice (some (a.add k)) (n - k) c').ownBlock=some x:=hx
   rw [e3,zCF] at hx'
   exact hx'
section
variable {w:World} {r:Nat} {R:Rd} {p:Option Addr} {n c:Nat}
end
end Go.Proofs.YtapfnehdgailmaaGreat
namespace Go.Sat
namespace Rd
def ints:Nat→Rd→List Int × Rd
 | 0,R=>([],R)
 | k+1,R=>((R.num.1:Int) :: (ints k R.num.2).1,(ints k R.num.2).2)
def grp (may:List Int→Bool) (R:Rd):List Int × Rd :=
 if 7 < R.num.1 then ([],fail) else ((ints R.num.1 R.num.2).1,if may (ints R.num.1 R.num.2).1 then (ints R.num.1 R.num.2).2 else fail)
end Rd
def anyG (_:List Int):Bool:=true
end Go.Sat
namespace Go.Proofs.YtapfnehdgailmaaGreat
open Go.RowKit Go.Sat Go.Maps
structure Ent where
 term:Int
 kind:Int
 data:Bs
 nodes:List Int
structure JouM where
 number:Nat
 term:Int
 group:List Int
 now:Int
 vote:Int
 data:Bs
 entries:List Ent
 dead:Bool
def grpGo (prev:Int):List Int→Bool
 | []=>true
 | n :: r=>decide (prev < n∧n < 7) && grpGo n r
def zDY (l:List Int):Bool:=grpGo (-1) l && decide (1≤l.length∧l.length≤7)
def isTm (n:Int):Bool:=decide (0≤n∧n≤1099511627776)
def isEnt (e:Ent):Bool :=
 isTm e.term && (if e.kind=0 then decide (e.data=[]∧e.nodes=[]) else if e.kind=1 then decide (1≤e.data.length∧e.data.length≤65536∧e.nodes=[])
  else if e.kind=2 then decide (e.data=[]) && zDY e.nodes else false)
def snpX:Bs:=[45,115,110,97,112]
def snpN (p:Bs):Bs:=p ++ snpX
/-! ### Records -/
def grpB (l:List Int):Bs:=numB l.length ++ zCs l
def fstB (n:Nat) (t:Int) (g:List Int):Bs:=1 :: (numB n ++ numI t ++ grpB g)
def trmB (t v:Int):Bs:=2 :: (numI t ++ numI (v+1))
def entB (n:Nat) (e:Ent):Bs:=3 :: (numB n ++ numI e.term ++ numI e.kind ++ rowB e.data ++ grpB e.nodes)
def snpB (n:Nat) (t:Int) (g:List Int) (b:Bs):Bs:=numB n ++ numI t ++ grpB g ++ rowB b
def entsB:Nat→List Ent→List Bs
 | _,[]=>[]
 | n,e :: r=>entB (n+1) e :: entsB (n+1) r
namespace JouM
def none0 (g:List Int):JouM:=⟨0,0,g,0,-1,[],[],false⟩
def last (M:JouM):Nat:=M.number+M.entries.length
def die (M:JouM):JouM:={ M with dead:=true }
def termAt (M:JouM) (i:Int):Option Int :=
 if i=(M.number:Int) then some M.term else if i < (M.number:Int) then none else (M.entries[(i - M.number - 1).toNat]?).map Ent.term
def lastT (M:JouM):Int:=match M.entries.getLast? with
 | some e=>e.term
 | none=>M.term
def mayVote (M:JouM) (t v:Int):Bool:=decide (M.now≤t∧t≤1099511627776∧-1≤v∧v < 7) && !decide (t=M.now∧M.vote≠-1∧v≠M.vote)
def rows (M:JouM):List Bs:=fstB M.number M.term M.group :: trmB M.now M.vote :: entsB M.number M.entries
end JouM
def rec1 (first:Bool) (M:JouM) (p:Bs):Option JouM:=match p with
 | []=>none
 | k :: r =>
  if first≠decide (k=1) then none
  else if k=1 then
   (if (Rd.num ⟨r,false⟩).2.num.2.grp zDY |>.2.whole then
    if (Rd.num ⟨r,false⟩).1≤1099511627776∧(Rd.num ⟨r,false⟩).2.num.1≤1099511627776 then
     some { M with number:=(Rd.num ⟨r,false⟩).1,term:=((Rd.num ⟨r,false⟩).2.num.1:Int),group:=((Rd.num ⟨r,false⟩).2.num.2.grp zDY).1 } else none
   else none)
  else if k=2 then
   (if (Rd.num ⟨r,false⟩).2.num.2.whole && M.mayVote ((Rd.num ⟨r,false⟩).1:Int) (((Rd.num ⟨r,false⟩).2.num.1:Int) - 1) then
    some { M with now:=((Rd.num ⟨r,false⟩).1:Int),vote:=(((Rd.num ⟨r,false⟩).2.num.1:Int) - 1) } else none)
  else if k=3 then
   (let R1:=Rd.num ⟨r,false⟩
    let R2:=R1.2.num
    let R3:=R2.2.num
    let R4:=R3.2.bytes
    let R5:=R4.2.grp anyG
    let e:Ent:=⟨R2.1,R3.1,R4.1,R5.1⟩
    if R5.2.whole∧R1.1=M.last+1∧R1.1≤1099511627776∧isEnt e then some { M with entries:=M.entries ++ [e] } else none)
  else if k=4 then
   (if (Rd.num ⟨r,false⟩).2.whole∧M.number < (Rd.num ⟨r,false⟩).1∧(Rd.num ⟨r,false⟩).1≤M.last+1 then some { M with entries:=M.entries.take ((Rd.num ⟨r,false⟩).1 - M.number - 1) } else none)
  else none
def recGo (M:JouM):List Bs→Option JouM
 | []=>some M
 | p :: r=>(rec1 false M p).bind fun M'=>recGo M' r
def recAll (M:JouM):List Bs→Option JouM
 | []=>none
 | p :: r=>(rec1 true M p).bind fun M'=>recGo M' r
structure Snap where
 number:Nat
 term:Int
 group:List Int
 data:Bs
def snapIs (b:Bs):Option Snap :=
 let R1:=Rd.num ⟨b,false⟩
 let R2:=R1.2.num
 let R3:=R2.2.grp zDY
 let R4:=R3.2.bytes
 if R4.2.whole∧1≤R1.1∧R1.1≤1099511627776∧R2.1≤1099511627776∧R4.1.length≤524288 then some ⟨R1.1,R2.1,R3.1,R4.1⟩ else none
def snapOf (o:Option zAP):Nat × Option Snap :=
 if loadE o=7 then (0,none) else if loadE o≠0 then (loadE o,none) else match snapIs (zBT o) with
  | none=>(3,none)
  | some s=>(0,some s)
def JouM.rebase (M:JouM) (s:Snap):JouM :=
 { M with number:=s.number,term:=s.term,group:=s.group,data:=s.data,entries:=if M.number < s.number∧M.termAt s.number=some s.term then M.entries.drop (s.number - M.number) else [] }
def writesJ (D:zAA) (pre:Bs) (M:JouM):zAA × Nat:=D.save1 (logN pre) (zAs M.rows)
def readLogJ (D:zAA) (pre:Bs) (M:JouM):zAA × Nat × Bool × JouM:=match get (logN pre) D.files with
 | none=>(D,0,true,M)
 | some f=>match recAll M (scan f.data).1 with
  | none=>(D,3,false,M)
  | some M'=>((zAc D (logN pre) (scan f.data).2 f.data.length).1,(zAc D (logN pre) (scan f.data).2 f.data.length).2,false,M')
def joins (s:Option Snap) (M:JouM) (anew:Bool):Option (Bool × JouM):=match s with
 | none=>if 0 < M.number then none else some (anew,M)
 | some s=>if M.number < s.number then some (true,M.rebase s) else if s.number < M.number then none else some (anew,{ M with data:=s.data })
def jouOpen (D:zAA) (pre:Bs) (nodes:List Int):zAA × Nat × JouM :=
 if pre.length < 1∨20 < pre.length∨zDY nodes=false then (D,1,JouM.none0 nodes) else
 let r0:=D.rid [zAD (logN pre),zAD (snpN pre)]
 if r0.2≠0 then (r0.1,r0.2,JouM.none0 nodes) else
 let s:=snapOf (get (snpN pre) r0.1.files)
 if s.1≠0 then (r0.1,s.1,JouM.none0 nodes) else
 let l:=readLogJ r0.1 pre (JouM.none0 nodes)
 if l.2.1≠0 then (l.1,l.2.1,JouM.none0 nodes) else
 match joins s.2 l.2.2.2 l.2.2.1 with
 | none=>(l.1,3,JouM.none0 nodes)
 | some (anew,M)=>if anew then ((writesJ l.1 pre M).1,(writesJ l.1 pre M).2,M) else (l.1,0,M)
structure WroteJ where
 disk:zAA
 jou:JouM
 err:Nat
end Go.Proofs.YtapfnehdgailmaaGreat
namespace Go.Proofs.YtapfnehdgailmaaGreat
open Go.RowKit Go.Sat Go.Maps
theorem numI_of {z:Int} (h0:0≤z) (h1:z≤4611686018427387904):numI z=numB z.toNat:=by
 have:=zCr (n:=z.toNat) (by omega)
 rwa [Int.toNat_of_nonneg h0] at this
theorem rd_int {z:Int} (h0:0≤z) (h1:z≤4611686018427387904) (r:Bs) (b:Bool):Rd.num ⟨numI z ++ r,b⟩=(z.toNat,⟨r,b⟩):=by
 rw [numI_of h0 h1]
 exact Rd.num_of (by omega) r b
theorem ints_of:∀ (l:List Int) (r:Bs) (b:Bool),(∀ x ∈ l,0≤x∧x≤4611686018427387904)→Rd.ints l.length ⟨zCs l ++ r,b⟩=(l,⟨r,b⟩)
 | [],_,_,_=>rfl
 | z :: l,r,b,h=>by
  have hz:=h z (by simp)
  have e1:zCs (z :: l) ++ r=numI z ++ (zCs l ++ r):=by simp [zCs]
  show (((Rd.num _).1:Int) :: (Rd.ints l.length (Rd.num _).2).1,(Rd.ints l.length (Rd.num _).2).2)=_
  rw [e1,rd_int hz.1 hz.2]
  dsimp only
  rw [ints_of l r b fun x hx=>h x (by simp [hx]),Int.toNat_of_nonneg hz.1]
theorem grp_of {may:List Int→Bool} {l:List Int} (hl:l.length≤7) (h:∀ x ∈ l,0≤x∧x < 7) (hm:may l=true) (r:Bs) (b:Bool):Rd.grp may ⟨grpB l ++ r,b⟩=(l,⟨r,b⟩):=by
 unfold Rd.grp grpB
 rw [List.append_assoc,Rd.num_of (by omega)]
 dsimp only
 rw [if_neg (by omega),ints_of l r b fun x hx=>by have:=h x hx;omega]
 dsimp only
 rw [if_pos hm]
theorem whole_of (b:Bool):Rd.whole ⟨[],b⟩=!b:=by
 unfold Rd.whole
 simp
theorem grp_bound {l:List Int} (h:zDY l=true):l.length≤7∧∀ x ∈ l,0≤x∧x < 7:=by
 unfold zDY at h
 simp only [Bool.and_eq_true,decide_eq_true_eq] at h
 refine ⟨h.2.2,?_⟩
 have go:∀ (l:List Int) (p:Int),-1≤p→grpGo p l=true→∀ x ∈ l,p < x∧x < 7:=by
  intro l
  induction l with
  | nil=>intro p _ _ x hx;cases hx
  | cons n r ih =>
   intro p hp hg x hx
   unfold grpGo at hg
   simp only [Bool.and_eq_true,decide_eq_true_eq] at hg
   cases hx with
   | head=>exact hg.1
   | tail _ hx =>
    have:=ih n (by omega) hg.2 x hx
    omega
 intro x hx
 have:=go l (-1) (by omega) h.1 x hx
 omega
def intsV (l:List Int):List Value:=l.map (Value.int .i64)
def OwnI (w:World) (v:Value) (l:List Int):Prop:=OwnR w 3 1 v l.length (intsV l)
theorem OwnI.has {w:World} {v:Value} {l:List Int} (h:OwnI w v l):HasI w v l:=OwnR.holds h
theorem OwnI.keep {w w':World} {v:Value} {l:List Int} (h:OwnI w v l) (hb:∀ k,v.ownBlock=some k→w'.heap[k]?=w.heap[k]?):OwnI w' v l:=OwnR.keep h hb
theorem own_capI {w:World} {v:Value} {l:List Int} (h:OwnI w v l):∃ p c,v=.slice p l.length c∧l.length≤c:=by
 rcases h.2 with ⟨rfl,hn⟩ | ⟨g,cap,cur,rfl,_,hnc,_⟩
 ·exact ⟨none,0,by rw [hn],by omega⟩
 ·exact ⟨_,cap,rfl,hnc⟩
/-! ### Entries in memory -/
abbrev EV:=Value × Value
def entC (e:Ent) (v:EV):List Value:=[.int .i64 e.term,.int .i64 e.kind,v.1,v.2]
def entsC:List Ent→List EV→List Value
 | e :: es,v :: vs=>entC e v ++ entsC es vs
 | _,_=>[]
theorem entsC_len:∀ (es:List Ent) (vs:List EV),vs.length=es.length→(entsC es vs).length=es.length * 4
 | [],[],_=>rfl
 | e :: es,v :: vs,h=>by
  show (entC e v ++ entsC es vs).length=_
  rw [List.length_append,entsC_len es vs (by simpa using h),List.length_cons]
  show 4+_=_
  omega
 | [],_ :: _,h=>by simp at h
 | _ :: _,[],h=>by simp at h
theorem entsC_at:∀ (es:List Ent) (vs:List EV) (i:Nat) (e:Ent) (v:EV),es[i]?=some e→vs[i]?=some v→∀ (j:Nat) u,(entC e v)[j]?=some u→(entsC es vs)[i * 4+j]?=some u
 | [],_,i,e,v,h,_=>by simp at h
 | _ :: _,[],i,e,v,_,h=>by simp at h
 | x :: es,y :: vs,0,e,v,h1,h2=>by
  simp only [List.getElem?_cons_zero,Option.some.injEq] at h1 h2
  subst h1
  subst h2
  intro j u hu
  have hj:j < 4:=by
   have:=(List.getElem?_eq_some_iff.1 hu).1
   exact this
  show (entC x y ++ entsC es vs)[0 * 4+j]?=_
  rw [List.getElem?_append_left (by show _ < 4;omega),show 0 * 4+j=j by omega]
  exact hu
 | x :: es,y :: vs,i+1,e,v,h1,h2=>by
  intro j u hu
  have:=entsC_at es vs i e v (by simpa using h1) (by simpa using h2) j u hu
  show (entC x y ++ entsC es vs)[(i+1) * 4+j]?=_
  rw [List.getElem?_append_right (by show 4≤_;omega)]
  show (entsC es vs)[(i+1) * 4+j - 4]?=_
  rw [show (i+1) * 4+j - 4=i * 4+j by omega]
  exact this
structure EntAt (w:World) (e:Ent) (v:EV):Prop where
 data:OwnB w 5 v.1 e.data
 nodes:OwnI w v.2 e.nodes
theorem EntAt.keep {w w':World} {e:Ent} {v:EV} (h:EntAt w e v) (hb:∀ k,(v.1.ownBlock=some k∨v.2.ownBlock=some k)→w'.heap[k]?=w.heap[k]?):EntAt w' e v :=
 ⟨OwnR.keep h.data fun k hk=>hb k (.inl hk),OwnR.keep h.nodes fun k hk=>hb k (.inr hk)⟩
theorem EntAt.lt {w:World} {e:Ent} {v:EV} (h:EntAt w e v) {k:Nat} (hk:v.1.ownBlock=some k∨v.2.ownBlock=some k):k < w.heap.size:=hk.elim (OwnR.lt h.data) (OwnR.lt h.nodes)
def EntsAt (w:World) (es:List Ent) (vs:List EV):Prop:=vs.length=es.length∧∀ (i:Nat) e v,es[i]?=some e→vs[i]?=some v→EntAt w e v
structure JouM.OK (M:JouM):Prop where
 last:M.last≤1099511627776
 term:isTm M.term=true
 group:zDY M.group=true
 now:isTm M.now=true
 vote:-1≤M.vote∧M.vote < 7
 data:M.data.length≤1073741824
 ents:∀ e ∈ M.entries,isEnt e=true
theorem isTm_iff {n:Int}:isTm n=true ↔ 0≤n∧n≤1099511627776:=by simp [isTm]
/-! ### A journal in memory -/
structure zCg (w:World) (j d:Nat) (pre:ByteArray) (own:Nat→Prop) (M:JouM) (gv dv ev:Value) (vs:List EV):Prop where
 cells:w.heap[j]?=some (.cells #[.int .i64 (M.number:Int),.int .i64 M.term,gv,.pointer (some ⟨d,0,none⟩),.string pre,.int .i64 M.now,.int .i64 M.vote,dv,ev,.bool M.dead] 132 (0,0))
 group:OwnI w gv M.group
 data:OwnB w 5 dv M.data
 row:OwnR w 50 4 ev M.entries.length (entsC M.entries vs)
 rows:EntsAt w M.entries vs
 ol:own j
 og:∀ k,gv.ownBlock=some k→own k∧k≠j∧ev.ownBlock≠some k
 od:∀ k,dv.ownBlock=some k→own k∧k≠j∧ev.ownBlock≠some k
 oe:∀ k,ev.ownBlock=some k→own k∧k≠j
 ov:∀ u ∈ vs,∀ k,(u.1.ownBlock=some k∨u.2.ownBlock=some k)→own k∧k≠j∧ev.ownBlock≠some k
 olt:∀ k,own k→k < w.heap.size
 psz:1≤pre.size∧pre.size≤20
 ok:M.OK
section
variable {w w':World} {j d:Nat} {pre:ByteArray} {own:Nat→Prop} {M:JouM} {gv dv ev:Value} {vs:List EV}
theorem zCg.keep (h:zCg w j d pre own M gv dv ev vs) (hs:∀ k,own k→w'.heap[k]?=w.heap[k]?) (hl:∀ k,own k→k < w'.heap.size):zCg w' j d pre own M gv dv ev vs where
 cells:=(hs j h.ol).trans h.cells
 group:=OwnR.keep h.group fun k hk=>hs k (h.og k hk).1
 data:=OwnR.keep h.data fun k hk=>hs k (h.od k hk).1
 row:=h.row.keep fun k hk=>hs k (h.oe k hk).1
 rows:=⟨h.rows.1,fun i e v he hv=>(h.rows.2 i e v he hv).keep fun k hk=>hs k (h.ov v (List.mem_of_getElem? hv) k hk).1⟩
 ol:=h.ol
 og:=h.og
 od:=h.od
 oe:=h.oe
 ov:=h.ov
 olt:=hl
 psz:=h.psz
 ok:=h.ok
theorem zCg.below (h:zCg w j d pre own M gv dv ev vs) (hb:Below w.heap.size w w'):zCg w' j d pre own M gv dv ev vs :=
 h.keep (fun k hk=>hb.block k (h.olt k hk)) fun k hk=>Nat.lt_of_lt_of_le (h.olt k hk) hb.size
theorem zCg.c (h:zCg w j d pre own M gv dv ev vs) (i:Nat) {v:Value} (hi:(#[.int .i64 (M.number:Int),.int .i64 M.term,gv,.pointer (some ⟨d,0,none⟩),.string pre,.int .i64 M.now,.int .i64 M.vote,dv,ev,.bool M.dead]:Array Value)[i]?=some v):w.cell? ⟨j,i,none⟩=some v:=zAC h.cells hi
theorem zCg.fr (h:zCg w j d pre own M gv dv ev vs) (i:Nat):w.frozen? ⟨j,i,none⟩=false:=zAI h.cells i
theorem zCg.ent (h:zCg w j d pre own M gv dv ev vs) {i:Nat} {e:Ent} (he:M.entries[i]?=some e):∃ g c v,ev=.slice (some ⟨g,0,none⟩) M.entries.length c∧vs[i]?=some v∧EntAt w e v ∧
  w.cell? ⟨g,i * 4,none⟩=some (.int .i64 e.term)∧w.cell? ⟨g,i * 4+1,none⟩=some (.int .i64 e.kind)∧w.cell? ⟨g,i * 4+2,none⟩=some v.1∧w.cell? ⟨g,i * 4+3,none⟩=some v.2:=by
 have hi:=(List.getElem?_eq_some_iff.1 he).1
 have hv:vs[i]?=some (vs[i]'(by rw [h.rows.1];exact hi)):=List.getElem?_eq_getElem _
 generalize vs[i]'(by rw [h.rows.1];exact hi)=v at hv
 rcases h.row.2 with ⟨-,h0⟩ | ⟨g,cap,cur,rfl,-⟩
 ·omega
 ·have hc:∀ (k:Nat) u,(entC e v)[k]?=some u→w.cell? ⟨g,i * 4+k,none⟩=some u:=fun k u hu=>by
   have:=h.row.cells (g:=g) rfl (i * 4+k) u (entsC_at _ _ i e v he hv k u hu)
   rwa [add_zero] at this
  exact ⟨g,cap,v,rfl,hv,h.rows.2 i e v he hv,hc 0 _ rfl,hc 1 _ rfl,hc 2 _ rfl,hc 3 _ rfl⟩
end
def JouF (w w1:World) (j d:Nat) (pre:ByteArray) (D:zAA) (M:JouM) (F:Nat→Prop):Prop :=
 ∃ own gv dv ev vs,zCg w1 j d pre own M gv dv ev vs∧St w w1 d D (fun k=>own k∨F k)∧(∀ k,own k→w.heap.size≤k∧¬ F k)∧∀ k,F k→k < w1.heap.size
def JouCells (j d:Nat) (pre:ByteArray) (w:World):Prop:=w.cell? ⟨j,3,none⟩=some (.pointer (some ⟨d,0,none⟩))∧w.cell? ⟨j,4,none⟩=some (.string pre)∧pre.size≤20
theorem JouCells.same {l d:Nat} {pre:ByteArray} {w w':World} (h:JouCells l d pre w) (hb:w'.heap[l]?=w.heap[l]?):JouCells l d pre w' :=
 ⟨(World.cell?_of_block (a:=⟨l,3,none⟩) hb).trans h.1,(World.cell?_of_block (a:=⟨l,4,none⟩) hb).trans h.2.1,h.2.2⟩
section
variable {w w1 w2:World} {j d:Nat} {pre:ByteArray} {D:zAA} {M:JouM} {F F':Nat→Prop}
theorem JouF.bel (h:JouF w w1 j d pre D M F):Below w.heap.size w w1:=let ⟨_,_,_,_,_,_,hS,_,_⟩:=h;hS.below
theorem JouF.okD (h:JouF w w1 j d pre D M F):D.OK:=let ⟨_,_,_,_,_,_,hS,_,_⟩:=h;hS.ok
theorem JouF.flt (h:JouF w w1 j d pre D M F) {k:Nat} (hk:F k):k < w1.heap.size:=let ⟨_,_,_,_,_,_,_,_,hF⟩:=h;hF k hk
theorem JouF.stF (h:JouF w w1 j d pre D M F):St w w1 d D F:=let ⟨_,_,_,_,_,_,hS,_,_⟩:=h;hS.less fun _ hk=>.inr hk
theorem JouF.st (h:JouF w w1 j d pre D M F):St w w1 d D NoF:=let ⟨_,_,_,_,_,_,hS,_,_⟩:=h;hS.noF
theorem JouF.psz (h:JouF w w1 j d pre D M F):1≤pre.size∧pre.size≤20:=let ⟨_,_,_,_,_,hJ,_,_,_⟩:=h;hJ.psz
theorem JouF.move {S:Nat→Prop} (h:JouF w w1 j d pre D M F) (hc:Chg S w1 w2) (hS:∀ k,k < w1.heap.size→S k→F k∧w.heap.size≤k) (hF:∀ k,F' k→(F k∨w1.heap.size≤k)∧k < w2.heap.size):JouF w w2 j d pre D M F':=by
 obtain ⟨own,gv,dv,ev,vs,hL,hSt,hn,hl⟩:=h
 refine ⟨own,gv,dv,ev,vs,hL.keep (fun k hk=>hc.block k (hL.olt k hk) fun hs=>(hn k hk).2 (hS k (hL.olt k hk) hs).1) fun k hk=>Nat.lt_of_lt_of_le (hL.olt k hk) hc.size,hSt.move hc (fun k hk hs=>⟨.inr (hS k hk hs).1,(hS k hk hs).2⟩) (fun k hk=>?_),fun k hk=>⟨(hn k hk).1,fun hf=>?_⟩,fun k hk=>(hF k hk).2⟩
 ·rcases hk with hk | hk
  ·exact ⟨.inl (.inl hk),Nat.lt_of_lt_of_le (hL.olt k hk) hc.size⟩
  ·exact ⟨(hF k hk).1.imp .inr id,(hF k hk).2⟩
 ·rcases (hF k hf).1 with h | h
  ·exact (hn k hk).2 h
  ·have:=hL.olt k hk
   omega
theorem JouF.next (h:JouF w w1 j d pre D M F) (hb:Below w1.heap.size w1 w2):JouF w w2 j d pre D M F :=
 h.move (Chg.of_below hb) (fun _ _ h=>h.elim) fun _ hk=>⟨.inl hk,Nat.lt_of_lt_of_le (h.flt hk) hb.size⟩
theorem JouF.drewN (h:JouF w w1 j d pre D M F) (q:Nat):JouF w (w1.drewN q) j d pre D M F:=h.next ⟨rfl,rfl,rfl,Nat.le_refl _,fun _ _=>rfl⟩
theorem JouF.same (h:JouF w w1 j d pre D M F) (hb:Below w1.heap.size w1 w2):Same F w1 w2:=fun _ hk=>hb.block _ (h.flt hk)
theorem JouF.less (h:JouF w w1 j d pre D M F) (hF:∀ k,F' k→F k):JouF w w1 j d pre D M F' :=
 h.move (Chg.refl _ _:Chg (fun _=>False) w1 w1) (fun _ _ h=>h.elim) fun _ hk=>⟨.inl (hF _ hk),h.flt (hF _ hk)⟩
theorem JouF.more (h:JouF w w1 j d pre D M F) (hb:Below w1.heap.size w1 w2) (hF:∀ k,F' k→F k∨w1.heap.size≤k∧k < w2.heap.size):JouF w w2 j d pre D M F' :=
 h.move (Chg.of_below hb) (fun _ _ h=>h.elim) fun k hk=>by
  rcases hF k hk with h1 | h1
  ·exact ⟨.inl h1,Nat.lt_of_lt_of_le (h.flt h1) hb.size⟩
  ·exact ⟨.inr h1.1,h1.2⟩
theorem JouF.box (h:JouF w w1 j d pre D M F) (o:Obj):JouF w (w1.alloc o) j d pre D M (fun k=>F k∨k=w1.heap.size) :=
 h.more (zAb w1 o) fun k hk=>hk.imp id fun e=>⟨by omega,by simp;omega⟩
theorem JouF.turned {own own':Nat→Prop} {M':JouM} {gv' dv' ev':Value} {vs':List EV} (hS:St w w1 d D (fun k=>own k∨F k)) (hn:∀ k,own k→w.heap.size≤k∧¬ F k) (hl:∀ k,F k→k < w1.heap.size)
  (hL':zCg w2 j d pre own' M' gv' dv' ev' vs') (hc:Chg own w1 w2) (hx:∀ k,own' k→own k∨w1.heap.size≤k):JouF w w2 j d pre D M' F∧Same F w1 w2:=by
 refine ⟨⟨own',gv',dv',ev',vs',hL',hS.move hc (fun k _ hk=>⟨.inl hk,(hn k hk).1⟩) (fun k hk=>?_),fun k hk=>?_,fun k hk=>Nat.lt_of_lt_of_le (hl k hk) hc.size⟩,fun k hk=>hc.block k (hl k hk) fun ho=>(hn k ho).2 hk⟩
 ·rcases hk with hk | hk
  ·exact ⟨(hx k hk).imp .inl id,hL'.olt k hk⟩
  ·exact ⟨.inl (.inr hk),Nat.lt_of_lt_of_le (hl k hk) hc.size⟩
 ·rcases hx k hk with h | h
  ·exact hn k h
  ·exact ⟨Nat.le_trans hS.below.size h,fun hf=>by have:=hl k hf;omega⟩
end
theorem zCg.set {w w':World} {j d:Nat} {pre:ByteArray} {own:Nat→Prop} {M M':JouM} {gv dv ev:Value} {vs:List EV} (h:zCg w j d pre own M gv dv ev vs)
  (hc:w'.heap[j]?=some (.cells #[.int .i64 (M'.number:Int),.int .i64 M'.term,gv,.pointer (some ⟨d,0,none⟩),.string pre,.int .i64 M'.now,.int .i64 M'.vote,dv,ev,.bool M'.dead] 132 (0,0)))
  (hs:∀ k,k≠j→w'.heap[k]?=w.heap[k]?) (hz:w'.heap.size=w.heap.size) (hg:M'.group=M.group) (hd:M'.data=M.data) (he:M'.entries=M.entries) (ok:M'.OK):zCg w' j d pre own M' gv dv ev vs where
 cells:=hc
 group:=by rw [hg];exact OwnR.keep h.group fun k hk=>hs k (h.og k hk).2.1
 data:=by rw [hd];exact OwnR.keep h.data fun k hk=>hs k (h.od k hk).2.1
 row:=by rw [he];exact h.row.keep fun k hk=>hs k (h.oe k hk).2
 rows:=by rw [he];exact ⟨h.rows.1,fun i e v he hv=>(h.rows.2 i e v he hv).keep fun k hk=>hs k (h.ov v (List.mem_of_getElem? hv) k hk).2.1⟩
 ol:=h.ol
 og:=h.og
 od:=h.od
 oe:=h.oe
 ov:=h.ov
 olt:=fun k hk=>by rw [hz];exact h.olt k hk
 psz:=h.psz
 ok:=ok
structure zCz (w:World) (e:Ent) (v:EV):Prop where
 data:HasB w v.1 e.data
 nodes:HasI w v.2 e.nodes
 dl:e.data.length≤1099511627776
 nl:e.nodes.length≤1099511627776
theorem zCz.below {w w':World} {e:Ent} {v:EV} (h:zCz w e v) (hb:Below w.heap.size w w'):zCz w' e v:=⟨HasB.below h.data hb,zAY.chg h.nodes (Chg.of_below hb) fun _ _=>id,h.dl,h.nl⟩
theorem EntAt.has {w:World} {e:Ent} {v:EV} (h:EntAt w e v) (hd:e.data.length≤1099511627776) (hn:e.nodes.length≤1099511627776):zCz w e v:=⟨OwnB.has h.data,OwnI.has h.nodes,hd,hn⟩
theorem zAx {w w':World} {a:Addr} {v:Value} (h:w.cell? a=some v) (hb:Below w.heap.size w w'):w'.cell? a=some v:=(hb.cell (World.block_lt_of_cell? w a h)).trans h
section
variable {w w1:World} {j d:Nat} {pre:ByteArray} {D:zAA} {M:JouM} {F:Nat→Prop}
end
structure RRIn (w:World) (r:Nat) (R:Rd) (p:Option Addr) (n c:Nat):Prop where
 cells:w.heap[r]?=some (.cells #[.slice p n c,.bool R.bad] 148 (0,0))
 has:HasB w (.slice p n c) R.rest
 cap:n≤c
 ne:(Value.slice p n c).ownBlock≠some r
 len:R.rest.length≤140737488355328
 inv:R.bad=true→R.rest=[]
def RdY (A:Nat→Prop) (w:World) (r:Nat) (R:Rd):Prop:=∃ p n c,RRIn w r R p n c∧∀ k,(Value.slice p n c).ownBlock=some k→A k
theorem RRIn.n_eq {w:World} {r:Nat} {R:Rd} {p:Option Addr} {n c:Nat} (h:RRIn w r R p n c):R.rest.length=n:=by obtain ⟨_,_,e⟩:=h.has.slice;simp only [Value.slice.injEq] at e;exact e.2.1.symm
theorem RRIn.rlt {w:World} {r:Nat} {R:Rd} {p:Option Addr} {n c:Nat} (h:RRIn w r R p n c):r < w.heap.size:=zAt h.cells
theorem RdY.lt {A:Nat→Prop} {w:World} {r:Nat} {R:Rd} (h:RdY A w r R):r < w.heap.size:=let ⟨_,_,_,h,_⟩:=h;h.rlt
theorem RdY.len {A:Nat→Prop} {w:World} {r:Nat} {R:Rd} (h:RdY A w r R):R.rest.length≤140737488355328:=let ⟨_,_,_,h,_⟩:=h;h.len
theorem RdY.inv {A:Nat→Prop} {w:World} {r:Nat} {R:Rd} (h:RdY A w r R):R.bad=true→R.rest=[]:=let ⟨_,_,_,h,_⟩:=h;h.inv
theorem RdY.chg {A S:Nat→Prop} {w w':World} {r:Nat} {R:Rd} (h:RdY A w r R) (hc:Chg S w w') (hr:¬ S r) (hA:∀ k,A k→¬ S k):RdY A w' r R:=by
 obtain ⟨p,n,c,h,ha⟩:=h
 exact ⟨p,n,c,⟨(hc.block r h.rlt hr).trans h.cells,HasB.chg h.has hc fun k hk=>hA k (ha k hk),h.cap,h.ne,h.len,h.inv⟩,ha⟩
theorem RdY.below {A:Nat→Prop} {w w':World} {r:Nat} {R:Rd} (h:RdY A w r R) (hb:Below w.heap.size w w'):RdY A w' r R:=h.chg (Chg.of_below hb) id fun _ _=>id
theorem RdY.c1 {A:Nat→Prop} {w:World} {r:Nat} {R:Rd} (h:RdY A w r R):w.cell? ⟨r,1,none⟩=some (.bool R.bad):=let ⟨_,_,_,h,_⟩:=h;zAC h.cells rfl
def RStepY (A:Nat→Prop) (w:World) (r:Nat) (R':Rd) (v:Value) (e:Ending) (w':World):Prop:=e=.returned v∧RdY A w' r R'∧Chg (fun k=>k=r) w w'
def NumY (A:Nat→Prop) (w:World) (r:Nat) (R:Rd) (e:Ending) (w':World):Prop:=e=.returned (.int .i64 (R.num.1:Int))∧RdY A w' r R.num.2∧Chg (fun k=>k=r) w w'
def RowY (A:Nat→Prop) (w:World) (r:Nat) (b:Bs) (R':Rd) (e:Ending) (w':World):Prop :=
 ∃ v,e=.returned v∧OwnB w' 5 v b∧(∀ j,v.ownBlock=some j→w.heap.size≤j)∧RdY A w' r R'∧Chg (fun j=>j=r) w w'
theorem zDG {w w':World} {e:TypeId} {v:Value} {l:Bs} {m:Nat} (hm:l.length=m) (hown:OwnR w' e 1 v (0+m) ([] ++ zAN l)) (hg:(w.alloc (.cells #[] e)).grownBy w' (some w.heap.size)) (hl:v.ownBlock=some w.heap.size∨∃ g,v.ownBlock=some g∧(w.alloc (.cells #[] e)).heap.size≤g) :
  OwnB w' e v l∧(∀ k,v.ownBlock=some k→w.heap.size≤k)∧Below w.heap.size w w':=by
 subst hm
 rw [Nat.zero_add,List.nil_append] at hown
 refine ⟨hown,fun k hk=>?_,(zAb w _).trans ((Chg.of_grown hg).below (by simp) fun k hk e=>?_)⟩
 ·rcases hl with h | ⟨g,h,hge⟩
  ·rw [h] at hk
   cases hk
   exact Nat.le_refl _
  ·rw [h] at hk
   cases hk
   simp at hge
   omega
 ·have:=Option.some.inj e
  omega
section
variable {w:World} {r:Nat} {R:Rd} {p:Option Addr} {n c:Nat} {A:Nat→Prop}
theorem rrbad_calls (h:RdY A w r R) :
  Calls Tryz.prog 164 #[.pointer (some ⟨r,0,none⟩)] w (RStepY A w r Rd.fail (.tuple #[])):=by
 obtain ⟨p,n,c,h,hA⟩:=h
 have h0:w.cell? ⟨r,0,none⟩=some (.slice p n c):=zAC h.cells rfl
 have h1:w.cell? ⟨r,1,none⟩=some (.bool R.bad):=zAC h.cells rfl
 have hf:=fun i=>zAI h.cells i
 have HE:=zh (show RStepY A w r Rd.fail (.tuple #[]) (.returned (.tuple #[])) ((w.setCell ⟨r,1,none⟩ (.bool true)).setCell ⟨r,0,none⟩ (.slice none 0 0)) from ⟨rfl,⟨none,0,0,⟨by
  have h1:=zAO h.cells 1 (.bool true)
  have h2:=zAO h1 0 (.slice none 0 0)
  simpa [Rd.fail] using h2,OwnB.has (e:=0) (OwnR.nil _ _ _),Nat.le_refl _,fun h=>(by cases h),Nat.zero_le _,fun _=>rfl⟩,fun k hk=>(by cases hk)⟩,(Chg.setCell w ⟨r,1,none⟩ _).trans (Chg.setCell _ ⟨r,0,none⟩ _) fun _ _ e=>e⟩)
 clear h
 go_enter Tryz.func164,Tryz.ntmps164
 go_wp2_with fail
 go_end0
 exact HE.out
theorem rrraw_calls (h:RdY A w r R) (m:Nat) (hm63:m≤9223372036854775807) :
  Calls Tryz.prog 163 #[.pointer (some ⟨r,0,none⟩),.int .i64 (m:Int)] w (RowY A w r (R.raw m).1 (R.raw m).2):=by
 obtain ⟨i0,hi,hz0,hz1,hz2⟩:=info_parts (show (Tryz.prog.info? 5).map (fun i=>(i.zero,i.size,i.bytes))=some (some (.int .u8 0),1,1) by kernel_rfl)
 have Hbd:=zh (rrbad_calls h)
 obtain ⟨p,n,c,h,hA⟩:=h
 have hn:=h.n_eq
 have hlen:=h.len
 have c0:w.cell? ⟨r,0,none⟩=some (.slice p n c):=zAC h.cells rfl
 have c1:w.cell? ⟨r,1,none⟩=some (.bool R.bad):=zAC h.cells rfl
 have d0:decide ((m:Int) < 0)=false:=decide_eq_false (by omega)
 by_cases hm:m≤n
 ·have d1:decide ((n:Int) < (m:Int))=false:=decide_eq_false (by omega)
  have hR:R.raw m=(R.rest.take m,⟨R.rest.drop m,R.bad⟩):=by unfold Rd.raw;rw [if_pos (by omega)]
  rw [hR]
  cases hbd:R.bad with
  | true =>
   have hrest:=h.inv hbd
   have hm0:m=0:=by rw [hrest] at hn;simp at hn;omega
   subst hm0
   rw [hbd] at c1
   have HE:=zh (show RowY A w r (R.rest.take 0) ⟨R.rest.drop 0,true⟩ (.returned (.slice none 0 0)) w from ⟨_,rfl,OwnR.nil _ _ _,fun j hj=>(by cases hj),⟨p,n,c,⟨by rw [← hbd];exact h.cells,h.has,h.cap,h.ne,h.len,fun _=>hrest⟩,hA⟩,Chg.refl _ _⟩)
   clear h hR Hbd hA hrest
   go_enter Tryz.func163,Tryz.ntmps163
   go_wp2_with fail
   go_ret
   exact HE.out
  | false =>
   rw [hbd] at c1
   obtain ⟨p',c',hsl,hh,hc,hne,hnA⟩:=run_tailX (P:=Tryz.prog) Tryz.underlying22 hi hz1 h.has h.cap r m h.ne hm
   have hup:∀ W,(Instr.slice 22 (.slice p n c) none (some (.int .i64 (m:Int))) none).run Tryz.prog W=.ok (.slice p m c) W:=fun W=>zBx W Tryz.underlying22 hi p n c m (by have:=h.cap;omega)
   have hb1:=zAb w (.cells #[] 5)
   have Hcut:=zh (show zAY (w.alloc (.cells #[] 5)) 1 (.slice p m c) m (zAN (R.rest.take m)) from by
    have h1:=HasB.cut (h.has.below hb1) (k:=m) (by omega) c
    unfold HasB at h1
    rwa [List.length_take,Nat.min_eq_left (by omega)] at h1)
   have Hin:=zh h
   have Hh:=zh (And.intro hh (And.intro hc (And.intro hne hnA)))
   have hrl:=h.rlt
   have HA:=zh hA
   have c0a:=zAx c0 hb1
   have Hbd2:=zh hbd
   have Hn:=zh hn
   clear hh hc hne h hR Hbd hA hnA hb1
   go_enter Tryz.func163,Tryz.ntmps163
   go_wp2_with (at_builtin;refine zAR (w.alloc (.cells #[] 5)) rfl (.tmp 23) (.tmp 29) 22 rfl 5 i0 (.int .u8 0) 1 1 Tryz.underlying22 hi hz0 hz1 hz2 rfl (by decide) (.slice (some ⟨w.heap.size,0,none⟩) 0 0) 0 [] rfl (zAq w _) (.slice p m c) m (zAN (R.rest.take m)) rfl Hcut.out (zAM _) (by unfold maxLen;omega) (by omega) ?_;intro v3 w3 hown3 hgrow3 hloc3;go_loud (have HN:=zh (zDG (by rw [List.length_take,Nat.min_eq_left (by have:=Hn.out;omega)]) hown3 hgrow3 hloc3);have hcell3:w3.heap[r]?=some (.cells #[.slice p n c,.bool R.bad] 148 (0,0)):=(HN.out.2.2.block r hrl).trans Hin.out.cells;have c03:=zAC hcell3 (i:=0) rfl;have hfr3:=fun i=>zAI hcell3 i;have HC:=zh hcell3;clear hown3 hgrow3 hloc3 hcell3))
   go_ret
   obtain ⟨hv,hvn,hb3⟩:=HN.out
   have hlt3:r < w3.heap.size:=zAt HC.out
   refine ⟨v3,rfl,?_,hvn,⟨p',n - m,c',⟨?_,?_,Hh.out.2.1,Hh.out.2.2.1,?_,fun e=>(by cases e)⟩,fun k hk=>HA.out k (Hh.out.2.2.2 k hk)⟩,?_⟩
   ·exact OwnR.keep hv fun k hk=>zAE _ fun e=>by
     have:=hvn k hk
     have e:k=r:=e
     omega
   ·have h1:=zAO HC.out 0 (.slice p' (n - m) c')
    rw [Hbd2.out] at h1
    simpa using h1
   ·exact HasB.set (HasB.below Hh.out.1 hb3) _ Hh.out.2.2.1
   ·show (R.rest.drop m).length≤_
    rw [List.length_drop]
    omega
   ·exact ((Chg.of_below hb3).mono fun _ _ h=>h.elim).trans (Chg.setCell _ ⟨r,0,none⟩ _) fun _ _ e=>e
 ·have d1:decide ((n:Int) < (m:Int))=true:=decide_eq_true (by omega)
  have hR:R.raw m=([],Rd.fail):=by unfold Rd.raw;rw [if_neg (by omega)]
  rw [hR]
  clear h hR
  go_enter Tryz.func163,Tryz.ntmps163
  go_wp2_with fail
  refine Hbd.out.mono ?_
  rintro e w1 ⟨rfl,hr,hc⟩
  have e1:=hr.c1
  have HE:=zh (And.intro hr hc)
  clear hr hc
  have e1:w1.cell? ⟨r,1,none⟩=some (.bool true):=e1
  go_wp2_with fail
  go_ret
  exact ⟨_,rfl,OwnR.nil _ _ _,fun j hj=>(by cases hj),HE.out⟩
theorem zDx (h:RdY A w r R) :
  Calls Tryz.prog 87 #[.pointer (some ⟨r,0,none⟩)] w fun e w'=>e=.returned (.bool R.whole)∧w'=w:=by
 obtain ⟨p,n,c,h,hA⟩:=h
 have hn:=h.n_eq
 have c0:w.cell? ⟨r,0,none⟩=some (.slice p n c):=zAC h.cells rfl
 have c1:w.cell? ⟨r,1,none⟩=some (.bool R.bad):=zAC h.cells rfl
 have HE:=zh (show R.rest.isEmpty=((n:Int) == 0) from by
  rw [Bool.eq_iff_iff,List.isEmpty_iff,← List.length_eq_zero_iff,hn]
  simp)
 have HW:=zh (show R.whole=(!R.bad && R.rest.isEmpty) from rfl)
 clear h hn
 cases hb:R.bad with
 | true =>
  rw [hb] at c1 HW
  go_enter Tryz.func87,Tryz.ntmps87
  go_wp2_with fail
  go_ret
  exact ⟨by rw [HW.out];rfl,rfl⟩
 | false =>
  rw [hb] at c1 HW
  go_enter Tryz.func87,Tryz.ntmps87
  go_wp2_with fail
  go_ret
  exact ⟨by rw [HW.out,HE.out];rfl,rfl⟩
end
theorem take_one {l:Bs} {x:UInt8} {t:Bs} (h:l=x :: t) (b:Bool):Rd.raw ⟨l,b⟩ 1=([x],⟨t,b⟩):=by
 subst h
 unfold Rd.raw
 rw [if_pos (by simp)]
 rfl
theorem raw_nil (b:Bool):Rd.raw ⟨[],b⟩ 1=([],Rd.fail):=rfl
theorem or_big (a:Nat) (ha:a < 9223372036854775808):∃ Z:Nat,bits .or .u64 (a:Int) (IntKind.u64.wrap (IntKind.u64.wrap (bits .and .u8 1 127) * 9223372036854775808))=(Z:Int)∧4611686018427387904 < Z:=by
 have e:(IntKind.u64.wrap (IntKind.u64.wrap (bits .and .u8 1 127) * 9223372036854775808))=((9223372036854775808:Nat):Int):=by rfl
 rw [e]
 refine ⟨a ||| 9223372036854775808,u64_or_nat a 9223372036854775808 (by omega) (by decide),?_⟩
 have:=@Nat.right_le_or a 9223372036854775808
 omega
theorem zDc {w:World} {r:Nat} {R:Rd} {A:Nat→Prop} (h:RdY A w r R) :
  Calls Tryz.prog 84 #[.pointer (some ⟨r,0,none⟩)] w (NumY A w r R):=by
 have Hno:=zh (show zBn 0 0 R.rest=none→R.num=(0,Rd.fail) from fun e=>by unfold Rd.num;rw [e])
 have Hyes:=zh (show ∀ v t,zBn 0 0 R.rest=some (v,t)→R.num=(v,⟨t,R.bad⟩) from fun v t e=>by unfold Rd.num;rw [e])
 have Hin:=zh h
 clear h
 go_enter Tryz.func84,Tryz.ntmps84
 go_wp2_with fail
 go_loopw [3,4] (fun u i wr=>∃ k a:Nat,k≤9∧i=.int .i64 k∧u=.int .u64 a∧a < 128 ^ k∧∃ S,zBn 0 0 R.rest=zBn k a S∧RdY A wr r ⟨S,R.bad⟩∧Chg (fun k=>k=r) w wr) (fun _ i _=>10 - (intOf i).toNat)
 case atStart=>exact ⟨0,0,by omega,rfl,rfl,by simp,R.rest,rfl,Hin.out,Chg.refl _ _⟩
 case round =>
  obtain ⟨k,a,hk9,rfl,rfl,ha,S,hgo,hrd,hch⟩:=hrel
  have Hraw:=zh (rrraw_calls hrd 1 (by decide))
  have Hch:=zh hch
  have hlt10:decide ((k:Int) < 10)=true:=decide_eq_true (by omega)
  cases S with
  | nil =>
   rw [raw_nil] at Hraw
   have HE:=zh (Hno.out hgo)
   clear hgo hrd hch
   go_wp2_with fail
   refine Hraw.out.mono ?_
   rintro e w1 ⟨v,rfl,-,-,hr,hc⟩
   have e1:w1.cell? ⟨r,1,none⟩=some (.bool true):=hr.c1
   have HF:=zh (show NumY A w r R (.returned (.int .i64 0)) w1 from ⟨by rw [HE.out];rfl,by rw [HE.out];exact hr,Hch.out.trans hc fun _ _ e=>e⟩)
   clear hr hc Hraw
   go_wp2_with fail
   go_ret
   exact HF.out
  | cons x0 S =>
   rw [take_one rfl] at Hraw
   have hbd:R.bad=false:=by
    cases hb:R.bad with
    | false=>rfl
    | true=>have:=hrd.inv hb;cases this
   have hx:=x0.toNat_lt
   have Hgo:=zh hgo
   have Hstop:=zh (show 9≤k∨(0 < k∧x0.toNat=0)→zBn k a (x0 :: S)=none from fun e=>by
    unfold zBn
    rw [if_pos (e.imp id fun e=>⟨e.1,UInt8.toNat.inj (by rw [e.2];rfl)⟩)])
   have Hgo1:=zh (show ¬ (9≤k∨(0 < k∧x0.toNat=0))→x0.toNat < 128→zBn k a (x0 :: S)=if 4611686018427387904 < a+x0.toNat * 128 ^ k then none else some (a+x0.toNat * 128 ^ k,S) from fun e h=>by
    rw [zBn,if_neg (fun h=>e (h.imp id fun h=>⟨h.1,by rw [h.2];rfl⟩)),if_pos h])
   have Hgo2:=zh (show ¬ (9≤k∨(0 < k∧x0.toNat=0))→¬ x0.toNat < 128→zBn k a (x0 :: S)=zBn (k+1) (a+x0.toNat % 128 * 128 ^ k) S from fun e h=>by
    rw [zBn,if_neg (fun h=>e (h.imp id fun h=>⟨h.1,by rw [h.2];rfl⟩)),if_neg h])
   clear hgo hrd hch
   go_wp2_with fail
   refine Hraw.out.mono ?_
   rintro e w1 ⟨v,rfl,hv,hvn,hr,hc⟩
   have e1:w1.cell? ⟨r,1,none⟩=some (.bool false):=by rw [← hbd];exact hr.c1
   obtain ⟨g,cc,rfl,hcell⟩:∃ g cc,v=.slice (some ⟨g,0,none⟩) 1 cc∧w1.cell? ⟨g,0,none⟩=some (.int .u8 (x0.toNat:Int)):=by
    have hh:=hv.has
    obtain ⟨hlv,⟨rfl,h0⟩ | ⟨g,cap,cur,rfl,hg⟩⟩:=hv
    ·simp at h0
    ·refine ⟨g,cap,rfl,?_⟩
     obtain ⟨_,p,c,e,_,hcs⟩:=hh
     cases e
     have:=hcs _ rfl 0 (.int .u8 (x0.toNat:Int)) (by simp [zAN])
     rwa [add_zero] at this
   have Hr1:=zh (And.intro hr (Hch.out.trans hc fun _ _ e=>e))
   have Hbad:=zh (rrbad_calls hr)
   clear hv hvn hr hc Hraw
   generalize x0.toNat=x at *
   by_cases h9:9≤k
   ·obtain rfl:k=9:=by omega
    have HE:=zh (Hno.out (Hgo.out.trans (Hstop.out (.inl (Nat.le_refl _)))))
    by_cases hx1:127 < x
    ·go_wp2_with fail
     refine Hbad.out.mono ?_
     rintro e w2 ⟨rfl,hr,hc⟩
     have HF:=zh (show NumY A w r R (.returned (.int .i64 0)) w2 from ⟨by rw [HE.out];rfl,by rw [HE.out];exact hr,Hr1.out.2.trans hc fun _ _ e=>e⟩)
     clear hr hc
     go_wp2_with fail
     go_ret
     exact HF.out
    ·by_cases hx2:1 < x
     ·go_wp2_with fail
      refine Hbad.out.mono ?_
      rintro e w2 ⟨rfl,hr,hc⟩
      have HF:=zh (show NumY A w r R (.returned (.int .i64 0)) w2 from ⟨by rw [HE.out];rfl,by rw [HE.out];exact hr,Hr1.out.2.trans hc fun _ _ e=>e⟩)
      clear hr hc
      go_wp2_with fail
      go_ret
      exact HF.out
     ·by_cases hx3:x=0
      ·subst hx3
       go_wp2_with fail
       refine Hbad.out.mono ?_
       rintro e w2 ⟨rfl,hr,hc⟩
       have HF:=zh (show NumY A w r R (.returned (.int .i64 0)) w2 from ⟨by rw [HE.out];rfl,by rw [HE.out];exact hr,Hr1.out.2.trans hc fun _ _ e=>e⟩)
       clear hr hc
       go_wp2_with fail
       go_ret
       exact HF.out
      ·obtain rfl:x=1:=by omega
       obtain ⟨Z,ho1,ho2⟩:=or_big a (by
        have h9:(128:Nat) ^ 9=9223372036854775808:=by decide
        omega)
       have ho3:decide ((4611686018427387904:Int) < (Z:Int))=true:=decide_eq_true (by omega)
       go_wp2_with fail
       refine Hbad.out.mono ?_
       rintro e w2 ⟨rfl,hr,hc⟩
       have HF:=zh (show NumY A w r R (.returned (.int .i64 0)) w2 from ⟨by rw [HE.out];rfl,by rw [HE.out];exact hr,Hr1.out.2.trans hc fun _ _ e=>e⟩)
       clear hr hc
       go_wp2_with fail
       go_ret
       exact HF.out
   ·by_cases hz:0 < k∧x=0
    ·have HE:=zh (Hno.out (Hgo.out.trans (Hstop.out (.inr hz))))
     obtain ⟨hk0,rfl⟩:=hz
     have hn9:((k:Int) == 9)=false:=by simp;omega
     go_wp2_with fail
     refine Hbad.out.mono ?_
     rintro e w2 ⟨rfl,hr,hc⟩
     have HF:=zh (show NumY A w r R (.returned (.int .i64 0)) w2 from ⟨by rw [HE.out];rfl,by rw [HE.out];exact hr,Hr1.out.2.trans hc fun _ _ e=>e⟩)
     clear hr hc
     go_wp2_with fail
     go_ret
     exact HF.out
    ·have hs:¬ (9≤k∨(0 < k∧x=0)):=fun e=>e.elim h9 hz
     have hn9:((k:Int) == 9)=false:=by simp;omega
     by_cases h128:x < 128
     ·have HE0:=zh (Hgo.out.trans (Hgo1.out hs h128))
      have h7:=zD3 ha (by omega) (show x < 256 by omega)
      rw [show x % 128=x by omega] at h7
      obtain ⟨h7,-,h73⟩:=h7
      generalize a+x * 128 ^ k=Z at *
      by_cases hA:4611686018427387904 < Z
      ·have HE:=zh (Hno.out (HE0.out.trans (if_pos hA)))
       rcases Nat.lt_or_ge 0 k with hk0 | hk0
       rotate_left
       ·go_wp2_with fail
        refine Hbad.out.mono ?_
        rintro e w2 ⟨rfl,hr,hc⟩
        have HF:=zh (show NumY A w r R (.returned (.int .i64 0)) w2 from ⟨by rw [HE.out];rfl,by rw [HE.out];exact hr,Hr1.out.2.trans hc fun _ _ e=>e⟩)
        clear hr hc
        go_wp2_with fail
        go_ret
        exact HF.out
       ·have hx0:0 < x:=by omega
        go_wp2_with fail
        refine Hbad.out.mono ?_
        rintro e w2 ⟨rfl,hr,hc⟩
        have HF:=zh (show NumY A w r R (.returned (.int .i64 0)) w2 from ⟨by rw [HE.out];rfl,by rw [HE.out];exact hr,Hr1.out.2.trans hc fun _ _ e=>e⟩)
        clear hr hc
        go_wp2_with fail
        go_ret
        exact HF.out
      ·have HE2:=zh (Hyes.out _ _ (HE0.out.trans (if_neg hA)))
       have HF:=zh (show NumY A w r R (.returned (.int .i64 (Z:Int))) w1 from ⟨by rw [HE2.out],by rw [HE2.out];exact Hr1.out.1,Hr1.out.2⟩)
       rcases Nat.lt_or_ge 0 k with hk0 | hk0
       rotate_left
       ·go_wp2_with fail
        go_ret
        exact HF.out
       ·have hxn:((x:Int) == 0)=false:=by simp;omega
        go_wp2_with fail
        go_ret
        exact HF.out
     ·have hgo2:=Hgo.out.trans (Hgo2.out hs h128)
      obtain ⟨h7,h72,h73⟩:=zD3 ha (by omega) (show x < 256 by omega)
      have Hgn:=zh (And.intro hgo2 h72)
      clear hgo2 h72
      generalize a+x % 128 * 128 ^ k=Z at *
      go_wp2_with fail
      go_roundw
      case rel=>exact ⟨k+1,Z,by omega,by go_num,rfl,Hgn.out.2,S,Hgn.out.1,Hr1.out.1,Hr1.out.2⟩
      case measure=>simp [intOf];omega
theorem num_bad {R:Rd} (hinv:R.bad=true→R.rest=[]) (hb:R.num.2.bad=true):R.num=(0,Rd.fail):=by
 cases h:zBn 0 0 R.rest with
 | none=>unfold Rd.num;rw [h]
 | some x =>
  obtain ⟨n,t⟩:=x
  have e:R.num=(n,⟨t,R.bad⟩):=by unfold Rd.num;rw [h]
  rw [e] at hb
  rw [hinv hb] at h
  cases h
theorem zDw {w:World} {r:Nat} {R:Rd} {A:Nat→Prop} (h:RdY A w r R) :
  Calls Tryz.prog 86 #[.pointer (some ⟨r,0,none⟩)] w (RowY A w r R.bytes.1 R.bytes.2):=by
 have Hn:=zh (zDc h)
 have hle:=Rd.num_le R
 have hnb:=num_bad h.inv
 have HB:=zh (show R.bytes=R.num.2.raw R.num.1 from rfl)
 clear h
 go_enter Tryz.func86,Tryz.ntmps86
 go_wp2_with fail
 refine Hn.out.mono ?_
 rintro e w1 ⟨rfl,hr,hc⟩
 have hc1:=hr.c1
 have Hc:=zh hc
 cases hb:R.num.2.bad with
 | true =>
  rw [hb] at hc1
  have hn:=hnb hb
  have HE:=zh (show RowY A w r R.bytes.1 R.bytes.2 (.returned (.slice none 0 0)) w1 from by
   rw [HB.out,hn]
   rw [hn] at hr
   exact ⟨_,rfl,OwnR.nil _ _ _,fun j hj=>(by cases hj),hr,hc⟩)
  clear hr hc Hn hn hnb
  go_wp2_with fail
  go_ret
  exact HE.out
 | false =>
  rw [hb] at hc1
  have Hr:=zh (rrraw_calls hr R.num.1 (by omega))
  clear hr hc Hn hnb hb
  generalize R.num.1=m at *
  generalize R.num.2=R1 at *
  go_wp2_with fail
  refine Hr.out.mono ?_
  rintro e w2 ⟨v,rfl,hv,hvn,hr2,hc2⟩
  have HE:=zh (show RowY A w r R.bytes.1 R.bytes.2 (.returned v) w2 from ⟨v,rfl,by rw [HB.out];exact hv,fun j hj=>Nat.le_trans Hc.out.size (hvn j hj),by rw [HB.out];exact hr2,Hc.out.trans hc2 fun _ _ e=>e⟩)
  clear hv hvn hr2 hc2 Hr
  go_wp2_with fail
  go_ret
  exact HE.out
def WrB (B:Nat) (w:World) (k:Nat) (l:Bs):Prop:=∃ v,WrIn w k v l∧B≤k∧(∀ j,v.ownBlock=some j→B≤j)∧B≤w.heap.size
section
variable {B:Nat} {w w1:World} {k:Nat} {l:Bs}
theorem WrB.keep (h:WrB B w k l) (hb:Below w.heap.size w w1):WrB B w1 k l:=let ⟨v,h1,h2,h3,h4⟩:=h;⟨v,h1.keep hb,h2,h3,Nat.le_trans h4 hb.size⟩
theorem HasI.lit {w:World} (zs:List Int) (cs:Array Value) (h:cs.toList=zs.map (Value.int .i64)) (e:TypeId) (fr:Nat × Nat) (g n c:Nat) (hg:g=w.heap.size) (hn:n=zs.length):HasI (w.alloc (.cells cs e fr)) (.slice (some ⟨g,0,none⟩) n c) zs:=by
 subst hg
 subst hn
 refine ⟨by simp,some ⟨w.heap.size,0,none⟩,c,rfl,fun e=>(by cases e),fun a ha i u hu=>?_⟩
 cases ha
 rw [add_zero]
 refine zAC (zAW w _) ?_
 rw [← h] at hu
 simpa using hu
end
def RowNew (w:World) (b:Bs) (e:Ending) (w':World):Prop:=∃ v,e=.returned v∧OwnB w' 5 v b∧(∀ k,v.ownBlock=some k→w.heap.size≤k)∧Below w.heap.size w w'
section
variable {w w1:World} {j d:Nat} {pre:ByteArray} {D:zAA} {M:JouM} {F:Nat→Prop}
end
end Go.Proofs.YtapfnehdgailmaaGreat
