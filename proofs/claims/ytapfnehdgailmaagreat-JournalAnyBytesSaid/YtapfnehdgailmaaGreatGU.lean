/- The document's journal: a thing done with its disk; lays. (Printed by mkrk6.py.) What an empty disk opens as (plain laws). The disk of a journal "a": a log, and a snapshot or none (plain laws). What the disk of a journal "a" opens as (plain laws). A journal of a law's own on its disk: what each thing done leaves (plain laws). A journal of a law's own on its disk: start, SetTerm, Append, Cut (plain laws). A journal of a law's own on its disk: Compact, Install (plain laws). satrapylaw5.known: what it does (plain). satrapyref1.Bytes, satrapyref5.Bytes, entry. (Printed by mkrk5.py.) The document's journal: SetTerm, Cut. (Printed by mkrk7.py.) The document's journal: its list turned; Cut. (Printed by mkrk8.py.) The document's journal: reads (helpers, nothing, else, kind 2). (Printed by mkro2.py.) -/
import Derived.Test.YtapfnehdgailmaaGreatGE
import Derived.Test.YtapfnehdgailmaaGreatGG
import Derived.Test.YtapfnehdgailmaaGreatGH
import Derived.Test.YtapfnehdgailmaaGreatGI
import Derived.Test.YtapfnehdgailmaaGreatGJ
import Derived.Test.YtapfnehdgailmaaGreatGM
import Derived.Test.YtapfnehdgailmaaGreatGO
import Derived.Test.YtapfnehdgailmaaGreatGQ
import Derived.Test.YtapfnehdgailmaaGreatGT
set_option maxRecDepth 100000
set_option maxHeartbeats 64000000
namespace Go.Proofs.YtapfnehdgailmaaGreat
open Go.RowKit Go.Sat Go.Maps
def zBF (w0:World) (j r:Nat) (pre:ByteArray) (Hot0 Cold0:Nat→Prop) (w1:World) (D:zAB) (M:JouM):Prop :=
 ∃ Hot Cold,RJF w1 j r pre D M Hot Cold∧Chg Hot0 w0 w1∧(∀ k,Hot k→Hot0 k∨w0.heap.size≤k)∧∀ k,Cold k→Cold0 k∨w0.heap.size≤k
theorem zBF.told {w0 w1:World} {j r:Nat} {pre:ByteArray} {Hot0 Cold0:Nat→Prop} {res:zEW} (h:zBF w0 j r pre Hot0 Cold0 w1 res.disk res.jou):RJTold w0 j r pre Hot0 Cold0 res (.returned (.int .i64 (res.err:Int))) w1:=⟨rfl,h⟩
theorem RJTold.step {w0 w1:World} {j r:Nat} {pre:ByteArray} {Hot0 Cold0:Nat→Prop} {res:zEW} {e:Ending} (h:RJTold w0 j r pre Hot0 Cold0 res e w1):zBF w0 j r pre Hot0 Cold0 w1 res.disk res.jou:=h.2
section
variable {w0 w1 w2:World} {j r:Nat} {pre:ByteArray} {D D2:zAB} {M M2:JouM} {Hot Cold Hot1 Cold1:Nat→Prop}
theorem RJF.step (h:RJF w1 j r pre D M Hot Cold):zBF w1 j r pre Hot Cold w1 D M:=⟨Hot,Cold,h,Chg.refl _ _,fun _ h=>.inl h,fun _ h=>.inl h⟩
theorem RJF.stepB (h:RJF w1 j r pre D M Hot Cold) (hb:Below w1.heap.size w1 w2):zBF w1 j r pre Hot Cold w2 D M:=⟨Hot,Cold,h.below hb,(Chg.of_below hb).mono fun _ _ h=>h.elim,fun _ h=>.inl h,fun _ h=>.inl h⟩
theorem zBF.comp (hc:Chg Hot w0 w1) (hh:∀ k,Hot1 k→Hot k∨w0.heap.size≤k) (hco:∀ k,Cold1 k→Cold k∨w0.heap.size≤k) (h2:zBF w1 j r pre Hot1 Cold1 w2 D2 M2):zBF w0 j r pre Hot Cold w2 D2 M2:=by
 obtain ⟨Hot2,Cold2,hF2,hc2,hh2,hco2⟩:=h2
 refine ⟨Hot2,Cold2,hF2,hc.trans hc2 fun k hk hs=>(hh k hs).resolve_right (by omega),fun k hk=>?_,fun k hk=>?_⟩
 ·rcases hh2 k hk with h | h
  ·exact hh k h
  ·exact .inr (Nat.le_trans hc.size h)
 ·rcases hco2 k hk with h | h
  ·exact hco k h
  ·exact .inr (Nat.le_trans hc.size h)
theorem zBF.trans (h:zBF w0 j r pre Hot Cold w1 D M) (hx:∀ Hot1 Cold1,RJF w1 j r pre D M Hot1 Cold1→zBF w1 j r pre Hot1 Cold1 w2 D2 M2):zBF w0 j r pre Hot Cold w2 D2 M2:=by
 obtain ⟨Hot1,Cold1,hF,hc,hh,hco⟩:=h
 exact zBF.comp hc hh hco (hx _ _ hF)
theorem zBF.next (h:zBF w0 j r pre Hot Cold w1 D M) (hb:Below w1.heap.size w1 w2):zBF w0 j r pre Hot Cold w2 D M:=h.trans fun _ _ hF=>hF.stepB hb
theorem zBF.since (h:zBF w1 j r pre Hot Cold w2 D M) (hb:Below w0.heap.size w0 w1):zBF w0 j r pre Hot Cold w2 D M:=by
 obtain ⟨Hot1,Cold1,hF,hc,hh,hco⟩:=h
 exact ⟨Hot1,Cold1,hF,((Chg.of_below hb).mono fun _ _ h=>h.elim).trans hc fun _ _ h=>h,fun k hk=>(hh k hk).imp id (Nat.le_trans hb.size),fun k hk=>(hco k hk).imp id (Nat.le_trans hb.size)⟩
theorem rj_disk {P:Program} {f:FuncId} {args:Array Value} {Re:zAB × Nat} {wc:World} (h:RJF w1 j r pre D M Hot Cold) (hb:Below w1.heap.size w1 wc) (hx:∀ v L own,zAY wc r v L own D→(∀ k,own k→Hot k)→Calls P f args wc (zCL wc r own Re)) :
  Calls P f args wc fun e w'=>e=.returned (.int .i64 (Re.2:Int))∧zBF w1 j r pre Hot Cold w' Re.1 M∧w'.heap[j]?=w1.heap[j]?:=by
 obtain ⟨O,own,gv,dv,ev,vs,v,L,hJ,hR,hO,hC,hH⟩:=h
 refine (hx v L own (hR.below hb) fun k hk=>(hH k).2 (.inr hk)).mono ?_
 rintro e w' ⟨rfl,own',⟨v',L',hR'⟩,hc,hn⟩
 have hc1:Chg own w1 w':=zCM hb hc
 have hn1:∀ k,own' k→own k∨w1.heap.size≤k:=fun k hk=>(hn k hk).imp id (Nat.le_trans hb.size)
 have hJ':=hJ.chg hc1 fun k hk=>⟨fun o=>hO k o hk,fun c=>hC k c hk⟩
 refine ⟨rfl,⟨fun k=>O k∨own' k,Cold,⟨O,own',gv,dv,ev,vs,v',L',hJ',hR',fun k hk hk2=>?_,fun k hk hk2=>?_,fun k=>Iff.rfl⟩,hc1.mono fun k _ hk=>(hH k).2 (.inr hk),fun k hk=>?_,fun k hk=>.inl hk⟩,hc1.block j (hJ.olt j hJ.oj) (hO j hJ.oj)⟩
 ·rcases hn1 k hk2 with h | h
  ·exact hO k hk h
  ·have:=hJ.olt k hk
   omega
 ·rcases hn1 k hk2 with h | h
  ·exact hC k hk h
  ·have:=hJ.clt k hk
   omega
 ·rcases hk with hk | hk
  ·exact .inl ((hH k).2 (.inl hk))
  ·exact (hn1 k hk).imp (fun h=>(hH k).2 (.inr h)) id
theorem RJIn.set {w w':World} {O C:Nat→Prop} {M M':JouM} {gv dv ev:Value} {vs:List EV} (h:RJIn w j r pre O C M gv dv ev vs)
  (hc:w'.heap[j]?=some (RJC r (M'.number:Int) M'.term gv pre M'.now M'.vote dv ev M'.dead))
  (hs:Chg (fun k=>k=j) w w') (hg:M'.group=M.group) (hd:M'.data=M.data) (he:M'.entries=M.entries) (ok:M'.OK):RJIn w' j r pre O C M' gv dv ev vs where
 cells:=hc
 group:=by rw [hg];exact zAL.chg h.group hs fun k hk e=>h.dis k (h.cg k hk) (e ▸ h.oj)
 data:=by rw [hd];exact zAL.chg h.data hs fun k hk e=>h.dis k (h.cd k hk) (e ▸ h.oj)
 row:=by rw [he];exact h.row.keep fun k hk=>hs.block k (h.olt k (h.oe k hk).1) (h.oe k hk).2
 rlen:=by rw [he];exact h.rlen
 rows:=by rw [he];exact fun i e v he hv=>(h.rows i e v he hv).keep fun k hk=>hs.block k (h.clt k (h.cv v (List.mem_of_getElem? hv) k hk)) fun e=>h.dis k (h.cv v (List.mem_of_getElem? hv) k hk) (e ▸ h.oj)
 oj:=h.oj
 oe:=h.oe
 cg:=h.cg
 cd:=h.cd
 cv:=h.cv
 dis:=h.dis
 olt:=fun k hk=>Nat.lt_of_lt_of_le (h.olt k hk) hs.size
 clt:=fun k hk=>Nat.lt_of_lt_of_le (h.clt k hk) hs.size
 psz:=h.psz
 ok:=ok
theorem RJF.set (h:RJF w1 j r pre D M Hot Cold) {M':JouM} (hs:Chg (fun k=>k=j) w1 w2)
  (hc:∀ gv dv ev,w1.heap[j]?=some (RJC r (M.number:Int) M.term gv pre M.now M.vote dv ev M.dead)→w2.heap[j]?=some (RJC r (M'.number:Int) M'.term gv pre M'.now M'.vote dv ev M'.dead))
  (hg:M'.group=M.group) (hd:M'.data=M.data) (he:M'.entries=M.entries) (ok:M'.OK):zBF w1 j r pre Hot Cold w2 D M':=by
 obtain ⟨O,own,gv,dv,ev,vs,v,L,hJ,hR,hO,hC,hH⟩:=h
 exact ⟨Hot,Cold,⟨O,own,gv,dv,ev,vs,v,L,hJ.set (hc _ _ _ hJ.cells) hs hg hd he ok,hR.keep hs.size (fun k hk=>hs.block k (hR.olt k hk) fun e=>hO j hJ.oj (e ▸ hk)),hO,hC,hH⟩,hs.mono fun k _ e=>(hH k).2 (.inl (e ▸ hJ.oj)),fun k hk=>.inl hk,fun k hk=>.inl hk⟩
theorem RJF.cellsD (h:RJF w1 j r pre D M Hot Cold):∃ gv dv ev,w1.heap[j]?=some (RJC r (M.number:Int) M.term gv pre M.now M.vote dv ev M.dead):=let ⟨_,_,gv,dv,ev,_,_,_,hJ,_⟩:=h;⟨gv,dv,ev,hJ.cells⟩
end
section
variable {D:zAB} {n b:Bs}
theorem put1_app (hf:D.fuse≠some 0) (hn1:1≤n.length) (hn:n.length≤60) (hsh:Sat.get (zAH n) D.files=none) (hroom:D.used+b.length≤D.room) (hc:D.files.length < 4096) :
  D.append (zAH n) b=(⟨D.room,put (zAH n) ⟨b,0⟩ D.files,offF D.fuse 1⟩,0):=by
 have hm:D.may [zAH n]=0:=by
  unfold zAB.may
  rw [if_neg hf,if_pos]
  simp only [List.all_cons,List.all_nil,Bool.and_true,okN,zDD]
  simp;omega
 have hfu:D.full (zAH n) b=false:=by
  unfold zAB.full
  rw [hsh]
  simp;omega
 unfold zAB.append
 rw [if_neg (by rw [hm];simp),if_neg (by rw [hfu];simp)]
 have hcur:D.cur (zAH n)=⟨[],0⟩:=by unfold zAB.cur;rw [hsh];rfl
 rw [hcur]
 rfl
theorem put1_syn {room:Nat} {L:List (Bs × zAV)} {f:Option Nat} (h:Srt L) (hf:f≠some 0) (hn1:1≤n.length) (hn:n.length≤60) :
  zAB.sync ⟨room,put (zAH n) ⟨b,0⟩ L,f⟩ [zAH n]=(⟨room,put (zAH n) ⟨b,b.length⟩ L,offF f 1⟩,0):=by
 have hm:zAB.may ⟨room,put (zAH n) ⟨b,0⟩ L,f⟩ [zAH n]=0:=by
  unfold zAB.may
  rw [if_neg hf,if_pos]
  simp only [List.all_cons,List.all_nil,Bool.and_true,okN,zDD]
  simp;omega
 have h1:zAB.each1 zAB.gSync ⟨room,put (zAH n) ⟨b,0⟩ L,f⟩ (zAH n)=(⟨room,put (zAH n) ⟨b,b.length⟩ L,offF f 1⟩,0):=by
  unfold zAB.each1
  rw [if_neg (by rw [hm];simp)]
  have hg:Sat.get (zAH n) (zAB.files ⟨room,put (zAH n) ⟨b,0⟩ L,f⟩)=some ⟨b,0⟩:=zCO h _ _
  rw [hg]
  show ((⟨room,put _ _ (put _ _ L),_⟩:zAB),0)=_
  rw [put_put h]
  rfl
 show (if (zAB.each1 _ _ _).2=0 then _ else _)=_
 rw [h1,if_pos rfl]
 rfl
theorem put1_all (h:D.OK) (hf:∀ j,D.fuse=some j→3≤j) (hn1:1≤n.length) (hn:n.length≤60) (hsh:Sat.get (zAH n) D.files=none) (hroom:D.used+b.length≤D.room) (hc:D.files.length < 4096) :
  D.save1 n b=(⟨D.room,put n ⟨b,b.length⟩ D.files,offF D.fuse 3⟩,0):=by
 have h0:D.save0 n=(D,0):=by unfold zAB.save0;rw [hsh];rfl
 have hz:D.fuse≠some 0:=fun e=>by have:=hf 0 e;omega
 rw [save1_ren h0 (put1_app hz hn1 hn hsh hroom hc) (put1_syn h.srt (off_ne fun j e=>by have:=hf j e;omega) hn1 hn),off_off,
  save_ren h.srt (off_ne fun j e=>by have:=hf j e;omega) hn1 hn hsh,off_off]
end
def zEd (g:List Int):Bs:=zAK (fstB 0 0 g) ++ zAK (trmB 0 (-1))
theorem rows_none0 (g:List Int):zAU (JouM.none0 g).rows=zEd g:=by
 show zAU [fstB 0 0 g,trmB 0 (-1)]=_
 unfold zEd
 rw [← zDu (fstB 0 0 g),← zDu (trmB 0 (-1)),← zDt]
 rfl
theorem firstB_len {g:List Int} (h:zAW g=true):(zEd g).length≤150:=by
 have h1:=(zCP h).1
 unfold zEd
 rw [List.length_append,zAk,zAk]
 have h2:(trmB 0 (-1)).length≤19:=by
  unfold trmB
  have a:=zA9 0
  have b:=zA9 ((-1)+1)
  simp only [List.length_cons,List.length_append]
  omega
 have h3:(fstB 0 0 g).length≤100:=by
  unfold fstB grpB
  have a:(numB 0).length≤9:=zAe (by omega)
  have b:=zA9 0
  have c:=zAe (n:=g.length) (by omega)
  have d:=zAy g
  simp only [List.length_cons,List.length_append]
  omega
 omega
def zCy (room:Nat) (pre:Bs) (g:List Int):zAB:=⟨room,[(logN pre,⟨zEd g,(zEd g).length⟩)],none⟩
theorem save_fresh {room:Nat} (hr:200≤room) (hr2:room≤1073741824) {pre:Bs} (hp:1≤pre.length∧pre.length≤20) {g:List Int} (hg:zAW g=true) :
  (zAB.fresh room).save1 (logN pre) (zEd g)=(zCy room pre g,0):=by
 have hl:(logN pre).length=pre.length+4:=by unfold logN logX;simp
 have h1:=firstB_len hg
 have hu:(zAB.fresh room).used=0:=rfl
 rw [put1_all (zDU room hr2) (fun j e=>by cases e) (by rw [hl];omega) (by rw [hl];omega) rfl (by rw [hu];show 0+_≤room;omega) (show 0 < 4096 by decide)]
 rfl
theorem jopen_fresh {room:Nat} (hr:200≤room) (hr2:room≤1073741824) {pre:Bs} (hp:1≤pre.length∧pre.length≤20) {g:List Int} (hg:zAW g=true) :
  zAS (zAB.fresh room) pre g=(zCy room pre g,0,JouM.none0 g):=by
 obtain ⟨O⟩:=zEo (zAB.fresh room) pre g
 have a1:=O.h1
 have a2:=O.h2
 have a3:=O.hs
 have a4:=O.hl
 have b1:(zAB.fresh room).rid1 (zAH (logN pre))=(zAB.fresh room,0):=rfl
 rw [b1] at a1
 have d1:zAB.fresh room=O.D1:=congrArg Prod.fst a1
 have e1:0=O.e1:=congrArg Prod.snd a1
 rw [← d1] at a2
 have b2:(zAB.fresh room).rid1 (zAH (snpN pre))=(zAB.fresh room,0):=rfl
 rw [b2] at a2
 have d2:zAB.fresh room=O.D2:=congrArg Prod.fst a2
 have e2:0=O.e2:=congrArg Prod.snd a2
 rw [← d2] at a3 a4
 have b3:zCT (Sat.get (snpN pre) (zAB.fresh room).files)=(0,none):=snapOf_7 zD8
 rw [b3] at a3
 have b4:zBV (zAB.fresh room) pre (JouM.none0 g)=(zAB.fresh room,0,true,JouM.none0 g):=rfl
 rw [b4] at a4
 have hw:zAR (zAB.fresh room) pre (JouM.none0 g)=(zCy room pre g,0):=by
  unfold zAR
  rw [rows_none0,save_fresh hr hr2 hp hg]
 have hok:¬ (pre.length < 1∨20 < pre.length∨zAW g=false):=by
  rintro (h | h | h)
  ·omega
  ·omega
  ·rw [hg] at h
   cases h
 rw [oj_anew O hok e1.symm e2.symm (by rw [← a3]) (by rw [← a4]) (M:=JouM.none0 g) (by rw [← a3,← a4];rfl),← a4,hw]
def wh (c:Bs):zAV:=⟨c,c.length⟩
def snpL (s:Option Bs):List (Bs × zAV):=match s with
 | none=>[]
 | some b=>[(snpN [97],wh b)]
def dJ (room:Nat) (c:Bs) (s:Option Bs):zAB:=⟨room,(logN [97],wh c) :: snpL s,none⟩
section
variable {room:Nat} {c b:Bs} {s:Option Bs}
theorem dj_log:Sat.get (logN [97]) (dJ room c s).files=some (wh c):=by cases s <;> rfl
theorem dj_shl:Sat.get (zAH (logN [97])) (dJ room c s).files=none:=by cases s <;> rfl
theorem dj_shs:Sat.get (zAH (snpN [97])) (dJ room c s).files=none:=by cases s <;> rfl
theorem dj_snp:Sat.get (snpN [97]) (dJ room c s).files=s.map wh:=by cases s <;> rfl
theorem dj_num:(dJ room c s).files.length < 4096:=by
 cases s
 ·show 1 < 4096
  decide
 ·show 2 < 4096
  decide
theorem dj_srt:Srt (dJ room c s).files:=by
 cases s with
 | none=>exact List.pairwise_singleton _ _
 | some b =>
  refine List.pairwise_cons.2 ⟨?_,List.pairwise_singleton _ _⟩
  intro p hp
  rw [show p=(snpN [97],wh b) from by simpa [snpL] using hp]
  rfl
theorem dj_used:(dJ room c s).used=c.length+(match s with | none=>0 | some b=>b.length):=by
 cases s with
 | none=>rfl
 | some b =>
  show c.length+(b.length+0)=_
  rw [Nat.add_zero]
theorem dj_ok (hr:room≤1073741824) (hu:(dJ room c s).used≤room):(dJ room c s).OK:=by
 refine ⟨dj_srt,hr,hu,Nat.le_of_lt dj_num,fun p hp=>?_,fun p hp=>?_,fun k hk=>by cases hk⟩
 ·cases s with
  | none =>
   rw [show p=(logN [97],wh c) from by simpa [dJ,snpL] using hp]
   rfl
  | some b =>
   rcases (show p=(logN [97],wh c)∨p=(snpN [97],wh b) from by simpa [dJ,snpL] using hp) with rfl | rfl <;> rfl
 ·cases s with
  | none =>
   rw [show p=(logN [97],wh c) from by simpa [dJ,snpL] using hp]
   exact Nat.le_refl _
  | some b =>
   rcases (show p=(logN [97],wh c)∨p=(snpN [97],wh b) from by simpa [dJ,snpL] using hp) with rfl | rfl <;> exact Nat.le_refl _
theorem lay_dj (hroom:(dJ room c s).used+b.length≤room):zEn (dJ room c s) (logN [97]) b=(dJ room (c ++ b) s,0):=by
 have hm:(dJ room c s).may [logN [97]]=0:=rfl
 have hfu:(dJ room c s).full (logN [97]) b=false:=by
  unfold zAB.full
  rw [dj_log]
  simp only [Option.isNone_some,Bool.false_and,Bool.or_false,decide_eq_false_iff_not]
  show ¬ room < _
  omega
 have h1:(dJ room c s).append (logN [97]) b=(⟨room,(logN [97],⟨c ++ b,c.length⟩) :: snpL s,none⟩,0):=by
  unfold zAB.append
  rw [if_neg (by rw [hm];simp),if_neg (by rw [hfu];simp)]
  have hcur:(dJ room c s).cur (logN [97])=wh c:=by unfold zAB.cur;rw [dj_log];rfl
  rw [hcur]
  cases s <;> rfl
 unfold zEn
 rw [h1,if_neg (by simp)]
 cases s <;> rfl
theorem log_dj (hr:room≤1073741824) (hroom:(dJ room c s).used+b.length≤room):(dJ room c s).save1 (logN [97]) b=(dJ room b s,0):=by
 rw [put1_all (dj_ok hr (by omega)) (fun j e=>by cases e) (by decide) (by decide) dj_shl hroom dj_num]
 cases s <;> rfl
theorem snp_dj (hr:room≤1073741824) (hroom:(dJ room c s).used+b.length+12≤room):(dJ room c s).save (snpN [97]) b=(dJ room c (some (zAK b)),0):=by
 rw [save_room (by decide) (by decide),put1_all (dj_ok hr (by omega)) (fun j e=>by cases e) (by decide) (by decide) dj_shs (by rw [zAk];show _≤room;omega) dj_num]
 cases s <;> rfl
theorem crash_dj (k:Int):(dJ room c s).crash k=dJ room c s:=by
 have h1:∀ x:Bs,zAB.crashF k (wh x)=wh x:=fun x=>crash_whole x k
 unfold dJ zAB.crash
 cases s with
 | none =>
  show (⟨room,[(logN [97],zAB.crashF k (wh c))],none⟩:zAB)=_
  rw [h1]
  rfl
 | some b =>
  show (⟨room,[(logN [97],zAB.crashF k (wh c)),(snpN [97],zAB.crashF k (wh b))],none⟩:zAB)=_
  rw [h1,h1]
  rfl
end
def Snap.bytes (s:Snap):Bs:=snpB s.number s.term s.group s.data
theorem snapIs_bytes {s:Snap} (h:s.OK) (h1:1≤s.number) (hd:s.data.length≤524288):zCX s.bytes=some s:=by
 have ht:=zAr.1 h.term
 have hg:=zCP h.group
 have hn:=h.number
 have hb:s.bytes=numB s.number ++ (numI s.term ++ (grpB s.group ++ (rowB s.data ++ []))):=by simp [Snap.bytes,snpB]
 rw [hb]
 unfold zCX
 dsimp only
 rw [Rd.num_of (by omega)]
 dsimp only
 rw [rd_int ht.1 (by omega)]
 dsimp only
 rw [grp_of hg.1 hg.2 h.group]
 dsimp only
 rw [Rd.bytes_of (by omega)]
 dsimp only
 rw [if_pos ⟨whole_of false,h1,hn,by omega,hd⟩,Int.toNat_of_nonneg ht.1]
theorem snapOf_bytes {s:Snap} (h:s.OK) (h1:1≤s.number) (hd:s.data.length≤524288) (hl:s.bytes.length≤1048576):zCT (some (wh (zAK s.bytes)))=(0,some s):=by
 obtain ⟨a,b⟩:=load_frame s.bytes hl (zAK s.bytes).length
 rw [show (wh (zAK s.bytes))=⟨zAK s.bytes,(zAK s.bytes).length⟩ from rfl,snapOf_0 a,b,snapIs_bytes h h1 hd]
def zDE (s:Option Snap):Option Bs:=s.map fun s=>zAK s.bytes
def SnapOK (s:Option Snap):Prop:=∀ x,s=some x→x.OK∧1≤x.number∧x.data.length≤524288∧x.bytes.length≤1048576
theorem open_dj {room:Nat} {ls:List Bs} {s:Option Snap} {g:List Int} {M0 M:JouM} (hg:zAW g=true) (hls:∀ l ∈ ls,l.length≤1048576) (hs:SnapOK s) (h0:zBx (JouM.none0 g) ls=some M0) (hj:zAd s M0 false=some (false,M)) :
  zAS (dJ room (zAU ls) (zDE s)) [97] g=(dJ room (zAU ls) (zDE s),0,M):=by
 obtain ⟨O⟩:=zEo (dJ room (zAU ls) (zDE s)) [97] g
 have a1:=O.h1
 have a2:=O.h2
 have a3:=O.hs
 have a4:=O.hl
 have b1:(dJ room (zAU ls) (zDE s)).rid1 (zAH (logN [97]))=(dJ room (zAU ls) (zDE s),0):=by unfold zAB.rid1;rw [dj_shl];rfl
 rw [b1] at a1
 have d1:dJ room (zAU ls) (zDE s)=O.D1:=congrArg Prod.fst a1
 have e1:0=O.e1:=congrArg Prod.snd a1
 rw [← d1] at a2
 have b2:(dJ room (zAU ls) (zDE s)).rid1 (zAH (snpN [97]))=(dJ room (zAU ls) (zDE s),0):=by unfold zAB.rid1;rw [dj_shs];rfl
 rw [b2] at a2
 have d2:dJ room (zAU ls) (zDE s)=O.D2:=congrArg Prod.fst a2
 have e2:0=O.e2:=congrArg Prod.snd a2
 rw [← d2] at a3 a4
 have b3:zCT (Sat.get (snpN [97]) (dJ room (zAU ls) (zDE s)).files)=(0,s):=by
  rw [dj_snp]
  cases s with
  | none=>exact snapOf_7 zD8
  | some x =>
   obtain ⟨q1,q2,q3,q4⟩:=hs x rfl
   exact snapOf_bytes q1 q2 q3 q4
 rw [b3] at a3
 have hsc:=scan_recs ls [] hls (.inl rfl)
 rw [List.append_nil] at hsc
 have b4:zBV (dJ room (zAU ls) (zDE s)) [97] (JouM.none0 g)=(dJ room (zAU ls) (zDE s),0,false,M0):=by
  unfold zBV
  rw [dj_log]
  dsimp only
  rw [show (wh (zAU ls)).data=zAU ls from rfl,hsc]
  dsimp only
  rw [h0]
  dsimp only
  have ht:zA0 (dJ room (zAU ls) (zDE s)) (logN [97]) (zAU ls).length (zAU ls).length=(dJ room (zAU ls) (zDE s),0):=by unfold zA0;rw [if_neg (by omega)]
  rw [ht]
 rw [b4] at a4
 have hok:¬ ((([97]:Bs).length) < 1∨20 < ([97]:Bs).length∨zAW g=false):=by
  rintro (h | h | h)
  ·exact absurd h (by decide)
  ·exact absurd h (by decide)
  ·rw [hg] at h
   cases h
 rw [oj_keep O hok e1.symm e2.symm (by rw [← a3]) (by rw [← a4]) (M:=M) (by rw [← a3,← a4];exact hj),← a4]
def JouM.dat (M:JouM) (d:Bs):JouM:={ M with data:=d }
theorem rec1_dat (f:Bool) (M:JouM) (d:Bs) (p:Bs):rec1 f (M.dat d) p=(rec1 f M p).map (·.dat d):=by
 cases p with
 | nil=>rfl
 | cons k r =>
  unfold rec1
  dsimp only
  have hm:∀ t v,(M.dat d).mayVote t v=M.mayVote t v:=fun _ _=>rfl
  have hl:(M.dat d).last=M.last:=rfl
  have hn:(M.dat d).number=M.number:=rfl
  have he:(M.dat d).entries=M.entries:=rfl
  rw [hm,hl,hn,he]
  repeat' split
  all_goals first
   | rfl
   | (exfalso;simp_all;done)
theorem recGo_dat:∀ (l:List Bs) (M:JouM) (d:Bs),zBv (M.dat d) l=(zBv M l).map (·.dat d)
 | [],_,_=>rfl
 | p :: r,M,d=>by
  show (rec1 false (M.dat d) p).bind (fun M'=>zBv M' r)=((rec1 false M p).bind fun M'=>zBv M' r).map (·.dat d)
  rw [rec1_dat]
  cases rec1 false M p with
  | none=>rfl
  | some M1=>exact recGo_dat r M1 d
structure Kept5 (room:Nat) (g:List Int) (M:JouM) (D:zAB) (u:Nat):Prop where
 ex:∃ ls s M0,D=dJ room (zAU ls) (zDE s)∧(∀ l ∈ ls,l.length≤1048576)∧SnapOK s∧zBx (JouM.none0 g) ls=some M0∧zAd s M0 false=some (false,M)
 used:D.used≤u
 grp:zAW g=true
 alive:M.dead=false
theorem Kept5.open {room:Nat} {g:List Int} {M:JouM} {D:zAB} {u:Nat} (h:Kept5 room g M D u):zAS D [97] g=(D,0,M):=by
 obtain ⟨⟨ls,s,M0,rfl,h1,h2,h3,h4⟩,-,hg,-⟩:=h
 exact open_dj hg h1 h2 h3 h4
theorem Kept5.crash {room:Nat} {g:List Int} {M:JouM} {D:zAB} {u:Nat} (h:Kept5 room g M D u) (k:Int):D.crash k=D:=by
 obtain ⟨⟨ls,s,M0,rfl,-⟩,-⟩:=h
 exact crash_dj k
theorem joins_is {s:Option Snap} {M0 M:JouM} (h:zAd s M0 false=some (false,M)):M=M0.dat M.data∧(∀ M',M'.number=M0.number→zAd s M' false=some (false,match s with | none=>M' | some x=>M'.dat x.data))∧(∀ x,s=some x→M.data=x.data)∧(s=none→M=M0):=by
 unfold zAd at h
 cases s with
 | none =>
  dsimp only at h
  split at h
  ·cases h
  ·rename_i hn
   have e:M0=M:=congrArg Prod.snd (Option.some.inj h)
   subst e
   refine ⟨rfl,fun M' hM=>?_,fun x hx=>(by cases hx),fun _=>rfl⟩
   unfold zAd
   dsimp only
   rw [hM,if_neg hn]
 | some x =>
  dsimp only at h
  split at h
  ·have e:true=false:=congrArg Prod.fst (Option.some.inj h)
   cases e
  ·rename_i h1
   split at h
   ·cases h
   ·rename_i h2
    have e:({ M0 with data:=x.data }:JouM)=M:=congrArg Prod.snd (Option.some.inj h)
    subst e
    refine ⟨rfl,fun M' hM=>?_,fun y hy=>(by cases hy;rfl),fun hx=>(by cases hx)⟩
    unfold zAd
    dsimp only
    rw [if_neg (by rw [hM];exact h1),if_neg (by rw [hM];exact h2)]
    rfl
theorem keep_lay {room:Nat} {g:List Int} {M M':JouM} {D:zAB} {u:Nat} {rs:List Bs} (h:Kept5 room g M D u) (hrs:∀ l ∈ rs,l.length≤1048576) (hrec:zBv M rs=some M') (hnum:M'.number=M.number) (_hdat:M'.data=M.data) (hal:M'.dead=false) (hu:u+(zAU rs).length≤room) :
  ∃ D',laysJ [97] D M rs M'=⟨D',M',0⟩∧Kept5 room g M' D' (u+(zAU rs).length):=by
 obtain ⟨⟨ls,s,M0,rfl,h1,h2,h3,h4⟩,hus,hg,ha⟩:=h
 obtain ⟨hM,hJ,hJd,hJn⟩:=joins_is h4
 have hlay:=lay_dj (room:=room) (c:=zAU ls) (b:=zAU rs) (s:=zDE s) (by omega)
 refine ⟨dJ room (zAU ls ++ zAU rs) (zDE s),?_,⟨?_,?_,hg,hal⟩⟩
 ·unfold laysJ
  rw [hlay]
  exact if_neg (by simp)
 ·have hr0:(zBv M0 rs).map (·.dat M.data)=some M':=by rw [← recGo_dat,← hM,hrec]
  cases hq:zBv M0 rs with
  | none=>rw [hq] at hr0;cases hr0
  | some M1 =>
   rw [hq] at hr0
   have e1:M1.dat M.data=M':=Option.some.inj hr0
   have n1:M1.number=M0.number:=by
    have a:M'.number=M1.number:=by rw [← e1];rfl
    have b:M.number=M0.number:=by rw [hM];rfl
    omega
   refine ⟨ls ++ rs,s,M1,by rw [zDt],fun l hl=>?_,h2,?_,?_⟩
   ·exact (List.mem_append.1 hl).elim (h1 l) (hrs l)
   ·rw [recAll_app h3,hq]
   ·rw [hJ M1 n1]
    cases s with
    | none =>
     have e0:=hJn rfl
     rw [e0,hq] at hrec
     rw [Option.some.inj hrec]
    | some x =>
     show some (false,M1.dat x.data)=_
     rw [← hJd x rfl,e1]
 ·rw [dj_used] at hus ⊢
  rw [List.length_append]
  cases s with
  | none=>simp only [zDE,Option.map_none] at hus ⊢;omega
  | some x=>simp only [zDE,Option.map_some] at hus ⊢;omega
theorem keep_start {room:Nat} {g:List Int} (hg:zAW g=true):Kept5 room g (JouM.none0 g) (zCy room [97] g) 150:=by
 refine ⟨⟨(JouM.none0 g).rows,none,JouM.none0 g,by rw [rows_none0];rfl,fun l hl=>?_,fun x hx=>(by cases hx),?_,rfl⟩,?_,hg,rfl⟩
 ·have h1:=firstB_len hg
  unfold zEd at h1
  rw [List.length_append,zAk,zAk] at h1
  rcases (show l=fstB 0 0 g∨l=trmB 0 (-1) from by simpa [JouM.rows,JouM.none0,zBK] using hl) with rfl | rfl <;> omega
 ·have:=rec_rows (M:=JouM.none0 g) (N:=JouM.none0 g) (Nat.zero_le _) rfl hg rfl ⟨Int.le_refl _,show (-1:Int) < 7 by decide⟩ (fun e he=>by cases he) rfl rfl rfl
  exact this
 ·have h1:=firstB_len hg
  show (dJ room (zEd g) none).used≤150
  rw [dj_used]
  exact h1
section
variable {room:Nat} {g:List Int} {M:JouM} {D:zAB} {u:Nat}
theorem app_go (h:Kept5 room g M D u) {es:List Ent} (he:es≠[]) (hall:∀ e ∈ es,zAs e=true) (hla:M.last+es.length≤1099511627776) (hu:u+65812 * es.length≤room∨u+(zAU (zBK M.last es)).length≤room) :
  ∃ D',zCQ [97] D M es=⟨D',{ M with entries:=M.entries ++ es },0⟩∧Kept5 room g { M with entries:=M.entries ++ es } D' (u+(zAU (zBK M.last es)).length):=by
 have hrl:=zC6 M.last es hall (by omega)
 have hle:=zDW (c:=65800) (zBK M.last es) hrl
 rw [zCN] at hle
 obtain ⟨D',h1,h2⟩:=keep_lay (M':={ M with entries:=M.entries ++ es }) (rs:=zBK M.last es) h (fun l hl=>Nat.le_trans (hrl l hl) (by decide)) (recGo_ents es M hall hla) rfl rfl h.alive (by rcases hu with hu | hu <;> omega)
 refine ⟨D',?_,h2⟩
 unfold zCQ
 rw [if_neg (show ¬ M.dead=true by rw [h.alive];simp),if_neg (fun h3=>h3.elim (fun h4=>by omega) fun h4=>by rw [List.all_eq_true.2 hall] at h4;cases h4),if_neg he]
 exact h1
end
section
variable {room:Nat} {g:List Int} {M:JouM} {D:zAB} {u:Nat}
theorem goes_go (h:Kept5 room g M D u) {s:Snap} (hs:s.OK) (h1:1≤s.number) (hd:s.data.length≤524288) (hbl:s.bytes.length≤1048576) (hok:(M.rebase s).OK) (hr:room≤1073741824) (hls:∀ l ∈ (M.rebase s).rows,l.length≤1048576)
  (hu:u+s.bytes.length+12+(zAU (M.rebase s).rows).length≤room) :
  ∃ D',zB7 [97] D M s=⟨D',M.rebase s,0⟩∧Kept5 room g (M.rebase s) D' ((zAU (M.rebase s).rows).length+s.bytes.length+12):=by
 obtain ⟨⟨ls,s0,M0,rfl,-⟩,hus,hg,ha⟩:=h
 have hsv:=snp_dj (room:=room) (c:=zAU ls) (b:=s.bytes) (s:=zDE s0) hr (by omega)
 have hc:(zAU ls).length≤u:=by
  rw [dj_used] at hus
  omega
 have hlg:=log_dj (room:=room) (c:=zAU ls) (b:=zAU (M.rebase s).rows) (s:=some (zAK s.bytes)) hr (by
  rw [dj_used]
  dsimp only
  rw [zAk]
  omega)
 have hdead:(M.rebase s).dead=false:=ha
 refine ⟨dJ room (zAU (M.rebase s).rows) (some (zAK s.bytes)),?_,⟨⟨(M.rebase s).rows,some s,{ M.rebase s with data:=[],dead:=false },rfl,hls,fun x hx=>?_,?_,?_⟩,?_,hg,hdead⟩⟩
 ·unfold zB7
  rw [show snpB s.number s.term s.group s.data=s.bytes from rfl,hsv,if_neg (by simp)]
  dsimp only
  unfold zAR
  rw [hlg,if_neg (by simp)]
 ·cases hx
  exact ⟨hs,h1,hd,hbl⟩
 ·exact rec_rows (M:=M.rebase s) (N:=JouM.none0 g) hok.last hok.term hok.group hok.now hok.vote hok.ents rfl rfl rfl
 ·have e:(M.rebase s)={ ({ M.rebase s with data:=[],dead:=false }:JouM) with data:=s.data }:=by
   have h9:M.dead=false:=ha
   unfold JouM.rebase
   rw [h9]
  unfold zAd
  dsimp only
  rw [if_neg (show ¬ (M.rebase s).number < s.number from Nat.lt_irrefl _),if_neg (show ¬ s.number < (M.rebase s).number from Nat.lt_irrefl _)]
  rw [← e]
 ·rw [dj_used]
  dsimp only
  rw [zAk]
  omega
theorem compact_go (h:Kept5 room g M D u) {i:Nat} {b:Bs} (h1:M.number < i) (h2:i≤M.last) (h3:b.length≤524288) :
  zBc [97] D M (i:Int) b=zB7 [97] D M ⟨i,(M.termAt (i:Int)).getD 0,(M.grpIn (i - M.number)).1,b⟩:=by
 unfold zBc
 rw [if_neg (show ¬ M.dead=true by rw [h.alive];simp),if_neg (by omega),Int.toNat_natCast]
end
theorem entB_len2 {n:Nat} {e:Ent} (hn:n≤4611686018427387904) (h:zAs e=true):(entB n e).length≤46+e.data.length+9 * e.nodes.length:=by
 have hf:=zA8 h
 unfold entB rowB grpB
 simp only [List.length_cons,List.length_append]
 have h1:=zAe hn
 have h2:=zA9 e.term
 have h3:=zA9 e.kind
 have h4:=zAe (n:=e.data.length) (by omega)
 have h5:=zAe (n:=e.nodes.length) (by omega)
 have h6:=zAy e.nodes
 omega
theorem ents_len2 {c:Nat}:∀ (n:Nat) (es:List Ent),(∀ e ∈ es,zAs e=true∧e.data.length+9 * e.nodes.length≤c)→n+es.length≤4611686018427387904→∀ l ∈ zBK n es,l.length≤46+c
 | _,[],_,_,l,hl=>by cases hl
 | n,e :: r,h,hn,l,hl=>by
  simp only [List.length_cons] at hn
  cases hl with
  | head =>
   have:=entB_len2 (n:=n+1) (e:=e) (by omega) (h e (by simp)).1
   have:=(h e (by simp)).2
   omega
  | tail _ hl=>exact ents_len2 (n+1) r (fun x hx=>h x (by simp [hx])) (by omega) l hl
def ke1:Ent:=⟨1,0,[],[]⟩
def ke2:Ent:=⟨2,1,[120],[]⟩
def kM1:JouM:=⟨0,0,[0,1,2],0,-1,[],[ke1,ke2],false⟩
def kS:Snap:=⟨1,1,[0,1,2],[115]⟩
def kM2:JouM:=⟨1,1,[0,1,2],0,-1,[115],[ke2],false⟩
theorem kM2_is:kM1.rebase kS=kM2:=by rfl
theorem kS_is:(⟨1,(kM1.termAt ((1:Nat):Int)).getD 0,(kM1.grpIn (1 - kM1.number)).1,[115]⟩:Snap)=kS:=by rfl
theorem known5:∃ D1 D2,zCQ [97] (zCy 65536 [97] [0,1,2]) (JouM.none0 [0,1,2]) [ke1,ke2]=⟨D1,kM1,0⟩∧zBc [97] D1 kM1 ((1:Nat):Int) [115]=⟨D2,kM2,0⟩:=by
 have h0:=keep_start (room:=65536) (g:=[0,1,2]) (by rfl)
 have hall:∀ e ∈ [ke1,ke2],zAs e=true:=fun e he=>by
  rcases (show e=ke1∨e=ke2 from by simpa using he) with rfl | rfl <;> rfl
 have hlen:(zAU (zBK (JouM.none0 [0,1,2]).last [ke1,ke2])).length≤200:=by
  have h1:=zDW (c:=47) (zBK (JouM.none0 [0,1,2]).last [ke1,ke2]) (ents_len2 (c:=1) _ _ (fun e he=>⟨hall e he,by rcases (show e=ke1∨e=ke2 from by simpa using he) with rfl | rfl <;> decide⟩) (show 0+2≤_ by decide))
  rw [zCN] at h1
  exact Nat.le_trans h1 (by decide)
 obtain ⟨D1,h1,h2⟩:=app_go h0 (by simp) hall (show 0+2≤_ by decide) (.inr (by omega))
 have hok:kM2.OK:=⟨by decide,by rfl,by rfl,by rfl,⟨by decide,by decide⟩,by decide,fun e he=>by rw [show e=ke2 from by simpa [kM2] using he];rfl⟩
 have hrl:∀ l ∈ kM2.rows,l.length≤200:=fun l hl=>by
  rcases (show l=fstB 1 1 [0,1,2]∨l=trmB 0 (-1)∨l ∈ zBK 1 [ke2] from by simpa [JouM.rows,kM2] using hl) with rfl | rfl | hl
  ·unfold fstB grpB
   have a:(numB 1).length≤9:=zAe (by omega)
   have b:=zA9 1
   have c:=zAe (n:=([0,1,2]:List Int).length) (by decide)
   have d:=zAy [0,1,2]
   simp only [List.length_cons,List.length_append,List.length_nil] at c d ⊢
   omega
  ·have:=trmB_len 0 (-1)
   omega
  ·have:=ents_len2 (c:=1) 1 [ke2] (fun e he=>by rw [show e=ke2 from by simpa using he];exact ⟨rfl,by decide⟩) (by decide) l hl
   omega
 have hrl2:=zDW (c:=200) kM2.rows hrl
 have hbl:kS.bytes.length≤200:=by
  unfold Snap.bytes kS snpB grpB rowB
  have a:(numB 1).length≤9:=zAe (by omega)
  have b:=zA9 1
  have c:=zAe (n:=([0,1,2]:List Int).length) (by decide)
  have d:=zAy [0,1,2]
  have f:=zAe (n:=([115]:Bs).length) (by decide)
  simp only [List.length_cons,List.length_append,List.length_nil] at c d f ⊢
  omega
 have hM1:({ JouM.none0 [0,1,2] with entries:=(JouM.none0 [0,1,2]).entries ++ [ke1,ke2] }:JouM)=kM1:=rfl
 rw [hM1] at h1 h2
 obtain ⟨D2,h3,h4⟩:=goes_go h2 (s:=kS) ⟨by decide,by rfl,by rfl,by decide⟩ (by decide) (by decide) (by omega) (by rw [kM2_is];exact hok) (by decide) (by rw [kM2_is];exact fun l hl=>Nat.le_trans (hrl l hl) (by decide)) (by
  rw [kM2_is]
  have:kM2.rows.length=3:=rfl
  rw [this] at hrl2
  omega)
 refine ⟨D1,D2,h1,?_⟩
 rw [compact_go h2 (show 0 < 1 by decide) (show 1≤2 by decide) (by decide),kS_is,h3,kM2_is]
theorem rbytes1_calls {w:World} {p:Option Addr} {n c:Nat} {l:Bs} (hx:HasB w (.slice p n c) l) (hl:l.length≤1073741824) :
  Calls Tryz.prog 133 #[.slice p n c] w (zBJ w (rowB l)):=by
 obtain ⟨i0,hi,hz0,hz1,hz2⟩:=info_parts (show (Tryz.prog.info? 5).map (fun i=>(i.zero,i.size,i.bytes))=some (some (.int .u8 0),1,1) by kernel_rfl)
 have hn:l.length=n:=by obtain ⟨_,_,e⟩:=hx.slice;simp only [Value.slice.injEq] at e;exact e.2.1.symm
 have Hnum:=zh (zEO w (n:Int) (by omega))
 have HT:=zh (show numI (n:Int) ++ l=rowB l by rw [zCK (by omega),← hn];rfl)
 have hnl:(numI (n:Int)).length≤9:=zA9 _
 have Hx:=zh hx
 have Hn:=zh hn
 have hn30:n≤1073741824:=by omega
 clear hx hn hl
 go_enter Tryz.func133,Tryz.ntmps133
 go_wp2_with fail
 refine Hnum.out.mono ?_
 rintro e w2 ⟨x,rfl,hx2,hxn,hb2⟩
 obtain ⟨px,cx,rfl,-⟩:=zAO hx2
 have HS2:=zh (show RowB w w2 (.slice px (numI (n:Int)).length cx) (numI (n:Int)) from ⟨hx2,hxn,hb2⟩)
 have Hxx3:=zh (show zAL w2 1 (.slice p n c) n (zAQ l) by have:=Hx.out.below hb2;unfold HasB at this;rwa [Hn.out] at this)
 clear hx2 hxn hb2 Hnum
 generalize hL2:(numI (n:Int)).length=m2 at *
 have HL:=zh hL2
 clear hL2
 have Hrow3:=zh (show OwnR w2 5 1 (.slice px m2 cx) m2 (zAQ (numI (n:Int))) from by have:=HS2.out.own;unfold OwnB at this;rwa [HL.out] at this)
 go_wp2_with (at_builtin;refine zAP _ rfl (.tmp 5) (.tmp 6) 22 rfl 5 i0 (.int .u8 0) 1 1 Tryz.underlying22 hi hz0 hz1 hz2 rfl (by decide) (.slice px m2 cx) m2 _ rfl Hrow3.out (.slice p n c) n _ rfl Hxx3.out (zAM _) (by unfold maxLen;omega) (by omega) ?_;intro v3 w3 hown hgrow hloc;go_loud (have HE3:=zh (RowB.grown (x:=l) HS2.out (by rw [HL.out,Hn.out];exact hown) hgrow hloc);clear hgrow hloc;obtain ⟨p3,q3,rfl⟩:=OwnR.shape hown;clear hown))
 go_ret
 rw [← HT.out]
 exact HE3.out.told
def entC0 (e:Ent):Bs:=zAh [e.term,e.kind] ++ rowB e.data ++ grpB e.nodes
theorem entB_is {n:Nat} (h:n≤4611686018427387904) (e:Ent):[3] ++ numI (n:Int) ++ entC0 e=entB n e:=by
 unfold entC0 entB
 rw [zCK h]
 simp [zAh]
theorem rentC_calls {w:World} {e:Ent} {v:EV} (h:zBE w e v) (hie:zAs e=true) :
  Calls Tryz.prog 171 #[entV e v] w (zBJ w (entC0 e)):=by
 obtain ⟨i0,hi,hz0,hz1,hz2⟩:=info_parts (show (Tryz.prog.info? 5).map (fun i=>(i.zero,i.size,i.bytes))=some (some (.int .u8 0),1,1) by kernel_rfl)
 have hf:=zA8 hie
 obtain ⟨t,k,da,no⟩:=e
 obtain ⟨v1,v2⟩:=v
 obtain ⟨p1,c1,e1⟩:=h.data.slice
 obtain ⟨p2,c2,e2⟩:=h.nodes.slice
 have e1:v1=.slice p1 da.length c1:=e1
 have e2:v2=.slice p2 no.length c2:=e2
 subst e1
 subst e2
 dsimp only at hf
 have hz:∀ z ∈ no,-9223372036854775808≤z∧z≤9223372036854775807:=fun z hz=>by have:=hf.2.2.2.2 z hz;omega
 have hb1:=zAD w (entO t k (.slice p1 da.length c1) (.slice p2 no.length c2))
 have hA0:(w.alloc (entO t k (.slice p1 da.length c1) (.slice p2 no.length c2))).heap[w.heap.size]?=some (entO t k (.slice p1 da.length c1) (.slice p2 no.length c2)):=zAI w _
 have hda:=h.data.below hb1
 have hno:=zAL.chg h.nodes (Chg.of_below hb1) fun _ _=>id
 clear h
 unfold entV
 dsimp only
 have Hf:=zh hf
 have hdl:da.length≤65536:=hf.2.2.1
 have hnl:no.length≤7:=hf.2.2.2.1
 generalize hn1:da.length=n1 at *
 generalize hn2:no.length=n2 at *
 have Hn1:=zh hn1
 have Hn2:=zh hn2
 have HZ:=zh hz
 clear hn1 hn2 hz
 go_enter Tryz.func171,Tryz.ntmps171
 have hA1:=zAA hA0 (i:=0) rfl
 have hA2:=zAA hA0 (i:=1) rfl
 have Hnum:=zh (zBt (w:=(w.alloc (entO t k (.slice p1 n1 c1) (.slice p2 n2 c2))).alloc (.cells #[.int .i64 t,.int .i64 k] 3)) (p:=some ⟨w.heap.size+1,0,none⟩) (n:=2) (c:=2) (zs:=[t,k]) ⟨by simp,some ⟨w.heap.size+1,0,none⟩,2,rfl,fun e=>(by cases e),fun a ha i u hu=>by
  cases ha
  rw [add_zero]
  refine zAA (by have:=zAI (w.alloc (entO t k (.slice p1 n1 c1) (.slice p2 n2 c2))) (.cells #[.int .i64 t,.int .i64 k] 3);simpa using this) ?_
  simpa using hu⟩ (by simp;have:=Hf.out;omega) (by simp))
 have Hb1:=zh hb1
 have HA0:=zh hA0
 have Hda:=zh hda
 have Hno:=zh hno
 have hs0:(zAh [t,k]).length≤18:=by have:=zAy [t,k];simpa using this
 have hs1:(rowB da).length≤9+n1:=by
  have:=zAe (n:=da.length) (by have:=Hn1.out;omega)
  unfold rowB
  rw [List.length_append,Hn1.out]
  rw [Hn1.out] at this
  omega
 have hs2:=grpB_len0 no (by have:=Hn2.out;omega)
 clear hA1 hA2 hA0 hb1 hda hno
 go_wp2_with fail
 refine Hnum.out.mono ?_
 rintro r w2 ⟨x,rfl,hx2,hxn,hb2⟩
 obtain ⟨px,cx,rfl,-⟩:=zAO hx2
 have hbW:Below (w.alloc (entO t k (.slice p1 n1 c1) (.slice p2 n2 c2))).heap.size (w.alloc (entO t k (.slice p1 n1 c1) (.slice p2 n2 c2))) w2:=(zAD _ (.cells #[.int .i64 t,.int .i64 k] 3)).trans (hb2.mono (zAD _ _).size)
 have hxn2:∀ y,(Value.slice px (zAh [t,k]).length cx).ownBlock=some y→(w.alloc (entO t k (.slice p1 n1 c1) (.slice p2 n2 c2))).heap.size≤y:=fun y hy=>Nat.le_trans (zAD _ _).size (hxn y hy)
 clear hxn hb2 Hnum
 generalize w.alloc (entO t k (.slice p1 n1 c1) (.slice p2 n2 c2))=W1 at *
 have HS2:=zh (show RowB W1 w2 (.slice px (zAh [t,k]).length cx) (zAh [t,k]) from ⟨hx2,hxn2,hbW⟩)
 have hA4:=(hbW.block _ (zAC HA0.out)).trans HA0.out
 have Hby:=zh (rbytes1_calls (p:=p1) (n:=n1) (c:=c1) (HasB.below Hda.out hbW) (by rw [Hn1.out];omega))
 have d2:=zAA hA4 (i:=2) rfl
 clear hx2 hxn2 hbW hA4
 generalize hL2:(zAh [t,k]).length=m2 at *
 have HL2:=zh hL2
 clear hL2
 go_wp2_with fail
 refine Hby.out.mono ?_
 rintro r w3 ⟨y,rfl,hy,hyn,hb3⟩
 have HY:=zh (OwnB.has hy)
 obtain ⟨py,cy,rfl,-⟩:=zAO hy
 have HS3:=zh (HS2.out.next hb3)
 clear hy hyn hb3 Hby d2
 generalize hL3:(rowB da).length=m3 at *
 have HL3:=zh hL3
 clear hL3
 have Hrow4:=zh (show OwnR w3 5 1 (.slice px m2 cx) m2 (zAQ (zAh [t,k])) from by have:=HS3.out.own;unfold OwnB at this;rwa [HL2.out] at this)
 have Hxx4:=zh (show zAL w3 1 (.slice py m3 cy) m3 (zAQ (rowB da)) from by have:=HY.out;unfold HasB at this;rwa [HL3.out] at this)
 go_wp2_with (at_builtin;refine zAP _ rfl (.tmp 10) (.tmp 13) 22 rfl 5 i0 (.int .u8 0) 1 1 Tryz.underlying22 hi hz0 hz1 hz2 rfl (by decide) (.slice px m2 cx) m2 _ rfl Hrow4.out (.slice py m3 cy) m3 _ rfl Hxx4.out (zAM _) (by unfold maxLen;omega) (by omega) ?_;intro v4 w4 hown hgrow hloc;go_loud (have HE4:=zh (RowB.grown (x:=rowB da) HS3.out (by rw [HL2.out,HL3.out];exact hown) hgrow hloc);clear hgrow hloc;obtain ⟨p4,q4,rfl⟩:=OwnR.shape hown;clear hown;have hA5:=(HE4.out.bel.block _ (zAC HA0.out)).trans HA0.out;have d3:=zAA hA5 (i:=3) rfl;have Hli:=zh (zC1 (p:=p2) (n:=n2) (c:=c2) (show HasI w4 (.slice p2 n2 c2) no from by unfold HasI;rw [Hn2.out];exact zAL.chg Hno.out (Chg.of_below HE4.out.bel) fun _ _=>id) HZ.out (by have:=Hn2.out;omega));clear hA5 Hrow4 Hxx4))
 refine Hli.out.mono ?_
 rintro r w5 ⟨z,rfl,hz5,hzn5,hb5⟩
 have HZ5:=zh (OwnB.has hz5)
 obtain ⟨pz,cz,rfl,-⟩:=zAO hz5
 have HS5:=zh (HE4.out.next hb5)
 have HL4:=zh (show (zAh [t,k] ++ rowB da).length=m2+m3 by rw [List.length_append,HL2.out,HL3.out])
 clear hz5 hzn5 hb5 Hli d3
 generalize hL6:(grpB no).length=m6 at *
 have HL6:=zh hL6
 clear hL6
 have Hrow7:=zh (show OwnR w5 5 1 (.slice p4 (m2+m3) q4) (m2+m3) (zAQ (zAh [t,k] ++ rowB da)) from by have:=HS5.out.own;unfold OwnB at this;rwa [HL4.out] at this)
 have Hxx7:=zh (show zAL w5 1 (.slice pz m6 cz) m6 (zAQ (grpB no)) from by have:=HZ5.out;unfold HasB at this;rwa [HL6.out] at this)
 go_wp2_with (at_builtin;refine zAP _ rfl (.tmp 15) (.tmp 18) 22 rfl 5 i0 (.int .u8 0) 1 1 Tryz.underlying22 hi hz0 hz1 hz2 rfl (by decide) (.slice p4 (m2+m3) q4) (m2+m3) _ rfl Hrow7.out (.slice pz m6 cz) m6 _ rfl Hxx7.out (zAM _) (by unfold maxLen;omega) (by omega) ?_;intro v7 w7 hown hgrow hloc;go_loud (have HE7:=zh (RowB.grown (x:=grpB no) HS5.out (by rw [HL4.out,HL6.out];exact hown) hgrow hloc);clear hgrow hloc;obtain ⟨p7,q7,rfl⟩:=OwnR.shape hown;clear hown))
 go_ret
 have hE:=HE7.out
 exact ⟨_,rfl,hE.own,fun y hy=>Nat.le_trans Hb1.out.size (hE.new y hy),Hb1.out.trans (hE.bel.mono Hb1.out.size)⟩
theorem rentry_calls {w:World} {e:Ent} {v:EV} (h:zBE w e v) (hie:zAs e=true) {n:Nat} (hn:n≤4611686018427387904) :
  Calls Tryz.prog 113 #[.int .i64 (n:Int),entV e v] w (zBJ w (zAK (entB n e))):=by
 obtain ⟨i0,hi,hz0,hz1,hz2⟩:=info_parts (show (Tryz.prog.info? 5).map (fun i=>(i.zero,i.size,i.bytes))=some (some (.int .u8 0),1,1) by kernel_rfl)
 have hlen:=entB_len2 hn hie
 have hf:=zA8 hie
 obtain ⟨t,k,da,no⟩:=e
 obtain ⟨v1,v2⟩:=v
 obtain ⟨p1,c1,e1⟩:=h.data.slice
 obtain ⟨p2,c2,e2⟩:=h.nodes.slice
 have e1:v1=.slice p1 da.length c1:=e1
 have e2:v2=.slice p2 no.length c2:=e2
 subst e1
 subst e2
 dsimp only at hf hlen
 generalize hn1:da.length=n1 at *
 generalize hn2:no.length=n2 at *
 have hb1:=zAD w (entO t k (.slice p1 n1 c1) (.slice p2 n2 c2))
 have hA0:(w.alloc (entO t k (.slice p1 n1 c1) (.slice p2 n2 c2))).heap[w.heap.size]?=some (entO t k (.slice p1 n1 c1) (.slice p2 n2 c2)):=zAI w _
 have hh:=h.below hb1
 have HT:=zh (entB_is hn ⟨t,k,da,no⟩)
 have Hlen:=zh hlen
 have Hf:=zh hf
 have Hb1:=zh hb1
 have HA0:=zh hA0
 have Hh:=zh hh
 have Hie:=zh hie
 have hnl:(numI (n:Int)).length≤9:=zA9 _
 have Hlit:=zh (rowB_lit (w.alloc (entO t k (.slice p1 n1 c1) (.slice p2 n2 c2))) 3)
 have Hnum:=zh (zEO ((w.alloc (entO t k (.slice p1 n1 c1) (.slice p2 n2 c2))).alloc (.cells #[.int .u8 3] 5)) (n:Int) (by omega))
 clear hn1 hn2 hb1 hA0 hh hlen hf h hie
 unfold entV
 dsimp only
 go_enter Tryz.func113,Tryz.ntmps113
 go_wp2_with fail
 refine Hnum.out.mono ?_
 rintro r w2 ⟨x,rfl,hx2,hxn,hb2⟩
 have hgs:(w.alloc (entO t k (.slice p1 n1 c1) (.slice p2 n2 c2))).heap.size=w.heap.size+1:=by simp
 generalize w.alloc (entO t k (.slice p1 n1 c1) (.slice p2 n2 c2))=W1 at *
 have HS2:=zh (Hlit.out.next hb2)
 have HX2:=zh (OwnB.has hx2)
 obtain ⟨px,cx,rfl,-⟩:=zAO hx2
 clear hx2 hxn hb2 Hnum Hlit
 generalize hL2:(numI (n:Int)).length=m2 at *
 have HL2:=zh hL2
 have HLl:=zh (show ([3]:Bs).length=1 from rfl)
 have Hrow4:=zh (show OwnR w2 5 1 (.slice (some ⟨W1.heap.size,0,none⟩) 1 1) 1 (zAQ [3]) from HS2.out.own)
 have Hxx4:=zh (show zAL w2 1 (.slice px m2 cx) m2 (zAQ (numI (n:Int))) by have:=HX2.out;unfold HasB at this;rwa [HL2.out] at this)
 clear hL2
 rw [hgs] at Hrow4 HS2
 go_wp2_with (at_builtin;refine zAP _ rfl (.tmp 6) (.tmp 8) 22 rfl 5 i0 (.int .u8 0) 1 1 Tryz.underlying22 hi hz0 hz1 hz2 rfl (by decide) (.slice (some ⟨w.heap.size+1,0,none⟩) 1 1) 1 _ rfl Hrow4.out (.slice px m2 cx) m2 _ rfl Hxx4.out (zAM _) (by unfold maxLen;omega) (by omega) ?_;intro v4 w4 hown hgrow hloc;go_loud (have HE4:=zh (RowB.grown (x:=numI (n:Int)) HS2.out (by rw [HLl.out,HL2.out];exact hown) hgrow hloc);clear hgrow hloc;obtain ⟨p4,q4,rfl⟩:=OwnR.shape hown;clear hown;have hA5:=(HE4.out.bel.block _ (zAC HA0.out)).trans HA0.out;have d0:=zAA hA5 (i:=0) rfl;have d1:=zAA hA5 (i:=1) rfl;have d2:=zAA hA5 (i:=2) rfl;have d3:=zAA hA5 (i:=3) rfl;have Hec:=zh (rentC_calls (Hh.out.below HE4.out.bel) Hie.out);clear hA5 Hrow4 Hxx4))
 refine Hec.out.mono ?_
 rintro r w5 ⟨z,rfl,hz5,hzn5,hb5⟩
 have HZ5:=zh (OwnB.has hz5)
 obtain ⟨pz,cz,rfl,-⟩:=zAO hz5
 have HS5:=zh (HE4.out.next hb5)
 have HL4:=zh (show ([3] ++ numI (n:Int):Bs).length=1+m2 by rw [List.length_append,HL2.out];rfl)
 clear hz5 hzn5 hb5 Hec d0 d1 d2 d3
 generalize hL6:(entC0 ⟨t,k,da,no⟩).length=m6 at *
 have HL6:=zh hL6
 have hm6:m6≤1048000:=by
  have h1:=congrArg List.length HT.out
  rw [List.length_append,HL4.out,hL6] at h1
  have h2:=Hlen.out
  have h3:=Hf.out
  omega
 have hm7:1+m2+m6≤1048576:=by
  have h1:=congrArg List.length HT.out
  rw [List.length_append,HL4.out,hL6] at h1
  have h2:=Hlen.out
  have h3:=Hf.out
  omega
 clear hL6
 have Hrow7:=zh (show OwnR w5 5 1 (.slice p4 (1+m2) q4) (1+m2) (zAQ ([3] ++ numI (n:Int))) from by have:=HS5.out.own;unfold OwnB at this;rwa [HL4.out] at this)
 have Hxx7:=zh (show zAL w5 1 (.slice pz m6 cz) m6 (zAQ (entC0 ⟨t,k,da,no⟩)) from by have:=HZ5.out;unfold HasB at this;rwa [HL6.out] at this)
 go_wp2_with (at_builtin;refine zAP _ rfl (.tmp 10) (.tmp 12) 22 rfl 5 i0 (.int .u8 0) 1 1 Tryz.underlying22 hi hz0 hz1 hz2 rfl (by decide) (.slice p4 (1+m2) q4) (1+m2) _ rfl Hrow7.out (.slice pz m6 cz) m6 _ rfl Hxx7.out (zAM _) (by unfold maxLen;omega) (by omega) ?_;intro v7 w7 hown hgrow hloc;go_loud (have HE7:=zh (RowB.grown (x:=entC0 ⟨t,k,da,no⟩) HS5.out (by rw [HL4.out,HL6.out];exact hown) hgrow hloc);clear hgrow hloc;obtain ⟨p7,q7,rfl⟩:=OwnR.shape hown;clear hown;have Hrec:=zh (zBd (p:=p7) (m:=1+m2+m6) (c:=q7) (l:=entB n ⟨t,k,da,no⟩) (by have:=HE7.out.own.has;rw [HT.out] at this;exact this) (by rw [← HT.out,List.length_append,HL4.out,HL6.out];exact hm7));clear Hrow7 Hxx7))
 refine Hrec.out.mono ?_
 rintro r w8 ⟨y,rfl,hy,hyn,hb8⟩
 have HF:=zh (show zBJ w (zAK (entB n ⟨t,k,da,no⟩)) (.returned y) w8 from ⟨y,rfl,hy,fun x hx=>Nat.le_trans Hb1.out.size (Nat.le_trans HE7.out.bel.size (hyn x hx)),Hb1.out.trans ((HE7.out.bel.trans (hb8.mono HE7.out.bel.size)).mono Hb1.out.size)⟩)
 clear hy hyn hb8 Hrec
 go_wp2_with fail
 go_ret
 exact HF.out
theorem copy_newE {w w':World} {e:TypeId} {v:Value} {m:Nat} {xs:List Value} (hown:OwnR w' e 4 v (0+m) ([] ++ xs)) (hg:(w.alloc (.cells #[] e)).grownBy w' (some w.heap.size)) (hl:v.ownBlock=some w.heap.size∨∃ g,v.ownBlock=some g∧(w.alloc (.cells #[] e)).heap.size≤g) :
  OwnR w' e 4 v m xs∧(∀ k,v.ownBlock=some k→w.heap.size≤k)∧Below w.heap.size w w':=by
 rw [Nat.zero_add,List.nil_append] at hown
 refine ⟨hown,fun k hk=>?_,(zAD w _).trans ((Chg.of_grown hg).below (by simp) fun k hk e=>?_)⟩
 ·rcases hl with h | ⟨g,h,hge⟩
  ·rw [h] at hk
   cases hk
   exact Nat.le_refl _
  ·rw [h] at hk
   cases hk
   simp at hge
   omega
 ·have:=Option.some.inj e
  omega
section
variable {w w1 w2:World} {j r:Nat} {pre:ByteArray} {D:zAB} {M:JouM} {Hot Cold O C C':Nat→Prop} {gv dv ev v':Value} {vs vs':List EV} {es':List Ent}
theorem RJIn.one (h:RJIn w j r pre O C M gv dv ev vs):∀ v ∈ vs,v.1.oneCell'=true∧v.2.oneCell'=true:=fun v hv=>by
 obtain ⟨i,hi,rfl⟩:=List.getElem_of_mem hv
 have hie:i < M.entries.length:=by rw [← h.rlen];exact hi
 have he:=h.rows i _ _ (List.getElem?_eq_getElem hie) (List.getElem?_eq_getElem hi)
 obtain ⟨_,_,e1⟩:=he.data.slice
 obtain ⟨_,_,e2⟩:=he.nodes.slice
 rw [e1,e2]
 exact ⟨rfl,rfl⟩
theorem RJIn.list (h:RJIn w j r pre O C M gv dv ev vs) (hc:Chg (fun k=>ev.ownBlock=some k) w w2) (hown:OwnR w2 50 4 v' es'.length (zA1 es' vs')) (hnew:∀ k,v'.ownBlock=some k→(ev.ownBlock=some k∨w.heap.size≤k)) (hrl:vs'.length=es'.length)
  (hrows:∀ (i:Nat) e v,es'[i]?=some e→vs'[i]?=some v→zBE w2 e v) (hcv:∀ u ∈ vs',∀ k,(u.1.ownBlock=some k∨u.2.ownBlock=some k)→C' k) (hC:∀ k,C k→C' k) (hC2:∀ k,C' k→(C k∨w.heap.size≤k)∧k < w2.heap.size∧v'.ownBlock≠some k) (ok:({ M with entries:=es' }:JouM).OK) :
  RJIn (w2.setCell ⟨j,8,none⟩ v') j r pre (fun k=>O k∨v'.ownBlock=some k) C' { M with entries:=es' } gv dv v' vs':=by
 have hjlt:=h.olt j h.oj
 have hjne:ev.ownBlock≠some j:=fun e=>(h.oe j e).2 rfl
 have hvj:v'.ownBlock≠some j:=fun e=>(hnew j e).elim hjne (by omega)
 have hcj:w2.heap[j]?=w.heap[j]?:=hc.block j hjlt hjne
 have hco:∀ k,C k→¬ (ev.ownBlock=some k):=fun k hk e=>h.dis k hk (h.oe k e).1
 have hcold:∀ k,C' k→k≠j:=fun k hk e=>by
  rcases (hC2 k hk).1 with h1 | h1
  ·exact h.dis k h1 (e ▸ h.oj)
  ·omega
 have hS:∀ k,k≠j→(w2.setCell ⟨j,8,none⟩ v').heap[k]?=w2.heap[k]?:=fun k hk=>set_other _ hk
 have hz:(w2.setCell ⟨j,8,none⟩ v').heap.size=w2.heap.size:=by simp [World.setCell]
 exact {
  cells:=by
   have h1:=zAE (hcj.trans h.cells) 8 v'
   simpa using h1
  group:=zAL.keep (zAL.chg h.group hc fun k hk=>hco k (h.cg k hk)) fun k hk=>hS k (hcold k (hC k (h.cg k hk)))
  data:=zAL.keep (zAL.chg h.data hc fun k hk=>hco k (h.cd k hk)) fun k hk=>hS k (hcold k (hC k (h.cd k hk)))
  row:=OwnR.keep hown fun k hk=>hS k fun e=>hvj (e ▸ hk)
  rlen:=hrl
  rows:=fun i e v he hv=>(hrows i e v he hv).keep fun k hk=>hS k (hcold k (hcv v (List.mem_of_getElem? hv) k hk))
  oj:=.inl h.oj
  oe:=fun k hk=>⟨.inr hk,fun e=>hvj (e ▸ hk)⟩
  cg:=fun k hk=>hC k (h.cg k hk)
  cd:=fun k hk=>hC k (h.cd k hk)
  cv:=hcv
  dis:=fun k hk ho=>by
   rcases ho with ho | ho
   ·rcases (hC2 k hk).1 with h1 | h1
    ·exact h.dis k h1 ho
    ·have:=h.olt k ho
     omega
   ·exact (hC2 k hk).2.2 ho
  olt:=fun k hk=>by
   rw [hz]
   rcases hk with hk | hk
   ·exact Nat.lt_of_lt_of_le (h.olt k hk) hc.size
   ·exact OwnR.lt hown hk
  clt:=fun k hk=>by
   rw [hz]
   exact (hC2 k hk).2.1
  psz:=h.psz
  ok:=ok }
theorem rj_list {own:Nat→Prop} {v0:Value} {L:List zAN} (h:RJIn w j r pre O C M gv dv ev vs) (hR:zAY w r v0 L own D) (hO:∀ k,O k→¬ own k) (hCo:∀ k,C k→¬ own k) (hH:∀ k,Hot k ↔ O k∨own k) (hc:Chg (fun k=>ev.ownBlock=some k) w w2) (hown:OwnR w2 50 4 v' es'.length (zA1 es' vs')) (hnew:∀ k,v'.ownBlock=some k→(ev.ownBlock=some k∨w.heap.size≤k)) (hrl:vs'.length=es'.length)
  (hrows:∀ (i:Nat) e v,es'[i]?=some e→vs'[i]?=some v→zBE w2 e v) (hcv:∀ u ∈ vs',∀ k,(u.1.ownBlock=some k∨u.2.ownBlock=some k)→C' k) (hC:∀ k,C k→C' k) (hC2:∀ k,C' k→(C k∨w.heap.size≤k)∧k < w2.heap.size∧v'.ownBlock≠some k) (ok:({ M with entries:=es' }:JouM).OK) :
  zBF w j r pre Hot C (w2.setCell ⟨j,8,none⟩ v') D { M with entries:=es' }:=by
 have hJ:=h.list hc hown hnew hrl hrows hcv hC hC2 ok
 have hS:Chg (fun k=>k=j∨ev.ownBlock=some k) w (w2.setCell ⟨j,8,none⟩ v'):=(hc.mono fun _ _ e=>.inr e).trans (Chg.setCell w2 ⟨j,8,none⟩ v') fun _ _ e=>.inl e
 refine ⟨fun k=>(O k∨v'.ownBlock=some k)∨own k,C',⟨_,own,gv,dv,v',vs',v0,L,hJ,hR.keep hS.size (fun k hk=>hS.block k (hR.olt k hk) fun e=>?_),fun k hk hk2=>?_,fun k hk hk2=>?_,fun k=>Iff.rfl⟩,hS.mono fun k _ hk=>(hH k).2 (.inl ?_),fun k hk=>?_,fun k hk=>(hC2 k hk).1⟩
 ·rcases e with e | e
  ·exact hO j h.oj (e ▸ hk)
  ·exact hO k (h.oe k e).1 hk
 ·rcases hk with hk | hk
  ·exact hO k hk hk2
  ·rcases hnew k hk with e | e
   ·exact hO k (h.oe k e).1 hk2
   ·have:=hR.olt k hk2
    omega
 ·rcases (hC2 k hk).1 with e | e
  ·exact hCo k e hk2
  ·have:=hR.olt k hk2
   omega
 ·rcases hk with e | e
  ·exact e ▸ h.oj
  ·exact (h.oe k e).1
 ·rcases hk with (hk | hk) | hk
  ·exact .inl ((hH k).2 (.inl hk))
  ·rcases hnew k hk with e | e
   ·exact .inl ((hH k).2 (.inl (h.oe k e).1))
   ·exact .inr e
  ·exact .inl ((hH k).2 (.inr hk))
end
def zBI (S:Nat→Prop) (w:World) (j r:Nat) (pre:ByteArray) (M:JouM):Prop :=
 ∃ O C gv dv ev vs,RJIn w j r pre O C M gv dv ev vs∧∀ k,(O k∨C k)→S k
section
variable {S:Nat→Prop} {w w1 w2:World} {j r:Nat} {pre:ByteArray} {M:JouM}
theorem zBI.below (h:zBI S w1 j r pre M) (hb:Below w1.heap.size w1 w2):zBI S w2 j r pre M:=by
 obtain ⟨O,C,gv,dv,ev,vs,hJ,hn⟩:=h
 exact ⟨O,C,gv,dv,ev,vs,hJ.below hb,hn⟩
theorem zBI.ok (h:zBI S w j r pre M):M.OK:=let ⟨_,_,_,_,_,_,hJ,_⟩:=h;hJ.ok
theorem zBI.lt (h:zBI S w j r pre M):S j∧j < w.heap.size:=let ⟨_,_,_,_,_,_,hJ,hn⟩:=h;⟨hn j (.inl hJ.oj),hJ.olt j hJ.oj⟩
theorem zBI.cells (h:zBI S w j r pre M):∃ gv dv ev,w.heap[j]?=some (RJC r (M.number:Int) M.term gv pre M.now M.vote dv ev M.dead):=let ⟨_,_,gv,dv,ev,_,hJ,_⟩:=h;⟨gv,dv,ev,hJ.cells⟩
theorem zBI.last_calls (h:zBI S w1 j r pre M):Calls Tryz.prog 42 #[.pointer (some ⟨j,0,none⟩)] w1 fun e w'=>e=.returned (.tuple #[.int .i64 (M.last:Int),.int .i64 M.lastT])∧∃ q,w'=w1.drewN q:=by
 have hlast:=h.ok.last
 obtain ⟨O,C,gv,dv,ev,vs,hJ,hn⟩:=h
 have c0:=hJ.c 0 rfl
 have c1:=hJ.c 1 rfl
 have c8:=hJ.c 8 rfl
 obtain ⟨p,c,hev⟩:=hJ.row.shape
 have HL:=zh (show M.last=M.number+M.entries.length from rfl)
 by_cases h0:M.entries.length=0
 ·have he:M.entries=[]:=List.eq_nil_of_length_eq_zero h0
  have HE:=zh (show (M.last:Int)=(M.number:Int)∧M.lastT=M.term from ⟨by rw [HL.out,h0];rfl,by unfold JouM.lastT;rw [he];rfl⟩)
  rw [hev,h0] at c8
  clear hJ hn hev he h0 hlast
  go_enter Tryz.func42,Tryz.ntmps42
  go_wp2_with fail
  go_quiet (fail)
  go_wp2_with fail
  go_ret2
  exact ⟨by rw [HE.out.1,HE.out.2];rfl,_,rfl⟩
 ·have hpos:M.entries.length - 1 < M.entries.length:=by omega
  obtain ⟨g,c',v',hev',hv,-,k0,-,-,-⟩:=hJ.ent (List.getElem?_eq_getElem hpos)
  have hT:M.lastT=M.entries[M.entries.length - 1].term:=by
   unfold JouM.lastT
   rw [List.getLast?_eq_getElem?,List.getElem?_eq_getElem hpos]
  rw [← hT] at k0
  rw [hev'] at c8
  unfold JouM.last at hlast
  clear hJ hn hev hev' hv hpos hT
  generalize M.entries.length=n at *
  generalize M.number=b at *
  generalize M.last=la at *
  generalize M.lastT=lt at *
  have hnp:((n:Int) == 0)=false:=by simp;omega
  have hw1:IntKind.i64.wrap ((b:Int)+(n:Int))=(la:Int):=by rw [IntWalk.i64_in _ (by omega),HL.out];omega
  have hw2:IntKind.i64.wrap ((n:Int) - 1)=((n - 1:Nat):Int):=by rw [IntWalk.i64_in _ (by omega)];omega
  have hlt:n - 1 < n:=by omega
  go_enter Tryz.func42,Tryz.ntmps42
  go_wp2_with fail
  go_quiet (fail)
  go_wp2_with fail
  go_ret2
  exact ⟨rfl,_,rfl⟩
def zCi (S:Nat→Prop) (w1:World) (j r:Nat) (pre:ByteArray) (o:Option JouM) (e:Ending) (w':World):Prop :=
 Chg S w1 w'∧match o with
 | none=>e=.returned (.bool false)
 | some M'=>e=.returned (.bool true)∧zBI (fun k=>S k∨w1.heap.size≤k) w' j r pre M'
theorem zBI.wide {T:Nat→Prop} (h:zBI S w1 j r pre M) (hT:∀ k,S k→T k):zBI T w1 j r pre M:=by
 obtain ⟨O,C,gv,dv,ev,vs,hJ,hn⟩:=h
 exact ⟨O,C,gv,dv,ev,vs,hJ,fun k hk=>hT k (hn k hk)⟩
theorem zBH (h:Below w1.heap.size w1 w2):Chg S w1 w2:=(Chg.of_below h).mono fun _ _ e=>e.elim
theorem zDr {o:Option JouM} (hb:Chg S w1 w2) (ho:o=none):zCi S w1 j r pre o (.returned (.bool false)) w2:=by
 subst ho
 exact ⟨hb,rfl⟩
theorem rds_yes {M':JouM} {o:Option JouM} (hb:Chg S w1 w2) (h:zBI (fun k=>S k∨w1.heap.size≤k) w2 j r pre M') (ho:o=some M'):zCi S w1 j r pre o (.returned (.bool true)) w2:=by
 subst ho
 exact ⟨hb,rfl,h⟩
theorem zAX {B:Nat} (w:World) (q:Nat):Below B w (w.drewN q):=⟨rfl,rfl,rfl,Nat.le_refl _,fun _ _=>rfl⟩
theorem zEL {p:Option Addr} {n c:Nat} {l:Bs} (hx:HasB w (.slice p n c) l) (hcap:n≤c) (hlt:∀ k,(Value.slice p n c).ownBlock=some k→k < w.heap.size) (hl:n≤140737488355328) :
  RdY (fun k=>(Value.slice p n c).ownBlock=some k) (w.alloc (.cells #[.slice p n c,.bool false] 148)) w.heap.size ⟨l,false⟩:=by
 have hn:l.length=n:=by obtain ⟨_,_,e⟩:=hx.slice;simp only [Value.slice.injEq] at e;exact e.2.1.symm
 exact ⟨p,n,c,⟨zAI w _,hx.below (zAD w _),hcap,fun e=>by have:=hlt _ e;omega,by rw [hn];exact hl,fun e=>by cases e⟩,fun k hk=>hk⟩
theorem zDw {A:Nat→Prop} {q:Nat} {k:UInt8} {l:Bs} (h:RdY A w q ⟨k :: l,false⟩) :
  Calls Tryz.prog 163 #[.pointer (some ⟨q,0,none⟩),.int .i64 1] w fun e w'=>∃ g cc,e=.returned (.slice (some ⟨g,0,none⟩) 1 cc)∧w'.cell? ⟨g,0,none⟩=some (.int .u8 (k.toNat:Int))∧(w.heap.size≤g∧g < w'.heap.size)∧RdY A w' q ⟨l,false⟩∧Chg (fun j=>j=q) w w':=by
 refine (zDa h 1 (by decide)).mono ?_
 rintro e w' ⟨v,rfl,hv,hvn,hr,hc⟩
 rw [take_one rfl] at hv hr
 have hlt:=fun x=>OwnR.lt (k:=x) hv
 rcases hv.2 with ⟨-,h0⟩ | ⟨g,cap,cur,rfl,-⟩
 ·simp at h0
 ·have:=OwnR.cells hv (g:=g) rfl 0 (.int .u8 (k.toNat:Int)) rfl
  rw [add_zero] at this
  exact ⟨g,cap,rfl,this,⟨hvn g rfl,hlt g rfl⟩,hr,hc⟩
theorem rds_nil (h:zBI S w1 j r pre M) {p:Option Addr} {c:Nat} (f:Bool) (hx:HasB w1 (.slice p 0 c) []) (hlt:∀ k,(Value.slice p 0 c).ownBlock=some k→k < w1.heap.size) :
  Calls Tryz.prog 89 #[.pointer (some ⟨j,0,none⟩),.slice p 0 c,.bool f] w1 (zCi S w1 j r pre (rec1 f M [])):=by
 have HR0:=zh (zEL (w:=w1) hx (Nat.zero_le _) hlt (by omega))
 have HF:=zh (zDa HR0.out 1 (by decide))
 have HBq:=zh (zAD w1 (.cells #[.slice p 0 c,.bool false] 148))
 clear HR0 h
 rw [raw_nil] at HF
 go_enter Tryz.func89,Tryz.ntmps89
 go_wp2_with fail
 refine HF.out.mono ?_
 rintro e w3 ⟨v,rfl,hv,hvn,hr,hc⟩
 have HB3:=zh (show Below w1.heap.size w1 w3 from HBq.out.trans (hc.below HBq.out.size fun i hi e=>by omega))
 have hb3:w3.cell? ⟨w1.heap.size,1,none⟩=some (.bool true):=hr.c1
 obtain ⟨pv,cv,rfl,-⟩:=zAO hv
 have HE:=zh (zDr (S:=S) (j:=j) (r:=r) (pre:=pre) (o:=rec1 f M []) (zBH HB3.out) rfl)
 clear hv hvn hr hc HF
 go_wp2_with fail
 go_ret
 exact HE.out
theorem rds_else (h:zBI S w1 j r pre M) {p:Option Addr} {n c:Nat} {f:Bool} {k:UInt8} {l:Bs} (hx:HasB w1 (.slice p n c) (k :: l)) (hcap:n≤c) (hl:n≤1073741824) (hlt:∀ k,(Value.slice p n c).ownBlock=some k→k < w1.heap.size) (hk:f≠decide (k=1)∨(k≠1∧k≠2∧k≠3∧k≠4)) :
  Calls Tryz.prog 89 #[.pointer (some ⟨j,0,none⟩),.slice p n c,.bool f] w1 (zCi S w1 j r pre (rec1 f M (k :: l))):=by
 have HR0:=zh (zEL (w:=w1) hx hcap hlt (by omega))
 have HF:=zh (zDw HR0.out)
 have HJ:=zh h
 have HBq:=zh (zAD w1 (.cells #[.slice p n c,.bool false] 148))
 clear HR0
 have hM:rec1 f M (k :: l)=none:=by
  rcases hk with hk | ⟨h1,h2,h3,h4⟩
  ·exact rec1_early hk
  ·exact rec1_other h1 h2 h3 h4
 have HM:=zh hM
 have hkb:k.toNat < 256:=k.toNat_lt
 have heq:∀ z:UInt8,k=z ↔ k.toNat=z.toNat:=fun z=>⟨fun e=>by rw [e],fun e=>UInt8.toNat.inj e⟩
 have hk1:=heq 1
 have hk2:=heq 2
 have hk3:=heq 3
 have hk4:=heq 4
 have e1:(1:UInt8).toNat=1:=rfl
 have e2:(2:UInt8).toNat=2:=rfl
 have e3:(3:UInt8).toNat=3:=rfl
 have e4:(4:UInt8).toNat=4:=rfl
 rw [e1] at hk1
 rw [e2] at hk2
 rw [e3] at hk3
 rw [e4] at hk4
 clear heq e1 e2 e3 e4 hM h hx hl hcap hlt
 go_enter Tryz.func89,Tryz.ntmps89
 go_wp2_with fail
 generalize hWq:w1.alloc (.cells #[.slice p n c,.bool false] 148)=Wq at *
 refine HF.out.mono ?_
 rintro e w3 ⟨g,q,rfl,hg,hgl,hr3,hc3⟩
 have HB3:=zh (show Below w1.heap.size w1 w3 from HBq.out.trans (hc3.below HBq.out.size fun i hi e=>by omega))
 have HJ3:=zh (HJ.out.below HB3.out)
 have HR3:=zh hr3
 have HG3:=zh hgl
 have hb3:=hr3.c1
 have hkc:w3.cell? ⟨g,0,none⟩=some (.int .u8 (k.toNat:Int)):=hg
 clear hr3 hc3 HF hg hgl
 have HE:=zh (zDr (S:=S) (j:=j) (r:=r) (pre:=pre) (o:=rec1 f M (k :: l)) (zBH HB3.out) HM.out)
 have HK:=zh hk
 have HQ:=zh (And.intro hk1 (And.intro hk2 (And.intro hk3 hk4)))
 clear hk hk1 hk2 hk3 hk4
 by_cases h1:k.toNat=1
 ·have hk:k=1:=HQ.out.1.2 h1
  have hf:f=false:=by
   rcases HK.out with h | h
   ·rw [decide_eq_true hk] at h
    simpa using h
   ·exact absurd hk h.1
  subst hf
  rw [h1] at hkc
  clear HK HQ h1 hk hkb
  go_wp2_with fail
  go_ret
  exact HE.out
 ·have hk:¬ k=1:=fun e=>h1 (HQ.out.1.1 e)
  have hf1:decide (k.toNat=1)=false:=decide_eq_false h1
  have hf1i:((k.toNat:Int) == 1)=false:=beq_eq_false_iff_ne.2 (by omega)
  cases f with
  | true =>
   clear HK HQ hk
   go_wp2_with fail
   go_ret
   exact HE.out
  | false =>
   have h9:k≠1∧k≠2∧k≠3∧k≠4:=by
    rcases HK.out with h | h
    ·exact absurd (decide_eq_false hk).symm h
    ·exact h
   have h2:¬ k.toNat=2:=fun e=>h9.2.1 (HQ.out.2.1.2 e)
   have h3:¬ k.toNat=3:=fun e=>h9.2.2.1 (HQ.out.2.2.1.2 e)
   have h4:¬ k.toNat=4:=fun e=>h9.2.2.2 (HQ.out.2.2.2.2 e)
   have q2i:((k.toNat:Int) == 2)=false:=beq_eq_false_iff_ne.2 (by omega)
   have q3i:((k.toNat:Int) == 3)=false:=beq_eq_false_iff_ne.2 (by omega)
   have q4i:((k.toNat:Int) == 4)=false:=beq_eq_false_iff_ne.2 (by omega)
   clear HK HQ hk h9
   go_wp2_with fail
   go_ret
   exact HE.out
end
end Go.Proofs.YtapfnehdgailmaaGreat
