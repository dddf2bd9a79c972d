/- The contract of keep.Save. The contract of keep.Save: the walk. The contract of keep.Load. A ledger (a plain model): what a disk opens as, what Append, Write and Drop leave. The contract of Truncate. The contract of keep.Clear. The contract of keep.Clear: the walk. What keep.Save leaves on a disk with room (plain laws). DiskKeeps: the walk. What keep.Load says of what keep.Save left, behind a crash too; rows that are laid out; a nil disk. A ledger in memory; the contracts of ledger's has, removes, imageName, logName. A ledger of a law's own, its disk, and blocks (F) that neither has. A journal (a plain model): its records, what a disk opens as, what each change leaves. What the records of a journal say when they are read again (plain laws). -/
import Derived.Test.YtapfnehdgailmaaGreatGA
import Derived.Test.YtapfnehdgailmaaGreatGC
import Derived.Test.YtapfnehdgailmaaGreatGD
import Derived.Test.YtapfnehdgailmaaGreatShelf
set_option maxRecDepth 100000
set_option maxHeartbeats 64000000
namespace Go.Sat
open Go.RowKit
theorem HasB.same {w w':World} {v:Value} {l:Bs} (h:HasB w v l) (hs:∀ k,v.ownBlock=some k→w'.heap[k]?=w.heap[k]?):HasB w' v l:=by
 obtain ⟨hl,p,cap,rfl,h0,hc⟩:=h
 refine ⟨hl,p,cap,rfl,h0,fun a ha i u hu=>?_⟩
 have hb:(a.add i).block=a.block:=zCj _ _
 exact (World.cell?_of_block (by rw [hb];exact hs _ (by rw [ha];rfl))).trans (hc a ha i u hu)
theorem HasB.lt {w:World} {v:Value} {l:Bs} (h:HasB w v l) (hne:l≠[]) {k:Nat} (hk:v.ownBlock=some k):k < w.heap.size:=by
 obtain ⟨hl,p,cap,rfl,h0,hc⟩:=h
 cases p with
 | none=>cases hk
 | some a =>
  cases l with
  | nil=>exact absurd rfl hne
  | cons x r =>
   have h1:=hc a rfl 0 (.int .u8 (x.toNat:Int)) (by simp [zAQ])
   have h2:=World.block_lt_of_cell? w _ h1
   rw [zCj] at h2
   cases hk
   exact h2
end Go.Sat
namespace Go.Proofs.YtapfnehdgailmaaGreat
open Go.RowKit Go.Sat Go.Maps
def Fv (F:Nat→Prop) (v:Value) (k:Nat):Prop:=F k∨v.ownBlock=some k
theorem St.less {w w1:World} {d:Nat} {D:zAB} {F F':Nat→Prop} (h:St w w1 d D F') (hF:∀ k,F k→F' k):St w w1 d D F :=
 h.move (S:=fun _=>False) (Chg.refl _ _) (fun _ _ h=>h.elim) fun k hk=>⟨.inl (hF k hk),by obtain ⟨_,_,_,_,hl⟩:=h;exact hl k (hF k hk)⟩
theorem St.flt {w w1:World} {d:Nat} {D:zAB} {F:Nat→Prop} (h:St w w1 d D F) {k:Nat} (hk:F k):k < w1.heap.size:=by
 obtain ⟨_,_,_,_,hl⟩:=h
 exact hl k hk
theorem zCF {w w1 w2:World} {d:Nat} {D:zAB} {F:Nat→Prop} (h:St w w1 d D F) (hb:Below w1.heap.size w1 w2):Same F w1 w2:=fun k hk=>hb.block k (h.flt hk)
theorem Same.trans {F:Nat→Prop} {w1 w2 w3:World} (h:Same F w1 w2) (k:Same F w2 w3):Same F w1 w3:=fun i hi=>(k i hi).trans (h i hi)
theorem zDd {w w1 w2:World} {d:Nat} {F:Nat→Prop} {v:Value} {r:zAB × Nat} {e:Ending} (hs:Same F w1 w2) {w':World} (h:Told w d (Fv F v) w2 r e w'):Told w d F w1 r e w' :=
 ⟨h.1,h.2.1.less fun _ hk=>.inl hk,fun k hk=>(h.2.2 k (.inl hk)).trans (hs k hk)⟩
theorem save1_rem {D D0:zAB} {n b:Bs} {e0:Nat} (h0:D.save0 n=(D0,e0)) (he:e0≠0):D.save1 n b=(D0,e0):=by
 unfold zAB.save1
 simp only [h0]
 rw [if_pos he]
theorem save1_app {D D0 D1:zAB} {n b:Bs} {e1:Nat} (h0:D.save0 n=(D0,0)) (h1:D0.append (zAH n) b=(D1,e1)) (he:e1≠0):D.save1 n b=(D1,e1):=by
 unfold zAB.save1
 simp only [h0,h1]
 rw [if_neg (by simp),if_pos he]
theorem save1_syn {D D0 D1 D2:zAB} {n b:Bs} {e2:Nat} (h0:D.save0 n=(D0,0)) (h1:D0.append (zAH n) b=(D1,0)) (h2:D1.sync [zAH n]=(D2,e2)) (he:e2≠0):D.save1 n b=(D2,e2):=by
 unfold zAB.save1
 simp only [h0,h1,h2]
 rw [if_neg (by simp),if_neg (by simp),if_pos he]
theorem save1_ren {D D0 D1 D2:zAB} {n b:Bs} (h0:D.save0 n=(D0,0)) (h1:D0.append (zAH n) b=(D1,0)) (h2:D1.sync [zAH n]=(D2,0)):D.save1 n b=D2.rename (zAH n) n:=by
 unfold zAB.save1
 simp only [h0,h1,h2]
 rw [if_neg (by simp),if_neg (by simp),if_neg (by simp)]
theorem save_calls {w w1:World} {d:Nat} {D:zAB} {F:Nat→Prop} (h:St w w1 d D F) (s:ByteArray) (hs:s.size≤9223372036854775807) {p:Option Addr} {n c:Nat} {ls:List Bs} (hx:zAw w1 (.slice p n c) ls) (hn:n≤140737488355328) (hl:ls.flatten.length≤1048576) :
  Calls Tryz.prog 135 #[.pointer (some ⟨d,0,none⟩),.string s,.slice p n c] w1 (Told w d F w1 (D.save (nm s) ls.flatten)):=by
 have hsz:(nm s).length=s.size:=nm_len s
 by_cases hnm:(nm s).length < 1∨60 < (nm s).length
 ·have hM:D.save (nm s) ls.flatten=(D,1):=by unfold zAB.save;rw [if_pos hnm]
  rw [hM]
  have Hfin:=zh (show Told w d F w1 (D,1) (.returned (.int .i64 1)) w1 from ⟨rfl,h,fun _ _=>rfl⟩)
  rw [hsz] at hnm
  generalize hzz:s.size=z at *
  clear hM h hx
  have hd1:(decide ((z:Int) < 1) || decide (60 < (z:Int)))=true:=by simp;omega
  by_cases hz:z < 1
  ·have hz0:z=0:=by omega
   subst hz0
   go_enter Tryz.func135,Tryz.ntmps135
   go_wp2_with fail
   go_ret
   exact Hfin.out
  ·have hz6:60 < z:=by omega
   go_enter Tryz.func135,Tryz.ntmps135
   go_wp2_with fail
   go_ret
   exact Hfin.out
 ·have hM:D.save (nm s) ls.flatten=zAB.save1 D (nm s) (zAK ls.flatten):=by unfold zAB.save;rw [if_neg hnm]
  rw [hM]
  have He:=zh (enc_calls hx hn hl)
  have Hst:=zh h
  rw [hsz] at hnm
  have hsh:(s ++ (⟨#[126]⟩:ByteArray)).size=s.size+1:=by simp [ByteArray.size_append];rfl
  generalize hz:s.size=z at *
  have Hl:=zh hl
  clear hM h hx hl
  go_enter Tryz.func135,Tryz.ntmps135
  go_wp2_with fail
  refine He.out.mono ?_
  rintro e w2 ⟨v,rfl,hv,hnew,hb⟩
  have hvl:∀ k,v.ownBlock=some k→k < w2.heap.size:=fun k hk=>hv.lt (by simp [zAK,zBp,zAn]) hk
  have hst2:St w w2 d D (Fv F v):=Hst.out.move (S:=fun _=>False) (Chg.of_below hb) (fun _ _ h=>h.elim) fun k hk=>by
   rcases hk with hk | hk
   ·exact ⟨.inl hk,Nat.lt_of_lt_of_le (Hst.out.flt hk) hb.size⟩
   ·exact ⟨.inr (hnew k hk),hvl k hk⟩
  have hsame2:Same (fun k=>F k) w1 w2:=zCF Hst.out hb
  have Hth:=zh (there_calls hst2 (s ++ (⟨#[126]⟩:ByteArray)) (by rw [hsh];omega))
  rw [zAx] at Hth
  have Hv:=zh hv
  have Hs2:=zh hsame2
  have Hst2:=zh hst2
  clear hv hnew hb hvl hst2 hsame2
  go_wp2_with fail
  refine Hth.out.mono ?_
  rintro e w3 ⟨rfl,hb3,hst3⟩
  obtain ⟨pv,cv,rfl⟩:=Hv.out.slice
  generalize hmv:(zAK ls.flatten).length=mv at *
  have Hst:=zh hst3
  have Hs:=zh (Hs2.out.trans (zCF (Hst2.out.less fun _ hk=>.inl hk) hb3))
  have Hv:=zh (Hv.out.below hb3)
  clear hb3 hst3
  cases hg:Sat.get (zAH (nm s)) D.files with
  | none =>
   have h0:D.save0 (nm s)=(D,0):=by unfold zAB.save0;rw [hg];rfl
   clear Hth
   have hap:=zEy (Hst.out.alloc (.cells #[.slice pv mv cv] 22)) (s ++ (⟨#[126]⟩:ByteArray)) (.slice (some ⟨w3.heap.size,0,none⟩) 1 1) [zAK ls.flatten] (zBy (v:=.slice pv mv cv) Hv.out 22 (0,0) _ 1 rfl (Nat.le_refl _)) (by simp) (by rw [List.flatten_cons,List.flatten_nil,List.append_nil,zAk];have:=Hl.out;omega) (by rw [hsh];omega)
   rw [zAx,List.flatten_cons,List.flatten_nil,List.append_nil] at hap
   have Hsa:=zh (Hs.out.trans (zCF (F:=F) (Hst.out.less fun _ hk=>.inl hk) ((Below.refl w3.heap.size w3).alloc (Nat.le_refl _) (.cells #[.slice pv mv cv] 22))))
   cases h1:zAB.append D (zAH (nm s)) (zAK ls.flatten) with
   | mk D1 e1 =>
    rw [h1] at hap
    have Hap:=zh hap
    by_cases he1:e1=0
    ·subst he1
     clear hap
     go_wp2_with fail
     refine Hap.out.mono ?_
     rintro e w5 ⟨rfl,hst5,hs5⟩
     have hst5:St w w5 d D1 (Fv F (.slice pv mv cv)):=hst5
     have hsy:=st_sync hst5 [s ++ (⟨#[126]⟩:ByteArray)] w5.heap.size 1 rfl (0,0) (by simp) (by simp [hsh];omega)
     rw [show [s ++ (⟨#[126]⟩:ByteArray)].map nm=[zAH (nm s)] from by rw [List.map_cons,zAx,List.map_nil]] at hsy
     have Hsb:=zh (Hsa.out.trans (Same.trans (fun k hk=>hs5 k (.inl hk)) (zCF (F:=F) (hst5.less fun _ hk=>.inl hk) ((Below.refl w5.heap.size w5).alloc (Nat.le_refl _) (.cells #[.string (s ++ (⟨#[126]⟩:ByteArray))] 9)))))
     clear hs5 hst5
     cases h2:zAB.sync D1 [zAH (nm s)] with
     | mk D2 e2 =>
      rw [h2] at hsy
      have Hsy:=zh hsy
      by_cases he2:e2=0
      ·subst he2
       clear hsy
       go_wp2_with fail
       refine Hsy.out.mono ?_
       rintro e w6 ⟨rfl,hst6,hs6⟩
       have hst6:St w w6 d D2 (Fv F (.slice pv mv cv)):=hst6
       have hrn:=st_rename hst6 (s ++ (⟨#[126]⟩:ByteArray)) s (by rw [hsh];omega) (by omega)
       rw [zAx,← save1_ren h0 h1 h2] at hrn
       have Hrn:=zh hrn
       have Hsc:=zh (Hsb.out.trans (fun k hk=>hs6 k (.inl hk)))
       clear hrn hs6 hst6
       go_wp2_with fail
       refine Hrn.out.mono ?_
       intro e w7 hT
       have hE:=zDd Hsc.out hT
       obtain ⟨rfl,-⟩:=hT
       have HE:=zh hE
       clear hE
       go_wp2_with fail
       go_ret
       exact HE.out
      ·have hne:((e2:Int) != 0)=true:=by simp;omega
       clear hsy
       go_wp2_with fail
       refine Hsy.out.mono ?_
       intro e w6 hT
       have hE:Told w d F w1 (D.save1 (nm s) (zAK ls.flatten)) e w6:=by rw [save1_syn h0 h1 h2 he2];exact zDd Hsb.out hT
       obtain ⟨rfl,-⟩:=hT
       have HE:=zh hE
       clear hE
       go_wp2_with fail
       go_ret
       exact HE.out
    ·have hne:((e1:Int) != 0)=true:=by simp;omega
     clear hap
     go_wp2_with fail
     refine Hap.out.mono ?_
     intro e w5 hT
     have hE:Told w d F w1 (D.save1 (nm s) (zAK ls.flatten)) e w5:=by rw [save1_app h0 h1 he1];exact zDd Hsa.out hT
     obtain ⟨rfl,-⟩:=hT
     have HE:=zh hE
     clear hE
     go_wp2_with fail
     go_ret
     exact HE.out
  | some f =>
   have hrm:=st_remove Hst.out [s ++ (⟨#[126]⟩:ByteArray)] w3.heap.size 1 rfl (0,0) (by simp) (by simp [hsh];omega)
   rw [show [s ++ (⟨#[126]⟩:ByteArray)].map nm=[zAH (nm s)] from by rw [List.map_cons,zAx,List.map_nil]] at hrm
   have Hsr:=zh (Hs.out.trans (zCF (Hst.out.less fun _ hk=>.inl hk) ((Below.refl w3.heap.size w3).alloc (Nat.le_refl _) (.cells #[.string (s ++ (⟨#[126]⟩:ByteArray))] 9))))
   cases h0:D.save0 (nm s) with
   | mk D0 e0 =>
    have hz0:zAB.remove D [zAH (nm s)]=(D0,e0):=by rw [← h0];unfold zAB.save0;rw [hg];rfl
    rw [hz0] at hrm
    have Hrm:=zh hrm
    clear hrm
    by_cases he0:e0=0
    ·subst he0
     go_wp2_with fail
     refine Hrm.out.mono ?_
     rintro e w4 ⟨rfl,hst4,hs4⟩
     have Hst4:=zh (show St w w4 d D0 (Fv F (.slice pv mv cv)) from hst4)
     have Hv4:=zh ((Hv.out.below ((Below.refl w3.heap.size w3).alloc (Nat.le_refl _) (.cells #[.string (s ++ (⟨#[126]⟩:ByteArray))] 9))).same fun k hk=>hs4 k (.inr hk))
     have Hs4:=zh (Hsr.out.trans (fun k hk=>hs4 k (.inl hk)))
     clear Hst Hv Hs Hsr hst4 hs4
     have Hst:=Hst4
     have Hv:=Hv4
     have Hs:=Hs4
     clear Hst4 Hv4 Hs4
     have hap:=zEy (Hst.out.alloc (.cells #[.slice pv mv cv] 22)) (s ++ (⟨#[126]⟩:ByteArray)) (.slice (some ⟨w4.heap.size,0,none⟩) 1 1) [zAK ls.flatten] (zBy (v:=.slice pv mv cv) Hv.out 22 (0,0) _ 1 rfl (Nat.le_refl _)) (by simp) (by rw [List.flatten_cons,List.flatten_nil,List.append_nil,zAk];have:=Hl.out;omega) (by rw [hsh];omega)
     rw [zAx,List.flatten_cons,List.flatten_nil,List.append_nil] at hap
     have Hsa:=zh (Hs.out.trans (zCF (F:=F) (Hst.out.less fun _ hk=>.inl hk) ((Below.refl w4.heap.size w4).alloc (Nat.le_refl _) (.cells #[.slice pv mv cv] 22))))
     cases h1:zAB.append D0 (zAH (nm s)) (zAK ls.flatten) with
     | mk D1 e1 =>
      rw [h1] at hap
      have Hap:=zh hap
      by_cases he1:e1=0
      ·subst he1
       clear hap
       go_wp2_with fail
       refine Hap.out.mono ?_
       rintro e w5 ⟨rfl,hst5,hs5⟩
       have hst5:St w w5 d D1 (Fv F (.slice pv mv cv)):=hst5
       have hsy:=st_sync hst5 [s ++ (⟨#[126]⟩:ByteArray)] w5.heap.size 1 rfl (0,0) (by simp) (by simp [hsh];omega)
       rw [show [s ++ (⟨#[126]⟩:ByteArray)].map nm=[zAH (nm s)] from by rw [List.map_cons,zAx,List.map_nil]] at hsy
       have Hsb:=zh (Hsa.out.trans (Same.trans (fun k hk=>hs5 k (.inl hk)) (zCF (F:=F) (hst5.less fun _ hk=>.inl hk) ((Below.refl w5.heap.size w5).alloc (Nat.le_refl _) (.cells #[.string (s ++ (⟨#[126]⟩:ByteArray))] 9)))))
       clear hs5 hst5
       cases h2:zAB.sync D1 [zAH (nm s)] with
       | mk D2 e2 =>
        rw [h2] at hsy
        have Hsy:=zh hsy
        by_cases he2:e2=0
        ·subst he2
         clear hsy
         go_wp2_with fail
         refine Hsy.out.mono ?_
         rintro e w6 ⟨rfl,hst6,hs6⟩
         have hst6:St w w6 d D2 (Fv F (.slice pv mv cv)):=hst6
         have hrn:=st_rename hst6 (s ++ (⟨#[126]⟩:ByteArray)) s (by rw [hsh];omega) (by omega)
         rw [zAx,← save1_ren h0 h1 h2] at hrn
         have Hrn:=zh hrn
         have Hsc:=zh (Hsb.out.trans (fun k hk=>hs6 k (.inl hk)))
         clear hrn hs6 hst6
         go_wp2_with fail
         refine Hrn.out.mono ?_
         intro e w7 hT
         have hE:=zDd Hsc.out hT
         obtain ⟨rfl,-⟩:=hT
         have HE:=zh hE
         clear hE
         go_wp2_with fail
         go_ret
         exact HE.out
        ·have hne:((e2:Int) != 0)=true:=by simp;omega
         clear hsy
         go_wp2_with fail
         refine Hsy.out.mono ?_
         intro e w6 hT
         have hE:Told w d F w1 (D.save1 (nm s) (zAK ls.flatten)) e w6:=by rw [save1_syn h0 h1 h2 he2];exact zDd Hsb.out hT
         obtain ⟨rfl,-⟩:=hT
         have HE:=zh hE
         clear hE
         go_wp2_with fail
         go_ret
         exact HE.out
      ·have hne:((e1:Int) != 0)=true:=by simp;omega
       clear hap
       go_wp2_with fail
       refine Hap.out.mono ?_
       intro e w5 hT
       have hE:Told w d F w1 (D.save1 (nm s) (zAK ls.flatten)) e w5:=by rw [save1_app h0 h1 he1];exact zDd Hsa.out hT
       obtain ⟨rfl,-⟩:=hT
       have HE:=zh hE
       clear hE
       go_wp2_with fail
       go_ret
       exact HE.out
    ·have hne:((e0:Int) != 0)=true:=by simp;omega
     go_wp2_with fail
     refine Hrm.out.mono ?_
     intro e w4 hT
     have hE:Told w d F w1 (D.save1 (nm s) (zAK ls.flatten)) e w4:=by rw [save1_rem h0 he0];exact zDd Hsr.out hT
     obtain ⟨rfl,-⟩:=hT
     have HE:=zh hE
     clear hE
     go_wp2_with fail
     go_ret
     exact HE.out
theorem zD2 {D:zAB} (h:D.OK) (n:Bs):(zCW (Sat.get n D.files)).length≤1073741824:=by
 cases hg:Sat.get n D.files with
 | none=>simp [zCW]
 | some f =>
  have h1:zAB.size f≤D.used:=le_sum h.srt hg
  have h2:=h.used
  have h3:=h.room
  show f.data.length≤_
  unfold zAB.size at h1
  omega
def loadE (o:Option zAV):Nat:=if o.isSome then (if oneE (zCW o)=0 then 0 else 3) else 7
def zDT (o:Option zAV):Bs:=if o.isSome then oneB (zCW o) else []
theorem zD8:loadE none=7:=by unfold loadE;exact if_neg (by decide)
theorem loadB_none:zDT none=[]:=by unfold zDT;exact if_neg (by decide)
theorem loadE_some (f:zAV):loadE (some f)=if oneE (zCW (some f))=0 then 0 else 3:=by unfold loadE;exact if_pos (by rfl)
theorem zD7 (f:zAV):zDT (some f)=oneB (zCW (some f)):=by unfold zDT;exact if_pos (by rfl)
def GotL (w:World) (d:Nat) (D:zAB) (F:Nat→Prop) (w1:World) (o:Option zAV) (e:Ending) (w':World):Prop :=
 ∃ v,e=.returned (.tuple #[v,.int .i64 (loadE o:Int)])∧OwnB w' 5 v (zDT o)∧(∀ k,v.ownBlock=some k→w1.heap.size≤k)∧Below w1.heap.size w1 w'∧St w w' d D F
theorem zDA {w:World} {e:TypeId} {v:Value} {l:Bs} (h:OwnB w e v l):∃ p c,v=.slice p l.length c∧l.length≤c:=by
 rcases h.2 with ⟨rfl,hn⟩ | ⟨g,cap,cur,rfl,_,hnc,_⟩
 ·exact ⟨none,0,by rw [hn],by omega⟩
 ·exact ⟨_,cap,rfl,hnc⟩
theorem load_calls {w w1:World} {d:Nat} {D:zAB} {F:Nat→Prop} (h:St w w1 d D F) (s:ByteArray) (hs:s.size≤9223372036854775807) :
  Calls Tryz.prog 148 #[.pointer (some ⟨d,0,none⟩),.string s] w1 (GotL w d D F w1 (Sat.get (nm s) D.files)):=by
 have hln:=zD2 h.ok (nm s)
 have H:=zh (st_read h s hs)
 clear h
 cases hg:Sat.get (nm s) D.files with
 | none =>
  rw [hg] at H
  clear hln
  go_enter Tryz.func148,Tryz.ntmps148
  go_wp2_with fail
  refine H.out.mono ?_
  rintro e w2 ⟨v,rfl,-,-,hb,hst⟩
  have Hf:=zh (show GotL w d D F w1 none (.returned (.tuple #[.slice none 0 0,.int .i64 7])) w2 from ⟨.slice none 0 0,by rw [zD8];rfl,by rw [loadB_none];exact OwnR.nil _ _ _,fun k hk=>(by cases hk),hb,hst⟩)
  clear hb hst
  go_wp2_with fail
  go_ret2
  exact Hf.out
 | some f =>
  rw [hg] at H hln
  go_enter Tryz.func148,Tryz.ntmps148
  go_wp2_with fail
  refine H.out.mono ?_
  rintro e w2 ⟨v,rfl,hv,-,hb,hst⟩
  obtain ⟨p,c,rfl,hnc⟩:=zDA hv
  have H1:=zh (one_calls hv.has hnc (by omega))
  have Hst:=zh hst
  have Hb:=zh hb
  have hE:=loadE_some f
  have hB:=zD7 f
  generalize zCW (some f)=b at *
  generalize hN:b.length=N at *
  clear hv hst hb hnc hln
  go_wp2_with fail
  refine H1.out.mono ?_
  rintro e w3 ⟨v,rfl,hv,hn,hb3⟩
  have hb4:=Hb.out.trans (hb3.mono Hb.out.size)
  have hst3:=Hst.out.next hb3
  by_cases he:oneE b=0
  ·have Hf:=zh (show GotL w d D F w1 (some f) (.returned (.tuple #[v,.int .i64 0])) w3 from ⟨v,by rw [hE,if_pos he];rfl,by rw [hB];exact hv,fun k hk=>Nat.le_trans Hb.out.size (hn k hk),hb4,hst3⟩)
   rw [he]
   clear hv hn hb3 hb4 hst3
   go_wp2_with fail
   go_ret2
   exact Hf.out
  ·have Hf:=zh (show GotL w d D F w1 (some f) (.returned (.tuple #[.slice none 0 0,.int .i64 3])) w3 from ⟨.slice none 0 0,by rw [hE,if_neg he];rfl,by rw [hB];unfold oneB;rw [if_neg he];exact OwnR.nil _ _ _,fun k hk=>(by cases hk),hb4,hst3⟩)
   have hne:((oneE b:Int) != 0)=true:=by simp;omega
   generalize oneE b=E at *
   clear hv hn hb3 hb4 hst3
   go_wp2_with fail
   go_ret2
   exact Hf.out
structure LedM where
 base:Nat
 data:Bs
 entries:List Bs
 dead:Bool
namespace LedM
def none0:LedM:=⟨0,[],[],false⟩
def last (M:LedM):Nat:=M.base+M.entries.length
def die (M:LedM):LedM:={ M with dead:=true }
end LedM
def logX:Bs:=[45,108,111,103]
def logN (p:Bs):Bs:=p ++ logX
namespace zAB
def rid1 (D:zAB) (n:Bs):zAB × Nat:=if (get n D.files).isSome then D.remove [n] else (D,0)
def rid (D:zAB):List Bs→zAB × Nat
 | []=>(D,0)
 | n :: r=>if (rid1 D n).2=0 then rid (rid1 D n).1 r else rid1 D n
end zAB
def zA0 (D:zAB) (n:Bs) (k len:Nat):zAB × Nat :=
 if k < len then (if (D.truncate n (k:Int)).2≠0 then D.truncate n (k:Int) else (D.truncate n (k:Int)).1.sync [n]) else (D,0)
def zEn (D:zAB) (n b:Bs):zAB × Nat:=if (D.append n b).2≠0 then D.append n b else (D.append n b).1.sync [n]
end Go.Proofs.YtapfnehdgailmaaGreat
namespace Go.Sat
open Go.RowKit
theorem own_cut {w:World} {e:TypeId} {p:Option Addr} {n c:Nat} {l:Bs} (h:OwnB w e (.slice p n c) l) {y:Nat} (hy:y≤l.length):OwnB w e (.slice p y y) (l.take y):=by
 have hl:(l.take y).length=y:=by rw [List.length_take];omega
 unfold OwnB
 rw [hl]
 refine ⟨by rw [zD0,hl];omega,?_⟩
 rcases h.2 with ⟨e1,hn⟩ | ⟨g,cap,cur,e1,hg,hnc,hcm,hcs,ht⟩
 ·cases e1
  have hy0:y=0:=by omega
  subst hy0
  exact .inl ⟨rfl,rfl⟩
 ·cases e1
  refine .inr ⟨g,y,cur,rfl,hg,Nat.le_refl _,by omega,by omega,?_⟩
  rw [bytesV_take,← ht,List.take_take]
  congr 1
  omega
end Go.Sat
namespace Go.Proofs.YtapfnehdgailmaaGreat
open Go.RowKit Go.Sat Go.Maps
theorem ok_trunc {D:zAB} (h:D.OK) {n:Bs} {f:zAV} (hg:Sat.get n D.files=some f) (k:Nat):zAB.OK { D with files:=put n ⟨f.data.take k,min f.lasts k⟩ D.files } where
 srt:=zB1 h.srt
 room:=h.room
 used:=by
  show zBN zAB.size (put n _ D.files)≤D.room
  rw [sum_put]
  have h1:D.used=zAB.size f+zBN zAB.size (del n D.files):=zCt h.srt hg
  have:=h.used
  simp only [zAB.size,List.length_take] at h1 ⊢
  omega
 count:=by
  show (put n _ D.files).length≤4096
  rw [len_put]
  have:=len_del h.srt hg
  have:=h.count
  omega
 names p hp:=by
  rcases zBR.1 hp with rfl | ⟨hp,_⟩
  ·exact (h.names (n,f) (zBh hg):okN n=true)
  ·exact h.names p hp
 lasts p hp:=by
  rcases zBR.1 hp with rfl | ⟨hp,_⟩
  ·have h1:f.lasts≤f.data.length:=h.lasts (n,f) (zBh hg)
   show min f.lasts k≤(f.data.take k).length
   rw [List.length_take]
   omega
  ·exact h.lasts p hp
 fuse:=h.fuse
section
variable {w:World} {d m:Nat} {left:Int} {L:List (Bs × FRep)} {own:Own} {D:zAB}
theorem trunc_bad (h:zAZ w d m left L own D) (o:ByteArray) (hso:o.size≤9223372036854775807) (z:Int) (hm:D.may [nm o]≠0) :
  Calls Tryz.prog 156 #[.pointer (some ⟨d,0,none⟩),.string o,.int .i64 z] w (zCg w d own (D,D.may [nm o])):=by
 have h1:=h.chg (Chg.alloc w (.cells #[.string o] 9)) (fun k hk=>hk.elim)
 have hc:=zBL h1 _ [o] 1 (zBB w o) (by simp) (by simpa using hso)
 simp only [List.map_cons,List.map_nil] at hc
 have Hfin:=zh (show zCg w d own (D,D.may [nm o]) (.returned (.int .i64 (D.may [nm o]:Int))) (w.alloc (.cells #[.string o] 9)) from
  ⟨own,rfl,⟨m,left,L,h1⟩,(Chg.alloc w _).mono fun _ _ h=>h.elim,zCb _ _⟩)
 generalize D.may [nm o]=e0 at *
 have hne:((e0:Int) != 0)=true:=by simp;omega
 have Hc:=zh hc
 clear h hc h1
 go_enter Tryz.func156,Tryz.ntmps156
 go_wp2_with fail
 refine Hc.out.mono ?_
 rintro e w' ⟨rfl,rfl⟩
 go_wp2_with fail
 go_ret
 exact Hfin.out
theorem trunc_none (h:zAZ w d m left L own D) (o:ByteArray) (hso:o.size≤9223372036854775807) (z:Int) (hm:D.may [nm o]=0) (hg:Sat.get (nm o) L=none) :
  Calls Tryz.prog 156 #[.pointer (some ⟨d,0,none⟩),.string o,.int .i64 z] w (zCg w d own (D,7)):=by
 have h1:=h.chg (Chg.alloc w (.cells #[.string o] 9)) (fun k hk=>hk.elim)
 have hc:=zBL h1 _ [o] 1 (zBB w o) (by simp) (by simpa using hso)
 simp only [List.map_cons,List.map_nil,hm] at hc
 have hlook:=zBS _ zBr Tryz.underlying9 Tryz.underlying113 (zBW _) FRep.fb h1.map hso hg
 have hc1:=h1.c1
 have Hfin:=zh (show zCg w d own (D,7) (.returned (.int .i64 (7:Int))) (w.alloc (.cells #[.string o] 9)) from
  ⟨own,rfl,⟨m,left,L,h1⟩,(Chg.alloc w _).mono fun _ _ h=>h.elim,zCb _ _⟩)
 have Hc:=zh hc
 have Hlook:=zh hlook
 have Hc1:=zh hc1
 clear h hc h1 hlook hc1
 generalize hw0:w.alloc (.cells #[.string o] 9)=w0 at *
 go_enter Tryz.func156,Tryz.ntmps156
 go_wp2_with fail
 have hlook:=Hlook.out
 have hc1:=Hc1.out
 refine Hc.out.mono ?_
 rintro e w' ⟨rfl,rfl⟩
 clear hw0
 go_wp2_with fail
 go_ret
 exact Hfin.out
theorem trunc_some (h:zAZ w d m left L own D) (o:ByteArray) (hso:o.size≤9223372036854775807) (z:Int) (hz:-9223372036854775808≤z) (hz':z≤9223372036854775807) (hm:D.may [nm o]=0) {r:FRep} (hg:Sat.get (nm o) L=some r) :
  Calls Tryz.prog 156 #[.pointer (some ⟨d,0,none⟩),.string o,.int .i64 z] w (zCg w d own (if z < 0∨(r.f.data.length:Int) < z then (D,1) else (zAB.done { D with files:=put (nm o) ⟨r.f.data.take z.toNat,min r.f.lasts z.toNat⟩ D.files },0))):=by
 have h1:=h.chg (Chg.alloc w (.cells #[.string o] 9)) (fun k hk=>hk.elim)
 have hc:=zBL h1 _ [o] 1 (zBB w o) (by simp) (by simpa using hso)
 simp only [List.map_cons,List.map_nil,hm] at hc
 have hlook:=zBe _ zBr Tryz.underlying9 Tryz.underlying113 (zBW _) FRep.fb h1.map hso hg
 have hc1:=h1.c1
 have hkey:=WideMaps.keyOf_string_mk Tryz.underlying9 hso
 have hzf:=zC0 hm
 have hgD:Sat.get (nm o) D.files=some r.f:=by rw [h.get,hg];rfl
 have hr:=h1.fileAt hg
 have hlm:r.f.data.length≤1073741824:=by
  have h5:zAB.size r.f≤D.used:=le_sum h.ok.srt hgD
  have h6:=h.ok.used
  have h7:=h.ok.room
  unfold zAB.size at h5
  omega
 obtain ⟨pv,cv,ev,hmc⟩:∃ p c,r.v=.slice p r.f.data.length c∧r.f.data.length≤c:=by
  rcases hr.row.2 with ⟨e,hn⟩ | ⟨g,cap,cur,e,_,hnc,_⟩
  ·exact ⟨none,0,by rw [e,hn],by omega⟩
  ·exact ⟨_,cap,e,hnc⟩
 have hcA:=zAA (i:=0) hr.cells rfl
 have hcB:=zAA (i:=1) hr.cells rfl
 have hfA:=zAF hr.cells 0
 have hfB:=zAF hr.cells 1
 rw [ev] at hcA
 by_cases hb:z < 0∨(r.f.data.length:Int) < z
 ·rw [if_pos hb]
  have Hfin:=zh (show zCg w d own (D,1) (.returned (.int .i64 ((1:Nat):Int))) (w.alloc (.cells #[.string o] 9)) from
   ⟨own,rfl,⟨m,left,L,h1⟩,(Chg.alloc w _).mono fun _ _ h=>h.elim,zCb _ _⟩)
  have Hc:=zh hc
  generalize r.f.data.length=M at *
  clear h h1 hc hm hzf hg hgD hr hfA hfB ev
  generalize hw0:w.alloc (.cells #[.string o] 9)=w0 at *
  by_cases hz0:z < 0
  ·go_enter Tryz.func156,Tryz.ntmps156
   go_wp2_with fail
   refine Hc.out.mono ?_
   rintro e w' ⟨rfl,rfl⟩
   clear hw0
   go_wp2_with fail
   go_ret
   exact Hfin.out
  ·obtain ⟨y,rfl⟩:∃ y:Nat,z=(y:Int):=⟨z.toNat,by omega⟩
   have hMy:M < y:=by omega
   go_enter Tryz.func156,Tryz.ntmps156
   go_wp2_with fail
   refine Hc.out.mono ?_
   rintro e w' ⟨rfl,rfl⟩
   clear hw0
   go_wp2_with fail
   go_ret
   exact Hfin.out
 ·rw [if_neg hb]
  obtain ⟨y,rfl⟩:∃ y:Nat,z=(y:Int):=⟨z.toNat,by omega⟩
  rw [Int.toNat_natCast]
  have hyM:y≤r.f.data.length:=by omega
  have hrow:OwnB (w.alloc (.cells #[.string o] 9)) 5 (.slice pv y y) (r.f.data.take y):=Go.Sat.own_cut (by rw [← ev];exact hr.row) hyM
  have hof:own r.fb=some (2,nm o):=hr.ob
  have hog:∀ g,(Value.slice pv y y).ownBlock=some g→own g=some (3,nm o):=fun g hgk=>hr.og g (by rw [ev,zC4 pv _ _ y y];exact hgk)
  have hv2:OwnB (((w.alloc (.cells #[.string o] 9)).setCell ⟨r.fb,0,none⟩ (.slice pv y y)).setCell ⟨r.fb,1,none⟩ (.int .i64 ((min r.f.lasts y:Nat):Int))) 5 (.slice pv y y) (r.f.data.take y):=OwnB.keep hrow fun k hk=>by
   have hne:k≠r.fb:=fun e=>by
    have h1:=hog k hk
    rw [e,hof] at h1
    simp at h1
   exact (set_other _ hne).trans (set_other _ hne)
  obtain ⟨own',h4,hx⟩:=h1.upd hg (f':=⟨r.f.data.take y,min r.f.lasts y⟩) (v':=.slice pv y y) (w':=((w.alloc (.cells #[.string o] 9)).setCell ⟨r.fb,0,none⟩ (.slice pv y y)).setCell ⟨r.fb,1,none⟩ (.int .i64 ((min r.f.lasts y:Nat):Int)))
   (by simp [World.setCell]) (fun k _ hne _=>(set_other _ hne).trans (set_other _ hne)) (zAE (zAE hr.cells 0 _) 1 _) hv2
   (fun g hgk=>.inl (by rw [ev,zC4 pv _ _ y y];exact hgk)) (ok_trunc h.ok hgD y)
  have hchg:Chg (Has own) w (((w.alloc (.cells #[.string o] 9)).setCell ⟨r.fb,0,none⟩ (.slice pv y y)).setCell ⟨r.fb,1,none⟩ (.int .i64 ((min r.f.lasts y:Nat):Int))):=by
   have ho:Has own r.fb:=by unfold Has;rw [hof];simp
   refine (((Chg.alloc w _).mono (T:=Has own) fun _ _ h=>h.elim).trans (Chg.setCell _ ⟨r.fb,0,none⟩ _) fun k _ e=>?_).trans (Chg.setCell _ ⟨r.fb,1,none⟩ _) fun k _ e=>?_
   ·rw [show k=r.fb from e];exact ho
   ·rw [show k=r.fb from e];exact ho
  have hdone:=zCf h4 hzf.1
  have Hdone:=zh hdone
  have Hchg:=zh hchg
  have Hx:=zh hx
  have Hsz:=zh (Chg.alloc w (.cells #[.string o] 9)).size
  have Hod:=zh (has_d h1)
  have Hc:=zh hc
  obtain ⟨i0,hi,_⟩:=info_parts (show (Tryz.prog.info? 5).map (fun i=>(i.zero,i.size,i.bytes))=some (some (.int .u8 0),1,1) by kernel_rfl)
  have hsl:∀ W,(Instr.slice 22 (.slice pv r.f.data.length cv) none (some (.int .i64 (y:Int))) (some (.int .i64 (y:Int)))).run Tryz.prog W=.ok (.slice pv y y) W:=fun W=>run_cut W Tryz.underlying22 hi pv _ cv y (by omega)
  have hmin:min (r.f.lasts:Int) (y:Int)=((min r.f.lasts y:Nat):Int):=by omega
  generalize hMM:r.f.data.length=M at *
  generalize r.f.lasts=la at *
  clear h h1 hc hm hzf hg hgD hr ev hrow hof hog hv2 h4 hx hchg hdone hMM
  generalize hw0:w.alloc (.cells #[.string o] 9)=w0 at *
  go_enter Tryz.func156,Tryz.ntmps156
  go_wp2_with fail
  refine Hc.out.mono ?_
  rintro e w' ⟨rfl,rfl⟩
  clear hw0
  go_wp2_with fail
  refine Hdone.out.mono ?_
  rintro e w5 ⟨rfl,hd5,hc5⟩
  go_wp2_with fail
  go_ret
  exact ⟨own',rfl,hd5,Hchg.out.trans hc5 fun i _ e=>by rw [e];exact Hod.out,fun k hk=>Hx.out k (Nat.lt_of_lt_of_le hk Hsz.out)⟩
theorem trunc_calls (h:zB4 w d D own) (o:ByteArray) (hso:o.size≤9223372036854775807) (z:Int) (hz:-9223372036854775808≤z) (hz':z≤9223372036854775807) :
  Calls Tryz.prog 156 #[.pointer (some ⟨d,0,none⟩),.string o,.int .i64 z] w (zCg w d own (D.truncate (nm o) z)):=by
 obtain ⟨m,left,L,h⟩:=h
 unfold zAB.truncate
 by_cases hm:D.may [nm o]=0
 ·rw [if_neg (by simpa using hm),h.get]
  cases hg:Sat.get (nm o) L with
  | none=>exact trunc_none h o hso z hm hg
  | some r=>exact trunc_some h o hso z hz hz' hm hg
 ·rw [if_pos (by simpa using hm)]
  exact trunc_bad h o hso z hm
end
theorem st_trunc {w w1:World} {d:Nat} {D:zAB} {F:Nat→Prop} (h:St w w1 d D F) (s:ByteArray) (hss:s.size≤9223372036854775807) (z:Int) (hz:-9223372036854775808≤z) (hz':z≤9223372036854775807) :
  Calls Tryz.prog 156 #[.pointer (some ⟨d,0,none⟩),.string s,.int .i64 z] w1 (Told w d F w1 (D.truncate (nm s) z)):=by
 obtain ⟨own,hd,hb,hnn,hF⟩:=h
 refine (trunc_calls hd s hss z hz hz').mono ?_
 rintro e w' ⟨own',rfl,hd',hc,hx⟩
 exact ⟨rfl,St.step hb hnn hF hd' hc hx⟩
end Go.Proofs.YtapfnehdgailmaaGreat
namespace Go.Sat
open Go.RowKit
def skipN (pre:Bs) (stay:List Bs) (n:Bs):Bool:=!(pre.isPrefixOf n) || stay.contains n
end Go.Sat
namespace Go.Proofs.YtapfnehdgailmaaGreat
open Go.RowKit Go.Sat Go.Maps
namespace zAB
def clearL (pre:Bs) (stay:List Bs) (D:zAB):List Bs→zAB × Nat
 | []=>(D,0)
 | n :: r=>if skipN pre stay n then clearL pre stay D r else if (D.remove [n]).2=0 then clearL pre stay (D.remove [n]).1 r else D.remove [n]
def clear (D:zAB) (pre:Bs) (stay:List Bs):zAB × Nat:=clearL pre stay D (namesOf D)
end zAB
theorem enc_str (x:Bs):encStr x=.string ⟨x.toArray⟩:=rfl
theorem HasN.same {w w':World} {v:Value} {l:List Bs} (h:HasN w v l) (hs:∀ k,v.ownBlock=some k→w'.heap[k]?=w.heap[k]?):HasN w' v l:=by
 obtain ⟨hl,p,cap,rfl,h0,hc⟩:=h
 refine ⟨hl,p,cap,rfl,h0,fun a ha i u hu=>?_⟩
 have hb:(a.add i).block=a.block:=zCj _ _
 exact (World.cell?_of_block (by rw [hb];exact hs _ (by rw [ha];rfl))).trans (hc a ha i u hu)
end Go.Proofs.YtapfnehdgailmaaGreat
namespace Go.Sat
theorem del_put {α:Type} {L:List (Bs × α)} (h:Srt L) (n:Bs) (a:α):del n (put n a L)=del n L:=by
 refine srt_ext (zCG (zB1 h)) (zCG h) fun m=>?_
 by_cases e:m=n
 ·subst e
  rw [zDn,zDn]
 ·rw [zDO (zB1 h) e,zDP h a e,zDO h e]
theorem put_put {α:Type} {L:List (Bs × α)} (h:Srt L) (n:Bs) (a b:α):put n b (put n a L)=put n b L:=by
 show ins (n,b) (del n (put n a L))=ins (n,b) (del n L)
 rw [del_put h]
end Go.Sat
namespace Go.Proofs.YtapfnehdgailmaaGreat
open Go.RowKit Go.Sat Go.Maps
theorem zDD (n:Bs):(zAH n).length=n.length+1:=by simp [zAH]
def offF (f:Option Nat) (k:Nat):Option Nat:=f.map (· - k)
section
variable {D:zAB} {n l:Bs}
theorem save_app (_h:D.OK) (hf:D.fuse≠some 0) (hn1:1≤n.length) (hn:n.length≤60) (hsh:Sat.get (zAH n) D.files=none) (hroom:D.used+l.length+12≤D.room) (hc:D.files.length < 4096) :
  D.append (zAH n) (zAK l)=(⟨D.room,put (zAH n) ⟨zAK l,0⟩ D.files,offF D.fuse 1⟩,0):=by
 have hm:D.may [zAH n]=0:=by
  unfold zAB.may
  rw [if_neg hf,if_pos]
  simp only [List.all_cons,List.all_nil,Bool.and_true,okN,zDD]
  simp;omega
 have hfu:D.full (zAH n) (zAK l)=false:=by
  unfold zAB.full
  rw [zAk,hsh]
  simp;omega
 unfold zAB.append
 rw [if_neg (by rw [hm];simp),if_neg (by rw [hfu];simp)]
 have hcur:D.cur (zAH n)=⟨[],0⟩:=by unfold zAB.cur;rw [hsh];rfl
 rw [hcur]
 rfl
theorem save_syn {room:Nat} {L:List (Bs × zAV)} {f:Option Nat} (h:Srt L) (hf:f≠some 0) (hn1:1≤n.length) (hn:n.length≤60) :
  zAB.sync ⟨room,put (zAH n) ⟨zAK l,0⟩ L,f⟩ [zAH n]=(⟨room,put (zAH n) ⟨zAK l,(zAK l).length⟩ L,offF f 1⟩,0):=by
 have hm:zAB.may ⟨room,put (zAH n) ⟨zAK l,0⟩ L,f⟩ [zAH n]=0:=by
  unfold zAB.may
  rw [if_neg hf,if_pos]
  simp only [List.all_cons,List.all_nil,Bool.and_true,okN,zDD]
  simp;omega
 have h1:zAB.each1 zAB.gSync ⟨room,put (zAH n) ⟨zAK l,0⟩ L,f⟩ (zAH n)=(⟨room,put (zAH n) ⟨zAK l,(zAK l).length⟩ L,offF f 1⟩,0):=by
  unfold zAB.each1
  rw [if_neg (by rw [hm];simp)]
  have hg:Sat.get (zAH n) (zAB.files ⟨room,put (zAH n) ⟨zAK l,0⟩ L,f⟩)=some ⟨zAK l,0⟩:=zCO h _ _
  rw [hg]
  show ((⟨room,put _ _ (put _ _ L),_⟩:zAB),0)=_
  rw [put_put h]
  rfl
 show (if (zAB.each1 _ _ _).2=0 then _ else _)=_
 rw [h1,if_pos rfl]
 rfl
theorem save_ren {room:Nat} {L:List (Bs × zAV)} {f:Option Nat} {g:zAV} (h:Srt L) (hf:f≠some 0) (hn1:1≤n.length) (hn:n.length≤60) (hsh:Sat.get (zAH n) L=none) :
  zAB.rename ⟨room,put (zAH n) g L,f⟩ (zAH n) n=(⟨room,put n g L,offF f 1⟩,0):=by
 have hm:zAB.may ⟨room,put (zAH n) g L,f⟩ [zAH n,n]=0:=by
  unfold zAB.may
  rw [if_neg hf,if_pos]
  simp only [List.all_cons,List.all_nil,Bool.and_true,okN,zDD]
  simp;omega
 unfold zAB.rename
 rw [if_neg (by rw [hm];simp)]
 have hg:Sat.get (zAH n) (zAB.files ⟨room,put (zAH n) g L,f⟩)=some g:=zCO h _ _
 rw [hg]
 show ((⟨room,put n g (del (zAH n) (put (zAH n) g L)),_⟩:zAB),0)=_
 rw [del_put h,zCa hsh]
 rfl
theorem off_ne {f:Option Nat} {k:Nat} (hf:∀ j,f=some j→k < j):offF f k≠some 0:=by
 cases f with
 | none=>intro h;cases h
 | some j =>
  have:=hf j rfl
  intro h
  have:=Option.some.inj (show some (j - k)=some 0 from h)
  omega
theorem off_off (f:Option Nat) (a b:Nat):offF (offF f a) b=offF f (a+b):=by
 cases f with
 | none=>rfl
 | some j=>exact congrArg some (Nat.sub_sub _ _ _)
theorem save_room (hn1:1≤n.length) (hn:n.length≤60):D.save n l=D.save1 n (zAK l):=by
 unfold zAB.save
 rw [if_neg (by omega)]
theorem save_all (h:D.OK) (hf:∀ j,D.fuse=some j→3≤j) (hn1:1≤n.length) (hn:n.length≤60) (hsh:Sat.get (zAH n) D.files=none) (hroom:D.used+l.length+12≤D.room) (hc:D.files.length < 4096) :
  D.save n l=(⟨D.room,put n ⟨zAK l,(zAK l).length⟩ D.files,offF D.fuse 3⟩,0):=by
 have h0:D.save0 n=(D,0):=by unfold zAB.save0;rw [hsh];rfl
 have hz:D.fuse≠some 0:=fun e=>by have:=hf 0 e;omega
 rw [save_room hn1 hn,save1_ren h0 (save_app h hz hn1 hn hsh hroom hc) (save_syn h.srt (off_ne fun j e=>by have:=hf j e;omega) hn1 hn),off_off,
  save_ren h.srt (off_ne fun j e=>by have:=hf j e;omega) hn1 hn hsh,off_off]
end
theorem zAz (w:World) (e:TypeId):OwnR (w.alloc (.cells #[] e)) e 1 (.slice (some ⟨w.heap.size,0,none⟩) 0 0) 0 [] :=
 ⟨rfl,.inr ⟨_,0,#[],rfl,zAI w _,Nat.le_refl _,Nat.zero_le _,Nat.le_refl _,rfl⟩⟩
theorem stays_whole (b:Bs) (k:Int):zAB.stays ⟨b,b.length⟩ k=b.length:=by
 show b.length+(max 0 k).toNat % (b.length - b.length+1)=b.length
 rw [Nat.sub_self,Nat.zero_add,Nat.mod_one,Nat.add_zero]
theorem crash_whole (b:Bs) (k:Int):zAB.crashF k ⟨b,b.length⟩=⟨b,b.length⟩:=by
 show (⟨b.take (zAB.stays ⟨b,b.length⟩ k),zAB.stays ⟨b,b.length⟩ k⟩:zAV)=_
 rw [stays_whole,List.take_length]
theorem get_crash (D:zAB) (n:Bs) (k:Int):Sat.get n (D.crash k).files=(Sat.get n D.files).map (zAB.crashF k):=mp_get _ _ _
theorem get_crash_whole {D:zAB} {n b:Bs} (h:Sat.get n D.files=some ⟨b,b.length⟩) (k:Int):Sat.get n (D.crash k).files=some ⟨b,b.length⟩:=by
 rw [get_crash,h,Option.map_some,crash_whole]
theorem load_frame (l:Bs) (h:l.length≤1048576) (k:Nat):loadE (some ⟨zAK l,k⟩)=0∧zDT (some ⟨zAK l,k⟩)=l:=by
 have e:zCW (some ⟨zAK l,k⟩)=zAK l:=rfl
 rw [loadE_some,zD7,e,frame_oneE l h,frame_oneB l h]
 exact ⟨if_pos rfl,rfl⟩
/-! ### A ledger in memory -/
structure zCY (w:World) (l d:Nat) (pre:ByteArray) (own:Nat→Prop) (M:LedM) (dv ev:Value) (vs:List Value):Prop where
 cells:w.heap[l]?=some (.cells #[.pointer (some ⟨d,0,none⟩),.string pre,.int .i64 (M.base:Int),dv,ev,.bool M.dead] 183 (0,0))
 data:OwnB w 5 dv M.data
 row:OwnR w 22 1 ev M.entries.length vs
 rows:∀ (i:Nat) u b,vs[i]?=some u→M.entries[i]?=some b→OwnB w 5 u b
 ol:own l
 od:∀ k,dv.ownBlock=some k→own k∧k≠l∧ev.ownBlock≠some k
 oe:∀ k,ev.ownBlock=some k→own k∧k≠l
 ov:∀ u ∈ vs,∀ k,u.ownBlock=some k→own k∧k≠l∧ev.ownBlock≠some k
 olt:∀ k,own k→k < w.heap.size
 last:M.last≤1099511627776
 psz:1≤pre.size∧pre.size≤20
 big:M.data.length≤1073741824∧∀ b ∈ M.entries,b.length≤1073741824
section
variable {w w':World} {l d:Nat} {pre:ByteArray} {own:Nat→Prop} {M:LedM} {dv ev:Value} {vs:List Value}
theorem zCY.len (h:zCY w l d pre own M dv ev vs):vs.length=M.entries.length:=by have:=h.row.1;omega
theorem zCY.keep (h:zCY w l d pre own M dv ev vs) (hs:∀ k,own k→w'.heap[k]?=w.heap[k]?) (hl:∀ k,own k→k < w'.heap.size):zCY w' l d pre own M dv ev vs where
 cells:=(hs l h.ol).trans h.cells
 data:=OwnR.keep h.data fun k hk=>hs k (h.od k hk).1
 row:=h.row.keep fun k hk=>hs k (h.oe k hk).1
 rows:=fun i u b hu hb=>OwnR.keep (h.rows i u b hu hb) fun k hk=>hs k (h.ov u (List.mem_of_getElem? hu) k hk).1
 ol:=h.ol
 od:=h.od
 oe:=h.oe
 ov:=h.ov
 olt:=hl
 last:=h.last
 psz:=h.psz
 big:=h.big
theorem zCY.below (h:zCY w l d pre own M dv ev vs) (hb:Below w.heap.size w w'):zCY w' l d pre own M dv ev vs :=
 h.keep (fun k hk=>hb.block k (h.olt k hk)) fun k hk=>Nat.lt_of_lt_of_le (h.olt k hk) hb.size
theorem zCY.c0 (h:zCY w l d pre own M dv ev vs):w.cell? ⟨l,0,none⟩=some (.pointer (some ⟨d,0,none⟩)):=zAA h.cells rfl
theorem zCY.c1 (h:zCY w l d pre own M dv ev vs):w.cell? ⟨l,1,none⟩=some (.string pre):=zAA h.cells rfl
theorem zCY.c2 (h:zCY w l d pre own M dv ev vs):w.cell? ⟨l,2,none⟩=some (.int .i64 (M.base:Int)):=zAA h.cells rfl
theorem zCY.c3 (h:zCY w l d pre own M dv ev vs):w.cell? ⟨l,3,none⟩=some dv:=zAA h.cells rfl
theorem zCY.c4 (h:zCY w l d pre own M dv ev vs):w.cell? ⟨l,4,none⟩=some ev:=zAA h.cells rfl
theorem zCY.c5 (h:zCY w l d pre own M dv ev vs):w.cell? ⟨l,5,none⟩=some (.bool M.dead):=zAA h.cells rfl
theorem zCY.fr (h:zCY w l d pre own M dv ev vs) (i:Nat):w.frozen? ⟨l,i,none⟩=false:=zAF h.cells i
def LedCells (l d:Nat) (pre:ByteArray) (w:World):Prop:=w.cell? ⟨l,0,none⟩=some (.pointer (some ⟨d,0,none⟩))∧w.cell? ⟨l,1,none⟩=some (.string pre)∧pre.size≤20
end
def sLog (s:ByteArray):ByteArray:=s ++ ⟨#[45,108,111,103]⟩
def zA2 (s:ByteArray):ByteArray:=s ++ ⟨#[126]⟩
theorem zBf (s:ByteArray):nm (sLog s)=logN (nm s):=by simp [nm,sLog,logN,logX]
theorem zDf (s:ByteArray):nm (zA2 s)=zAH (nm s):=zAx s
theorem zEC (s:ByteArray):(sLog s).size=s.size+4:=by simp [sLog,ByteArray.size_append];rfl
theorem zBn (s:ByteArray):(zA2 s).size=s.size+1:=by simp [zA2,ByteArray.size_append];rfl
section
variable {w w1:World} {l d:Nat} {pre:ByteArray} {D:zAB} {F:Nat→Prop}
end
def LedF (w w1:World) (l d:Nat) (pre:ByteArray) (D:zAB) (M:LedM) (F:Nat→Prop):Prop :=
 ∃ own dv ev vs,zCY w1 l d pre own M dv ev vs∧St w w1 d D (fun k=>own k∨F k)∧(∀ k,own k→w.heap.size≤k∧¬ F k)∧∀ k,F k→k < w1.heap.size
theorem zA4 {w:World} {a:Addr} {v:Value} (h:w.cell? a=some v) (o:Obj):(w.alloc o).cell? a=some v:=(((Below.refl w.heap.size w).alloc (Nat.le_refl _) o).cell (World.block_lt_of_cell? w _ h)).trans h
theorem zBm {w w':World} {e:TypeId} {v:Value} {b:Bs} (h:OwnB w e v b) (hb:Below w.heap.size w w'):OwnB w' e v b:=OwnR.keep h fun k hk=>hb.block k (OwnR.lt h hk)
theorem zAb (w:World):Below w.heap.size w w.drew:=⟨rfl,rfl,rfl,Nat.le_refl _,fun _ _=>rfl⟩
theorem zAD (w:World) (o:Obj):Below w.heap.size w (w.alloc o):=(Below.refl _ _).alloc (Nat.le_refl _) o
section
variable {w w1 w2:World} {l d:Nat} {pre:ByteArray} {D:zAB} {M:LedM} {F F':Nat→Prop}
theorem LedF.bel (h:LedF w w1 l d pre D M F):Below w.heap.size w w1:=let ⟨_,_,_,_,_,hS,_,_⟩:=h;hS.below
theorem LedF.okD (h:LedF w w1 l d pre D M F):D.OK:=let ⟨_,_,_,_,_,hS,_,_⟩:=h;hS.ok
theorem LedF.flt (h:LedF w w1 l d pre D M F) {k:Nat} (hk:F k):k < w1.heap.size:=let ⟨_,_,_,_,_,_,_,hF⟩:=h;hF k hk
theorem LedF.st (h:LedF w w1 l d pre D M F):St w w1 d D NoF:=let ⟨_,_,_,_,_,hS,_,_⟩:=h;hS.noF
theorem LedF.last (h:LedF w w1 l d pre D M F):M.last≤1099511627776:=let ⟨_,_,_,_,hL,_,_,_⟩:=h;hL.last
theorem LedF.psz (h:LedF w w1 l d pre D M F):1≤pre.size∧pre.size≤20:=let ⟨_,_,_,_,hL,_,_,_⟩:=h;hL.psz
theorem LedF.cells (h:LedF w w1 l d pre D M F):∃ dv ev,w1.heap[l]?=some (.cells #[.pointer (some ⟨d,0,none⟩),.string pre,.int .i64 (M.base:Int),dv,ev,.bool M.dead] 183 (0,0))∧OwnB w1 5 dv M.data∧∃ vs,OwnR w1 22 1 ev M.entries.length vs∧∀ (i:Nat) u b,vs[i]?=some u→M.entries[i]?=some b→OwnB w1 5 u b :=
 let ⟨_,dv,ev,vs,hL,_,_,_⟩:=h;⟨dv,ev,hL.cells,hL.data,vs,hL.row,hL.rows⟩
theorem LedF.move {S:Nat→Prop} (h:LedF w w1 l d pre D M F) (hc:Chg S w1 w2) (hS:∀ k,k < w1.heap.size→S k→F k∧w.heap.size≤k) (hF:∀ k,F' k→(F k∨w1.heap.size≤k)∧k < w2.heap.size):LedF w w2 l d pre D M F':=by
 obtain ⟨own,dv,ev,vs,hL,hSt,hn,hl⟩:=h
 refine ⟨own,dv,ev,vs,hL.keep (fun k hk=>hc.block k (hL.olt k hk) fun hs=>(hn k hk).2 (hS k (hL.olt k hk) hs).1) fun k hk=>Nat.lt_of_lt_of_le (hL.olt k hk) hc.size,hSt.move hc (fun k hk hs=>⟨.inr (hS k hk hs).1,(hS k hk hs).2⟩) (fun k hk=>?_),fun k hk=>⟨(hn k hk).1,fun hf=>?_⟩,fun k hk=>(hF k hk).2⟩
 ·rcases hk with hk | hk
  ·exact ⟨.inl (.inl hk),Nat.lt_of_lt_of_le (hL.olt k hk) hc.size⟩
  ·exact ⟨(hF k hk).1.imp .inr id,(hF k hk).2⟩
 ·rcases (hF k hf).1 with h | h
  ·exact (hn k hk).2 h
  ·have:=hL.olt k hk
   omega
theorem LedF.next (h:LedF w w1 l d pre D M F) (hb:Below w1.heap.size w1 w2):LedF w w2 l d pre D M F :=
 h.move (Chg.of_below hb) (fun _ _ h=>h.elim) fun _ hk=>⟨.inl hk,Nat.lt_of_lt_of_le (h.flt hk) hb.size⟩
theorem LedF.same (h:LedF w w1 l d pre D M F) (hb:Below w1.heap.size w1 w2):Same F w1 w2:=fun _ hk=>hb.block _ (h.flt hk)
theorem LedF.less (h:LedF w w1 l d pre D M F) (hF:∀ k,F' k→F k):LedF w w1 l d pre D M F' :=
 h.move (Chg.refl _ _:Chg (fun _=>False) w1 w1) (fun _ _ h=>h.elim) fun _ hk=>⟨.inl (hF _ hk),h.flt (hF _ hk)⟩
theorem LedF.more (h:LedF w w1 l d pre D M F) (hb:Below w1.heap.size w1 w2) (hF:∀ k,F' k→F k∨w1.heap.size≤k∧k < w2.heap.size):LedF w w2 l d pre D M F' :=
 h.move (Chg.of_below hb) (fun _ _ h=>h.elim) fun k hk=>by
  rcases hF k hk with h1 | h1
  ·exact ⟨.inl h1,Nat.lt_of_lt_of_le (h.flt h1) hb.size⟩
  ·exact ⟨.inr h1.1,h1.2⟩
theorem LedF.box (h:LedF w w1 l d pre D M F) (o:Obj):LedF w (w1.alloc o) l d pre D M (fun k=>F k∨k=w1.heap.size) :=
 h.more (zAD w1 o) fun k hk=>hk.imp id fun e=>⟨by omega,by simp;omega⟩
theorem LedF.turned {own own':Nat→Prop} {M':LedM} {dv' ev':Value} {vs':List Value} (hS:St w w1 d D (fun k=>own k∨F k)) (hn:∀ k,own k→w.heap.size≤k∧¬ F k) (hl:∀ k,F k→k < w1.heap.size)
  (hL':zCY w2 l d pre own' M' dv' ev' vs') (hc:Chg own w1 w2) (hx:∀ k,own' k→own k∨w1.heap.size≤k):LedF w w2 l d pre D M' F∧Same F w1 w2:=by
 refine ⟨⟨own',dv',ev',vs',hL',hS.move hc (fun k _ hk=>⟨.inl hk,(hn k hk).1⟩) (fun k hk=>?_),fun k hk=>?_,fun k hk=>Nat.lt_of_lt_of_le (hl k hk) hc.size⟩,fun k hk=>hc.block k (hl k hk) fun ho=>(hn k ho).2 hk⟩
 ·rcases hk with hk | hk
  ·exact ⟨(hx k hk).imp .inl id,hL'.olt k hk⟩
  ·exact ⟨.inl (.inr hk),Nat.lt_of_lt_of_le (hl k hk) hc.size⟩
 ·rcases hx k hk with h | h
  ·exact hn k h
  ·exact ⟨Nat.le_trans hS.below.size h,fun hf=>by have:=hl k hf;omega⟩
end
theorem LedCells.same {l d:Nat} {pre:ByteArray} {w w':World} (h:LedCells l d pre w) (hb:w'.heap[l]?=w.heap[l]?):LedCells l d pre w' :=
 ⟨(World.cell?_of_block (a:=⟨l,0,none⟩) hb).trans h.1,(World.cell?_of_block (a:=⟨l,1,none⟩) hb).trans h.2.1,h.2.2⟩
section
variable {w w1:World} {l d:Nat} {pre:ByteArray} {D:zAB} {M:LedM} {F:Nat→Prop}
theorem last_calls (h:LedF w w1 l d pre D M F) :
  Calls Tryz.prog 126 #[.pointer (some ⟨l,0,none⟩)] w1 fun e w'=>e=.returned (.int .i64 (M.last:Int))∧∃ q,w'=w1.drewN q:=by
 have hla:=h.last
 obtain ⟨dv,ev,hc,-,vs,hrow,-⟩:=h.cells
 obtain ⟨p,c,rfl⟩:=hrow.shape
 have h2:w1.cell? ⟨l,2,none⟩=some (.int .i64 (M.base:Int)):=zAA hc rfl
 have h4:w1.cell? ⟨l,4,none⟩=some (.slice p M.entries.length c):=zAA hc rfl
 have HL:=zh (show ((M.base:Int)+(M.entries.length:Int))=(M.last:Int) from by unfold LedM.last;omega)
 have hb:M.base≤1099511627776:=by unfold LedM.last at hla;omega
 have he:M.entries.length≤1099511627776:=by unfold LedM.last at hla;omega
 clear h hc hrow hla
 generalize M.entries.length=n at *
 generalize M.base=b at *
 go_enter Tryz.func126,Tryz.ntmps126
 have hw:IntKind.i64.wrap ((b:Int)+(n:Int))=(b:Int)+(n:Int):=IntWalk.i64_in _ (by omega)
 go_wp2_with fail
 go_quiet (fail)
 go_wp2_with fail
 go_ret
 exact ⟨by rw [HL.out];rfl,_,rfl⟩
end
end Go.Proofs.YtapfnehdgailmaaGreat
namespace Go.Sat
namespace Rd
def ints:Nat→Rd→List Int × Rd
 | 0,R=>([],R)
 | k+1,R=>((R.num.1:Int) :: (ints k R.num.2).1,(ints k R.num.2).2)
def grp (may:List Int→Bool) (R:Rd):List Int × Rd :=
 if 7 < R.num.1 then ([],fail) else ((ints R.num.1 R.num.2).1,if may (ints R.num.1 R.num.2).1 then (ints R.num.1 R.num.2).2 else fail)
end Rd
def anyG (_:List Int):Bool:=true
end Go.Sat
namespace Go.Proofs.YtapfnehdgailmaaGreat
open Go.RowKit Go.Sat Go.Maps
structure Ent where
 term:Int
 kind:Int
 data:Bs
 nodes:List Int
structure JouM where
 number:Nat
 term:Int
 group:List Int
 now:Int
 vote:Int
 data:Bs
 entries:List Ent
 dead:Bool
def zEH (prev:Int):List Int→Bool
 | []=>true
 | n :: r=>decide (prev < n∧n < 7) && zEH n r
def zAW (l:List Int):Bool:=zEH (-1) l && decide (1≤l.length∧l.length≤7)
def isTm (n:Int):Bool:=decide (0≤n∧n≤1099511627776)
def zAs (e:Ent):Bool :=
 isTm e.term && (if e.kind=0 then decide (e.data=[]∧e.nodes=[]) else if e.kind=1 then decide (1≤e.data.length∧e.data.length≤65536∧e.nodes=[])
  else if e.kind=2 then decide (e.data=[]) && zAW e.nodes else false)
def snpX:Bs:=[45,115,110,97,112]
def snpN (p:Bs):Bs:=p ++ snpX
/-! ### Records -/
def grpB (l:List Int):Bs:=numB l.length ++ zAh l
def fstB (n:Nat) (t:Int) (g:List Int):Bs:=1 :: (numB n ++ numI t ++ grpB g)
def trmB (t v:Int):Bs:=2 :: (numI t ++ numI (v+1))
def entB (n:Nat) (e:Ent):Bs:=3 :: (numB n ++ numI e.term ++ numI e.kind ++ rowB e.data ++ grpB e.nodes)
def snpB (n:Nat) (t:Int) (g:List Int) (b:Bs):Bs:=numB n ++ numI t ++ grpB g ++ rowB b
def zBK:Nat→List Ent→List Bs
 | _,[]=>[]
 | n,e :: r=>entB (n+1) e :: zBK (n+1) r
namespace JouM
def none0 (g:List Int):JouM:=⟨0,0,g,0,-1,[],[],false⟩
def last (M:JouM):Nat:=M.number+M.entries.length
def die (M:JouM):JouM:={ M with dead:=true }
def termAt (M:JouM) (i:Int):Option Int :=
 if i=(M.number:Int) then some M.term else if i < (M.number:Int) then none else (M.entries[(i - M.number - 1).toNat]?).map Ent.term
def lastT (M:JouM):Int:=match M.entries.getLast? with
 | some e=>e.term
 | none=>M.term
def mayVote (M:JouM) (t v:Int):Bool:=decide (M.now≤t∧t≤1099511627776∧-1≤v∧v < 7) && !decide (t=M.now∧M.vote≠-1∧v≠M.vote)
def grpIn (M:JouM):Nat→List Int × Nat
 | 0=>(M.group,M.number)
 | k+1=>match M.entries[k]? with
  | some e=>if e.kind=2 then (e.nodes,M.number+k+1) else grpIn M k
  | none=>grpIn M k
def rows (M:JouM):List Bs:=fstB M.number M.term M.group :: trmB M.now M.vote :: zBK M.number M.entries
end JouM
def rec1 (first:Bool) (M:JouM) (p:Bs):Option JouM:=match p with
 | []=>none
 | k :: r =>
  if first≠decide (k=1) then none
  else if k=1 then
   (if (Rd.num ⟨r,false⟩).2.num.2.grp zAW |>.2.whole then
    if (Rd.num ⟨r,false⟩).1≤1099511627776∧(Rd.num ⟨r,false⟩).2.num.1≤1099511627776 then
     some { M with number:=(Rd.num ⟨r,false⟩).1,term:=((Rd.num ⟨r,false⟩).2.num.1:Int),group:=((Rd.num ⟨r,false⟩).2.num.2.grp zAW).1 } else none
   else none)
  else if k=2 then
   (if (Rd.num ⟨r,false⟩).2.num.2.whole && M.mayVote ((Rd.num ⟨r,false⟩).1:Int) (((Rd.num ⟨r,false⟩).2.num.1:Int) - 1) then
    some { M with now:=((Rd.num ⟨r,false⟩).1:Int),vote:=(((Rd.num ⟨r,false⟩).2.num.1:Int) - 1) } else none)
  else if k=3 then
   (let R1:=Rd.num ⟨r,false⟩
    let R2:=R1.2.num
    let R3:=R2.2.num
    let R4:=R3.2.bytes
    let R5:=R4.2.grp anyG
    let e:Ent:=⟨R2.1,R3.1,R4.1,R5.1⟩
    if R5.2.whole∧R1.1=M.last+1∧R1.1≤1099511627776∧zAs e then some { M with entries:=M.entries ++ [e] } else none)
  else if k=4 then
   (if (Rd.num ⟨r,false⟩).2.whole∧M.number < (Rd.num ⟨r,false⟩).1∧(Rd.num ⟨r,false⟩).1≤M.last+1 then some { M with entries:=M.entries.take ((Rd.num ⟨r,false⟩).1 - M.number - 1) } else none)
  else none
def zBv (M:JouM):List Bs→Option JouM
 | []=>some M
 | p :: r=>(rec1 false M p).bind fun M'=>zBv M' r
def zBx (M:JouM):List Bs→Option JouM
 | []=>none
 | p :: r=>(rec1 true M p).bind fun M'=>zBv M' r
structure Snap where
 number:Nat
 term:Int
 group:List Int
 data:Bs
def zCX (b:Bs):Option Snap :=
 let R1:=Rd.num ⟨b,false⟩
 let R2:=R1.2.num
 let R3:=R2.2.grp zAW
 let R4:=R3.2.bytes
 if R4.2.whole∧1≤R1.1∧R1.1≤1099511627776∧R2.1≤1099511627776∧R4.1.length≤524288 then some ⟨R1.1,R2.1,R3.1,R4.1⟩ else none
def zCT (o:Option zAV):Nat × Option Snap :=
 if loadE o=7 then (0,none) else if loadE o≠0 then (loadE o,none) else match zCX (zDT o) with
  | none=>(3,none)
  | some s=>(0,some s)
def JouM.rebase (M:JouM) (s:Snap):JouM :=
 { M with number:=s.number,term:=s.term,group:=s.group,data:=s.data,entries:=if M.number < s.number∧M.termAt s.number=some s.term then M.entries.drop (s.number - M.number) else [] }
def zAR (D:zAB) (pre:Bs) (M:JouM):zAB × Nat:=D.save1 (logN pre) (zAU M.rows)
def zBV (D:zAB) (pre:Bs) (M:JouM):zAB × Nat × Bool × JouM:=match get (logN pre) D.files with
 | none=>(D,0,true,M)
 | some f=>match zBx M (scan f.data).1 with
  | none=>(D,3,false,M)
  | some M'=>((zA0 D (logN pre) (scan f.data).2 f.data.length).1,(zA0 D (logN pre) (scan f.data).2 f.data.length).2,false,M')
def zAd (s:Option Snap) (M:JouM) (anew:Bool):Option (Bool × JouM):=match s with
 | none=>if 0 < M.number then none else some (anew,M)
 | some s=>if M.number < s.number then some (true,M.rebase s) else if s.number < M.number then none else some (anew,{ M with data:=s.data })
def zAS (D:zAB) (pre:Bs) (nodes:List Int):zAB × Nat × JouM :=
 if pre.length < 1∨20 < pre.length∨zAW nodes=false then (D,1,JouM.none0 nodes) else
 let r0:=D.rid [zAH (logN pre),zAH (snpN pre)]
 if r0.2≠0 then (r0.1,r0.2,JouM.none0 nodes) else
 let s:=zCT (get (snpN pre) r0.1.files)
 if s.1≠0 then (r0.1,s.1,JouM.none0 nodes) else
 let l:=zBV r0.1 pre (JouM.none0 nodes)
 if l.2.1≠0 then (l.1,l.2.1,JouM.none0 nodes) else
 match zAd s.2 l.2.2.2 l.2.2.1 with
 | none=>(l.1,3,JouM.none0 nodes)
 | some (anew,M)=>if anew then ((zAR l.1 pre M).1,(zAR l.1 pre M).2,M) else (l.1,0,M)
structure zEW where
 disk:zAB
 jou:JouM
 err:Nat
def laysJ (pre:Bs) (D:zAB) (M:JouM) (rows:List Bs) (M':JouM):zEW :=
 if (zEn D (logN pre) (zAU rows)).2≠0 then ⟨(zEn D (logN pre) (zAU rows)).1,M.die,(zEn D (logN pre) (zAU rows)).2⟩ else ⟨(zEn D (logN pre) (zAU rows)).1,M',0⟩
def zCQ (pre:Bs) (D:zAB) (M:JouM) (l:List Ent):zEW :=
 if M.dead then ⟨D,M,9⟩ else if 1099511627776 < M.last+l.length∨l.all zAs=false then ⟨D,M,1⟩ else if l=[] then ⟨D,M,0⟩
 else laysJ pre D M (zBK M.last l) { M with entries:=M.entries ++ l }
def zB7 (pre:Bs) (D:zAB) (M:JouM) (s:Snap):zEW :=
 if (D.save (snpN pre) (snpB s.number s.term s.group s.data)).2≠0 then ⟨(D.save (snpN pre) (snpB s.number s.term s.group s.data)).1,M.die,(D.save (snpN pre) (snpB s.number s.term s.group s.data)).2⟩
 else if (zAR (D.save (snpN pre) (snpB s.number s.term s.group s.data)).1 pre (M.rebase s)).2≠0 then ⟨(zAR (D.save (snpN pre) (snpB s.number s.term s.group s.data)).1 pre (M.rebase s)).1,(M.rebase s).die,(zAR (D.save (snpN pre) (snpB s.number s.term s.group s.data)).1 pre (M.rebase s)).2⟩
 else ⟨(zAR (D.save (snpN pre) (snpB s.number s.term s.group s.data)).1 pre (M.rebase s)).1,M.rebase s,0⟩
def zBc (pre:Bs) (D:zAB) (M:JouM) (i:Int) (b:Bs):zEW :=
 if M.dead then ⟨D,M,9⟩ else if i≤(M.number:Int)∨(M.last:Int) < i∨524288 < b.length then ⟨D,M,1⟩
 else zB7 pre D M ⟨i.toNat,(M.termAt i).getD 0,(M.grpIn (i.toNat - M.number)).1,b⟩
end Go.Proofs.YtapfnehdgailmaaGreat
namespace Go.Proofs.YtapfnehdgailmaaGreat
open Go.RowKit Go.Sat Go.Maps
theorem numI_of {z:Int} (h0:0≤z) (h1:z≤4611686018427387904):numI z=numB z.toNat:=by
 have:=zCK (n:=z.toNat) (by omega)
 rwa [Int.toNat_of_nonneg h0] at this
theorem rd_int {z:Int} (h0:0≤z) (h1:z≤4611686018427387904) (r:Bs) (b:Bool):Rd.num ⟨numI z ++ r,b⟩=(z.toNat,⟨r,b⟩):=by
 rw [numI_of h0 h1]
 exact Rd.num_of (by omega) r b
theorem ints_of:∀ (l:List Int) (r:Bs) (b:Bool),(∀ x ∈ l,0≤x∧x≤4611686018427387904)→Rd.ints l.length ⟨zAh l ++ r,b⟩=(l,⟨r,b⟩)
 | [],_,_,_=>rfl
 | z :: l,r,b,h=>by
  have hz:=h z (by simp)
  have e1:zAh (z :: l) ++ r=numI z ++ (zAh l ++ r):=by simp [zAh]
  show (((Rd.num _).1:Int) :: (Rd.ints l.length (Rd.num _).2).1,(Rd.ints l.length (Rd.num _).2).2)=_
  rw [e1,rd_int hz.1 hz.2]
  dsimp only
  rw [ints_of l r b fun x hx=>h x (by simp [hx]),Int.toNat_of_nonneg hz.1]
theorem grp_of {may:List Int→Bool} {l:List Int} (hl:l.length≤7) (h:∀ x ∈ l,0≤x∧x < 7) (hm:may l=true) (r:Bs) (b:Bool):Rd.grp may ⟨grpB l ++ r,b⟩=(l,⟨r,b⟩):=by
 unfold Rd.grp grpB
 rw [List.append_assoc,Rd.num_of (by omega)]
 dsimp only
 rw [if_neg (by omega),ints_of l r b fun x hx=>by have:=h x hx;omega]
 dsimp only
 rw [if_pos hm]
theorem whole_of (b:Bool):Rd.whole ⟨[],b⟩=!b:=by
 unfold Rd.whole
 simp
theorem zCP {l:List Int} (h:zAW l=true):l.length≤7∧∀ x ∈ l,0≤x∧x < 7:=by
 unfold zAW at h
 simp only [Bool.and_eq_true,decide_eq_true_eq] at h
 refine ⟨h.2.2,?_⟩
 have go:∀ (l:List Int) (p:Int),-1≤p→zEH p l=true→∀ x ∈ l,p < x∧x < 7:=by
  intro l
  induction l with
  | nil=>intro p _ _ x hx;cases hx
  | cons n r ih =>
   intro p hp hg x hx
   unfold zEH at hg
   simp only [Bool.and_eq_true,decide_eq_true_eq] at hg
   cases hx with
   | head=>exact hg.1
   | tail _ hx =>
    have:=ih n (by omega) hg.2 x hx
    omega
 intro x hx
 have:=go l (-1) (by omega) h.1 x hx
 omega
theorem rec_fst {M:JouM} {n:Nat} {t:Int} {g:List Int} (hn:n≤1099511627776) (ht:0≤t∧t≤1099511627776) (hg:zAW g=true) :
  rec1 true M (fstB n t g)=some { M with number:=n,term:=t,group:=g }:=by
 have hb:=zCP hg
 unfold rec1 fstB
 dsimp only
 rw [if_neg (by decide),if_pos rfl,List.append_assoc,Rd.num_of (by omega)]
 dsimp only
 rw [rd_int ht.1 (by omega)]
 dsimp only
 have:=grp_of (may:=zAW) hb.1 hb.2 hg [] false
 rw [List.append_nil] at this
 rw [this]
 dsimp only
 rw [whole_of,if_pos (show (!false)=true from rfl),if_pos (by omega),Int.toNat_of_nonneg ht.1]
theorem rec_trm {M:JouM} {t v:Int} (h:M.mayVote t v=true) (h0:0≤M.now):rec1 false M (trmB t v)=some { M with now:=t,vote:=v }:=by
 have h1:=h
 unfold JouM.mayVote at h1
 simp only [Bool.and_eq_true,decide_eq_true_eq] at h1
 have h2:=h1.1
 unfold rec1 trmB
 dsimp only
 rw [if_neg (by decide),if_neg (by decide),if_pos rfl,rd_int (by omega) (by omega)]
 dsimp only
 have e:=rd_int (z:=v+1) (by omega) (by omega) [] false
 rw [List.append_nil] at e
 rw [e]
 dsimp only
 rw [whole_of,Int.toNat_of_nonneg (by omega),Int.toNat_of_nonneg (by omega),show v+1 - 1=v by omega,h,if_pos (show (!false && true)=true from rfl)]
theorem zA8 {e:Ent} (h:zAs e=true):(0≤e.term∧e.term≤1099511627776)∧(0≤e.kind∧e.kind≤2)∧e.data.length≤65536∧e.nodes.length≤7∧∀ x ∈ e.nodes,0≤x∧x < 7:=by
 unfold zAs at h
 simp only [Bool.and_eq_true] at h
 have h1:=h.1
 unfold isTm at h1
 simp only [decide_eq_true_eq] at h1
 refine ⟨h1,?_⟩
 have h2:=h.2
 split at h2
 ·rename_i hk
  simp only [decide_eq_true_eq] at h2
  rw [h2.1,h2.2,hk]
  exact ⟨by decide,by decide,by decide,fun x hx=>by cases hx⟩
 ·split at h2
  ·rename_i hk
   simp only [decide_eq_true_eq] at h2
   rw [h2.2.2,hk]
   exact ⟨by decide,h2.2.1,by decide,fun x hx=>by cases hx⟩
  ·split at h2
   ·rename_i hk
    simp only [Bool.and_eq_true,decide_eq_true_eq] at h2
    rw [h2.1,hk]
    exact ⟨by decide,by decide,(zCP h2.2).1,(zCP h2.2).2⟩
   ·cases h2
theorem rec_ent {M:JouM} {e:Ent} (h:zAs e=true) (hl:M.last+1≤1099511627776):rec1 false M (entB (M.last+1) e)=some { M with entries:=M.entries ++ [e] }:=by
 obtain ⟨ht,hk,hd,hn,hx⟩:=zA8 h
 unfold rec1 entB
 dsimp only
 rw [if_neg (by decide),if_neg (by decide),if_neg (by decide),if_pos rfl]
 simp only [List.append_assoc]
 rw [Rd.num_of (by omega)]
 dsimp only
 rw [rd_int ht.1 (by omega)]
 dsimp only
 rw [rd_int hk.1 (by omega)]
 dsimp only
 rw [Rd.bytes_of (by omega)]
 dsimp only
 have e1:=grp_of (may:=anyG) hn hx rfl [] false
 rw [List.append_nil] at e1
 rw [e1]
 dsimp only
 rw [whole_of,Int.toNat_of_nonneg ht.1,Int.toNat_of_nonneg hk.1]
 rw [if_pos ⟨rfl,rfl,hl,h⟩]
theorem recGo_app:∀ (a b:List Bs) (M:JouM),zBv M (a ++ b)=(zBv M a).bind fun M'=>zBv M' b
 | [],_,_=>rfl
 | p :: a,b,M=>by
  show ((rec1 false M p).bind fun M'=>zBv M' (a ++ b))=((rec1 false M p).bind fun M'=>zBv M' a).bind fun M'=>zBv M' b
  cases rec1 false M p with
  | none=>rfl
  | some M'=>exact recGo_app a b M'
theorem recAll_app {M M':JouM} {a b:List Bs} (h:zBx M a=some M'):zBx M (a ++ b)=zBv M' b:=by
 cases a with
 | nil=>cases h
 | cons p r =>
  have h1:((rec1 true M p).bind fun M'=>zBv M' r)=some M':=h
  show ((rec1 true M p).bind fun M'=>zBv M' (r ++ b))=_
  cases hp:rec1 true M p with
  | none=>rw [hp] at h1;cases h1
  | some N =>
   rw [hp] at h1
   show zBv N (r ++ b)=_
   rw [recGo_app,show zBv N r=some M' from h1]
   rfl
theorem recGo_ents:∀ (l:List Ent) (M:JouM),(∀ e ∈ l,zAs e=true)→M.last+l.length≤1099511627776→zBv M (zBK M.last l)=some { M with entries:=M.entries ++ l }
 | [],M,_,_=>by
  show some M=_
  rw [List.append_nil]
 | e :: l,M,h,hn=>by
  show ((rec1 false M (entB (M.last+1) e)).bind fun M'=>zBv M' (zBK (M.last+1) l))=_
  rw [rec_ent (h e (by simp)) (by simp at hn;omega)]
  have e1:({ M with entries:=M.entries ++ [e] }:JouM).last=M.last+1:=by
   show M.number+(M.entries ++ [e]).length=M.number+M.entries.length+1
   rw [List.length_append]
   rfl
  have:=recGo_ents l { M with entries:=M.entries ++ [e] } (fun x hx=>h x (by simp [hx])) (by rw [e1];simp at hn;omega)
  rw [e1] at this
  show zBv { M with entries:=M.entries ++ [e] } (zBK (M.last+1) l)=_
  rw [this,List.append_assoc]
  rfl
theorem rec_rows {M N:JouM} (hl:M.last≤1099511627776) (ht:isTm M.term=true) (hg:zAW M.group=true) (hn:isTm M.now=true) (hv:-1≤M.vote∧M.vote < 7) (he:∀ e ∈ M.entries,zAs e=true)
  (h0:N.now=0) (h1:N.vote=-1) (h2:N.entries=[]):zBx N M.rows=some { M with data:=N.data,dead:=N.dead }:=by
 unfold isTm at ht hn
 simp only [decide_eq_true_eq] at ht hn
 have hl':M.number+M.entries.length≤1099511627776:=hl
 show ((rec1 true N (fstB M.number M.term M.group)).bind fun M'=>zBv M' (trmB M.now M.vote :: zBK M.number M.entries))=_
 rw [rec_fst (by omega) ht hg]
 show ((rec1 false { N with number:=M.number,term:=M.term,group:=M.group } (trmB M.now M.vote)).bind fun M'=>zBv M' (zBK M.number M.entries))=_
 rw [rec_trm (by
  unfold JouM.mayVote
  simp only [h0,h1]
  simp
  omega) (by show 0≤N.now;omega)]
 have e1:({ N with number:=M.number,term:=M.term,group:=M.group,now:=M.now,vote:=M.vote }:JouM).last=M.number:=by
  show M.number+N.entries.length=_
  rw [h2]
  rfl
 have:=recGo_ents M.entries { N with number:=M.number,term:=M.term,group:=M.group,now:=M.now,vote:=M.vote } he (by rw [e1];exact hl')
 rw [e1] at this
 show zBv { N with number:=M.number,term:=M.term,group:=M.group,now:=M.now,vote:=M.vote } (zBK M.number M.entries)=_
 rw [this]
 simp only [h2,List.nil_append]
end Go.Proofs.YtapfnehdgailmaaGreat
