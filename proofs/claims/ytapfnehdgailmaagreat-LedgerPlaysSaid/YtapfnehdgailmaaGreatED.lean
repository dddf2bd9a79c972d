/- The contracts of Read, Fuse, Crash. A disk that a law has made itself: the contracts in the form in which a law meets them. The contract of satrapylaw3.same. The contract of satrapylaw3.known: it is true. DiskKeeps: the walk. The contract of octet.Sum. The contracts of frame's small functions: four, fromFour, headOf. The contracts of frame.headOf and frame.Encode. octet.Join: what it hands back lies in a block of its own. The contract of frame.Encode. The contracts of bytes.Equal, frame.Decode, frame.One. -/
import Derived.Laws.BitsAllLaws
import Derived.Lib.SlBytesConst
import Derived.Test.YtapfnehdgailmaaGreatEA
import Derived.Test.YtapfnehdgailmaaGreatEC
set_option maxRecDepth 100000
set_option maxHeartbeats 64000000
namespace Go.Sat
open Go.RowKit
theorem run_cut {P:Program} (w:World) {t e:TypeId} {i:TypeInfo} (ht:P.underlying t=some (.slice e)) (hi:P.info? e=some i) (a:Option Addr) (len cap k:Nat) (h:k≤cap) :
  (Instr.slice t (.slice a len cap) none (some (.int .i64 (k:Int))) (some (.int .i64 (k:Int)))).run P w=.ok (.slice a k k) w:=by
 have h1:(Instr.sliceBound (.int .i64 (k:Int)) cap .slice3Acap).run P w=.ok k w:=by
  rw [run_sliceBound _ _ _ _ _ (by omega) (by omega)]
  simp
 have h2:(Instr.sliceBound (.int .i64 (k:Int)) k .slice3B).run P w=.ok k w:=by
  rw [run_sliceBound _ _ _ _ _ (by omega) (by omega)]
  simp
 have h3:(if k=0 then a else a.map fun x=>x.add (0 * i.size))=a:=by
  split
  ·rfl
  ·cases a <;> simp [Addr.add]
 simp only [Nat.zero_mul] at h3
 simp [Instr.slice,run_underlying ht,Instr.sliceBounds,h1,h2,sizeOf,typeInfo,hi,Result.andThen,h3]
theorem OwnR.cut {w:World} {e:TypeId} {p:Option Addr} {n c:Nat} {xs:List Value} (h:OwnR w e 1 (.slice p n c) n xs) {k:Nat} (hk:k≤n):OwnR w e 1 (.slice p k k) k (xs.take k):=by
 obtain ⟨hl,h⟩:=h
 refine ⟨by rw [List.length_take];omega,?_⟩
 rcases h with ⟨e1,h0⟩ | ⟨g,cap,cur,e1,hg,hnc,hcm,hcs,ht⟩
 ·cases e1
  have:k=0:=by omega
  subst this
  exact .inl ⟨rfl,rfl⟩
 ·cases e1
  refine .inr ⟨g,k,cur,rfl,hg,Nat.le_refl _,by omega,by omega,?_⟩
  rw [← ht,List.take_take,Nat.mul_one,Nat.mul_one,Nat.min_eq_left hk]
theorem OwnR.cap_le {w:World} {e:TypeId} {p:Option Addr} {n c:Nat} {xs:List Value} (h:OwnR w e 1 (.slice p n c) n xs):n≤c∧c≤maxLen:=by
 rcases h.2 with ⟨e1,h0⟩ | ⟨g,cap,cur,e1,hg,hnc,hcm,hcs,ht⟩
 ·cases e1
  exact ⟨Nat.le_refl _,Nat.zero_le _⟩
 ·cases e1
  exact ⟨hnc,hcm⟩
theorem grown_set (w:World) (a:Addr) (u:Value):w.grownBy (w.setCell a u) (some a.block) :=
 ⟨rfl,rfl,rfl,by simp [World.setCell],fun k _ hne=>Below.heap_setCell _ _ _ _ fun e=>hne (by rw [e])⟩
end Go.Sat
namespace Go.Proofs.YtapfnehdgailmaaGreat
open Go.RowKit Go.Sat Go.Maps
section
variable {w:World} {d m:Nat} {left:Int} {L:List (Bs × FRep)} {own:Own} {D:zAA}
theorem data_le (h:zAS w d m left L own D) {n:Bs} {r:FRep} (hg:Sat.get n L=some r):r.f.data.length≤1073741824:=by
 have:=h.ok.used
 have:=h.ok.room
 have:r.f.data.length≤D.used:=by rw [h.used];exact le_sum (f:=fun r:FRep=>r.f.data.length) h.srt hg
 omega
/-! ### Read -/
def zCH (o:Option zAP):Bs:=(o.map zAP.data).getD []
def readE (o:Option zAP):Int:=if o.isSome then 0 else 7
def ReadPost (w:World) (o:Option zAP) (e:Ending) (w':World):Prop :=
 ∃ v,e=.returned (.tuple #[v,.int .i64 (readE o)])∧OwnB w' 5 v (zCH o)∧(∀ k,v.ownBlock=some k→w.heap.size≤k)∧Below w.heap.size w w'
theorem read_calls (h:zBe w d D own) (s:ByteArray) (hs:s.size≤9223372036854775807) :
  Calls Tryz.prog 75 #[.pointer (some ⟨d,0,none⟩),.string s] w (ReadPost w (Sat.get (nm s) D.files)):=by
 obtain ⟨m,left,L,h⟩:=h
 have hc1:=h.c1
 rw [h.get]
 cases hg:Sat.get (nm s) L with
 | none =>
  have hlook:=zBJ w zBW Tryz.underlying9 Tryz.underlying113 (zBO w) FRep.fb h.map hs hg
  clear h hg
  go_enter Tryz.func75,Tryz.ntmps75
  go_wp2
  go_ret2
  exact ⟨_,rfl,OwnR.nil _ _ _,fun k hk=>(by cases hk),Below.refl _ _⟩
 | some r =>
  have hlook:=zBU w zBW Tryz.underlying9 Tryz.underlying113 (zBO w) FRep.fb h.map hs hg
  have hf:=h.fileAt hg
  have hc:=zAC (i:=0) hf.cells rfl
  have hcl:=zA6 hf.row.has (by have:=data_le h hg;omega)
  have Hcl:=zh hcl
  clear h hg hf hcl
  go_enter Tryz.func75,Tryz.ntmps75
  go_wp2_with fail
  refine Hcl.out.mono ?_
  rintro e w' ⟨v,rfl,hv,hn,hb⟩
  have Hv:=zh (And.intro hv (And.intro hn hb))
  clear hv hn hb
  go_wp2_with fail
  go_ret2
  exact ⟨_,rfl,Hv.out⟩
/-! ### Fuse -/
theorem ok_fuse {D:zAA} (h:D.OK) (n:Int) (hn:n≤9223372036854775807):(D.setFuse n).OK where
 srt:=h.srt
 room:=h.room
 used:=h.used
 count:=h.count
 names:=h.names
 lasts:=h.lasts
 fuse k hk:=by
  simp only [zAA.setFuse] at hk
  split at hk
  ·cases hk
  ·cases hk
   omega
theorem setTop (h:zAS w d m left L own D) {w':World} {left':Int} {D':zAA} (hs:w.heap.size≤w'.heap.size) (hb:∀ k,k≠d→w'.heap[k]?=w.heap[k]?) (_hroom:D'.room=D.room) (hfiles:D'.files=D.files)
  (hc:w'.heap[d]?=some (.cells #[.int .i64 (D'.room:Int),.map (some m),.bool D'.fuse.isSome,.int .i64 left'] 115 (0,0))) (hl:∀ k,D'.fuse=some k→left'=(k:Int)) (hok:D'.OK):zAS w' d m left' L own D':=by
 have keep:∀ k t,own k=some t→t≠(0,[])→w'.heap[k]?=w.heap[k]?:=fun k t hk ht=>hb k fun e=>by
  rw [e,h.od] at hk
  exact ht (Option.some.inj hk).symm
 refine ⟨hc,hl,?_,by rw [hfiles];exact h.files,h.srt,fun p hp=>?_,h.od,h.om,fun j t hj=>Nat.lt_of_lt_of_le (h.olt j t hj) hs,hok⟩
 ·obtain ⟨es,clock,hm,rest⟩:=h.map
  exact ⟨es,clock,(keep m _ h.om (by simp)).trans hm,rest⟩
 ·have hp':=h.file p hp
  exact ⟨(keep _ _ hp'.ob (by simp)).trans hp'.cells,hp'.ob,hp'.row.keep fun g hg=>keep _ _ (hp'.og g hg) (by simp),hp'.og⟩
theorem fuse_calls (h:zBe w d D own) (n:Int) (hn:n≤9223372036854775807) (hn0:-9223372036854775808≤n) :
  Calls Tryz.prog 40 #[.pointer (some ⟨d,0,none⟩),.int .i64 n] w (Did w d own (D.setFuse n)):=by
 obtain ⟨m,left,L,h⟩:=h
 have hc2:=h.c2
 have hc3:=h.c3
 have hf2:=zAI h.cells 2
 have hf3:=zAI h.cells 3
 have hfin:∀ (b:Bool) (l:Int),b=(D.setFuse n).fuse.isSome→(∀ k,(D.setFuse n).fuse=some k→l=(k:Int))→Did w d own (D.setFuse n) (.returned (.tuple #[])) ((w.setCell ⟨d,2,none⟩ (.bool b)).setCell ⟨d,3,none⟩ (.int .i64 l)):=by
  intro b l hb hl
  refine ⟨own,rfl,⟨m,l,L,setTop h (by simp [World.setCell]) (fun k hk=>(zAE _ hk).trans (zAE _ hk)) rfl rfl ?_ hl (ok_fuse h.ok n hn)⟩,?_,zBl _ _⟩
  ·rw [zAO (zAO h.cells 2 _) 3,← hb]
   simp [zAA.setFuse]
  ·exact ((Chg.setCell w ⟨d,2,none⟩ _).trans (Chg.setCell _ ⟨d,3,none⟩ _) fun _ _ e=>e).mono fun k _ e=>by rw [e];exact has_d h
 have Hfin:=zh hfin
 clear hfin h
 by_cases hp:0≤n
 ·have hd:decide (0≤n)=true:=by simpa using hp
  go_enter Tryz.func40,Tryz.ntmps40
  go_wp2
  go_end0
  refine Hfin.out _ _ ?_ ?_
  ·simp [zAA.setFuse];omega
  ·intro k hk
   simp only [zAA.setFuse,if_neg (show ¬ n < 0 by omega),Option.some.injEq] at hk
   omega
 ·have hd:decide (0≤n)=false:=by simpa using hp
  have hp':n < 0:=by omega
  go_enter Tryz.func40,Tryz.ntmps40
  go_wp2
  go_end0
  refine Hfin.out _ _ ?_ ?_
  ·simp [zAA.setFuse,hp']
  ·intro k hk
   simp only [zAA.setFuse,if_pos hp'] at hk
   cases hk
/-! ### Crash -/
def part (rest:Lit→Bool) (k:Int) (fs:List (Bs × zAP)):List (Bs × zAP):=fs.map fun p=>(p.1,if rest (.string p.1) then p.2 else zAA.crashF k p.2)
theorem zDs {rest:Lit→Bool} {k:Int} {fs:List (Bs × zAP)} (h:Srt fs):Srt (part rest k fs):=by
 unfold Srt part
 rw [List.pairwise_map]
 exact h
theorem part_get (rest:Lit→Bool) (k:Int) (n:Bs) (fs:List (Bs × zAP)):Sat.get n (part rest k fs)=(Sat.get n fs).map fun f=>if rest (.string n) then f else zAA.crashF k f:=by
 unfold part Sat.get
 rw [List.find?_map]
 cases hf:List.find? ((fun p:Bs × zAP=>p.1 == n) ∘ fun p:Bs × zAP=>(p.1,if rest (.string p.1) then p.2 else zAA.crashF k p.2)) fs with
 | none =>
  have:List.find? (fun p:Bs × zAP=>p.1 == n) fs=none:=hf
  rw [this]
  rfl
 | some p =>
  have h1:List.find? (fun p:Bs × zAP=>p.1 == n) fs=some p:=hf
  have h2:=List.find?_some h1
  simp only [beq_iff_eq] at h2
  rw [h1]
  simp [h2]
theorem part_step {rest:Lit→Bool} {k:Int} {fs:List (Bs × zAP)} (h:Srt fs) {n:Bs} {f:zAP} (hg:Sat.get n fs=some f) :
  put n (zAA.crashF k f) (part rest k fs)=part (fun z=>rest z && !z.sameKey (.string n)) k fs:=by
 refine srt_ext (zBd (zDs h)) (zDs h) fun j=>?_
 by_cases hj:j=n
 ·subst hj
  rw [zBy (zDs h),part_get,hg,sk]
  simp
 ·rw [zB5 (zDs h) _ hj,part_get,part_get]
  have:(Lit.string j).sameKey (.string n)=false:=by rw [sk];simpa using hj
  rw [this]
  simp
theorem part_all {rest:Lit→Bool} {k:Int} {fs:List (Bs × zAP)} (h:∀ p ∈ fs,rest (.string p.1)=true):part rest k fs=fs:=by
 unfold part
 conv=>rhs;rw [← List.map_id fs]
 refine List.map_congr_left fun p hp=>?_
 rw [h p hp]
 rfl
theorem part_none {rest:Lit→Bool} {k:Int} {fs:List (Bs × zAP)} (h:∀ z,rest z=false):part rest k fs=mp (zAA.crashF k) fs:=by
 unfold part mp
 refine List.map_congr_left fun p _=>?_
 rw [h]
 rfl
theorem stays_le (f:zAP) (k:Int) (h:f.lasts≤f.data.length):f.lasts≤zAA.stays f k∧zAA.stays f k≤f.data.length:=by
 unfold zAA.stays
 have:=Nat.mod_lt (max 0 k).toNat (show 0 < f.data.length - f.lasts+1 by omega)
 omega
theorem ok_part {D:zAA} (h:D.OK) (rest:Lit→Bool) (k:Int):zAA.OK { D with files:=part rest k D.files } where
 srt:=zDs h.srt
 room:=h.room
 used:=by
  refine Nat.le_trans ?_ h.used
  show zBB zAA.size (part rest k D.files)≤zBB zAA.size D.files
  have hl:=h.lasts
  generalize D.files=fs at hl
  induction fs with
  | nil=>exact Nat.le_refl _
  | cons p r ih =>
   have h1:=ih fun q hq=>hl q (by simp [hq])
   have h2:=hl p (by simp)
   simp only [part,List.map_cons,zBB,List.sum_cons] at h1 ⊢
   have h3:zAA.size (if rest (.string p.1) then p.2 else zAA.crashF k p.2)≤zAA.size p.2:=by
    split
    ·exact Nat.le_refl _
    ·simp only [zAA.size,zAA.crashF,List.length_take]
     omega
   omega
 count:=by
  show (part rest k D.files).length≤4096
  simp only [part,List.length_map]
  exact h.count
 names p hp:=by
  obtain ⟨q,hq,rfl⟩:=List.mem_map.1 hp
  exact h.names q hq
 lasts p hp:=by
  obtain ⟨q,hq,rfl⟩:=List.mem_map.1 hp
  have h1:=h.lasts q hq
  show zAP.lasts (if rest (.string q.1) then q.2 else zAA.crashF k q.2)≤(if rest (.string q.1) then q.2 else zAA.crashF k q.2).data.length
  split
  ·exact h1
  ·have:=stays_le q.2 k h1
   simp only [zAA.crashF,List.length_take]
   omega
 fuse:=h.fuse
theorem ok_crash {D:zAA} (h:D.OK) (k:Int):(D.crash k).OK:=by
 have:=ok_part h (fun _=>false) k
 rw [part_none fun _=>rfl] at this
 exact ⟨this.srt,this.room,this.used,this.count,this.names,this.lasts,fun j hj=>by simp [zAA.crash] at hj⟩
theorem own_none (h:zAS w d m left L own D) {k:Nat} (hk:w.heap.size≤k):own k=none:=by
 cases ho:own k with
 | none=>rfl
 | some t=>have:=h.olt _ t ho;omega
structure CrashRel (w:World) (d m:Nat) (left:Int) (L:List (Bs × FRep)) (own:Own) (D:zAA) (k:Int) (wr:World):Prop where
 ex:∃ rest cnt L' own',wr.ranges Tryz.prog 9 ptrR m w.heap.size L.length (dm fbD L) rest cnt∧zAS wr d m left L' own' { D with files:=part rest k D.files }∧mp FRep.fb L'=mp FRep.fb L∧Chg (Has own) w wr∧Ext w own own'∧own' w.heap.size=none
theorem crash_walk (h:zAS w d m left L own D) (k:Int) (hk:-9223372036854775808≤k) (hk':k≤9223372036854775807) :
  Calls Tryz.prog 28 #[.pointer (some ⟨d,0,none⟩),.int .i64 k] w (Did w d own (D.crash k)):=by
 have h1:=h.c1
 have hown:=h.map
 have hsrt:=h.srt
 have hokD:=h.ok
 have hL:Hid (zAS w d m left L own D):=h
 clear h
 go_enter Tryz.func28,Tryz.ntmps28
 go_wp2_with (first | (at_range;refine wpList_range_own _ rfl _ 113 rfl 9 121 zBW Tryz.underlying113 ptrR m L.length (dm fbD L) rfl hown ?_;intro w0 hrg0 hg0 hs0))
 go_frame
 go_loopw [5] (fun _ wr=>CrashRel w d m left L own D k wr) (fun _ wr=>wr.rangeLeft m w.heap.size)
 case atStart =>
  refine ⟨_,_,L,own,hrg0,?_,rfl,(Chg.of_grown hg0).mono (fun _ _ e=>by cases e),zBl _ _,own_none hL.out (Nat.le_refl _)⟩
  have hd:=hL.out.chg (Chg.of_grown hg0) (fun _ e=>by cases e)
  have e1:part (Maps.has (dm fbD L)) k D.files=D.files:=part_all fun p hp=>by
   rw [hL.out.files] at hp
   obtain ⟨q,hq,rfl⟩:=List.mem_map.1 hp
   show Maps.has (dm fbD L) (.string q.1)=true
   rw [dm_has,zBo hsrt hq]
   rfl
  rw [e1]
  exact hd
 case round =>
  obtain ⟨rest,cnt,L',own',hrg,hd,hfb,hc,hx,hit⟩:=hrel.ex
  clear hrg0 hg0 hs0 hown hrel
  go_wp2_with (first | (at_next;refine zDC _ rfl _ rfl 9 Tryz.underlying9 zBW FRep.fb L m w.heap.size L.length _ _ rfl hrg ?_ ?_))
  ·intro hl
   rw [part_none hl] at hd
   have hc2:=hd.c2
   have hf2:=zAI hd.cells 2
   have hfin:Did w d own (D.crash k) (.returned (.tuple #[])) (wr.setCell ⟨d,2,none⟩ (.bool false)):=by
    refine ⟨own',rfl,⟨m,left,L',setTop hd (D':=D.crash k) (by simp [World.setCell]) (fun _ hk=>zAE _ hk) rfl rfl ?_ (fun j hj=>by simp [zAA.crash] at hj) (ok_crash hokD k)⟩,?_,hx⟩
    ·rw [zAO hd.cells]
     simp [zAA.crash]
    ·exact chg_ext hc hx ((Chg.setCell wr ⟨d,2,none⟩ _).mono fun _ _ e=>by rw [e];exact has_d hd)
   have Hfin:=zh hfin
   clear hfin hd hc hx hfb hl hrg hokD hsrt hit
   go_wp2
   go_end0
   exact Hfin.out
  ·intro s x w1 cnt1 hgt hl hs hrg1 hlt hg1 hs1 hen
   -- the file as it lies now
   have hnot:∀ j,some j=some w.heap.size→own' j=none:=fun j e=>by
    cases e
    exact hit
   have hd1:=hd.chg (Chg.of_grown hg1) hnot
   obtain ⟨r,hgr,hfbr⟩:∃ r,Sat.get (nm s) L'=some r∧r.fb=x.fb:=by
    have e1:(Sat.get (nm s) L').map FRep.fb=some x.fb:=by
     rw [← mp_get,hfb,mp_get,show Sat.get (nm s) L=some x from hgt]
     rfl
    exact Option.map_eq_some_iff.1 e1
   have hgf:Sat.get (nm s) D.files=some x.f:=by rw [hL.out.files,mp_get,show Sat.get (nm s) L=some x from hgt];rfl
   have hrf:r.f=x.f:=by
    have e1:(Sat.get (nm s) L').map FRep.f=some x.f:=by
     rw [← mp_get,← hd.files,part_get,hgf]
     simp only [Option.map_some,show rest (.string (nm s))=true from hl,if_true]
    rw [hgr] at e1
    exact Option.some.inj e1
   have hf1:=hd1.fileAt hgr
   have hcells:=hf1.cells
   rw [hrf,hfbr] at hcells
   obtain ⟨p,c,hv⟩:=OwnB.slice hf1.row
   have hcap:=OwnR.cap_le (by have:=hf1.row;unfold OwnB at this;rw [hv] at this;exact this)
   rw [hrf] at hv hcap
   have hlast:x.f.lasts≤x.f.data.length:=hokD.lasts _ (zBM hgf)
   have hlen:=data_le hd1 hgr
   rw [hrf] at hlen
   have hst:=stays_le x.f k hlast
   rw [hv] at hcells
   have hc0:=zAC (i:=0) hcells rfl
   have hc1:=zAC (i:=1) hcells rfl
   have hz0:=zAI hcells 0
   have hz1:=zAI hcells 1
   have hstays:zAA.stays x.f k=x.f.lasts+(max 0 k).toNat % (x.f.data.length - x.f.lasts+1):=rfl
   have hend:∀ nq,CrashRel w d m left L own D k (((w1.drewN nq).setCell ⟨x.fb,0,none⟩ (.slice p (zAA.stays x.f k) (zAA.stays x.f k))).setCell ⟨x.fb,1,none⟩ (.int .i64 ((zAA.stays x.f k:Nat):Int))) ∧
     (((w1.drewN nq).setCell ⟨x.fb,0,none⟩ (.slice p (zAA.stays x.f k) (zAA.stays x.f k))).setCell ⟨x.fb,1,none⟩ (.int .i64 ((zAA.stays x.f k:Nat):Int))).rangeLeft m w.heap.size < wr.rangeLeft m w.heap.size:=by
    intro nq
    have hd2:zAS (w1.drewN nq) d m left L' own' { D with files:=part rest k D.files }:=hd1.keep (Nat.le_refl _) fun _ _=>rfl
    have hcells2:(w1.drewN nq).heap[x.fb]?=some (.cells #[.slice p x.f.data.length c,.int .i64 (x.f.lasts:Int)] 123 (0,0)):=hcells
    have hrow:OwnR (w1.drewN nq) 5 1 (.slice p x.f.data.length c) x.f.data.length (zAN x.f.data):=by
     have:=(hd2.fileAt hgr).row
     rw [hrf,hv] at this
     exact this
    have hown:own' x.fb=some (2,nm s):=by
     have:=hf1.ob
     rw [hfbr] at this
     exact this
    have hne:∀ g,(Value.slice p (zAA.stays x.f k) (zAA.stays x.f k)).ownBlock=some g→g≠x.fb:=fun g hgv=>by
     have e1:r.v.ownBlock=some g:=by rw [hv,zBw p _ _ (zAA.stays x.f k) (zAA.stays x.f k)];exact hgv
     exact hd2.ne_of ((hd2.fileAt hgr).og g e1) hown (by simp)
    have hlen2:(x.f.data.take (zAA.stays x.f k)).length=zAA.stays x.f k:=by rw [List.length_take];omega
    have hmfb:m≠x.fb:=hd2.ne_of hd2.om hown (by simp)
    have hifb:w.heap.size≠x.fb:=fun e=>by rw [e,hown] at hit;cases hit
    obtain ⟨own'',h4,hx4⟩:=hd2.upd (w':=((w1.drewN nq).setCell ⟨x.fb,0,none⟩ (.slice p (zAA.stays x.f k) (zAA.stays x.f k))).setCell ⟨x.fb,1,none⟩ (.int .i64 ((zAA.stays x.f k:Nat):Int)))
     (v':=.slice p (zAA.stays x.f k) (zAA.stays x.f k)) (f':=zAA.crashF k x.f) hgr (by simp [World.setCell]) (fun j _ hj _=>by rw [hfbr] at hj;exact (zAE _ hj).trans (zAE _ hj))
     (by rw [hfbr,zAO (zAO hcells2 0 _) 1];simp [zAA.crashF])
     (by
      unfold OwnB
      show OwnR _ _ _ _ (x.f.data.take (zAA.stays x.f k)).length _
      rw [hlen2]
      show OwnR _ _ _ _ _ (zAN (x.f.data.take (zAA.stays x.f k)))
      rw [zDX]
      exact OwnR.keep (hrow.cut hst.2) fun g hgv=>(zAE _ (hne g hgv)).trans (zAE _ (hne g hgv)))
     (fun g hgv=>.inl (by rw [hv,zBw p _ _ (zAA.stays x.f k) (zAA.stays x.f k)];exact hgv))
     (by
      show zAA.OK { D with files:=put (nm s) (zAA.crashF k x.f) (part rest k D.files) }
      rw [part_step hokD.srt hgf]
      exact ok_part hokD _ k)
    have h5:zAS (((w1.drewN nq).setCell ⟨x.fb,0,none⟩ (.slice p (zAA.stays x.f k) (zAA.stays x.f k))).setCell ⟨x.fb,1,none⟩ (.int .i64 ((zAA.stays x.f k:Nat):Int))) d m left (put (nm s) ⟨r.fb,.slice p (zAA.stays x.f k) (zAA.stays x.f k),zAA.crashF k x.f⟩ L') own''
      { D with files:=part (fun z=>rest z && !z.sameKey (.string (nm s))) k D.files }:=by
     rw [← part_step hokD.srt hgf]
     exact h4
    have g1:=grown_set (w1.drewN nq) ⟨x.fb,0,none⟩ (.slice p (zAA.stays x.f k) (zAA.stays x.f k))
    have g2:=grown_set ((w1.drewN nq).setCell ⟨x.fb,0,none⟩ (.slice p (zAA.stays x.f k) (zAA.stays x.f k))) ⟨x.fb,1,none⟩ (.int .i64 ((zAA.stays x.f k:Nat):Int))
    have hrg2:(w1.drewN nq).ranges Tryz.prog 9 ptrR m w.heap.size L.length (dm fbD L) (fun z=>rest z && !z.sameKey (.string s.data.toList)) cnt1:=hrg1
    have hrg3:=(hrg2.kept g1 (by simpa using hmfb) (by simpa using hifb)).kept g2 (by simpa using hmfb) (by simpa using hifb)
    refine ⟨⟨_,_,_,own'',hrg3,h5,?_,?_,?_,?_⟩,?_⟩
    ·rw [mp_put,put_same (mp_srt hd2.srt) (by rw [mp_get,hgr];rfl),hfb]
    ·have c1:Chg (fun j=>j=x.fb∨j=w.heap.size) wr w1:=(Chg.of_grown hg1).mono fun j _ e=>.inr (by cases e;rfl)
     have c2:Chg (fun j=>j=x.fb∨j=w.heap.size) wr (w1.drewN nq):=⟨c1.os,c1.tape,c1.output,c1.size,c1.block⟩
     have c3:=(c2.trans (Chg.of_grown g1) fun j _ e=>.inl (by cases e;rfl)).trans (Chg.of_grown g2) fun j _ e=>.inl (by cases e;rfl)
     refine hc.trans c3 fun i hi e=>?_
     rcases e with e | e
     ·intro ho
      have:=hx i hi ho
      rw [e,hown] at this
      cases this
     ·omega
    ·exact ext_trans (Nat.le_trans hc.size hg1.size) hx hx4
    ·exact hx4 _ (by have:=hrg1.lt;exact this) hit
    ·rw [hrg3.left_eq,hrg.left_eq]
     exact hlt
   have Hend:=zh hend
   have Hst:=zh hst
   have Hstays:=zh hstays
   clear hend hd hd1 hgr hfbr hgf hrf hv hcells hc hx hit hg1 hrg1 hlt hrg hfb hf1 hgt hl hs hs1 hst hstays hsrt hokD hnot
   generalize x.f.data.length=n at *
   generalize x.f.lasts=l at *
   have e6:wrap64 ((l:Int)+max 0 k % ((n:Int) - (l:Int)+1))=((zAA.stays x.f k:Nat):Int):=by
    rw [Hstays.out]
    have e1:((n:Int) - (l:Int)+1)=((n - l+1:Nat):Int):=by omega
    have e2:max 0 k=(((max 0 k).toNat:Nat):Int):=by omega
    have e3:max 0 k % ((n:Int) - (l:Int)+1)=(((max 0 k).toNat % (n - l+1):Nat):Int):=by rw [e1,Int.natCast_emod,← e2]
    have h5:=Nat.mod_lt (max 0 k).toNat (show 0 < n - l+1 by omega)
    rw [e3,IntWalk.wrap64_in _ ⟨by omega,by omega⟩]
    omega
   have hsl:∀ W,(Instr.slice 22 (.slice p n c) none (some (.int .i64 ((zAA.stays x.f k:Nat):Int))) (some (.int .i64 ((zAA.stays x.f k:Nat):Int)))).run Tryz.prog W=.ok (.slice p (zAA.stays x.f k) (zAA.stays x.f k)) W:=fun W=>by
    obtain ⟨i0,hi,_⟩:=info_parts (show (Tryz.prog.info? 5).map (fun i=>(i.zero,i.size,i.bytes))=some (some (.int .u8 0),1,1) by kernel_rfl)
    exact run_cut W Tryz.underlying22 hi p n c _ (by have:=Hst.out;omega)
   have He6:=zh e6
   clear e6
   generalize zAA.stays x.f k=st at *
   go_wp2_with fail
   go_quiet (fail)
   rw [He6.out]
   go_wp2_with fail
   go_roundw
   case rel=>exact (Hend.out nq).1
   case measure=>exact (Hend.out nq).2
end
def St (w w1:World) (d:Nat) (D:zAA) (F:Nat→Prop):Prop :=
 ∃ own,zBe w1 d D own∧Below w.heap.size w w1∧(∀ k,k < w.heap.size∨F k→own k=none)∧∀ k,F k→k < w1.heap.size
def NoF:Nat→Prop:=fun _=>False
theorem St.below {w w1:World} {d:Nat} {D:zAA} {F:Nat→Prop} (h:St w w1 d D F):Below w.heap.size w w1:=let ⟨_,_,h,_⟩:=h;h
theorem St.ok {w w1:World} {d:Nat} {D:zAA} {F:Nat→Prop} (h:St w w1 d D F):D.OK:=let ⟨_,⟨_,_,_,h⟩,_⟩:=h;h.ok
theorem St.move {w w1 w2:World} {d:Nat} {D:zAA} {F F' S:Nat→Prop} (h:St w w1 d D F) (hc:Chg S w1 w2) (hS:∀ k,k < w1.heap.size→S k→F k∧w.heap.size≤k) (hF:∀ k,F' k→(F k∨w1.heap.size≤k)∧k < w2.heap.size):St w w2 d D F':=by
 obtain ⟨own,hd,hb1,hn,hl⟩:=h
 have hon:∀ k,w1.heap.size≤k→own k=none:=fun k hk=>by
  obtain ⟨m,left,L,hd⟩:=hd
  exact own_none hd hk
 refine ⟨own,hd.chg (hc.mono (T:=fun k=>S k∧k < w1.heap.size) fun k hk hs=>⟨hs,hk⟩) (fun k hs=>hn k (.inr (hS k hs.2 hs.1).1)),?_,fun k hk=>?_,fun k hk=>(hF k hk).2⟩
 ·exact ((Chg.of_below hb1).trans hc fun i hi hs=>by
   have h1:=(hS i (Nat.lt_of_lt_of_le hi hb1.size) hs).2
   omega).below (Nat.le_refl _) fun _ _=>id
 ·rcases hk with hk | hk
  ·exact hn k (.inl hk)
  ·rcases (hF k hk).1 with h1 | h1
   ·exact hn k (.inr h1)
   ·exact hon k h1
theorem St.next {w w1 w2:World} {d:Nat} {D:zAA} {F:Nat→Prop} (h:St w w1 d D F) (hb:Below w1.heap.size w1 w2):St w w2 d D F :=
 h.move (Chg.of_below hb) (fun _ _ h=>h.elim) fun k hk=>⟨.inl hk,by obtain ⟨_,_,_,_,hl⟩:=h;exact Nat.lt_of_lt_of_le (hl k hk) hb.size⟩
theorem St.alloc {w w1:World} {d:Nat} {D:zAA} {F:Nat→Prop} (h:St w w1 d D F) (o:Obj):St w (w1.alloc o) d D F:=h.next ((Below.refl _ _).alloc (Nat.le_refl _) o)
theorem St.drewN {w w1:World} {d:Nat} {D:zAA} {F:Nat→Prop} (h:St w w1 d D F) (n:Nat):St w (w1.drewN n) d D F:=h.next ⟨rfl,rfl,rfl,Nat.le_refl _,fun _ _=>rfl⟩
theorem St.noF {w w1:World} {d:Nat} {D:zAA} {F:Nat→Prop} (h:St w w1 d D F):St w w1 d D NoF:=h.move (S:=fun _=>False) (Chg.refl _ _) (fun _ _ h=>h.elim) fun _ h=>h.elim
def Same (F:Nat→Prop) (w1 w2:World):Prop:=∀ k,F k→w2.heap[k]?=w1.heap[k]?
theorem St.step {w w1 w2:World} {d:Nat} {own own':Own} {D':zAA} {F:Nat→Prop} (hb:Below w.heap.size w w1) (hn:∀ k,k < w.heap.size∨F k→own k=none) (hl:∀ k,F k→k < w1.heap.size) (hd:zBe w2 d D' own') (hc:Chg (Has own) w1 w2) (hx:Ext w1 own own') :
  St w w2 d D' F∧Same F w1 w2:=by
 refine ⟨⟨own',hd,((Chg.of_below hb).trans hc fun i hi hh=>(hh (hn i (.inl hi))).elim).below (Nat.le_refl _) fun _ _=>id,fun k hk=>?_,fun k hk=>Nat.lt_of_lt_of_le (hl k hk) hc.size⟩,fun k hk=>hc.block k (hl k hk) fun hh=>hh (hn k (.inr hk))⟩
 rcases hk with h1 | h1
 ·exact hx k (Nat.lt_of_lt_of_le h1 hb.size) (hn k (.inl h1))
 ·exact hx k (hl k h1) (hn k (.inr h1))
theorem HasB.old {w w1:World} {v:Value} {l:Bs} (h:HasB w v l) (hb:Below w.heap.size w w1):HasB w1 v l:=h.below hb
def Told (w:World) (d:Nat) (F:Nat→Prop) (w1:World) (r:zAA × Nat) (e:Ending) (w':World):Prop:=e=.returned (.int .i64 (r.2:Int))∧St w w' d r.1 F∧Same F w1 w'
def Told0 (w:World) (d:Nat) (F:Nat→Prop) (w1:World) (D:zAA) (e:Ending) (w':World):Prop:=e=.returned (.tuple #[])∧St w w' d D F∧Same F w1 w'
section
variable {w w1:World} {d:Nat} {D:zAA} {F:Nat→Prop}
theorem st_new (n:Int) (h0:0≤n) (h1:n≤1073741824) (hb:Below w.heap.size w w1) :
  Calls Tryz.prog 13 #[.int .i64 n] w1 fun e w'=>∃ d,e=.returned (.tuple #[.pointer (some ⟨d,0,none⟩),.int .i64 0])∧St w w' d (zAA.fresh n.toNat) NoF:=by
 refine (new_calls n w1 h0 h1).mono ?_
 rintro e w' ⟨d,own,rfl,hd,hc,hn⟩
 exact ⟨d,rfl,own,hd,((Chg.of_below hb).trans hc fun _ _ h=>h).below (Nat.le_refl _) fun _ _=>id,fun k hk=>by
  rcases hk with hk | hk
  ·exact hn k (Nat.lt_of_lt_of_le hk hb.size)
  ·exact hk.elim,fun _ h=>h.elim⟩
theorem st_append (h:St w w1 d D F) (s:ByteArray) (x:Value) (ls:List Bs) (hx:zBA w1 x ls) (hn:ls.length≤140737488355328) (hl:ls.flatten.length≤140737488355328) (hsz:s.size≤9223372036854775807) :
  Calls Tryz.prog 15 #[.pointer (some ⟨d,0,none⟩),.string s,x] w1 (Told w d F w1 (D.append (nm s) ls.flatten)):=by
 obtain ⟨own,hd,hb,hnn,hF⟩:=h
 refine (append_calls hd s x ls hx hn hl hsz).mono ?_
 rintro e w' ⟨own',rfl,hd',hc,hx⟩
 exact ⟨rfl,St.step hb hnn hF hd' hc hx⟩
theorem own_new {own:Own} (h:zBe w1 d D own) {k:Nat} (hk:w1.heap.size≤k):own k=none:=by
 obtain ⟨m,left,L,h⟩:=h
 exact own_none h hk
theorem strs_new (w:World) (ss:List ByteArray) (g:Nat) (hg:g=w.heap.size) (e:TypeId) (fr:Nat × Nat):zC2 (w.alloc (.cells (ss.map Value.string).toArray e fr)) (some ⟨g,0,none⟩) ss:=by
 subst hg
 refine .inr ⟨_,_,rfl,fun i u hu=>?_⟩
 refine zAC (zAW w _) ?_
 simp [hu]
theorem st_sync (h:St w w1 d D F) (ss:List ByteArray) (g c:Nat) (hg:g=w1.heap.size) (fr:Nat × Nat) (hm:ss.length≤140737488355328) (hsz:∀ s ∈ ss,s.size≤9223372036854775807) :
  Calls Tryz.prog 130 #[.pointer (some ⟨d,0,none⟩),.slice (some ⟨g,0,none⟩) ss.length c] (w1.alloc (.cells (ss.map Value.string).toArray 9 fr)) (Told w d F (w1.alloc (.cells (ss.map Value.string).toArray 9 fr)) (D.sync (ss.map nm))):=by
 obtain ⟨own,hd,hb,hnn,hF⟩:=h
 have hd1:=hd.chg (Chg.alloc w1 (.cells (ss.map Value.string).toArray 9 fr)) (fun _ h=>h.elim)
 refine (sync_calls hd1 (some ⟨g,0,none⟩) ss c (strs_new w1 ss g hg _ fr) hm hsz (fun a ha=>by cases ha;exact own_new hd (by rw [hg];exact Nat.le_refl _))).mono ?_
 rintro e w' ⟨own',rfl,hd',hc,hx⟩
 exact ⟨rfl,St.step (hb.alloc hb.size _) hnn (fun k hk=>by have:=hF k hk;simp;omega) hd' hc hx⟩
theorem st_remove (h:St w w1 d D F) (ss:List ByteArray) (g c:Nat) (hg:g=w1.heap.size) (fr:Nat × Nat) (hm:ss.length≤140737488355328) (hsz:∀ s ∈ ss,s.size≤9223372036854775807) :
  Calls Tryz.prog 76 #[.pointer (some ⟨d,0,none⟩),.slice (some ⟨g,0,none⟩) ss.length c] (w1.alloc (.cells (ss.map Value.string).toArray 9 fr)) (Told w d F (w1.alloc (.cells (ss.map Value.string).toArray 9 fr)) (D.remove (ss.map nm))):=by
 obtain ⟨own,hd,hb,hnn,hF⟩:=h
 have hd1:=hd.chg (Chg.alloc w1 (.cells (ss.map Value.string).toArray 9 fr)) (fun _ h=>h.elim)
 refine (remove_calls hd1 (some ⟨g,0,none⟩) ss c (strs_new w1 ss g hg _ fr) hm hsz (fun a ha=>by cases ha;exact own_new hd (by rw [hg];exact Nat.le_refl _))).mono ?_
 rintro e w' ⟨own',rfl,hd',hc,hx⟩
 exact ⟨rfl,St.step (hb.alloc hb.size _) hnn (fun k hk=>by have:=hF k hk;simp;omega) hd' hc hx⟩
theorem st_crash (h:St w w1 d D F) (k:Int) (hk:-9223372036854775808≤k) (hk':k≤9223372036854775807) :
  Calls Tryz.prog 28 #[.pointer (some ⟨d,0,none⟩),.int .i64 k] w1 (Told0 w d F w1 (D.crash k)):=by
 obtain ⟨own,⟨m,left,L,hd⟩,hb,hnn,hF⟩:=h
 refine (crash_walk hd k hk hk').mono ?_
 rintro e w' ⟨own',rfl,hd',hc,hx⟩
 exact ⟨rfl,St.step hb hnn hF hd' hc hx⟩
theorem st_fuse (h:St w w1 d D F) (n:Int) (hn0:-9223372036854775808≤n) (hn:n≤9223372036854775807) :
  Calls Tryz.prog 40 #[.pointer (some ⟨d,0,none⟩),.int .i64 n] w1 (Told0 w d F w1 (D.setFuse n)):=by
 obtain ⟨own,hd,hb,hnn,hF⟩:=h
 refine (fuse_calls hd n hn hn0).mono ?_
 rintro e w' ⟨own',rfl,hd',hc,hx⟩
 exact ⟨rfl,St.step hb hnn hF hd' hc hx⟩
def GotB (w:World) (d:Nat) (D:zAA) (F:Nat→Prop) (w1:World) (o:Option zAP) (e:Ending) (w':World):Prop :=
 ∃ v,e=.returned (.tuple #[v,.int .i64 (readE o)])∧OwnB w' 5 v (zCH o)∧(∀ k,v.ownBlock=some k→w1.heap.size≤k)∧Below w1.heap.size w1 w'∧St w w' d D F
theorem st_read (h:St w w1 d D F) (s:ByteArray) (hs:s.size≤9223372036854775807) :
  Calls Tryz.prog 75 #[.pointer (some ⟨d,0,none⟩),.string s] w1 (GotB w d D F w1 (Sat.get (nm s) D.files)):=by
 have h0:=h
 obtain ⟨own,hd,hb,hnn,hF⟩:=h
 refine (read_calls hd s hs).mono ?_
 rintro e w' ⟨v,rfl,hv,hn,hb'⟩
 exact ⟨v,rfl,hv,hn,hb',h0.next hb'⟩
end
/-! ### What a law lays itself -/
theorem has_lit {w:World} {e:TypeId} {fr:Nat × Nat} (cs:Array Value) (l:Bs) (g n c:Nat) (hg:g=w.heap.size) (hn:n=l.length) (h:cs.toList=zAN l):HasB (w.alloc (.cells cs e fr)) (.slice (some ⟨g,0,none⟩) n c) l:=by
 subst hg
 subst hn
 refine ⟨by simp [zAN],some ⟨w.heap.size,0,none⟩,c,rfl,fun e=>(by cases e),fun a ha i u hu=>?_⟩
 cases ha
 rw [add_zero]
 refine zAC (zAW w _) ?_
 rw [← h] at hu
 simpa using hu
theorem zDl {w:World} {v:Value} {l:Bs} (h:HasB w v l) (o:Obj):HasB (w.alloc o) v l:=h.chg (Chg.alloc w o) fun _ _=>id
theorem zCT {w:World} {v:Value} {l:Bs} (h:HasB w v l) (e:TypeId) (fr:Nat × Nat) (g c:Nat) (hg:g=w.heap.size) (hc:1≤c):zBA (w.alloc (.cells #[v] e fr)) (.slice (some ⟨g,0,none⟩) 1 c) [l]:=by
 subst hg
 refine ⟨_,c,rfl,by simpa using hc,fun _=>⟨_,_,[v],rfl,rfl,fun i u hu=>?_,fun i u m hu hm=>?_⟩⟩
 ·rw [add_zero]
  refine zAC (zAW w _) ?_
  simpa using hu
 ·have hi:i=0:=by
   have:=(List.getElem?_eq_some_iff.1 hu).1
   simpa using this
  subst hi
  simp at hu hm
  subst hu
  subst hm
  exact (zDl h _).kit
end Go.Proofs.YtapfnehdgailmaaGreat
namespace Go.Sat
open Go.RowKit
theorem HasB.at {w:World} {v:Value} {l:Bs} (h:HasB w v l):l=[]∨∃ b o c,v=.slice (some ⟨b,o,none⟩) l.length c∧∀ i x,l[i]?=some x→w.cell? ⟨b,o+i,none⟩=some (.int .u8 (x.toNat:Int)):=by
 obtain ⟨p,c,rfl,h0,hc⟩:=h.kit
 cases p with
 | none=>exact .inl (h0 rfl)
 | some a =>
  cases l with
  | nil=>exact .inl rfl
  | cons x r =>
   obtain ⟨b,o,sp⟩:=a
   have h1:=hc _ rfl 0 x (by simp)
   have hsp:sp=none:=by
    have:=World.cell?_spot h1
    simpa [Addr.add] using this
   subst hsp
   refine .inr ⟨b,o,c,rfl,fun i y hy=>?_⟩
   have h2:=hc _ rfl i y hy
   have e:(⟨b,o,none⟩:Addr).add i=⟨b,o+i,none⟩:=by unfold Addr.add;split <;> simp_all
   rw [← e]
   exact h2
end Go.Sat
namespace Go.Proofs.YtapfnehdgailmaaGreat
open Go.RowKit Go.Sat Go.Maps
def True3 (w:World) (e:Ending) (w':World):Prop:=e=.returned (.bool true)∧Below w.heap.size w w'
def sA:ByteArray:=⟨#[97]⟩
def b5:Bs:=[49,50,51,52,53]
def b3:Bs:=[54,55,56]
def b6:Bs:=[49,50,51,52,53,54]
def K0:zAA:=zAA.fresh 100
def K1:zAA:=(K0.append [97] b5).1
def K2:zAA:=(K1.sync [[97]]).1
def K3:zAA:=(K2.append [97] b3).1
theorem k1:(K0.append (nm sA) [b5].flatten)=(K1,0):=by rfl
theorem k2:(K1.sync ([sA].map nm))=(K2,0):=by rfl
theorem k3:(K2.append (nm sA) [b3].flatten)=(K3,0):=by rfl
theorem k4:Sat.get (nm sA) (K3.crash 1).files=some ⟨b6,6⟩:=by rfl
end Go.Proofs.YtapfnehdgailmaaGreat
namespace Go.Sat
open Go.RowKit
theorem zAY.cut {w:World} {p:Option Addr} {n c:Nat} {xs:List Value} (h:zAY w 1 (.slice p n c) n xs) {k:Nat} (hk:k≤n) (c':Nat):zAY w 1 (.slice p k c') k (xs.take k):=by
 obtain ⟨hl,p',cap,e,h0,hc⟩:=h
 cases e
 refine ⟨by rw [List.length_take];omega,p,c',rfl,fun e=>?_,fun a ha i u hu=>hc a ha i u ?_⟩
 ·have:=h0 e
  omega
 ·rw [List.getElem?_take] at hu
  split at hu
  ·exact hu
  ·cases hu
theorem HasB.cut {w:World} {p:Option Addr} {n c:Nat} {l:Bs} (h:HasB w (.slice p n c) l) {k:Nat} (hk:k≤l.length) (c':Nat):HasB w (.slice p k c') (l.take k):=by
 obtain ⟨p',c2,e⟩:=h.slice
 cases e
 unfold HasB at h ⊢
 have e1:(l.take k).length=k:=by rw [List.length_take];omega
 rw [e1,zDX]
 exact zAY.cut h hk c'
theorem zBx {P:Program} (w:World) {t e:TypeId} {i:TypeInfo} (ht:P.underlying t=some (.slice e)) (hi:P.info? e=some i) (a:Option Addr) (len cap k:Nat) (h:k≤cap) :
  (Instr.slice t (.slice a len cap) none (some (.int .i64 (k:Int))) none).run P w=.ok (.slice a k cap) w:=by
 have h1:(Instr.sliceBound (.int .i64 (k:Int)) cap .sliceAcap).run P w=.ok k w:=by
  rw [run_sliceBound _ _ _ _ _ (by omega) (by omega)]
  simp
 have h3:(if cap=0 then a else a.map fun x=>x.add (0 * i.size))=a:=by
  split
  ·rfl
  ·cases a <;> simp [Addr.add]
 simp only [Nat.zero_mul] at h3
 simp [Instr.slice,run_underlying ht,Instr.sliceBounds,h1,sizeOf,typeInfo,hi,Result.andThen,h3]
theorem OwnB.shape {w:World} {e:TypeId} {v:Value} {l:Bs} (h:OwnB w e v l):v=.slice none 0 0∨∃ g c,v=.slice (some ⟨g,0,none⟩) l.length c:=by
 rcases h.2 with ⟨rfl,_⟩ | ⟨g,cap,cur,rfl,_⟩
 ·exact .inl rfl
 ·exact .inr ⟨g,cap,rfl⟩
end Go.Sat
namespace Go.Proofs.YtapfnehdgailmaaGreat
open Go.RowKit Go.Sat Go.Maps
theorem zBA.row {w:World} {p:Option Addr} {n c:Nat} {ls:List Bs} (h:zBA w (.slice p n c) ls) {k:Nat} (hk:k < ls.length) :
  n=ls.length∧∃ b o v,p=some ⟨b,o,none⟩∧w.cell? ⟨b,o+k,none⟩=some v∧HasB w v ls[k]:=by
 obtain ⟨p',c',e,hc,hP⟩:=h
 cases e
 have hne:ls≠[]:=fun e=>by rw [e] at hk;simp at hk
 obtain ⟨b,o,vs,rfl,h1,h2,h3⟩:=hP hne
 have hkv:k < vs.length:=by rw [h1];exact hk
 have e1:(⟨b,o,none⟩:Addr).add k=⟨b,o+k,none⟩:=by unfold Addr.add;split <;> simp_all
 refine ⟨rfl,b,o,vs[k],rfl,?_,HasB.of_kit (h3 k _ _ (List.getElem?_eq_getElem hkv) (List.getElem?_eq_getElem hk))⟩
 rw [← e1]
 exact h2 k _ (List.getElem?_eq_getElem hkv)
theorem zBA.len {w:World} {p:Option Addr} {n c:Nat} {ls:List Bs} (h:zBA w (.slice p n c) ls):n=ls.length:=by
 obtain ⟨p',c',e,_⟩:=h
 cases e
 rfl
/-! ### The disk behind k rounds -/
theorem flat_take {ls:List Bs} {k:Nat} (hk:k < ls.length):(ls.take (k+1)).flatten=(ls.take k).flatten ++ ls[k]:=by
 rw [List.take_succ_eq_append_getElem hk,List.flatten_append]
 simp
theorem flat_take_le (ls:List Bs) (k:Nat):(ls.take k).flatten.length≤ls.flatten.length:=by
 conv=>rhs;rw [← List.take_append_drop k ls,List.flatten_append,List.length_append]
 omega
def bitF (z:Int):Int:=bits .xor .u32 (z / 2) (bits .and .u32 3988292384 (-bits .and .u32 z 1 % 4294967296))
def zDm:Nat→Int→Int
 | 0,z=>z
 | k+1,z=>bitF (zDm k z)
def byteF (v:Int) (c:UInt8):Int:=zDm 8 (bits .xor .u32 v (c.toNat:Int))
def rowF (v:Int) (l:Bs):Int:=l.foldl byteF v
def rowsF (ls:List Bs):Int:=ls.foldl rowF 4294967295
theorem rowF_take (v:Int) (l:Bs) {j:Nat} (hj:j < l.length):rowF v (l.take (j+1))=byteF (rowF v (l.take j)) l[j]:=by
 rw [List.take_succ_eq_append_getElem hj]
 simp only [rowF,List.foldl_append,List.foldl_cons,List.foldl_nil]
theorem rowsF_take (ls:List Bs) {k:Nat} (hk:k < ls.length):rowsF (ls.take (k+1))=rowF (rowsF (ls.take k)) ls[k]:=by
 rw [List.take_succ_eq_append_getElem hk]
 simp only [rowsF,List.foldl_append,List.foldl_cons,List.foldl_nil]
theorem rowsF_flat (ls:List Bs):rowsF ls=rowF 4294967295 ls.flatten:=by
 unfold rowsF rowF
 rw [List.foldl_flatten]
def sumF (l:Bs):Int:=bits .xor .u32 IntKind.u32.max (rowF 4294967295 l)
theorem sum_calls {w:World} {p:Option Addr} {n c:Nat} {ls:List Bs} (hx:zBA w (.slice p n c) ls) (hn:n≤140737488355328) (hrow:∀ l ∈ ls,l.length≤140737488355328) :
  Calls Tryz.prog 181 #[.slice p n c] w (fun e w'=>e=.returned (.int .u32 (sumF ls.flatten))∧w'=w):=by
 have hnl:=zBA.len hx
 have Hx:=zh hx
 have Hrow:=zh hrow
 have Hnl:=zh hnl
 clear hx hrow hnl
 go_enter Tryz.func181,Tryz.ntmps181
 go_wp2_with fail
 go_loop [3,10] (fun v i=>∃ k:Nat,k≤n∧i=.int .i64 k∧v=.int .u32 (rowsF (ls.take k))) (fun _ i=>n - (intOf i).toNat)
 case atStart=>exact ⟨0,Nat.zero_le _,rfl,rfl⟩
 case round =>
  obtain ⟨k,hk,rfl,rfl⟩:=hrel
  by_cases hlt:k < n
  ·have hltl:k < ls.length:=by rw [← Hnl.out];exact hlt
   have Hrw:=zh (rowsF_take ls hltl)
   obtain ⟨-,b,o,v,rfl,hcell,hv⟩:=zBA.row Hx.out hltl
   have hrl:=Hrow.out _ (List.getElem_mem hltl)
   generalize hl:ls[k]=l at *
   have Hat:=zh hv.at
   obtain ⟨pv,cv,rfl⟩:=hv.slice
   generalize hm:l.length=m at *
   generalize rowsF (ls.take k)=x at *
   have Hm:=zh hm
   clear hv hm hl
   go_wp2_with fail
   go_loop [3,16] (fun v i=>∃ j:Nat,j≤m∧i=.int .i64 j∧v=.int .u32 (rowF x (l.take j))) (fun _ i=>m - (intOf i).toNat)
   case atStart=>exact ⟨0,Nat.zero_le _,rfl,rfl⟩
   case round =>
    obtain ⟨j,hj,rfl,rfl⟩:=hrel
    by_cases hlj:j < m
    ·have hljl:j < l.length:=by rw [Hm.out];exact hlj
     have Hbt:=zh (rowF_take x l hljl)
     rcases Hat.out with h | ⟨b2,o2,c2,e1,hcx⟩
     ·rw [h] at hljl
      simp at hljl
     cases e1
     have hcb:=hcx j _ (List.getElem?_eq_getElem hljl)
     generalize l[j]=cc at *
     generalize rowF x (l.take j)=y at *
     have hcc:cc.toNat < 256:=cc.toNat_lt
     clear hcx
     go_wp2_with fail
     have HB:=zh (show byteF y cc=zDm 8 (bits .xor .u32 y (cc.toNat:Int)) from rfl)
     generalize bits .xor .u32 y (cc.toNat:Int)=z0 at *
     go_loop [3,24] (fun v i=>∃ q:Nat,q≤8∧i=.int .i64 q∧v=.int .u32 (zDm q z0)) (fun _ i=>8 - (intOf i).toNat)
     case atStart=>exact ⟨0,Nat.zero_le _,rfl,rfl⟩
     case round =>
      obtain ⟨q,hq,rfl,rfl⟩:=hrel
      by_cases hlq:q < 8
      ·have Hit:=zh (show zDm (q+1) z0=bitF (zDm q z0) from rfl)
       generalize zDm q z0=z at *
       go_wp2_with fail
       go_round
       case rel=>exact ⟨q+1,by omega,by go_num,by rw [Hit.out];rfl⟩
       case measure=>simp [intOf];omega
      ·have hq8:q=8:=by omega
       subst hq8
       go_wp2_with fail
       go_round
       case rel=>exact ⟨j+1,by omega,by go_num,by rw [Hbt.out,HB.out]⟩
       case measure=>simp [intOf];omega
    ·have hjm:j=m:=by omega
     have hlk:l.take j=l:=List.take_of_length_le (by rw [Hm.out];omega)
     rw [hlk]
     clear hlk
     go_wp2_with fail
     go_round
     case rel=>exact ⟨k+1,by omega,by go_num,by rw [Hrw.out]⟩
     case measure=>simp [intOf];omega
  ·have hlk:ls.take k=ls:=List.take_of_length_le (by have:=Hnl.out;omega)
   rw [hlk]
   clear hlk
   have He:=zh (show sumF ls.flatten=bits .xor .u32 IntKind.u32.max (rowsF ls) by rw [rowsF_flat];rfl)
   generalize rowsF ls=x at *
   go_wp2_with fail
   go_ret
   exact ⟨by rw [He.out];rfl,rfl⟩
def zAk (n:Nat):Bs:=[UInt8.ofNat n,UInt8.ofNat (n / 256),UInt8.ofNat (n / 65536),UInt8.ofNat (n / 16777216)]
def NewB (w:World) (l:Bs) (e:Ending) (w':World):Prop:=∃ v,e=.returned v∧HasB w' v l∧Below w.heap.size w w'
theorem four_calls {w:World} (v:Nat) (h1:v < 4294967296) :
  Calls Tryz.prog 180 #[.int .u32 (v:Int)] w (NewB w (zAk v)):=by
 have hfin:NewB w (zAk v) (.returned (.slice (some ⟨w.heap.size,0,none⟩) 4 4)) (w.alloc (.cells #[.int .u8 ((v:Int) % 256),.int .u8 ((v:Int) / 256 % 256),.int .u8 ((v:Int) / 65536 % 256),.int .u8 ((v:Int) / 16777216)] 5)) :=
  ⟨_,rfl,has_lit _ (zAk v) _ _ 4 rfl rfl (by
   simp only [zAk,zAN,List.map_cons,List.map_nil,UInt8.toNat_ofNat']
   have e1:(v:Int) / 16777216=((v / 16777216 % 256:Nat):Int):=by omega
   have e2:(v:Int) % 256=((v % 256:Nat):Int):=by omega
   have e3:(v:Int) / 256 % 256=((v / 256 % 256:Nat):Int):=by omega
   have e4:(v:Int) / 65536 % 256=((v / 65536 % 256:Nat):Int):=by omega
   rw [e1,e2,e3,e4]),(Below.refl _ _).alloc (Nat.le_refl _) _⟩
 have Hfin:=zh hfin
 clear hfin
 go_enter Tryz.func180,Tryz.ntmps180
 go_wp2_with fail
 go_ret
 exact Hfin.out
theorem or_add (k a b:Nat) (h:a < 2 ^ k):(a ||| b * 2 ^ k)=a+b * 2 ^ k:=by
 have:=Nat.two_pow_add_eq_or_of_lt h b
 rw [Nat.or_comm,Nat.mul_comm b,← this,Nat.add_comm]
theorem or_four {x0 x1 x2 x3:Nat} (l0:x0 < 2 ^ 8) (l1:x1 < 2 ^ 8) (l2:x2 < 2 ^ 8) (l3:x3 < 2 ^ 8) :
  bits .or .u32 (bits .or .u32 (bits .or .u32 (x0:Int) ((x1:Int) * 256)) ((x2:Int) * 65536)) ((x3:Int) * 16777216)=((x0+x1 * 256+x2 * 65536+x3 * 16777216:Nat):Int):=by
 have e1:(x1:Int) * 256=((x1 * 2 ^ 8:Nat):Int):=by omega
 have e2:(x2:Int) * 65536=((x2 * 2 ^ 16:Nat):Int):=by omega
 have e3:(x3:Int) * 16777216=((x3 * 2 ^ 24:Nat):Int):=by omega
 rw [e1,e2,e3,u32_or_nat _ _ (by omega) (by omega),or_add 8 x0 x1 (by omega),u32_or_nat _ _ (by omega) (by omega),or_add 16 _ x2 (by omega),u32_or_nat _ _ (by omega) (by omega),or_add 24 _ x3 (by omega)]
def ofFour (a0 a1 a2 a3:UInt8):Nat:=a0.toNat+a1.toNat * 256+a2.toNat * 65536+a3.toNat * 16777216
theorem of_four (n:Nat) (h:n < 4294967296):ofFour (UInt8.ofNat n) (UInt8.ofNat (n / 256)) (UInt8.ofNat (n / 65536)) (UInt8.ofNat (n / 16777216))=n:=by
 simp only [ofFour,UInt8.toNat_ofNat']
 omega
theorem fromFour_calls {w:World} {b o n c:Nat} {a0 a1 a2 a3:UInt8} (hn:4≤n) (h0:w.cell? ⟨b,o,none⟩=some (.int .u8 (a0.toNat:Int))) (h1:w.cell? ⟨b,o+1,none⟩=some (.int .u8 (a1.toNat:Int)))
  (h2:w.cell? ⟨b,o+2,none⟩=some (.int .u8 (a2.toNat:Int))) (h3:w.cell? ⟨b,o+3,none⟩=some (.int .u8 (a3.toNat:Int))) :
  Calls Tryz.prog 205 #[.slice (some ⟨b,o,none⟩) n c] w (fun e w'=>e=.returned (.int .u32 (ofFour a0 a1 a2 a3:Int))∧∃ q,w'=w.drewN q):=by
 have l0:=a0.toNat_lt
 have l1:=a1.toNat_lt
 have l2:=a2.toNat_lt
 have l3:=a3.toNat_lt
 have i0:(0:Int) < (n:Int):=by omega
 have i1:(1:Int) < (n:Int):=by omega
 have i2:(2:Int) < (n:Int):=by omega
 have i3:(3:Int) < (n:Int):=by omega
 have hF:=or_four l0 l1 l2 l3
 have HF:=zh (show bits .or .u32 (bits .or .u32 (bits .or .u32 (a0.toNat:Int) ((a1.toNat:Int) * 256)) ((a2.toNat:Int) * 65536)) ((a3.toNat:Int) * 16777216)=(ofFour a0 a1 a2 a3:Int) from hF)
 clear hF
 generalize ofFour a0 a1 a2 a3=r at *
 generalize a0.toNat=x0 at *
 generalize a1.toNat=x1 at *
 generalize a2.toNat=x2 at *
 generalize a3.toNat=x3 at *
 go_enter Tryz.func205,Tryz.ntmps205
 go_wp2_with fail
 go_quiet (fail)
 go_wp2
 go_ret
 exact ⟨by rw [← HF.out];rfl,_,rfl⟩
def sumN (l:Bs):Nat:=(sumF l).toNat
theorem sumF_range (l:Bs):0≤sumF l∧sumF l < 4294967296:=by
 unfold sumF bits
 rw [IntKind.wrap_u32]
 omega
theorem zCA (l:Bs):sumF l=(sumN l:Int):=by
 have:=(sumF_range l).1
 unfold sumN
 omega
theorem zDf (l:Bs):sumN l < 4294967296:=by
 have:=sumF_range l
 unfold sumN
 omega
theorem rows_two {w:World} {v1 v2:Value} {l1 l2:Bs} (h1:HasB w v1 l1) (h2:HasB w v2 l2) (e:TypeId) (fr:Nat × Nat) (g c:Nat) (hg:g=w.heap.size) (hc:2≤c):zBA (w.alloc (.cells #[v1,v2] e fr)) (.slice (some ⟨g,0,none⟩) 2 c) [l1,l2]:=by
 subst hg
 refine ⟨_,c,rfl,by simpa using hc,fun _=>⟨_,_,[v1,v2],rfl,rfl,fun i u hu=>?_,fun i u m hu hm=>?_⟩⟩
 ·have e1:(⟨w.heap.size,0,none⟩:Addr).add i=⟨w.heap.size,i,none⟩:=by unfold Addr.add;split <;> simp_all
  rw [e1]
  refine zAC (zAW w _) ?_
  simpa using hu
 ·have hi:i < 2:=by
   have:=(List.getElem?_eq_some_iff.1 hu).1
   simpa using this
  have:i=0∨i=1:=by omega
  rcases this with rfl | rfl
  ·simp at hu hm
   subst hu
   subst hm
   exact (zDl h1 _).kit
  ·simp at hu hm
   subst hu
   subst hm
   exact (zDl h2 _).kit
theorem zB4 (w:World) (o:Obj):Below w.heap.size w (w.alloc o):=(Below.refl _ _).alloc (Nat.le_refl _) o
theorem zAm {w w1 w2:World} (h:Below w.heap.size w w1) (k:Below w1.heap.size w1 w2):Below w.heap.size w w2:=h.trans (k.mono h.size)
def zBb (n:Nat):Bs:=zAk n ++ zAk (sumN (zAk n))
theorem head_calls {w:World} (n:Nat) (h:n < 4294967296) :
  Calls Tryz.prog 179 #[.int .u32 (n:Int)] w (NewB w (zBb n)):=by
 have Hf:=zh (fun w=>four_calls (w:=w) n h)
 go_enter Tryz.func179,Tryz.ntmps179
 go_wp2_with fail
 refine (Hf.out _).mono ?_
 rintro e w1 ⟨v1,rfl,hv1,hb1⟩
 have V1:=zh hv1
 have B1:=zh hb1
 clear hv1 hb1
 go_wp2_with fail
 refine (Hf.out _).mono ?_
 rintro e w2 ⟨v2,rfl,hv2,hb2⟩
 have V2:=zh hv2
 have B2:=zh hb2
 obtain ⟨p2,c2,rfl⟩:=hv2.slice
 clear hv2 hb2
 go_wp2_with fail
 refine (sum_calls (zCT V2.out 22 (0,0) _ 1 rfl (Nat.le_refl _)) (by decide) (by simp [zAk])).mono ?_
 rintro e w3 ⟨rfl,rfl⟩
 rw [show [zAk n].flatten=zAk n by simp,zCA]
 have Hg:=zh (fun w=>four_calls (w:=w) (sumN (zAk n)) (zDf _))
 have Hh:=zh (show zBb n=zAk n ++ zAk (sumN (zAk n)) from rfl)
 generalize sumN (zAk n)=q at *
 go_wp2_with fail
 refine (Hg.out _).mono ?_
 rintro e w4 ⟨v4,rfl,hv4,hb4⟩
 have B2':=zAm B1.out (zAm B2.out (zAm (zB4 _ _) hb4))
 have V1':=V1.out.below (zAm B2.out (zAm (zB4 _ _) hb4))
 obtain ⟨p1,c1,rfl⟩:=V1.out.slice
 obtain ⟨p4,c4,rfl⟩:=hv4.slice
 have hj:=zBp (rows_two V1' hv4 22 (0,0) _ 2 rfl (Nat.le_refl _)) (by simp) (by simp [zAk])
 have Hj:=zh hj
 have BB:=zh B2'
 clear hj V1' B2' hv4 hb4
 go_wp2_with fail
 refine Hj.out.mono ?_
 rintro e w5 ⟨v5,rfl,hv5,hb5⟩
 have Hfin:=zh (show NewB w (zBb n) (.returned v5) w5 from ⟨v5,rfl,by rw [Hh.out];simpa using hv5,zAm BB.out (zAm (zB4 _ _) hb5)⟩)
 clear hv5 hb5
 go_wp2_with fail
 go_ret
 exact Hfin.out
end Go.Proofs.YtapfnehdgailmaaGreat
namespace Go.Proofs.YtapfnehdgailmaaGreat
open Go.RowKit Go.Sat
theorem fresh_ge {B:Nat} {w:World} {v:Value} {l:Bs} (h:Lib.FreshBytes B w v l):∀ k,v.ownBlock=some k→B≤k:=by
 obtain ⟨g,cap,zs,rfl,h1,_⟩:=h
 intro k hk
 cases hk
 exact h1
theorem bjoin_new {w:World} {x:Value} {ls:List Bs} (h:zBA w x ls) (hn:ls.length≤140737488355328) (hl:ls.flatten.length≤140737488355328) :
  Calls Tryz.prog 145 #[x,.slice none 0 0] w fun e w'=>∃ v,e=.returned v∧HasB w' v ls.flatten∧(∀ k,v.ownBlock=some k→w.heap.size≤k)∧Below w.heap.size w w':=by
 obtain ⟨p,c,rfl,hc,hQ⟩:=h
 cases ls with
 | nil =>
  refine (Tryz.bytes_Join_none p c (.slice none 0 0) w).mono ?_
  rintro e w' ⟨rfl,rfl⟩
  refine ⟨_,rfl,?_,fun k hk=>(by simp [Value.ownBlock] at hk;omega),(Below.refl _ _).alloc (Nat.le_refl _) _⟩
  exact HasB.of_kit ⟨_,_,rfl,fun e=>(by cases e),fun a ha i x hx=>by simp at hx⟩
 | cons l0 r =>
  obtain ⟨b,o,vs,rfl,hP⟩:=hQ (by simp)
  cases r with
  | nil =>
   obtain ⟨p0,c0,l0',e0,hcell,hp0,hcs⟩:=hP.get 0 (by simp)
   simp at e0
   subst e0
   have hcell':w.cell? ⟨b,o,none⟩=some (.slice p0 l0.length c0):=by simpa [Addr.add] using hcell
   by_cases h0:l0.length=0
   ·have hl0:l0=[]:=List.eq_nil_of_length_eq_zero h0
    subst hl0
    refine (Tryz.bytes_Join_one_empty b o c p0 c0 (.slice none 0 0) w hcell').mono ?_
    rintro e w' ⟨rfl,rfl⟩
    exact ⟨_,rfl,HasB.of_kit ⟨none,0,rfl,fun _=>rfl,fun a ha=>(by cases ha)⟩,fun k hk=>(by cases hk),Below.refl _ _⟩
   ·obtain ⟨a0,rfl⟩:∃ a,p0=some a:=by
     cases p0 with
     | none=>exact absurd (by rw [hp0 rfl];rfl) h0
     | some a=>exact ⟨a,rfl⟩
    refine (Tryz.bytes_Join_one b o c a0 c0 l0 (.slice none 0 0) w hcell' (hcs a0 rfl) (by omega) (by simpa using hl)).mono ?_
    rintro e w' ⟨v,rfl,hf,hb⟩
    exact ⟨v,rfl,by simpa using zDj hf,fresh_ge hf,hb⟩
  | cons l1 r =>
   have hsep:Lib.HoldsBytes w (.slice none 0 0) []:=⟨none,0,rfl,fun _=>rfl,fun a ha=>(by cases ha)⟩
   refine (Tryz.bytes_Join_many b o _ c vs (l0 :: l1 :: r) (.slice none 0 0) [] w rfl (by simp) hP hc hsep hn (by rw [← flat_len];simpa using hl)).mono ?_
   rintro e w' ⟨v,rfl,hf,hb⟩
   rw [join_flat] at hf
   exact ⟨v,rfl,zDj hf,fresh_ge hf,hb⟩
theorem join_new {w:World} {x:Value} {ls:List Bs} (h:zBA w x ls) (hn:ls.length≤140737488355328) (hl:ls.flatten.length≤140737488355328) :
  Calls Tryz.prog 66 #[x] w fun e w'=>∃ v,e=.returned v∧HasB w' v ls.flatten∧(∀ k,v.ownBlock=some k→w.heap.size≤k)∧Below w.heap.size w w':=by
 have hj:=bjoin_new h hn hl
 obtain ⟨p,c,rfl,hc,hP⟩:=h
 have Hj:=zh hj
 clear hj hP
 go_enter Tryz.func66,Tryz.ntmps66
 go_wp2_with fail
 refine Hj.out.mono ?_
 rintro e w' ⟨v,rfl,hv,hw,hb⟩
 go_wp2_with fail
 go_ret
 exact ⟨v,rfl,hv,hw,hb⟩
end Go.Proofs.YtapfnehdgailmaaGreat
namespace Go.Proofs.YtapfnehdgailmaaGreat
open Go.RowKit Go.Sat Go.Maps
def zAG (l:Bs):Bs:=(zBb l.length ++ l) ++ zAk (sumN (zBb l.length ++ l))
theorem lens_take (ls:List Bs) {k:Nat} (hk:k < ls.length):(ls.take (k+1)).flatten.length=(ls.take k).flatten.length+ls[k].length:=by
 rw [flat_take hk,List.length_append]
theorem enc_calls {w:World} {p:Option Addr} {n c:Nat} {ls:List Bs} (hx:zBA w (.slice p n c) ls) (hn:n≤140737488355328) (hl:ls.flatten.length≤1048576) :
  Calls Tryz.prog 128 #[.slice p n c] w (fun e w'=>∃ v,e=.returned (.tuple #[v,.int .i64 0])∧HasB w' v (zAG ls.flatten)∧(∀ k,v.ownBlock=some k→w.heap.size≤k)∧Below w.heap.size w w'):=by
 have hnl:=zBA.len hx
 have Hx:=zh hx
 have Hl:=zh hl
 have Hnl:=zh hnl
 clear hx hl hnl
 go_enter Tryz.func128,Tryz.ntmps128
 go_wp2_with fail
 go_loop [4,10] (fun a i=>∃ k:Nat,k≤n∧i=.int .i64 k∧a=.int .i64 (((ls.take k).flatten.length:Nat):Int)∧(ls.take k).flatten.length≤1048576) (fun _ i=>n - (intOf i).toNat)
 case atStart=>exact ⟨0,Nat.zero_le _,rfl,by simp,by simp⟩
 case round =>
  obtain ⟨k,hk,rfl,rfl,hck⟩:=hrel
  by_cases hlt:k < n
  ·have hltl:k < ls.length:=by rw [← Hnl.out];exact hlt
   have hct:=lens_take ls hltl
   have hle:=flat_take_le ls (k+1)
   obtain ⟨-,b,o,v,rfl,hcell,hv⟩:=zBA.row Hx.out hltl
   obtain ⟨pv,cv,rfl⟩:=hv.slice
   have hc8:(ls.take (k+1)).flatten.length≤1048576:=by have:=Hl.out;omega
   have hsum:(ls.take k).flatten.length+ls[k].length≤1048576:=by omega
   have Hct:=zh hct
   have Hc8:=zh hc8
   clear hv hct hle hc8
   generalize ls[k].length=m at *
   generalize (ls.take k).flatten.length=C at *
   go_wp2_with fail
   go_round
   case rel=>exact ⟨k+1,by omega,by go_num,by rw [Hct.out];go_num,Hc8.out⟩
   case measure=>simp [intOf];omega
  ·have hls:ls.take k=ls:=List.take_of_length_le (by have:=Hnl.out;omega)
   rw [hls] at hck ⊢
   have hkn:k=n:=by omega
   have Hhd:=zh (fun w=>head_calls (w:=w) ls.flatten.length (by have:=Hl.out;omega))
   have HFr:=zh (show zAG ls.flatten=(zBb ls.flatten.length ++ ls.flatten) ++ zAk (sumN (zBb ls.flatten.length ++ ls.flatten)) from rfl)
   have Hjn:=zh (fun (W:World) (hb:Below w.heap.size w W)=>zBp (zCd Hx.out hb) (by rw [← Hnl.out];omega) (by have:=Hl.out;omega))
   generalize hX:ls.flatten=X at *
   have HX:=zh hX
   clear hX
   generalize hC:X.length=C at *
   have hhl:(zBb C).length=8:=rfl
   generalize zBb C=hd at *
   have HC:=zh hC
   have Hhl:=zh hhl
   clear hls hC hhl
   go_wp2_with fail
   refine (Hhd.out _).mono ?_
   rintro e w1 ⟨v1,rfl,hv1,hb1⟩
   have V1:=zh hv1
   have B1:=zh hb1
   have Hj:=zh (Hjn.out _ hb1)
   clear hv1 hb1
   go_wp2_with fail
   refine Hj.out.mono ?_
   rintro e w2 ⟨v2,rfl,hv2,hb2⟩
   have hh1:=V1.out.below hb2
   obtain ⟨p1,c1,rfl⟩:=hh1.slice
   obtain ⟨p2,c2,rfl⟩:=hv2.slice
   have hj:=zBp (rows_two hh1 hv2 22 (0,0) _ 2 rfl (Nat.le_refl _)) (by simp) (by simp [Hhl.out,HC.out];omega)
   rw [show [hd,X].flatten=hd ++ X by simp] at hj
   have e1:=Hhl.out
   have e2:=HC.out
   rw [e1,e2] at hj
   rw [e1,e2]
   have Hj2:=zh hj
   have B2:=zh (zAm B1.out (zAm hb2 (zB4 w2 (.cells #[.slice p1 8 c1,.slice p2 C c2] 22))))
   clear hj hh1 hv2 hb2 Hj e1 e2
   go_wp2_with fail
   refine Hj2.out.mono ?_
   rintro e w3 ⟨v3,rfl,hv3,hb3⟩
   have V3:=zh hv3
   have B3:=zh (zAm B2.out hb3)
   have hlb:(hd ++ X).length≤1048584:=by rw [List.length_append,Hhl.out,HC.out];omega
   have HLb:=zh hlb
   generalize hY:hd ++ X=Y at *
   obtain ⟨p3,c3,rfl⟩:=hv3.slice
   clear hv3 hb3 hY hlb
   have hlY:=HLb.out
   generalize hD:Y.length=yl at *
   have HD:=zh hD
   clear hD
   go_wp2_with fail
   refine (sum_calls (zCT V3.out 22 (0,0) _ 1 rfl (Nat.le_refl _)) (by decide) (by simp [HD.out];omega)).mono ?_
   rintro e w4 ⟨rfl,rfl⟩
   rw [show [Y].flatten=Y by simp,zCA]
   have Hg:=zh (fun w=>four_calls (w:=w) (sumN Y) (zDf _))
   generalize sumN Y=q at *
   go_wp2_with fail
   refine (Hg.out _).mono ?_
   rintro e w5 ⟨v5,rfl,hv5,hb5⟩
   have V3':=V3.out.below (zAm (zB4 _ _) hb5)
   obtain ⟨p5,c5,rfl⟩:=hv5.slice
   have hj:=join_new (rows_two V3' hv5 22 (0,0) _ 2 rfl (Nat.le_refl _)) (by simp) (by simp [zAk,HD.out];omega)
   rw [show [Y,zAk q].flatten=Y ++ zAk q by simp,show (zAk q).length=4 from rfl] at hj
   have B5:=zh (zAm B3.out (zAm (zB4 _ _) hb5))
   rw [show (zAk q).length=4 from rfl]
   have Hj3:=zh hj
   clear hj V3' hv5 hb5
   go_wp2_with fail
   refine Hj3.out.mono ?_
   rintro e w6 ⟨v6,rfl,hv6,hw6,hb6⟩
   have V6:=zh (And.intro hv6 (And.intro (fun k hk=>Nat.le_trans B5.out.size (Nat.le_trans (zB4 w5 _).size (hw6 k hk)):∀ k,v6.ownBlock=some k→w.heap.size≤k) (zAm B5.out (zAm (zB4 _ _) hb6))))
   clear hv6 hw6 hb6
   go_wp2_with fail
   go_ret2
   exact ⟨v6,rfl,by rw [HX.out,HFr.out];exact V6.out.1,V6.out.2.1,V6.out.2.2⟩
theorem zBj {w:World} {p:Option Addr} {n c:Nat} {l:Bs} (h:HasB w (.slice p n c) l):n=l.length∧Lib.BytesIn w p n (Lib.numsL l):=by
 have h1:=h.at
 obtain ⟨p',c',e⟩:=h.slice
 cases e
 refine ⟨rfl,fun hn=>?_⟩
 rcases h1 with e | ⟨b,o,c2,e,hc⟩
 ·rw [e] at hn
  simp at hn
 ·cases e
  refine ⟨b,o,rfl,fun i hi=>?_⟩
  rw [hc i l[i] (List.getElem?_eq_getElem hi)]
  simp [Lib.numsL,List.getD,List.getElem?_map,List.getElem?_eq_getElem hi]
theorem zCl {w:World} {x y:Value} {l m:Bs} (hx:HasB w x l) (hy:HasB w y m) :
  Calls Tryz.prog 206 #[x,y] w fun e w'=>e=.returned (.bool (l == m))∧w'=w:=by
 obtain ⟨p1,c1,rfl⟩:=hx.slice
 obtain ⟨p2,c2,rfl⟩:=hy.slice
 have:=Tryz.bytes_Equal_all p1 p2 l.length c1 m.length c2 (Lib.numsL l) (Lib.numsL m) w (Lib.numsL_length l) (Lib.numsL_length m) (zBj hx).2 (zBj hy).2
 rwa [Lib.bytesOf_numsL,Lib.bytesOf_numsL] at this
def fourAt (b:Bs):Nat:=ofFour (b.getD 0 0) (b.getD 1 0) (b.getD 2 0) (b.getD 3 0)
def decE (b:Bs):Nat :=
 if b.length < 8 then 2 else if b.take 8≠zBb (fourAt b) then 4 else if 1048576 < fourAt b then 5 else if b.length < fourAt b+12 then 2
 else if fourAt (b.drop (8+fourAt b))≠sumN (b.take (8+fourAt b)) then 4 else 0
def decB (b:Bs):Bs:=if decE b=0 then (b.drop 8).take (fourAt b) else []
def decL (b:Bs):Nat:=if decE b=0 then fourAt b+12 else 0
def zCf (w:World) (b:Bs) (e:Ending) (w':World):Prop :=
 ∃ v,e=.returned (.tuple #[v,.int .i64 (decL b:Int),.int .i64 (decE b:Int)])∧OwnB w' 5 v (decB b)∧(∀ k,v.ownBlock=some k→w.heap.size≤k)∧Below w.heap.size w w'
theorem four_at {w:World} {p:Option Addr} {n c:Nat} {b:Bs} (h:HasB w (.slice p n c) b) (h4:4≤b.length) :
  Calls Tryz.prog 205 #[.slice p n c] w (fun e w'=>e=.returned (.int .u32 (fourAt b:Int))∧∃ q,w'=w.drewN q):=by
 have h1:=h.at
 obtain ⟨p',c',e⟩:=h.slice
 cases e
 rcases h1 with e | ⟨g,o,c2,e,hc⟩
 ·rw [e] at h4
  simp at h4
 ·cases e
  have hb:∀ i,i < b.length→b[i]?=some (b.getD i 0):=fun i hi=>by simp [List.getD,List.getElem?_eq_getElem hi]
  exact fromFour_calls h4 (by simpa using hc 0 _ (hb 0 (by omega))) (hc 1 _ (hb 1 (by omega))) (hc 2 _ (hb 2 (by omega))) (hc 3 _ (hb 3 (by omega)))
theorem zCJ (b:Bs):fourAt b < 4294967296:=by
 have h0:=(b.getD 0 0).toNat_lt
 have h1:=(b.getD 1 0).toNat_lt
 have h2:=(b.getD 2 0).toNat_lt
 have h3:=(b.getD 3 0).toNat_lt
 unfold fourAt ofFour
 omega
theorem HasB.from {w:World} {g o n c:Nat} {l:Bs} (h:HasB w (.slice (some ⟨g,o,none⟩) n c) l) {k:Nat} (_hk:k≤l.length) (c':Nat):HasB w (.slice (some ⟨g,o+k,none⟩) (n - k) c') (l.drop k):=by
 have h1:=h.at
 obtain ⟨p',c2,e⟩:=h.slice
 cases e
 refine HasB.of_kit ⟨some ⟨g,o+k,none⟩,c',by rw [List.length_drop],fun e=>(by cases e),fun a ha i x hx=>?_⟩
 cases ha
 have e1:(⟨g,o+k,none⟩:Addr).add i=⟨g,o+k+i,none⟩:=by unfold Addr.add;split <;> simp_all
 rw [e1]
 rw [List.getElem?_drop] at hx
 rcases h1 with e | ⟨g2,o2,c3,e,hc⟩
 ·rw [e] at hx
  simp at hx
 ·cases e
  have:=hc _ _ hx
  rw [Nat.add_assoc]
  exact this
theorem run_from {P:Program} (w:World) {t e:TypeId} {i:TypeInfo} (ht:P.underlying t=some (.slice e)) (hi:P.info? e=some i) (hsz:i.size=1) (g o len cap k:Nat) (h:k≤len) (_h2:len≤cap) (h3:k < cap) :
  (Instr.slice t (.slice (some ⟨g,o,none⟩) len cap) (some (.int .i64 (k:Int))) none none).run P w=.ok (.slice (some ⟨g,o+k,none⟩) (len - k) (cap - k)) w:=by
 have h1:(Instr.sliceBound (.int .i64 (k:Int)) len .sliceB).run P w=.ok k w:=by
  rw [run_sliceBound _ _ _ _ _ (by omega) (by omega)]
  simp
 have e1:(⟨g,o,none⟩:Addr).add k=⟨g,o+k,none⟩:=by unfold Addr.add;split <;> simp_all
 simp [Instr.slice,run_underlying ht,Instr.sliceBounds,h1,sizeOf,typeInfo,hi,Result.andThen,hsz,e1]
 omega
end Go.Proofs.YtapfnehdgailmaaGreat
