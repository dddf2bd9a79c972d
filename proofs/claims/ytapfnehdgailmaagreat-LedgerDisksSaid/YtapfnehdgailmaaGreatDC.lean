/- The contracts of each, Sync, Remove. The contracts of Read, Fuse, Crash. A disk that a law has made itself: the contracts in the form in which a law meets them. The contract of satrapylaw3.same. The contract of satrapylaw3.known: it is true. DiskKeeps: the walk. The contract of octet.Sum. The contracts of frame's small functions: four, fromFour, headOf. The contracts of frame.headOf and frame.Encode. octet.Join: what it hands back lies in a block of its own. The contract of frame.Encode. The contracts of bytes.Equal, frame.Decode, frame.One. -/
import Derived.Laws.BitsAllLaws
import Derived.Lib.SlBytesConst
import Derived.Test.YtapfnehdgailmaaGreatDA
import Derived.Test.YtapfnehdgailmaaGreatDB
set_option maxRecDepth 100000
set_option maxHeartbeats 64000000
namespace Go.Proofs.YtapfnehdgailmaaGreat
open Go.RowKit Go.Sat Go.Maps
def Did (W:World) (d:Nat) (own:Own) (D:zAA) (e:Ending) (w':World):Prop :=
 ∃ own',e=.returned (.tuple #[])∧zBT w' d D own'∧Chg (Has own) W w'∧Ext W own own'
theorem ok_sync {D:zAA} (h:D.OK) {n:Bs} {f:zAN} (hg:Sat.get n D.files=some f):zAA.OK { D with files:=zAA.gSync n f D.files } where
 srt:=zBd h.srt
 room:=h.room
 used:=by
  show zA9 zAA.size (put n _ D.files)≤D.room
  rw [sum_put]
  have h1:D.used=zAA.size f+zA9 zAA.size (del n D.files):=zCW h.srt hg
  have:=h.used
  simp only [zAA.size] at h1 ⊢
  omega
 count:=by
  show (put n _ D.files).length≤4096
  rw [len_put]
  have:=len_del h.srt hg
  have:=h.count
  omega
 names p hp:=by
  rcases zA6.1 hp with rfl | ⟨hp,_⟩
  ·exact (h.names (n,f) (zBE hg):okN n=true)
  ·exact h.names p hp
 lasts p hp:=by
  rcases zA6.1 hp with rfl | ⟨hp,_⟩
  ·exact Nat.le_refl _
  ·exact h.lasts p hp
 fuse:=h.fuse
theorem ok_del {D:zAA} (h:D.OK) (n:Bs):zAA.OK { D with files:=del n D.files } where
 srt:=zCU h.srt
 room:=h.room
 used:=by
  show zA9 zAA.size (del n D.files)≤D.room
  cases hg:Sat.get n D.files with
  | none=>rw [zB6 hg];exact h.used
  | some f =>
   have h1:D.used=zAA.size f+zA9 zAA.size (del n D.files):=zCW h.srt hg
   have:=h.used
   omega
 count:=Nat.le_trans (len_del_le _ _) h.count
 names p hp:=h.names p (zAx.1 hp).1
 lasts p hp:=h.lasts p (zAx.1 hp).1
 fuse:=h.fuse
section
variable {w:World} {d m:Nat} {left:Int} {L:List (Bs × FRep)} {own:Own} {D:zAA}
theorem has_d (h:zAO w d m left L own D):Has own d:=by unfold Has;rw [h.od];simp
theorem has_m (h:zAO w d m left L own D):Has own m:=by unfold Has;rw [h.om];simp
theorem has_f (h:zAO w d m left L own D) {n:Bs} {r:FRep} (hg:Sat.get n L=some r):Has own r.fb:=by unfold Has;rw [(h.fileAt hg).ob];simp
theorem sync1_calls (h:zAO w d m left L own D) (s:ByteArray) {r:FRep} (hg:Sat.get (nm s) L=some r) :
  Calls Tryz.prog 182 #[.string s,.pointer (some ⟨r.fb,0,none⟩)] w (Did w d own { D with files:=zAA.gSync (nm s) r.f D.files }):=by
 have hf:=h.fileAt hg
 have hc:=zAC (i:=0) hf.cells rfl
 have hc1:=zAC (i:=1) hf.cells rfl
 have hz:=zAK hf.cells 1
 obtain ⟨p,c,hv⟩:=OwnB.slice hf.row
 have hdl:r.f.data.length≤1073741824:=by
  have:=h.ok.used
  have:=h.ok.room
  have:r.f.data.length≤D.used:=by rw [h.used];exact le_sum (f:=fun r:FRep=>r.f.data.length) h.srt hg
  omega
 have hfin:Did w d own { D with files:=zAA.gSync (nm s) r.f D.files } (.returned (.tuple #[])) (w.setCell ⟨r.fb,1,none⟩ (.int .i64 (r.f.data.length:Int))):=by
  have hne:∀ k,r.v.ownBlock=some k→k≠r.fb:=fun k hk=>h.ne_of (hf.og k hk) hf.ob (by simp)
  obtain ⟨own',h4,hx⟩:=h.upd (w':=w.setCell ⟨r.fb,1,none⟩ (.int .i64 (r.f.data.length:Int))) (v':=r.v) (f':=⟨r.f.data,r.f.data.length⟩) hg (by simp [World.setCell]) (fun k _ hk _=>zAD _ hk)
   (by rw [zAP hf.cells];simp) (hf.row.keep fun k hk=>zAD _ (hne k hk)) (fun g hgv=>.inl hgv) (ok_sync h.ok (by rw [h.get,hg];rfl))
  exact ⟨own',rfl,⟨m,left,_,h4⟩,(Chg.setCell w _ _).mono fun k _ e=>by rw [e];exact has_f h hg,hx⟩
 rw [hv] at hc
 have Hfin:=zh hfin
 clear hfin h hg hf hv
 generalize r.f.data.length=n at *
 go_enter Tryz.func182,Tryz.ntmps182
 go_wp2
 go_end0
 exact Hfin.out
theorem remove1_calls (h:zAO w d m left L own D) (s:ByteArray) (hs:s.size≤9223372036854775807) {r:FRep} (_hg:Sat.get (nm s) L=some r) (cb:Nat) (hcb:w.cell? ⟨cb,0,none⟩=some (.pointer (some ⟨d,0,none⟩))) :
  Calls Tryz.prog 147 #[.string s,.pointer (some ⟨r.fb,0,none⟩),.pointer (some ⟨cb,0,none⟩)] w (Did w d own { D with files:=zAA.gRemove (nm s) r.f D.files }):=by
 have hc1:=h.c1
 have hkey:=WideMaps.keyOf_string_mk Tryz.underlying9 hs
 have hdel:∀ w',w'.ownsMap Tryz.prog 9 ptrR m L.length ((dm fbD L).del (.string s.data.toList))→w.mapTurned w' m→Did w d own { D with files:=zAA.gRemove (nm s) r.f D.files } (.returned (.tuple #[])) w':=by
  intro w' hown ht
  rw [dm_del] at hown
  have hg':=ht.grown
  obtain ⟨own',h4,hx⟩:=h.remap (w':=w') (L':=del (nm s) L) (D':={ D with files:=del (nm s) D.files }) hg'.size (fun k hk hkm=>hg'.block k hk (by intro e;cases e;exact hkm rfl)) ⟨_,hown⟩ (zCU h.srt) rfl rfl
   (by rw [mp_del,← h.files]) (ok_del h.ok _) (fun p hp=>⟨p,(zAx.1 hp).1,rfl⟩) (fun p hp q hq e=>by
    have h1:=h.file p (zAx.1 hp).1
    have h2:=h.file q (zAx.1 hq).1
    have h3:=h1.ob
    rw [e,h2.ob] at h3
    exact zDC h.srt (zAx.1 hp).1 (zAx.1 hq).1 (by simpa using h3.symm))
  exact ⟨own',rfl,⟨m,left,_,h4⟩,(Chg.of_grown hg').mono fun k _ e=>by cases e;exact has_m h,hx⟩
 have hown:=h.map
 have Hdel:=zh hdel
 clear hdel h _hg
 go_enter Tryz.func147,Tryz.ntmps147
 go_wp2_with (first | (at_delete;refine wpList_delete_own _ rfl _ _ 113 9 rfl 121 zBQ Tryz.underlying113 ptrR m L.length (dm fbD L) rfl hown _ _ rfl hkey ?_;intro w1 hown1 hturn1;have Hf:=zh (Hdel.out _ hown1 hturn1);clear hown1 hturn1))
 go_end0
 exact Hf.out
theorem each_append (g:Bs→zAN→List (Bs × zAN)→List (Bs × zAN)) (D:zAA) (l r:List Bs) (h:(D.each g l).2=0):D.each g (l ++ r)=(D.each g l).1.each g r:=by
 induction l generalizing D with
 | nil=>rfl
 | cons n l ih =>
  simp only [List.cons_append,zAA.each] at h ⊢
  by_cases h1:(zAA.each1 g D n).2=0
  ·rw [if_pos h1] at h ⊢
   rw [if_pos h1]
   exact ih _ h
  ·rw [if_neg h1] at h
   exact absurd h h1
def zCt (w:World) (d:Nat) (own:Own) (D:zAA) (g:Bs→zAN→List (Bs × zAN)→List (Bs × zAN)) (ns:List Bs) (k:Nat) (wr:World):Prop :=
 ∃ own' m left L,zAO wr d m left L own' (D.each g (ns.take k)).1∧(D.each g (ns.take k)).2=0∧Chg (Has own) w wr∧Ext w own own'
def DoesAt (fv:Value) (g:Bs→zAN→List (Bs × zAN)→List (Bs × zAN)) (d:Nat) (w:World) (own:Own):Prop :=
 (fv=.func (.func 182) #[] #[]∧g=zAA.gSync) ∨
 ∃ cb,fv=.func (.func 147) #[] #[.pointer (some ⟨cb,0,none⟩)]∧g=zAA.gRemove∧w.cell? ⟨cb,0,none⟩=some (.pointer (some ⟨d,0,none⟩))∧own cb=none
theorem each_round {w wr:World} {g:Bs→zAN→List (Bs × zAN)→List (Bs × zAN)} {ns:List Bs} {k:Nat} {n:Bs} (hr:zCt w d own D g ns k wr) (hn:ns[k]?=some n) :
  ∃ D',D.each g ns=(if (zAA.each1 g D' n).2=0 then (zAA.each1 g D' n).1.each g (ns.drop (k+1)) else zAA.each1 g D' n)∧(D.each g (ns.take k)).1=D' ∧
   ((zAA.each1 g D' n).2=0→D.each g (ns.take (k+1))=zAA.each1 g D' n):=by
 obtain ⟨own',m,left,L,_,h0,_⟩:=hr
 refine ⟨_,?_,rfl,fun h1=>?_⟩
 ·have hk:k < ns.length:=(List.getElem?_eq_some_iff.1 hn).1
  have hnk:ns[k]=n:=(List.getElem?_eq_some_iff.1 hn).2
  have e1:ns=ns.take k ++ n :: ns.drop (k+1):=by rw [← hnk,← List.drop_eq_getElem_cons hk,List.take_append_drop]
  have e2:D.each g ns=D.each g (ns.take k ++ n :: ns.drop (k+1)):=by rw [← e1]
  rw [e2,each_append g D _ _ h0]
  rfl
 ·have hk:k < ns.length:=(List.getElem?_eq_some_iff.1 hn).1
  have hnk:ns[k]=n:=(List.getElem?_eq_some_iff.1 hn).2
  rw [List.take_succ_eq_append_getElem hk,each_append g D _ _ h0,hnk]
  simp only [zAA.each,if_pos h1]
  exact Prod.ext rfl h1.symm
theorem chg_ext {w wr w2:World} {own own':Own} (h:Chg (Has own) w wr) (hx:Ext w own own') (k:Chg (Has own') wr w2):Chg (Has own) w w2 :=
 h.trans k fun i hi t ho=>t (hx i hi ho)
theorem ext_trans {w wr:World} {own own' own2:Own} (hs:w.heap.size≤wr.heap.size) (h:Ext w own own') (k:Ext wr own' own2):Ext w own own2:=fun i hi ho=>k i (Nat.lt_of_lt_of_le hi hs) (h i hi ho)
theorem each1_bad {g:Bs→zAN→List (Bs × zAN)→List (Bs × zAN)} {D:zAA} {n:Bs} (h:D.may [n]≠0):zAA.each1 g D n=(D,D.may [n]):=by
 unfold zAA.each1
 rw [if_pos h]
theorem each1_none {g:Bs→zAN→List (Bs × zAN)→List (Bs × zAN)} {D:zAA} {n:Bs} (h:D.may [n]=0) (hg:Sat.get n D.files=none):zAA.each1 g D n=(D,7):=by
 unfold zAA.each1
 rw [if_neg (by simpa using h),hg]
theorem each1_some {g:Bs→zAN→List (Bs × zAN)→List (Bs × zAN)} {D:zAA} {n:Bs} {f:zAN} (h:D.may [n]=0) (hg:Sat.get n D.files=some f):zAA.each1 g D n=(zAA.done { D with files:=g n f D.files },0):=by
 unfold zAA.each1
 rw [if_neg (by simpa using h),hg]
theorem zC3 {w wr:World} {g:Bs→zAN→List (Bs × zAN)→List (Bs × zAN)} {ns:List Bs} {k:Nat} {n:Bs} {D':zAA} {e:Nat} {o:Obj} (hr:zCt w d own D g ns k wr) (hn:ns[k]?=some n)
  (hD:(D.each g (ns.take k)).1=D') (h1:zAA.each1 g D' n=(D',e)) (he:e≠0):zBu w d own (D.each g ns) (.returned (.int .i64 (e:Int))) (wr.alloc o):=by
 obtain ⟨D2,h2,h3,_⟩:=each_round hr hn
 rw [hD] at h3
 subst h3
 rw [h1,if_neg he] at h2
 obtain ⟨own',m,left,L,hd,h0,hc,hx⟩:=hr
 rw [hD] at hd
 rw [h2]
 exact ⟨own',rfl,⟨m,left,L,hd.chg (Chg.alloc wr o) fun _ h=>h.elim⟩,hc.trans ((Chg.alloc wr o).mono (T:=Has own) fun _ _ h=>h.elim) fun _ _ h=>h,hx⟩
theorem each_next {w wr w3:World} {g:Bs→zAN→List (Bs × zAN)→List (Bs × zAN)} {ns:List Bs} {k:Nat} {n:Bs} {D' D2:zAA} {own2:Own} (hr:zCt w d own D g ns k wr) (hn:ns[k]?=some n)
  (hD:(D.each g (ns.take k)).1=D') (h1:zAA.each1 g D' n=(D2,0)) (hd:zBT w3 d D2 own2) (hc:Chg (Has own) w w3) (hx:Ext w own own2):zCt w d own D g ns (k+1) w3:=by
 obtain ⟨D3,_,h3,h4⟩:=each_round hr hn
 rw [hD] at h3
 subst h3
 have h5:=h4 (by rw [h1])
 obtain ⟨m,left,L,hd⟩:=hd
 exact ⟨own2,m,left,L,by rw [h5,h1];exact hd,by rw [h5,h1],hc,hx⟩
theorem each_calls (h:zBT w d D own) (p:Option Addr) (ss:List ByteArray) (c:Nat) (hs:zCZ w p ss) (hm:ss.length≤140737488355328) (hsz:∀ s ∈ ss,s.size≤9223372036854775807) (hpo:∀ a,p=some a→own a.block=none)
  (fv:Value) (g:Bs→zAN→List (Bs × zAN)→List (Bs × zAN)) (hfv:DoesAt fv g d w own) :
  Calls Tryz.prog 146 #[.pointer (some ⟨d,0,none⟩),.slice p ss.length c,fv] w (zBu w d own (D.each g (ss.map nm))):=by
 obtain ⟨m0,left0,L0,h⟩:=h
 have hstart:zCt w d own D g (ss.map nm) 0 w:=⟨own,m0,left0,L0,by simpa [zAA.each] using h,by simp [zAA.each],Chg.refl _ _,zBm _ _⟩
 clear h
 have Hpo:=zh hpo
 have Hsz:=zh hsz
 have Hs:=zh hs
 clear hpo hsz hs
 rcases hfv with ⟨rfl,rfl⟩ | ⟨cb,rfl,rfl,hcb,hco⟩
 ·go_enter Tryz.func146,Tryz.ntmps146
  go_wp2
  go_loopw [15] (fun i wr=>∃ k:Nat,k≤ss.length∧i=.int .i64 k∧zCt w d own D zAA.gSync (ss.map nm) k wr) (fun i _=>ss.length - (intOf i).toNat)
  case atStart=>exact ⟨0,Nat.zero_le _,rfl,hstart⟩
  case round =>
   clear hstart
   obtain ⟨k,hk,rfl,hrel⟩:=hrel
   by_cases hlt:k < ss.length
   ·have hss:ss[k]?=some ss[k]:=List.getElem?_eq_getElem hlt
    have hsk:ss[k].size≤9223372036854775807:=Hsz.out _ (List.getElem_mem hlt)
    have hnk:(ss.map nm)[k]?=some (nm ss[k]):=by simp [hlt]
    have hrel0:=hrel
    obtain ⟨own',m,left,L,hd,h0,hc,hx⟩:=hrel
    generalize hD:(D.each zAA.gSync ((ss.map nm).take k)).1=D' at *
    have hcell:∃ b o,p=some ⟨b,o,none⟩∧wr.cell? ⟨b,o+k,none⟩=some (.string ss[k]):=by
     rcases Hs.out with h | ⟨b,o,rfl,hcs⟩
     ·rw [h] at hlt
      simp at hlt
     ·refine ⟨b,o,rfl,hc.cell (hcs k _ hss) ?_⟩
      intro hh
      exact hh (Hpo.out ⟨b,o,none⟩ rfl)
    obtain ⟨b,o,rfl,hcell⟩:=hcell
    generalize ss[k]=s at *
    have h1:=hd.chg (Chg.alloc wr (.cells #[.string s] 9)) (fun k hk=>hk.elim)
    have hmay:=zA2 h1 _ [s] 1 (zAu wr s) (by simp) (by simpa using hsk)
    simp only [List.map_cons,List.map_nil] at hmay
    have Hrel:=zh hrel0
    have Hnk:=zh hnk
    have HD:=zh hD
    have Hc:=zh hc
    have Hx:=zh hx
    have H0:=zh h0
    clear hrel0 hnk hD hc hx hss h0
    by_cases hmz:D'.may [nm s]=0
    ·rw [hmz] at hmay
     have hc1:=h1.c1
     cases hg:Sat.get (nm s) L with
     | none =>
      have hlook:=zA8 _ zBQ Tryz.underlying9 Tryz.underlying113 (zBC _) FRep.fb h1.map hsk hg
      have hfin:=zC3 (o:=.cells #[.string s] 9) Hrel.out Hnk.out HD.out (each1_none (g:=zAA.gSync) hmz (by rw [hd.get,hg];rfl)) (by decide)
      have Hfin:=zh hfin
      have Hmay:=zh hmay
      clear hfin hmay h1 hd hg hmz
      go_wp2_with fail
      refine Hmay.out.mono ?_
      rintro e w' ⟨rfl,rfl⟩
      go_wp2_with fail
      go_ret
      exact Hfin.out
     | some r =>
      have hlook:=zBM _ zBQ Tryz.underlying9 Tryz.underlying113 (zBC _) FRep.fb h1.map hsk hg
      have hdo:=sync1_calls h1 s hg
      have hnext:=fun w3 own2=>each_next (w3:=w3) (own2:=own2) Hrel.out Hnk.out HD.out (each1_some (g:=zAA.gSync) hmz (by rw [hd.get,hg];rfl))
      have hfu:=(zCR hmz).1
      have Hmay:=zh hmay
      have Hdo:=zh hdo
      have Hnext:=zh hnext
      have Hfu:=zh hfu
      clear hmay h1 hd hg hmz hdo hnext hfu
      go_wp2_with fail
      refine Hmay.out.mono ?_
      rintro e w' ⟨rfl,rfl⟩
      go_wp2_with fail
      refine Hdo.out.mono ?_
      rintro e w2 ⟨own2,rfl,⟨m2,left2,L2,hd2⟩,hc2,hx2⟩
      have hdone:=zBs hd2 Hfu.out
      have hod:Has own2 d:=has_d hd2
      have hcc:=chg_ext Hc.out Hx.out (((Chg.alloc wr _).mono (T:=Has own') fun _ _ h=>h.elim).trans hc2 fun _ _ h=>h)
      have hxx:=ext_trans Hc.out.size Hx.out (fun i hi ho=>hx2 i (by simp;omega) ho)
      have Hdone:=zh hdone
      have Hod:=zh hod
      have Hcc:=zh hcc
      have Hxx:=zh hxx
      clear hdone hod hcc hxx hd2 hc2 hx2
      go_wp2_with fail
      refine Hdone.out.mono ?_
      rintro e w3 ⟨rfl,hd3,hc3⟩
      have hrel3:=Hnext.out _ _ hd3 (chg_ext Hcc.out Hxx.out (hc3.mono fun i _ e=>by rw [e];exact Hod.out)) Hxx.out
      have Hrel3:=zh hrel3
      clear hd3 hc3 hrel3
      go_wp2_with fail
      go_roundw
      case rel=>exact ⟨k+1,by omega,by go_num,Hrel3.out⟩
      case measure=>simp [intOf];omega
    ·have hfin:=zC3 (o:=.cells #[.string s] 9) Hrel.out Hnk.out HD.out (each1_bad (g:=zAA.gSync) hmz) hmz
     generalize D'.may [nm s]=e at *
     have hne:((e:Int) != 0)=true:=by simp;exact hmz
     have Hfin:=zh hfin
     have Hmay:=zh hmay
     clear hfin hmay h1 hd hmz
     go_wp2_with fail
     refine Hmay.out.mono ?_
     rintro e w' ⟨rfl,rfl⟩
     go_wp2_with fail
     go_ret
     exact Hfin.out
   ·have hke:k=ss.length:=by omega
    obtain ⟨own',m,left,L,hd,h0,hc,hx⟩:=hrel
    rw [List.take_of_length_le (by simp;omega)] at hd h0
    have Hd:=zh hd
    have H0:=zh h0
    have Hc:=zh hc
    have Hx:=zh hx
    clear hd h0 hc hx hke
    go_wp2_with fail
    go_ret
    exact ⟨own',by rw [H0.out];rfl,⟨m,left,L,Hd.out⟩,Hc.out,Hx.out⟩
 ·have Hcb:=zh hcb
  have Hco:=zh hco
  clear hcb hco
  go_enter Tryz.func146,Tryz.ntmps146
  go_wp2
  go_loopw [15] (fun i wr=>∃ k:Nat,k≤ss.length∧i=.int .i64 k∧zCt w d own D zAA.gRemove (ss.map nm) k wr) (fun i _=>ss.length - (intOf i).toNat)
  case atStart=>exact ⟨0,Nat.zero_le _,rfl,hstart⟩
  case round =>
   clear hstart
   obtain ⟨k,hk,rfl,hrel⟩:=hrel
   by_cases hlt:k < ss.length
   ·have hss:ss[k]?=some ss[k]:=List.getElem?_eq_getElem hlt
    have hsk:ss[k].size≤9223372036854775807:=Hsz.out _ (List.getElem_mem hlt)
    have hnk:(ss.map nm)[k]?=some (nm ss[k]):=by simp [hlt]
    have hrel0:=hrel
    obtain ⟨own',m,left,L,hd,h0,hc,hx⟩:=hrel
    generalize hD:(D.each zAA.gRemove ((ss.map nm).take k)).1=D' at *
    have hcell:∃ b o,p=some ⟨b,o,none⟩∧wr.cell? ⟨b,o+k,none⟩=some (.string ss[k]):=by
     rcases Hs.out with h | ⟨b,o,rfl,hcs⟩
     ·rw [h] at hlt
      simp at hlt
     ·refine ⟨b,o,rfl,hc.cell (hcs k _ hss) ?_⟩
      intro hh
      exact hh (Hpo.out ⟨b,o,none⟩ rfl)
    obtain ⟨b,o,rfl,hcell⟩:=hcell
    generalize ss[k]=s at *
    have h1:=hd.chg (Chg.alloc wr (.cells #[.string s] 9)) (fun k hk=>hk.elim)
    have hmay:=zA2 h1 _ [s] 1 (zAu wr s) (by simp) (by simpa using hsk)
    simp only [List.map_cons,List.map_nil] at hmay
    have hcb1:(wr.alloc (.cells #[.string s] 9)).cell? ⟨cb,0,none⟩=some (.pointer (some ⟨d,0,none⟩)) :=
     (Chg.alloc wr _).cell (hc.cell Hcb.out fun hh=>hh Hco.out) fun h=>h
    have Hrel:=zh hrel0
    have Hnk:=zh hnk
    have HD:=zh hD
    have Hc:=zh hc
    have Hx:=zh hx
    have H0:=zh h0
    clear hrel0 hnk hD hc hx hss h0
    by_cases hmz:D'.may [nm s]=0
    ·rw [hmz] at hmay
     have hc1:=h1.c1
     cases hg:Sat.get (nm s) L with
     | none =>
      have hlook:=zA8 _ zBQ Tryz.underlying9 Tryz.underlying113 (zBC _) FRep.fb h1.map hsk hg
      have hfin:=zC3 (o:=.cells #[.string s] 9) Hrel.out Hnk.out HD.out (each1_none (g:=zAA.gRemove) hmz (by rw [hd.get,hg];rfl)) (by decide)
      have Hfin:=zh hfin
      have Hmay:=zh hmay
      clear hfin hmay h1 hd hg hmz hcb1
      go_wp2_with fail
      refine Hmay.out.mono ?_
      rintro e w' ⟨rfl,rfl⟩
      go_wp2_with fail
      go_ret
      exact Hfin.out
     | some r =>
      have hlook:=zBM _ zBQ Tryz.underlying9 Tryz.underlying113 (zBC _) FRep.fb h1.map hsk hg
      have hdo:=remove1_calls h1 s hsk hg cb hcb1
      have hnext:=fun w3 own2=>each_next (w3:=w3) (own2:=own2) Hrel.out Hnk.out HD.out (each1_some (g:=zAA.gRemove) hmz (by rw [hd.get,hg];rfl))
      have hfu:=(zCR hmz).1
      have Hmay:=zh hmay
      have Hdo:=zh hdo
      have Hnext:=zh hnext
      have Hfu:=zh hfu
      clear hmay h1 hd hg hmz hdo hnext hfu hcb1
      go_wp2_with fail
      refine Hmay.out.mono ?_
      rintro e w' ⟨rfl,rfl⟩
      go_wp2_with fail
      refine Hdo.out.mono ?_
      rintro e w2 ⟨own2,rfl,⟨m2,left2,L2,hd2⟩,hc2,hx2⟩
      have hdone:=zBs hd2 Hfu.out
      have hod:Has own2 d:=has_d hd2
      have hcc:=chg_ext Hc.out Hx.out (((Chg.alloc wr _).mono (T:=Has own') fun _ _ h=>h.elim).trans hc2 fun _ _ h=>h)
      have hxx:=ext_trans Hc.out.size Hx.out (fun i hi ho=>hx2 i (by simp;omega) ho)
      have Hdone:=zh hdone
      have Hod:=zh hod
      have Hcc:=zh hcc
      have Hxx:=zh hxx
      clear hdone hod hcc hxx hd2 hc2 hx2
      go_wp2_with fail
      refine Hdone.out.mono ?_
      rintro e w3 ⟨rfl,hd3,hc3⟩
      have hrel3:=Hnext.out _ _ hd3 (chg_ext Hcc.out Hxx.out (hc3.mono fun i _ e=>by rw [e];exact Hod.out)) Hxx.out
      have Hrel3:=zh hrel3
      clear hd3 hc3 hrel3
      go_wp2_with fail
      go_roundw
      case rel=>exact ⟨k+1,by omega,by go_num,Hrel3.out⟩
      case measure=>simp [intOf];omega
    ·have hfin:=zC3 (o:=.cells #[.string s] 9) Hrel.out Hnk.out HD.out (each1_bad (g:=zAA.gRemove) hmz) hmz
     generalize D'.may [nm s]=e at *
     have hne:((e:Int) != 0)=true:=by simp;exact hmz
     have Hfin:=zh hfin
     have Hmay:=zh hmay
     clear hfin hmay h1 hd hmz hcb1
     go_wp2_with fail
     refine Hmay.out.mono ?_
     rintro e w' ⟨rfl,rfl⟩
     go_wp2_with fail
     go_ret
     exact Hfin.out
   ·have hke:k=ss.length:=by omega
    obtain ⟨own',m,left,L,hd,h0,hc,hx⟩:=hrel
    rw [List.take_of_length_le (by simp;omega)] at hd h0
    have Hd:=zh hd
    have H0:=zh h0
    have Hc:=zh hc
    have Hx:=zh hx
    clear hd h0 hc hx hke
    go_wp2_with fail
    go_ret
    exact ⟨own',by rw [H0.out];rfl,⟨m,left,L,Hd.out⟩,Hc.out,Hx.out⟩
theorem sync_calls (h:zBT w d D own) (p:Option Addr) (ss:List ByteArray) (c:Nat) (hs:zCZ w p ss) (hm:ss.length≤140737488355328) (hsz:∀ s ∈ ss,s.size≤9223372036854775807) (hpo:∀ a,p=some a→own a.block=none) :
  Calls Tryz.prog 130 #[.pointer (some ⟨d,0,none⟩),.slice p ss.length c] w (zBu w d own (D.sync (ss.map nm))):=by
 have he:=each_calls h p ss c hs hm hsz hpo (.func (.func 182) #[] #[]) zAA.gSync (.inl ⟨rfl,rfl⟩)
 have He:=zh he
 clear he h hs hm hsz hpo
 go_enter Tryz.func130,Tryz.ntmps130
 go_wp2_with fail
 refine He.out.mono ?_
 rintro e w' ⟨own',rfl,hd,hc,hx⟩
 have Hf:=zh (And.intro hd (And.intro hc hx))
 clear hd hc hx
 go_wp2_with fail
 go_ret
 exact ⟨own',rfl,Hf.out⟩
theorem remove_calls (h:zBT w d D own) (p:Option Addr) (ss:List ByteArray) (c:Nat) (hs:zCZ w p ss) (hm:ss.length≤140737488355328) (hsz:∀ s ∈ ss,s.size≤9223372036854775807) (hpo:∀ a,p=some a→own a.block=none) :
  Calls Tryz.prog 76 #[.pointer (some ⟨d,0,none⟩),.slice p ss.length c] w (zBu w d own (D.remove (ss.map nm))):=by
 have hnone:own w.heap.size=none:=by
  obtain ⟨m,left,L,h⟩:=h
  cases ho:own w.heap.size with
  | none=>rfl
  | some t=>have:=h.olt _ t ho;omega
 have h1:=h.chg (Chg.alloc w (.cells #[.pointer (some ⟨d,0,none⟩)] 23)) (fun _ h=>h.elim)
 have hs1:zCZ (w.alloc (.cells #[.pointer (some ⟨d,0,none⟩)] 23)) p ss:=by
  rcases hs with h | ⟨b,o,rfl,hc⟩
  ·exact .inl h
  ·exact .inr ⟨b,o,rfl,fun i s hi=>(Chg.alloc w _).cell (hc i s hi) fun h=>h⟩
 have he:=each_calls h1 p ss c hs1 hm hsz hpo (.func (.func 147) #[] #[.pointer (some ⟨w.heap.size,0,none⟩)]) zAA.gRemove (.inr ⟨_,rfl,rfl,zAC (zAU w _) rfl,hnone⟩)
 have He:=zh he
 clear he h hs hm hsz hpo h1 hs1 hnone
 go_enter Tryz.func76,Tryz.ntmps76
 go_wp2_with fail
 refine He.out.mono ?_
 rintro e w' ⟨own',rfl,hd,hc,hx⟩
 have hc':Chg (Has own) w w':=((Chg.alloc w _).mono (T:=Has own) fun _ _ h=>h.elim).trans hc fun _ _ h=>h
 have hx':Ext w own own':=fun k hk ho=>hx k (by simp;omega) ho
 have Hf:=zh (And.intro hd (And.intro hc' hx'))
 clear hd hc hx hc' hx'
 go_wp2_with fail
 go_ret
 exact ⟨own',rfl,Hf.out⟩
end
end Go.Proofs.YtapfnehdgailmaaGreat
namespace Go.Sat
open Go.RowKit
theorem run_cut {P:Program} (w:World) {t e:TypeId} {i:TypeInfo} (ht:P.underlying t=some (.slice e)) (hi:P.info? e=some i) (a:Option Addr) (len cap k:Nat) (h:k≤cap) :
  (Instr.slice t (.slice a len cap) none (some (.int .i64 (k:Int))) (some (.int .i64 (k:Int)))).run P w=.ok (.slice a k k) w:=by
 have h1:(Instr.sliceBound (.int .i64 (k:Int)) cap .slice3Acap).run P w=.ok k w:=by
  rw [run_sliceBound _ _ _ _ _ (by omega) (by omega)]
  simp
 have h2:(Instr.sliceBound (.int .i64 (k:Int)) k .slice3B).run P w=.ok k w:=by
  rw [run_sliceBound _ _ _ _ _ (by omega) (by omega)]
  simp
 have h3:(if k=0 then a else a.map fun x=>x.add (0 * i.size))=a:=by
  split
  ·rfl
  ·cases a <;> simp [Addr.add]
 simp only [Nat.zero_mul] at h3
 simp [Instr.slice,run_underlying ht,Instr.sliceBounds,h1,h2,sizeOf,typeInfo,hi,Result.andThen,h3]
theorem OwnR.cut {w:World} {e:TypeId} {p:Option Addr} {n c:Nat} {xs:List Value} (h:OwnR w e 1 (.slice p n c) n xs) {k:Nat} (hk:k≤n):OwnR w e 1 (.slice p k k) k (xs.take k):=by
 obtain ⟨hl,h⟩:=h
 refine ⟨by rw [List.length_take];omega,?_⟩
 rcases h with ⟨e1,h0⟩ | ⟨g,cap,cur,e1,hg,hnc,hcm,hcs,ht⟩
 ·cases e1
  have:k=0:=by omega
  subst this
  exact .inl ⟨rfl,rfl⟩
 ·cases e1
  refine .inr ⟨g,k,cur,rfl,hg,Nat.le_refl _,by omega,by omega,?_⟩
  rw [← ht,List.take_take,Nat.mul_one,Nat.mul_one,Nat.min_eq_left hk]
end Go.Sat
namespace Go.Proofs.YtapfnehdgailmaaGreat
open Go.RowKit Go.Sat Go.Maps
section
variable {w:World} {d m:Nat} {left:Int} {L:List (Bs × FRep)} {own:Own} {D:zAA}
theorem data_le (h:zAO w d m left L own D) {n:Bs} {r:FRep} (hg:Sat.get n L=some r):r.f.data.length≤1073741824:=by
 have:=h.ok.used
 have:=h.ok.room
 have:r.f.data.length≤D.used:=by rw [h.used];exact le_sum (f:=fun r:FRep=>r.f.data.length) h.srt hg
 omega
/-! ### Read -/
def zBz (o:Option zAN):Bs:=(o.map zAN.data).getD []
def readE (o:Option zAN):Int:=if o.isSome then 0 else 7
def ReadPost (w:World) (o:Option zAN) (e:Ending) (w':World):Prop :=
 ∃ v,e=.returned (.tuple #[v,.int .i64 (readE o)])∧OwnB w' 5 v (zBz o)∧(∀ k,v.ownBlock=some k→w.heap.size≤k)∧Below w.heap.size w w'
theorem read_calls (h:zBT w d D own) (s:ByteArray) (hs:s.size≤9223372036854775807) :
  Calls Tryz.prog 75 #[.pointer (some ⟨d,0,none⟩),.string s] w (ReadPost w (Sat.get (nm s) D.files)):=by
 obtain ⟨m,left,L,h⟩:=h
 have hc1:=h.c1
 rw [h.get]
 cases hg:Sat.get (nm s) L with
 | none =>
  have hlook:=zA8 w zBQ Tryz.underlying9 Tryz.underlying113 (zBC w) FRep.fb h.map hs hg
  clear h hg
  go_enter Tryz.func75,Tryz.ntmps75
  go_wp2
  go_ret2
  exact ⟨_,rfl,OwnR.nil _ _ _,fun k hk=>(by cases hk),Below.refl _ _⟩
 | some r =>
  have hlook:=zBM w zBQ Tryz.underlying9 Tryz.underlying113 (zBC w) FRep.fb h.map hs hg
  have hf:=h.fileAt hg
  have hc:=zAC (i:=0) hf.cells rfl
  have hcl:=zAv hf.row.has (by have:=data_le h hg;omega)
  have Hcl:=zh hcl
  clear h hg hf hcl
  go_enter Tryz.func75,Tryz.ntmps75
  go_wp2_with fail
  refine Hcl.out.mono ?_
  rintro e w' ⟨v,rfl,hv,hn,hb⟩
  have Hv:=zh (And.intro hv (And.intro hn hb))
  clear hv hn hb
  go_wp2_with fail
  go_ret2
  exact ⟨_,rfl,Hv.out⟩
/-! ### Fuse -/
/-! ### Crash -/
theorem own_none (h:zAO w d m left L own D) {k:Nat} (hk:w.heap.size≤k):own k=none:=by
 cases ho:own k with
 | none=>rfl
 | some t=>have:=h.olt _ t ho;omega
end
def St (w w1:World) (d:Nat) (D:zAA) (F:Nat→Prop):Prop :=
 ∃ own,zBT w1 d D own∧Below w.heap.size w w1∧(∀ k,k < w.heap.size∨F k→own k=none)∧∀ k,F k→k < w1.heap.size
def NoF:Nat→Prop:=fun _=>False
theorem St.below {w w1:World} {d:Nat} {D:zAA} {F:Nat→Prop} (h:St w w1 d D F):Below w.heap.size w w1:=let ⟨_,_,h,_⟩:=h;h
theorem St.ok {w w1:World} {d:Nat} {D:zAA} {F:Nat→Prop} (h:St w w1 d D F):D.OK:=let ⟨_,⟨_,_,_,h⟩,_⟩:=h;h.ok
theorem St.move {w w1 w2:World} {d:Nat} {D:zAA} {F F' S:Nat→Prop} (h:St w w1 d D F) (hc:Chg S w1 w2) (hS:∀ k,k < w1.heap.size→S k→F k∧w.heap.size≤k) (hF:∀ k,F' k→(F k∨w1.heap.size≤k)∧k < w2.heap.size):St w w2 d D F':=by
 obtain ⟨own,hd,hb1,hn,hl⟩:=h
 have hon:∀ k,w1.heap.size≤k→own k=none:=fun k hk=>by
  obtain ⟨m,left,L,hd⟩:=hd
  exact own_none hd hk
 refine ⟨own,hd.chg (hc.mono (T:=fun k=>S k∧k < w1.heap.size) fun k hk hs=>⟨hs,hk⟩) (fun k hs=>hn k (.inr (hS k hs.2 hs.1).1)),?_,fun k hk=>?_,fun k hk=>(hF k hk).2⟩
 ·exact ((Chg.of_below hb1).trans hc fun i hi hs=>by
   have h1:=(hS i (Nat.lt_of_lt_of_le hi hb1.size) hs).2
   omega).below (Nat.le_refl _) fun _ _=>id
 ·rcases hk with hk | hk
  ·exact hn k (.inl hk)
  ·rcases (hF k hk).1 with h1 | h1
   ·exact hn k (.inr h1)
   ·exact hon k h1
theorem St.next {w w1 w2:World} {d:Nat} {D:zAA} {F:Nat→Prop} (h:St w w1 d D F) (hb:Below w1.heap.size w1 w2):St w w2 d D F :=
 h.move (Chg.of_below hb) (fun _ _ h=>h.elim) fun k hk=>⟨.inl hk,by obtain ⟨_,_,_,_,hl⟩:=h;exact Nat.lt_of_lt_of_le (hl k hk) hb.size⟩
theorem St.alloc {w w1:World} {d:Nat} {D:zAA} {F:Nat→Prop} (h:St w w1 d D F) (o:Obj):St w (w1.alloc o) d D F:=h.next ((Below.refl _ _).alloc (Nat.le_refl _) o)
theorem St.drewN {w w1:World} {d:Nat} {D:zAA} {F:Nat→Prop} (h:St w w1 d D F) (n:Nat):St w (w1.drewN n) d D F:=h.next ⟨rfl,rfl,rfl,Nat.le_refl _,fun _ _=>rfl⟩
theorem St.noF {w w1:World} {d:Nat} {D:zAA} {F:Nat→Prop} (h:St w w1 d D F):St w w1 d D NoF:=h.move (S:=fun _=>False) (Chg.refl _ _) (fun _ _ h=>h.elim) fun _ h=>h.elim
def Same (F:Nat→Prop) (w1 w2:World):Prop:=∀ k,F k→w2.heap[k]?=w1.heap[k]?
theorem St.step {w w1 w2:World} {d:Nat} {own own':Own} {D':zAA} {F:Nat→Prop} (hb:Below w.heap.size w w1) (hn:∀ k,k < w.heap.size∨F k→own k=none) (hl:∀ k,F k→k < w1.heap.size) (hd:zBT w2 d D' own') (hc:Chg (Has own) w1 w2) (hx:Ext w1 own own') :
  St w w2 d D' F∧Same F w1 w2:=by
 refine ⟨⟨own',hd,((Chg.of_below hb).trans hc fun i hi hh=>(hh (hn i (.inl hi))).elim).below (Nat.le_refl _) fun _ _=>id,fun k hk=>?_,fun k hk=>Nat.lt_of_lt_of_le (hl k hk) hc.size⟩,fun k hk=>hc.block k (hl k hk) fun hh=>hh (hn k (.inr hk))⟩
 rcases hk with h1 | h1
 ·exact hx k (Nat.lt_of_lt_of_le h1 hb.size) (hn k (.inl h1))
 ·exact hx k (hl k h1) (hn k (.inr h1))
theorem HasB.old {w w1:World} {v:Value} {l:Bs} (h:HasB w v l) (hb:Below w.heap.size w w1):HasB w1 v l:=h.below hb
def Told (w:World) (d:Nat) (F:Nat→Prop) (w1:World) (r:zAA × Nat) (e:Ending) (w':World):Prop:=e=.returned (.int .i64 (r.2:Int))∧St w w' d r.1 F∧Same F w1 w'
section
variable {w w1:World} {d:Nat} {D:zAA} {F:Nat→Prop}
theorem st_new (n:Int) (h0:0≤n) (h1:n≤1073741824) (hb:Below w.heap.size w w1) :
  Calls Tryz.prog 13 #[.int .i64 n] w1 fun e w'=>∃ d,e=.returned (.tuple #[.pointer (some ⟨d,0,none⟩),.int .i64 0])∧St w w' d (zAA.fresh n.toNat) NoF:=by
 refine (new_calls n w1 h0 h1).mono ?_
 rintro e w' ⟨d,own,rfl,hd,hc,hn⟩
 exact ⟨d,rfl,own,hd,((Chg.of_below hb).trans hc fun _ _ h=>h).below (Nat.le_refl _) fun _ _=>id,fun k hk=>by
  rcases hk with hk | hk
  ·exact hn k (Nat.lt_of_lt_of_le hk hb.size)
  ·exact hk.elim,fun _ h=>h.elim⟩
theorem zDL (h:St w w1 d D F) (s:ByteArray) (x:Value) (ls:List Bs) (hx:zAy w1 x ls) (hn:ls.length≤140737488355328) (hl:ls.flatten.length≤140737488355328) (hsz:s.size≤9223372036854775807) :
  Calls Tryz.prog 15 #[.pointer (some ⟨d,0,none⟩),.string s,x] w1 (Told w d F w1 (D.append (nm s) ls.flatten)):=by
 obtain ⟨own,hd,hb,hnn,hF⟩:=h
 refine (append_calls hd s x ls hx hn hl hsz).mono ?_
 rintro e w' ⟨own',rfl,hd',hc,hx⟩
 exact ⟨rfl,St.step hb hnn hF hd' hc hx⟩
theorem own_new {own:Own} (h:zBT w1 d D own) {k:Nat} (hk:w1.heap.size≤k):own k=none:=by
 obtain ⟨m,left,L,h⟩:=h
 exact own_none h hk
theorem strs_new (w:World) (ss:List ByteArray) (g:Nat) (hg:g=w.heap.size) (e:TypeId) (fr:Nat × Nat):zCZ (w.alloc (.cells (ss.map Value.string).toArray e fr)) (some ⟨g,0,none⟩) ss:=by
 subst hg
 refine .inr ⟨_,_,rfl,fun i u hu=>?_⟩
 refine zAC (zAU w _) ?_
 simp [hu]
theorem st_sync (h:St w w1 d D F) (ss:List ByteArray) (g c:Nat) (hg:g=w1.heap.size) (fr:Nat × Nat) (hm:ss.length≤140737488355328) (hsz:∀ s ∈ ss,s.size≤9223372036854775807) :
  Calls Tryz.prog 130 #[.pointer (some ⟨d,0,none⟩),.slice (some ⟨g,0,none⟩) ss.length c] (w1.alloc (.cells (ss.map Value.string).toArray 9 fr)) (Told w d F (w1.alloc (.cells (ss.map Value.string).toArray 9 fr)) (D.sync (ss.map nm))):=by
 obtain ⟨own,hd,hb,hnn,hF⟩:=h
 have hd1:=hd.chg (Chg.alloc w1 (.cells (ss.map Value.string).toArray 9 fr)) (fun _ h=>h.elim)
 refine (sync_calls hd1 (some ⟨g,0,none⟩) ss c (strs_new w1 ss g hg _ fr) hm hsz (fun a ha=>by cases ha;exact own_new hd (by rw [hg];exact Nat.le_refl _))).mono ?_
 rintro e w' ⟨own',rfl,hd',hc,hx⟩
 exact ⟨rfl,St.step (hb.alloc hb.size _) hnn (fun k hk=>by have:=hF k hk;simp;omega) hd' hc hx⟩
theorem st_remove (h:St w w1 d D F) (ss:List ByteArray) (g c:Nat) (hg:g=w1.heap.size) (fr:Nat × Nat) (hm:ss.length≤140737488355328) (hsz:∀ s ∈ ss,s.size≤9223372036854775807) :
  Calls Tryz.prog 76 #[.pointer (some ⟨d,0,none⟩),.slice (some ⟨g,0,none⟩) ss.length c] (w1.alloc (.cells (ss.map Value.string).toArray 9 fr)) (Told w d F (w1.alloc (.cells (ss.map Value.string).toArray 9 fr)) (D.remove (ss.map nm))):=by
 obtain ⟨own,hd,hb,hnn,hF⟩:=h
 have hd1:=hd.chg (Chg.alloc w1 (.cells (ss.map Value.string).toArray 9 fr)) (fun _ h=>h.elim)
 refine (remove_calls hd1 (some ⟨g,0,none⟩) ss c (strs_new w1 ss g hg _ fr) hm hsz (fun a ha=>by cases ha;exact own_new hd (by rw [hg];exact Nat.le_refl _))).mono ?_
 rintro e w' ⟨own',rfl,hd',hc,hx⟩
 exact ⟨rfl,St.step (hb.alloc hb.size _) hnn (fun k hk=>by have:=hF k hk;simp;omega) hd' hc hx⟩
def GotB (w:World) (d:Nat) (D:zAA) (F:Nat→Prop) (w1:World) (o:Option zAN) (e:Ending) (w':World):Prop :=
 ∃ v,e=.returned (.tuple #[v,.int .i64 (readE o)])∧OwnB w' 5 v (zBz o)∧(∀ k,v.ownBlock=some k→w1.heap.size≤k)∧Below w1.heap.size w1 w'∧St w w' d D F
theorem st_read (h:St w w1 d D F) (s:ByteArray) (hs:s.size≤9223372036854775807) :
  Calls Tryz.prog 75 #[.pointer (some ⟨d,0,none⟩),.string s] w1 (GotB w d D F w1 (Sat.get (nm s) D.files)):=by
 have h0:=h
 obtain ⟨own,hd,hb,hnn,hF⟩:=h
 refine (read_calls hd s hs).mono ?_
 rintro e w' ⟨v,rfl,hv,hn,hb'⟩
 exact ⟨v,rfl,hv,hn,hb',h0.next hb'⟩
end
/-! ### What a law lays itself -/
theorem has_lit {w:World} {e:TypeId} {fr:Nat × Nat} (cs:Array Value) (l:Bs) (g n c:Nat) (hg:g=w.heap.size) (hn:n=l.length) (h:cs.toList=zAR l):HasB (w.alloc (.cells cs e fr)) (.slice (some ⟨g,0,none⟩) n c) l:=by
 subst hg
 subst hn
 refine ⟨by simp [zAR],some ⟨w.heap.size,0,none⟩,c,rfl,fun e=>(by cases e),fun a ha i u hu=>?_⟩
 cases ha
 rw [add_zero]
 refine zAC (zAU w _) ?_
 rw [← h] at hu
 simpa using hu
theorem zC9 {w:World} {v:Value} {l:Bs} (h:HasB w v l) (o:Obj):HasB (w.alloc o) v l:=h.chg (Chg.alloc w o) fun _ _=>id
theorem zBq {w:World} {v:Value} {l:Bs} (h:HasB w v l) (e:TypeId) (fr:Nat × Nat) (g c:Nat) (hg:g=w.heap.size) (hc:1≤c):zAy (w.alloc (.cells #[v] e fr)) (.slice (some ⟨g,0,none⟩) 1 c) [l]:=by
 subst hg
 refine ⟨_,c,rfl,by simpa using hc,fun _=>⟨_,_,[v],rfl,rfl,fun i u hu=>?_,fun i u m hu hm=>?_⟩⟩
 ·rw [add_zero]
  refine zAC (zAU w _) ?_
  simpa using hu
 ·have hi:i=0:=by
   have:=(List.getElem?_eq_some_iff.1 hu).1
   simpa using this
  subst hi
  simp at hu hm
  subst hu
  subst hm
  exact (zC9 h _).kit
end Go.Proofs.YtapfnehdgailmaaGreat
namespace Go.Sat
open Go.RowKit
theorem HasB.at {w:World} {v:Value} {l:Bs} (h:HasB w v l):l=[]∨∃ b o c,v=.slice (some ⟨b,o,none⟩) l.length c∧∀ i x,l[i]?=some x→w.cell? ⟨b,o+i,none⟩=some (.int .u8 (x.toNat:Int)):=by
 obtain ⟨p,c,rfl,h0,hc⟩:=h.kit
 cases p with
 | none=>exact .inl (h0 rfl)
 | some a =>
  cases l with
  | nil=>exact .inl rfl
  | cons x r =>
   obtain ⟨b,o,sp⟩:=a
   have h1:=hc _ rfl 0 x (by simp)
   have hsp:sp=none:=by
    have:=World.cell?_spot h1
    simpa [Addr.add] using this
   subst hsp
   refine .inr ⟨b,o,c,rfl,fun i y hy=>?_⟩
   have h2:=hc _ rfl i y hy
   have e:(⟨b,o,none⟩:Addr).add i=⟨b,o+i,none⟩:=by unfold Addr.add;split <;> simp_all
   rw [← e]
   exact h2
end Go.Sat
namespace Go.Proofs.YtapfnehdgailmaaGreat
open Go.RowKit Go.Sat Go.Maps
def True3 (w:World) (e:Ending) (w':World):Prop:=e=.returned (.bool true)∧Below w.heap.size w w'
def sA:ByteArray:=⟨#[97]⟩
def b5:Bs:=[49,50,51,52,53]
def b3:Bs:=[54,55,56]
def b6:Bs:=[49,50,51,52,53,54]
def K0:zAA:=zAA.fresh 100
def K1:zAA:=(K0.append [97] b5).1
def K2:zAA:=(K1.sync [[97]]).1
def K3:zAA:=(K2.append [97] b3).1
theorem k1:(K0.append (nm sA) [b5].flatten)=(K1,0):=by rfl
theorem k2:(K1.sync ([sA].map nm))=(K2,0):=by rfl
theorem k3:(K2.append (nm sA) [b3].flatten)=(K3,0):=by rfl
theorem k4:Sat.get (nm sA) (K3.crash 1).files=some ⟨b6,6⟩:=by rfl
end Go.Proofs.YtapfnehdgailmaaGreat
namespace Go.Sat
open Go.RowKit
theorem zAX.cut {w:World} {p:Option Addr} {n c:Nat} {xs:List Value} (h:zAX w 1 (.slice p n c) n xs) {k:Nat} (hk:k≤n) (c':Nat):zAX w 1 (.slice p k c') k (xs.take k):=by
 obtain ⟨hl,p',cap,e,h0,hc⟩:=h
 cases e
 refine ⟨by rw [List.length_take];omega,p,c',rfl,fun e=>?_,fun a ha i u hu=>hc a ha i u ?_⟩
 ·have:=h0 e
  omega
 ·rw [List.getElem?_take] at hu
  split at hu
  ·exact hu
  ·cases hu
theorem HasB.cut {w:World} {p:Option Addr} {n c:Nat} {l:Bs} (h:HasB w (.slice p n c) l) {k:Nat} (hk:k≤l.length) (c':Nat):HasB w (.slice p k c') (l.take k):=by
 obtain ⟨p',c2,e⟩:=h.slice
 cases e
 unfold HasB at h ⊢
 have e1:(l.take k).length=k:=by rw [List.length_take];omega
 rw [e1,bytesV_take]
 exact zAX.cut h hk c'
theorem zB8 {P:Program} (w:World) {t e:TypeId} {i:TypeInfo} (ht:P.underlying t=some (.slice e)) (hi:P.info? e=some i) (a:Option Addr) (len cap k:Nat) (h:k≤cap) :
  (Instr.slice t (.slice a len cap) none (some (.int .i64 (k:Int))) none).run P w=.ok (.slice a k cap) w:=by
 have h1:(Instr.sliceBound (.int .i64 (k:Int)) cap .sliceAcap).run P w=.ok k w:=by
  rw [run_sliceBound _ _ _ _ _ (by omega) (by omega)]
  simp
 have h3:(if cap=0 then a else a.map fun x=>x.add (0 * i.size))=a:=by
  split
  ·rfl
  ·cases a <;> simp [Addr.add]
 simp only [Nat.zero_mul] at h3
 simp [Instr.slice,run_underlying ht,Instr.sliceBounds,h1,sizeOf,typeInfo,hi,Result.andThen,h3]
theorem OwnB.shape {w:World} {e:TypeId} {v:Value} {l:Bs} (h:OwnB w e v l):v=.slice none 0 0∨∃ g c,v=.slice (some ⟨g,0,none⟩) l.length c:=by
 rcases h.2 with ⟨rfl,_⟩ | ⟨g,cap,cur,rfl,_⟩
 ·exact .inl rfl
 ·exact .inr ⟨g,cap,rfl⟩
end Go.Sat
namespace Go.Proofs.YtapfnehdgailmaaGreat
open Go.RowKit Go.Sat Go.Maps
theorem zAy.row {w:World} {p:Option Addr} {n c:Nat} {ls:List Bs} (h:zAy w (.slice p n c) ls) {k:Nat} (hk:k < ls.length) :
  n=ls.length∧∃ b o v,p=some ⟨b,o,none⟩∧w.cell? ⟨b,o+k,none⟩=some v∧HasB w v ls[k]:=by
 obtain ⟨p',c',e,hc,hP⟩:=h
 cases e
 have hne:ls≠[]:=fun e=>by rw [e] at hk;simp at hk
 obtain ⟨b,o,vs,rfl,h1,h2,h3⟩:=hP hne
 have hkv:k < vs.length:=by rw [h1];exact hk
 have e1:(⟨b,o,none⟩:Addr).add k=⟨b,o+k,none⟩:=by unfold Addr.add;split <;> simp_all
 refine ⟨rfl,b,o,vs[k],rfl,?_,HasB.of_kit (h3 k _ _ (List.getElem?_eq_getElem hkv) (List.getElem?_eq_getElem hk))⟩
 rw [← e1]
 exact h2 k _ (List.getElem?_eq_getElem hkv)
theorem zAy.len {w:World} {p:Option Addr} {n c:Nat} {ls:List Bs} (h:zAy w (.slice p n c) ls):n=ls.length:=by
 obtain ⟨p',c',e,_⟩:=h
 cases e
 rfl
/-! ### The disk behind k rounds -/
theorem flat_take {ls:List Bs} {k:Nat} (hk:k < ls.length):(ls.take (k+1)).flatten=(ls.take k).flatten ++ ls[k]:=by
 rw [List.take_succ_eq_append_getElem hk,List.flatten_append]
 simp
theorem flat_take_le (ls:List Bs) (k:Nat):(ls.take k).flatten.length≤ls.flatten.length:=by
 conv=>rhs;rw [← List.take_append_drop k ls,List.flatten_append,List.length_append]
 omega
def bitF (z:Int):Int:=bits .xor .u32 (z / 2) (bits .and .u32 3988292384 (-bits .and .u32 z 1 % 4294967296))
def zDB:Nat→Int→Int
 | 0,z=>z
 | k+1,z=>bitF (zDB k z)
def byteF (v:Int) (c:UInt8):Int:=zDB 8 (bits .xor .u32 v (c.toNat:Int))
def rowF (v:Int) (l:Bs):Int:=l.foldl byteF v
def rowsF (ls:List Bs):Int:=ls.foldl rowF 4294967295
theorem rowF_take (v:Int) (l:Bs) {j:Nat} (hj:j < l.length):rowF v (l.take (j+1))=byteF (rowF v (l.take j)) l[j]:=by
 rw [List.take_succ_eq_append_getElem hj]
 simp only [rowF,List.foldl_append,List.foldl_cons,List.foldl_nil]
theorem rowsF_take (ls:List Bs) {k:Nat} (hk:k < ls.length):rowsF (ls.take (k+1))=rowF (rowsF (ls.take k)) ls[k]:=by
 rw [List.take_succ_eq_append_getElem hk]
 simp only [rowsF,List.foldl_append,List.foldl_cons,List.foldl_nil]
theorem rowsF_flat (ls:List Bs):rowsF ls=rowF 4294967295 ls.flatten:=by
 unfold rowsF rowF
 rw [List.foldl_flatten]
def sumF (l:Bs):Int:=bits .xor .u32 IntKind.u32.max (rowF 4294967295 l)
theorem sum_calls {w:World} {p:Option Addr} {n c:Nat} {ls:List Bs} (hx:zAy w (.slice p n c) ls) (hn:n≤140737488355328) (hrow:∀ l ∈ ls,l.length≤140737488355328) :
  Calls Tryz.prog 181 #[.slice p n c] w (fun e w'=>e=.returned (.int .u32 (sumF ls.flatten))∧w'=w):=by
 have hnl:=zAy.len hx
 have Hx:=zh hx
 have Hrow:=zh hrow
 have Hnl:=zh hnl
 clear hx hrow hnl
 go_enter Tryz.func181,Tryz.ntmps181
 go_wp2_with fail
 go_loop [3,10] (fun v i=>∃ k:Nat,k≤n∧i=.int .i64 k∧v=.int .u32 (rowsF (ls.take k))) (fun _ i=>n - (intOf i).toNat)
 case atStart=>exact ⟨0,Nat.zero_le _,rfl,rfl⟩
 case round =>
  obtain ⟨k,hk,rfl,rfl⟩:=hrel
  by_cases hlt:k < n
  ·have hltl:k < ls.length:=by rw [← Hnl.out];exact hlt
   have Hrw:=zh (rowsF_take ls hltl)
   obtain ⟨-,b,o,v,rfl,hcell,hv⟩:=zAy.row Hx.out hltl
   have hrl:=Hrow.out _ (List.getElem_mem hltl)
   generalize hl:ls[k]=l at *
   have Hat:=zh hv.at
   obtain ⟨pv,cv,rfl⟩:=hv.slice
   generalize hm:l.length=m at *
   generalize rowsF (ls.take k)=x at *
   have Hm:=zh hm
   clear hv hm hl
   go_wp2_with fail
   go_loop [3,16] (fun v i=>∃ j:Nat,j≤m∧i=.int .i64 j∧v=.int .u32 (rowF x (l.take j))) (fun _ i=>m - (intOf i).toNat)
   case atStart=>exact ⟨0,Nat.zero_le _,rfl,rfl⟩
   case round =>
    obtain ⟨j,hj,rfl,rfl⟩:=hrel
    by_cases hlj:j < m
    ·have hljl:j < l.length:=by rw [Hm.out];exact hlj
     have Hbt:=zh (rowF_take x l hljl)
     rcases Hat.out with h | ⟨b2,o2,c2,e1,hcx⟩
     ·rw [h] at hljl
      simp at hljl
     cases e1
     have hcb:=hcx j _ (List.getElem?_eq_getElem hljl)
     generalize l[j]=cc at *
     generalize rowF x (l.take j)=y at *
     have hcc:cc.toNat < 256:=cc.toNat_lt
     clear hcx
     go_wp2_with fail
     have HB:=zh (show byteF y cc=zDB 8 (bits .xor .u32 y (cc.toNat:Int)) from rfl)
     generalize bits .xor .u32 y (cc.toNat:Int)=z0 at *
     go_loop [3,24] (fun v i=>∃ q:Nat,q≤8∧i=.int .i64 q∧v=.int .u32 (zDB q z0)) (fun _ i=>8 - (intOf i).toNat)
     case atStart=>exact ⟨0,Nat.zero_le _,rfl,rfl⟩
     case round =>
      obtain ⟨q,hq,rfl,rfl⟩:=hrel
      by_cases hlq:q < 8
      ·have Hit:=zh (show zDB (q+1) z0=bitF (zDB q z0) from rfl)
       generalize zDB q z0=z at *
       go_wp2_with fail
       go_round
       case rel=>exact ⟨q+1,by omega,by go_num,by rw [Hit.out];rfl⟩
       case measure=>simp [intOf];omega
      ·have hq8:q=8:=by omega
       subst hq8
       go_wp2_with fail
       go_round
       case rel=>exact ⟨j+1,by omega,by go_num,by rw [Hbt.out,HB.out]⟩
       case measure=>simp [intOf];omega
    ·have hjm:j=m:=by omega
     have hlk:l.take j=l:=List.take_of_length_le (by rw [Hm.out];omega)
     rw [hlk]
     clear hlk
     go_wp2_with fail
     go_round
     case rel=>exact ⟨k+1,by omega,by go_num,by rw [Hrw.out]⟩
     case measure=>simp [intOf];omega
  ·have hlk:ls.take k=ls:=List.take_of_length_le (by have:=Hnl.out;omega)
   rw [hlk]
   clear hlk
   have He:=zh (show sumF ls.flatten=bits .xor .u32 IntKind.u32.max (rowsF ls) by rw [rowsF_flat];rfl)
   generalize rowsF ls=x at *
   go_wp2_with fail
   go_ret
   exact ⟨by rw [He.out];rfl,rfl⟩
def zA1 (n:Nat):Bs:=[UInt8.ofNat n,UInt8.ofNat (n / 256),UInt8.ofNat (n / 65536),UInt8.ofNat (n / 16777216)]
def NewB (w:World) (l:Bs) (e:Ending) (w':World):Prop:=∃ v,e=.returned v∧HasB w' v l∧Below w.heap.size w w'
theorem four_calls {w:World} (v:Nat) (h1:v < 4294967296) :
  Calls Tryz.prog 180 #[.int .u32 (v:Int)] w (NewB w (zA1 v)):=by
 have hfin:NewB w (zA1 v) (.returned (.slice (some ⟨w.heap.size,0,none⟩) 4 4)) (w.alloc (.cells #[.int .u8 ((v:Int) % 256),.int .u8 ((v:Int) / 256 % 256),.int .u8 ((v:Int) / 65536 % 256),.int .u8 ((v:Int) / 16777216)] 5)) :=
  ⟨_,rfl,has_lit _ (zA1 v) _ _ 4 rfl rfl (by
   simp only [zA1,zAR,List.map_cons,List.map_nil,UInt8.toNat_ofNat']
   have e1:(v:Int) / 16777216=((v / 16777216 % 256:Nat):Int):=by omega
   have e2:(v:Int) % 256=((v % 256:Nat):Int):=by omega
   have e3:(v:Int) / 256 % 256=((v / 256 % 256:Nat):Int):=by omega
   have e4:(v:Int) / 65536 % 256=((v / 65536 % 256:Nat):Int):=by omega
   rw [e1,e2,e3,e4]),(Below.refl _ _).alloc (Nat.le_refl _) _⟩
 have Hfin:=zh hfin
 clear hfin
 go_enter Tryz.func180,Tryz.ntmps180
 go_wp2_with fail
 go_ret
 exact Hfin.out
theorem or_add (k a b:Nat) (h:a < 2 ^ k):(a ||| b * 2 ^ k)=a+b * 2 ^ k:=by
 have:=Nat.two_pow_add_eq_or_of_lt h b
 rw [Nat.or_comm,Nat.mul_comm b,← this,Nat.add_comm]
theorem or_four {x0 x1 x2 x3:Nat} (l0:x0 < 2 ^ 8) (l1:x1 < 2 ^ 8) (l2:x2 < 2 ^ 8) (l3:x3 < 2 ^ 8) :
  bits .or .u32 (bits .or .u32 (bits .or .u32 (x0:Int) ((x1:Int) * 256)) ((x2:Int) * 65536)) ((x3:Int) * 16777216)=((x0+x1 * 256+x2 * 65536+x3 * 16777216:Nat):Int):=by
 have e1:(x1:Int) * 256=((x1 * 2 ^ 8:Nat):Int):=by omega
 have e2:(x2:Int) * 65536=((x2 * 2 ^ 16:Nat):Int):=by omega
 have e3:(x3:Int) * 16777216=((x3 * 2 ^ 24:Nat):Int):=by omega
 rw [e1,e2,e3,u32_or_nat _ _ (by omega) (by omega),or_add 8 x0 x1 (by omega),u32_or_nat _ _ (by omega) (by omega),or_add 16 _ x2 (by omega),u32_or_nat _ _ (by omega) (by omega),or_add 24 _ x3 (by omega)]
def ofFour (a0 a1 a2 a3:UInt8):Nat:=a0.toNat+a1.toNat * 256+a2.toNat * 65536+a3.toNat * 16777216
theorem of_four (n:Nat) (h:n < 4294967296):ofFour (UInt8.ofNat n) (UInt8.ofNat (n / 256)) (UInt8.ofNat (n / 65536)) (UInt8.ofNat (n / 16777216))=n:=by
 simp only [ofFour,UInt8.toNat_ofNat']
 omega
theorem fromFour_calls {w:World} {b o n c:Nat} {a0 a1 a2 a3:UInt8} (hn:4≤n) (h0:w.cell? ⟨b,o,none⟩=some (.int .u8 (a0.toNat:Int))) (h1:w.cell? ⟨b,o+1,none⟩=some (.int .u8 (a1.toNat:Int)))
  (h2:w.cell? ⟨b,o+2,none⟩=some (.int .u8 (a2.toNat:Int))) (h3:w.cell? ⟨b,o+3,none⟩=some (.int .u8 (a3.toNat:Int))) :
  Calls Tryz.prog 205 #[.slice (some ⟨b,o,none⟩) n c] w (fun e w'=>e=.returned (.int .u32 (ofFour a0 a1 a2 a3:Int))∧∃ q,w'=w.drewN q):=by
 have l0:=a0.toNat_lt
 have l1:=a1.toNat_lt
 have l2:=a2.toNat_lt
 have l3:=a3.toNat_lt
 have i0:(0:Int) < (n:Int):=by omega
 have i1:(1:Int) < (n:Int):=by omega
 have i2:(2:Int) < (n:Int):=by omega
 have i3:(3:Int) < (n:Int):=by omega
 have hF:=or_four l0 l1 l2 l3
 have HF:=zh (show bits .or .u32 (bits .or .u32 (bits .or .u32 (a0.toNat:Int) ((a1.toNat:Int) * 256)) ((a2.toNat:Int) * 65536)) ((a3.toNat:Int) * 16777216)=(ofFour a0 a1 a2 a3:Int) from hF)
 clear hF
 generalize ofFour a0 a1 a2 a3=r at *
 generalize a0.toNat=x0 at *
 generalize a1.toNat=x1 at *
 generalize a2.toNat=x2 at *
 generalize a3.toNat=x3 at *
 go_enter Tryz.func205,Tryz.ntmps205
 go_wp2_with fail
 go_quiet (fail)
 go_wp2
 go_ret
 exact ⟨by rw [← HF.out];rfl,_,rfl⟩
def sumN (l:Bs):Nat:=(sumF l).toNat
theorem sumF_range (l:Bs):0≤sumF l∧sumF l < 4294967296:=by
 unfold sumF bits
 rw [IntKind.wrap_u32]
 omega
theorem zCV (l:Bs):sumF l=(sumN l:Int):=by
 have:=(sumF_range l).1
 unfold sumN
 omega
theorem sumN_lt (l:Bs):sumN l < 4294967296:=by
 have:=sumF_range l
 unfold sumN
 omega
theorem rows_two {w:World} {v1 v2:Value} {l1 l2:Bs} (h1:HasB w v1 l1) (h2:HasB w v2 l2) (e:TypeId) (fr:Nat × Nat) (g c:Nat) (hg:g=w.heap.size) (hc:2≤c):zAy (w.alloc (.cells #[v1,v2] e fr)) (.slice (some ⟨g,0,none⟩) 2 c) [l1,l2]:=by
 subst hg
 refine ⟨_,c,rfl,by simpa using hc,fun _=>⟨_,_,[v1,v2],rfl,rfl,fun i u hu=>?_,fun i u m hu hm=>?_⟩⟩
 ·have e1:(⟨w.heap.size,0,none⟩:Addr).add i=⟨w.heap.size,i,none⟩:=by unfold Addr.add;split <;> simp_all
  rw [e1]
  refine zAC (zAU w _) ?_
  simpa using hu
 ·have hi:i < 2:=by
   have:=(List.getElem?_eq_some_iff.1 hu).1
   simpa using this
  have:i=0∨i=1:=by omega
  rcases this with rfl | rfl
  ·simp at hu hm
   subst hu
   subst hm
   exact (zC9 h1 _).kit
  ·simp at hu hm
   subst hu
   subst hm
   exact (zC9 h2 _).kit
theorem zBk (w:World) (o:Obj):Below w.heap.size w (w.alloc o):=(Below.refl _ _).alloc (Nat.le_refl _) o
theorem zAg {w w1 w2:World} (h:Below w.heap.size w w1) (k:Below w1.heap.size w1 w2):Below w.heap.size w w2:=h.trans (k.mono h.size)
def zBg (n:Nat):Bs:=zA1 n ++ zA1 (sumN (zA1 n))
theorem head_calls {w:World} (n:Nat) (h:n < 4294967296) :
  Calls Tryz.prog 179 #[.int .u32 (n:Int)] w (NewB w (zBg n)):=by
 have Hf:=zh (fun w=>four_calls (w:=w) n h)
 go_enter Tryz.func179,Tryz.ntmps179
 go_wp2_with fail
 refine (Hf.out _).mono ?_
 rintro e w1 ⟨v1,rfl,hv1,hb1⟩
 have V1:=zh hv1
 have B1:=zh hb1
 clear hv1 hb1
 go_wp2_with fail
 refine (Hf.out _).mono ?_
 rintro e w2 ⟨v2,rfl,hv2,hb2⟩
 have V2:=zh hv2
 have B2:=zh hb2
 obtain ⟨p2,c2,rfl⟩:=hv2.slice
 clear hv2 hb2
 go_wp2_with fail
 refine (sum_calls (zBq V2.out 22 (0,0) _ 1 rfl (Nat.le_refl _)) (by decide) (by simp [zA1])).mono ?_
 rintro e w3 ⟨rfl,rfl⟩
 rw [show [zA1 n].flatten=zA1 n by simp,zCV]
 have Hg:=zh (fun w=>four_calls (w:=w) (sumN (zA1 n)) (sumN_lt _))
 have Hh:=zh (show zBg n=zA1 n ++ zA1 (sumN (zA1 n)) from rfl)
 generalize sumN (zA1 n)=q at *
 go_wp2_with fail
 refine (Hg.out _).mono ?_
 rintro e w4 ⟨v4,rfl,hv4,hb4⟩
 have B2':=zAg B1.out (zAg B2.out (zAg (zBk _ _) hb4))
 have V1':=V1.out.below (zAg B2.out (zAg (zBk _ _) hb4))
 obtain ⟨p1,c1,rfl⟩:=V1.out.slice
 obtain ⟨p4,c4,rfl⟩:=hv4.slice
 have hj:=zBa (rows_two V1' hv4 22 (0,0) _ 2 rfl (Nat.le_refl _)) (by simp) (by simp [zA1])
 have Hj:=zh hj
 have BB:=zh B2'
 clear hj V1' B2' hv4 hb4
 go_wp2_with fail
 refine Hj.out.mono ?_
 rintro e w5 ⟨v5,rfl,hv5,hb5⟩
 have Hfin:=zh (show NewB w (zBg n) (.returned v5) w5 from ⟨v5,rfl,by rw [Hh.out];simpa using hv5,zAg BB.out (zAg (zBk _ _) hb5)⟩)
 clear hv5 hb5
 go_wp2_with fail
 go_ret
 exact Hfin.out
end Go.Proofs.YtapfnehdgailmaaGreat
namespace Go.Proofs.YtapfnehdgailmaaGreat
open Go.RowKit Go.Sat
theorem fresh_ge {B:Nat} {w:World} {v:Value} {l:Bs} (h:Lib.FreshBytes B w v l):∀ k,v.ownBlock=some k→B≤k:=by
 obtain ⟨g,cap,zs,rfl,h1,_⟩:=h
 intro k hk
 cases hk
 exact h1
theorem bjoin_new {w:World} {x:Value} {ls:List Bs} (h:zAy w x ls) (hn:ls.length≤140737488355328) (hl:ls.flatten.length≤140737488355328) :
  Calls Tryz.prog 145 #[x,.slice none 0 0] w fun e w'=>∃ v,e=.returned v∧HasB w' v ls.flatten∧(∀ k,v.ownBlock=some k→w.heap.size≤k)∧Below w.heap.size w w':=by
 obtain ⟨p,c,rfl,hc,hQ⟩:=h
 cases ls with
 | nil =>
  refine (Tryz.bytes_Join_none p c (.slice none 0 0) w).mono ?_
  rintro e w' ⟨rfl,rfl⟩
  refine ⟨_,rfl,?_,fun k hk=>(by simp [Value.ownBlock] at hk;omega),(Below.refl _ _).alloc (Nat.le_refl _) _⟩
  exact HasB.of_kit ⟨_,_,rfl,fun e=>(by cases e),fun a ha i x hx=>by simp at hx⟩
 | cons l0 r =>
  obtain ⟨b,o,vs,rfl,hP⟩:=hQ (by simp)
  cases r with
  | nil =>
   obtain ⟨p0,c0,l0',e0,hcell,hp0,hcs⟩:=hP.get 0 (by simp)
   simp at e0
   subst e0
   have hcell':w.cell? ⟨b,o,none⟩=some (.slice p0 l0.length c0):=by simpa [Addr.add] using hcell
   by_cases h0:l0.length=0
   ·have hl0:l0=[]:=List.eq_nil_of_length_eq_zero h0
    subst hl0
    refine (Tryz.bytes_Join_one_empty b o c p0 c0 (.slice none 0 0) w hcell').mono ?_
    rintro e w' ⟨rfl,rfl⟩
    exact ⟨_,rfl,HasB.of_kit ⟨none,0,rfl,fun _=>rfl,fun a ha=>(by cases ha)⟩,fun k hk=>(by cases hk),Below.refl _ _⟩
   ·obtain ⟨a0,rfl⟩:∃ a,p0=some a:=by
     cases p0 with
     | none=>exact absurd (by rw [hp0 rfl];rfl) h0
     | some a=>exact ⟨a,rfl⟩
    refine (Tryz.bytes_Join_one b o c a0 c0 l0 (.slice none 0 0) w hcell' (hcs a0 rfl) (by omega) (by simpa using hl)).mono ?_
    rintro e w' ⟨v,rfl,hf,hb⟩
    exact ⟨v,rfl,by simpa using zC5 hf,fresh_ge hf,hb⟩
  | cons l1 r =>
   have hsep:Lib.HoldsBytes w (.slice none 0 0) []:=⟨none,0,rfl,fun _=>rfl,fun a ha=>(by cases ha)⟩
   refine (Tryz.bytes_Join_many b o _ c vs (l0 :: l1 :: r) (.slice none 0 0) [] w rfl (by simp) hP hc hsep hn (by rw [← flat_len];simpa using hl)).mono ?_
   rintro e w' ⟨v,rfl,hf,hb⟩
   rw [join_flat] at hf
   exact ⟨v,rfl,zC5 hf,fresh_ge hf,hb⟩
theorem join_new {w:World} {x:Value} {ls:List Bs} (h:zAy w x ls) (hn:ls.length≤140737488355328) (hl:ls.flatten.length≤140737488355328) :
  Calls Tryz.prog 66 #[x] w fun e w'=>∃ v,e=.returned v∧HasB w' v ls.flatten∧(∀ k,v.ownBlock=some k→w.heap.size≤k)∧Below w.heap.size w w':=by
 have hj:=bjoin_new h hn hl
 obtain ⟨p,c,rfl,hc,hP⟩:=h
 have Hj:=zh hj
 clear hj hP
 go_enter Tryz.func66,Tryz.ntmps66
 go_wp2_with fail
 refine Hj.out.mono ?_
 rintro e w' ⟨v,rfl,hv,hw,hb⟩
 go_wp2_with fail
 go_ret
 exact ⟨v,rfl,hv,hw,hb⟩
end Go.Proofs.YtapfnehdgailmaaGreat
namespace Go.Proofs.YtapfnehdgailmaaGreat
open Go.RowKit Go.Sat Go.Maps
def zAG (l:Bs):Bs:=(zBg l.length ++ l) ++ zA1 (sumN (zBg l.length ++ l))
theorem lens_take (ls:List Bs) {k:Nat} (hk:k < ls.length):(ls.take (k+1)).flatten.length=(ls.take k).flatten.length+ls[k].length:=by
 rw [flat_take hk,List.length_append]
theorem enc_calls {w:World} {p:Option Addr} {n c:Nat} {ls:List Bs} (hx:zAy w (.slice p n c) ls) (hn:n≤140737488355328) (hl:ls.flatten.length≤1048576) :
  Calls Tryz.prog 128 #[.slice p n c] w (fun e w'=>∃ v,e=.returned (.tuple #[v,.int .i64 0])∧HasB w' v (zAG ls.flatten)∧(∀ k,v.ownBlock=some k→w.heap.size≤k)∧Below w.heap.size w w'):=by
 have hnl:=zAy.len hx
 have Hx:=zh hx
 have Hl:=zh hl
 have Hnl:=zh hnl
 clear hx hl hnl
 go_enter Tryz.func128,Tryz.ntmps128
 go_wp2_with fail
 go_loop [4,10] (fun a i=>∃ k:Nat,k≤n∧i=.int .i64 k∧a=.int .i64 (((ls.take k).flatten.length:Nat):Int)∧(ls.take k).flatten.length≤1048576) (fun _ i=>n - (intOf i).toNat)
 case atStart=>exact ⟨0,Nat.zero_le _,rfl,by simp,by simp⟩
 case round =>
  obtain ⟨k,hk,rfl,rfl,hck⟩:=hrel
  by_cases hlt:k < n
  ·have hltl:k < ls.length:=by rw [← Hnl.out];exact hlt
   have hct:=lens_take ls hltl
   have hle:=flat_take_le ls (k+1)
   obtain ⟨-,b,o,v,rfl,hcell,hv⟩:=zAy.row Hx.out hltl
   obtain ⟨pv,cv,rfl⟩:=hv.slice
   have hc8:(ls.take (k+1)).flatten.length≤1048576:=by have:=Hl.out;omega
   have hsum:(ls.take k).flatten.length+ls[k].length≤1048576:=by omega
   have Hct:=zh hct
   have Hc8:=zh hc8
   clear hv hct hle hc8
   generalize ls[k].length=m at *
   generalize (ls.take k).flatten.length=C at *
   go_wp2_with fail
   go_round
   case rel=>exact ⟨k+1,by omega,by go_num,by rw [Hct.out];go_num,Hc8.out⟩
   case measure=>simp [intOf];omega
  ·have hls:ls.take k=ls:=List.take_of_length_le (by have:=Hnl.out;omega)
   rw [hls] at hck ⊢
   have hkn:k=n:=by omega
   have Hhd:=zh (fun w=>head_calls (w:=w) ls.flatten.length (by have:=Hl.out;omega))
   have HFr:=zh (show zAG ls.flatten=(zBg ls.flatten.length ++ ls.flatten) ++ zA1 (sumN (zBg ls.flatten.length ++ ls.flatten)) from rfl)
   have Hjn:=zh (fun (W:World) (hb:Below w.heap.size w W)=>zBa (zCF Hx.out hb) (by rw [← Hnl.out];omega) (by have:=Hl.out;omega))
   generalize hX:ls.flatten=X at *
   have HX:=zh hX
   clear hX
   generalize hC:X.length=C at *
   have hhl:(zBg C).length=8:=rfl
   generalize zBg C=hd at *
   have HC:=zh hC
   have Hhl:=zh hhl
   clear hls hC hhl
   go_wp2_with fail
   refine (Hhd.out _).mono ?_
   rintro e w1 ⟨v1,rfl,hv1,hb1⟩
   have V1:=zh hv1
   have B1:=zh hb1
   have Hj:=zh (Hjn.out _ hb1)
   clear hv1 hb1
   go_wp2_with fail
   refine Hj.out.mono ?_
   rintro e w2 ⟨v2,rfl,hv2,hb2⟩
   have hh1:=V1.out.below hb2
   obtain ⟨p1,c1,rfl⟩:=hh1.slice
   obtain ⟨p2,c2,rfl⟩:=hv2.slice
   have hj:=zBa (rows_two hh1 hv2 22 (0,0) _ 2 rfl (Nat.le_refl _)) (by simp) (by simp [Hhl.out,HC.out];omega)
   rw [show [hd,X].flatten=hd ++ X by simp] at hj
   have e1:=Hhl.out
   have e2:=HC.out
   rw [e1,e2] at hj
   rw [e1,e2]
   have Hj2:=zh hj
   have B2:=zh (zAg B1.out (zAg hb2 (zBk w2 (.cells #[.slice p1 8 c1,.slice p2 C c2] 22))))
   clear hj hh1 hv2 hb2 Hj e1 e2
   go_wp2_with fail
   refine Hj2.out.mono ?_
   rintro e w3 ⟨v3,rfl,hv3,hb3⟩
   have V3:=zh hv3
   have B3:=zh (zAg B2.out hb3)
   have hlb:(hd ++ X).length≤1048584:=by rw [List.length_append,Hhl.out,HC.out];omega
   have HLb:=zh hlb
   generalize hY:hd ++ X=Y at *
   obtain ⟨p3,c3,rfl⟩:=hv3.slice
   clear hv3 hb3 hY hlb
   have hlY:=HLb.out
   generalize hD:Y.length=yl at *
   have HD:=zh hD
   clear hD
   go_wp2_with fail
   refine (sum_calls (zBq V3.out 22 (0,0) _ 1 rfl (Nat.le_refl _)) (by decide) (by simp [HD.out];omega)).mono ?_
   rintro e w4 ⟨rfl,rfl⟩
   rw [show [Y].flatten=Y by simp,zCV]
   have Hg:=zh (fun w=>four_calls (w:=w) (sumN Y) (sumN_lt _))
   generalize sumN Y=q at *
   go_wp2_with fail
   refine (Hg.out _).mono ?_
   rintro e w5 ⟨v5,rfl,hv5,hb5⟩
   have V3':=V3.out.below (zAg (zBk _ _) hb5)
   obtain ⟨p5,c5,rfl⟩:=hv5.slice
   have hj:=join_new (rows_two V3' hv5 22 (0,0) _ 2 rfl (Nat.le_refl _)) (by simp) (by simp [zA1,HD.out];omega)
   rw [show [Y,zA1 q].flatten=Y ++ zA1 q by simp,show (zA1 q).length=4 from rfl] at hj
   have B5:=zh (zAg B3.out (zAg (zBk _ _) hb5))
   rw [show (zA1 q).length=4 from rfl]
   have Hj3:=zh hj
   clear hj V3' hv5 hb5
   go_wp2_with fail
   refine Hj3.out.mono ?_
   rintro e w6 ⟨v6,rfl,hv6,hw6,hb6⟩
   have V6:=zh (And.intro hv6 (And.intro (fun k hk=>Nat.le_trans B5.out.size (Nat.le_trans (zBk w5 _).size (hw6 k hk)):∀ k,v6.ownBlock=some k→w.heap.size≤k) (zAg B5.out (zAg (zBk _ _) hb6))))
   clear hv6 hw6 hb6
   go_wp2_with fail
   go_ret2
   exact ⟨v6,rfl,by rw [HX.out,HFr.out];exact V6.out.1,V6.out.2.1,V6.out.2.2⟩
theorem zBe {w:World} {p:Option Addr} {n c:Nat} {l:Bs} (h:HasB w (.slice p n c) l):n=l.length∧Lib.BytesIn w p n (Lib.numsL l):=by
 have h1:=h.at
 obtain ⟨p',c',e⟩:=h.slice
 cases e
 refine ⟨rfl,fun hn=>?_⟩
 rcases h1 with e | ⟨b,o,c2,e,hc⟩
 ·rw [e] at hn
  simp at hn
 ·cases e
  refine ⟨b,o,rfl,fun i hi=>?_⟩
  rw [hc i l[i] (List.getElem?_eq_getElem hi)]
  simp [Lib.numsL,List.getD,List.getElem?_map,List.getElem?_eq_getElem hi]
theorem zCO {w:World} {x y:Value} {l m:Bs} (hx:HasB w x l) (hy:HasB w y m) :
  Calls Tryz.prog 206 #[x,y] w fun e w'=>e=.returned (.bool (l == m))∧w'=w:=by
 obtain ⟨p1,c1,rfl⟩:=hx.slice
 obtain ⟨p2,c2,rfl⟩:=hy.slice
 have:=Tryz.bytes_Equal_all p1 p2 l.length c1 m.length c2 (Lib.numsL l) (Lib.numsL m) w (Lib.numsL_length l) (Lib.numsL_length m) (zBe hx).2 (zBe hy).2
 rwa [Lib.bytesOf_numsL,Lib.bytesOf_numsL] at this
def fourAt (b:Bs):Nat:=ofFour (b.getD 0 0) (b.getD 1 0) (b.getD 2 0) (b.getD 3 0)
def decE (b:Bs):Nat :=
 if b.length < 8 then 2 else if b.take 8≠zBg (fourAt b) then 4 else if 1048576 < fourAt b then 5 else if b.length < fourAt b+12 then 2
 else if fourAt (b.drop (8+fourAt b))≠sumN (b.take (8+fourAt b)) then 4 else 0
def decB (b:Bs):Bs:=if decE b=0 then (b.drop 8).take (fourAt b) else []
def decL (b:Bs):Nat:=if decE b=0 then fourAt b+12 else 0
def zCI (w:World) (b:Bs) (e:Ending) (w':World):Prop :=
 ∃ v,e=.returned (.tuple #[v,.int .i64 (decL b:Int),.int .i64 (decE b:Int)])∧OwnB w' 5 v (decB b)∧(∀ k,v.ownBlock=some k→w.heap.size≤k)∧Below w.heap.size w w'
theorem four_at {w:World} {p:Option Addr} {n c:Nat} {b:Bs} (h:HasB w (.slice p n c) b) (h4:4≤b.length) :
  Calls Tryz.prog 205 #[.slice p n c] w (fun e w'=>e=.returned (.int .u32 (fourAt b:Int))∧∃ q,w'=w.drewN q):=by
 have h1:=h.at
 obtain ⟨p',c',e⟩:=h.slice
 cases e
 rcases h1 with e | ⟨g,o,c2,e,hc⟩
 ·rw [e] at h4
  simp at h4
 ·cases e
  have hb:∀ i,i < b.length→b[i]?=some (b.getD i 0):=fun i hi=>by simp [List.getD,List.getElem?_eq_getElem hi]
  exact fromFour_calls h4 (by simpa using hc 0 _ (hb 0 (by omega))) (hc 1 _ (hb 1 (by omega))) (hc 2 _ (hb 2 (by omega))) (hc 3 _ (hb 3 (by omega)))
theorem zB1 (b:Bs):fourAt b < 4294967296:=by
 have h0:=(b.getD 0 0).toNat_lt
 have h1:=(b.getD 1 0).toNat_lt
 have h2:=(b.getD 2 0).toNat_lt
 have h3:=(b.getD 3 0).toNat_lt
 unfold fourAt ofFour
 omega
theorem HasB.from {w:World} {g o n c:Nat} {l:Bs} (h:HasB w (.slice (some ⟨g,o,none⟩) n c) l) {k:Nat} (_hk:k≤l.length) (c':Nat):HasB w (.slice (some ⟨g,o+k,none⟩) (n - k) c') (l.drop k):=by
 have h1:=h.at
 obtain ⟨p',c2,e⟩:=h.slice
 cases e
 refine HasB.of_kit ⟨some ⟨g,o+k,none⟩,c',by rw [List.length_drop],fun e=>(by cases e),fun a ha i x hx=>?_⟩
 cases ha
 have e1:(⟨g,o+k,none⟩:Addr).add i=⟨g,o+k+i,none⟩:=by unfold Addr.add;split <;> simp_all
 rw [e1]
 rw [List.getElem?_drop] at hx
 rcases h1 with e | ⟨g2,o2,c3,e,hc⟩
 ·rw [e] at hx
  simp at hx
 ·cases e
  have:=hc _ _ hx
  rw [Nat.add_assoc]
  exact this
theorem run_from {P:Program} (w:World) {t e:TypeId} {i:TypeInfo} (ht:P.underlying t=some (.slice e)) (hi:P.info? e=some i) (hsz:i.size=1) (g o len cap k:Nat) (h:k≤len) (_h2:len≤cap) (h3:k < cap) :
  (Instr.slice t (.slice (some ⟨g,o,none⟩) len cap) (some (.int .i64 (k:Int))) none none).run P w=.ok (.slice (some ⟨g,o+k,none⟩) (len - k) (cap - k)) w:=by
 have h1:(Instr.sliceBound (.int .i64 (k:Int)) len .sliceB).run P w=.ok k w:=by
  rw [run_sliceBound _ _ _ _ _ (by omega) (by omega)]
  simp
 have e1:(⟨g,o,none⟩:Addr).add k=⟨g,o+k,none⟩:=by unfold Addr.add;split <;> simp_all
 simp [Instr.slice,run_underlying ht,Instr.sliceBounds,h1,sizeOf,typeInfo,hi,Result.andThen,hsz,e1]
 omega
end Go.Proofs.YtapfnehdgailmaaGreat
