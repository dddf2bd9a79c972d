/- The contract of Rename. The contract of List. The contract of satrapylaw3.texts. The contracts of satrapylaw4.same and satrapylaw4.texts. keep.Save, keep.Load: the plain model, and the contracts of there. The contract of keep.Save. The contract of keep.Save: the walk. The contract of keep.Load. A ledger (a plain model): what a disk opens as, what Append, Write and Drop leave. The contract of Truncate. The contract of keep.Clear. The contract of keep.Clear: the walk. What keep.Save leaves on a disk with room (plain laws). DiskKeeps: the walk. What keep.Load says of what keep.Save left, behind a crash too; rows that are laid out; a nil disk. -/
import Derived.Test.YtapfnehdgailmaaGreatED
import Derived.Test.YtapfnehdgailmaaGreatEE
import Derived.Test.YtapfnehdgailmaaGreatIter
import Derived.Test.YtapfnehdgailmaaGreatShelf
set_option maxRecDepth 100000
set_option maxHeartbeats 64000000
namespace Go.Proofs.YtapfnehdgailmaaGreat
open Go.RowKit Go.Sat Go.Maps
theorem ok_rename {D:zAA} (h:D.OK) {o n:Bs} {f:zAP} (hg:Sat.get o D.files=some f) (hn:okN n=true):zAA.OK { D with files:=put n f (del o D.files) } where
 srt:=zBd (zB0 h.srt)
 room:=h.room
 used:=by
  show zBB zAA.size (put n f (del o D.files))≤D.room
  have h1:D.used=zAA.size f+zBB zAA.size (del o D.files):=zCy h.srt hg
  have h2:=h.used
  rw [sum_put]
  cases hg2:Sat.get n (del o D.files) with
  | none=>rw [zCP hg2];omega
  | some f2 =>
   have h3:zBB zAA.size (del o D.files)=zAA.size f2+zBB zAA.size (del n (del o D.files)):=zCy (zB0 h.srt) hg2
   omega
 count:=by
  show (put n f (del o D.files)).length≤4096
  have h1:=len_del h.srt hg
  have h2:=len_del_le n (del o D.files)
  have h3:=h.count
  rw [len_put]
  omega
 names p hp:=by
  rcases zBH.1 hp with rfl | ⟨hp,_⟩
  ·exact hn
  ·exact h.names p (zA9.1 hp).1
 lasts p hp:=by
  rcases zBH.1 hp with rfl | ⟨hp,_⟩
  ·exact h.lasts (o,f) (zBM hg)
  ·exact h.lasts p (zA9.1 hp).1
 fuse:=h.fuse
section
variable {w:World} {d m:Nat} {left:Int} {L:List (Bs × FRep)} {own:Own} {D:zAA}
theorem ren_file (h:zAS w d m left L own D) {o n:Bs} {r:FRep} (hg:Sat.get o L=some r) {w':World} (hs:w.heap.size≤w'.heap.size) (hb:∀ k,k < w.heap.size→k≠m→w'.heap[k]?=w.heap[k]?)
  (hm:∃ q,w'.ownsMap Tryz.prog 9 ptrR m q (dm fbD (put n r (del o L)))) (hn:okN n=true) :
  ∃ own',zAS w' d m left (put n r (del o L)) own' { D with files:=put n r.f (del o D.files) }∧Ext w own own':=by
 refine h.remap (L':=put n r (del o L)) hs hb hm (zBd (zB0 h.srt)) rfl rfl (by rw [mp_put,mp_del,← h.files]) (ok_rename h.ok (by rw [h.get,hg];rfl) hn) (fun p hp=>?_) (fun p hp q hq e=>?_)
 ·rcases zBH.1 hp with rfl | ⟨hp,_⟩
  ·exact ⟨_,zBM hg,rfl⟩
  ·exact ⟨p,(zA9.1 hp).1,rfl⟩
 ·have hr:=h.fileAt hg
  have other:∀ p,p ∈ del o L→p.2.fb=r.fb→False:=fun p hp e=>by
   have h1:=(h.file p (zA9.1 hp).1).ob
   rw [e,hr.ob] at h1
   exact (zA9.1 hp).2 (by simpa using h1.symm)
  rcases zBH.1 hp with rfl | ⟨hp,_⟩
  ·rcases zBH.1 hq with rfl | ⟨hq,_⟩
   ·rfl
   ·exact (other q hq e.symm).elim
  ·rcases zBH.1 hq with rfl | ⟨hq,_⟩
   ·exact (other p hp e).elim
   ·have h1:=(h.file p (zA9.1 hp).1).ob
    have h2:=(h.file q (zA9.1 hq).1).ob
    rw [e,h2] at h1
    exact zDn h.srt (zA9.1 hp).1 (zA9.1 hq).1 (by simpa using h1.symm)
theorem strs_two (w:World) (o s:ByteArray):zC2 (w.alloc (.cells #[.string o,.string s] 9)) (some ⟨w.heap.size,0,none⟩) [o,s]:=strs_new w [o,s] _ rfl _ (0,0)
theorem rename_bad (h:zAS w d m left L own D) (o s:ByteArray) (hso:o.size≤9223372036854775807) (hss:s.size≤9223372036854775807) (hm:D.may [nm o,nm s]≠0) :
  Calls Tryz.prog 160 #[.pointer (some ⟨d,0,none⟩),.string o,.string s] w (zCC w d own (D,D.may [nm o,nm s])):=by
 have h1:=h.chg (Chg.alloc w (.cells #[.string o,.string s] 9)) (fun k hk=>hk.elim)
 have hc:=zBE h1 _ [o,s] 2 (strs_two w o s) (by simp) (by simp;exact ⟨hso,hss⟩)
 simp only [List.map_cons,List.map_nil] at hc
 have Hfin:=zh (show zCC w d own (D,D.may [nm o,nm s]) (.returned (.int .i64 (D.may [nm o,nm s]:Int))) (w.alloc (.cells #[.string o,.string s] 9)) from
  ⟨own,rfl,⟨m,left,L,h1⟩,(Chg.alloc w _).mono fun _ _ h=>h.elim,zBl _ _⟩)
 generalize D.may [nm o,nm s]=e0 at *
 have hne:((e0:Int) != 0)=true:=by simp;omega
 have Hc:=zh hc
 clear h hc h1
 go_enter Tryz.func160,Tryz.ntmps160
 go_wp2_with fail
 refine Hc.out.mono ?_
 rintro e w' ⟨rfl,rfl⟩
 go_wp2_with fail
 go_ret
 exact Hfin.out
theorem rename_none (h:zAS w d m left L own D) (o s:ByteArray) (hso:o.size≤9223372036854775807) (hss:s.size≤9223372036854775807) (hm:D.may [nm o,nm s]=0) (hg:Sat.get (nm o) L=none) :
  Calls Tryz.prog 160 #[.pointer (some ⟨d,0,none⟩),.string o,.string s] w (zCC w d own (D,7)):=by
 have h1:=h.chg (Chg.alloc w (.cells #[.string o,.string s] 9)) (fun k hk=>hk.elim)
 have hc:=zBE h1 _ [o,s] 2 (strs_two w o s) (by simp) (by simp;exact ⟨hso,hss⟩)
 simp only [List.map_cons,List.map_nil,hm] at hc
 have hlook:=zBJ _ zBW Tryz.underlying9 Tryz.underlying113 (zBO _) FRep.fb h1.map hso hg
 have hc1:=h1.c1
 have Hfin:=zh (show zCC w d own (D,7) (.returned (.int .i64 (7:Int))) (w.alloc (.cells #[.string o,.string s] 9)) from
  ⟨own,rfl,⟨m,left,L,h1⟩,(Chg.alloc w _).mono fun _ _ h=>h.elim,zBl _ _⟩)
 have Hc:=zh hc
 have Hlook:=zh hlook
 have Hc1:=zh hc1
 clear h hc h1 hlook hc1
 generalize hw0:w.alloc (.cells #[.string o,.string s] 9)=w0 at *
 go_enter Tryz.func160,Tryz.ntmps160
 go_wp2_with fail
 have hlook:=Hlook.out
 have hc1:=Hc1.out
 refine Hc.out.mono ?_
 rintro e w' ⟨rfl,rfl⟩
 clear hw0
 go_wp2_with fail
 go_ret
 exact Hfin.out
theorem rename_some (h:zAS w d m left L own D) (o s:ByteArray) (hso:o.size≤9223372036854775807) (hss:s.size≤9223372036854775807) (hm:D.may [nm o,nm s]=0) {r:FRep} (hg:Sat.get (nm o) L=some r) :
  Calls Tryz.prog 160 #[.pointer (some ⟨d,0,none⟩),.string o,.string s] w (zCC w d own (zAA.done { D with files:=put (nm s) r.f (del (nm o) D.files) },0)):=by
 have h1:=h.chg (Chg.alloc w (.cells #[.string o,.string s] 9)) (fun k hk=>hk.elim)
 have hc:=zBE h1 _ [o,s] 2 (strs_two w o s) (by simp) (by simp;exact ⟨hso,hss⟩)
 simp only [List.map_cons,List.map_nil,hm] at hc
 have hlook:=zBU _ zBW Tryz.underlying9 Tryz.underlying113 (zBO _) FRep.fb h1.map hso hg
 have hc1:=h1.c1
 have hkey:=WideMaps.keyOf_string_mk Tryz.underlying9 hso
 have hkey2:=WideMaps.keyOf_string_mk Tryz.underlying9 hss
 have hz:=zCR hm
 have hfu:=hz.1
 have hokn:okN (nm s)=true:=by
  have:=hz.2
  simp at this
  exact this.2
 have hN:L.length < maxLen:=by
  have h3:=h.ok.count
  rw [h.len] at h3
  unfold maxLen
  omega
 have Hw:=zh (Chg.alloc w (.cells #[.string o,.string s] 9))
 have H1:=zh h1
 have Hc:=zh hc
 have Hlook:=zh hlook
 have Hc1:=zh hc1
 have Hok:=zh hokn
 have Hfu:=zh hfu
 have Hg:=zh hg
 have hmap:=h1.map
 have Hmap:=zh hmap
 clear h hc h1 hlook hc1 hz hokn hm hg hmap hfu
 generalize hw0:w.alloc (.cells #[.string o,.string s] 9)=w0 at *
 go_enter Tryz.func160,Tryz.ntmps160
 go_wp2_with fail
 have hlook:=Hlook.out
 have hc1:=Hc1.out
 refine Hc.out.mono ?_
 rintro e w' ⟨rfl,rfl⟩
 clear hw0
 go_wp2_with (first | (at_delete;refine wpList_delete_own _ rfl _ _ 113 9 rfl 121 zBW Tryz.underlying113 ptrR m L.length (dm fbD L) rfl Hmap.out _ _ rfl hkey ?_;intro w1 hown1 hturn1;have hcA:=zAC (i:=1) (zCn hturn1.grown H1.out.cells (fun e=>H1.out.ne_of H1.out.od H1.out.om (by simp) (by cases e;rfl))) rfl;have Hf:=zh (And.intro hown1 hturn1);clear hown1 hturn1) | (at_mapUpdate;refine wpList_mapUpdate_own _ rfl _ _ _ 113 rfl 9 121 zBW Tryz.underlying113 ptrR m L.length _ rfl Hf.out.1 hN _ _ _ rfl rfl hkey2 (.held r.fb) [] rfl ?_;intro w3 hown3 hg3;have Hg3:=zh (And.intro hown3 hg3);clear hown3 hg3))
 obtain ⟨hown1,hturn1⟩:=Hf.out
 obtain ⟨hown3,hg3⟩:=Hg3.out
 have hg1:=hturn1.grown
 have hb:∀ k,k < w0.heap.size→k≠m→w3.heap[k]?=w0.heap[k]?:=fun k hk hkm=>by
  have:=hg1.size
  rw [hg3.block k (by omega) (by intro e;cases e;exact hkm rfl),hg1.block k hk (by intro e;cases e;exact hkm rfl)]
 rw [show (.held r.fb:DataW Nat)=fbD r from rfl,dm_del,dm_put] at hown3
 obtain ⟨own',h4,hx⟩:=ren_file H1.out Hg.out (w':=w3) (n:=nm s) (Nat.le_trans hg1.size hg3.size) hb ⟨_,hown3⟩ Hok.out
 have hchg:Chg (Has own) w w3:=(Hw.out.mono (T:=Has own) fun _ _ h=>h.elim).trans (((Chg.of_grown hg1).trans (Chg.of_grown hg3) fun _ _ h=>h).mono fun k _ e=>by cases e;exact has_m H1.out) fun _ _ h=>h
 have hdone:=zCB h4 Hfu.out
 have Hdone:=zh hdone
 have Hchg:=zh hchg
 have Hx:=zh hx
 have hsz:=Hw.out.size
 have Hsz:=zh hsz
 have Hod:=zh (has_d H1.out)
 clear hown1 hturn1 hown3 hg3 hg1 hb h4 hx hchg hdone hsz
 refine Hdone.out.mono ?_
 rintro e w5 ⟨rfl,hd5,hc5⟩
 go_wp2_with fail
 go_ret
 exact ⟨own',rfl,hd5,Hchg.out.trans hc5 fun i _ e=>by rw [e];exact Hod.out,fun k hk=>Hx.out k (Nat.lt_of_lt_of_le hk Hsz.out)⟩
theorem rename_calls (h:zBe w d D own) (o s:ByteArray) (hso:o.size≤9223372036854775807) (hss:s.size≤9223372036854775807) :
  Calls Tryz.prog 160 #[.pointer (some ⟨d,0,none⟩),.string o,.string s] w (zCC w d own (D.rename (nm o) (nm s))):=by
 obtain ⟨m,left,L,h⟩:=h
 unfold zAA.rename
 by_cases hm:D.may [nm o,nm s]=0
 ·rw [if_neg (by simpa using hm),h.get]
  cases hg:Sat.get (nm o) L with
  | none=>exact rename_none h o s hso hss hm hg
  | some r=>exact rename_some h o s hso hss hm hg
 ·rw [if_pos (by simpa using hm)]
  exact rename_bad h o s hso hss hm
end
theorem st_rename {w w1:World} {d:Nat} {D:zAA} {F:Nat→Prop} (h:St w w1 d D F) (o s:ByteArray) (hso:o.size≤9223372036854775807) (hss:s.size≤9223372036854775807) :
  Calls Tryz.prog 160 #[.pointer (some ⟨d,0,none⟩),.string o,.string s] w1 (Told w d F w1 (D.rename (nm o) (nm s))):=by
 obtain ⟨own,hd,hb,hnn,hF⟩:=h
 refine (rename_calls hd o s hso hss).mono ?_
 rintro e w' ⟨own',rfl,hd',hc,hx⟩
 exact ⟨rfl,St.step hb hnn hF hd' hc hx⟩
end Go.Proofs.YtapfnehdgailmaaGreat
namespace Go.Sat
open Go.RowKit Go.Maps
theorem bb_lt:∀ (a b:Bs),bytesBefore a b=true ↔ a < b
 | [],[]=>by simp [bytesBefore]
 | [],_ :: _=>by simp [bytesBefore]
 | _ :: _,[]=>by simp [bytesBefore]
 | a :: r,b :: s=>by
  rw [List.cons_lt_cons_iff,← bb_lt r s]
  simp [bytesBefore]
def Le (x y:Bs):Prop:=bytesBefore y x=false
theorem le_iff (x y:Bs):x≤y ↔ Le x y:=by
 unfold Le
 rw [← Bool.not_eq_true,bb_lt]
 exact Iff.rfl
theorem le_anti {x y:Bs} (h:Le x y) (k:Le y x):x=y:=by
 by_cases e:x=y
 ·exact e
 ·rcases zDE x y e with h1 | h1
  ·rw [k] at h1;cases h1
  ·rw [h] at h1;cases h1
theorem le_total (x y:Bs):Le x y∨Le y x:=by
 unfold Le
 cases h:bytesBefore y x with
 | false=>exact .inl rfl
 | true =>
  right
  cases h2:bytesBefore x y with
  | false=>rfl
  | true =>
   have:=zB3 h h2
   rw [zCG] at this
   cases this
theorem le_trans' {x y z:Bs} (h:Le x y) (k:Le y z):Le x z:=by
 by_cases e:x=y
 ·rw [e];exact k
 ·by_cases e2:y=z
  ·rw [← e2];exact h
  ·have h1:bytesBefore x y=true:=by
    rcases zDE x y e with h1 | h1
    ·exact h1
    ·rw [h] at h1;cases h1
   have h2:bytesBefore y z=true:=by
    rcases zDE y z e2 with h1 | h1
    ·exact h1
    ·rw [k] at h1;cases h1
   have h3:=zB3 h1 h2
   unfold Le
   cases h4:bytesBefore z x with
   | false=>rfl
   | true =>
    have:=zB3 h3 h4
    rw [zCG] at this
    cases this
theorem sorted_uniq:∀ {l m:List Bs},l.Perm m→l.Pairwise Le→m.Pairwise Le→l=m
 | [],m,h,_,_=>h.nil_eq
 | a :: r,[],h,_,_=>by have:=h.length_eq;simp at this
 | a :: r,b :: s,h,hl,hm=>by
  rw [List.pairwise_cons] at hl hm
  have e:a=b:=by
   have ha:a ∈ b :: s:=h.subset (List.mem_cons_self ..)
   have hb:b ∈ a :: r:=h.symm.subset (List.mem_cons_self ..)
   rcases List.mem_cons.1 ha with e | ha
   ·exact e
   ·rcases List.mem_cons.1 hb with e | hb
    ·exact e.symm
    ·exact le_anti (hl.1 b hb) (hm.1 a ha)
  subst e
  rw [sorted_uniq (List.Perm.cons_inv h) hl.2 hm.2]
theorem keys_sorted {α:Type} {L:List (Bs × α)} (h:Srt L):(L.map (·.1)).Pairwise Le:=by
 rw [List.pairwise_map]
 refine h.imp fun {p q} hpq=>?_
 unfold Le
 cases h4:bytesBefore q.1 p.1 with
 | false=>rfl
 | true =>
  have:=zB3 hpq h4
  rw [zCG] at this
  cases this
theorem merge_keys {α:Type} {L:List (Bs × α)} (h:Srt L) {ss:List Bs} (hp:ss.Perm (L.map (·.1))):ss.mergeSort (fun x y=>decide (x≤y))=L.map (·.1):=by
 refine sorted_uniq ((List.mergeSort_perm ss _).trans hp) ?_ (keys_sorted h)
 have:=List.pairwise_mergeSort (le:=fun x y:Bs=>decide (x≤y)) (fun a b c h1 h2=>by
  simp only [decide_eq_true_eq,le_iff] at *
  exact le_trans' h1 h2) (fun a b=>by
  simp only [Bool.or_eq_true,decide_eq_true_eq,le_iff]
  exact le_total a b) ss
 exact this.imp fun {a b} hab=>by simpa only [decide_eq_true_eq,le_iff] using hab
theorem keys_dm {H α:Type} (g:α→DataW H) (L:List (Bs × α)):strKeys (dm g L)=L.map (·.1):=by
 simp only [strKeys,dm,List.map_map]
 exact List.map_congr_left fun p _=>rfl
end Go.Sat
namespace Go.Proofs.YtapfnehdgailmaaGreat
open Go.RowKit Go.Sat Go.Maps
def OwnN (w:World) (v:Value) (ns:List Bs):Prop:=OwnR w 9 1 v ns.length (ns.map encStr)
def zBN (D:zAA):List Bs:=D.files.map (·.1)
def Listed (w:World) (D:zAA) (e:Ending) (w':World):Prop:=∃ v,e=.returned v∧OwnN w' v (zBN D)∧(∀ k,v.ownBlock=some k→w.heap.size≤k)∧Below w.heap.size w w'
section
variable {w:World} {d m:Nat} {left:Int} {L:List (Bs × FRep)} {own:Own} {D:zAA}
theorem list_calls (h:zBe w d D own):Calls Tryz.prog 140 #[.pointer (some ⟨d,0,none⟩)] w (Listed w D):=by
 obtain ⟨m,left,L,h⟩:=h
 have hc1:=h.c1
 have hcount:L.length≤4096:=by rw [← h.len];exact h.ok.count
 have hfin:∀ (v:Value) (ss:List Bs) (w':World),ss.Perm (strKeys (dm fbD L))→w'.ownsRow (w.alloc (.cells #[.map (some m)] 113)).heap.size 9 1 v ss.length ((ss.mergeSort (fun x y=>decide (x≤y))).map encStr) →
   Below (w.alloc (.cells #[.map (some m)] 113)).heap.size (w.alloc (.cells #[.map (some m)] 113)) w'→Listed w D (.returned v) w':=by
  intro v ss w' hp hr hb
  rw [keys_dm] at hp
  rw [merge_keys h.srt hp,hp.length_eq] at hr
  refine ⟨v,rfl,?_,fun k hk=>?_,((Below.refl _ _).alloc (Nat.le_refl _) _).trans (hb.mono (by simp))⟩
  ·have e:zBN D=L.map (·.1):=by
    unfold zBN
    rw [h.files]
    simp [mp]
   unfold OwnN
   rw [e]
   exact OwnR.of_kit hr
  ·have:=OwnR.block_ge hr hk
   simp at this
   omega
 have hS:=(callsIn_wide (n:=5)).1 (Tryz.slices_Sorted_keys_187_188 m L.length (dm fbD L) ptrR w h.map (by rw [dm_size];unfold maxLen;omega) (by rw [dm_size];omega))
 have hK:=(callsIn_wide (n:=5)).1 (Tryz.maps_Keys_188 (some m) w)
 have Hfin:=zh hfin
 have HS:=zh hS
 have HK:=zh hK
 clear hfin hS hK h hcount
 go_enter Tryz.func140,Tryz.ntmps140
 go_wp2_with fail
 refine HK.out.mono ?_
 rintro e w' ⟨rfl,rfl⟩
 go_wp2_with fail
 refine HS.out.mono ?_
 rintro e w' ⟨v,ss,rfl,hp,hr,-,hb⟩
 have Hl:=zh (Hfin.out v ss w' hp hr hb)
 clear hp hr hb
 go_wp2_with fail
 go_ret
 exact Hl.out
end
def ListedS (w:World) (d:Nat) (D:zAA) (F:Nat→Prop) (w1:World) (e:Ending) (w':World):Prop :=
 ∃ v,e=.returned v∧OwnN w' v (zBN D)∧(∀ k,v.ownBlock=some k→w1.heap.size≤k)∧Below w1.heap.size w1 w'∧St w w' d D F
theorem st_list {w w1:World} {d:Nat} {D:zAA} {F:Nat→Prop} (h:St w w1 d D F) :
  Calls Tryz.prog 140 #[.pointer (some ⟨d,0,none⟩)] w1 (ListedS w d D F w1):=by
 have h0:=h
 obtain ⟨own,hd,hb,hnn,hF⟩:=h
 refine (list_calls hd).mono ?_
 rintro e w' ⟨v,rfl,hv,hn,hb'⟩
 exact ⟨v,rfl,hv,hn,hb',h0.next hb'⟩
def HasN (w:World) (v:Value) (l:List Bs):Prop:=zAY w 1 v l.length (l.map encStr)
theorem HasN.slice {w:World} {v:Value} {l:List Bs} (h:HasN w v l):∃ p c,v=.slice p l.length c:=by
 obtain ⟨_,p,c,e,_⟩:=h
 exact ⟨p,c,e⟩
theorem HasN.at {w:World} {v:Value} {l:List Bs} (h:HasN w v l):l=[]∨∃ b o c,v=.slice (some ⟨b,o,none⟩) l.length c∧∀ i x,l[i]?=some x→w.cell? ⟨b,o+i,none⟩=some (encStr x):=by
 obtain ⟨hl,p,c,rfl,h0,hc⟩:=h
 cases p with
 | none =>
  left
  have:=h0 rfl
  exact List.length_eq_zero_iff.1 this
 | some a =>
  cases l with
  | nil=>exact .inl rfl
  | cons x r =>
   obtain ⟨b,o,sp⟩:=a
   have h1:=hc _ rfl 0 (encStr x) (by simp)
   have hsp:sp=none:=by
    have:=World.cell?_spot h1
    simpa [Addr.add] using this
   subst hsp
   refine .inr ⟨b,o,c,rfl,fun i y hy=>?_⟩
   have h2:=hc _ rfl i (encStr y) (by rw [List.getElem?_map,hy];rfl)
   have e:(⟨b,o,none⟩:Addr).add i=⟨b,o+i,none⟩:=by unfold Addr.add;split <;> simp_all
   rw [← e]
   exact h2
def zAD (n:Bs):Bs:=n ++ [126]
namespace zAA
def save0 (D:zAA) (n:Bs):zAA × Nat:=if (get (zAD n) D.files).isSome then D.remove [zAD n] else (D,0)
def save1 (D:zAA) (n b:Bs):zAA × Nat :=
 let r0:=D.save0 n
 if r0.2≠0 then r0 else
 let r1:=r0.1.append (zAD n) b
 if r1.2≠0 then r1 else
 let r2:=r1.1.sync [zAD n]
 if r2.2≠0 then r2 else r2.1.rename (zAD n) n
def save (D:zAA) (n l:Bs):zAA × Nat:=if n.length < 1∨60 < n.length then (D,1) else save1 D n (zAG l)
end zAA
theorem there_calls {w w1:World} {d:Nat} {D:zAA} {F:Nat→Prop} (h:St w w1 d D F) (s:ByteArray) (hs:s.size≤9223372036854775807) :
  Calls Tryz.prog 185 #[.pointer (some ⟨d,0,none⟩),.string s] w1 fun e w'=>e=.returned (.bool (Sat.get (nm s) D.files).isSome)∧Below w1.heap.size w1 w'∧St w w' d D F:=by
 have H:=zh (st_read h s hs)
 clear h
 go_enter Tryz.func185,Tryz.ntmps185
 cases hg:Sat.get (nm s) D.files with
 | none =>
  rw [hg] at H
  go_wp2_with fail
  refine H.out.mono ?_
  rintro e w' ⟨v,rfl,-,-,hb,hst⟩
  have Hf:=zh (And.intro hb hst)
  clear hb hst
  go_wp2_with fail
  go_ret
  exact ⟨rfl,Hf.out⟩
 | some f =>
  rw [hg] at H
  go_wp2_with fail
  refine H.out.mono ?_
  rintro e w' ⟨v,rfl,-,-,hb,hst⟩
  have Hf:=zh (And.intro hb hst)
  clear hb hst
  go_wp2_with fail
  go_ret
  exact ⟨rfl,Hf.out⟩
theorem zAp (s:ByteArray):nm (s ++ ⟨#[126]⟩)=zAD (nm s):=by
 simp [nm,zAD]
end Go.Proofs.YtapfnehdgailmaaGreat
namespace Go.Sat
open Go.RowKit
theorem HasB.same {w w':World} {v:Value} {l:Bs} (h:HasB w v l) (hs:∀ k,v.ownBlock=some k→w'.heap[k]?=w.heap[k]?):HasB w' v l:=by
 obtain ⟨hl,p,cap,rfl,h0,hc⟩:=h
 refine ⟨hl,p,cap,rfl,h0,fun a ha i u hu=>?_⟩
 have hb:(a.add i).block=a.block:=zCF _ _
 exact (World.cell?_of_block (by rw [hb];exact hs _ (by rw [ha];rfl))).trans (hc a ha i u hu)
theorem HasB.lt {w:World} {v:Value} {l:Bs} (h:HasB w v l) (hne:l≠[]) {k:Nat} (hk:v.ownBlock=some k):k < w.heap.size:=by
 obtain ⟨hl,p,cap,rfl,h0,hc⟩:=h
 cases p with
 | none=>cases hk
 | some a =>
  cases l with
  | nil=>exact absurd rfl hne
  | cons x r =>
   have h1:=hc a rfl 0 (.int .u8 (x.toNat:Int)) (by simp [zAN])
   have h2:=World.block_lt_of_cell? w _ h1
   rw [zCF] at h2
   cases hk
   exact h2
end Go.Sat
namespace Go.Proofs.YtapfnehdgailmaaGreat
open Go.RowKit Go.Sat Go.Maps
def Fv (F:Nat→Prop) (v:Value) (k:Nat):Prop:=F k∨v.ownBlock=some k
theorem St.less {w w1:World} {d:Nat} {D:zAA} {F F':Nat→Prop} (h:St w w1 d D F') (hF:∀ k,F k→F' k):St w w1 d D F :=
 h.move (S:=fun _=>False) (Chg.refl _ _) (fun _ _ h=>h.elim) fun k hk=>⟨.inl (hF k hk),by obtain ⟨_,_,_,_,hl⟩:=h;exact hl k (hF k hk)⟩
theorem St.flt {w w1:World} {d:Nat} {D:zAA} {F:Nat→Prop} (h:St w w1 d D F) {k:Nat} (hk:F k):k < w1.heap.size:=by
 obtain ⟨_,_,_,_,hl⟩:=h
 exact hl k hk
theorem zBF {w w1 w2:World} {d:Nat} {D:zAA} {F:Nat→Prop} (h:St w w1 d D F) (hb:Below w1.heap.size w1 w2):Same F w1 w2:=fun k hk=>hb.block k (h.flt hk)
theorem Same.trans {F:Nat→Prop} {w1 w2 w3:World} (h:Same F w1 w2) (k:Same F w2 w3):Same F w1 w3:=fun i hi=>(k i hi).trans (h i hi)
theorem zCx {w w1 w2:World} {d:Nat} {F:Nat→Prop} {v:Value} {r:zAA × Nat} {e:Ending} (hs:Same F w1 w2) {w':World} (h:Told w d (Fv F v) w2 r e w'):Told w d F w1 r e w' :=
 ⟨h.1,h.2.1.less fun _ hk=>.inl hk,fun k hk=>(h.2.2 k (.inl hk)).trans (hs k hk)⟩
theorem save1_rem {D D0:zAA} {n b:Bs} {e0:Nat} (h0:D.save0 n=(D0,e0)) (he:e0≠0):D.save1 n b=(D0,e0):=by
 unfold zAA.save1
 simp only [h0]
 rw [if_pos he]
theorem zDz {D D0 D1:zAA} {n b:Bs} {e1:Nat} (h0:D.save0 n=(D0,0)) (h1:D0.append (zAD n) b=(D1,e1)) (he:e1≠0):D.save1 n b=(D1,e1):=by
 unfold zAA.save1
 simp only [h0,h1]
 rw [if_neg (by simp),if_pos he]
theorem zD0 {D D0 D1 D2:zAA} {n b:Bs} {e2:Nat} (h0:D.save0 n=(D0,0)) (h1:D0.append (zAD n) b=(D1,0)) (h2:D1.sync [zAD n]=(D2,e2)) (he:e2≠0):D.save1 n b=(D2,e2):=by
 unfold zAA.save1
 simp only [h0,h1,h2]
 rw [if_neg (by simp),if_neg (by simp),if_pos he]
theorem zDA {D D0 D1 D2:zAA} {n b:Bs} (h0:D.save0 n=(D0,0)) (h1:D0.append (zAD n) b=(D1,0)) (h2:D1.sync [zAD n]=(D2,0)):D.save1 n b=D2.rename (zAD n) n:=by
 unfold zAA.save1
 simp only [h0,h1,h2]
 rw [if_neg (by simp),if_neg (by simp),if_neg (by simp)]
theorem save_calls {w w1:World} {d:Nat} {D:zAA} {F:Nat→Prop} (h:St w w1 d D F) (s:ByteArray) (hs:s.size≤9223372036854775807) {p:Option Addr} {n c:Nat} {ls:List Bs} (hx:zBA w1 (.slice p n c) ls) (hn:n≤140737488355328) (hl:ls.flatten.length≤1048576) :
  Calls Tryz.prog 135 #[.pointer (some ⟨d,0,none⟩),.string s,.slice p n c] w1 (Told w d F w1 (D.save (nm s) ls.flatten)):=by
 have hsz:(nm s).length=s.size:=zDU s
 by_cases hnm:(nm s).length < 1∨60 < (nm s).length
 ·have hM:D.save (nm s) ls.flatten=(D,1):=by unfold zAA.save;rw [if_pos hnm]
  rw [hM]
  have Hfin:=zh (show Told w d F w1 (D,1) (.returned (.int .i64 1)) w1 from ⟨rfl,h,fun _ _=>rfl⟩)
  rw [hsz] at hnm
  generalize hzz:s.size=z at *
  clear hM h hx
  have hd1:(decide ((z:Int) < 1) || decide (60 < (z:Int)))=true:=by simp;omega
  by_cases hz:z < 1
  ·have hz0:z=0:=by omega
   subst hz0
   go_enter Tryz.func135,Tryz.ntmps135
   go_wp2_with fail
   go_ret
   exact Hfin.out
  ·have hz6:60 < z:=by omega
   go_enter Tryz.func135,Tryz.ntmps135
   go_wp2_with fail
   go_ret
   exact Hfin.out
 ·have hM:D.save (nm s) ls.flatten=zAA.save1 D (nm s) (zAG ls.flatten):=by unfold zAA.save;rw [if_neg hnm]
  rw [hM]
  have He:=zh (enc_calls hx hn hl)
  have Hst:=zh h
  rw [hsz] at hnm
  have hsh:(s ++ (⟨#[126]⟩:ByteArray)).size=s.size+1:=by simp [ByteArray.size_append];rfl
  generalize hz:s.size=z at *
  have Hl:=zh hl
  clear hM h hx hl
  go_enter Tryz.func135,Tryz.ntmps135
  go_wp2_with fail
  refine He.out.mono ?_
  rintro e w2 ⟨v,rfl,hv,hnew,hb⟩
  have hvl:∀ k,v.ownBlock=some k→k < w2.heap.size:=fun k hk=>hv.lt (by simp [zAG,zBb,zAk]) hk
  have hst2:St w w2 d D (Fv F v):=Hst.out.move (S:=fun _=>False) (Chg.of_below hb) (fun _ _ h=>h.elim) fun k hk=>by
   rcases hk with hk | hk
   ·exact ⟨.inl hk,Nat.lt_of_lt_of_le (Hst.out.flt hk) hb.size⟩
   ·exact ⟨.inr (hnew k hk),hvl k hk⟩
  have hsame2:Same (fun k=>F k) w1 w2:=zBF Hst.out hb
  have Hth:=zh (there_calls hst2 (s ++ (⟨#[126]⟩:ByteArray)) (by rw [hsh];omega))
  rw [zAp] at Hth
  have Hv:=zh hv
  have Hs2:=zh hsame2
  have Hst2:=zh hst2
  clear hv hnew hb hvl hst2 hsame2
  go_wp2_with fail
  refine Hth.out.mono ?_
  rintro e w3 ⟨rfl,hb3,hst3⟩
  obtain ⟨pv,cv,rfl⟩:=Hv.out.slice
  generalize hmv:(zAG ls.flatten).length=mv at *
  have Hst:=zh hst3
  have Hs:=zh (Hs2.out.trans (zBF (Hst2.out.less fun _ hk=>.inl hk) hb3))
  have Hv:=zh (Hv.out.below hb3)
  clear hb3 hst3
  cases hg:Sat.get (zAD (nm s)) D.files with
  | none =>
   have h0:D.save0 (nm s)=(D,0):=by unfold zAA.save0;rw [hg];rfl
   clear Hth
   have hap:=st_append (Hst.out.alloc (.cells #[.slice pv mv cv] 22)) (s ++ (⟨#[126]⟩:ByteArray)) (.slice (some ⟨w3.heap.size,0,none⟩) 1 1) [zAG ls.flatten] (zCT (v:=.slice pv mv cv) Hv.out 22 (0,0) _ 1 rfl (Nat.le_refl _)) (by simp) (by rw [List.flatten_cons,List.flatten_nil,List.append_nil,zAo];have:=Hl.out;omega) (by rw [hsh];omega)
   rw [zAp,List.flatten_cons,List.flatten_nil,List.append_nil] at hap
   have Hsa:=zh (Hs.out.trans (zBF (F:=F) (Hst.out.less fun _ hk=>.inl hk) ((Below.refl w3.heap.size w3).alloc (Nat.le_refl _) (.cells #[.slice pv mv cv] 22))))
   cases h1:zAA.append D (zAD (nm s)) (zAG ls.flatten) with
   | mk D1 e1 =>
    rw [h1] at hap
    have Hap:=zh hap
    by_cases he1:e1=0
    ·subst he1
     clear hap
     go_wp2_with fail
     refine Hap.out.mono ?_
     rintro e w5 ⟨rfl,hst5,hs5⟩
     have hst5:St w w5 d D1 (Fv F (.slice pv mv cv)):=hst5
     have hsy:=st_sync hst5 [s ++ (⟨#[126]⟩:ByteArray)] w5.heap.size 1 rfl (0,0) (by simp) (by simp [hsh];omega)
     rw [show [s ++ (⟨#[126]⟩:ByteArray)].map nm=[zAD (nm s)] from by rw [List.map_cons,zAp,List.map_nil]] at hsy
     have Hsb:=zh (Hsa.out.trans (Same.trans (fun k hk=>hs5 k (.inl hk)) (zBF (F:=F) (hst5.less fun _ hk=>.inl hk) ((Below.refl w5.heap.size w5).alloc (Nat.le_refl _) (.cells #[.string (s ++ (⟨#[126]⟩:ByteArray))] 9)))))
     clear hs5 hst5
     cases h2:zAA.sync D1 [zAD (nm s)] with
     | mk D2 e2 =>
      rw [h2] at hsy
      have Hsy:=zh hsy
      by_cases he2:e2=0
      ·subst he2
       clear hsy
       go_wp2_with fail
       refine Hsy.out.mono ?_
       rintro e w6 ⟨rfl,hst6,hs6⟩
       have hst6:St w w6 d D2 (Fv F (.slice pv mv cv)):=hst6
       have hrn:=st_rename hst6 (s ++ (⟨#[126]⟩:ByteArray)) s (by rw [hsh];omega) (by omega)
       rw [zAp,← zDA h0 h1 h2] at hrn
       have Hrn:=zh hrn
       have Hsc:=zh (Hsb.out.trans (fun k hk=>hs6 k (.inl hk)))
       clear hrn hs6 hst6
       go_wp2_with fail
       refine Hrn.out.mono ?_
       intro e w7 hT
       have hE:=zCx Hsc.out hT
       obtain ⟨rfl,-⟩:=hT
       have HE:=zh hE
       clear hE
       go_wp2_with fail
       go_ret
       exact HE.out
      ·have hne:((e2:Int) != 0)=true:=by simp;omega
       clear hsy
       go_wp2_with fail
       refine Hsy.out.mono ?_
       intro e w6 hT
       have hE:Told w d F w1 (D.save1 (nm s) (zAG ls.flatten)) e w6:=by rw [zD0 h0 h1 h2 he2];exact zCx Hsb.out hT
       obtain ⟨rfl,-⟩:=hT
       have HE:=zh hE
       clear hE
       go_wp2_with fail
       go_ret
       exact HE.out
    ·have hne:((e1:Int) != 0)=true:=by simp;omega
     clear hap
     go_wp2_with fail
     refine Hap.out.mono ?_
     intro e w5 hT
     have hE:Told w d F w1 (D.save1 (nm s) (zAG ls.flatten)) e w5:=by rw [zDz h0 h1 he1];exact zCx Hsa.out hT
     obtain ⟨rfl,-⟩:=hT
     have HE:=zh hE
     clear hE
     go_wp2_with fail
     go_ret
     exact HE.out
  | some f =>
   have hrm:=st_remove Hst.out [s ++ (⟨#[126]⟩:ByteArray)] w3.heap.size 1 rfl (0,0) (by simp) (by simp [hsh];omega)
   rw [show [s ++ (⟨#[126]⟩:ByteArray)].map nm=[zAD (nm s)] from by rw [List.map_cons,zAp,List.map_nil]] at hrm
   have Hsr:=zh (Hs.out.trans (zBF (Hst.out.less fun _ hk=>.inl hk) ((Below.refl w3.heap.size w3).alloc (Nat.le_refl _) (.cells #[.string (s ++ (⟨#[126]⟩:ByteArray))] 9))))
   cases h0:D.save0 (nm s) with
   | mk D0 e0 =>
    have hz0:zAA.remove D [zAD (nm s)]=(D0,e0):=by rw [← h0];unfold zAA.save0;rw [hg];rfl
    rw [hz0] at hrm
    have Hrm:=zh hrm
    clear hrm
    by_cases he0:e0=0
    ·subst he0
     go_wp2_with fail
     refine Hrm.out.mono ?_
     rintro e w4 ⟨rfl,hst4,hs4⟩
     have Hst4:=zh (show St w w4 d D0 (Fv F (.slice pv mv cv)) from hst4)
     have Hv4:=zh ((Hv.out.below ((Below.refl w3.heap.size w3).alloc (Nat.le_refl _) (.cells #[.string (s ++ (⟨#[126]⟩:ByteArray))] 9))).same fun k hk=>hs4 k (.inr hk))
     have Hs4:=zh (Hsr.out.trans (fun k hk=>hs4 k (.inl hk)))
     clear Hst Hv Hs Hsr hst4 hs4
     have Hst:=Hst4
     have Hv:=Hv4
     have Hs:=Hs4
     clear Hst4 Hv4 Hs4
     have hap:=st_append (Hst.out.alloc (.cells #[.slice pv mv cv] 22)) (s ++ (⟨#[126]⟩:ByteArray)) (.slice (some ⟨w4.heap.size,0,none⟩) 1 1) [zAG ls.flatten] (zCT (v:=.slice pv mv cv) Hv.out 22 (0,0) _ 1 rfl (Nat.le_refl _)) (by simp) (by rw [List.flatten_cons,List.flatten_nil,List.append_nil,zAo];have:=Hl.out;omega) (by rw [hsh];omega)
     rw [zAp,List.flatten_cons,List.flatten_nil,List.append_nil] at hap
     have Hsa:=zh (Hs.out.trans (zBF (F:=F) (Hst.out.less fun _ hk=>.inl hk) ((Below.refl w4.heap.size w4).alloc (Nat.le_refl _) (.cells #[.slice pv mv cv] 22))))
     cases h1:zAA.append D0 (zAD (nm s)) (zAG ls.flatten) with
     | mk D1 e1 =>
      rw [h1] at hap
      have Hap:=zh hap
      by_cases he1:e1=0
      ·subst he1
       clear hap
       go_wp2_with fail
       refine Hap.out.mono ?_
       rintro e w5 ⟨rfl,hst5,hs5⟩
       have hst5:St w w5 d D1 (Fv F (.slice pv mv cv)):=hst5
       have hsy:=st_sync hst5 [s ++ (⟨#[126]⟩:ByteArray)] w5.heap.size 1 rfl (0,0) (by simp) (by simp [hsh];omega)
       rw [show [s ++ (⟨#[126]⟩:ByteArray)].map nm=[zAD (nm s)] from by rw [List.map_cons,zAp,List.map_nil]] at hsy
       have Hsb:=zh (Hsa.out.trans (Same.trans (fun k hk=>hs5 k (.inl hk)) (zBF (F:=F) (hst5.less fun _ hk=>.inl hk) ((Below.refl w5.heap.size w5).alloc (Nat.le_refl _) (.cells #[.string (s ++ (⟨#[126]⟩:ByteArray))] 9)))))
       clear hs5 hst5
       cases h2:zAA.sync D1 [zAD (nm s)] with
       | mk D2 e2 =>
        rw [h2] at hsy
        have Hsy:=zh hsy
        by_cases he2:e2=0
        ·subst he2
         clear hsy
         go_wp2_with fail
         refine Hsy.out.mono ?_
         rintro e w6 ⟨rfl,hst6,hs6⟩
         have hst6:St w w6 d D2 (Fv F (.slice pv mv cv)):=hst6
         have hrn:=st_rename hst6 (s ++ (⟨#[126]⟩:ByteArray)) s (by rw [hsh];omega) (by omega)
         rw [zAp,← zDA h0 h1 h2] at hrn
         have Hrn:=zh hrn
         have Hsc:=zh (Hsb.out.trans (fun k hk=>hs6 k (.inl hk)))
         clear hrn hs6 hst6
         go_wp2_with fail
         refine Hrn.out.mono ?_
         intro e w7 hT
         have hE:=zCx Hsc.out hT
         obtain ⟨rfl,-⟩:=hT
         have HE:=zh hE
         clear hE
         go_wp2_with fail
         go_ret
         exact HE.out
        ·have hne:((e2:Int) != 0)=true:=by simp;omega
         clear hsy
         go_wp2_with fail
         refine Hsy.out.mono ?_
         intro e w6 hT
         have hE:Told w d F w1 (D.save1 (nm s) (zAG ls.flatten)) e w6:=by rw [zD0 h0 h1 h2 he2];exact zCx Hsb.out hT
         obtain ⟨rfl,-⟩:=hT
         have HE:=zh hE
         clear hE
         go_wp2_with fail
         go_ret
         exact HE.out
      ·have hne:((e1:Int) != 0)=true:=by simp;omega
       clear hap
       go_wp2_with fail
       refine Hap.out.mono ?_
       intro e w5 hT
       have hE:Told w d F w1 (D.save1 (nm s) (zAG ls.flatten)) e w5:=by rw [zDz h0 h1 he1];exact zCx Hsa.out hT
       obtain ⟨rfl,-⟩:=hT
       have HE:=zh hE
       clear hE
       go_wp2_with fail
       go_ret
       exact HE.out
    ·have hne:((e0:Int) != 0)=true:=by simp;omega
     go_wp2_with fail
     refine Hrm.out.mono ?_
     intro e w4 hT
     have hE:Told w d F w1 (D.save1 (nm s) (zAG ls.flatten)) e w4:=by rw [save1_rem h0 he0];exact zCx Hsr.out hT
     obtain ⟨rfl,-⟩:=hT
     have HE:=zh hE
     clear hE
     go_wp2_with fail
     go_ret
     exact HE.out
theorem zCk {D:zAA} (h:D.OK) (n:Bs):(zCH (Sat.get n D.files)).length≤1073741824:=by
 cases hg:Sat.get n D.files with
 | none=>simp [zCH]
 | some f =>
  have h1:zAA.size f≤D.used:=le_sum h.srt hg
  have h2:=h.used
  have h3:=h.room
  show f.data.length≤_
  unfold zAA.size at h1
  omega
def loadE (o:Option zAP):Nat:=if o.isSome then (if oneE (zCH o)=0 then 0 else 3) else 7
def zBT (o:Option zAP):Bs:=if o.isSome then oneB (zCH o) else []
theorem zDK:loadE none=7:=by unfold loadE;exact if_neg (by decide)
theorem zDJ:zBT none=[]:=by unfold zBT;exact if_neg (by decide)
theorem zDL (f:zAP):loadE (some f)=if oneE (zCH (some f))=0 then 0 else 3:=by unfold loadE;exact if_pos (by rfl)
theorem zCb (f:zAP):zBT (some f)=oneB (zCH (some f)):=by unfold zBT;exact if_pos (by rfl)
def GotL (w:World) (d:Nat) (D:zAA) (F:Nat→Prop) (w1:World) (o:Option zAP) (e:Ending) (w':World):Prop :=
 ∃ v,e=.returned (.tuple #[v,.int .i64 (loadE o:Int)])∧OwnB w' 5 v (zBT o)∧(∀ k,v.ownBlock=some k→w1.heap.size≤k)∧Below w1.heap.size w1 w'∧St w w' d D F
theorem zAv {w:World} {e:TypeId} {v:Value} {l:Bs} (h:OwnB w e v l):∃ p c,v=.slice p l.length c∧l.length≤c:=by
 rcases h.2 with ⟨rfl,hn⟩ | ⟨g,cap,cur,rfl,_,hnc,_⟩
 ·exact ⟨none,0,by rw [hn],by omega⟩
 ·exact ⟨_,cap,rfl,hnc⟩
theorem load_calls {w w1:World} {d:Nat} {D:zAA} {F:Nat→Prop} (h:St w w1 d D F) (s:ByteArray) (hs:s.size≤9223372036854775807) :
  Calls Tryz.prog 148 #[.pointer (some ⟨d,0,none⟩),.string s] w1 (GotL w d D F w1 (Sat.get (nm s) D.files)):=by
 have hln:=zCk h.ok (nm s)
 have H:=zh (st_read h s hs)
 clear h
 cases hg:Sat.get (nm s) D.files with
 | none =>
  rw [hg] at H
  clear hln
  go_enter Tryz.func148,Tryz.ntmps148
  go_wp2_with fail
  refine H.out.mono ?_
  rintro e w2 ⟨v,rfl,-,-,hb,hst⟩
  have Hf:=zh (show GotL w d D F w1 none (.returned (.tuple #[.slice none 0 0,.int .i64 7])) w2 from ⟨.slice none 0 0,by rw [zDK];rfl,by rw [zDJ];exact OwnR.nil _ _ _,fun k hk=>(by cases hk),hb,hst⟩)
  clear hb hst
  go_wp2_with fail
  go_ret2
  exact Hf.out
 | some f =>
  rw [hg] at H hln
  go_enter Tryz.func148,Tryz.ntmps148
  go_wp2_with fail
  refine H.out.mono ?_
  rintro e w2 ⟨v,rfl,hv,-,hb,hst⟩
  obtain ⟨p,c,rfl,hnc⟩:=zAv hv
  have H1:=zh (one_calls hv.has hnc (by omega))
  have Hst:=zh hst
  have Hb:=zh hb
  have hE:=zDL f
  have hB:=zCb f
  generalize zCH (some f)=b at *
  generalize hN:b.length=N at *
  clear hv hst hb hnc hln
  go_wp2_with fail
  refine H1.out.mono ?_
  rintro e w3 ⟨v,rfl,hv,hn,hb3⟩
  have hb4:=Hb.out.trans (hb3.mono Hb.out.size)
  have hst3:=Hst.out.next hb3
  by_cases he:oneE b=0
  ·have Hf:=zh (show GotL w d D F w1 (some f) (.returned (.tuple #[v,.int .i64 0])) w3 from ⟨v,by rw [hE,if_pos he];rfl,by rw [hB];exact hv,fun k hk=>Nat.le_trans Hb.out.size (hn k hk),hb4,hst3⟩)
   rw [he]
   clear hv hn hb3 hb4 hst3
   go_wp2_with fail
   go_ret2
   exact Hf.out
  ·have Hf:=zh (show GotL w d D F w1 (some f) (.returned (.tuple #[.slice none 0 0,.int .i64 3])) w3 from ⟨.slice none 0 0,by rw [hE,if_neg he];rfl,by rw [hB];unfold oneB;rw [if_neg he];exact OwnR.nil _ _ _,fun k hk=>(by cases hk),hb4,hst3⟩)
   have hne:((oneE b:Int) != 0)=true:=by simp;omega
   generalize oneE b=E at *
   clear hv hn hb3 hb4 hst3
   go_wp2_with fail
   go_ret2
   exact Hf.out
structure LedM where
 base:Nat
 data:Bs
 entries:List Bs
 dead:Bool
namespace LedM
def none0:LedM:=⟨0,[],[],false⟩
def last (M:LedM):Nat:=M.base+M.entries.length
def die (M:LedM):LedM:={ M with dead:=true }
end LedM
def imgX:Bs:=[45,105,109,103]
def logX:Bs:=[45,108,111,103]
def imgN (p:Bs):Bs:=p ++ imgX
def logN (p:Bs):Bs:=p ++ logX
def imgB (n:Nat) (p:Bs):Bs:=numB n ++ rowB p
namespace zAA
def rid1 (D:zAA) (n:Bs):zAA × Nat:=if (get n D.files).isSome then D.remove [n] else (D,0)
def rid (D:zAA):List Bs→zAA × Nat
 | []=>(D,0)
 | n :: r=>if (rid1 D n).2=0 then rid (rid1 D n).1 r else rid1 D n
end zAA
def zB1 (base:Nat) (s:Int × List Bs) (p:Bs):Option (Int × List Bs) :=
 if (Rd.num ⟨p,false⟩).2.bytes.2.whole=false∨(Rd.num ⟨p,false⟩).1 < 1∨1099511627776 < (Rd.num ⟨p,false⟩).1∨(0≤s.1∧((Rd.num ⟨p,false⟩).1:Int)≠s.1+1) then none
 else if (Rd.num ⟨p,false⟩).1≤base then some ((Rd.num ⟨p,false⟩).1,s.2)
 else if (Rd.num ⟨p,false⟩).1≠base+s.2.length+1 then none
 else some ((Rd.num ⟨p,false⟩).1,s.2 ++ [(Rd.num ⟨p,false⟩).2.bytes.1])
def zAh (base:Nat):Int × List Bs→List Bs→Option (Int × List Bs)
 | s,[]=>some s
 | s,p :: r=>match zB1 base s p with
  | none=>none
  | some t=>zAh base t r
def zAg (o:Option zAP):Nat × Nat × Bs :=
 if loadE o=7 then (0,0,[]) else if loadE o≠0 then (loadE o,0,[])
 else if (Rd.num ⟨zBT o,false⟩).2.bytes.2.whole=false∨1099511627776 < (Rd.num ⟨zBT o,false⟩).1 then (3,0,[])
 else (0,(Rd.num ⟨zBT o,false⟩).1,(Rd.num ⟨zBT o,false⟩).2.bytes.1)
def zAc (D:zAA) (n:Bs) (k len:Nat):zAA × Nat :=
 if k < len then (if (D.truncate n (k:Int)).2≠0 then D.truncate n (k:Int) else (D.truncate n (k:Int)).1.sync [n]) else (D,0)
def zBc (D:zAA) (pre:Bs) (base:Nat):zAA × Nat × List Bs :=
 match get (logN pre) D.files with
 | none=>(D,0,[])
 | some f=>match zAh base (-1,[]) (scan f.data).1 with
  | none=>(D,3,[])
  | some s =>
   if (zAc D (logN pre) (scan f.data).2 f.data.length).2≠0 then ((zAc D (logN pre) (scan f.data).2 f.data.length).1,(zAc D (logN pre) (scan f.data).2 f.data.length).2,s.2)
   else if s.2=[] then (((zAc D (logN pre) (scan f.data).2 f.data.length).1.remove [logN pre]).1,((zAc D (logN pre) (scan f.data).2 f.data.length).1.remove [logN pre]).2,s.2)
   else ((zAc D (logN pre) (scan f.data).2 f.data.length).1,0,s.2)
def zAa (D:zAA) (pre:Bs):zAA × Nat × LedM :=
 if pre.length < 1∨20 < pre.length then (D,1,LedM.none0)
 else if (D.rid [zAD (imgN pre)]).2≠0 then ((D.rid [zAD (imgN pre)]).1,(D.rid [zAD (imgN pre)]).2,LedM.none0)
 else if (zAg (get (imgN pre) (D.rid [zAD (imgN pre)]).1.files)).1≠0 then ((D.rid [zAD (imgN pre)]).1,(zAg (get (imgN pre) (D.rid [zAD (imgN pre)]).1.files)).1,LedM.none0)
 else ((zBc (D.rid [zAD (imgN pre)]).1 pre (zAg (get (imgN pre) (D.rid [zAD (imgN pre)]).1.files)).2.1).1,(zBc (D.rid [zAD (imgN pre)]).1 pre (zAg (get (imgN pre) (D.rid [zAD (imgN pre)]).1.files)).2.1).2.1,
  ⟨(zAg (get (imgN pre) (D.rid [zAD (imgN pre)]).1.files)).2.1,(zAg (get (imgN pre) (D.rid [zAD (imgN pre)]).1.files)).2.2,(zBc (D.rid [zAD (imgN pre)]).1 pre (zAg (get (imgN pre) (D.rid [zAD (imgN pre)]).1.files)).2.1).2.2,false⟩)
def zCq (D:zAA) (n b:Bs):zAA × Nat:=if (D.append n b).2≠0 then D.append n b else (D.append n b).1.sync [n]
structure Wrote where
 disk:zAA
 led:LedM
 num:Nat
 err:Nat
def zAL (pre:Bs) (D:zAA) (M:LedM) (p:Bs):Wrote :=
 if M.dead then ⟨D,M,0,9⟩ else if 65536 < p.length∨1099511627776≤M.last then ⟨D,M,0,5⟩
 else if (zCq D (logN pre) (zAG (imgB (M.last+1) p))).2≠0 then ⟨(zCq D (logN pre) (zAG (imgB (M.last+1) p))).1,M.die,0,(zCq D (logN pre) (zAG (imgB (M.last+1) p))).2⟩
 else ⟨(zCq D (logN pre) (zAG (imgB (M.last+1) p))).1,{ M with entries:=M.entries ++ [p] },M.last+1,0⟩
def zCa (pre:Bs) (D:zAA) (n:Nat) (p:Bs):zAA × Nat:=if (D.save (imgN pre) (imgB n p)).2≠0 then D.save (imgN pre) (imgB n p) else (D.save (imgN pre) (imgB n p)).1.rid [logN pre]
def zAV (pre:Bs) (D:zAA) (M:LedM) (n:Int) (p:Bs):Wrote :=
 if M.dead then ⟨D,M,0,9⟩ else if n < (M.last:Int)∨1099511627776 < n then ⟨D,M,0,1⟩ else if 524288 < p.length then ⟨D,M,0,5⟩
 else if (zCa pre D n.toNat p).2≠0 then ⟨(zCa pre D n.toNat p).1,M.die,0,(zCa pre D n.toNat p).2⟩
 else ⟨(zCa pre D n.toNat p).1,⟨n.toNat,p,[],M.dead⟩,0,0⟩
def zA8 (pre:Bs) (D:zAA) (M:LedM):Wrote :=
 if M.dead then ⟨D,M,0,9⟩ else ⟨(D.rid [logN pre,imgN pre]).1,M.die,0,(D.rid [logN pre,imgN pre]).2⟩
end Go.Proofs.YtapfnehdgailmaaGreat
namespace Go.Sat
open Go.RowKit
theorem own_cut {w:World} {e:TypeId} {p:Option Addr} {n c:Nat} {l:Bs} (h:OwnB w e (.slice p n c) l) {y:Nat} (hy:y≤l.length):OwnB w e (.slice p y y) (l.take y):=by
 have hl:(l.take y).length=y:=by rw [List.length_take];omega
 unfold OwnB
 rw [hl]
 refine ⟨by rw [zCZ,hl];omega,?_⟩
 rcases h.2 with ⟨e1,hn⟩ | ⟨g,cap,cur,e1,hg,hnc,hcm,hcs,ht⟩
 ·cases e1
  have hy0:y=0:=by omega
  subst hy0
  exact .inl ⟨rfl,rfl⟩
 ·cases e1
  refine .inr ⟨g,y,cur,rfl,hg,Nat.le_refl _,by omega,by omega,?_⟩
  rw [zDX,← ht,List.take_take]
  congr 1
  omega
end Go.Sat
namespace Go.Proofs.YtapfnehdgailmaaGreat
open Go.RowKit Go.Sat Go.Maps
theorem ok_trunc {D:zAA} (h:D.OK) {n:Bs} {f:zAP} (hg:Sat.get n D.files=some f) (k:Nat):zAA.OK { D with files:=put n ⟨f.data.take k,min f.lasts k⟩ D.files } where
 srt:=zBd h.srt
 room:=h.room
 used:=by
  show zBB zAA.size (put n _ D.files)≤D.room
  rw [sum_put]
  have h1:D.used=zAA.size f+zBB zAA.size (del n D.files):=zCy h.srt hg
  have:=h.used
  simp only [zAA.size,List.length_take] at h1 ⊢
  omega
 count:=by
  show (put n _ D.files).length≤4096
  rw [len_put]
  have:=len_del h.srt hg
  have:=h.count
  omega
 names p hp:=by
  rcases zBH.1 hp with rfl | ⟨hp,_⟩
  ·exact (h.names (n,f) (zBM hg):okN n=true)
  ·exact h.names p hp
 lasts p hp:=by
  rcases zBH.1 hp with rfl | ⟨hp,_⟩
  ·have h1:f.lasts≤f.data.length:=h.lasts (n,f) (zBM hg)
   show min f.lasts k≤(f.data.take k).length
   rw [List.length_take]
   omega
  ·exact h.lasts p hp
 fuse:=h.fuse
section
variable {w:World} {d m:Nat} {left:Int} {L:List (Bs × FRep)} {own:Own} {D:zAA}
theorem trunc_bad (h:zAS w d m left L own D) (o:ByteArray) (hso:o.size≤9223372036854775807) (z:Int) (hm:D.may [nm o]≠0) :
  Calls Tryz.prog 156 #[.pointer (some ⟨d,0,none⟩),.string o,.int .i64 z] w (zCC w d own (D,D.may [nm o])):=by
 have h1:=h.chg (Chg.alloc w (.cells #[.string o] 9)) (fun k hk=>hk.elim)
 have hc:=zBE h1 _ [o] 1 (zA4 w o) (by simp) (by simpa using hso)
 simp only [List.map_cons,List.map_nil] at hc
 have Hfin:=zh (show zCC w d own (D,D.may [nm o]) (.returned (.int .i64 (D.may [nm o]:Int))) (w.alloc (.cells #[.string o] 9)) from
  ⟨own,rfl,⟨m,left,L,h1⟩,(Chg.alloc w _).mono fun _ _ h=>h.elim,zBl _ _⟩)
 generalize D.may [nm o]=e0 at *
 have hne:((e0:Int) != 0)=true:=by simp;omega
 have Hc:=zh hc
 clear h hc h1
 go_enter Tryz.func156,Tryz.ntmps156
 go_wp2_with fail
 refine Hc.out.mono ?_
 rintro e w' ⟨rfl,rfl⟩
 go_wp2_with fail
 go_ret
 exact Hfin.out
theorem trunc_none (h:zAS w d m left L own D) (o:ByteArray) (hso:o.size≤9223372036854775807) (z:Int) (hm:D.may [nm o]=0) (hg:Sat.get (nm o) L=none) :
  Calls Tryz.prog 156 #[.pointer (some ⟨d,0,none⟩),.string o,.int .i64 z] w (zCC w d own (D,7)):=by
 have h1:=h.chg (Chg.alloc w (.cells #[.string o] 9)) (fun k hk=>hk.elim)
 have hc:=zBE h1 _ [o] 1 (zA4 w o) (by simp) (by simpa using hso)
 simp only [List.map_cons,List.map_nil,hm] at hc
 have hlook:=zBJ _ zBW Tryz.underlying9 Tryz.underlying113 (zBO _) FRep.fb h1.map hso hg
 have hc1:=h1.c1
 have Hfin:=zh (show zCC w d own (D,7) (.returned (.int .i64 (7:Int))) (w.alloc (.cells #[.string o] 9)) from
  ⟨own,rfl,⟨m,left,L,h1⟩,(Chg.alloc w _).mono fun _ _ h=>h.elim,zBl _ _⟩)
 have Hc:=zh hc
 have Hlook:=zh hlook
 have Hc1:=zh hc1
 clear h hc h1 hlook hc1
 generalize hw0:w.alloc (.cells #[.string o] 9)=w0 at *
 go_enter Tryz.func156,Tryz.ntmps156
 go_wp2_with fail
 have hlook:=Hlook.out
 have hc1:=Hc1.out
 refine Hc.out.mono ?_
 rintro e w' ⟨rfl,rfl⟩
 clear hw0
 go_wp2_with fail
 go_ret
 exact Hfin.out
theorem trunc_some (h:zAS w d m left L own D) (o:ByteArray) (hso:o.size≤9223372036854775807) (z:Int) (hz:-9223372036854775808≤z) (hz':z≤9223372036854775807) (hm:D.may [nm o]=0) {r:FRep} (hg:Sat.get (nm o) L=some r) :
  Calls Tryz.prog 156 #[.pointer (some ⟨d,0,none⟩),.string o,.int .i64 z] w (zCC w d own (if z < 0∨(r.f.data.length:Int) < z then (D,1) else (zAA.done { D with files:=put (nm o) ⟨r.f.data.take z.toNat,min r.f.lasts z.toNat⟩ D.files },0))):=by
 have h1:=h.chg (Chg.alloc w (.cells #[.string o] 9)) (fun k hk=>hk.elim)
 have hc:=zBE h1 _ [o] 1 (zA4 w o) (by simp) (by simpa using hso)
 simp only [List.map_cons,List.map_nil,hm] at hc
 have hlook:=zBU _ zBW Tryz.underlying9 Tryz.underlying113 (zBO _) FRep.fb h1.map hso hg
 have hc1:=h1.c1
 have hkey:=WideMaps.keyOf_string_mk Tryz.underlying9 hso
 have hzf:=zCR hm
 have hgD:Sat.get (nm o) D.files=some r.f:=by rw [h.get,hg];rfl
 have hr:=h1.fileAt hg
 have hlm:r.f.data.length≤1073741824:=by
  have h5:zAA.size r.f≤D.used:=le_sum h.ok.srt hgD
  have h6:=h.ok.used
  have h7:=h.ok.room
  unfold zAA.size at h5
  omega
 obtain ⟨pv,cv,ev,hmc⟩:∃ p c,r.v=.slice p r.f.data.length c∧r.f.data.length≤c:=by
  rcases hr.row.2 with ⟨e,hn⟩ | ⟨g,cap,cur,e,_,hnc,_⟩
  ·exact ⟨none,0,by rw [e,hn],by omega⟩
  ·exact ⟨_,cap,e,hnc⟩
 have hcA:=zAC (i:=0) hr.cells rfl
 have hcB:=zAC (i:=1) hr.cells rfl
 have hfA:=zAI hr.cells 0
 have hfB:=zAI hr.cells 1
 rw [ev] at hcA
 by_cases hb:z < 0∨(r.f.data.length:Int) < z
 ·rw [if_pos hb]
  have Hfin:=zh (show zCC w d own (D,1) (.returned (.int .i64 ((1:Nat):Int))) (w.alloc (.cells #[.string o] 9)) from
   ⟨own,rfl,⟨m,left,L,h1⟩,(Chg.alloc w _).mono fun _ _ h=>h.elim,zBl _ _⟩)
  have Hc:=zh hc
  generalize r.f.data.length=M at *
  clear h h1 hc hm hzf hg hgD hr hfA hfB ev
  generalize hw0:w.alloc (.cells #[.string o] 9)=w0 at *
  by_cases hz0:z < 0
  ·go_enter Tryz.func156,Tryz.ntmps156
   go_wp2_with fail
   refine Hc.out.mono ?_
   rintro e w' ⟨rfl,rfl⟩
   clear hw0
   go_wp2_with fail
   go_ret
   exact Hfin.out
  ·obtain ⟨y,rfl⟩:∃ y:Nat,z=(y:Int):=⟨z.toNat,by omega⟩
   have hMy:M < y:=by omega
   go_enter Tryz.func156,Tryz.ntmps156
   go_wp2_with fail
   refine Hc.out.mono ?_
   rintro e w' ⟨rfl,rfl⟩
   clear hw0
   go_wp2_with fail
   go_ret
   exact Hfin.out
 ·rw [if_neg hb]
  obtain ⟨y,rfl⟩:∃ y:Nat,z=(y:Int):=⟨z.toNat,by omega⟩
  rw [Int.toNat_natCast]
  have hyM:y≤r.f.data.length:=by omega
  have hrow:OwnB (w.alloc (.cells #[.string o] 9)) 5 (.slice pv y y) (r.f.data.take y):=Go.Sat.own_cut (by rw [← ev];exact hr.row) hyM
  have hof:own r.fb=some (2,nm o):=hr.ob
  have hog:∀ g,(Value.slice pv y y).ownBlock=some g→own g=some (3,nm o):=fun g hgk=>hr.og g (by rw [ev,zBw pv _ _ y y];exact hgk)
  have hv2:OwnB (((w.alloc (.cells #[.string o] 9)).setCell ⟨r.fb,0,none⟩ (.slice pv y y)).setCell ⟨r.fb,1,none⟩ (.int .i64 ((min r.f.lasts y:Nat):Int))) 5 (.slice pv y y) (r.f.data.take y):=OwnB.keep hrow fun k hk=>by
   have hne:k≠r.fb:=fun e=>by
    have h1:=hog k hk
    rw [e,hof] at h1
    simp at h1
   exact (zAE _ hne).trans (zAE _ hne)
  obtain ⟨own',h4,hx⟩:=h1.upd hg (f':=⟨r.f.data.take y,min r.f.lasts y⟩) (v':=.slice pv y y) (w':=((w.alloc (.cells #[.string o] 9)).setCell ⟨r.fb,0,none⟩ (.slice pv y y)).setCell ⟨r.fb,1,none⟩ (.int .i64 ((min r.f.lasts y:Nat):Int)))
   (by simp [World.setCell]) (fun k _ hne _=>(zAE _ hne).trans (zAE _ hne)) (zAO (zAO hr.cells 0 _) 1 _) hv2
   (fun g hgk=>.inl (by rw [ev,zBw pv _ _ y y];exact hgk)) (ok_trunc h.ok hgD y)
  have hchg:Chg (Has own) w (((w.alloc (.cells #[.string o] 9)).setCell ⟨r.fb,0,none⟩ (.slice pv y y)).setCell ⟨r.fb,1,none⟩ (.int .i64 ((min r.f.lasts y:Nat):Int))):=by
   have ho:Has own r.fb:=by unfold Has;rw [hof];simp
   refine (((Chg.alloc w _).mono (T:=Has own) fun _ _ h=>h.elim).trans (Chg.setCell _ ⟨r.fb,0,none⟩ _) fun k _ e=>?_).trans (Chg.setCell _ ⟨r.fb,1,none⟩ _) fun k _ e=>?_
   ·rw [show k=r.fb from e];exact ho
   ·rw [show k=r.fb from e];exact ho
  have hdone:=zCB h4 hzf.1
  have Hdone:=zh hdone
  have Hchg:=zh hchg
  have Hx:=zh hx
  have Hsz:=zh (Chg.alloc w (.cells #[.string o] 9)).size
  have Hod:=zh (has_d h1)
  have Hc:=zh hc
  obtain ⟨i0,hi,_⟩:=info_parts (show (Tryz.prog.info? 5).map (fun i=>(i.zero,i.size,i.bytes))=some (some (.int .u8 0),1,1) by kernel_rfl)
  have hsl:∀ W,(Instr.slice 22 (.slice pv r.f.data.length cv) none (some (.int .i64 (y:Int))) (some (.int .i64 (y:Int)))).run Tryz.prog W=.ok (.slice pv y y) W:=fun W=>run_cut W Tryz.underlying22 hi pv _ cv y (by omega)
  have hmin:min (r.f.lasts:Int) (y:Int)=((min r.f.lasts y:Nat):Int):=by omega
  generalize hMM:r.f.data.length=M at *
  generalize r.f.lasts=la at *
  clear h h1 hc hm hzf hg hgD hr ev hrow hof hog hv2 h4 hx hchg hdone hMM
  generalize hw0:w.alloc (.cells #[.string o] 9)=w0 at *
  go_enter Tryz.func156,Tryz.ntmps156
  go_wp2_with fail
  refine Hc.out.mono ?_
  rintro e w' ⟨rfl,rfl⟩
  clear hw0
  go_wp2_with fail
  refine Hdone.out.mono ?_
  rintro e w5 ⟨rfl,hd5,hc5⟩
  go_wp2_with fail
  go_ret
  exact ⟨own',rfl,hd5,Hchg.out.trans hc5 fun i _ e=>by rw [e];exact Hod.out,fun k hk=>Hx.out k (Nat.lt_of_lt_of_le hk Hsz.out)⟩
theorem trunc_calls (h:zBe w d D own) (o:ByteArray) (hso:o.size≤9223372036854775807) (z:Int) (hz:-9223372036854775808≤z) (hz':z≤9223372036854775807) :
  Calls Tryz.prog 156 #[.pointer (some ⟨d,0,none⟩),.string o,.int .i64 z] w (zCC w d own (D.truncate (nm o) z)):=by
 obtain ⟨m,left,L,h⟩:=h
 unfold zAA.truncate
 by_cases hm:D.may [nm o]=0
 ·rw [if_neg (by simpa using hm),h.get]
  cases hg:Sat.get (nm o) L with
  | none=>exact trunc_none h o hso z hm hg
  | some r=>exact trunc_some h o hso z hz hz' hm hg
 ·rw [if_pos (by simpa using hm)]
  exact trunc_bad h o hso z hm
end
theorem st_trunc {w w1:World} {d:Nat} {D:zAA} {F:Nat→Prop} (h:St w w1 d D F) (s:ByteArray) (hss:s.size≤9223372036854775807) (z:Int) (hz:-9223372036854775808≤z) (hz':z≤9223372036854775807) :
  Calls Tryz.prog 156 #[.pointer (some ⟨d,0,none⟩),.string s,.int .i64 z] w1 (Told w d F w1 (D.truncate (nm s) z)):=by
 obtain ⟨own,hd,hb,hnn,hF⟩:=h
 refine (trunc_calls hd s hss z hz hz').mono ?_
 rintro e w' ⟨own',rfl,hd',hc,hx⟩
 exact ⟨rfl,St.step hb hnn hF hd' hc hx⟩
end Go.Proofs.YtapfnehdgailmaaGreat
namespace Go.Sat
open Go.RowKit
def skipN (pre:Bs) (stay:List Bs) (n:Bs):Bool:=!(pre.isPrefixOf n) || stay.contains n
end Go.Sat
namespace Go.Proofs.YtapfnehdgailmaaGreat
open Go.RowKit Go.Sat Go.Maps
namespace zAA
def clearL (pre:Bs) (stay:List Bs) (D:zAA):List Bs→zAA × Nat
 | []=>(D,0)
 | n :: r=>if skipN pre stay n then clearL pre stay D r else if (D.remove [n]).2=0 then clearL pre stay (D.remove [n]).1 r else D.remove [n]
def clear (D:zAA) (pre:Bs) (stay:List Bs):zAA × Nat:=clearL pre stay D (zBN D)
end zAA
theorem zCX (x:Bs):encStr x=.string ⟨x.toArray⟩:=rfl
theorem nm_str (x:Bs):nm ⟨x.toArray⟩=x:=by simp [nm]
theorem HasN.same {w w':World} {v:Value} {l:List Bs} (h:HasN w v l) (hs:∀ k,v.ownBlock=some k→w'.heap[k]?=w.heap[k]?):HasN w' v l:=by
 obtain ⟨hl,p,cap,rfl,h0,hc⟩:=h
 refine ⟨hl,p,cap,rfl,h0,fun a ha i u hu=>?_⟩
 have hb:(a.add i).block=a.block:=zCF _ _
 exact (World.cell?_of_block (by rw [hb];exact hs _ (by rw [ha];rfl))).trans (hc a ha i u hu)
theorem contains_calls {w:World} {v:Value} {l:List Bs} (h:HasN w v l) (hl:l.length≤9223372036854775807) (x:Bs) :
  Calls Tryz.prog 201 #[v,.string ⟨x.toArray⟩] w fun e w'=>e=.returned (.bool (l.contains x))∧w'=w:=by
 rcases h.at with rfl | ⟨b,o,c,rfl,hc⟩
 ·obtain ⟨p,c,rfl⟩:=h.slice
  exact Tryz.slices_Contains_string_empty p c _ w
 ·have H:=Tryz.slices_Contains_string b o l.length c (l.map fun x=>(⟨x.toArray⟩:ByteArray)) ⟨x.toArray⟩ w (by simp) hl (fun j hj=>by
   have hj':j < l.length:=by simpa using hj
   rw [hc j l[j] (List.getElem?_eq_getElem hj'),zCX]
   simp [List.getD_eq_getElem?_getD,hj'])
  have e:Lib.containsS ((l.map fun x=>(⟨x.toArray⟩:ByteArray)).take l.length) ⟨x.toArray⟩=l.contains x:=by
   rw [List.take_of_length_le (by simp),Bool.eq_iff_iff,Lib.containsS_iff,List.contains_iff_mem,List.mem_map]
   constructor
   ·rintro ⟨y,hy,e⟩
    have:y=x:=by
     have:=congrArg nm e
     rwa [nm_str,nm_str] at this
    rwa [this] at hy
   ·intro hx
    exact ⟨x,hx,rfl⟩
  rw [e] at H
  exact H
end Go.Proofs.YtapfnehdgailmaaGreat
namespace Go.Sat
theorem del_put {α:Type} {L:List (Bs × α)} (h:Srt L) (n:Bs) (a:α):del n (put n a L)=del n L:=by
 refine srt_ext (zB0 (zBd h)) (zB0 h) fun m=>?_
 by_cases e:m=n
 ·subst e
  rw [zC4,zC4]
 ·rw [zCm (zBd h) e,zB5 h a e,zCm h e]
theorem put_put {α:Type} {L:List (Bs × α)} (h:Srt L) (n:Bs) (a b:α):put n b (put n a L)=put n b L:=by
 show ins (n,b) (del n (put n a L))=ins (n,b) (del n L)
 rw [del_put h]
end Go.Sat
namespace Go.Proofs.YtapfnehdgailmaaGreat
open Go.RowKit Go.Sat Go.Maps
theorem shadow_len (n:Bs):(zAD n).length=n.length+1:=by simp [zAD]
def offF (f:Option Nat) (k:Nat):Option Nat:=f.map (· - k)
section
variable {D:zAA} {n l:Bs}
theorem save_app (_h:D.OK) (hf:D.fuse≠some 0) (hn1:1≤n.length) (hn:n.length≤60) (hsh:Sat.get (zAD n) D.files=none) (hroom:D.used+l.length+12≤D.room) (hc:D.files.length < 4096) :
  D.append (zAD n) (zAG l)=(⟨D.room,put (zAD n) ⟨zAG l,0⟩ D.files,offF D.fuse 1⟩,0):=by
 have hm:D.may [zAD n]=0:=by
  unfold zAA.may
  rw [if_neg hf,if_pos]
  simp only [List.all_cons,List.all_nil,Bool.and_true,okN,shadow_len]
  simp;omega
 have hfu:D.full (zAD n) (zAG l)=false:=by
  unfold zAA.full
  rw [zAo,hsh]
  simp;omega
 unfold zAA.append
 rw [if_neg (by rw [hm];simp),if_neg (by rw [hfu];simp)]
 have hcur:D.cur (zAD n)=⟨[],0⟩:=by unfold zAA.cur;rw [hsh];rfl
 rw [hcur]
 rfl
theorem save_syn {room:Nat} {L:List (Bs × zAP)} {f:Option Nat} (h:Srt L) (hf:f≠some 0) (hn1:1≤n.length) (hn:n.length≤60) :
  zAA.sync ⟨room,put (zAD n) ⟨zAG l,0⟩ L,f⟩ [zAD n]=(⟨room,put (zAD n) ⟨zAG l,(zAG l).length⟩ L,offF f 1⟩,0):=by
 have hm:zAA.may ⟨room,put (zAD n) ⟨zAG l,0⟩ L,f⟩ [zAD n]=0:=by
  unfold zAA.may
  rw [if_neg hf,if_pos]
  simp only [List.all_cons,List.all_nil,Bool.and_true,okN,shadow_len]
  simp;omega
 have h1:zAA.each1 zAA.gSync ⟨room,put (zAD n) ⟨zAG l,0⟩ L,f⟩ (zAD n)=(⟨room,put (zAD n) ⟨zAG l,(zAG l).length⟩ L,offF f 1⟩,0):=by
  unfold zAA.each1
  rw [if_neg (by rw [hm];simp)]
  have hg:Sat.get (zAD n) (zAA.files ⟨room,put (zAD n) ⟨zAG l,0⟩ L,f⟩)=some ⟨zAG l,0⟩:=zBy h _ _
  rw [hg]
  show ((⟨room,put _ _ (put _ _ L),_⟩:zAA),0)=_
  rw [put_put h]
  rfl
 show (if (zAA.each1 _ _ _).2=0 then _ else _)=_
 rw [h1,if_pos rfl]
 rfl
theorem save_ren {room:Nat} {L:List (Bs × zAP)} {f:Option Nat} {g:zAP} (h:Srt L) (hf:f≠some 0) (hn1:1≤n.length) (hn:n.length≤60) (hsh:Sat.get (zAD n) L=none) :
  zAA.rename ⟨room,put (zAD n) g L,f⟩ (zAD n) n=(⟨room,put n g L,offF f 1⟩,0):=by
 have hm:zAA.may ⟨room,put (zAD n) g L,f⟩ [zAD n,n]=0:=by
  unfold zAA.may
  rw [if_neg hf,if_pos]
  simp only [List.all_cons,List.all_nil,Bool.and_true,okN,shadow_len]
  simp;omega
 unfold zAA.rename
 rw [if_neg (by rw [hm];simp)]
 have hg:Sat.get (zAD n) (zAA.files ⟨room,put (zAD n) g L,f⟩)=some g:=zBy h _ _
 rw [hg]
 show ((⟨room,put n g (del (zAD n) (put (zAD n) g L)),_⟩:zAA),0)=_
 rw [del_put h,zCP hsh]
 rfl
theorem off_ne {f:Option Nat} {k:Nat} (hf:∀ j,f=some j→k < j):offF f k≠some 0:=by
 cases f with
 | none=>intro h;cases h
 | some j =>
  have:=hf j rfl
  intro h
  have:=Option.some.inj (show some (j - k)=some 0 from h)
  omega
theorem off_off (f:Option Nat) (a b:Nat):offF (offF f a) b=offF f (a+b):=by
 cases f with
 | none=>rfl
 | some j=>exact congrArg some (Nat.sub_sub _ _ _)
theorem save_room (hn1:1≤n.length) (hn:n.length≤60):D.save n l=D.save1 n (zAG l):=by
 unfold zAA.save
 rw [if_neg (by omega)]
theorem save_all (h:D.OK) (hf:∀ j,D.fuse=some j→3≤j) (hn1:1≤n.length) (hn:n.length≤60) (hsh:Sat.get (zAD n) D.files=none) (hroom:D.used+l.length+12≤D.room) (hc:D.files.length < 4096) :
  D.save n l=(⟨D.room,put n ⟨zAG l,(zAG l).length⟩ D.files,offF D.fuse 3⟩,0):=by
 have h0:D.save0 n=(D,0):=by unfold zAA.save0;rw [hsh];rfl
 have hz:D.fuse≠some 0:=fun e=>by have:=hf 0 e;omega
 rw [save_room hn1 hn,zDA h0 (save_app h hz hn1 hn hsh hroom hc) (save_syn h.srt (off_ne fun j e=>by have:=hf j e;omega) hn1 hn),off_off,
  save_ren h.srt (off_ne fun j e=>by have:=hf j e;omega) hn1 hn hsh,off_off]
end
theorem zAq (w:World) (e:TypeId):OwnR (w.alloc (.cells #[] e)) e 1 (.slice (some ⟨w.heap.size,0,none⟩) 0 0) 0 [] :=
 ⟨rfl,.inr ⟨_,0,#[],rfl,zAW w _,Nat.le_refl _,Nat.zero_le _,Nat.le_refl _,rfl⟩⟩
theorem stays_whole (b:Bs) (k:Int):zAA.stays ⟨b,b.length⟩ k=b.length:=by
 show b.length+(max 0 k).toNat % (b.length - b.length+1)=b.length
 rw [Nat.sub_self,Nat.zero_add,Nat.mod_one,Nat.add_zero]
theorem crash_whole (b:Bs) (k:Int):zAA.crashF k ⟨b,b.length⟩=⟨b,b.length⟩:=by
 show (⟨b.take (zAA.stays ⟨b,b.length⟩ k),zAA.stays ⟨b,b.length⟩ k⟩:zAP)=_
 rw [stays_whole,List.take_length]
theorem get_crash (D:zAA) (n:Bs) (k:Int):Sat.get n (D.crash k).files=(Sat.get n D.files).map (zAA.crashF k):=mp_get _ _ _
theorem get_crash_whole {D:zAA} {n b:Bs} (h:Sat.get n D.files=some ⟨b,b.length⟩) (k:Int):Sat.get n (D.crash k).files=some ⟨b,b.length⟩:=by
 rw [get_crash,h,Option.map_some,crash_whole]
theorem load_frame (l:Bs) (h:l.length≤1048576) (k:Nat):loadE (some ⟨zAG l,k⟩)=0∧zBT (some ⟨zAG l,k⟩)=l:=by
 have e:zCH (some ⟨zAG l,k⟩)=zAG l:=rfl
 rw [zDL,zCb,e,frame_oneE l h,frame_oneB l h]
 exact ⟨if_pos rfl,rfl⟩
end Go.Proofs.YtapfnehdgailmaaGreat
