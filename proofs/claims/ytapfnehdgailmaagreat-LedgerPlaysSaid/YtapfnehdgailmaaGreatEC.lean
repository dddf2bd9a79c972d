/- The contract of Append. The contracts of each, Sync, Remove. -/
import Derived.Test.YtapfnehdgailmaaGreatEA
import Derived.Test.YtapfnehdgailmaaGreatEB
set_option maxRecDepth 100000
set_option maxHeartbeats 64000000
namespace Go.Proofs.YtapfnehdgailmaaGreat
open Go.RowKit Go.Sat Go.Maps
def zCC (w:World) (d:Nat) (own:Own) (r:zAA × Nat) (e:Ending) (w':World):Prop :=
 ∃ own',e=.returned (.int .i64 (r.2:Int))∧zBe w' d r.1 own'∧Chg (Has own) w w'∧Ext w own own'
theorem zA4 (w:World) (s:ByteArray):zC2 (w.alloc (.cells #[.string s] 9)) (some ⟨w.heap.size,0,none⟩) [s]:=by
 refine .inr ⟨_,_,rfl,fun i u hu=>?_⟩
 have hi:i=0:=by
  have:=(List.getElem?_eq_some_iff.1 hu).1
  simp at this
  exact this
 subst hi
 simp at hu
 subst hu
 exact zAC (zAW w _) rfl
theorem zBl (w:World) (own:Own):Ext w own own:=fun _ _ h=>h
section
variable {w:World} {d m:Nat} {left:Int} {L:List (Bs × FRep)} {own:Own} {D:zAA}
theorem append_bad (h:zAS w d m left L own D) (s:ByteArray) (x:Value) (hsz:s.size≤9223372036854775807) (hm:D.may [nm s]≠0) :
  Calls Tryz.prog 15 #[.pointer (some ⟨d,0,none⟩),.string s,x] w (zCC w d own (D,D.may [nm s])):=by
 have h1:=h.chg (Chg.alloc w (.cells #[.string s] 9)) (fun k hk=>hk.elim)
 have hc:=zBE h1 _ [s] 1 (zA4 w s) (by simp) (by simpa using hsz)
 simp only [List.map_cons,List.map_nil] at hc
 generalize hk:D.may [nm s]=k at hm hc ⊢
 have hne:((k:Int) != 0)=true:=by simp;exact hm
 have H1:=zh h1
 have Hc:=zh hc
 clear h hc h1 hm hk
 go_enter Tryz.func15,Tryz.ntmps15
 go_wp2_with fail
 refine Hc.out.mono ?_
 rintro e w' ⟨rfl,rfl⟩
 go_wp2_with fail
 go_ret
 exact ⟨own,rfl,⟨m,left,L,H1.out⟩,(Chg.alloc w _).mono (fun _ _ h=>h.elim),zBl _ _⟩
def Still (w0:World) (d m:Nat) (left:Int) (L:List (Bs × FRep)) (own:Own) (D:zAA) (w:World):Prop:=zAS w d m left L own D∧Below w0.heap.size w0 w
theorem zBQ {w0 w1 w2:World} (h:Still w0 d m left L own D w1) (hb:Below w1.heap.size w1 w2):Still w0 d m left L own D w2 :=
 ⟨h.1.chg (Chg.of_below hb) (fun _ hk=>hk.elim),h.2.trans (hb.mono h.2.size)⟩
theorem zCd {w w1:World} {x:Value} {ls:List Bs} (h:zBA w x ls) (hb:Below w.heap.size w w1):zBA w1 x ls:=by
 obtain ⟨p,c,rfl,hc,hP⟩:=h
 refine ⟨p,c,rfl,hc,fun hne=>?_⟩
 obtain ⟨b,o,vs,rfl,h1,h2,h3⟩:=hP hne
 have hold:∀ a v,w.cell? a=some v→w1.cell? a=some v:=fun a v hv=>(hb.cell (World.block_lt_of_cell? w a hv)).trans hv
 refine ⟨b,o,vs,rfl,h1,fun i v hv=>hold _ _ (h2 i v hv),fun i v l hv hl=>?_⟩
 obtain ⟨p,cap,rfl,h0,hcs⟩:=h3 i v l hv hl
 exact ⟨p,cap,rfl,h0,fun a ha j x hx=>hold _ _ (hcs a ha j x hx)⟩
theorem below2 {S:Nat→Prop} {w w0 w2:World} (h:Below w.heap.size w w0) (k:Below w0.heap.size w0 w2):Chg S w w2 :=
 ((Chg.of_below h).trans (Chg.of_below k) fun _ _ h=>h).mono fun _ _ h=>h.elim
theorem append_full (h:zAS w d m left L own D) (s:ByteArray) (x:Value) (ls:List Bs) (hx:zBA w x ls) (hn:ls.length≤140737488355328) (hl:ls.flatten.length≤140737488355328) (hsz:s.size≤9223372036854775807) (hm:D.may [nm s]=0)
  (hf:D.room < D.used+ls.flatten.length) :
  Calls Tryz.prog 15 #[.pointer (some ⟨d,0,none⟩),.string s,x] w (zCC w d own (D,6)):=by
 have hb0:=(Below.refl w.heap.size w).alloc (Nat.le_refl _) (.cells #[.string s] 9)
 have h1:=h.chg (Chg.alloc w (.cells #[.string s] 9)) (fun k hk=>hk.elim)
 have hc:=zBE h1 _ [s] 1 (zA4 w s) (by simp) (by simpa using hsz)
 simp only [List.map_cons,List.map_nil,hm] at hc
 have hj:=zBp (zCd hx hb0) hn hl
 have H1:=zh h1
 have Hc:=zh hc
 have Hj:=zh hj
 have Hb0:=zh hb0
 have hr:=h.ok.room
 have hu:=h.ok.used
 clear h hc h1 hm hj hx hb0
 go_enter Tryz.func15,Tryz.ntmps15
 go_wp2_with fail
 refine Hc.out.mono ?_
 rintro e w' ⟨rfl,rfl⟩
 go_wp2_with fail
 refine Hj.out.mono ?_
 rintro e w1 ⟨b,rfl,hb,hbel⟩
 obtain ⟨pb,cb,rfl⟩:=HasB.slice hb
 clear hb
 have h2:=H1.out.chg (Chg.of_below hbel) (fun k hk=>hk.elim)
 have hc1:=h2.c1
 have hc0:=h2.c0
 obtain ⟨fv,hlook⟩:=run_look_any w1 zBW Tryz.underlying9 Tryz.underlying113 (zBO w1) FRep.fb h2.map hsz
 have HS:Still (w.alloc (.cells #[.string s] 9)) d m left L own D w1.drew:=zBQ ⟨h2,hbel⟩ ((Below.refl _ _).drew)
 have HU:=fun W (h:Still (w.alloc (.cells #[.string s] 9)) d m left L own D W)=>zD4 h.1
 generalize hR:D.room=R at hf hr hu hc0
 generalize hU:D.used=U at hf hu HU
 generalize ls.flatten.length=n at *
 have hgt:decide ((R:Int) - (U:Int) < (n:Int))=true:=by simp;omega
 have hsub:IntKind.i64.wrap ((R:Int) - (U:Int))=(R:Int) - (U:Int):=IntWalk.i64_in _ (by omega)
 have HR:=zh hR
 have HUU:=zh hU
 clear hR hU hf h2 hbel
 generalize hw0:w.alloc (.cells #[.string s] 9)=w0 at *
 have Hw0:=zh hw0
 clear hw0
 go_wp2_with fail
 obtain ⟨ι,F,hne,hF0,hFS,hFall⟩:=classOf _ HS
 have fc0:∀ n,(F n).cell? ⟨d,0,none⟩=some (.int .i64 (R:Int)):=fun n=>by rw [(hFS n).1.c0,HR.out]
 have HFS:=zh hFS
 have HFall:=zh hFall
 clear hFS hFall
 refine zAr F (by kernel_rfl) (by kernel_rfl) hF0 ?_
 repeat (go_big_quiet_step ((go_at_call 67;refine (HU _ (HFS.out _)).mono ?_;rintro e w2 ⟨rfl,hb2⟩;exact ⟨rfl,HFall.out _ (zBQ (HFS.out _) hb2)⟩)))
 refine wpQuiet_nil ?_
 rintro _ ⟨q,rfl⟩
 have HS2:=HFS.out q
 clear HFS HFall hF0 fc0
 generalize F q=w2 at HS2 ⊢
 go_wp2
 go_ret
 exact ⟨own,rfl,⟨m,left,L,HS2.1⟩,below2 Hb0.out HS2.2,zBl _ _⟩
theorem zCR {D:zAA} {ns:List Bs} (h:D.may ns=0):D.fuse≠some 0∧ns.all okN=true:=by
 unfold zAA.may at h
 split at h
 ·cases h
 ·rename_i h1
  refine ⟨h1,?_⟩
  split at h
  ·assumption
  ·cases h
theorem ok_append {D:zAA} (h:D.OK) {n b:Bs} (hm:D.may [n]=0) (hf:D.full n b=false):zAA.OK { D with files:=put n ⟨(D.cur n).data ++ b,(D.cur n).lasts⟩ D.files }:=by
 have hn:okN n=true:=by simpa using (zCR hm).2
 simp only [zAA.full,Bool.or_eq_false_iff,decide_eq_false_iff_not,Bool.and_eq_false_iff] at hf
 obtain ⟨h1,h2⟩:=hf
 have hcur:∀ f,Sat.get n D.files=some f→D.cur n=f:=fun f hg=>by simp [zAA.cur,hg]
 have hcur0:Sat.get n D.files=none→D.cur n=⟨[],0⟩:=fun hg=>by simp [zAA.cur,hg]
 refine ⟨zBd h.srt,h.room,?_,?_,?_,?_,h.fuse⟩
 ·show zBB zAA.size (put n _ D.files)≤D.room
  rw [sum_put]
  have hu:D.used=zAA.size (D.cur n)+zBB zAA.size (del n D.files):=by
   cases hg:Sat.get n D.files with
   | none=>rw [hcur0 hg,zCP hg];simp [zAA.used,zAA.size]
   | some f=>rw [hcur f hg];exact zCy h.srt hg
  simp only [zAA.size,List.length_append] at hu ⊢
  omega
 ·show (put n _ D.files).length≤4096
  rw [len_put]
  cases hg:Sat.get n D.files with
  | none =>
   rw [hg] at h2
   simp at h2
   rw [zCP hg]
   omega
  | some f =>
   have:=len_del h.srt hg
   have:=h.count
   omega
 ·intro p hp
  rcases zBH.1 hp with rfl | ⟨hp,_⟩
  ·exact hn
  ·exact h.names p hp
 ·intro p hp
  rcases zBH.1 hp with rfl | ⟨hp,_⟩
  ·cases hg:Sat.get n D.files with
   | none=>rw [hcur0 hg];simp
   | some f =>
    rw [hcur f hg]
    have:f.lasts≤f.data.length:=h.lasts _ (zBM hg)
    simp only [List.length_append]
    omega
  ·exact h.lasts p hp
theorem len_run {W:World} (h:zAS W d m left L own D) (ty:TypeId):(Builtin.len_ #[113] ty #[.map (some m)]).run Tryz.prog W=.ok (.int .i64 (L.length:Int)) W:=by
 have:=h.map.len Tryz.underlying113 ty
 rwa [dm_size] at this
theorem append_count (h:zAS w d m left L own D) (s:ByteArray) (x:Value) (ls:List Bs) (hx:zBA w x ls) (hn:ls.length≤140737488355328) (hl:ls.flatten.length≤140737488355328) (hsz:s.size≤9223372036854775807) (hm:D.may [nm s]=0)
  (hf:D.used+ls.flatten.length≤D.room) (hg:Sat.get (nm s) L=none) (hcount:4096≤L.length) :
  Calls Tryz.prog 15 #[.pointer (some ⟨d,0,none⟩),.string s,x] w (zCC w d own (D,6)):=by
 have hb0:=(Below.refl w.heap.size w).alloc (Nat.le_refl _) (.cells #[.string s] 9)
 have h1:=h.chg (Chg.alloc w (.cells #[.string s] 9)) (fun k hk=>hk.elim)
 have hc:=zBE h1 _ [s] 1 (zA4 w s) (by simp) (by simpa using hsz)
 simp only [List.map_cons,List.map_nil,hm] at hc
 have hj:=zBp (zCd hx hb0) hn hl
 have hr:=h.ok.room
 have hLc:L.length≤4096:=by rw [← h.len];exact h.ok.count
 have H1:=zh h1
 have Hc:=zh hc
 have Hj:=zh hj
 have Hb0:=zh hb0
 clear h hc h1 hm hj hx hb0
 go_enter Tryz.func15,Tryz.ntmps15
 go_wp2_with fail
 refine Hc.out.mono ?_
 rintro e w' ⟨rfl,rfl⟩
 go_wp2_with fail
 refine Hj.out.mono ?_
 rintro e w1 ⟨b,rfl,hb,hbel⟩
 obtain ⟨pb,cb,rfl⟩:=HasB.slice hb
 clear hb
 have h2:=H1.out.chg (Chg.of_below hbel) (fun k hk=>hk.elim)
 have hc1:=h2.c1
 have hlook:=zBJ w1 zBW Tryz.underlying9 Tryz.underlying113 (zBO w1) FRep.fb h2.map hsz hg
 have HS:Still w1 d m left L own D w1.drew:=zBQ ⟨h2,Below.refl _ _⟩ ((Below.refl _ _).drew)
 have HU:=fun W (h:Still w1 d m left L own D W)=>zD4 h.1
 generalize hR:D.room=R at hf hr
 generalize hU:D.used=U at hf HU
 generalize hlen:L.length=N at hcount hLc
 generalize ls.flatten.length=n at *
 have hgt:decide ((R:Int) - (U:Int) < (n:Int))=false:=by simp;omega
 have hsub:IntKind.i64.wrap ((R:Int) - (U:Int))=(R:Int) - (U:Int):=IntWalk.i64_in _ (by omega)
 have hcnt:decide ((4096:Int)≤(N:Int))=true:=by simp;omega
 have HR:=zh hR
 have Hlen:=zh hlen
 have Hbel:=zh hbel
 have Hg:=zh hg
 clear hR hU hf h2 hbel hg hlen hcount
 go_wp2_with fail
 obtain ⟨ι,F,hne,hF0,hFS,hFall⟩:=classOf _ HS
 have fc0:∀ n,(F n).cell? ⟨d,0,none⟩=some (.int .i64 (R:Int)):=fun n=>by rw [(hFS n).1.c0,HR.out]
 have fc1:∀ n,(F n).cell? ⟨d,1,none⟩=some (.map (some m)):=fun n=>(hFS n).1.c1
 have fl:∀ n ty,(Builtin.len_ #[113] ty #[.map (some m)]).run Tryz.prog (F n)=.ok (.int .i64 (N:Int)) (F n):=fun n ty=>by rw [len_run (hFS n).1 ty,Hlen.out]
 have HFS:=zh hFS
 have HFall:=zh hFall
 clear hFS hFall HS
 refine zAr F (by kernel_rfl) (by kernel_rfl) hF0 ?_
 repeat (go_big_quiet_step ((go_at_call 67;refine (HU _ (HFS.out _)).mono ?_;rintro e w2 ⟨rfl,hb2⟩;exact ⟨rfl,HFall.out _ (zBQ (HFS.out _) hb2)⟩)))
 refine wpQuiet_nil ?_
 rintro _ ⟨q,rfl⟩
 have HS2:=HFS.out q
 clear HFS HFall hF0 fc0 fc1 fl hlook hc1
 generalize F q=w2 at HS2 ⊢
 go_wp2
 go_ret
 exact ⟨own,rfl,⟨m,left,L,HS2.1⟩,(below2 (S:=Has own) Hb0.out Hbel.out).trans ((Chg.of_below HS2.2).mono (T:=Has own) fun _ _ h=>h.elim) fun _ _ h=>h,zBl _ _⟩
theorem append_old (h:zAS w d m left L own D) (s:ByteArray) (x:Value) (ls:List Bs) (hx:zBA w x ls) (hn:ls.length≤140737488355328) (hl:ls.flatten.length≤140737488355328) (hsz:s.size≤9223372036854775807) (hm:D.may [nm s]=0)
  (hf:D.full (nm s) ls.flatten=false) (r:FRep) (hg:Sat.get (nm s) L=some r) :
  Calls Tryz.prog 15 #[.pointer (some ⟨d,0,none⟩),.string s,x] w (zCC w d own (zAA.done { D with files:=put (nm s) ⟨r.f.data ++ ls.flatten,r.f.lasts⟩ D.files },0)):=by
 have hb0:=(Below.refl w.heap.size w).alloc (Nat.le_refl _) (.cells #[.string s] 9)
 have h1:=h.chg (Chg.alloc w (.cells #[.string s] 9)) (fun k hk=>hk.elim)
 have hc:=zBE h1 _ [s] 1 (zA4 w s) (by simp) (by simpa using hsz)
 simp only [List.map_cons,List.map_nil,hm] at hc
 have hj:=zBp (zCd hx hb0) hn hl
 have hcur:D.cur (nm s)=r.f:=by simp [zAA.cur,h.get,hg]
 have hok:=ok_append h.ok hm hf
 rw [hcur] at hok
 have hfu:=(zCR hm).1
 have hfit:D.used+ls.flatten.length≤D.room:=by
  simp only [zAA.full,Bool.or_eq_false_iff,decide_eq_false_iff_not] at hf
  omega
 have hrl:r.f.data.length≤D.used:=by rw [h.used];exact le_sum (f:=fun r:FRep=>r.f.data.length) h.srt hg
 have H1:=zh h1
 have Hc:=zh hc
 have Hj:=zh hj
 have Hb0:=zh hb0
 have Hok:=zh hok
 have Hfu:=zh hfu
 have hr:=h.ok.room
 clear h hc h1 hm hj hx hb0 hok hcur hf hfu
 go_enter Tryz.func15,Tryz.ntmps15
 go_wp2_with fail
 refine Hc.out.mono ?_
 rintro e w' ⟨rfl,rfl⟩
 go_wp2_with fail
 refine Hj.out.mono ?_
 rintro e w1 ⟨b,rfl,hb,hbel⟩
 have Hb:=zh hb
 obtain ⟨pb,cb,rfl⟩:=HasB.slice hb
 clear hb
 have h2:=H1.out.chg (Chg.of_below hbel) (fun k hk=>hk.elim)
 have hc1:=h2.c1
 have hc0:=h2.c0
 have hlook:=zBU w1 zBW Tryz.underlying9 Tryz.underlying113 (zBO w1) FRep.fb h2.map hsz hg
 have HS0:Still w1 d m left L own D w1:=⟨h2,Below.refl _ _⟩
 have HS:Still w1 d m left L own D w1.drew:=zBQ HS0 ((Below.refl _ _).drew)
 have HU:=fun W (h:Still w1 d m left L own D W)=>zD4 h.1
 have Hbel:=zh hbel
 generalize hR:D.room=R at hfit hr hc0
 generalize hU:D.used=U at hfit HU hrl
 generalize hnl:ls.flatten.length=n at *
 have hgt:decide ((R:Int) - (U:Int) < (n:Int))=false:=by simp;omega
 have hsub:IntKind.i64.wrap ((R:Int) - (U:Int))=(R:Int) - (U:Int):=IntWalk.i64_in _ (by omega)
 have HR:=zh hR
 have HUU:=zh hU
 have Hnl:=zh hnl
 have Hg:=zh hg
 clear hR hU h2 hbel hnl hg
 go_wp2_with fail
 obtain ⟨ι,F,hne,hF0,hFS,hFall⟩:=classOf _ HS
 have fc0:∀ n,(F n).cell? ⟨d,0,none⟩=some (.int .i64 (R:Int)):=fun n=>by rw [(hFS n).1.c0,HR.out]
 have HFS:=zh hFS
 have HFall:=zh hFall
 clear hFS hFall
 refine zAr F (by kernel_rfl) (by kernel_rfl) hF0 ?_
 repeat (go_big_quiet_step ((go_at_call 67;refine (HU _ (HFS.out _)).mono ?_;rintro e w2 ⟨rfl,hb2⟩;exact ⟨rfl,HFall.out _ (zBQ (HFS.out _) hb2)⟩)))
 refine wpQuiet_nil ?_
 rintro _ ⟨q,rfl⟩
 have HS2:=HFS.out q
 clear HFS HFall hF0 fc0 hlook hc1 hc0 HS
 generalize F q=w2 at HS2 ⊢
 have hfile:=HS2.1.fileAt Hg.out
 have hcell:w2.cell? ⟨r.fb,0,none⟩=some r.v:=zAC hfile.cells rfl
 obtain ⟨i0,hi,hz0,hz1,hz2⟩:=info_parts (show (Tryz.prog.info? 5).map (fun i=>(i.zero,i.size,i.bytes))=some (some (.int .u8 0),1,1) by kernel_rfl)
 have hrow:=hfile.row
 have hbw:HasB w2 (.slice pb n cb) ls.flatten:=HasB.below Hb.out HS2.2
 unfold HasB at hbw
 rw [Hnl.out] at hbw
 obtain ⟨p1,c1,hv⟩:=OwnB.slice hrow
 have hblk:∀ k,r.v.ownBlock=some k→k≠r.fb:=fun k hk=>HS2.1.ne_of (hfile.og k hk) hfile.ob (by simp)
 have HS3:=zh HS2
 have Hfile:=zh hfile
 have Hv:=zh hv
 have Hbw:=zh hbw
 have Hrow:=zh hrow
 have Hblk:=zh hblk
 clear hfile hv hrow hbw hblk HS2
 go_wp2_with (first | (at_builtin;refine zAR w2 rfl (.tmp 61) (.tmp 62) 22 rfl 5 i0 (.int .u8 0) 1 1 Tryz.underlying22 hi hz0 hz1 hz2 rfl (by decide) r.v r.f.data.length (zAN r.f.data) rfl Hrow.out (.slice pb n cb) n (zAN ls.flatten) rfl Hbw.out (zAM _) (by unfold maxLen;omega) (by omega) ?_;intro v' w3 hown' hgrow hloc;obtain ⟨p2,c2,rfl⟩:=OwnR.shape hown';have hb3:=zCn hgrow Hfile.out.cells (fun e=>Hblk.out _ e rfl);have hc3:=zAC (i:=0) hb3 rfl;have hf3:=zAI hb3 0;have Hg3:=zh (And.intro hown' (And.intro hgrow (And.intro hloc hb3)));clear hown' hgrow hloc hb3))
 obtain ⟨hown',hgrow,hloc,hb3⟩:=Hg3.out
 have h2:=HS3.out.1
 have hfb:=zAt Hfile.out.cells
 have hnv:∀ k,(Value.slice p2 (r.f.data.length+n) c2).ownBlock=some k→k≠r.fb:=fun k hk=>by
  rcases hloc with e | ⟨g,e,hge⟩
  ·exact Hblk.out k (by rw [← e];exact hk)
  ·rw [e] at hk
   cases hk
   omega
 obtain ⟨own',h4,hext⟩:=h2.upd (w':=w3.setCell ⟨r.fb,0,none⟩ (.slice p2 (r.f.data.length+n) c2)) (f':=⟨r.f.data ++ ls.flatten,r.f.lasts⟩) (v':=.slice p2 (r.f.data.length+n) c2) Hg.out
  (by simpa [World.setCell] using hgrow.size) (fun k hk h1 h2=>(zAE _ h1).trans (hgrow.block k hk h2)) (by rw [zAO hb3];simp)
  (by
   have e1:(r.f.data ++ ls.flatten).length=r.f.data.length+n:=by rw [List.length_append,Hnl.out]
   unfold OwnB
   rw [e1,zBR]
   exact OwnR.keep hown' fun k hk=>zAE _ (hnv k hk))
  (fun g hgv=>by
   rcases hloc with e | ⟨g',e,hge⟩
   ·exact .inl (by rw [← e];exact hgv)
   ·rw [e] at hgv
    cases hgv
    exact .inr hge) Hok.out
 refine (zCB h4 Hfu.out).mono ?_
 rintro e w5 ⟨rfl,hd5,hc5⟩
 have hchg:Chg (Has own) w w5:=by
  have hod:Has own d:=by unfold Has;rw [h2.od];simp
  have hob:Has own r.fb:=by unfold Has;rw [Hfile.out.ob];simp
  have hog:∀ g,r.v.ownBlock=some g→Has own g:=fun g hgv=>by unfold Has;rw [Hfile.out.og g hgv];simp
  have k1:Chg (Has own) w w1:=below2 Hb0.out Hbel.out
  have k2:Chg (Has own) w w2:=k1.trans ((Chg.of_below HS3.out.2).mono (T:=Has own) fun _ _ h=>h.elim) fun _ _ h=>h
  have k3:Chg (Has own) w w3:=k2.trans (Chg.of_grown hgrow) fun i _ e=>hog i e.symm
  have c4:Chg (Has own) w (w3.setCell ⟨r.fb,0,none⟩ (.slice p2 (r.f.data.length+n) c2)):=k3.trans (Chg.setCell w3 ⟨r.fb,0,none⟩ (.slice p2 (r.f.data.length+n) c2)) fun i _ e=>by rw [e];exact hob
  exact c4.trans hc5 fun i _ e=>by rw [e];exact hod
 clear hown' hgrow hloc hb3 h2 h4 hfb hnv hc3 hf3
 have Hx:=zh hext
 clear hext
 go_wp2_with fail
 go_ret
 exact ⟨own',rfl,hd5,hchg,fun k hk=>Hx.out k (Nat.lt_of_lt_of_le hk (Nat.le_trans (below2 (S:=fun _=>False) Hb0.out Hbel.out).size HS3.out.2.size))⟩
theorem new_has {w2 w3:World} {o:Obj} (h:zAS w2 d m left L own D) {v:Value} {l:Bs} (hv:HasB w2 v l) (hg:(w2.alloc o).grownBy w3 (some m)):HasB w3 v l:=by
 obtain ⟨es,clock,hm,_⟩:=h.map
 have hc:Chg (fun k=>k=m) w2 w3:=((Chg.alloc w2 _).mono (T:=fun k=>k=m) fun _ _ h=>h.elim).trans (Chg.of_grown hg) fun i _ e=>by simpa using e
 exact zAY.chg2 hv hc fun a u hu _=>no_cell_map hm hu
theorem append_new (h:zAS w d m left L own D) (s:ByteArray) (x:Value) (ls:List Bs) (hx:zBA w x ls) (hn:ls.length≤140737488355328) (hl:ls.flatten.length≤140737488355328) (hsz:s.size≤9223372036854775807) (hm:D.may [nm s]=0)
  (hf:D.full (nm s) ls.flatten=false) (hg:Sat.get (nm s) L=none) :
  Calls Tryz.prog 15 #[.pointer (some ⟨d,0,none⟩),.string s,x] w (zCC w d own (zAA.done { D with files:=put (nm s) ⟨ls.flatten,0⟩ D.files },0)):=by
 have hb0:=(Below.refl w.heap.size w).alloc (Nat.le_refl _) (.cells #[.string s] 9)
 have h1:=h.chg (Chg.alloc w (.cells #[.string s] 9)) (fun k hk=>hk.elim)
 have hc:=zBE h1 _ [s] 1 (zA4 w s) (by simp) (by simpa using hsz)
 simp only [List.map_cons,List.map_nil,hm] at hc
 have hj:=zBp (zCd hx hb0) hn hl
 have hcur:D.cur (nm s)=⟨[],0⟩:=by simp [zAA.cur,h.get,hg]
 have hok:=ok_append h.ok hm hf
 rw [hcur] at hok
 simp only [List.nil_append] at hok
 have hfu:=(zCR hm).1
 have hfc:D.used+ls.flatten.length≤D.room∧L.length < 4096:=by
  simp only [zAA.full,Bool.or_eq_false_iff,decide_eq_false_iff_not,h.get,hg,h.len,Option.map_none,Option.isNone_none,Bool.true_and] at hf
  omega
 obtain ⟨hfit,hcount⟩:=hfc
 have hr:=h.ok.room
 have H1:=zh h1
 have Hc:=zh hc
 have Hj:=zh hj
 have Hb0:=zh hb0
 have Hok:=zh hok
 have Hfu:=zh hfu
 clear h hc h1 hm hj hx hb0 hok hcur hf hfu
 go_enter Tryz.func15,Tryz.ntmps15
 go_wp2_with fail
 refine Hc.out.mono ?_
 rintro e w' ⟨rfl,rfl⟩
 go_wp2_with fail
 refine Hj.out.mono ?_
 rintro e w1 ⟨b,rfl,hb,hbel⟩
 have Hb:=zh hb
 obtain ⟨pb,cb,rfl⟩:=HasB.slice hb
 clear hb
 have h2:=H1.out.chg (Chg.of_below hbel) (fun k hk=>hk.elim)
 have hc1:=h2.c1
 have hlook:=zBJ w1 zBW Tryz.underlying9 Tryz.underlying113 (zBO w1) FRep.fb h2.map hsz hg
 have HS:Still w1 d m left L own D w1.drew:=zBQ ⟨h2,Below.refl _ _⟩ ((Below.refl _ _).drew)
 have HU:=fun W (h:Still w1 d m left L own D W)=>zD4 h.1
 generalize hR:D.room=R at hfit hr
 generalize hU:D.used=U at hfit HU
 generalize hlen:L.length=N at hcount
 generalize hnl:ls.flatten.length=n at *
 have hgt:decide ((R:Int) - (U:Int) < (n:Int))=false:=by simp;omega
 have hsub:IntKind.i64.wrap ((R:Int) - (U:Int))=(R:Int) - (U:Int):=IntWalk.i64_in _ (by omega)
 have hcnt:decide ((4096:Int)≤(N:Int))=false:=by simp;omega
 have HR:=zh hR
 have Hlen:=zh hlen
 have Hbel:=zh hbel
 have Hg:=zh hg
 have Hnl:=zh hnl
 clear hR hU h2 hbel hg hlen hnl
 go_wp2_with fail
 obtain ⟨ι,F,hne,hF0,hFS,hFall⟩:=classOf _ HS
 have fc0:∀ n,(F n).cell? ⟨d,0,none⟩=some (.int .i64 (R:Int)):=fun n=>by rw [(hFS n).1.c0,HR.out]
 have fc1:∀ n,(F n).cell? ⟨d,1,none⟩=some (.map (some m)):=fun n=>(hFS n).1.c1
 have fl:∀ n ty,(Builtin.len_ #[113] ty #[.map (some m)]).run Tryz.prog (F n)=.ok (.int .i64 (N:Int)) (F n):=fun n ty=>by rw [len_run (hFS n).1 ty,Hlen.out]
 have HFS:=zh hFS
 have HFall:=zh hFall
 clear hFS hFall HS
 refine zAr F (by kernel_rfl) (by kernel_rfl) hF0 ?_
 repeat (go_big_quiet_step ((go_at_call 67;refine (HU _ (HFS.out _)).mono ?_;rintro e w2 ⟨rfl,hb2⟩;exact ⟨rfl,HFall.out _ (zBQ (HFS.out _) hb2)⟩)))
 refine wpQuiet_nil ?_
 rintro _ ⟨q,rfl⟩
 have HS2:=HFS.out q
 clear HFS HFall hF0 fc0 fc1 fl hlook hc1 HU
 generalize F q=w2 at HS2 ⊢
 have hc1:=HS2.1.c1
 have hdl:=HS2.1.dlt
 have hN:L.length < maxLen:=by rw [Hlen.out];unfold maxLen;omega
 have hmap:=HS2.1.map.alloc (.cells #[.slice none 0 0,.int .i64 0] 123)
 have HS3:=zh HS2
 have Hmap:=zh hmap
 clear HS2 hmap
 obtain ⟨i0,hi,hz0,hz1,hz2⟩:=info_parts (show (Tryz.prog.info? 5).map (fun i=>(i.zero,i.size,i.bytes))=some (some (.int .u8 0),1,1) by kernel_rfl)
 go_wp2_with (first | (at_mapUpdate;refine wpList_mapUpdate_own _ rfl _ _ _ 113 rfl 9 121 zBW Tryz.underlying113 ptrR m L.length (dm fbD L) rfl Hmap.out hN _ _ _ rfl rfl (WideMaps.keyOf_string_mk Tryz.underlying9 hsz) (.held w2.heap.size) [] rfl ?_;intro w3 hown3 hg3;have hfb3:=zCn hg3 (zAW w2 _) (by intro e;have h9:=HS3.out.1.mlt;cases e;omega);have hc3:=zAC (i:=0) hfb3 rfl;have Hg3:=zh (And.intro hown3 (And.intro hg3 hfb3));clear hown3 hg3 hfb3) | (at_builtin;have hbw:=new_has HS3.out.1 (HasB.below Hb.out HS3.out.2) Hg3.out.2.1;unfold HasB at hbw;rw [Hnl.out] at hbw;refine zAR w3 rfl (.tmp 61) (.tmp 62) 22 rfl 5 i0 (.int .u8 0) 1 1 Tryz.underlying22 hi hz0 hz1 hz2 rfl (by decide) (.slice none 0 0) 0 [] rfl (OwnR.nil _ _ _) (.slice pb n cb) n (zAN ls.flatten) rfl hbw (zAM _) (by unfold maxLen;omega) (by omega) ?_;clear hbw;intro v' w4 hown' hgrow hloc;obtain ⟨p2,c2,rfl⟩:=OwnR.shape hown';have hb4:=zCn hgrow Hg3.out.2.2 (by intro e;cases e);have hc4:=zAC (i:=0) hb4 rfl;have hf4:=zAI hb4 0;have Hg4:=zh (And.intro hown' (And.intro hgrow (And.intro hloc hb4)));clear hown' hgrow hloc hb4))
 obtain ⟨hown3,hg3,_⟩:=Hg3.out
 obtain ⟨hown',hgrow,hloc,hb4⟩:=Hg4.out
 have h2:=HS3.out.1
 have hs3:w2.heap.size+1≤w3.heap.size:=by
  have:=hg3.size
  simpa using this
 have hs4:=hgrow.size
 have hnv:∀ k,(Value.slice p2 (0+n) c2).ownBlock=some k→w2.heap.size≤k∧k≠w2.heap.size:=fun k hk=>by
  rcases hloc with e | ⟨g,e,hge⟩
  ·rw [e] at hk
   cases hk
  ·rw [e] at hk
   cases hk
   omega
 have hold:∀ k,k < w2.heap.size→k≠m→w4.heap[k]?=w2.heap[k]?:=fun k hk hkm=>by
  rw [hgrow.block k (by omega) (by intro e;cases e),hg3.block k (by simp;omega) (by intro e;cases e;exact hkm rfl)]
  exact heap_alloc_old w2 _ hk
 obtain ⟨own',h4,hext⟩:=h2.add (w':=w4.setCell ⟨w2.heap.size,0,none⟩ (.slice p2 (0+n) c2)) (r:=⟨w2.heap.size,.slice p2 (0+n) c2,⟨ls.flatten,0⟩⟩) Hg.out
  (by simp [World.setCell];omega) (fun k hk hkm=>(zAE _ (by simp;omega)).trans (hold k hk hkm))
  ⟨_,(hown3.kept hgrow (by intro e;cases e)).setCell (by have:=h2.mlt;simp;omega) _⟩ (by rw [zAO hb4];simp) (Nat.le_refl _)
  (by
   have e1:ls.flatten.length=0+n:=by rw [Hnl.out,Nat.zero_add]
   unfold OwnB
   show OwnR _ _ _ _ ls.flatten.length _
   rw [e1]
   exact OwnR.keep hown' fun k hk=>zAE _ (hnv k hk).2)
  hnv Hok.out
 have hchg:Chg (Has own) w (w4.setCell ⟨w2.heap.size,0,none⟩ (.slice p2 (0+n) c2)):=by
  have hom:Has own m:=by unfold Has;rw [h2.om];simp
  have k1:Chg (Has own) w w1:=below2 Hb0.out Hbel.out
  have k2:Chg (Has own) w w2:=k1.trans ((Chg.of_below HS3.out.2).mono (T:=Has own) fun _ _ h=>h.elim) fun _ _ h=>h
  have k4:Chg (fun k=>k=m) w2 w4:=⟨by rw [hgrow.os,hg3.os];rfl,by rw [hgrow.tape,hg3.tape];rfl,by rw [hgrow.output,hg3.output];rfl,by omega,hold⟩
  have k5:Chg (fun k=>k=m∨w2.heap.size≤k) w2 (w4.setCell ⟨w2.heap.size,0,none⟩ (.slice p2 (0+n) c2)):=(k4.mono (T:=fun k=>k=m∨w2.heap.size≤k) fun _ _ h=>.inl h).trans (Chg.setCell w4 _ _) fun i _ e=>.inr (by rw [e];exact Nat.le_refl _)
  have hs2:=k2.size
  exact k2.trans k5 fun i hi e=>by
   rcases e with e | e
   ·rw [e];exact hom
   ·omega
 have hod:Has own d:=by unfold Has;rw [h2.od];simp
 have hsz2:=Nat.le_trans (below2 (S:=fun _=>False) Hb0.out Hbel.out).size HS3.out.2.size
 simp only [Nat.zero_add] at h4 hchg
 have hdone:=zCB h4 Hfu.out
 have Hdone:=zh hdone
 have Hchg:=zh hchg
 have Hx:=zh hext
 have Hod:=zh hod
 have Hsz:=zh hsz2
 clear hown3 hg3 hown' hgrow hloc hb4 h2 hs3 hs4 hnv hold h4 hext hchg hod hsz2 hdone hc3 hc4 hf4
 refine Hdone.out.mono ?_
 rintro e w5 ⟨rfl,hd5,hc5⟩
 go_wp2_with fail
 go_ret
 exact ⟨own',rfl,hd5,Hchg.out.trans hc5 fun i _ e=>by rw [e];exact Hod.out,fun k hk=>Hx.out k (Nat.lt_of_lt_of_le hk Hsz.out)⟩
theorem append_calls (h:zBe w d D own) (s:ByteArray) (x:Value) (ls:List Bs) (hx:zBA w x ls) (hn:ls.length≤140737488355328) (hl:ls.flatten.length≤140737488355328) (hsz:s.size≤9223372036854775807) :
  Calls Tryz.prog 15 #[.pointer (some ⟨d,0,none⟩),.string s,x] w (zCC w d own (D.append (nm s) ls.flatten)):=by
 obtain ⟨m,left,L,h⟩:=h
 unfold zAA.append
 by_cases hm:D.may [nm s]=0
 ·rw [if_neg (by simpa using hm)]
  by_cases hf:D.full (nm s) ls.flatten=true
  ·rw [if_pos hf]
   by_cases hr:D.room < D.used+ls.flatten.length
   ·exact append_full h s x ls hx hn hl hsz hm hr
   ·simp only [zAA.full,hr,decide_false,Bool.false_or,Bool.and_eq_true,Option.isNone_iff_eq_none,decide_eq_true_eq,h.get,h.len,Option.map_eq_none_iff] at hf
    exact append_count h s x ls hx hn hl hsz hm (by omega) hf.1 hf.2
  ·rw [if_neg hf]
   have hf':D.full (nm s) ls.flatten=false:=by simpa using hf
   cases hg:Sat.get (nm s) L with
   | none =>
    have hcur:D.cur (nm s)=⟨[],0⟩:=by simp [zAA.cur,h.get,hg]
    rw [hcur]
    exact append_new h s x ls hx hn hl hsz hm hf' hg
   | some r =>
    have hcur:D.cur (nm s)=r.f:=by simp [zAA.cur,h.get,hg]
    rw [hcur]
    exact append_old h s x ls hx hn hl hsz hm hf' r hg
 ·rw [if_pos (by simpa using hm)]
  exact append_bad h s x hsz hm
end
def Did (W:World) (d:Nat) (own:Own) (D:zAA) (e:Ending) (w':World):Prop :=
 ∃ own',e=.returned (.tuple #[])∧zBe w' d D own'∧Chg (Has own) W w'∧Ext W own own'
theorem ok_sync {D:zAA} (h:D.OK) {n:Bs} {f:zAP} (hg:Sat.get n D.files=some f):zAA.OK { D with files:=zAA.gSync n f D.files } where
 srt:=zBd h.srt
 room:=h.room
 used:=by
  show zBB zAA.size (put n _ D.files)≤D.room
  rw [sum_put]
  have h1:D.used=zAA.size f+zBB zAA.size (del n D.files):=zCy h.srt hg
  have:=h.used
  simp only [zAA.size] at h1 ⊢
  omega
 count:=by
  show (put n _ D.files).length≤4096
  rw [len_put]
  have:=len_del h.srt hg
  have:=h.count
  omega
 names p hp:=by
  rcases zBH.1 hp with rfl | ⟨hp,_⟩
  ·exact (h.names (n,f) (zBM hg):okN n=true)
  ·exact h.names p hp
 lasts p hp:=by
  rcases zBH.1 hp with rfl | ⟨hp,_⟩
  ·exact Nat.le_refl _
  ·exact h.lasts p hp
 fuse:=h.fuse
theorem ok_del {D:zAA} (h:D.OK) (n:Bs):zAA.OK { D with files:=del n D.files } where
 srt:=zB0 h.srt
 room:=h.room
 used:=by
  show zBB zAA.size (del n D.files)≤D.room
  cases hg:Sat.get n D.files with
  | none=>rw [zCP hg];exact h.used
  | some f =>
   have h1:D.used=zAA.size f+zBB zAA.size (del n D.files):=zCy h.srt hg
   have:=h.used
   omega
 count:=Nat.le_trans (len_del_le _ _) h.count
 names p hp:=h.names p (zA9.1 hp).1
 lasts p hp:=h.lasts p (zA9.1 hp).1
 fuse:=h.fuse
section
variable {w:World} {d m:Nat} {left:Int} {L:List (Bs × FRep)} {own:Own} {D:zAA}
theorem has_d (h:zAS w d m left L own D):Has own d:=by unfold Has;rw [h.od];simp
theorem has_m (h:zAS w d m left L own D):Has own m:=by unfold Has;rw [h.om];simp
theorem has_f (h:zAS w d m left L own D) {n:Bs} {r:FRep} (hg:Sat.get n L=some r):Has own r.fb:=by unfold Has;rw [(h.fileAt hg).ob];simp
theorem sync1_calls (h:zAS w d m left L own D) (s:ByteArray) {r:FRep} (hg:Sat.get (nm s) L=some r) :
  Calls Tryz.prog 182 #[.string s,.pointer (some ⟨r.fb,0,none⟩)] w (Did w d own { D with files:=zAA.gSync (nm s) r.f D.files }):=by
 have hf:=h.fileAt hg
 have hc:=zAC (i:=0) hf.cells rfl
 have hc1:=zAC (i:=1) hf.cells rfl
 have hz:=zAI hf.cells 1
 obtain ⟨p,c,hv⟩:=OwnB.slice hf.row
 have hdl:r.f.data.length≤1073741824:=by
  have:=h.ok.used
  have:=h.ok.room
  have:r.f.data.length≤D.used:=by rw [h.used];exact le_sum (f:=fun r:FRep=>r.f.data.length) h.srt hg
  omega
 have hfin:Did w d own { D with files:=zAA.gSync (nm s) r.f D.files } (.returned (.tuple #[])) (w.setCell ⟨r.fb,1,none⟩ (.int .i64 (r.f.data.length:Int))):=by
  have hne:∀ k,r.v.ownBlock=some k→k≠r.fb:=fun k hk=>h.ne_of (hf.og k hk) hf.ob (by simp)
  obtain ⟨own',h4,hx⟩:=h.upd (w':=w.setCell ⟨r.fb,1,none⟩ (.int .i64 (r.f.data.length:Int))) (v':=r.v) (f':=⟨r.f.data,r.f.data.length⟩) hg (by simp [World.setCell]) (fun k _ hk _=>zAE _ hk)
   (by rw [zAO hf.cells];simp) (hf.row.keep fun k hk=>zAE _ (hne k hk)) (fun g hgv=>.inl hgv) (ok_sync h.ok (by rw [h.get,hg];rfl))
  exact ⟨own',rfl,⟨m,left,_,h4⟩,(Chg.setCell w _ _).mono fun k _ e=>by rw [e];exact has_f h hg,hx⟩
 rw [hv] at hc
 have Hfin:=zh hfin
 clear hfin h hg hf hv
 generalize r.f.data.length=n at *
 go_enter Tryz.func182,Tryz.ntmps182
 go_wp2
 go_end0
 exact Hfin.out
theorem remove1_calls (h:zAS w d m left L own D) (s:ByteArray) (hs:s.size≤9223372036854775807) {r:FRep} (_hg:Sat.get (nm s) L=some r) (cb:Nat) (hcb:w.cell? ⟨cb,0,none⟩=some (.pointer (some ⟨d,0,none⟩))) :
  Calls Tryz.prog 147 #[.string s,.pointer (some ⟨r.fb,0,none⟩),.pointer (some ⟨cb,0,none⟩)] w (Did w d own { D with files:=zAA.gRemove (nm s) r.f D.files }):=by
 have hc1:=h.c1
 have hkey:=WideMaps.keyOf_string_mk Tryz.underlying9 hs
 have hdel:∀ w',w'.ownsMap Tryz.prog 9 ptrR m L.length ((dm fbD L).del (.string s.data.toList))→w.mapTurned w' m→Did w d own { D with files:=zAA.gRemove (nm s) r.f D.files } (.returned (.tuple #[])) w':=by
  intro w' hown ht
  rw [dm_del] at hown
  have hg':=ht.grown
  obtain ⟨own',h4,hx⟩:=h.remap (w':=w') (L':=del (nm s) L) (D':={ D with files:=del (nm s) D.files }) hg'.size (fun k hk hkm=>hg'.block k hk (by intro e;cases e;exact hkm rfl)) ⟨_,hown⟩ (zB0 h.srt) rfl rfl
   (by rw [mp_del,← h.files]) (ok_del h.ok _) (fun p hp=>⟨p,(zA9.1 hp).1,rfl⟩) (fun p hp q hq e=>by
    have h1:=h.file p (zA9.1 hp).1
    have h2:=h.file q (zA9.1 hq).1
    have h3:=h1.ob
    rw [e,h2.ob] at h3
    exact zDn h.srt (zA9.1 hp).1 (zA9.1 hq).1 (by simpa using h3.symm))
  exact ⟨own',rfl,⟨m,left,_,h4⟩,(Chg.of_grown hg').mono fun k _ e=>by cases e;exact has_m h,hx⟩
 have hown:=h.map
 have Hdel:=zh hdel
 clear hdel h _hg
 go_enter Tryz.func147,Tryz.ntmps147
 go_wp2_with (first | (at_delete;refine wpList_delete_own _ rfl _ _ 113 9 rfl 121 zBW Tryz.underlying113 ptrR m L.length (dm fbD L) rfl hown _ _ rfl hkey ?_;intro w1 hown1 hturn1;have Hf:=zh (Hdel.out _ hown1 hturn1);clear hown1 hturn1))
 go_end0
 exact Hf.out
theorem each_append (g:Bs→zAP→List (Bs × zAP)→List (Bs × zAP)) (D:zAA) (l r:List Bs) (h:(D.each g l).2=0):D.each g (l ++ r)=(D.each g l).1.each g r:=by
 induction l generalizing D with
 | nil=>rfl
 | cons n l ih =>
  simp only [List.cons_append,zAA.each] at h ⊢
  by_cases h1:(zAA.each1 g D n).2=0
  ·rw [if_pos h1] at h ⊢
   rw [if_pos h1]
   exact ih _ h
  ·rw [if_neg h1] at h
   exact absurd h h1
def zDV (w:World) (d:Nat) (own:Own) (D:zAA) (g:Bs→zAP→List (Bs × zAP)→List (Bs × zAP)) (ns:List Bs) (k:Nat) (wr:World):Prop :=
 ∃ own' m left L,zAS wr d m left L own' (D.each g (ns.take k)).1∧(D.each g (ns.take k)).2=0∧Chg (Has own) w wr∧Ext w own own'
def DoesAt (fv:Value) (g:Bs→zAP→List (Bs × zAP)→List (Bs × zAP)) (d:Nat) (w:World) (own:Own):Prop :=
 (fv=.func (.func 182) #[] #[]∧g=zAA.gSync) ∨
 ∃ cb,fv=.func (.func 147) #[] #[.pointer (some ⟨cb,0,none⟩)]∧g=zAA.gRemove∧w.cell? ⟨cb,0,none⟩=some (.pointer (some ⟨d,0,none⟩))∧own cb=none
theorem each_round {w wr:World} {g:Bs→zAP→List (Bs × zAP)→List (Bs × zAP)} {ns:List Bs} {k:Nat} {n:Bs} (hr:zDV w d own D g ns k wr) (hn:ns[k]?=some n) :
  ∃ D',D.each g ns=(if (zAA.each1 g D' n).2=0 then (zAA.each1 g D' n).1.each g (ns.drop (k+1)) else zAA.each1 g D' n)∧(D.each g (ns.take k)).1=D' ∧
   ((zAA.each1 g D' n).2=0→D.each g (ns.take (k+1))=zAA.each1 g D' n):=by
 obtain ⟨own',m,left,L,_,h0,_⟩:=hr
 refine ⟨_,?_,rfl,fun h1=>?_⟩
 ·have hk:k < ns.length:=(List.getElem?_eq_some_iff.1 hn).1
  have hnk:ns[k]=n:=(List.getElem?_eq_some_iff.1 hn).2
  have e1:ns=ns.take k ++ n :: ns.drop (k+1):=by rw [← hnk,← List.drop_eq_getElem_cons hk,List.take_append_drop]
  have e2:D.each g ns=D.each g (ns.take k ++ n :: ns.drop (k+1)):=by rw [← e1]
  rw [e2,each_append g D _ _ h0]
  rfl
 ·have hk:k < ns.length:=(List.getElem?_eq_some_iff.1 hn).1
  have hnk:ns[k]=n:=(List.getElem?_eq_some_iff.1 hn).2
  rw [List.take_succ_eq_append_getElem hk,each_append g D _ _ h0,hnk]
  simp only [zAA.each,if_pos h1]
  exact Prod.ext rfl h1.symm
theorem chg_ext {w wr w2:World} {own own':Own} (h:Chg (Has own) w wr) (hx:Ext w own own') (k:Chg (Has own') wr w2):Chg (Has own) w w2 :=
 h.trans k fun i hi t ho=>t (hx i hi ho)
theorem ext_trans {w wr:World} {own own' own2:Own} (hs:w.heap.size≤wr.heap.size) (h:Ext w own own') (k:Ext wr own' own2):Ext w own own2:=fun i hi ho=>k i (Nat.lt_of_lt_of_le hi hs) (h i hi ho)
theorem each1_bad {g:Bs→zAP→List (Bs × zAP)→List (Bs × zAP)} {D:zAA} {n:Bs} (h:D.may [n]≠0):zAA.each1 g D n=(D,D.may [n]):=by
 unfold zAA.each1
 rw [if_pos h]
theorem each1_none {g:Bs→zAP→List (Bs × zAP)→List (Bs × zAP)} {D:zAA} {n:Bs} (h:D.may [n]=0) (hg:Sat.get n D.files=none):zAA.each1 g D n=(D,7):=by
 unfold zAA.each1
 rw [if_neg (by simpa using h),hg]
theorem each1_some {g:Bs→zAP→List (Bs × zAP)→List (Bs × zAP)} {D:zAA} {n:Bs} {f:zAP} (h:D.may [n]=0) (hg:Sat.get n D.files=some f):zAA.each1 g D n=(zAA.done { D with files:=g n f D.files },0):=by
 unfold zAA.each1
 rw [if_neg (by simpa using h),hg]
theorem zDh {w wr:World} {g:Bs→zAP→List (Bs × zAP)→List (Bs × zAP)} {ns:List Bs} {k:Nat} {n:Bs} {D':zAA} {e:Nat} {o:Obj} (hr:zDV w d own D g ns k wr) (hn:ns[k]?=some n)
  (hD:(D.each g (ns.take k)).1=D') (h1:zAA.each1 g D' n=(D',e)) (he:e≠0):zCC w d own (D.each g ns) (.returned (.int .i64 (e:Int))) (wr.alloc o):=by
 obtain ⟨D2,h2,h3,_⟩:=each_round hr hn
 rw [hD] at h3
 subst h3
 rw [h1,if_neg he] at h2
 obtain ⟨own',m,left,L,hd,h0,hc,hx⟩:=hr
 rw [hD] at hd
 rw [h2]
 exact ⟨own',rfl,⟨m,left,L,hd.chg (Chg.alloc wr o) fun _ h=>h.elim⟩,hc.trans ((Chg.alloc wr o).mono (T:=Has own) fun _ _ h=>h.elim) fun _ _ h=>h,hx⟩
theorem each_next {w wr w3:World} {g:Bs→zAP→List (Bs × zAP)→List (Bs × zAP)} {ns:List Bs} {k:Nat} {n:Bs} {D' D2:zAA} {own2:Own} (hr:zDV w d own D g ns k wr) (hn:ns[k]?=some n)
  (hD:(D.each g (ns.take k)).1=D') (h1:zAA.each1 g D' n=(D2,0)) (hd:zBe w3 d D2 own2) (hc:Chg (Has own) w w3) (hx:Ext w own own2):zDV w d own D g ns (k+1) w3:=by
 obtain ⟨D3,_,h3,h4⟩:=each_round hr hn
 rw [hD] at h3
 subst h3
 have h5:=h4 (by rw [h1])
 obtain ⟨m,left,L,hd⟩:=hd
 exact ⟨own2,m,left,L,by rw [h5,h1];exact hd,by rw [h5,h1],hc,hx⟩
theorem each_calls (h:zBe w d D own) (p:Option Addr) (ss:List ByteArray) (c:Nat) (hs:zC2 w p ss) (hm:ss.length≤140737488355328) (hsz:∀ s ∈ ss,s.size≤9223372036854775807) (hpo:∀ a,p=some a→own a.block=none)
  (fv:Value) (g:Bs→zAP→List (Bs × zAP)→List (Bs × zAP)) (hfv:DoesAt fv g d w own) :
  Calls Tryz.prog 146 #[.pointer (some ⟨d,0,none⟩),.slice p ss.length c,fv] w (zCC w d own (D.each g (ss.map nm))):=by
 obtain ⟨m0,left0,L0,h⟩:=h
 have hstart:zDV w d own D g (ss.map nm) 0 w:=⟨own,m0,left0,L0,by simpa [zAA.each] using h,by simp [zAA.each],Chg.refl _ _,zBl _ _⟩
 clear h
 have Hpo:=zh hpo
 have Hsz:=zh hsz
 have Hs:=zh hs
 clear hpo hsz hs
 rcases hfv with ⟨rfl,rfl⟩ | ⟨cb,rfl,rfl,hcb,hco⟩
 ·go_enter Tryz.func146,Tryz.ntmps146
  go_wp2
  go_loopw [15] (fun i wr=>∃ k:Nat,k≤ss.length∧i=.int .i64 k∧zDV w d own D zAA.gSync (ss.map nm) k wr) (fun i _=>ss.length - (intOf i).toNat)
  case atStart=>exact ⟨0,Nat.zero_le _,rfl,hstart⟩
  case round =>
   clear hstart
   obtain ⟨k,hk,rfl,hrel⟩:=hrel
   by_cases hlt:k < ss.length
   ·have hss:ss[k]?=some ss[k]:=List.getElem?_eq_getElem hlt
    have hsk:ss[k].size≤9223372036854775807:=Hsz.out _ (List.getElem_mem hlt)
    have hnk:(ss.map nm)[k]?=some (nm ss[k]):=by simp [hlt]
    have hrel0:=hrel
    obtain ⟨own',m,left,L,hd,h0,hc,hx⟩:=hrel
    generalize hD:(D.each zAA.gSync ((ss.map nm).take k)).1=D' at *
    have hcell:∃ b o,p=some ⟨b,o,none⟩∧wr.cell? ⟨b,o+k,none⟩=some (.string ss[k]):=by
     rcases Hs.out with h | ⟨b,o,rfl,hcs⟩
     ·rw [h] at hlt
      simp at hlt
     ·refine ⟨b,o,rfl,hc.cell (hcs k _ hss) ?_⟩
      intro hh
      exact hh (Hpo.out ⟨b,o,none⟩ rfl)
    obtain ⟨b,o,rfl,hcell⟩:=hcell
    generalize ss[k]=s at *
    have h1:=hd.chg (Chg.alloc wr (.cells #[.string s] 9)) (fun k hk=>hk.elim)
    have hmay:=zBE h1 _ [s] 1 (zA4 wr s) (by simp) (by simpa using hsk)
    simp only [List.map_cons,List.map_nil] at hmay
    have Hrel:=zh hrel0
    have Hnk:=zh hnk
    have HD:=zh hD
    have Hc:=zh hc
    have Hx:=zh hx
    have H0:=zh h0
    clear hrel0 hnk hD hc hx hss h0
    by_cases hmz:D'.may [nm s]=0
    ·rw [hmz] at hmay
     have hc1:=h1.c1
     cases hg:Sat.get (nm s) L with
     | none =>
      have hlook:=zBJ _ zBW Tryz.underlying9 Tryz.underlying113 (zBO _) FRep.fb h1.map hsk hg
      have hfin:=zDh (o:=.cells #[.string s] 9) Hrel.out Hnk.out HD.out (each1_none (g:=zAA.gSync) hmz (by rw [hd.get,hg];rfl)) (by decide)
      have Hfin:=zh hfin
      have Hmay:=zh hmay
      clear hfin hmay h1 hd hg hmz
      go_wp2_with fail
      refine Hmay.out.mono ?_
      rintro e w' ⟨rfl,rfl⟩
      go_wp2_with fail
      go_ret
      exact Hfin.out
     | some r =>
      have hlook:=zBU _ zBW Tryz.underlying9 Tryz.underlying113 (zBO _) FRep.fb h1.map hsk hg
      have hdo:=sync1_calls h1 s hg
      have hnext:=fun w3 own2=>each_next (w3:=w3) (own2:=own2) Hrel.out Hnk.out HD.out (each1_some (g:=zAA.gSync) hmz (by rw [hd.get,hg];rfl))
      have hfu:=(zCR hmz).1
      have Hmay:=zh hmay
      have Hdo:=zh hdo
      have Hnext:=zh hnext
      have Hfu:=zh hfu
      clear hmay h1 hd hg hmz hdo hnext hfu
      go_wp2_with fail
      refine Hmay.out.mono ?_
      rintro e w' ⟨rfl,rfl⟩
      go_wp2_with fail
      refine Hdo.out.mono ?_
      rintro e w2 ⟨own2,rfl,⟨m2,left2,L2,hd2⟩,hc2,hx2⟩
      have hdone:=zCB hd2 Hfu.out
      have hod:Has own2 d:=has_d hd2
      have hcc:=chg_ext Hc.out Hx.out (((Chg.alloc wr _).mono (T:=Has own') fun _ _ h=>h.elim).trans hc2 fun _ _ h=>h)
      have hxx:=ext_trans Hc.out.size Hx.out (fun i hi ho=>hx2 i (by simp;omega) ho)
      have Hdone:=zh hdone
      have Hod:=zh hod
      have Hcc:=zh hcc
      have Hxx:=zh hxx
      clear hdone hod hcc hxx hd2 hc2 hx2
      go_wp2_with fail
      refine Hdone.out.mono ?_
      rintro e w3 ⟨rfl,hd3,hc3⟩
      have hrel3:=Hnext.out _ _ hd3 (chg_ext Hcc.out Hxx.out (hc3.mono fun i _ e=>by rw [e];exact Hod.out)) Hxx.out
      have Hrel3:=zh hrel3
      clear hd3 hc3 hrel3
      go_wp2_with fail
      go_roundw
      case rel=>exact ⟨k+1,by omega,by go_num,Hrel3.out⟩
      case measure=>simp [intOf];omega
    ·have hfin:=zDh (o:=.cells #[.string s] 9) Hrel.out Hnk.out HD.out (each1_bad (g:=zAA.gSync) hmz) hmz
     generalize D'.may [nm s]=e at *
     have hne:((e:Int) != 0)=true:=by simp;exact hmz
     have Hfin:=zh hfin
     have Hmay:=zh hmay
     clear hfin hmay h1 hd hmz
     go_wp2_with fail
     refine Hmay.out.mono ?_
     rintro e w' ⟨rfl,rfl⟩
     go_wp2_with fail
     go_ret
     exact Hfin.out
   ·have hke:k=ss.length:=by omega
    obtain ⟨own',m,left,L,hd,h0,hc,hx⟩:=hrel
    rw [List.take_of_length_le (by simp;omega)] at hd h0
    have Hd:=zh hd
    have H0:=zh h0
    have Hc:=zh hc
    have Hx:=zh hx
    clear hd h0 hc hx hke
    go_wp2_with fail
    go_ret
    exact ⟨own',by rw [H0.out];rfl,⟨m,left,L,Hd.out⟩,Hc.out,Hx.out⟩
 ·have Hcb:=zh hcb
  have Hco:=zh hco
  clear hcb hco
  go_enter Tryz.func146,Tryz.ntmps146
  go_wp2
  go_loopw [15] (fun i wr=>∃ k:Nat,k≤ss.length∧i=.int .i64 k∧zDV w d own D zAA.gRemove (ss.map nm) k wr) (fun i _=>ss.length - (intOf i).toNat)
  case atStart=>exact ⟨0,Nat.zero_le _,rfl,hstart⟩
  case round =>
   clear hstart
   obtain ⟨k,hk,rfl,hrel⟩:=hrel
   by_cases hlt:k < ss.length
   ·have hss:ss[k]?=some ss[k]:=List.getElem?_eq_getElem hlt
    have hsk:ss[k].size≤9223372036854775807:=Hsz.out _ (List.getElem_mem hlt)
    have hnk:(ss.map nm)[k]?=some (nm ss[k]):=by simp [hlt]
    have hrel0:=hrel
    obtain ⟨own',m,left,L,hd,h0,hc,hx⟩:=hrel
    generalize hD:(D.each zAA.gRemove ((ss.map nm).take k)).1=D' at *
    have hcell:∃ b o,p=some ⟨b,o,none⟩∧wr.cell? ⟨b,o+k,none⟩=some (.string ss[k]):=by
     rcases Hs.out with h | ⟨b,o,rfl,hcs⟩
     ·rw [h] at hlt
      simp at hlt
     ·refine ⟨b,o,rfl,hc.cell (hcs k _ hss) ?_⟩
      intro hh
      exact hh (Hpo.out ⟨b,o,none⟩ rfl)
    obtain ⟨b,o,rfl,hcell⟩:=hcell
    generalize ss[k]=s at *
    have h1:=hd.chg (Chg.alloc wr (.cells #[.string s] 9)) (fun k hk=>hk.elim)
    have hmay:=zBE h1 _ [s] 1 (zA4 wr s) (by simp) (by simpa using hsk)
    simp only [List.map_cons,List.map_nil] at hmay
    have hcb1:(wr.alloc (.cells #[.string s] 9)).cell? ⟨cb,0,none⟩=some (.pointer (some ⟨d,0,none⟩)) :=
     (Chg.alloc wr _).cell (hc.cell Hcb.out fun hh=>hh Hco.out) fun h=>h
    have Hrel:=zh hrel0
    have Hnk:=zh hnk
    have HD:=zh hD
    have Hc:=zh hc
    have Hx:=zh hx
    have H0:=zh h0
    clear hrel0 hnk hD hc hx hss h0
    by_cases hmz:D'.may [nm s]=0
    ·rw [hmz] at hmay
     have hc1:=h1.c1
     cases hg:Sat.get (nm s) L with
     | none =>
      have hlook:=zBJ _ zBW Tryz.underlying9 Tryz.underlying113 (zBO _) FRep.fb h1.map hsk hg
      have hfin:=zDh (o:=.cells #[.string s] 9) Hrel.out Hnk.out HD.out (each1_none (g:=zAA.gRemove) hmz (by rw [hd.get,hg];rfl)) (by decide)
      have Hfin:=zh hfin
      have Hmay:=zh hmay
      clear hfin hmay h1 hd hg hmz hcb1
      go_wp2_with fail
      refine Hmay.out.mono ?_
      rintro e w' ⟨rfl,rfl⟩
      go_wp2_with fail
      go_ret
      exact Hfin.out
     | some r =>
      have hlook:=zBU _ zBW Tryz.underlying9 Tryz.underlying113 (zBO _) FRep.fb h1.map hsk hg
      have hdo:=remove1_calls h1 s hsk hg cb hcb1
      have hnext:=fun w3 own2=>each_next (w3:=w3) (own2:=own2) Hrel.out Hnk.out HD.out (each1_some (g:=zAA.gRemove) hmz (by rw [hd.get,hg];rfl))
      have hfu:=(zCR hmz).1
      have Hmay:=zh hmay
      have Hdo:=zh hdo
      have Hnext:=zh hnext
      have Hfu:=zh hfu
      clear hmay h1 hd hg hmz hdo hnext hfu hcb1
      go_wp2_with fail
      refine Hmay.out.mono ?_
      rintro e w' ⟨rfl,rfl⟩
      go_wp2_with fail
      refine Hdo.out.mono ?_
      rintro e w2 ⟨own2,rfl,⟨m2,left2,L2,hd2⟩,hc2,hx2⟩
      have hdone:=zCB hd2 Hfu.out
      have hod:Has own2 d:=has_d hd2
      have hcc:=chg_ext Hc.out Hx.out (((Chg.alloc wr _).mono (T:=Has own') fun _ _ h=>h.elim).trans hc2 fun _ _ h=>h)
      have hxx:=ext_trans Hc.out.size Hx.out (fun i hi ho=>hx2 i (by simp;omega) ho)
      have Hdone:=zh hdone
      have Hod:=zh hod
      have Hcc:=zh hcc
      have Hxx:=zh hxx
      clear hdone hod hcc hxx hd2 hc2 hx2
      go_wp2_with fail
      refine Hdone.out.mono ?_
      rintro e w3 ⟨rfl,hd3,hc3⟩
      have hrel3:=Hnext.out _ _ hd3 (chg_ext Hcc.out Hxx.out (hc3.mono fun i _ e=>by rw [e];exact Hod.out)) Hxx.out
      have Hrel3:=zh hrel3
      clear hd3 hc3 hrel3
      go_wp2_with fail
      go_roundw
      case rel=>exact ⟨k+1,by omega,by go_num,Hrel3.out⟩
      case measure=>simp [intOf];omega
    ·have hfin:=zDh (o:=.cells #[.string s] 9) Hrel.out Hnk.out HD.out (each1_bad (g:=zAA.gRemove) hmz) hmz
     generalize D'.may [nm s]=e at *
     have hne:((e:Int) != 0)=true:=by simp;exact hmz
     have Hfin:=zh hfin
     have Hmay:=zh hmay
     clear hfin hmay h1 hd hmz hcb1
     go_wp2_with fail
     refine Hmay.out.mono ?_
     rintro e w' ⟨rfl,rfl⟩
     go_wp2_with fail
     go_ret
     exact Hfin.out
   ·have hke:k=ss.length:=by omega
    obtain ⟨own',m,left,L,hd,h0,hc,hx⟩:=hrel
    rw [List.take_of_length_le (by simp;omega)] at hd h0
    have Hd:=zh hd
    have H0:=zh h0
    have Hc:=zh hc
    have Hx:=zh hx
    clear hd h0 hc hx hke
    go_wp2_with fail
    go_ret
    exact ⟨own',by rw [H0.out];rfl,⟨m,left,L,Hd.out⟩,Hc.out,Hx.out⟩
theorem sync_calls (h:zBe w d D own) (p:Option Addr) (ss:List ByteArray) (c:Nat) (hs:zC2 w p ss) (hm:ss.length≤140737488355328) (hsz:∀ s ∈ ss,s.size≤9223372036854775807) (hpo:∀ a,p=some a→own a.block=none) :
  Calls Tryz.prog 130 #[.pointer (some ⟨d,0,none⟩),.slice p ss.length c] w (zCC w d own (D.sync (ss.map nm))):=by
 have he:=each_calls h p ss c hs hm hsz hpo (.func (.func 182) #[] #[]) zAA.gSync (.inl ⟨rfl,rfl⟩)
 have He:=zh he
 clear he h hs hm hsz hpo
 go_enter Tryz.func130,Tryz.ntmps130
 go_wp2_with fail
 refine He.out.mono ?_
 rintro e w' ⟨own',rfl,hd,hc,hx⟩
 have Hf:=zh (And.intro hd (And.intro hc hx))
 clear hd hc hx
 go_wp2_with fail
 go_ret
 exact ⟨own',rfl,Hf.out⟩
theorem remove_calls (h:zBe w d D own) (p:Option Addr) (ss:List ByteArray) (c:Nat) (hs:zC2 w p ss) (hm:ss.length≤140737488355328) (hsz:∀ s ∈ ss,s.size≤9223372036854775807) (hpo:∀ a,p=some a→own a.block=none) :
  Calls Tryz.prog 76 #[.pointer (some ⟨d,0,none⟩),.slice p ss.length c] w (zCC w d own (D.remove (ss.map nm))):=by
 have hnone:own w.heap.size=none:=by
  obtain ⟨m,left,L,h⟩:=h
  cases ho:own w.heap.size with
  | none=>rfl
  | some t=>have:=h.olt _ t ho;omega
 have h1:=h.chg (Chg.alloc w (.cells #[.pointer (some ⟨d,0,none⟩)] 23)) (fun _ h=>h.elim)
 have hs1:zC2 (w.alloc (.cells #[.pointer (some ⟨d,0,none⟩)] 23)) p ss:=by
  rcases hs with h | ⟨b,o,rfl,hc⟩
  ·exact .inl h
  ·exact .inr ⟨b,o,rfl,fun i s hi=>(Chg.alloc w _).cell (hc i s hi) fun h=>h⟩
 have he:=each_calls h1 p ss c hs1 hm hsz hpo (.func (.func 147) #[] #[.pointer (some ⟨w.heap.size,0,none⟩)]) zAA.gRemove (.inr ⟨_,rfl,rfl,zAC (zAW w _) rfl,hnone⟩)
 have He:=zh he
 clear he h hs hm hsz hpo h1 hs1 hnone
 go_enter Tryz.func76,Tryz.ntmps76
 go_wp2_with fail
 refine He.out.mono ?_
 rintro e w' ⟨own',rfl,hd,hc,hx⟩
 have hc':Chg (Has own) w w':=((Chg.alloc w _).mono (T:=Has own) fun _ _ h=>h.elim).trans hc fun _ _ h=>h
 have hx':Ext w own own':=fun k hk ho=>hx k (by simp;omega) ho
 have Hf:=zh (And.intro hd (And.intro hc' hx'))
 clear hd hc hx hc' hx'
 go_wp2_with fail
 go_ret
 exact ⟨own',rfl,Hf.out⟩
end
end Go.Proofs.YtapfnehdgailmaaGreat
