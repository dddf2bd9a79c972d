/- What the program's functions and the document's do, and plain laws, for PJournalPlays. -/
import Derived.Laws.BitsAllLaws
import Derived.Lib.SlBytesConst
import Derived.Test.YtapfnehdgailmaaGreatJB
import Derived.Test.YtapfnehdgailmaaGreatJC
open Go.Proofs.Tryz
set_option maxRecDepth 100000
set_option maxHeartbeats 64000000
namespace Go.Sat
open Go.RowKit
theorem run_cut {P:Program}(w:World){t e:TypeId}{i:TypeInfo}(l:P.underlying t=some (.slice e))(j:P.info? e=some i)(a:Option Addr)(c b k:Nat)(h:k≤b) :
  (Instr.slice t (.slice a c b) none (some (.int .i64 (k:Int))) (some (.int .i64 (k:Int)))).run P w=.ok (.slice a k k) w:=by
 have f:(Instr.sliceBound (.int .i64 (k:Int)) b .slice3Acap).run P w=.ok k w:=by
  rw[run_sliceBound _ _ _ _ _ (by omega) (by omega)];simp
 have g:(Instr.sliceBound (.int .i64 (k:Int)) k .slice3B).run P w=.ok k w:=by
  rw[run_sliceBound _ _ _ _ _ (by omega) (by omega)];simp
 have d:(if k=0 then a else a.map fun x=>x.add (0*i.size))=a:=by
  split
  ·rfl
  ·cases a<;>simp[Addr.add]
 simp only[Nat.zero_mul]at d;simp[Instr.slice,run_underlying l,Instr.sliceBounds,f,g,sizeOf,typeInfo,j,Result.andThen,d]
theorem OwnR.cut {w:World}{e:TypeId}{p:Option Addr}{n c:Nat}{xs:List Value}(h:OwnR w e 1 (.slice p n c) n xs){k:Nat}(l:k≤n):OwnR w e 1 (.slice p k k) k (xs.take k):=by
 obtain⟨r,h⟩:=h;refine⟨by rw[List.length_take];omega,?_⟩;rcases h with⟨b,q⟩|⟨g,d,cur,b,j,m,f,i,o⟩
 ·cases b;have:k=0:=by omega
  subst this;exact .inl ⟨rfl,rfl⟩
 ·cases b;refine .inr ⟨g,k,cur,rfl,j,Nat.le_refl _,by omega,by omega,?_⟩;rw[←o,List.take_take,Nat.mul_one,Nat.mul_one,Nat.min_eq_left l]
theorem OwnR.cap_le {w:World}{e:TypeId}{p:Option Addr}{n c:Nat}{xs:List Value}(h:OwnR w e 1 (.slice p n c) n xs):n≤c∧c≤maxLen:=by
 rcases h.2 with⟨b,k⟩|⟨g,i,cur,b,l,f,d,j,m⟩
 ·cases b;exact⟨Nat.le_refl _,Nat.zero_le _⟩
 ·cases b;exact⟨f,d⟩
theorem grown_set (w:World)(a:Addr)(u:Value):w.grownBy (w.setCell a u) (some a.block) :=
 ⟨rfl,rfl,rfl,by simp[World.setCell],fun k _ b=>Below.heap_setCell _ _ _ _ fun e=>b (by rw[e])⟩
end Go.Sat
namespace Go.Proofs.YtapfnehdgailmaaGreat
open Go.RowKit Go.Sat Go.Maps
section
variable {w:World} {d m:Nat} {left:Int} {L:List (Bs×zB4)} {own:Own} {D:zAA}
theorem data_le (h:zAc w d m left L own D){n:Bs}{r:zB4}(b:Sat.get n L=some r):r.f.data.length≤1073741824:=by
 have:=h.ok.used;have:=h.ok.room;have:r.f.data.length≤D.used:=by rw[h.used];exact le_sum (f:=fun r:zB4=>r.f.data.length) h.srt b
 omega
/-! ### Read -/
def zCj (o:Option zAW):Bs:=(o.map zAW.data).getD []
def zDZ (o:Option zAW):Int:=if o.isSome then 0 else 7
def ReadPost (w:World)(o:Option zAW)(e:Ending)(w':World):Prop :=
 ∃v,e=.returned (.tuple #[v,.int .i64 (zDZ o)])∧zAi w' 5 v (zCj o)∧(∀k,v.ownBlock=some k→w.heap.size≤k)∧Below w.heap.size w w'
theorem read_calls (h:zCP w d D own)(s:ByteArray)(n:s.size≤9223372036854775807) :
  Calls prog 75 #[.pointer (some ⟨d,0,none⟩),.string s] w (ReadPost w (Sat.get (nm s) D.files)):=by
 obtain⟨m,left,L,h⟩:=h;have t:=h.c1;rw[h.get];cases c:Sat.get (nm s) L with
 | none =>
  have b:=zBj w zB5 underlying9 underlying113 (zBr w) zB4.fb h.map n c;clear h c
  go_enter func75,ntmps75
  go_wp2
  go_ret2
  exact⟨_,rfl,OwnR.nil _ _ _,fun k y=>(by cases y),Below.refl _ _⟩
 | some r =>
  have b:=zB2 w zB5 underlying9 underlying113 (zBr w) zB4.fb h.map n c;have j:=h.fileAt c;have z:=zAG (i:=0) j.cells rfl;have f:=zBv j.row.has (by have:=data_le h c;omega);have g:=zh f;clear h c j f
  go_enter func75,ntmps75
  go_wp2_with fail;refine g.o.mono ?_;rintro e w' ⟨v,rfl,p,hn,l⟩;have q:=zh (And.intro p (And.intro hn l));clear p hn l;go_wp2_with fail
  go_ret2
  exact⟨_,rfl,q.o⟩
/-! ### Fuse -/
theorem ok_fuse {D:zAA}(h:D.OK)(n:Int)(hn:n≤9223372036854775807):(D.setFuse n).OK where
 srt:=h.srt
 room:=h.room
 used:=h.used
 count:=h.count
 names:=h.names
 lasts:=h.lasts
 fuse k b:=by
  simp only[zAA.setFuse]at b
  split at b
  ·cases b
  ·cases b;omega
theorem setTop (h:zAc w d m left L own D){w':World}{b:Int}{D':zAA}(B:w.heap.size≤w'.heap.size)(r:∀k,k≠d→w'.heap[k]?=w.heap[k]?)(n:D'.room=D.room)(i:D'.files=D.files)
  (s:w'.heap[d]?=some (.cells #[.int .i64 (D'.room:Int),.map (some m),.bool D'.fuse.isSome,.int .i64 b] 115 (0,0))) (z:∀k,D'.fuse=some k→b=(k:Int)) (o:D'.OK):zAc w' d m b L own D':=by
 have f:∀k t,own k=some t→t≠(0,[])→w'.heap[k]?=w.heap[k]?:=fun k t q C=>r k fun e=>by
  rw[e,h.od]at q;exact C (Option.some.inj q).symm
 refine⟨s,z,?_,by rw[i];exact h.files,h.srt,fun p A=>?_,h.od,h.om,fun j t y=>Nat.lt_of_lt_of_le (h.olt j t y) B,o⟩
 ·obtain⟨es,l,a,rest⟩:=h.map;exact⟨es,l,(f m _ h.om (by simp)).trans a,rest⟩
 ·have c:=h.file p A;exact⟨(f _ _ c.ob (by simp)).trans c.cells,c.ob,c.row.keep fun g v=>f _ _ (c.og g v) (by simp),c.og⟩
theorem fuse_calls (h:zCP w d D own)(n:Int)(hn:n≤9223372036854775807)(z:-9223372036854775808≤n) :
  Calls prog 40 #[.pointer (some ⟨d,0,none⟩),.int .i64 n] w (Did w d own (D.setFuse n)):=by
 obtain⟨m,left,L,h⟩:=h;have q:=h.c2;have r:=h.c3;have t:=zAE h.cells 2;have v:=zAE h.cells 3;have f:∀(b:Bool) (l:Int),b=(D.setFuse n).fuse.isSome→(∀k,(D.setFuse n).fuse=some k→l=(k:Int))→Did w d own (D.setFuse n) (.returned (.tuple #[])) ((w.setCell ⟨d,2,none⟩ (.bool b)).setCell ⟨d,3,none⟩ (.int .i64 l)):=by
  intro b l p y;refine⟨own,rfl,⟨m,l,L,setTop h (by simp[World.setCell]) (fun k g=>(set_other _ g).trans (set_other _ g)) rfl rfl ?_ y (ok_fuse h.ok n hn)⟩,?_,zCY _ _⟩
  ·rw[zAC (zAC h.cells 2 _) 3,←p];simp[zAA.setFuse]
  ·exact((Chg.setCell w ⟨d,2,none⟩ _).trans (Chg.setCell _ ⟨d,3,none⟩ _) fun _ _ e=>e).mono fun k _ e=>by rw[e];exact has_d h
 have c:=zh f;clear f h
 by_cases j:0≤n
 ·have s:decide (0≤n)=true:=by simpa using j
  go_enter func40,ntmps40
  go_wp2
  go_end0
  refine c.o _ _ ?_ ?_
  ·simp[zAA.setFuse];omega
  ·intro k g;simp only[zAA.setFuse,if_neg (show ¬n<0 by omega),Option.some.injEq]at g;omega
 ·have s:decide (0≤n)=false:=by simpa using j
  have i:n<0:=by omega
  go_enter func40,ntmps40
  go_wp2
  go_end0
  refine c.o _ _ ?_ ?_
  ·simp[zAA.setFuse,i]
  ·intro k g;simp only[zAA.setFuse,if_pos i]at g;cases g
/-! ### Crash -/
def part (rest:Lit→Bool)(k:Int)(b:List (Bs×zAW)):List (Bs×zAW):=b.map fun p=>(p.1,if rest (.string p.1)then p.2 else zAA.crashF k p.2)
theorem zGC {rest:Lit→Bool}{k:Int}{b:List (Bs×zAW)}(h:Srt b):Srt (part rest k b):=by
 unfold Srt part;rw[List.pairwise_map];exact h
theorem part_get (rest:Lit→Bool)(k:Int)(n:Bs)(b:List (Bs×zAW)):Sat.get n (part rest k b)=(Sat.get n b).map fun f=>if rest (.string n)then f else zAA.crashF k f:=by
 unfold part Sat.get;rw[List.find?_map];cases g:List.find? ((fun p:Bs×zAW=>p.1==n) ∘ fun p:Bs×zAW=>(p.1,if rest (.string p.1)then p.2 else zAA.crashF k p.2)) b with
 | none =>
  have:List.find? (fun p:Bs×zAW=>p.1==n) b=none:=g;rw[this];rfl
 | some p =>
  have c:List.find? (fun p:Bs×zAW=>p.1==n) b=some p:=g;have d:=List.find?_some c;simp only[beq_iff_eq]at d;rw[c];simp[d]
theorem part_step {rest:Lit→Bool}{k:Int}{b:List (Bs×zAW)}(h:Srt b){n:Bs}{f:zAW}(d:Sat.get n b=some f) :
  put n (zAA.crashF k f) (part rest k b)=part (fun z=>rest z&& !z.sameKey (.string n)) k b:=by
 refine srt_ext (zCO (zGC h)) (zGC h) fun j=>?_
 by_cases c:j=n
 ·subst c;rw[zCQ (zGC h),part_get,d,sk];simp
 ·rw[zDE (zGC h) _ c,part_get,part_get];have:(Lit.string j).sameKey (.string n)=false:=by rw[sk];simpa using c
  rw[this];simp
theorem part_all {rest:Lit→Bool}{k:Int}{b:List (Bs×zAW)}(h:∀p∈b,rest (.string p.1)=true):part rest k b=b:=by
 unfold part
 conv=>rhs;rw[←List.map_id b]
 refine List.map_congr_left fun p c=>?_;rw[h p c];rfl
theorem part_none {rest:Lit→Bool}{k:Int}{b:List (Bs×zAW)}(h:∀z,rest z=false):part rest k b=mp (zAA.crashF k) b:=by
 unfold part mp;refine List.map_congr_left fun p _=>?_;rw[h];rfl
theorem stays_le (f:zAW)(k:Int)(h:f.lasts≤f.data.length):f.lasts≤zAA.stays f k∧zAA.stays f k≤f.data.length:=by
 unfold zAA.stays;have:=Nat.mod_lt (max 0 k).toNat (show 0<f.data.length-f.lasts+1 by omega);omega
theorem ok_part {D:zAA}(h:D.OK)(rest:Lit→Bool)(k:Int):zAA.OK {D with files:=part rest k D.files} where
 srt:=zGC h.srt
 room:=h.room
 used:=by
  refine Nat.le_trans ?_ h.used
  show zBZ zAA.size (part rest k D.files)≤zBZ zAA.size D.files
  have d:=h.lasts;generalize D.files=f at d
  induction f with
  | nil=>exact Nat.le_refl _
  | cons p r ih =>
   have c:=ih fun q b=>d q (by simp[b]);have g:=d p (by simp);simp only[part,List.map_cons,zBZ,List.sum_cons]at c ⊢;have i:zAA.size (if rest (.string p.1)then p.2 else zAA.crashF k p.2)≤zAA.size p.2:=by
    split
    ·exact Nat.le_refl _
    ·simp only[zAA.size,zAA.crashF,List.length_take];omega
   omega
 count:=by
  show(part rest k D.files).length≤4096
  simp only[part,List.length_map];exact h.count
 names p hp:=by
  obtain⟨q,b,rfl⟩:=List.mem_map.1 hp;exact h.names q b
 lasts p hp:=by
  obtain⟨q,b,rfl⟩:=List.mem_map.1 hp;have c:=h.lasts q b
  show zAW.lasts (if rest (.string q.1)then q.2 else zAA.crashF k q.2)≤(if rest (.string q.1)then q.2 else zAA.crashF k q.2).data.length
  split
  ·exact c
  ·have:=stays_le q.2 k c;simp only[zAA.crashF,List.length_take];omega
 fuse:=h.fuse
theorem ok_crash {D:zAA}(h:D.OK)(k:Int):(D.crash k).OK:=by
 have:=ok_part h (fun _=>false) k;rw[part_none fun _=>rfl]at this;exact⟨this.srt,this.room,this.used,this.count,this.names,this.lasts,fun j b=>by simp[zAA.crash]at b⟩
theorem own_none (h:zAc w d m left L own D){k:Nat}(c:w.heap.size≤k):own k=none:=by
 cases b:own k with
 | none=>rfl
 | some t=>have:=h.olt _ t b;omega
structure CrashRel (w:World)(d m:Nat)(left:Int)(L:List (Bs×zB4))(own:Own)(D:zAA)(k:Int)(wr:World):Prop where
 ex:∃rest cnt L' own',wr.ranges prog 9 ptrR m w.heap.size L.length (dm fbD L) rest cnt∧zAc wr d m left L' own' {D with files:=part rest k D.files}∧mp zB4.fb L'=mp zB4.fb L∧Chg (Has own) w wr∧Ext w own own'∧own' w.heap.size=none
theorem crash_walk (h:zAc w d m left L own D)(k:Int)(hk:-9223372036854775808≤k)(aE:k≤9223372036854775807) :
  Calls prog 28 #[.pointer (some ⟨d,0,none⟩),.int .i64 k] w (Did w d own (D.crash k)):=by
 have h1:=h.c1;have y:=h.map;have O:=h.srt;have t:=h.ok;have hL:Hid (zAc w d m left L own D):=h;clear h
 go_enter func28,ntmps28
 go_wp2_with (first|(at_range;refine wpList_range_own _ rfl _ 113 rfl 9 121 zB5 underlying113 ptrR m L.length (dm fbD L) rfl y ?_;intro w0 ac ae aw))
 go_frame
 go_loopw [5] (fun _ wr=>CrashRel w d m left L own D k wr) (fun _ wr=>wr.rangeLeft m w.heap.size)
 case atStart =>
  refine⟨_,_,L,own,ac,?_,rfl,(Chg.of_grown ae).mono (fun _ _ e=>by cases e),zCY _ _,own_none hL.o (Nat.le_refl _)⟩;have G:=hL.o.chg (Chg.of_grown ae) (fun _ e=>by cases e);have Q:part (Maps.has (dm fbD L)) k D.files=D.files:=part_all fun p hp=>by
   rw[hL.o.files]at hp;obtain⟨q,hq,rfl⟩:=List.mem_map.1 hp
   show Maps.has (dm fbD L) (.string q.1)=true
   rw[dm_has,zCk O hq];rfl
  rw[Q];exact G
 case round =>
  obtain⟨rest,ay,L',own',V,G,T,hc,hx,F⟩:=hrel.ex;clear ac ae aw y hrel;go_wp2_with (first|(at_next;refine zFA _ rfl _ rfl 9 underlying9 zB5 zB4.fb L m w.heap.size L.length _ _ rfl V ?_ ?_))
  ·intro hl;rw[part_none hl]at G;have aB:=G.c2;have aD:=zAE G.cells 2;have Z:Did w d own (D.crash k) (.returned (.tuple #[])) (wr.setCell ⟨d,2,none⟩ (.bool false)):=by
    refine⟨own',rfl,⟨m,left,L',setTop G (D':=D.crash k) (by simp[World.setCell]) (fun _ hk=>set_other _ hk) rfl rfl ?_ (fun j hj=>by simp[zAA.crash]at hj) (ok_crash t k)⟩,?_,hx⟩
    ·rw[zAC G.cells];simp[zAA.crash]
    ·exact chg_ext hc hx ((Chg.setCell wr ⟨d,2,none⟩ _).mono fun _ _ e=>by rw[e];exact has_d G)
   have aj:=zh Z;clear Z G hc hx T hl V t O F
   go_wp2
   go_end0
   exact aj.o
  ·intro s x w1 ak af hl hs N an U ax aC
   -- the file as it lies now
   have ab:∀j,some j=some w.heap.size→own' j=none:=fun j e=>by
    cases e;exact F
   have S:=G.chg (Chg.of_grown U) ab;obtain⟨r,A,a⟩:∃r,Sat.get (nm s) L'=some r∧r.fb=x.fb:=by
    have Q:(Sat.get (nm s) L').map zB4.fb=some x.fb:=by
     rw[←mp_get,T,mp_get,show Sat.get (nm s) L=some x from af];rfl
    exact Option.map_eq_some_iff.1 Q
   have J:Sat.get (nm s) D.files=some x.f:=by rw[hL.o.files,mp_get,show Sat.get (nm s) L=some x from af];rfl
   have M:r.f=x.f:=by
    have Q:(Sat.get (nm s) L').map zB4.f=some x.f:=by
     rw[←mp_get,←G.files,part_get,J];simp only[Option.map_some,show rest (.string (nm s))=true from hl,if_true]
    rw[A]at Q;exact Option.some.inj Q
   have I:=S.fileAt A;have b:=I.cells;rw[M,a]at b;obtain⟨p,c,hv⟩:=zAi.slice I.row;have al:=OwnR.cap_le (by have:=I.row;unfold zAi at this;rw[hv]at this;exact this);rw[M]at hv al;have ag:x.f.lasts≤x.f.data.length:=t.lasts _ (zBn J);have am:=data_le S A;rw[M]at am;have ai:=stays_le x.f k ag;rw[hv]at b;have az:=zAG (i:=0) b rfl;have aA:=zAG (i:=1) b rfl;have aG:=zAE b 0;have aH:=zAE b 1;have C:zAA.stays x.f k=x.f.lasts+(max 0 k).toNat%(x.f.data.length-x.f.lasts+1):=rfl;have Y:∀nq,CrashRel w d m left L own D k (((w1.drewN nq).setCell ⟨x.fb,0,none⟩ (.slice p (zAA.stays x.f k) (zAA.stays x.f k))).setCell ⟨x.fb,1,none⟩ (.int .i64 ((zAA.stays x.f k:Nat):Int))) ∧
     (((w1.drewN nq).setCell ⟨x.fb,0,none⟩ (.slice p (zAA.stays x.f k) (zAA.stays x.f k))).setCell ⟨x.fb,1,none⟩ (.int .i64 ((zAA.stays x.f k:Nat):Int))).rangeLeft m w.heap.size<wr.rangeLeft m w.heap.size:=by
    intro nq;have B:zAc (w1.drewN nq) d m left L' own' {D with files:=part rest k D.files}:=S.keep (Nat.le_refl _) fun _ _=>rfl;have H:(w1.drewN nq).heap[x.fb]?=some (.cells #[.slice p x.f.data.length c,.int .i64 (x.f.lasts:Int)] 123 (0,0)):=b;have aq:OwnR (w1.drewN nq) 5 1 (.slice p x.f.data.length c) x.f.data.length (zAR x.f.data):=by
     have:=(B.fileAt A).row;rw[M,hv]at this;exact this
    have y:own' x.fb=some (2,nm s):=by
     have:=I.ob;rw[a]at this;exact this
    have ao:∀g,(Value.slice p (zAA.stays x.f k) (zAA.stays x.f k)).ownBlock=some g→g≠x.fb:=fun g E=>by
     have Q:r.v.ownBlock=some g:=by rw[hv,zB9 p _ _ (zAA.stays x.f k) (zAA.stays x.f k)];exact E
     exact B.ne_of ((B.fileAt A).og g Q) y (by simp)
    have ah:(x.f.data.take (zAA.stays x.f k)).length=zAA.stays x.f k:=by rw[List.length_take];omega
    have aa:m≠x.fb:=B.ne_of B.om y (by simp);have K:w.heap.size≠x.fb:=fun e=>by rw[e,y]at F;cases F
    obtain⟨P,h4,ar⟩:=B.upd (w':=((w1.drewN nq).setCell ⟨x.fb,0,none⟩ (.slice p (zAA.stays x.f k) (zAA.stays x.f k))).setCell ⟨x.fb,1,none⟩ (.int .i64 ((zAA.stays x.f k:Nat):Int)))
     (v':=.slice p (zAA.stays x.f k) (zAA.stays x.f k)) (f':=zAA.crashF k x.f) A (by simp[World.setCell]) (fun j _ hj _=>by rw[a]at hj;exact(set_other _ hj).trans (set_other _ hj))
     (by rw[a,zAC (zAC H 0 _) 1];simp[zAA.crashF])
     (by
      unfold zAi
      show OwnR _ _ _ _ (x.f.data.take (zAA.stays x.f k)).length _
      rw[ah]
      show OwnR _ _ _ _ _ (zAR (x.f.data.take (zAA.stays x.f k)))
      rw[zFd];exact OwnR.keep (aq.cut ai.2) fun g E=>(set_other _ (ao g E)).trans (set_other _ (ao g E)))
     (fun g E=>.inl (by rw[hv,zB9 p _ _ (zAA.stays x.f k) (zAA.stays x.f k)];exact E))
     (by
      show zAA.OK {D with files:=put (nm s) (zAA.crashF k x.f) (part rest k D.files) }
      rw[part_step t.srt J];exact ok_part t _ k)
    have h5:zAc (((w1.drewN nq).setCell ⟨x.fb,0,none⟩ (.slice p (zAA.stays x.f k) (zAA.stays x.f k))).setCell ⟨x.fb,1,none⟩ (.int .i64 ((zAA.stays x.f k:Nat):Int))) d m left (put (nm s) ⟨r.fb,.slice p (zAA.stays x.f k) (zAA.stays x.f k),zAA.crashF k x.f⟩ L') P
      {D with files:=part (fun z=>rest z&& !z.sameKey (.string (nm s))) k D.files}:=by
     rw[←part_step t.srt J];exact h4
    have g1:=grown_set (w1.drewN nq) ⟨x.fb,0,none⟩ (.slice p (zAA.stays x.f k) (zAA.stays x.f k));have g2:=grown_set ((w1.drewN nq).setCell ⟨x.fb,0,none⟩ (.slice p (zAA.stays x.f k) (zAA.stays x.f k))) ⟨x.fb,1,none⟩ (.int .i64 ((zAA.stays x.f k:Nat):Int));have ap:(w1.drewN nq).ranges prog 9 ptrR m w.heap.size L.length (dm fbD L) (fun z=>rest z&& !z.sameKey (.string s.data.toList)) ak:=N;have ad:=(ap.kept g1 (by simpa using aa) (by simpa using K)).kept g2 (by simpa using aa) (by simpa using K);refine⟨⟨_,_,_,P,ad,h5,?_,?_,?_,?_⟩,?_⟩
    ·rw[mp_put,put_same (mp_srt B.srt) (by rw[mp_get,A];rfl),T]
    ·have c1:Chg (fun j=>j=x.fb∨j=w.heap.size) wr w1:=(Chg.of_grown U).mono fun j _ e=>.inr (by cases e;rfl);have c2:Chg (fun j=>j=x.fb∨j=w.heap.size) wr (w1.drewN nq):=⟨c1.os,c1.tape,c1.output,c1.size,c1.block⟩;have c3:=(c2.trans (Chg.of_grown g1) fun j _ e=>.inl (by cases e;rfl)).trans (Chg.of_grown g2) fun j _ e=>.inl (by cases e;rfl);refine hc.trans c3 fun i hi e=>?_;rcases e with e|e
     ·intro ho;have:=hx i hi ho;rw[e,y]at this;cases this
     ·omega
    ·exact ext_trans (Nat.le_trans hc.size U.size) hx ar
    ·exact ar _ (by have:=N.lt;exact this) F
    ·rw[ad.left_eq,V.left_eq];exact an
   have X:=zh Y;have av:=zh ai;have R:=zh C;clear Y G S A a J M hv b hc hx F U N an V T I af hl hs ax ai C O t ab;generalize x.f.data.length=n at *;generalize x.f.lasts=l at *;have e6:wrap64 ((l:Int)+max 0 k%((n:Int)-(l:Int)+1))=((zAA.stays x.f k:Nat):Int):=by
    rw[R.o];have Q:((n:Int)-(l:Int)+1)=((n-l+1:Nat):Int):=by omega
    have e2:max 0 k=(((max 0 k).toNat:Nat):Int):=by omega
    have e3:max 0 k%((n:Int)-(l:Int)+1)=(((max 0 k).toNat%(n-l+1):Nat):Int):=by rw[Q,Int.natCast_emod,←e2]
    have h5:=Nat.mod_lt (max 0 k).toNat (show 0<n-l+1 by omega);rw[e3,IntWalk.wrap64_in _ ⟨by omega,by omega⟩];omega
   have aF:∀W,(Instr.slice 22 (.slice p n c) none (some (.int .i64 ((zAA.stays x.f k:Nat):Int))) (some (.int .i64 ((zAA.stays x.f k:Nat):Int)))).run prog W=.ok (.slice p (zAA.stays x.f k) (zAA.stays x.f k)) W:=fun W=>by
    obtain⟨i0,hi,_⟩:=info_parts (show(prog.info? 5).map (fun i=>(i.zero,i.size,i.bytes))=some (some (.int .u8 0),1,1) by kernel_rfl);exact run_cut W underlying22 hi p n c _ (by have:=av.o;omega)
   have au:=zh e6;clear e6;generalize zAA.stays x.f k=st at *;go_wp2_with fail
   go_quiet (fail)
   rw[au.o];go_wp2_with fail;go_roundw
   case rel=>exact(X.o nq).1
   case measure=>exact(X.o nq).2
end
def St (w w1:World)(d:Nat)(D:zAA)(F:Nat→Prop):Prop :=
 ∃own,zCP w1 d D own∧Below w.heap.size w w1∧(∀k,k<w.heap.size∨F k→own k=none)∧∀k,F k→k<w1.heap.size
def NoF:Nat→Prop:=fun _=>False
theorem St.below {w w1:World}{d:Nat}{D:zAA}{F:Nat→Prop}(h:St w w1 d D F):Below w.heap.size w w1:=let ⟨_,_,h,_⟩:=h;h
theorem St.ok {w w1:World}{d:Nat}{D:zAA}{F:Nat→Prop}(h:St w w1 d D F):D.OK:=let ⟨_,⟨_,_,_,h⟩,_⟩:=h;h.ok
theorem St.move {w w1 w2:World}{d:Nat}{D:zAA}{F F' S:Nat→Prop}(h:St w w1 d D F)(n:Chg S w1 w2)(hS:∀k,k<w1.heap.size→S k→F k∧w.heap.size≤k)(hF:∀k,F' k→(F k∨w1.heap.size≤k)∧k<w2.heap.size):St w w2 d D F':=by
 obtain⟨own,j,f,hn,p⟩:=h;have l:∀k,w1.heap.size≤k→own k=none:=fun k b=>by
  obtain⟨m,left,L,j⟩:=j;exact own_none j b
 refine⟨own,j.chg (n.mono (T:=fun k=>S k∧k<w1.heap.size) fun k b c=>⟨c,b⟩) (fun k c=>hn k (.inr (hS k c.2 c.1).1)),?_,fun k b=>?_,fun k b=>(hF k b).2⟩
 ·exact((Chg.of_below f).trans n fun i o c=>by
   have g:=(hS i (Nat.lt_of_lt_of_le o f.size) c).2;omega).below (Nat.le_refl _) fun _ _=>id
 ·rcases b with b|b
  ·exact hn k (.inl b)
  ·rcases(hF k b).1 with g|g
   ·exact hn k (.inr g)
   ·exact l k g
theorem St.next {w w1 w2:World}{d:Nat}{D:zAA}{F:Nat→Prop}(h:St w w1 d D F)(b:Below w1.heap.size w1 w2):St w w2 d D F :=
 h.move (Chg.of_below b) (fun _ _ h=>h.elim) fun k c=>⟨.inl c,by obtain⟨_,_,_,_,f⟩:=h;exact Nat.lt_of_lt_of_le (f k c) b.size⟩
theorem St.alloc {w w1:World}{d:Nat}{D:zAA}{F:Nat→Prop}(h:St w w1 d D F)(o:Obj):St w (w1.alloc o) d D F:=h.next ((Below.refl _ _).alloc (Nat.le_refl _) o)
theorem St.drewN {w w1:World}{d:Nat}{D:zAA}{F:Nat→Prop}(h:St w w1 d D F)(n:Nat):St w (w1.drewN n) d D F:=h.next ⟨rfl,rfl,rfl,Nat.le_refl _,fun _ _=>rfl⟩
theorem St.noF {w w1:World}{d:Nat}{D:zAA}{F:Nat→Prop}(h:St w w1 d D F):St w w1 d D NoF:=h.move (S:=fun _=>False) (Chg.refl _ _) (fun _ _ h=>h.elim) fun _ h=>h.elim
def Same (F:Nat→Prop)(w1 w2:World):Prop:=∀k,F k→w2.heap[k]?=w1.heap[k]?
theorem St.step {w w1 w2:World}{d:Nat}{own own':Own}{D':zAA}{F:Nat→Prop}(l:Below w.heap.size w w1)(hn:∀k,k<w.heap.size∨F k→own k=none)(j:∀k,F k→k<w1.heap.size)(n:zCP w2 d D' own')(f:Chg (Has own) w1 w2)(m:Ext w1 own own') :
  St w w2 d D' F∧Same F w1 w2:=by
 refine⟨⟨own',n,((Chg.of_below l).trans f fun i o g=>(g (hn i (.inl o))).elim).below (Nat.le_refl _) fun _ _=>id,fun k b=>?_,fun k b=>Nat.lt_of_lt_of_le (j k b) f.size⟩,fun k b=>f.block k (j k b) fun g=>g (hn k (.inr b))⟩;rcases b with c|c
 ·exact m k (Nat.lt_of_lt_of_le c l.size) (hn k (.inl c))
 ·exact m k (j k c) (hn k (.inr c))
theorem zAb.old {w w1:World}{v:Value}{l:Bs}(h:zAb w v l)(b:Below w.heap.size w w1):zAb w1 v l:=h.below b
def Told (w:World)(d:Nat)(F:Nat→Prop)(w1:World)(r:zAA×Nat)(e:Ending)(w':World):Prop:=e=.returned (.int .i64 (r.2:Int))∧St w w' d r.1 F∧Same F w1 w'
def Told0 (w:World)(d:Nat)(F:Nat→Prop)(w1:World)(D:zAA)(e:Ending)(w':World):Prop:=e=.returned (.tuple #[])∧St w w' d D F∧Same F w1 w'
section
variable {w w1:World} {d:Nat} {D:zAA} {F:Nat→Prop}
theorem st_new (n:Int)(f:0≤n)(g:n≤1073741824)(c:Below w.heap.size w w1) :
  Calls prog 13 #[.int .i64 n] w1 fun e w'=>∃d,e=.returned (.tuple #[.pointer (some ⟨d,0,none⟩),.int .i64 0])∧St w w' d (zAA.fresh n.toNat) NoF:=by
 refine(new_calls n w1 f g).mono ?_;rintro e w' ⟨d,own,rfl,j,i,hn⟩;exact⟨d,rfl,own,j,((Chg.of_below c).trans i fun _ _ h=>h).below (Nat.le_refl _) fun _ _=>id,fun k b=>by
  rcases b with b|b
  ·exact hn k (Nat.lt_of_lt_of_le b c.size)
  ·exact b.elim,fun _ h=>h.elim⟩
theorem st_append (h:St w w1 d D F)(s:ByteArray)(x:Value)(ls:List Bs)(g:zBE w1 x ls)(hn:ls.length≤140737488355328)(l:ls.flatten.length≤140737488355328)(f:s.size≤9223372036854775807) :
  Calls prog 15 #[.pointer (some ⟨d,0,none⟩),.string s,x] w1 (Told w d F w1 (D.append (nm s) ls.flatten)):=by
 obtain⟨own,k,i,c,hF⟩:=h;refine(append_calls k s x ls g hn l f).mono ?_;rintro e w' ⟨own',rfl,b,j,g⟩;exact⟨rfl,St.step i c hF b j g⟩
theorem own_new {own:Own}(h:zCP w1 d D own){k:Nat}(b:w1.heap.size≤k):own k=none:=by
 obtain⟨m,left,L,h⟩:=h;exact own_none h b
theorem strs_new (w:World)(b:List ByteArray)(g:Nat)(d:g=w.heap.size)(e:TypeId)(c:Nat×Nat):zEm (w.alloc (.cells (b.map Value.string).toArray e c)) (some ⟨g,0,none⟩) b:=by
 subst d;refine .inr ⟨_,_,rfl,fun i u f=>?_⟩;refine zAG (zAI w _) ?_;simp[f]
theorem st_sync (h:St w w1 d D F)(b:List ByteArray)(g c:Nat)(p:g=w1.heap.size)(f:Nat×Nat)(v:b.length≤140737488355328)(m:∀s∈b,s.size≤9223372036854775807) :
  Calls prog 130 #[.pointer (some ⟨d,0,none⟩),.slice (some ⟨g,0,none⟩) b.length c] (w1.alloc (.cells (b.map Value.string).toArray 9 f)) (Told w d F (w1.alloc (.cells (b.map Value.string).toArray 9 f)) (D.sync (b.map nm))):=by
 obtain⟨own,o,n,l,hF⟩:=h;have j:=o.chg (Chg.alloc w1 (.cells (b.map Value.string).toArray 9 f)) (fun _ h=>h.elim);refine(sync_calls j (some ⟨g,0,none⟩) b c (strs_new w1 b g p _ f) v m (fun a q=>by cases q;exact own_new o (by rw[p];exact Nat.le_refl _))).mono ?_;rintro e w' ⟨own',rfl,i,r,y⟩;exact⟨rfl,St.step (n.alloc n.size _) l (fun k t=>by have:=hF k t;simp;omega) i r y⟩
theorem st_remove (h:St w w1 d D F)(b:List ByteArray)(g c:Nat)(p:g=w1.heap.size)(f:Nat×Nat)(v:b.length≤140737488355328)(m:∀s∈b,s.size≤9223372036854775807) :
  Calls prog 76 #[.pointer (some ⟨d,0,none⟩),.slice (some ⟨g,0,none⟩) b.length c] (w1.alloc (.cells (b.map Value.string).toArray 9 f)) (Told w d F (w1.alloc (.cells (b.map Value.string).toArray 9 f)) (D.remove (b.map nm))):=by
 obtain⟨own,o,n,l,hF⟩:=h;have j:=o.chg (Chg.alloc w1 (.cells (b.map Value.string).toArray 9 f)) (fun _ h=>h.elim);refine(remove_calls j (some ⟨g,0,none⟩) b c (strs_new w1 b g p _ f) v m (fun a q=>by cases q;exact own_new o (by rw[p];exact Nat.le_refl _))).mono ?_;rintro e w' ⟨own',rfl,i,r,y⟩;exact⟨rfl,St.step (n.alloc n.size _) l (fun k t=>by have:=hF k t;simp;omega) i r y⟩
theorem st_crash (h:St w w1 d D F)(k:Int)(l:-9223372036854775808≤k)(c:k≤9223372036854775807) :
  Calls prog 28 #[.pointer (some ⟨d,0,none⟩),.int .i64 k] w1 (Told0 w d F w1 (D.crash k)):=by
 obtain⟨own,⟨m,left,L,j⟩,g,f,hF⟩:=h;refine(crash_walk j k l c).mono ?_;rintro e w' ⟨own',rfl,b,i,n⟩;exact⟨rfl,St.step g f hF b i n⟩
theorem st_fuse (h:St w w1 d D F)(n:Int)(c:-9223372036854775808≤n)(hn:n≤9223372036854775807) :
  Calls prog 40 #[.pointer (some ⟨d,0,none⟩),.int .i64 n] w1 (Told0 w d F w1 (D.setFuse n)):=by
 obtain⟨own,j,g,f,hF⟩:=h;refine(fuse_calls j n hn c).mono ?_;rintro e w' ⟨own',rfl,b,i,k⟩;exact⟨rfl,St.step g f hF b i k⟩
def GotB (w:World)(d:Nat)(D:zAA)(F:Nat→Prop)(w1:World)(o:Option zAW)(e:Ending)(w':World):Prop :=
 ∃v,e=.returned (.tuple #[v,.int .i64 (zDZ o)])∧zAi w' 5 v (zCj o)∧(∀k,v.ownBlock=some k→w1.heap.size≤k)∧Below w1.heap.size w1 w'∧St w w' d D F
theorem st_read (h:St w w1 d D F)(s:ByteArray)(i:s.size≤9223372036854775807) :
  Calls prog 75 #[.pointer (some ⟨d,0,none⟩),.string s] w1 (GotB w d D F w1 (Sat.get (nm s) D.files)):=by
 have c:=h;obtain⟨own,f,k,g,hF⟩:=h;refine(read_calls f s i).mono ?_;rintro e w' ⟨v,rfl,j,hn,b⟩;exact⟨v,rfl,j,hn,b,c.next b⟩
end
/-! ### What a law lays itself -/
theorem has_lit {w:World}{e:TypeId}{d:Nat×Nat}(cs:Array Value)(l:Bs)(g n c:Nat)(j:g=w.heap.size)(hn:n=l.length)(h:cs.toList=zAR l):zAb (w.alloc (.cells cs e d)) (.slice (some ⟨g,0,none⟩) n c) l:=by
 subst j;subst hn;refine⟨by simp[zAR],some ⟨w.heap.size,0,none⟩,c,rfl,fun e=>(by cases e),fun a f i u b=>?_⟩;cases f;rw[add_zero];refine zAG (zAI w _) ?_;rw[←h]at b;simpa using b
theorem zF3 {w:World}{v:Value}{l:Bs}(h:zAb w v l)(o:Obj):zAb (w.alloc o) v l:=h.chg (Chg.alloc w o) fun _ _=>id
theorem zCE {w:World}{v:Value}{l:Bs}(h:zAb w v l)(e:TypeId)(f:Nat×Nat)(g c:Nat)(k:g=w.heap.size)(j:1≤c):zBE (w.alloc (.cells #[v] e f)) (.slice (some ⟨g,0,none⟩) 1 c) [l]:=by
 subst k;refine⟨_,c,rfl,by simpa using j,fun _=>⟨_,_,[v],rfl,rfl,fun i u b=>?_,fun i u m b d=>?_⟩⟩
 ·rw[add_zero];refine zAG (zAI w _) ?_;simpa using b
 ·have n:i=0:=by
   have:=(List.getElem?_eq_some_iff.1 b).1;simpa using this
  subst n;simp at b d;subst b;subst d;exact(zF3 h _).kit
end Go.Proofs.YtapfnehdgailmaaGreat
namespace Go.Sat
open Go.RowKit
theorem zAb.at {w:World}{v:Value}{l:Bs}(h:zAb w v l):l=[]∨∃b o c,v=.slice (some ⟨b,o,none⟩) l.length c∧∀i x,l[i]?=some x→w.cell? ⟨b,o+i,none⟩=some (.int .u8 (x.toNat:Int)):=by
 obtain⟨p,c,rfl,g,f⟩:=h.kit;cases p with
 | none=>exact .inl (g rfl)
 | some a =>
  cases l with
  | nil=>exact .inl rfl
  | cons x r =>
   obtain⟨b,o,n⟩:=a;have j:=f _ rfl 0 x (by simp);have d:n=none:=by
    have:=World.cell?_spot j;simpa[Addr.add]using this
   subst d;refine .inr ⟨b,o,c,rfl,fun i y m=>?_⟩;have k:=f _ rfl i y m;have e:(⟨b,o,none⟩:Addr).add i=⟨b,o+i,none⟩:=by unfold Addr.add;split<;>simp_all
   rw[←e];exact k
end Go.Sat
namespace Go.Proofs.YtapfnehdgailmaaGreat
open Go.RowKit Go.Sat Go.Maps
theorem take_eq_succ {l m:Bs}{k:Nat}{x y:UInt8}(b:l[k]?=some x)(c:m[k]?=some y)(h:l.take k=m.take k)(e:x=y):l.take (k+1)=m.take (k+1):=by
 rw[List.take_add_one,List.take_add_one,b,c,h,e]
theorem ne_at {l m:Bs}{k:Nat}{x y:UInt8}(c:l[k]?=some x)(b:m[k]?=some y)(e:x≠y):(l==m)=false:=by
 rw[beq_eq_false_iff_ne];rintro rfl;rw[c]at b;exact e (Option.some.inj b)
def SamePost (w:World)(b:Bool)(e:Ending)(w':World):Prop:=e=.returned (.bool b)∧∃n,w'=w.drewN n
def True3 (w:World)(e:Ending)(w':World):Prop:=e=.returned (.bool true)∧Below w.heap.size w w'
def sA:ByteArray:=⟨#[97]⟩
def b5:Bs:=[49,50,51,52,53]
def b3:Bs:=[54,55,56]
def b6:Bs:=[49,50,51,52,53,54]
def K0:zAA:=zAA.fresh 100
def K1:zAA:=(K0.append [97] b5).1
def K2:zAA:=(K1.sync [[97]]).1
def K3:zAA:=(K2.append [97] b3).1
theorem k1:(K0.append (nm sA) [b5].flatten)=(K1,0):=by rfl
theorem k2:(K1.sync ([sA].map nm))=(K2,0):=by rfl
theorem k3:(K2.append (nm sA) [b3].flatten)=(K3,0):=by rfl
theorem k4:Sat.get (nm sA) (K3.crash 1).files=some ⟨b6,6⟩:=by rfl
end Go.Proofs.YtapfnehdgailmaaGreat
namespace Go.Sat
open Go.RowKit
theorem zAK.cut {w:World}{p:Option Addr}{n c:Nat}{xs:List Value}(h:zAK w 1 (.slice p n c) n xs){k:Nat}(m:k≤n)(d:Nat):zAK w 1 (.slice p k d) k (xs.take k):=by
 obtain⟨o,q,f,e,g,l⟩:=h;cases e;refine⟨by rw[List.length_take];omega,p,d,rfl,fun e=>?_,fun a j i u b=>l a j i u ?_⟩
 ·have:=g e;omega
 ·rw[List.getElem?_take]at b
  split at b
  ·exact b
  ·cases b
theorem zAb.cut {w:World}{p:Option Addr}{n c:Nat}{l:Bs}(h:zAb w (.slice p n c) l){k:Nat}(f:k≤l.length)(b:Nat):zAb w (.slice p k b) (l.take k):=by
 obtain⟨i,g,e⟩:=h.slice;cases e;unfold zAb at h ⊢;have d:(l.take k).length=k:=by rw[List.length_take];omega
 rw[d,zFd];exact zAK.cut h f b
theorem zB3 {P:Program}(w:World){t e:TypeId}{i:TypeInfo}(j:P.underlying t=some (.slice e))(g:P.info? e=some i)(a:Option Addr)(c b k:Nat)(h:k≤b) :
  (Instr.slice t (.slice a c b) none (some (.int .i64 (k:Int))) none).run P w=.ok (.slice a k b) w:=by
 have f:(Instr.sliceBound (.int .i64 (k:Int)) b .sliceAcap).run P w=.ok k w:=by
  rw[run_sliceBound _ _ _ _ _ (by omega) (by omega)];simp
 have d:(if b=0 then a else a.map fun x=>x.add (0*i.size))=a:=by
  split
  ·rfl
  ·cases a<;>simp[Addr.add]
 simp only[Nat.zero_mul]at d;simp[Instr.slice,run_underlying j,Instr.sliceBounds,f,sizeOf,typeInfo,g,Result.andThen,d]
theorem zAi.shape {w:World}{e:TypeId}{v:Value}{l:Bs}(h:zAi w e v l):v=.slice none 0 0∨∃g c,v=.slice (some ⟨g,0,none⟩) l.length c:=by
 rcases h.2 with⟨rfl,_⟩|⟨g,b,cur,rfl,_⟩
 ·exact .inl rfl
 ·exact .inr ⟨g,b,rfl⟩
end Go.Sat
namespace Go.Proofs.YtapfnehdgailmaaGreat
open Go.RowKit Go.Sat Go.Maps
theorem zBE.row {w:World}{p:Option Addr}{n c:Nat}{ls:List Bs}(h:zBE w (.slice p n c) ls){k:Nat}(f:k<ls.length) :
  n=ls.length∧∃b o v,p=some ⟨b,o,none⟩∧w.cell? ⟨b,o+k,none⟩=some v∧zAb w v ls[k]:=by
 obtain⟨t,r,e,s,q⟩:=h;cases e;have g:ls≠[]:=fun e=>by rw[e]at f;simp at f
 obtain⟨b,o,vs,rfl,j,l,m⟩:=q g;have d:k<vs.length:=by rw[j];exact f
 have i:(⟨b,o,none⟩:Addr).add k=⟨b,o+k,none⟩:=by unfold Addr.add;split<;>simp_all
 refine⟨rfl,b,o,vs[k],rfl,?_,zAb.of_kit (m k _ _ (List.getElem?_eq_getElem d) (List.getElem?_eq_getElem f))⟩;rw[←i];exact l k _ (List.getElem?_eq_getElem d)
theorem zBE.len {w:World}{p:Option Addr}{n c:Nat}{ls:List Bs}(h:zBE w (.slice p n c) ls):n=ls.length:=by
 obtain⟨d,b,e,_⟩:=h;cases e;rfl
/-! ### The disk behind k rounds -/
theorem flat_take {ls:List Bs}{k:Nat}(b:k<ls.length):(ls.take (k+1)).flatten=(ls.take k).flatten++ls[k]:=by
 rw[List.take_succ_eq_append_getElem b,List.flatten_append];simp
theorem flat_take_le (ls:List Bs)(k:Nat):(ls.take k).flatten.length≤ls.flatten.length:=by
 conv=>rhs;rw[←List.take_append_drop k ls,List.flatten_append,List.length_append]
 omega
def bitF (z:Int):Int:=bits .xor .u32 (z/2) (bits .and .u32 3988292384 (-bits .and .u32 z 1%4294967296))
def zF4:Nat→Int→Int
 | 0,z=>z
 | k+1,z=>bitF (zF4 k z)
def byteF (v:Int)(c:UInt8):Int:=zF4 8 (bits .xor .u32 v (c.toNat:Int))
def rowF (v:Int)(l:Bs):Int:=l.foldl byteF v
def rowsF (ls:List Bs):Int:=ls.foldl rowF 4294967295
theorem rowF_take (v:Int)(l:Bs){j:Nat}(b:j<l.length):rowF v (l.take (j+1))=byteF (rowF v (l.take j)) l[j]:=by
 rw[List.take_succ_eq_append_getElem b];simp only[rowF,List.foldl_append,List.foldl_cons,List.foldl_nil]
theorem rowsF_take (ls:List Bs){k:Nat}(b:k<ls.length):rowsF (ls.take (k+1))=rowF (rowsF (ls.take k)) ls[k]:=by
 rw[List.take_succ_eq_append_getElem b];simp only[rowsF,List.foldl_append,List.foldl_cons,List.foldl_nil]
theorem rowsF_flat (ls:List Bs):rowsF ls=rowF 4294967295 ls.flatten:=by
 unfold rowsF rowF;rw[List.foldl_flatten]
def sumF (l:Bs):Int:=bits .xor .u32 IntKind.u32.max (rowF 4294967295 l)
theorem sum_calls {w:World}{p:Option Addr}{n c:Nat}{ls:List Bs}(N:zBE w (.slice p n c) ls)(hn:n≤140737488355328)(r:∀l∈ls,l.length≤140737488355328) :
  Calls prog 181 #[.slice p n c] w (fun e w'=>e=.returned (.int .u32 (sumF ls.flatten))∧w'=w):=by
 have B:=zBE.len N;have S:=zh N;have t:=zh r;have s:=zh B;clear N r B
 go_enter func181,ntmps181
 go_wp2_with fail
 go_loop [3,10] (fun v i=>∃k:Nat,k≤n∧i=.int .i64 k∧v=.int .u32 (rowsF (ls.take k))) (fun _ i=>n-(intOf i).toNat)
 case atStart=>exact⟨0,Nat.zero_le _,rfl,rfl⟩
 case round =>
  obtain⟨k,hk,rfl,rfl⟩:=hrel
  by_cases J:k<n
  ·have g:k<ls.length:=by rw[←s.o];exact J
   have G:=zh (rowsF_take ls g);obtain⟨-,b,o,v,rfl,H,M⟩:=zBE.row S.o g;have Z:=t.o _ (List.getElem_mem g);generalize X:ls[k]=l at *;have D:=zh M.at
   obtain⟨pv,cv,rfl⟩:=M.slice;generalize P:l.length=m at *;generalize rowsF (ls.take k)=x at *;have O:=zh P;clear M P X;go_wp2_with fail
   go_loop [3,16] (fun v i=>∃j:Nat,j≤m∧i=.int .i64 j∧v=.int .u32 (rowF x (l.take j))) (fun _ i=>m-(intOf i).toNat)
   case atStart=>exact⟨0,Nat.zero_le _,rfl,rfl⟩
   case round =>
    obtain⟨j,hj,rfl,rfl⟩:=hrel
    by_cases I:j<m
    ·have d:j<l.length:=by rw[O.o];exact I
     have E:=zh (rowF_take x l d);rcases D.o with h|⟨K,o2,c2,T,A⟩
     ·rw[h]at d;simp at d
     cases T;have U:=A j _ (List.getElem?_eq_getElem d);generalize l[j]=a at *;generalize rowF x (l.take j)=y at *;have V:a.toNat<256:=a.toNat_lt;clear A;go_wp2_with fail;have Q:=zW (byteF y a=zF4 8 (bits .xor .u32 y (a.toNat:Int))) rfl;generalize bits .xor .u32 y (a.toNat:Int)=C at *
     go_loop [3,24] (fun v i=>∃q:Nat,q≤8∧i=.int .i64 q∧v=.int .u32 (zF4 q C)) (fun _ i=>8-(intOf i).toNat)
     case atStart=>exact⟨0,Nat.zero_le _,rfl,rfl⟩
     case round =>
      obtain⟨q,hq,rfl,rfl⟩:=hrel
      by_cases Y:q<8
      ·have F:=zW (zF4 (q+1) C=bitF (zF4 q C)) rfl;generalize zF4 q C=z at *;go_wp2_with fail
       go_round
       case rel=>exact⟨q+1,by omega,by go_num,by rw[F.o];rfl⟩
       case measure=>simp[intOf];omega
      ·have L:q=8:=by omega
       subst L;go_wp2_with fail
       go_round
       case rel=>exact⟨j+1,by omega,by go_num,by rw[E.o,Q.o]⟩
       case measure=>simp[intOf];omega
    ·have W:j=m:=by omega
     have f:l.take j=l:=List.take_of_length_le (by rw[O.o];omega);rw[f];clear f;go_wp2_with fail
     go_round
     case rel=>exact⟨k+1,by omega,by go_num,by rw[G.o]⟩
     case measure=>simp[intOf];omega
  ·have f:ls.take k=ls:=List.take_of_length_le (by have:=s.o;omega);rw[f];clear f;have R:=zh (show sumF ls.flatten=bits .xor .u32 IntKind.u32.max (rowsF ls) by rw[rowsF_flat];rfl);generalize rowsF ls=x at *;go_wp2_with fail;go_ret;exact⟨by rw[R.o];rfl,rfl⟩
def zA4 (n:Nat):Bs:=[UInt8.ofNat n,UInt8.ofNat (n/256),UInt8.ofNat (n/65536),UInt8.ofNat (n/16777216)]
def NewB (w:World)(l:Bs)(e:Ending)(w':World):Prop:=∃v,e=.returned v∧zAb w' v l∧Below w.heap.size w w'
theorem four_calls {w:World}(v:Nat)(j:v<4294967296) :
  Calls prog 180 #[.int .u32 (v:Int)] w (NewB w (zA4 v)):=by
 have b:NewB w (zA4 v) (.returned (.slice (some ⟨w.heap.size,0,none⟩) 4 4)) (w.alloc (.cells #[.int .u8 ((v:Int)%256),.int .u8 ((v:Int)/256%256),.int .u8 ((v:Int)/65536%256),.int .u8 ((v:Int)/16777216)] 5)) :=
  ⟨_,rfl,has_lit _ (zA4 v) _ _ 4 rfl rfl (by
   simp only[zA4,zAR,List.map_cons,List.map_nil,UInt8.toNat_ofNat'];have d:(v:Int)/16777216=((v/16777216%256:Nat):Int):=by omega
   have f:(v:Int)%256=((v%256:Nat):Int):=by omega
   have g:(v:Int)/256%256=((v/256%256:Nat):Int):=by omega
   have i:(v:Int)/65536%256=((v/65536%256:Nat):Int):=by omega
   rw[d,f,g,i]),(Below.refl _ _).alloc (Nat.le_refl _) _⟩
 have c:=zh b;clear b
 go_enter func180,ntmps180
 go_wp2_with fail;go_ret;exact c.o
theorem or_add (k a b:Nat)(h:a<2 ^ k):(a ||| b*2 ^ k)=a+b*2 ^ k:=by
 have:=Nat.two_pow_add_eq_or_of_lt h b;rw[Nat.or_comm,Nat.mul_comm b,←this,Nat.add_comm]
theorem or_four {f b c d:Nat}(k:f<2 ^ 8)(l:b<2 ^ 8)(m:c<2 ^ 8)(n:d<2 ^ 8) :
  bits .or .u32 (bits .or .u32 (bits .or .u32 (f:Int) ((b:Int)*256)) ((c:Int)*65536)) ((d:Int)*16777216)=((f+b*256+c*65536+d*16777216:Nat):Int):=by
 have g:(b:Int)*256=((b*2 ^ 8:Nat):Int):=by omega
 have i:(c:Int)*65536=((c*2 ^ 16:Nat):Int):=by omega
 have j:(d:Int)*16777216=((d*2 ^ 24:Nat):Int):=by omega
 rw[g,i,j,u32_or_nat _ _ (by omega) (by omega),or_add 8 f b (by omega),u32_or_nat _ _ (by omega) (by omega),or_add 16 _ c (by omega),u32_or_nat _ _ (by omega) (by omega),or_add 24 _ d (by omega)]
def ofFour (b c d f:UInt8):Nat:=b.toNat+c.toNat*256+d.toNat*65536+f.toNat*16777216
theorem of_four (n:Nat)(h:n<4294967296):ofFour (UInt8.ofNat n) (UInt8.ofNat (n/256)) (UInt8.ofNat (n/65536)) (UInt8.ofNat (n/16777216))=n:=by
 simp only[ofFour,UInt8.toNat_ofNat'];omega
theorem fromFour_calls {w:World}{b o n c:Nat}{d f g i:UInt8}(hn:4≤n)(s:w.cell? ⟨b,o,none⟩=some (.int .u8 (d.toNat:Int)))(t:w.cell? ⟨b,o+1,none⟩=some (.int .u8 (f.toNat:Int)))
  (v:w.cell? ⟨b,o+2,none⟩=some (.int .u8 (g.toNat:Int))) (y:w.cell? ⟨b,o+3,none⟩=some (.int .u8 (i.toNat:Int))) :
  Calls prog 205 #[.slice (some ⟨b,o,none⟩) n c] w (fun e w'=>e=.returned (.int .u32 (ofFour d f g i:Int))∧∃q,w'=w.drewN q):=by
 have k:=d.toNat_lt;have l:=f.toNat_lt;have m:=g.toNat_lt;have p:=i.toNat_lt;have z:(0:Int)<(n:Int):=by omega
 have a:(1:Int)<(n:Int):=by omega
 have h:(2:Int)<(n:Int):=by omega
 have A:(3:Int)<(n:Int):=by omega
 have hF:=or_four k l m p;have j:=zW (bits .or .u32 (bits .or .u32 (bits .or .u32 (d.toNat:Int) ((f.toNat:Int)*256)) ((g.toNat:Int)*65536)) ((i.toNat:Int)*16777216)=(ofFour d f g i:Int)) hF;clear hF;generalize ofFour d f g i=r at *;generalize d.toNat=B at *;generalize f.toNat=C at *;generalize g.toNat=D at *;generalize i.toNat=E at *
 go_enter func205,ntmps205
 go_wp2_with fail
 go_quiet (fail)
 go_wp2
 go_ret;exact⟨by rw[←j.o];rfl,_,rfl⟩
def sumN (l:Bs):Nat:=(sumF l).toNat
theorem sumF_range (l:Bs):0≤sumF l∧sumF l<4294967296:=by
 unfold sumF bits;rw[IntKind.wrap_u32];omega
theorem zDH (l:Bs):sumF l=(sumN l:Int):=by
 have:=(sumF_range l).1;unfold sumN;omega
theorem zFo (l:Bs):sumN l<4294967296:=by
 have:=sumF_range l;unfold sumN;omega
theorem rows_two {w:World}{f v2:Value}{j k:Bs}(o:zAb w f j)(p:zAb w v2 k)(e:TypeId)(n:Nat×Nat)(g c:Nat)(r:g=w.heap.size)(q:2≤c):zBE (w.alloc (.cells #[f,v2] e n)) (.slice (some ⟨g,0,none⟩) 2 c) [j,k]:=by
 subst r;refine⟨_,c,rfl,by simpa using q,fun _=>⟨_,_,[f,v2],rfl,rfl,fun i u b=>?_,fun i u m b d=>?_⟩⟩
 ·have l:(⟨w.heap.size,0,none⟩:Addr).add i=⟨w.heap.size,i,none⟩:=by unfold Addr.add;split<;>simp_all
  rw[l];refine zAG (zAI w _) ?_;simpa using b
 ·have s:i<2:=by
   have:=(List.getElem?_eq_some_iff.1 b).1;simpa using this
  have:i=0∨i=1:=by omega
  rcases this with rfl|rfl
  ·simp at b d;subst b;subst d;exact(zF3 o _).kit
  ·simp at b d;subst b;subst d;exact(zF3 p _).kit
theorem zDC (w:World)(o:Obj):Below w.heap.size w (w.alloc o):=(Below.refl _ _).alloc (Nat.le_refl _) o
theorem zA9 {w w1 w2:World}(h:Below w.heap.size w w1)(k:Below w1.heap.size w1 w2):Below w.heap.size w w2:=h.trans (k.mono h.size)
def zCJ (n:Nat):Bs:=zA4 n++zA4 (sumN (zA4 n))
theorem head_calls {w:World}(n:Nat)(h:n<4294967296) :
  Calls prog 179 #[.int .u32 (n:Int)] w (NewB w (zCJ n)):=by
 have s:=zh (fun w=>four_calls (w:=w) n h)
 go_enter func179,ntmps179
 go_wp2_with fail;refine(s.o _).mono ?_;rintro e w1 ⟨M,rfl,m,j⟩;have t:=zh m;have z:=zh j;clear m j;go_wp2_with fail;refine(s.o _).mono ?_;rintro e w2 ⟨v2,rfl,c,k⟩;have D:=zh c;have r:=zh k;obtain⟨J,G,rfl⟩:=c.slice;clear c k;go_wp2_with fail;refine(sum_calls (zCE D.out 22 (0,0) _ 1 rfl (Nat.le_refl _)) (by decide) (by simp[zA4])).mono ?_;rintro e w3 ⟨rfl,rfl⟩;rw[show [zA4 n].flatten=zA4 n by simp,zDH];have A:=zh (fun w=>four_calls (w:=w) (sumN (zA4 n)) (zFo _));have B:=zW (zCJ n=zA4 n++zA4 (sumN (zA4 n))) rfl;generalize sumN (zA4 n)=q at *;go_wp2_with fail;refine(A.o _).mono ?_;rintro e O ⟨N,rfl,d,b⟩;have f:=zA9 z.out (zA9 r.out (zA9 (zDC _ _) b));have i:=t.out.below (zA9 r.out (zA9 (zDC _ _) b));obtain⟨I,F,rfl⟩:=t.out.slice;obtain⟨L,H,rfl⟩:=d.slice;have v:=zCm (rows_two i d 22 (0,0) _ 2 rfl (Nat.le_refl _)) (by simp) (by simp[zA4]);have C:=zh v;have a:=zh f;clear v i f d b;go_wp2_with fail;refine C.o.mono ?_;rintro e E ⟨y,rfl,p,l⟩;have g:=zW (NewB w (zCJ n) (.returned y) E) (⟨y,rfl,by rw[B.o];simpa using p,zA9 a.out (zA9 (zDC _ _) l)⟩);clear p l;go_wp2_with fail;go_ret;exact g.o
end Go.Proofs.YtapfnehdgailmaaGreat
namespace Go.Proofs.YtapfnehdgailmaaGreat
open Go.RowKit Go.Sat
theorem fresh_ge {B:Nat}{w:World}{v:Value}{l:Bs}(h:Lib.FreshBytes B w v l):∀k,v.ownBlock=some k→B≤k:=by
 obtain⟨g,b,zs,rfl,c,_⟩:=h;intro k d;cases d;exact c
theorem bjoin_new {w:World}{x:Value}{ls:List Bs}(h:zBE w x ls)(hn:ls.length≤140737488355328)(E:ls.flatten.length≤140737488355328) :
  Calls prog 145 #[x,.slice none 0 0] w fun e w'=>∃v,e=.returned v∧zAb w' v ls.flatten∧(∀k,v.ownBlock=some k→w.heap.size≤k)∧Below w.heap.size w w':=by
 obtain⟨p,c,rfl,G,F⟩:=h;cases ls with
 | nil =>
  refine(Tryz.bytes_Join_none p c (.slice none 0 0) w).mono ?_;rintro e w' ⟨rfl,rfl⟩;refine⟨_,rfl,?_,fun k t=>(by simp[Value.ownBlock]at t;omega),(Below.refl _ _).alloc (Nat.le_refl _) _⟩;exact zAb.of_kit ⟨_,_,rfl,fun e=>(by cases e),fun a l i x H=>by simp at H⟩
 | cons l0 r =>
  obtain⟨b,o,vs,rfl,D⟩:=F (by simp);cases r with
  | nil =>
   obtain⟨m,n,I,B,f,z,s⟩:=D.get 0 (by simp);simp at B;subst B;have d:w.cell? ⟨b,o,none⟩=some (.slice m l0.length n):=by simpa[Addr.add]using f
   by_cases C:l0.length=0
   ·have y:l0=[]:=List.eq_nil_of_length_eq_zero C;subst y;refine(Tryz.bytes_Join_one_empty b o c m n (.slice none 0 0) w d).mono ?_;rintro e w' ⟨rfl,rfl⟩;exact⟨_,rfl,zAb.of_kit ⟨none,0,rfl,fun _=>rfl,fun a l=>(by cases l)⟩,fun k t=>(by cases t),Below.refl _ _⟩
   ·obtain⟨A,rfl⟩:∃a,m=some a:=by
     cases m with
     | none=>exact absurd (by rw[z rfl];rfl) C
     | some a=>exact⟨a,rfl⟩
    refine(Tryz.bytes_Join_one b o c A n l0 (.slice none 0 0) w d (s A rfl) (by omega) (by simpa using E)).mono ?_;rintro e w' ⟨v,rfl,g,q⟩;exact⟨v,rfl,by simpa using zF0 g,fresh_ge g,q⟩
  | cons l1 r =>
   have j:Lib.HoldsBytes w (.slice none 0 0) []:=⟨none,0,rfl,fun _=>rfl,fun a l=>(by cases l)⟩;refine(Tryz.bytes_Join_many b o _ c vs (l0::l1::r) (.slice none 0 0) [] w rfl (by simp) D G j hn (by rw[←flat_len];simpa using E)).mono ?_;rintro e w' ⟨v,rfl,g,q⟩;rw[join_flat]at g;exact⟨v,rfl,zF0 g,fresh_ge g,q⟩
theorem join_new {w:World}{x:Value}{ls:List Bs}(h:zBE w x ls)(hn:ls.length≤140737488355328)(i:ls.flatten.length≤140737488355328) :
  Calls prog 66 #[x] w fun e w'=>∃v,e=.returned v∧zAb w' v ls.flatten∧(∀k,v.ownBlock=some k→w.heap.size≤k)∧Below w.heap.size w w':=by
 have b:=bjoin_new h hn i;obtain⟨p,c,rfl,m,f⟩:=h;have d:=zh b;clear b f
 go_enter func66,ntmps66
 go_wp2_with fail;refine d.o.mono ?_;rintro e w' ⟨v,rfl,j,l,g⟩;go_wp2_with fail;go_ret;exact⟨v,rfl,j,l,g⟩
end Go.Proofs.YtapfnehdgailmaaGreat
namespace Go.Proofs.YtapfnehdgailmaaGreat
open Go.RowKit Go.Sat Go.Maps
def zAM (l:Bs):Bs:=(zCJ l.length++l)++zA4 (sumN (zCJ l.length++l))
theorem lens_take (ls:List Bs){k:Nat}(b:k<ls.length):(ls.take (k+1)).flatten.length=(ls.take k).flatten.length+ls[k].length:=by
 rw[flat_take b,List.length_append]
theorem enc_calls {w:World}{p:Option Addr}{n c:Nat}{ls:List Bs}(hx:zBE w (.slice p n c) ls)(hn:n≤140737488355328)(hl:ls.flatten.length≤1048576) :
  Calls prog 128 #[.slice p n c] w (fun e w'=>∃v,e=.returned (.tuple #[v,.int .i64 0])∧zAb w' v (zAM ls.flatten)∧(∀k,v.ownBlock=some k→w.heap.size≤k)∧Below w.heap.size w w'):=by
 have J:=zBE.len hx;have Hx:=zh hx;have Hl:=zh hl;have j:=zh J;clear hx hl J
 go_enter func128,ntmps128
 go_wp2_with fail
 go_loop [4,10] (fun a i=>∃k:Nat,k≤n∧i=.int .i64 k∧a=.int .i64 (((ls.take k).flatten.length:Nat):Int)∧(ls.take k).flatten.length≤1048576) (fun _ i=>n-(intOf i).toNat)
 case atStart=>exact⟨0,Nat.zero_le _,rfl,by simp,by simp⟩
 case round =>
  obtain⟨k,hk,rfl,rfl,ab⟩:=hrel
  by_cases ad:k<n
  ·have f:k<ls.length:=by rw[←j.o];exact ad
   have F:=lens_take ls f;have ac:=flat_take_le ls (k+1);obtain⟨-,b,o,v,rfl,aa,hv⟩:=zBE.row Hx.o f;obtain⟨pv,cv,rfl⟩:=hv.slice;have E:(ls.take (k+1)).flatten.length≤1048576:=by have:=Hl.o;omega
   have ae:(ls.take k).flatten.length+ls[k].length≤1048576:=by omega
   have T:=zh F;have S:=zh E;clear hv F ac E;generalize ls[k].length=m at *;generalize (ls.take k).flatten.length=C at *;go_wp2_with fail
   go_round
   case rel=>exact⟨k+1,by omega,by go_num,by rw[T.o];go_num,S.o⟩
   case measure=>simp[intOf];omega
  ·have I:ls.take k=ls:=List.take_of_length_le (by have:=j.o;omega);rw[I]at ab ⊢;have af:k=n:=by omega
   have U:=zh (fun w=>head_calls (w:=w) ls.flatten.length (by have:=Hl.o;omega));have Q:=zW (zAM ls.flatten=(zCJ ls.flatten.length++ls.flatten)++zA4 (sumN (zCJ ls.flatten.length++ls.flatten))) rfl;have K:=zh (fun(W:World) (hb:Below w.heap.size w W)=>zCm (zCt Hx.o hb) (by rw[←j.o];omega) (by have:=Hl.o;omega));generalize hX:ls.flatten=X at *;have HX:=zh hX;clear hX;generalize hC:X.length=C at *;have G:(zCJ C).length=8:=rfl;generalize zCJ C=O at *;have P:=zh hC;have g:=zh G;clear I hC G;go_wp2_with fail;refine(U.o _).mono ?_;rintro e w1 ⟨v1,rfl,L,l⟩;have V1:=zh L;have B1:=zh l;have Hj:=zh (K.o _ l);clear L l;go_wp2_with fail;refine Hj.o.mono ?_;rintro e w2 ⟨v2,rfl,y,r⟩;have t:=V1.out.below r;obtain⟨p1,c1,rfl⟩:=t.slice;obtain⟨p2,c2,rfl⟩:=y.slice;have d:=zCm (rows_two t y 22 (0,0) _ 2 rfl (Nat.le_refl _)) (by simp) (by simp[g.o,P.o];omega);rw[show [O,X].flatten=O++X by simp]at d;have e1:=g.o;have e2:=P.o;rw[e1,e2]at d;rw[e1,e2];have V:=zh d;have B2:=zh (zA9 B1.out (zA9 r (zDC w2 (.cells #[.slice p1 8 c1,.slice p2 C c2] 22))));clear d t y r e1 e2;go_wp2_with fail;refine V.o.mono ?_;rintro e w3 ⟨v3,rfl,z,B⟩;have V3:=zh z;have B3:=zh (zA9 B2.out B);have H:(O++X).length≤1048584:=by rw[List.length_append,g.o,P.o];omega
   have R:=zh H;generalize hY:O++X=Y at *;obtain⟨p3,c3,rfl⟩:=z.slice;clear z B hY H;have ag:=R.o;generalize hD:Y.length=yl at *;have HD:=zh hD;clear hD;go_wp2_with fail;refine(sum_calls (zCE V3.out 22 (0,0) _ 1 rfl (Nat.le_refl _)) (by decide) (by simp[HD.o];omega)).mono ?_;rintro e w4 ⟨rfl,rfl⟩;rw[show [Y].flatten=Y by simp,zDH];have Hg:=zh (fun w=>four_calls (w:=w) (sumN Y) (zFo _));generalize sumN Y=q at *;go_wp2_with fail;refine(Hg.o _).mono ?_;rintro e w5 ⟨v5,rfl,h,s⟩;have A:=V3.out.below (zA9 (zDC _ _) s);obtain⟨p5,c5,rfl⟩:=h.slice;have d:=join_new (rows_two A h 22 (0,0) _ 2 rfl (Nat.le_refl _)) (by simp) (by simp[zA4,HD.o];omega);rw[show [Y,zA4 q].flatten=Y++zA4 q by simp,show(zA4 q).length=4 from rfl]at d;have B5:=zh (zA9 B3.out (zA9 (zDC _ _) s));rw[show(zA4 q).length=4 from rfl];have Z:=zh d;clear d A h s;go_wp2_with fail;refine Z.o.mono ?_;rintro e w6 ⟨v6,rfl,M,N,D⟩;have V6:=zh (And.intro M (And.intro (fun k hk=>Nat.le_trans B5.out.size (Nat.le_trans (zDC w5 _).size (N k hk)):∀k,v6.ownBlock=some k→w.heap.size≤k) (zA9 B5.out (zA9 (zDC _ _) D))));clear M N D;go_wp2_with fail
   go_ret2
   exact⟨v6,rfl,by rw[HX.o,Q.o];exact V6.out.1,V6.out.2.1,V6.out.2.2⟩
theorem zCV {w:World}{p:Option Addr}{n c:Nat}{l:Bs}(h:zAb w (.slice p n c) l):n=l.length∧Lib.BytesIn w p n (Lib.numsL l):=by
 have f:=h.at
 obtain⟨m,j,e⟩:=h.slice;cases e;refine⟨rfl,fun hn=>?_⟩;rcases f with e|⟨b,o,k,e,g⟩
 ·rw[e]at hn;simp at hn
 ·cases e;refine⟨b,o,rfl,fun i d=>?_⟩;rw[g i l[i] (List.getElem?_eq_getElem d)];simp[Lib.numsL,List.getD,List.getElem?_map,List.getElem?_eq_getElem d]
theorem zEK {w:World}{x y:Value}{l m:Bs}(b:zAb w x l)(c:zAb w y m) :
  Calls prog 206 #[x,y] w fun e w'=>e=.returned (.bool (l==m))∧w'=w:=by
 obtain⟨g,d,rfl⟩:=b.slice;obtain⟨i,f,rfl⟩:=c.slice;have:=Tryz.bytes_Equal_all g i l.length d m.length f (Lib.numsL l) (Lib.numsL m) w (Lib.numsL_length l) (Lib.numsL_length m) (zCV b).2 (zCV c).2;rwa[Lib.bytesOf_numsL,Lib.bytesOf_numsL]at this
def fourAt (b:Bs):Nat:=ofFour (b.getD 0 0) (b.getD 1 0) (b.getD 2 0) (b.getD 3 0)
def decE (b:Bs):Nat :=
 if b.length<8 then 2 else if b.take 8≠zCJ (fourAt b)then 4 else if 1048576<fourAt b then 5 else if b.length<fourAt b+12 then 2
 else if fourAt (b.drop (8+fourAt b))≠sumN (b.take (8+fourAt b))then 4 else 0
def decB (b:Bs):Bs:=if decE b=0 then(b.drop 8).take (fourAt b)else []
def decL (b:Bs):Nat:=if decE b=0 then fourAt b+12 else 0
def zEE (w:World)(b:Bs)(e:Ending)(w':World):Prop :=
 ∃v,e=.returned (.tuple #[v,.int .i64 (decL b:Int),.int .i64 (decE b:Int)])∧zAi w' 5 v (decB b)∧(∀k,v.ownBlock=some k→w.heap.size≤k)∧Below w.heap.size w w'
theorem four_at {w:World}{p:Option Addr}{n c:Nat}{b:Bs}(h:zAb w (.slice p n c) b)(j:4≤b.length) :
  Calls prog 205 #[.slice p n c] w (fun e w'=>e=.returned (.int .u32 (fourAt b:Int))∧∃q,w'=w.drewN q):=by
 have k:=h.at
 obtain⟨s,m,e⟩:=h.slice;cases e;rcases k with e|⟨g,o,r,e,f⟩
 ·rw[e]at j;simp at j
 ·cases e;have d:∀i,i<b.length→b[i]?=some (b.getD i 0):=fun i l=>by simp[List.getD,List.getElem?_eq_getElem l]
  exact fromFour_calls j (by simpa using f 0 _ (d 0 (by omega))) (f 1 _ (d 1 (by omega))) (f 2 _ (d 2 (by omega))) (f 3 _ (d 3 (by omega)))
theorem zDU (b:Bs):fourAt b<4294967296:=by
 have c:=(b.getD 0 0).toNat_lt;have d:=(b.getD 1 0).toNat_lt;have f:=(b.getD 2 0).toNat_lt;have g:=(b.getD 3 0).toNat_lt;unfold fourAt ofFour;omega
theorem zAb.from {w:World}{g o n c:Nat}{l:Bs}(h:zAb w (.slice (some ⟨g,o,none⟩) n c) l){k:Nat}(f:k≤l.length)(d:Nat):zAb w (.slice (some ⟨g,o+k,none⟩) (n-k) d) (l.drop k):=by
 have m:=h.at
 obtain⟨v,r,e⟩:=h.slice;cases e;refine zAb.of_kit ⟨some ⟨g,o+k,none⟩,d,by rw[List.length_drop],fun e=>(by cases e),fun a p i x b=>?_⟩;cases p;have j:(⟨g,o+k,none⟩:Addr).add i=⟨g,o+k+i,none⟩:=by unfold Addr.add;split<;>simp_all
 rw[j];rw[List.getElem?_drop]at b;rcases m with e|⟨g2,t,s,e,q⟩
 ·rw[e]at b;simp at b
 ·cases e;have:=q _ _ b;rw[Nat.add_assoc];exact this
theorem run_from {P:Program}(w:World){t e:TypeId}{i:TypeInfo}(n:P.underlying t=some (.slice e))(m:P.info? e=some i)(d:i.size=1)(g o b c k:Nat)(h:k≤b)(f:b≤c)(p:k<c) :
  (Instr.slice t (.slice (some ⟨g,o,none⟩) b c) (some (.int .i64 (k:Int))) none none).run P w=.ok (.slice (some ⟨g,o+k,none⟩) (b-k) (c-k)) w:=by
 have l:(Instr.sliceBound (.int .i64 (k:Int)) b .sliceB).run P w=.ok k w:=by
  rw[run_sliceBound _ _ _ _ _ (by omega) (by omega)];simp
 have j:(⟨g,o,none⟩:Addr).add k=⟨g,o+k,none⟩:=by unfold Addr.add;split<;>simp_all
 simp[Instr.slice,run_underlying n,Instr.sliceBounds,l,sizeOf,typeInfo,m,Result.andThen,d,j];omega
end Go.Proofs.YtapfnehdgailmaaGreat
