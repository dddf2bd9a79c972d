/- What the program's functions and the document's do, and plain laws, for PZoneStates. -/
import Derived.Test.YtmcanphlgkolcaaGreatDoorCA
import Derived.Test.YtmcanphlgkolcaaGreatDoorCG
open Go.Proofs.Tryz
set_option maxRecDepth 100000
set_option maxHeartbeats 64000000
namespace Go.Proofs.YtmcanphlgkolcaaGreatDoor
open Go.RowKit Go.Sat Go.Maps
section
variable {w w1 w2:World} {l d t:Nat} {pre:ByteArray} {D:zAD} {M:zAl} {F F':Nat→Prop}
theorem led_has (h:zAm w w1 l d pre D M F)(s:ByteArray) :
  Calls prog 135 #[.pointer (some ⟨d,0,none⟩),.string s] w1 fun e w'=>e=.returned (.bool (Sat.get (nm s) D.files).isSome)∧Below w1.heap.size w1 w':=by
 refine(has_calls h.st s).mono ?_;rintro e w' ⟨rfl,b,-⟩;exact⟨rfl,b⟩
theorem led_read (h:zAm w w1 l d pre D M F)(s:ByteArray)(c:s.size≤9223372036854775807) :
  Calls prog 136 #[.pointer (some ⟨d,0,none⟩),.string s] w1 fun e w'=>∃v,e=.returned (.tuple #[v,.int .i64 (readE (Sat.get (nm s) D.files))])∧zA4 w' 5 v (zDo (Sat.get (nm s) D.files))∧(∀k,v.ownBlock=some k→w1.heap.size≤k)∧Below w1.heap.size w1 w':=by
 refine(st_read h.st s c).mono ?_;rintro e w' ⟨v,rfl,f,hn,b,-⟩;exact⟨v,rfl,f,hn,b⟩
theorem led_trunc (h:zAm w w1 l d pre D M F)(s:ByteArray)(c:s.size≤9223372036854775807)(z:Int)(f:-9223372036854775808≤z)(b:z≤9223372036854775807) :
  Calls prog 139 #[.pointer (some ⟨d,0,none⟩),.string s,.int .i64 z] w1 fun e w'=>e=.returned (.int .i64 ((D.truncate (nm s) z).2:Int))∧zAm w w' l d pre (D.truncate (nm s) z).1 M F∧Same F w1 w'∧w'.heap[l]?=w1.heap[l]? :=
 zEi h (Below.refl _ _) fun _ hS=>st_trunc hS s c z f b
theorem led_sync (h:zAm w w1 l d pre D M F)(s:ByteArray)(b:s.size≤9223372036854775807) :
  Calls prog 99 #[.pointer (some ⟨d,0,none⟩),.slice (some ⟨w1.heap.size,0,none⟩) 1 1] (w1.alloc (.cells #[.string s] 9)) fun e w'=>e=.returned (.int .i64 ((D.sync [nm s]).2:Int))∧zAm w w' l d pre (D.sync [nm s]).1 M F∧Same F w1 w'∧w'.heap[l]?=w1.heap[l]? :=
 zEi h (zBN _ _) fun _ hS=>st_sync hS [s] w1.heap.size 1 rfl (0,0) (by simp) (by simpa using b)
theorem led_remove (h:zAm w w1 l d pre D M F)(s:ByteArray)(b:s.size≤9223372036854775807) :
  Calls prog 140 #[.pointer (some ⟨d,0,none⟩),.slice (some ⟨w1.heap.size,0,none⟩) 1 1] (w1.alloc (.cells #[.string s] 9)) fun e w'=>e=.returned (.int .i64 ((D.remove [nm s]).2:Int))∧zAm w w' l d pre (D.remove [nm s]).1 M F∧Same F w1 w'∧w'.heap[l]?=w1.heap[l]? :=
 zEi h (zBN _ _) fun _ hS=>st_remove hS [s] w1.heap.size 1 rfl (0,0) (by simp) (by simpa using b)
def zCu (w w1:World)(l d:Nat)(pre:ByteArray)(M:zAl)(F:Nat→Prop)(r:zAD×Nat×List Bs)(e:Ending)(w':World):Prop :=
 e=.returned (.int .i64 (r.2.1:Int))∧St w w' d r.1 F∧Same F w1 w'∧(r.2.1=0→zAm w w' l d pre r.1 {M with entries:=r.2.2} F)
theorem zEM {r:zAD×Nat×List Bs}{k:Nat}{es:List Bs}(h:zAm w w2 l d pre D {M with entries:=es} F)(hs:Same F w1 w2)(hr:r=(D,k,es)):zCu w w1 l d pre M F r (.returned (.int .i64 (k:Int))) w2:=by
 subst hr;exact⟨rfl,h.stF,hs,fun _=>h⟩
theorem log_bad {r:zAD×Nat×List Bs}{k:Nat}{es:List Bs}(h:St w w2 d D F)(f:Same F w1 w2)(c:r=(D,k,es))(b:k≠0):zCu w w1 l d pre M F r (.returned (.int .i64 (k:Int))) w2:=by
 subst c;exact⟨rfl,h,f,fun e=>(b e).elim⟩
theorem takeAll_cons (base:Nat)(s:Int×List Bs)(p:Bs)(r:List Bs):zCA base s (p::r)=match zC2 base s p with|none=>none|some t=>zCA base t r:=rfl
theorem take1_le {base:Nat}{s b:Int×List Bs}{p:Bs}(h:zC2 base s p=some b):-1≤b.1∧b.1≤1099511627776:=by
 unfold zC2 at h
 split at h
 ·cases h
 ·rename_i hc
  have c:¬1099511627776<(Rd.num ⟨p,false⟩).1:=fun e=>hc (.inr (.inr (.inl e)))
  split at h
  ·cases h;exact⟨by show(-1:Int)≤_;omega,by show((Rd.num ⟨p,false⟩).1:Int)≤_;omega⟩
  ·split at h
   ·cases h
   ·cases h;exact⟨by show(-1:Int)≤_;omega,by show((Rd.num ⟨p,false⟩).1:Int)≤_;omega⟩
theorem zCD.keep {w w':World}{v:Value}{vs:List Value}{ls:List Bs}(h:zCD w v vs ls)(d:∀j,(v.ownBlock=some j∨∃u∈vs,u.ownBlock=some j)→w'.heap[j]?=w.heap[j]?):zCD w' v vs ls :=
 ⟨h.row.keep fun k c=>d k (.inl c),fun i u b f m=>OwnR.keep (h.has i u b f m) fun k c=>d k (.inr ⟨u,List.mem_of_getElem? f,c⟩),h.sep⟩
theorem told_none {c:Int}{b:Bs}{e:Ending}{w':World}(h:zBB w w1 l d pre D M F t c b e w')(f:zC2 M.base (c,M.entries) b=none):St w w' d D F∧(∀k,F k→k≠t→w'.heap[k]?=w1.heap[k]?)∧e=.returned (.bool false):=by
 unfold zBB at h;rw[f]at h;exact h
theorem told_some {c:Int}{b:Bs}{e:Ending}{w':World}{s:Int×List Bs}(h:zBB w w1 l d pre D M F t c b e w')(f:zC2 M.base (c,M.entries) b=some s):(∀k,F k→k≠t→w'.heap[k]?=w1.heap[k]?)∧e=.returned (.bool true)∧zAm w w' l d pre D {M with entries:=s.2} F∧w'.heap[t]?=some (zC3 l s.1):=by
 unfold zBB at h;rw[f]at h;exact⟨h.2.1,h.2.2⟩
def LogRel (w w1:World)(l d t:Nat)(pre:ByteArray)(D:zAD)(M:zAl)(G:Nat→Prop)(rows:List Bs)(n:Nat)(i:Value)(wr:World):Prop :=
 ∃(k:Nat) (la:Int) (es:List Bs),k≤n∧i=.int .i64 k∧zAm w wr l d pre D {M with entries:=es} G∧wr.heap[t]?=some (zC3 l la)∧(∀j,G j→j≠t→wr.heap[j]?=w1.heap[j]?)∧-1≤la∧la≤1099511627776∧zCA M.base (-1,[]) rows=zCA M.base (la,es) (rows.drop k)
def LogF (F:Nat→Prop)(v:Value)(vs:List Value)(t:Nat)(k:Nat):Prop:=F k∨v.ownBlock=some k∨(∃u∈vs,u.ownBlock=some k)∨k=t
theorem log_some {f:zAT}(h:Sat.get (zBa (nm pre)) D.files=some f)(base:Nat):zCM D (nm pre) base=match zCA base (-1,[]) (zDT f.data).1 with
  | none=>(D,3,[])
  | some s =>
   if(zBW D (zBa (nm pre)) (zDT f.data).2 f.data.length).2≠0 then((zBW D (zBa (nm pre)) (zDT f.data).2 f.data.length).1,(zBW D (zBa (nm pre)) (zDT f.data).2 f.data.length).2,s.2)
   else if s.2=[]then(((zBW D (zBa (nm pre)) (zDT f.data).2 f.data.length).1.remove [zBa (nm pre)]).1,((zBW D (zBa (nm pre)) (zDT f.data).2 f.data.length).1.remove [zBa (nm pre)]).2,s.2)
   else((zBW D (zBa (nm pre)) (zDT f.data).2 f.data.length).1,0,s.2):=by
 unfold zCM;rw[h];rfl
theorem scan_rows_le (k:Nat):∀b:Bs,b.length≤k→(∀x∈(zDT b).1,x.length≤b.length)∧(zDT b).1.length≤b.length:=by
 induction k with
 | zero =>
  intro b h;rw[zC0 (.inl (List.eq_nil_of_length_eq_zero (by omega)))];exact⟨fun x c=>by simp at c,Nat.zero_le _⟩
 | succ k ih =>
  intro b h
  by_cases d:decE b=0
  ·have i:=zEZ d;have f:=ih (b.drop (decL b)) (by rw[List.length_drop];omega);rw[scan_go d];rw[List.length_drop]at f;refine⟨fun x c=>?_,?_⟩
   ·rcases List.mem_cons.1 c with rfl|c
    ·unfold decB;rw[if_pos d,List.length_take,List.length_drop];omega
    ·exact Nat.le_trans (f.1 x c) (by omega)
   ·show _+1≤_
    omega
  ·rw[zC0 (.inr d)];exact⟨fun x c=>by simp at c,Nat.zero_le _⟩
theorem scan_row {b x:Bs}{n:Nat}(h:n≤1073741824)(hn:b.length=n)(c:x∈(zDT b).1):x.length≤1073741824:=Nat.le_trans ((scan_rows_le _ b (Nat.le_refl _)).1 x c) (by omega)
theorem scan_count {b:Bs}{n:Nat}{rows:List Bs}(h:n≤1073741824)(hn:b.length=n)(c:(zDT b).1=rows):rows.length≤1073741824:=by
 rw[←c];exact Nat.le_trans (scan_rows_le _ b (Nat.le_refl _)).2 (by omega)
theorem log_calls (h:zAm w w1 l d pre D M F)(bj:M.entries=[]) :
  Calls prog 75 #[.pointer (some ⟨l,0,none⟩)] w1 (zCu w w1 l d pre M F (zCM D (nm pre) M.base)):=by
 have R:=h.psz.2;have hM:M={M with entries:=[] }:=by rw[←bj]
 have ax:=data_len h.okD (zBa (nm pre));have bl:∀(fn:Fn) (first aE:Array Value) (w:World),(Instr.makeFunc fn first aE).run prog w=.ok (.func fn first aE) w:=fun _ _ _ _=>rfl;have H:=zh h;have HM:=zh hM;clear h hM;cases ho:Sat.get (zBa (nm pre)) D.files with
 | none =>
  have HR:=zW (zCM D (nm pre) M.base=(D,0,[])) (by unfold zCM;rw[ho]);clear ax bl
  go_enter func75,ntmps75
  go_wp2_with fail;have y:=zh (H.o.same (zAG w1));have p:=zh (H.o.next (zAG _));obtain⟨C,E,-⟩:=H.o.lc;refine ost (fun w':World=>w'.cell? ⟨l,0,none⟩=some (.pointer (some ⟨d,0,none⟩))∧w'.cell? ⟨l,1,none⟩=some (.string pre)) 8 (⟨C,E⟩) fun b=>?_;generalize w1.drew=J at *;refine Pl [0,1,2,3,4] ?_
  iterate 5 (refine Pc rfl ?_;simp only[uZ])
  refine Pn ?_;refine oon 5 rfl fun K t=>?_;go_wp2_with fail;refine(zAQ ⟨b.1,b.2,R⟩).mono ?_;rintro e w9 ⟨rfl,rfl⟩;go_wp2_with fail;refine t.o _ _ (b) fun b=>?_;clear t
  try simp only[uZ]
  refine oon 6 rfl fun K t=>?_;have L:=zh (led_has p.o (zDI pre));rw[zEC]at L;go_wp2_with fail;refine L.o.mono ?_;rintro e w2 ⟨rfl,G⟩;have r:=zh (p.o.lc.same (G.block l p.o.llt));have S:=zW (zCu w w1 l d pre M F (zCM D (nm pre) M.base) (.returned (.int .i64 0)) w2) (zEM (k:=0) (by rw[←HM.o];exact p.o.next G) (fun k z=>(p.o.same G k z).trans (y.o k z)) HR.o);rw[ho];clear G L;go_wp2_with fail;refine t.o _ _ (⟨r.o.1,r.o.2.1⟩) fun b=>?_;clear t
  try simp only[uZ]
  refine otk 7 (v:=?v1x7) rfl ?_;simp only[uZ];refine odn ?_;go_wp2_with fail;go_ret;exact S.o
 | some f =>
  rw[ho]at ax;have aF:f.data.length≤1073741824:=ax;have HR:=zh (log_some ho M.base);have bp:=scan_le f.data;clear ax
  go_enter func75,ntmps75
  go_wp2_with fail;have y:=zh (H.o.same (zAG w1));have p:=zh (H.o.next (zAG _));obtain⟨C,E,-⟩:=H.o.lc;refine ost (fun w':World=>w'.cell? ⟨l,0,none⟩=some (.pointer (some ⟨d,0,none⟩))∧w'.cell? ⟨l,1,none⟩=some (.string pre)) 8 (⟨C,E⟩) fun b=>?_;generalize w1.drew=J at *;refine Pl [0,1,2,3,4] ?_
  iterate 5 (refine Pc rfl ?_;simp only[uZ])
  refine Pn ?_;refine oon 5 rfl fun K t=>?_;go_wp2_with fail;refine(zAQ ⟨b.1,b.2,R⟩).mono ?_;rintro e w9 ⟨rfl,rfl⟩;go_wp2_with fail;refine t.o _ _ (b) fun b=>?_;clear t
  try simp only[uZ]
  refine oon 6 rfl fun K t=>?_;have L:=zh (led_has p.o (zDI pre));rw[zEC]at L;go_wp2_with fail;refine L.o.mono ?_;rintro e w2 ⟨rfl,G⟩;have r:=zh (p.o.lc.same (G.block l p.o.llt));have aK:=zh (p.o.next G);have be:=zW (Same F w1 w2) fun k z=>(p.o.same G k z).trans (y.o k z);rw[ho];clear G L;go_wp2_with fail;refine t.o _ _ (⟨r.o.1,r.o.2.1⟩) fun b=>?_;clear t
  try simp only[uZ]
  refine otk 7 (v:=?v2x7) rfl ?_;simp only[uZ];refine odn ?_;clear p y r;go_wp2_with fail;have y:=zW (Same F w1 w2.drew) be.o;have p:=zh (aK.o.next (zAG _));obtain⟨C,E,-⟩:=aK.o.lc;refine ost (fun w':World=>w'.cell? ⟨l,0,none⟩=some (.pointer (some ⟨d,0,none⟩))∧w'.cell? ⟨l,1,none⟩=some (.string pre)) 12 (⟨C,E⟩) fun b=>?_;generalize w2.drew=J at *;refine Pl [0,1,2,3,4] ?_
  iterate 5 (refine Pc rfl ?_;simp only[uZ])
  refine Pn ?_;refine oon 5 rfl fun K t=>?_;go_wp2_with fail;refine(zAQ ⟨b.1,b.2,R⟩).mono ?_;rintro e w9 ⟨rfl,rfl⟩;go_wp2_with fail;refine t.o _ _ (b) fun b=>?_;clear t
  try simp only[uZ]
  refine oon 6 rfl fun K t=>?_;have L:=zh (led_read p.o (zDI pre) (by rw[zDD];omega));rw[zEC]at L;go_wp2_with fail;refine L.o.mono ?_;rintro e w3 ⟨v2,rfl,aJ,bm,G⟩;have r:=zh (p.o.lc.same (G.block l p.o.llt));have ar:=zh (p.o.next G);have bf:=zW (Same F w1 w3) fun k z=>(p.o.same G k z).trans (y.o k z);rw[ho];rw[ho]at aJ;have aS:=zW (zA4 w3 5 v2 f.data) aJ;rw[show readE (some f)=0 from rfl];clear G aJ bm L;go_wp2_with fail;refine t.o _ _ (⟨r.o.1,r.o.2.1⟩) fun b=>?_;clear t
  try simp only[uZ]
  refine Pl [7,8,9,10,11] ?_
  iterate 5 (refine Pc rfl ?_;simp only[uZ])
  refine Pn ?_;refine odn ?_;obtain⟨pb,cb,rfl,az⟩:=zAN aS.o;have bg:=zh (scan_calls aS.o.has az aF);clear p y r az;generalize aA:f.data.length=ay at *;go_wp2_with fail;refine bg.o.mono ?_;rintro e w4 ⟨v4,vs,rfl,aj,aG,V⟩;have ba:=zW (zAm w (w4.alloc (zC3 l (-1))) l d pre D M (LogF F v4 vs w4.heap.size)) (ar.o.more (V.alloc V.size _) fun k z=>by
   rcases z with z|z|⟨u,hu,z⟩|rfl
   ·exact .inl z
   ·exact .inr ⟨aG.1 k z,by have:=OwnR.lt aj.row z;simp;omega⟩
   ·obtain⟨c,hc⟩:=mem_rows aj hu;exact .inr ⟨aG.2 u hu k z,by have:=OwnR.lt hc z;simp;omega⟩
   ·exact .inr ⟨V.size,by simp⟩)
  have aP:=zW (Same F w1 (w4.alloc (zC3 l (-1)))) fun k z=>(ar.o.same (V.alloc V.size _) k z).trans (bf.o k z);have Z:=zh (aj.below (zAU w4 (zC3 l (-1))));have bh:=zh (zAF w4 (zC3 l (-1)));have bi:=zW (w.heap.size≤w4.heap.size) (Nat.le_trans ar.o.bel.size V.size);have bc:=zW (∀k,v4.ownBlock=some k→k≠w4.heap.size) (fun k z e=>by have:=OwnR.lt aj.row z;omega);have aO:=zW (∀u∈vs,∀k,u.ownBlock=some k→k≠w4.heap.size) (fun u hu k z e=>by obtain⟨c,hc⟩:=mem_rows aj hu;have:=OwnR.lt hc z;omega);have bd:=zW (∀x∈(zDT f.data).1,x.length≤1073741824) fun x hx=>scan_row aF aA hx;have aC:=zW (∀j,F j→j≠w4.heap.size) (fun j O e=>by have h1:=ar.o.flt O;have h2:=V.size;omega);clear aj aG V;obtain⟨pr,cr,rfl⟩:=OwnR.shape Z.o.row;generalize hq:(zDT f.data).2=q at *;generalize ao:(zDT f.data).1=rows at *;have bq:rows.length≤1073741824:=scan_count aF aA ao;generalize aX:rows.length=n at *;have aN:=zh aX;clear hq ao aX;go_wp2_with fail
  go_loopw [44] (LogRel w (w4.alloc (zC3 l (-1))) l d w4.heap.size pre D M (LogF F (.slice pr n cr) vs w4.heap.size) rows n) (fun i _=>n-(intOf i).toNat)
  case atStart=>exact⟨0,-1,[],Nat.zero_le _,rfl,by rw[←HM.o];exact ba.o,bh.o,fun _ _ _=>rfl,by omega,by omega,rfl⟩
  case round =>
   obtain⟨k,la,es,z,rfl,hL,ht,ad,h1,h2,U⟩:=hrel
   by_cases bk:k<n
   ·have ai:k<rows.length:=by rw[aN.o];exact bk
    rw[List.drop_eq_getElem_cons ai,takeAll_cons]at U;have ah:=Z.o.keep (w':=wr) fun j O=>by
     rcases O with O|⟨u,hu,O⟩
     ·exact ad j (.inr (.inl O)) (bc.o j O)
     ·exact ad j (.inr (.inr (.inl ⟨u,hu,O⟩))) (aO.o u hu j O)
    have aw:k<vs.length:=by rw[ah.len];exact ai
    have aq:=ah.has k _ _ (List.getElem?_eq_getElem aw) (List.getElem?_eq_getElem ai);have ab:∃g,pr=some ⟨g,0,none⟩∧wr.cell? ⟨g,k,none⟩=some vs[k]:=by
     rcases ah.row.2 with⟨-,h0⟩|⟨g,aE,cur,e,-⟩
     ·omega
     ·refine⟨g,?_,?_⟩
      ·simp only[Value.slice.injEq]at e;exact e.1
      ·have hc:=ah.row.cells (g:=g) (by rw[e];rfl) k _ (List.getElem?_eq_getElem aw);rwa[add_zero]at hc
    obtain⟨g,rfl,ab⟩:=ab;have ae:=bd.o _ (List.getElem_mem ai);obtain⟨px,cx,aH,-⟩:=zAN aq;rw[aH]at aq ab;have aR:=zh (takes_calls hL ht (.inr (.inr (.inr rfl))) bi.o aq.has ae h1 h2);have aQ:=zh ad;have br:rows[k].length≤1073741824:=ae;cases hc:zC2 M.base (la,es) rows[k]with
    | none =>
     rw[hc]at U;have bb:=zW (zCM D (nm pre) M.base=(D,3,[])) (by rw[HR.o,U]);have Hc:=zh hc;clear hL ht ad U ah aq ae hc aH aw;generalize rows[k]=x at *;generalize x.length=m at *;clear ai;go_wp2_with fail;refine aR.o.mono ?_;intro e w6 hT;obtain⟨aU,am,rfl⟩:=told_none hT Hc.o;have S:=zW (zCu w w1 l d pre M F (zCM D (nm pre) M.base) (.returned (.int .i64 3)) w6) (log_bad (k:=3) (aU.less fun _ h=>.inl h) (fun j O=>(am j (.inl O) (aC.o j O)).trans ((aQ.o j (.inl O) (aC.o j O)).trans (aP.o j O))) bb.o (by decide));clear aU am hT;go_wp2_with fail;go_ret;exact S.o
    | some s =>
     rw[hc]at U;have Hc:=zh hc;have Hk:=zW (zCA M.base (-1,[]) rows=zCA M.base (s.1,s.2) (rows.drop (k+1))) U;have aM:=zh (take1_le hc);clear hL ht ad U ah aq ae hc aH aw;generalize rows[k]=x at *;generalize x.length=m at *;clear ai;go_wp2_with fail;refine aR.o.mono ?_;intro e w6 hT;obtain⟨am,rfl,aT,aZ⟩:=told_some hT Hc.o;have S:=zh (And.intro aT (And.intro aZ (show ∀j,LogF F (.slice (some ⟨g,0,none⟩) n cr) vs w4.heap.size j→j≠w4.heap.size→w6.heap[j]?=(w4.alloc (zC3 l (-1))).heap[j]? from fun j O aW=>(am j O aW).trans (aQ.o j O aW))));clear am aT aZ hT;go_wp2_with fail;go_roundw
     case rel=>exact⟨k+1,s.1,s.2,by omega,by go_num,S.o.1,S.o.2.1,S.o.2.2,aM.o.1,aM.o.2,Hk.o⟩
     case measure=>simp[intOf];omega
   ·have aY:rows.drop k=[]:=List.drop_of_length_le (by rw[aN.o];omega);have aB:zCA M.base (-1,[]) rows=some (la,es):=by rw[U,aY];rfl
    have P:=zW (zAm w wr l d pre D {M with entries:=es} F) (hL.less fun _ h=>.inl h);have ak:=zW (Same F w1 wr) fun j O=>(ad j (.inl O) (aC.o j O)).trans (aP.o j O);have Q:=HR.o;rw[aB]at Q;clear hL ht ad U aB aY Z HR
    by_cases hq:q<ay
    ·cases ap:D.truncate (zBa (nm pre)) (q:Int)with
     | mk D1 e1 =>
      have aD:=zW (∀W,zAm w W l d pre D {M with entries:=es} F→Calls prog 139 #[.pointer (some ⟨d,0,none⟩),.string (zDI pre),.int .i64 (q:Int)] W fun e w'=>e=.returned (.int .i64 (e1:Int))∧zAm w w' l d pre D1 {M with entries:=es} F∧Same F W w'∧w'.heap[l]?=W.heap[l]?) (fun W h=>by
       have:=led_trunc h (zDI pre) (by rw[zDD];omega) (q:Int) (by omega) (by omega);rwa[zEC,ap]at this)
      by_cases av:e1=0
      ·subst av;cases aI:D1.sync [zBa (nm pre)]with
       | mk D2 e2 =>
        have hT:zBW D (zBa (nm pre)) q ay=(D2,e2):=by unfold zBW;rw[if_pos hq,ap,if_neg (by simp)];exact aI
        have ag:=zW (∀W,zAm w W l d pre D1 {M with entries:=es} F→Calls prog 99 #[.pointer (some ⟨d,0,none⟩),.slice (some ⟨W.heap.size,0,none⟩) 1 1] (W.alloc (.cells #[.string (zDI pre)] 9)) fun e w'=>e=.returned (.int .i64 (e2:Int))∧zAm w w' l d pre D2 {M with entries:=es} F∧Same F W w'∧w'.heap[l]?=W.heap[l]?) (fun W h=>by
         have:=led_sync h (zDI pre) (by rw[zDD];omega);rwa[zEC,aI]at this)
        rw[hT]at Q;have aL:=zh Q;clear ap aI hT Q
        by_cases aV:e2=0
        ·subst aV;go_wp2_with fail;have y:=zW (Same F w1 wr.drew) ak.o;have p:=zh (P.o.next (zAG _));obtain⟨C,E,-⟩:=P.o.lc;refine ost (fun w':World=>w'.cell? ⟨l,0,none⟩=some (.pointer (some ⟨d,0,none⟩))∧w'.cell? ⟨l,1,none⟩=some (.string pre)) 9 (⟨C,E⟩) fun b=>?_;generalize wr.drew=J at *;refine Pl [0,1,2,3,4,6] ?_
         iterate 6 (refine Pc rfl ?_;simp only[uZ])
         refine Pn ?_;refine oon 5 rfl fun K t=>?_;go_wp2_with fail;refine(zAQ ⟨b.1,b.2,R⟩).mono ?_;rintro e w9 ⟨rfl,rfl⟩;go_wp2_with fail;refine t.o _ _ (b) fun b=>?_;clear t
         try simp only[uZ]
         refine oon 7 rfl fun K t=>?_;go_wp2_with fail;refine(aD.o J p.o).mono ?_;rintro e w5 ⟨rfl,A,B,a⟩;have r:=zh (p.o.lc.same a);have Y:=zh A;have al:=zW (Same F w1 w5) fun k z=>(B k z).trans (y.o k z);clear A B a;go_wp2_with fail;refine t.o _ _ (⟨r.o.1,r.o.2.1⟩) fun b=>?_;clear t
         try simp only[uZ]
         refine otk 8 (v:=?v4x8) rfl ?_;simp only[uZ];refine odn ?_;clear p y r;go_wp2_with fail;have y:=zW (Same F w1 w5.drew) al.o;have p:=zh (Y.o.next (zAG _));obtain⟨C,E,-⟩:=Y.o.lc;refine ost (fun w':World=>w'.cell? ⟨l,0,none⟩=some (.pointer (some ⟨d,0,none⟩))∧w'.cell? ⟨l,1,none⟩=some (.string pre)) 9 (⟨C,E⟩) fun b=>?_;generalize w5.drew=J at *;refine Pl [0,1,2,3,4] ?_
         iterate 5 (refine Pc rfl ?_;simp only[uZ])
         refine Pn ?_;refine oon 5 rfl fun K t=>?_;go_wp2_with fail;refine(zAQ ⟨b.1,b.2,R⟩).mono ?_;rintro e w9 ⟨rfl,rfl⟩;go_wp2_with fail;refine t.o _ _ (b) fun b=>?_;clear t
         try simp only[uZ]
         refine oon 6 rfl fun K t=>?_;have aa:=zW ((J.alloc (.cells #[.string (zDI pre)] 9)).cell? ⟨l,0,none⟩=some (.pointer (some ⟨d,0,none⟩))∧(J.alloc (.cells #[.string (zDI pre)] 9)).cell? ⟨l,1,none⟩=some (.string pre)) (⟨zAP b.1 _,zAP b.2 _⟩);go_wp2_with fail;refine t.o _ _ (aa.o) fun b=>?_;clear t
         try simp only[uZ]
         refine oon 7 rfl fun K t=>?_;go_wp2_with fail;refine(ag.o J p.o).mono ?_;rintro e w6 ⟨rfl,A,B,a⟩;have r:=zh (p.o.lc.same a);have af:=zh A;have au:=zW (Same F w1 w6) fun k z=>(B k z).trans (y.o k z);clear A B a;go_wp2_with fail;refine t.o _ _ (⟨r.o.1,r.o.2.1⟩) fun b=>?_;clear t
         try simp only[uZ]
         refine otk 8 (v:=?v5x8) rfl ?_;simp only[uZ];refine odn ?_;clear p y r;have T:=zW (zCM D (nm pre) M.base=if es=[]then((D2.remove [zBa (nm pre)]).1,(D2.remove [zBa (nm pre)]).2,es)else(D2,0,es)) (by rw[aL.o];rfl);obtain⟨dv,ev,an,-,bo,X,-⟩:=af.o.cells;obtain⟨p4,c4,rfl⟩:=OwnR.shape X;have k4:=zDL an;clear an X
         by_cases I:es=[]
         ·have N:(({M with entries:=es}:zAl).entries.length:Int)=0:=by rw[I];rfl
          generalize ({M with entries:=es}:zAl).entries.length=m4 at *;obtain rfl:m4=0:=by omega
          clear N;cases ac:zAD.remove D2 [zBa (nm pre)]with
          | mk D3 e3 =>
           have ag:=zW (∀W,zAm w W l d pre D2 {M with entries:=es} F→Calls prog 140 #[.pointer (some ⟨d,0,none⟩),.slice (some ⟨W.heap.size,0,none⟩) 1 1] (W.alloc (.cells #[.string (zDI pre)] 9)) fun e w'=>e=.returned (.int .i64 (e3:Int))∧zAm w w' l d pre D3 {M with entries:=es} F∧Same F W w'∧w'.heap[l]?=W.heap[l]?) (fun W h=>by
            have:=led_remove h (zDI pre) (by rw[zDD];omega);rwa[zEC,ac]at this)
           have Z:=zW (zCM D (nm pre) M.base=(D3,e3,es)) (by rw[T.o,if_pos I,ac]);clear ac I;go_wp2_with fail;have y:=zW (Same F w1 w6.drew) au.o;have p:=zh (af.o.next (zAG _));obtain⟨C,E,-⟩:=af.o.lc;refine ost (fun w':World=>w'.cell? ⟨l,0,none⟩=some (.pointer (some ⟨d,0,none⟩))∧w'.cell? ⟨l,1,none⟩=some (.string pre)) 9 (⟨C,E⟩) fun b=>?_;generalize w6.drew=J at *;refine Pl [0,1,2,3,4] ?_
           iterate 5 (refine Pc rfl ?_;simp only[uZ])
           refine Pn ?_;refine oon 5 rfl fun K t=>?_;go_wp2_with fail;refine(zAQ ⟨b.1,b.2,R⟩).mono ?_;rintro e w9 ⟨rfl,rfl⟩;go_wp2_with fail;refine t.o _ _ (b) fun b=>?_;clear t
           try simp only[uZ]
           refine oon 6 rfl fun K t=>?_;have aa:=zW ((J.alloc (.cells #[.string (zDI pre)] 9)).cell? ⟨l,0,none⟩=some (.pointer (some ⟨d,0,none⟩))∧(J.alloc (.cells #[.string (zDI pre)] 9)).cell? ⟨l,1,none⟩=some (.string pre)) (⟨zAP b.1 _,zAP b.2 _⟩);go_wp2_with fail;refine t.o _ _ (aa.o) fun b=>?_;clear t
           try simp only[uZ]
           refine oon 7 rfl fun K t=>?_;go_wp2_with fail;refine(ag.o J p.o).mono ?_;rintro e w8 ⟨rfl,A,B,a⟩;have r:=zh (p.o.lc.same a);have S:=zW (zCu w w1 l d pre M F (zCM D (nm pre) M.base) (.returned (.int .i64 (e3:Int))) w8) (zEM A (fun k z=>(B k z).trans (y.o k z)) Z.o);clear A B a;go_wp2_with fail;refine t.o _ _ (⟨r.o.1,r.o.2.1⟩) fun b=>?_;clear t
           try simp only[uZ]
           refine otk 8 (v:=?v6x8) rfl ?_;simp only[uZ];refine odn ?_;go_wp2_with fail;go_ret;exact S.o
         ·have N:((({M with entries:=es}:zAl).entries.length:Int)==0)=false:=by
           have:es.length≠0:=fun e=>I (List.eq_nil_of_length_eq_zero e)
           show((es.length:Int)==0)=false
           simp;omega
          have S:=zW (zCu w w1 l d pre M F (zCM D (nm pre) M.base) (.returned (.int .i64 0)) w6) (zEM (k:=0) af.o au.o (by rw[T.o,if_neg I]));generalize ({M with entries:=es}:zAl).entries.length=m4 at *;clear I;go_wp2_with fail;go_ret;exact S.o
        ·have bn:((e2:Int) != 0)=true:=by simp;omega
         have T:=zW (zCM D (nm pre) M.base=(D2,e2,es)) (by rw[aL.o];exact if_pos aV);go_wp2_with fail;have y:=zW (Same F w1 wr.drew) ak.o;have p:=zh (P.o.next (zAG _));obtain⟨C,E,-⟩:=P.o.lc;refine ost (fun w':World=>w'.cell? ⟨l,0,none⟩=some (.pointer (some ⟨d,0,none⟩))∧w'.cell? ⟨l,1,none⟩=some (.string pre)) 9 (⟨C,E⟩) fun b=>?_;generalize wr.drew=J at *;refine Pl [0,1,2,3,4,6] ?_
         iterate 6 (refine Pc rfl ?_;simp only[uZ])
         refine Pn ?_;refine oon 5 rfl fun K t=>?_;go_wp2_with fail;refine(zAQ ⟨b.1,b.2,R⟩).mono ?_;rintro e w9 ⟨rfl,rfl⟩;go_wp2_with fail;refine t.o _ _ (b) fun b=>?_;clear t
         try simp only[uZ]
         refine oon 7 rfl fun K t=>?_;go_wp2_with fail;refine(aD.o J p.o).mono ?_;rintro e w5 ⟨rfl,A,B,a⟩;have r:=zh (p.o.lc.same a);have Y:=zh A;have al:=zW (Same F w1 w5) fun k z=>(B k z).trans (y.o k z);clear A B a;go_wp2_with fail;refine t.o _ _ (⟨r.o.1,r.o.2.1⟩) fun b=>?_;clear t
         try simp only[uZ]
         refine otk 8 (v:=?v7x8) rfl ?_;simp only[uZ];refine odn ?_;clear p y r;go_wp2_with fail;have y:=zW (Same F w1 w5.drew) al.o;have p:=zh (Y.o.next (zAG _));obtain⟨C,E,-⟩:=Y.o.lc;refine ost (fun w':World=>w'.cell? ⟨l,0,none⟩=some (.pointer (some ⟨d,0,none⟩))∧w'.cell? ⟨l,1,none⟩=some (.string pre)) 9 (⟨C,E⟩) fun b=>?_;generalize w5.drew=J at *;refine Pl [0,1,2,3,4] ?_
         iterate 5 (refine Pc rfl ?_;simp only[uZ])
         refine Pn ?_;refine oon 5 rfl fun K t=>?_;go_wp2_with fail;refine(zAQ ⟨b.1,b.2,R⟩).mono ?_;rintro e w9 ⟨rfl,rfl⟩;go_wp2_with fail;refine t.o _ _ (b) fun b=>?_;clear t
         try simp only[uZ]
         refine oon 6 rfl fun K t=>?_;have aa:=zW ((J.alloc (.cells #[.string (zDI pre)] 9)).cell? ⟨l,0,none⟩=some (.pointer (some ⟨d,0,none⟩))∧(J.alloc (.cells #[.string (zDI pre)] 9)).cell? ⟨l,1,none⟩=some (.string pre)) (⟨zAP b.1 _,zAP b.2 _⟩);go_wp2_with fail;refine t.o _ _ (aa.o) fun b=>?_;clear t
         try simp only[uZ]
         refine oon 7 rfl fun K t=>?_;go_wp2_with fail;refine(ag.o J p.o).mono ?_;rintro e w6 ⟨rfl,A,B,a⟩;have r:=zh (p.o.lc.same a);have af:=zh A;have au:=zW (Same F w1 w6) fun k z=>(B k z).trans (y.o k z);clear A B a;go_wp2_with fail;refine t.o _ _ (⟨r.o.1,r.o.2.1⟩) fun b=>?_;clear t
         try simp only[uZ]
         refine otk 8 (v:=?v8x8) rfl ?_;simp only[uZ];refine odn ?_;clear p y r;have S:=zW (zCu w w1 l d pre M F (zCM D (nm pre) M.base) (.returned (.int .i64 (e2:Int))) w6) (zEM af.o au.o T.o);go_wp2_with fail;go_ret;exact S.o
      ·have hT:zBW D (zBa (nm pre)) q ay=(D1,e1):=by unfold zBW;rw[if_pos hq,ap,if_pos av]
       rw[hT]at Q;have bn:((e1:Int) != 0)=true:=by simp;omega
       have T:=zW (zCM D (nm pre) M.base=(D1,e1,es)) (by rw[Q];exact if_pos av);clear ap hT Q av;go_wp2_with fail;have y:=zW (Same F w1 wr.drew) ak.o;have p:=zh (P.o.next (zAG _));obtain⟨C,E,-⟩:=P.o.lc;refine ost (fun w':World=>w'.cell? ⟨l,0,none⟩=some (.pointer (some ⟨d,0,none⟩))∧w'.cell? ⟨l,1,none⟩=some (.string pre)) 9 (⟨C,E⟩) fun b=>?_;generalize wr.drew=J at *;refine Pl [0,1,2,3,4,6] ?_
       iterate 6 (refine Pc rfl ?_;simp only[uZ])
       refine Pn ?_;refine oon 5 rfl fun K t=>?_;go_wp2_with fail;refine(zAQ ⟨b.1,b.2,R⟩).mono ?_;rintro e w9 ⟨rfl,rfl⟩;go_wp2_with fail;refine t.o _ _ (b) fun b=>?_;clear t
       try simp only[uZ]
       refine oon 7 rfl fun K t=>?_;go_wp2_with fail;refine(aD.o J p.o).mono ?_;rintro e w5 ⟨rfl,A,B,a⟩;have r:=zh (p.o.lc.same a);have Y:=zh A;have al:=zW (Same F w1 w5) fun k z=>(B k z).trans (y.o k z);clear A B a;go_wp2_with fail;refine t.o _ _ (⟨r.o.1,r.o.2.1⟩) fun b=>?_;clear t
       try simp only[uZ]
       refine otk 8 (v:=?v9x8) rfl ?_;simp only[uZ];refine odn ?_;clear p y r;have S:=zW (zCu w w1 l d pre M F (zCM D (nm pre) M.base) (.returned (.int .i64 (e1:Int))) w5) (zEM Y.o al.o T.o);go_wp2_with fail;go_ret;exact S.o
    ·have hT:zBW D (zBa (nm pre)) q ay=(D,0):=by unfold zBW;rw[if_neg hq]
     rw[hT]at Q;have T:=zW (zCM D (nm pre) M.base=if es=[]then((D.remove [zBa (nm pre)]).1,(D.remove [zBa (nm pre)]).2,es)else(D,0,es)) (by rw[Q];rfl);clear hT Q;obtain⟨dv,ev,an,-,bo,X,-⟩:=P.o.cells;obtain⟨p4,c4,rfl⟩:=OwnR.shape X;have k4:=zDL an;clear an X
     by_cases I:es=[]
     ·have N:(({M with entries:=es}:zAl).entries.length:Int)=0:=by rw[I];rfl
      generalize ({M with entries:=es}:zAl).entries.length=m4 at *;obtain rfl:m4=0:=by omega
      clear N;cases ac:zAD.remove D [zBa (nm pre)]with
      | mk D3 e3 =>
       have ag:=zW (∀W,zAm w W l d pre D {M with entries:=es} F→Calls prog 140 #[.pointer (some ⟨d,0,none⟩),.slice (some ⟨W.heap.size,0,none⟩) 1 1] (W.alloc (.cells #[.string (zDI pre)] 9)) fun e w'=>e=.returned (.int .i64 (e3:Int))∧zAm w w' l d pre D3 {M with entries:=es} F∧Same F W w'∧w'.heap[l]?=W.heap[l]?) (fun W h=>by
        have:=led_remove h (zDI pre) (by rw[zDD];omega);rwa[zEC,ac]at this)
       have Z:=zW (zCM D (nm pre) M.base=(D3,e3,es)) (by rw[T.o,if_pos I,ac]);clear ac I;go_wp2_with fail;have y:=zW (Same F w1 wr.drew) ak.o;have p:=zh (P.o.next (zAG _));obtain⟨C,E,-⟩:=P.o.lc;refine ost (fun w':World=>w'.cell? ⟨l,0,none⟩=some (.pointer (some ⟨d,0,none⟩))∧w'.cell? ⟨l,1,none⟩=some (.string pre)) 9 (⟨C,E⟩) fun b=>?_;generalize wr.drew=J at *;refine Pl [0,1,2,3,4] ?_
       iterate 5 (refine Pc rfl ?_;simp only[uZ])
       refine Pn ?_;refine oon 5 rfl fun K t=>?_;go_wp2_with fail;refine(zAQ ⟨b.1,b.2,R⟩).mono ?_;rintro e w9 ⟨rfl,rfl⟩;go_wp2_with fail;refine t.o _ _ (b) fun b=>?_;clear t
       try simp only[uZ]
       refine oon 6 rfl fun K t=>?_;have aa:=zW ((J.alloc (.cells #[.string (zDI pre)] 9)).cell? ⟨l,0,none⟩=some (.pointer (some ⟨d,0,none⟩))∧(J.alloc (.cells #[.string (zDI pre)] 9)).cell? ⟨l,1,none⟩=some (.string pre)) (⟨zAP b.1 _,zAP b.2 _⟩);go_wp2_with fail;refine t.o _ _ (aa.o) fun b=>?_;clear t
       try simp only[uZ]
       refine oon 7 rfl fun K t=>?_;go_wp2_with fail;refine(ag.o J p.o).mono ?_;rintro e w8 ⟨rfl,A,B,a⟩;have r:=zh (p.o.lc.same a);have S:=zW (zCu w w1 l d pre M F (zCM D (nm pre) M.base) (.returned (.int .i64 (e3:Int))) w8) (zEM A (fun k z=>(B k z).trans (y.o k z)) Z.o);clear A B a;go_wp2_with fail;refine t.o _ _ (⟨r.o.1,r.o.2.1⟩) fun b=>?_;clear t
       try simp only[uZ]
       refine otk 8 (v:=?v10x8) rfl ?_;simp only[uZ];refine odn ?_;go_wp2_with fail;go_ret;exact S.o
     ·have N:((({M with entries:=es}:zAl).entries.length:Int)==0)=false:=by
       have:es.length≠0:=fun e=>I (List.eq_nil_of_length_eq_zero e)
       show((es.length:Int)==0)=false
       simp;omega
      have S:=zW (zCu w w1 l d pre M F (zCM D (nm pre) M.base) (.returned (.int .i64 0)) wr) (zEM (k:=0) P.o ak.o (by rw[T.o,if_neg I]));generalize ({M with entries:=es}:zAl).entries.length=m4 at *;clear I;go_wp2_with fail;go_ret;exact S.o
end
def zD2 (w w1:World)(d:Nat)(pre:ByteArray)(F:Nat→Prop)(r:zAD×Nat×zAl)(e:Ending)(w':World):Prop :=
 St w w' d r.1 F∧Same F w1 w'∧((r.2.1=0∧∃l,e=.returned (.tuple #[.pointer (some ⟨l,0,none⟩),.int .i64 0])∧zAm w w' l d pre r.1 r.2.2 F)∨(r.2.1≠0∧e=.returned (.tuple #[.pointer none,.int .i64 (r.2.1:Int)])))
structure Opens (D:zAD)(pre:Bs) where
 D1:zAD
 e1:Nat
 h1:D.rid [zAL (zCT pre)]=(D1,e1)
 i:Nat×Nat×Bs
 hi:zA2 (Sat.get (zCT pre) D1.files)=i
 g:zAD×Nat×List Bs
 hg:zCM D1 pre i.2.1=g
theorem opens_of (D:zAD)(pre:Bs):Nonempty (Opens D pre):=⟨⟨_,_,rfl,_,rfl,_,rfl⟩⟩
section
variable {D:zAD} {pre:Bs} (O:Opens D pre)
theorem open_e1 (h:¬(pre.length<1∨20<pre.length))(b:O.e1≠0):zA6 D pre=(O.D1,O.e1,zAl.none0):=by
 unfold zA6;rw[if_neg h,O.h1];exact if_pos b
theorem open_e2 (h:¬(pre.length<1∨20<pre.length))(b:O.e1=0)(c:O.i.1≠0):zA6 D pre=(O.D1,O.i.1,zAl.none0):=by
 unfold zA6;rw[if_neg h,O.h1];rw[if_neg (by simpa using b)];dsimp only;rw[O.hi,if_pos c]
theorem open_e3 (h:¬(pre.length<1∨20<pre.length))(b:O.e1=0)(c:O.i.1=0):zA6 D pre=(O.g.1,O.g.2.1,⟨O.i.2.1,O.i.2.2,O.g.2.2,false⟩):=by
 unfold zA6;rw[if_neg h,O.h1];rw[if_neg (by simpa using b)];dsimp only;rw[O.hi,if_neg (by simpa using c),O.hg]
end
def OpenRel (w n:World)(l d:Nat)(pre:ByteArray)(G:Nat→Prop)(D c i:zAD)(j k:zAl)(b f m:Nat)(x:Value)(wr:World):Prop :=
 Same G n wr∧((x=.int .i64 0∧zAm w wr l d pre D zAl.none0 G)∨(x=.int .i64 1∧b=0∧zAm w wr l d pre c zAl.none0 G)∨(x=.int .i64 2∧b=0∧f=0∧zAm w wr l d pre c j G)∨(x=.int .i64 3∧b=0∧f=0∧m=0∧zAm w wr l d pre i k G))
theorem led_clears {w w1:World}{l d:Nat}{pre:ByteArray}{D:zAD}{M:zAl}{F:Nat→Prop}(h:zAm w w1 l d pre D M F) :
  Calls prog 73 #[.pointer (some ⟨l,0,none⟩)] w1 fun e w'=>e=.returned (.int .i64 ((D.rid [zAL (zCT (nm pre))]).2:Int))∧zAm w w' l d pre (D.rid [zAL (zCT (nm pre))]).1 M F∧Same F w1 w':=by
 obtain⟨own,j,ev,vs,f,hS,hn,m⟩:=h;refine(clears_calls hS f.lc (.inl f.ol)).mono ?_;rintro e w' ⟨rfl,b,i⟩;exact⟨rfl,⟨own,j,ev,vs,f.keep (fun k c=>i k (.inl c)) fun k c=>b.flt (.inl c),b,hn,fun k c=>b.flt (.inr c)⟩,fun k c=>i k (.inr c)⟩
theorem led_fresh {w w1:World}{d:Nat}{D:zAD}{F:Nat→Prop}(h:St w w1 d D F)(pre:ByteArray)(n:1≤pre.size∧pre.size≤20) :
  zAm w (w1.alloc (.cells #[.pointer (some ⟨d,0,none⟩),.string pre,.int .i64 0,.slice none 0 0,.slice none 0 0,.bool false] 130)) w1.heap.size d pre D zAl.none0 F:=by
 have f:=zBN w1 (.cells #[.pointer (some ⟨d,0,none⟩),.string pre,.int .i64 0,.slice none 0 0,.slice none 0 0,.bool false] 130);refine⟨fun k=>k=w1.heap.size,.slice none 0 0,.slice none 0 0,[],⟨zAF w1 _,OwnR.nil _ _ _,OwnR.nil _ _ _,fun i u b j=>(by simp at j),rfl,fun k c=>(by cases c),fun k c=>(by cases c),fun u j=>(by simp at j),fun k c=>(by rw[c];simp),Nat.zero_le _,n,⟨Nat.zero_le _,fun b f=>(by cases f)⟩⟩,h.move (Chg.of_below f) (fun _ _ h=>h.elim) (fun k c=>?_),fun k c=>⟨by rw[c];exact h.below.size,fun m=>by have:=h.flt m;omega⟩,fun k c=>Nat.lt_of_lt_of_le (h.flt c) f.size⟩;rcases c with c|c
 ·exact⟨.inr (by omega),by rw[c];simp⟩
 ·exact⟨.inl c,Nat.lt_of_lt_of_le (h.flt c) f.size⟩
theorem open_calls {w w1:World}{d:Nat}{D:zAD}{F:Nat→Prop}(h:St w w1 d D F)(pre:ByteArray) :
  Calls prog 30 #[.pointer (some ⟨d,0,none⟩),.string pre] w1 (zD2 w w1 d pre F (zA6 D (nm pre))):=by
 have B:(nm pre).length=pre.size:=zDk pre
 by_cases U:(nm pre).length<1∨20<(nm pre).length
 ·have c:=zW (zD2 w w1 d pre F (zA6 D (nm pre)) (.returned (.tuple #[.pointer none,.int .i64 1])) w1) (by
   unfold zA6;rw[if_pos U];exact⟨h,fun _ _=>rfl,.inr ⟨(show(1:Nat)≠0 by decide),rfl⟩⟩)
  rw[B]at U;clear h B;generalize ad:pre.size=z at *
  by_cases hz:z<1
  ·have ac:z=0:=by omega
   subst ac
   go_enter func30,ntmps30
   go_wp2_with fail
   go_ret2
   exact c.o
  ·have ai:20<z:=by omega
   go_enter func30,ntmps30
   go_wp2_with fail
   go_ret2
   exact c.o
 ·obtain⟨O⟩:=opens_of D (nm pre);have V:1≤pre.size∧pre.size≤20:=by rw[B]at U;omega
  have H0:=zh (led_fresh h pre V);have aa:=zh (zBQ h (zBN w1 (.cells #[.pointer (some ⟨d,0,none⟩),.string pre,.int .i64 0,.slice none 0 0,.slice none 0 0,.bool false] 130)));have X:=zh U;obtain⟨ag,ah⟩:=V;have af:∀(fn:Fn) (first cap:Array Value) (w:World),(Instr.makeFunc fn first cap).run prog w=.ok (.func fn first cap) w:=fun _ _ _ _=>rfl;clear h B U;generalize ad:pre.size=z at *
  go_enter func30,ntmps30
  go_wp2_with fail;have W:(w1.alloc (.cells #[.pointer (some ⟨d,0,none⟩),.string pre,.int .i64 0,.slice none 0 0,.slice none 0 0,.bool false] 130)).heap.size=w1.heap.size+1:=by simp
  have H:=H0.o.box (.cells #[.func (.func 73) #[.pointer (some ⟨w1.heap.size,0,none⟩)] #[],.func (.func 74) #[.pointer (some ⟨w1.heap.size,0,none⟩)] #[],.func (.func 75) #[.pointer (some ⟨w1.heap.size,0,none⟩)] #[]] 57);have J:=zAF (w1.alloc (.cells #[.pointer (some ⟨d,0,none⟩),.string pre,.int .i64 0,.slice none 0 0,.slice none 0 0,.bool false] 130)) (.cells #[.func (.func 73) #[.pointer (some ⟨w1.heap.size,0,none⟩)] #[],.func (.func 74) #[.pointer (some ⟨w1.heap.size,0,none⟩)] #[],.func (.func 75) #[.pointer (some ⟨w1.heap.size,0,none⟩)] #[]] 57);rw[W]at H J;have Z:=zh H;have ab:=zW (Same F w1 ((w1.alloc (.cells #[.pointer (some ⟨d,0,none⟩),.string pre,.int .i64 0,.slice none 0 0,.slice none 0 0,.bool false] 130)).alloc (.cells #[.func (.func 73) #[.pointer (some ⟨w1.heap.size,0,none⟩)] #[],.func (.func 74) #[.pointer (some ⟨w1.heap.size,0,none⟩)] #[],.func (.func 75) #[.pointer (some ⟨w1.heap.size,0,none⟩)] #[]] 57))) fun k S=>(H0.o.same (zBN _ _) k S).trans (aa.o k S);have K:=zh J;clear W H J;generalize (w1.alloc (.cells #[.pointer (some ⟨d,0,none⟩),.string pre,.int .i64 0,.slice none 0 0,.slice none 0 0,.bool false] 130)).alloc (.cells #[.func (.func 73) #[.pointer (some ⟨w1.heap.size,0,none⟩)] #[],.func (.func 74) #[.pointer (some ⟨w1.heap.size,0,none⟩)] #[],.func (.func 75) #[.pointer (some ⟨w1.heap.size,0,none⟩)] #[]] 57)=Y at *;generalize w1.heap.size=l at *
  go_loopw [34] (OpenRel w Y l d pre (fun k=>F k∨k=l+1) D O.D1 O.g.1 ⟨O.i.2.1,O.i.2.2,[],false⟩ ⟨O.i.2.1,O.i.2.2,O.g.2.2,false⟩ O.e1 O.i.1 O.g.2.1) (fun i _=>3-(intOf i).toNat)
  case atStart=>exact⟨fun _ _=>rfl,.inl ⟨rfl,Z.o⟩⟩
  case round =>
   obtain⟨A,hx⟩:=hrel;have a:=(A (l+1) (.inr rfl)).trans K.o;have k0:=cell0 a;have k1:=zCF a;have k2:=zCG a;have y:=zW (Same F w1 wr) fun k S=>(A k (.inl S)).trans (ab.o k S);have G:=zh A;clear A a;rcases hx with⟨rfl,q⟩|⟨rfl,m,q⟩|⟨rfl,m,t,q⟩|⟨rfl,m,t,b,q⟩
   ·have I:=led_clears q;rw[O.h1]at I;have E:=zh I;clear I q
    by_cases f:O.e1=0
    ·have n:=zh f;rw[f]at E;clear f;go_wp2_with fail;refine E.o.mono ?_;rintro e w3 ⟨rfl,s,v⟩;have c:=zW (OpenRel w Y l d pre (fun k=>F k∨k=l+1) D O.D1 O.g.1 ⟨O.i.2.1,O.i.2.2,[],false⟩ ⟨O.i.2.1,O.i.2.2,O.g.2.2,false⟩ O.e1 O.i.1 O.g.2.1 (.int .i64 1) w3) (⟨G.o.trans v,.inr (.inl ⟨rfl,n.o,s⟩)⟩);clear s v;go_wp2_with fail;go_roundw
     case rel=>first|exact c.o|((repeat apply Exists.intro);exact⟨c.o,rfl⟩)
     case measure=>simp[intOf]
    ·have T:((O.e1:Int) != 0)=true:=by simp;omega
     have N:=zh (open_e1 O X.o f);have n:=zh f;clear f;generalize ae:O.e1=k at *;go_wp2_with fail;refine E.o.mono ?_;rintro e w3 ⟨rfl,s,v⟩;have c:=zW (zD2 w w1 d pre F (zA6 D (nm pre)) (.returned (.tuple #[.pointer none,.int .i64 (k:Int)])) w3) (by
      rw[N.o];exact⟨s.stF.less fun _ h=>.inl h,fun j C=>(v j (.inl C)).trans (y.o j C),.inr ⟨n.o,rfl⟩⟩)
     clear s v;go_wp2_with fail
     go_ret2
     exact c.o
   ·have L:=image_calls q;rw[O.hi]at L;have Q:=zh L;have r:=zh m;clear L q m
    by_cases f:O.i.1=0
    ·have n:=zh f;clear f;go_wp2_with fail;refine Q.o.mono ?_;intro e w3 p;have c:=zW (OpenRel w Y l d pre (fun k=>F k∨k=l+1) D O.D1 O.g.1 ⟨O.i.2.1,O.i.2.2,[],false⟩ ⟨O.i.2.1,O.i.2.2,O.g.2.2,false⟩ O.e1 O.i.1 O.g.2.1 (.int .i64 2) w3) (⟨G.o.trans p.2.2.2,.inr (.inr (.inl ⟨rfl,r.o,n.o,p.2.1 n.o⟩))⟩);obtain⟨b,-⟩:=p;rw[n.o]at b;subst b;go_wp2_with fail;go_roundw
     case rel=>first|exact c.o|((repeat apply Exists.intro);exact⟨c.o,rfl⟩)
     case measure=>simp[intOf]
    ·have T:((O.i.1:Int) != 0)=true:=by simp;omega
     have N:=zh (open_e2 O X.o r.o f);have n:=zh f;clear f;go_wp2_with fail;refine Q.o.mono ?_;intro e w3 p;have c:=zW (zD2 w w1 d pre F (zA6 D (nm pre)) (.returned (.tuple #[.pointer none,.int .i64 (O.i.1:Int)])) w3) (by
      rw[N.o];exact⟨p.2.2.1.less fun _ h=>.inl h,fun j C=>(p.2.2.2 j (.inl C)).trans (y.o j C),.inr ⟨n.o,rfl⟩⟩)
     obtain⟨b,-⟩:=p;subst b;generalize O.i.1=k at *;go_wp2_with fail
     go_ret2
     exact c.o
   ·have M:=log_calls q rfl;rw[show zCM O.D1 (nm pre) (zAl.mk O.i.2.1 O.i.2.2 [] false).base=O.g from O.hg]at M;have R:=zh M;have r:=zh m;have P:=zh t;clear M q m t
    by_cases f:O.g.2.1=0
    ·have n:=zh f;clear f;go_wp2_with fail;refine R.o.mono ?_;intro e w3 p;have c:=zW (OpenRel w Y l d pre (fun k=>F k∨k=l+1) D O.D1 O.g.1 ⟨O.i.2.1,O.i.2.2,[],false⟩ ⟨O.i.2.1,O.i.2.2,O.g.2.2,false⟩ O.e1 O.i.1 O.g.2.1 (.int .i64 3) w3) (⟨G.o.trans p.2.2.1,.inr (.inr (.inr ⟨rfl,r.o,P.o,n.o,p.2.2.2 n.o⟩))⟩);obtain⟨b,-⟩:=p;rw[n.o]at b;subst b;go_wp2_with fail;go_roundw
     case rel=>first|exact c.o|((repeat apply Exists.intro);exact⟨c.o,rfl⟩)
     case measure=>simp[intOf]
    ·have T:((O.g.2.1:Int) != 0)=true:=by simp;omega
     have N:=zh (open_e3 O X.o r.o P.o);have n:=zh f;clear f;go_wp2_with fail;refine R.o.mono ?_;intro e w3 p;have c:=zW (zD2 w w1 d pre F (zA6 D (nm pre)) (.returned (.tuple #[.pointer none,.int .i64 (O.g.2.1:Int)])) w3) (by
      rw[N.o];exact⟨p.2.1.less fun _ h=>.inl h,fun j C=>(p.2.2.1 j (.inl C)).trans (y.o j C),.inr ⟨n.o,rfl⟩⟩)
     obtain⟨b,-⟩:=p;subst b;generalize O.g.2.1=k at *;go_wp2_with fail
     go_ret2
     exact c.o
   ·have c:=zW (zD2 w w1 d pre F (zA6 D (nm pre)) (.returned (.tuple #[.pointer (some ⟨l,0,none⟩),.int .i64 0])) wr) (by
     rw[open_e3 O X.o m t];exact⟨q.stF.less fun _ h=>.inl h,y.o,.inl ⟨b,l,rfl,q.less fun _ h=>.inl h⟩⟩)
    clear q m t b;go_wp2_with fail
    go_ret2
    exact c.o
end Go.Proofs.YtmcanphlgkolcaaGreatDoor
