/- What the program's functions and the document's do, and plain laws, for PZoneStates. -/
import Derived.Test.YtmcanphlgkolcaaGreatDoorCA
import Derived.Test.YtmcanphlgkolcaaGreatDoorCD
import Derived.Test.YtmcanphlgkolcaaGreatDoorCF
import Derived.Test.YtmcanphlgkolcaaGreatDoorCH
open Go.Proofs.Tryz
set_option maxRecDepth 100000
set_option maxHeartbeats 64000000
namespace Go.Proofs.YtmcanphlgkolcaaGreatDoor
open Go.RowKit Go.Sat Go.Maps
def zB5 (w w1:World)(l d:Nat)(pre:ByteArray)(F:Nat→Prop)(r:Wrote)(e:Ending)(w':World):Prop :=
 e=.returned (.tuple #[.int .i64 (r.num:Int),.int .i64 (r.err:Int)])∧zAm w w' l d pre r.disk r.led F∧Same F w1 w'
section
variable {w w1 w2 wc:World} {l d:Nat} {pre:ByteArray} {D:zAD} {M:zAl} {F:Nat→Prop}
theorem led_append (h:zAm w w1 l d pre D M F)(c:Below w1.heap.size w1 wc)(s:ByteArray)(x:Value)(ls:List Bs)(i:zBM wc x ls)(hn:ls.length≤140737488355328)(f:ls.flatten.length≤140737488355328)(b:s.size≤9223372036854775807) :
  Calls prog 98 #[.pointer (some ⟨d,0,none⟩),.string s,x] wc fun e w'=>e=.returned (.int .i64 ((D.append (nm s) ls.flatten).2:Int))∧zAm w w' l d pre (D.append (nm s) ls.flatten).1 M F∧Same F w1 w'∧w'.heap[l]?=w1.heap[l]? :=
 zEi h c fun _ hS=>st_append (hS.next c) s x ls i hn f b
theorem app_dead (c:M.dead=true)(b:Bs):zAV (nm pre) D M b=⟨D,M,0,9⟩:=by unfold zAV;rw[if_pos c]
theorem app_long (c:M.dead=false)(b:Bs)(h:65536<b.length∨1099511627776≤M.last):zAV (nm pre) D M b=⟨D,M,0,5⟩:=by unfold zAV;rw[if_neg (by simp[c]),if_pos h]
theorem app_err (d:M.dead=false)(b:Bs)(h:¬(65536<b.length∨1099511627776≤M.last)){r:zAD×Nat}(f:layOn D (zBa (nm pre)) (zAM (zCh (M.last+1) b))=r)(c:r.2≠0):zAV (nm pre) D M b=⟨r.1,M.die,0,r.2⟩:=by
 unfold zAV;rw[if_neg (by simp[d]),if_neg h,f,if_pos c]
theorem app_ok (d:M.dead=false)(b:Bs)(h:¬(65536<b.length∨1099511627776≤M.last)){r:zAD×Nat}(f:layOn D (zBa (nm pre)) (zAM (zCh (M.last+1) b))=r)(c:r.2=0):zAV (nm pre) D M b=⟨r.1,{M with entries:=M.entries++[b] },M.last+1,0⟩:=by
 unfold zAV;rw[if_neg (by simp[d]),if_neg h,f,if_neg (by simpa using c)]
theorem wr_fresh (w:World)(fr:Nat×Nat):fr=(0,0)→zES (w.alloc (.cells #[.slice none 0 0] 133 fr)) w.heap.size (.slice none 0 0) []:=fun h=>by
 subst h;exact⟨zAF w _,OwnR.nil _ _ _,fun e=>by cases e⟩
theorem wr_below {b c i:World}{k:Nat}{v o:Value}(d:Below b.heap.size b c)(q:b.heap.size≤k)(n:∀j,v.ownBlock=some j→b.heap.size≤j)(p:Chg (WrS k v) c i)(hn:∀j,o.ownBlock=some j→v.ownBlock=some j∨c.heap.size≤j):Below b.heap.size b i∧∀j,o.ownBlock=some j→b.heap.size≤j :=
 ⟨d.trans (p.below d.size fun j m f=>by
  rcases f with rfl|f
  ·omega
  ·have:=n j f;omega),fun j m=>(hn j m).elim (n j) (Nat.le_trans d.size)⟩
theorem zDX (h:zAm w w1 l d pre D M F){pp:Option Addr}{n c:Nat}{b:Bs}(hx:∀W,Below w.heap.size w W→Same F w1 W→zAf W (.slice pp n c) b)(cd:b.length≤140737488355328) :
  Calls prog 43 #[.pointer (some ⟨l,0,none⟩),.slice pp n c] w1 (zB5 w w1 l d pre F (zAV (nm pre) D M b)):=by
 obtain⟨i0,hi,aL,aM,aN⟩:=info_parts (show(prog.info? 39).map (fun i=>(i.zero,i.size,i.bytes))=some (some (.slice none 0 0),1,24) by kernel_rfl);have hn:b.length=n:=by obtain⟨_,_,e⟩:=(hx w1 h.bel fun _ _=>rfl).slice;simp only[Value.slice.injEq]at e;exact e.2.1.symm
 have aB:=h.psz.2;have aR:=h.last;obtain⟨dv,ev,bD,-⟩:=h.cells;have k5:=cell5 bD;have H:=zh h;have Hx:=zh hx;have bt:=zh (zAv h);clear h hx bD;cases hd:M.dead with
 | true =>
  have HE:=zW (zB5 w w1 l d pre F (zAV (nm pre) D M b) (.returned (.tuple #[.int .i64 0,.int .i64 9])) w1) (by rw[app_dead hd];exact⟨rfl,H.o,fun _ _=>rfl⟩);have cc:w1.cell? ⟨l,5,none⟩=some (.bool true):=by rw[←hd];exact k5
  clear k5 hd
  go_enter func43,ntmps43
  go_wp2_with fail
  go_ret2
  exact HE.o
 | false =>
  have cc:w1.cell? ⟨l,5,none⟩=some (.bool false):=by rw[←hd];exact k5
  have Hd:=zh hd;clear k5 hd
  by_cases cg:65536<n
  ·have HE:=zW (zB5 w w1 l d pre F (zAV (nm pre) D M b) (.returned (.tuple #[.int .i64 0,.int .i64 5])) w1) (by rw[app_long Hd.o _ (.inl (by omega))];exact⟨rfl,H.o,fun _ _=>rfl⟩)
   go_enter func43,ntmps43
   go_wp2_with fail
   go_ret2
   exact HE.o
  ·by_cases aQ:1099511627776≤M.last
   ·have HE:=zh (fun q=>show zB5 w w1 l d pre F (zAV (nm pre) D M b) (.returned (.tuple #[.int .i64 0,.int .i64 5])) (w1.drewN q) by rw[app_long Hd.o _ (.inr aQ)];exact⟨rfl,H.o.next ⟨rfl,rfl,rfl,Nat.le_refl _,fun _ _=>rfl⟩,fun _ _=>rfl⟩);generalize M.last=la at *
    go_enter func43,ntmps43
    go_wp2_with fail;refine bt.o.mono ?_;rintro e w2 ⟨rfl,q,rfl⟩;go_wp2_with fail
    go_ret2
    exact HE.o q
   ·have be:=zW (¬(65536<b.length∨1099511627776≤M.last)) (fun e=>e.elim (by omega) aQ);have ai:=zh (show M.last+1≤1099511627776 by omega);have Q:=zh (show M.entries.length≤1099511627776 by unfold zAl.last at aR;omega);have ao:=zh (show b.length≤1073741824 by omega);have ci:=zW (M.last=M.last) rfl
    go_enter func43,ntmps43
    generalize ba:M.last=la at *;have V:=zh ba;clear ba;go_wp2_with fail;refine bt.o.mono ?_;rintro e w2 ⟨rfl,q,rfl⟩;go_wp2_with fail;have bO:=zh (H.o.next (show Below w1.heap.size w1 ((w1.drewN q).alloc (.cells #[.slice none 0 0] 133))from(show Below w1.heap.size w1 (w1.drewN q)from⟨rfl,rfl,rfl,Nat.le_refl _,fun _ _=>rfl⟩).alloc (Nat.le_refl _) _));have cj:=zW (Same F w1 ((w1.drewN q).alloc (.cells #[.slice none 0 0] 133))) fun k I=>(zAU (w1.drewN q) _).block k (H.o.flt I);have bY:=zW (zES ((w1.drewN q).alloc (.cells #[.slice none 0 0] 133)) w1.heap.size (.slice none 0 0) []) (wr_fresh (w1.drewN q) (0,0) rfl);have bb:=zW (Below w1.heap.size w1 ((w1.drewN q).alloc (.cells #[.slice none 0 0] 133))) ((show Below w1.heap.size w1 (w1.drewN q)from⟨rfl,rfl,rfl,Nat.le_refl _,fun _ _=>rfl⟩).alloc (Nat.le_refl _) _);have aZ:=zh (zAv bO.o);rw[V.o]at aZ;generalize (w1.drewN q).alloc (.cells #[.slice none 0 0] 133)=W2 at *;refine aZ.o.mono ?_;rintro e w3 ⟨rfl,q2,rfl⟩;have bg:Below W2.heap.size W2 (W2.drewN q2):=⟨rfl,rfl,rfl,Nat.le_refl _,fun _ _=>rfl⟩;have bV:=zh (wnum_one (bY.o.keep bg) ((la:Int)+1) ⟨by omega,by have:=ai.o;omega⟩ (by simp) W2.heap.size 1 rfl (0,0));have bP:=zW (Below w1.heap.size w1 ((W2.drewN q2).alloc (.cells #[.int .i64 ((la:Int)+1)] 3))) ((bb.o.trans (bg.mono bb.o.size)).alloc bb.o.size _);have cl:(la:Int)≤1099511627776:=by have:=ai.o;omega
    clear bg;go_wp2_with fail;refine bV.o.mono ?_;rintro e w3 ⟨rfl,v3,bj,bB,bJ⟩;have aJ:=zh (wr_below bP.o (Nat.le_refl _) (fun j s=>by cases s) bB bJ);have ck:=zh bj;have bR:=zh (wbytes_one bj (pv:=pp) (m:=n) (cv:=c) (x:=b) (fun W hc=>by
     have bA:Below w1.heap.size w1 W:=aJ.o.1.trans (hc.below aJ.o.1.size fun j s hs=>by
      rcases hs with rfl|hs
      ·omega
      ·have:=aJ.o.2 j hs;omega)
     exact Hx.o W (H.o.bel.trans (bA.mono H.o.bel.size)) fun k I=>bA.block k (H.o.flt I)) (by
     have h1:=zEk ((la:Int)+1);rw[List.nil_append];have:=ao.o;omega) w3.heap.size 1 rfl (0,0))
    have bQ:=zW (Below w1.heap.size w1 (w3.alloc (.cells #[.slice pp n c] 39))) (aJ.o.1.alloc aJ.o.1.size _);clear bj bB bJ;go_wp2_with fail;refine bR.o.mono ?_;rintro e w4 ⟨rfl,v4,bk,bC,bK⟩;have bn:=zh (wr_below bQ.o (Nat.le_refl _) aJ.o.2 bC bK).1;have bG:[]++zEU ((la:Int)+1)++zAw b=zCh (la+1) b:=by
     rw[List.nil_append];unfold zCh;rw[show((la:Int)+1)=((la+1:Nat):Int) by omega,zDa (by have:=ai.o;omega)]
    rw[bG]at bk;have bH:(zCh (la+1) b).length≤70000:=by
     unfold zCh zAw;have h1:=zAk (n:=la+1) (by have:=ai.o;omega);have h2:=zAk (n:=b.length) (by have:=ao.o;omega);rw[List.length_append,List.length_append];omega
    have bX:=zh (zDR bk (by omega));have bs:=zh bH;clear bk bC bK bG bH;generalize bu:zCh (la+1) b=im at *;have bN:=zh bu;clear bu;go_wp2_with fail;refine bX.o.mono ?_;rintro e w5 ⟨v5,rfl,bl,bZ,bv⟩;have aV:=zW (Below w1.heap.size w1 w5) (bn.o.trans (bv.mono bn.o.size));obtain⟨p5,c5,rfl,-⟩:=zAN bl;have bM:=zDC bl.has 39 (0,0) w5.heap.size 1 rfl (Nat.le_refl _);have bh:=enc_calls bM (by decide) (by rw[List.flatten_cons,List.flatten_nil,List.append_nil];have:=bs.o;omega);rw[show [im].flatten=im by rw[List.flatten_cons,List.flatten_nil,List.append_nil]]at bh;have bS:=zh bh;clear bl bZ bv bM bh;generalize bI:im.length=ml at *;have bU:=zh bI;clear bI;go_wp2_with fail;refine bS.o.mono ?_;rintro e w6 ⟨v6,rfl,bm,ca,bw⟩;have bo:=zW (Below w1.heap.size w1 w6) ((aV.o.alloc aV.o.size _).trans (bw.mono (aV.o.alloc aV.o.size _).size));have aK:=zh (H.o.next bo.o);have bf:=zh (H.o.same bo.o);obtain⟨pf,cf,rfl⟩:=zAf.slice bm;have bE:(zAM im).length≤70100:=by rw[zBO,bU.o];have:=bs.o;omega
    have bT:=zh bE;generalize bF:zAM im=fr at *;have br:=zW (zAM (zCh (M.last+1) b)=fr) (by rw[V.o,bN.o,bF]);have bd:=zh bm;clear bm ca bw bF bE;generalize bL:fr.length=nf at *;have bW:=zh bL;clear bL;cases aO:D.append (zBa (nm pre)) fr with
    | mk D1 e1 =>
     have aC:=zW (∀W,zAm w W l d pre D M F→zAf W (.slice pf nf cf) fr→Calls prog 98 #[.pointer (some ⟨d,0,none⟩),.string (zDI pre),.slice (some ⟨W.heap.size,0,none⟩) 1 1] (W.alloc (.cells #[.slice pf nf cf] 39)) fun e w'=>e=.returned (.int .i64 (e1:Int))∧zAm w w' l d pre D1 M F∧Same F W w'∧w'.heap[l]?=W.heap[l]?) (fun W h hf=>by
      have hr:=zDC hf 39 (0,0) W.heap.size 1 rfl (Nat.le_refl _);have:=led_append h (zBN W (.cells #[.slice pf nf cf] 39)) (zDI pre) _ [fr] hr (by simp) (by rw[List.flatten_cons,List.flatten_nil,List.append_nil,bW.o];have:=bT.o;omega) (by rw[zDD];omega);rwa[zEC,show [fr].flatten=fr by rw[List.flatten_cons,List.flatten_nil,List.append_nil],aO]at this)
     by_cases aP:e1=0
     ·subst aP;cases bi:D1.sync [zBa (nm pre)]with
      | mk D2 e2 =>
       have aW:=zW (layOn D (zBa (nm pre)) (zAM (zCh (M.last+1) b))=(D2,e2)) (by unfold layOn;rw[br.o,aO];rw[if_neg (by simp)];exact bi);have aX:=zW (∀W,zAm w W l d pre D1 M F→Calls prog 99 #[.pointer (some ⟨d,0,none⟩),.slice (some ⟨W.heap.size,0,none⟩) 1 1] (W.alloc (.cells #[.string (zDI pre)] 9)) fun e w'=>e=.returned (.int .i64 (e2:Int))∧zAm w w' l d pre D2 M F∧Same F W w'∧w'.heap[l]?=W.heap[l]?) (fun W h=>by
        have:=led_sync h (zDI pre) (by rw[zDD];omega);rwa[zEC,bi]at this)
       clear aO bi
       by_cases aY:e2=0
       ·subst aY;have HR:=zh (app_ok Hd.o b (by rw[V.o];exact be.o) aW.o rfl);go_wp2_with fail;have y:=zh (aK.o.next (zAG w6));have a:=zW (Same F w1 w6.drew) bf.o;have al:=zW (zAf w6.drew (.slice pf nf cf) fr) (zAf.below bd.o (zAG w6));obtain⟨am,an,-⟩:=aK.o.lc;refine ost (fun w':World=>w'.cell? ⟨l,0,none⟩=some (.pointer (some ⟨d,0,none⟩))∧w'.cell? ⟨l,1,none⟩=some (.string pre)) 10 (⟨am,an⟩) fun f=>?_;generalize w6.drew=O at *;refine Pl [0,1,2,3,4,6] ?_
        iterate 6 (refine Pc rfl ?_;simp only[uZ])
        refine Pn ?_;refine zCk 5 7 rfl rfl (by kernel_rfl) (by rfl) (by rfl) (fun K p=>?_) (fun K p=>?_)
        ·go_wp2_with fail;refine(zAQ ⟨f.1,f.2,aB⟩).mono ?_;rintro e N ⟨rfl,rfl⟩;go_wp2_with fail;refine p.o _ _ (f) fun f=>?_;clear p
         try simp only[uZ]
         refine oon 7 rfl fun K p=>?_;have P:=zW ((O.alloc (.cells #[.slice pf nf cf] 39)).cell? ⟨l,0,none⟩=some (.pointer (some ⟨d,0,none⟩))∧(O.alloc (.cells #[.slice pf nf cf] 39)).cell? ⟨l,1,none⟩=some (.string pre)) (⟨zAP f.1 _,zAP f.2 _⟩);go_wp2_with fail;refine p.o _ _ (P.o) fun f=>?_;clear p
         try simp only[uZ]
         refine oon 8 rfl fun K p=>?_;have S:=zh (aC.o O y.o al.o);go_wp2_with fail;refine S.o.mono ?_;rintro e w7 ⟨rfl,af,ag,ae⟩;have z:=zh (y.o.lc.same ae);have aj:=zh af;have ar:=zW (Same F w1 w7) fun k I=>(ag k I).trans (a.o k I);clear af ag ae S;go_wp2_with fail;refine p.o _ _ (⟨z.o.1,z.o.2.1⟩) fun f=>?_;clear p
         try simp only[uZ]
         refine otk 9 (v:=?v11x9) rfl ?_;simp only[uZ];refine odn ?_;clear y a al z;go_wp2_with fail;have y:=zh (aj.o.next (zAG w7));have a:=zW (Same F w1 w7.drew) ar.o;obtain⟨am,an,-⟩:=aj.o.lc;refine ost (fun w':World=>w'.cell? ⟨l,0,none⟩=some (.pointer (some ⟨d,0,none⟩))∧w'.cell? ⟨l,1,none⟩=some (.string pre)) 9 (⟨am,an⟩) fun f=>?_;generalize w7.drew=O at *;refine Pl [0,1,2,3,4] ?_
         iterate 5 (refine Pc rfl ?_;simp only[uZ])
         refine Pn ?_;refine oon 5 rfl fun K p=>?_;go_wp2_with fail;refine(zAQ ⟨f.1,f.2,aB⟩).mono ?_;rintro e N ⟨rfl,rfl⟩;go_wp2_with fail;refine p.o _ _ (f) fun f=>?_;clear p
         try simp only[uZ]
         refine oon 6 rfl fun K p=>?_;have P:=zW ((O.alloc (.cells #[.string (zDI pre)] 9)).cell? ⟨l,0,none⟩=some (.pointer (some ⟨d,0,none⟩))∧(O.alloc (.cells #[.string (zDI pre)] 9)).cell? ⟨l,1,none⟩=some (.string pre)) (⟨zAP f.1 _,zAP f.2 _⟩);go_wp2_with fail;refine p.o _ _ (P.o) fun f=>?_;clear p
         try simp only[uZ]
         refine oon 7 rfl fun K p=>?_;go_wp2_with fail;refine(aX.o O y.o).mono ?_;rintro e w8 ⟨rfl,aw,ax,av⟩;have z:=zh (y.o.lc.same av);have aG:=zh aw;have aI:=zW (Same F w1 w8) fun k I=>(ax k I).trans (a.o k I);clear aw ax av;go_wp2_with fail;refine p.o _ _ (⟨z.o.1,z.o.2.1⟩) fun f=>?_;clear p
         try simp only[uZ]
         refine otk 8 (v:=?v20x8) rfl ?_;simp only[uZ];refine odn ?_;clear y a z;have T:=zh (zBj aG.o 0);go_wp2_with fail;refine T.o.mono ?_;rintro e L ⟨rfl,E,G⟩;have R:=zh E;have X:=zW (Same F w1 L) fun k I=>(G k I).trans (aI.o k I);clear E G T;have bc:=zW (zAm w L l d pre D2 M F) (by
          have h:=R.o;have e:({M with dead:=M.dead||decide ((0:Nat)≠0) }:zAl)=M:=by
           rw[Hd.o]
           show(⟨M.base,M.data,M.entries,false⟩:zAl)=M
           rw[←Hd.o]
          rwa[e]at h)
         go_wp2_with fail;refine ost (fun _:World=>True) 12 (trivial) fun f=>?_;have y:=zh (bc.o.next (zAG L));have a:=zW (Same F w1 L.drew) X.o;generalize L.drew=O at *;obtain⟨own,dv,ev,vs,C,hS,hn,hl⟩:=y.o;have k4:=C.c4;have aS:=Hx.o O y.o.bel a.o;have aH:=zh (And.intro C (And.intro hS (And.intro hn hl)));have aD:=zh (zAx aS (by omega));obtain⟨pe,ce,rfl⟩:=OwnR.shape C.row;clear C hS hn hl aS;refine Pl [0,1,2,3,5] ?_
         iterate 5 (refine Pc rfl ?_;simp only[uZ])
         refine Pn ?_;refine zCk 4 6 rfl rfl (by kernel_rfl) (by rfl) (by rfl) (fun K p=>?_) (fun K p=>?_)
         ·go_wp2_with fail;refine p.o _ _ trivial fun f=>?_;clear p
          try simp only[uZ]
          refine oon 6 rfl fun K p=>?_;go_wp2_with fail;refine aD.o.mono ?_;rintro e N ⟨u,rfl,hu,ay,ak⟩;have aE:=(ak.cell (World.block_lt_of_cell? _ _ k4)).trans k4;have B:=zh (And.intro hu (And.intro ay ak));obtain⟨pu,cu,rfl,-⟩:=zAN hu;rw[hn]at B ⊢;clear hu ay ak aD;go_wp2_with fail;refine p.o _ _ trivial fun f=>?_;clear p
          try simp only[uZ]
          refine oon 7 rfl fun K p=>?_;have aF:=zAP aE (.cells #[.slice pu n cu] 39);go_wp2_with fail;refine p.o _ _ trivial fun f=>?_;clear p
          try simp only[uZ]
          refine oon 8 rfl fun K p=>?_;obtain⟨C,hS,hn,hl⟩:=aH.o;have ad:=(C.below B.o.2.2).row.keep (w':=N.alloc (.cells #[.slice pu n cu] 39)) fun j s=>(zAU N _).block j (Nat.lt_of_lt_of_le (C.olt j (C.oe j s).1) B.o.2.2.size);have ah:=zCn N (.slice pu n cu) 39 (0,0);refine zEF (.tmp 70) (.tmp 73) 128 rfl 39 i0 (.slice none 0 0) 1 24 underlying128 hi aL aM aN rfl (by decide) _ _ _ rfl ad (.slice (some ⟨N.heap.size,0,none⟩) 1 1) 1 _ rfl ah (by simp[Value.oneCell']) (by unfold maxLen;have:=Q.o;omega) (by have:=Q.o;omega) ?_;intro v3 w3 r t A;obtain⟨Y,Z,aa,J⟩:=zDB (C.below B.o.2.2) B.o.1 (fun j s ho=>by have h1:=B.o.2.1 j s;have h2:=C.olt j ho;omega) ao.o (by rw[V.o];exact ai.o) (zAU N _) r t A;obtain⟨ab,ac⟩:=zAm.turned hS hn hl Y (((Chg.of_below B.o.2.2).mono fun _ _ h=>h.elim).trans Z fun _ _ h=>h) fun j s=>by
           rcases s with s|s|s
           ·exact .inl s
           ·exact .inr (B.o.2.1 j s)
           ·exact(aa j s).imp id fun h=>Nat.le_trans B.o.2.2.size h
          have HQ:=zh (And.intro ab (show Same F w1 (w3.setCell ⟨l,4,none⟩ v3)from fun j s=>(ac j s).trans (a.o j s)));have az:=zAB (J.trans (C.below B.o.2.2).cells) (i:=4) rfl;have au:=zAE (J.trans (C.below B.o.2.2).cells) 4;obtain⟨p3,q3,rfl⟩:=OwnR.shape r;clear C hS hn hl ad ah r t A Y Z aa J ab ac;refine p.o _ _ trivial fun f=>?_;clear p
          try simp only[uZ]
          refine Pl [9,10] ?_
          iterate 2 (refine Pc rfl ?_;simp only[uZ])
          refine Pn ?_;refine oon 11 rfl fun K p=>?_;go_wp2_with fail;refine p.o _ _ (trivial) fun f=>?_;clear p
          try simp only[uZ]
          refine odn ?_;have U:=zh (zAv HQ.o.1);have aq:=zh HQ.o.2;have ap:=zh HQ.o.1;clear HQ az au;generalize w3.setCell ⟨l,4,none⟩ (.slice p3 (M.entries.length+1) q3)=wz at *;go_wp2_with fail;refine U.o.mono ?_;rintro e aU ⟨rfl,aA,rfl⟩;have HE:=zW (zB5 w w1 l d pre F (zAV (nm pre) D M b) (.returned (.tuple #[.int .i64 (({M with entries:=M.entries++[b] }:zAl).last:Int),.int .i64 0])) (wz.drewN aA)) (by
           rw[HR.o];refine⟨by rw[show({M with entries:=M.entries++[b] }:zAl).last=M.last+1 by unfold zAl.last;simp;omega];rfl,ap.o.next ⟨rfl,rfl,rfl,Nat.le_refl _,fun _ _=>rfl⟩,aq.o⟩)
          generalize ({M with entries:=M.entries++[b] }:zAl).last=aT at *;go_wp2_with fail
          go_ret2
          exact HE.o
         ·go_wp2_with fail;refine aD.o.mono ?_;rintro e N ⟨u,rfl,hu,ay,ak⟩;have aE:=(ak.cell (World.block_lt_of_cell? _ _ k4)).trans k4;have B:=zh (And.intro hu (And.intro ay ak));obtain⟨pu,cu,rfl,-⟩:=zAN hu;rw[hn]at B ⊢;clear hu ay ak aD;go_wp2_with fail;refine p.o _ _ trivial fun f=>?_;clear p
          try simp only[uZ]
          refine zCk 4 7 rfl rfl (by kernel_rfl) (by rfl) (by rfl) (fun K p=>?_) (fun K p=>?_)
          ·go_wp2_with fail;refine p.o _ _ trivial fun f=>?_;clear p
           try simp only[uZ]
           refine oon 7 rfl fun K p=>?_;have aF:=zAP aE (.cells #[.slice pu n cu] 39);go_wp2_with fail;refine p.o _ _ trivial fun f=>?_;clear p
           try simp only[uZ]
           refine oon 8 rfl fun K p=>?_;obtain⟨C,hS,hn,hl⟩:=aH.o;have ad:=(C.below B.o.2.2).row.keep (w':=N.alloc (.cells #[.slice pu n cu] 39)) fun j s=>(zAU N _).block j (Nat.lt_of_lt_of_le (C.olt j (C.oe j s).1) B.o.2.2.size);have ah:=zCn N (.slice pu n cu) 39 (0,0);refine zEF (.tmp 70) (.tmp 73) 128 rfl 39 i0 (.slice none 0 0) 1 24 underlying128 hi aL aM aN rfl (by decide) _ _ _ rfl ad (.slice (some ⟨N.heap.size,0,none⟩) 1 1) 1 _ rfl ah (by simp[Value.oneCell']) (by unfold maxLen;have:=Q.o;omega) (by have:=Q.o;omega) ?_;intro v3 w3 r t A;obtain⟨Y,Z,aa,J⟩:=zDB (C.below B.o.2.2) B.o.1 (fun j s ho=>by have h1:=B.o.2.1 j s;have h2:=C.olt j ho;omega) ao.o (by rw[V.o];exact ai.o) (zAU N _) r t A;obtain⟨ab,ac⟩:=zAm.turned hS hn hl Y (((Chg.of_below B.o.2.2).mono fun _ _ h=>h.elim).trans Z fun _ _ h=>h) fun j s=>by
            rcases s with s|s|s
            ·exact .inl s
            ·exact .inr (B.o.2.1 j s)
            ·exact(aa j s).imp id fun h=>Nat.le_trans B.o.2.2.size h
           have HQ:=zh (And.intro ab (show Same F w1 (w3.setCell ⟨l,4,none⟩ v3)from fun j s=>(ac j s).trans (a.o j s)));have az:=zAB (J.trans (C.below B.o.2.2).cells) (i:=4) rfl;have au:=zAE (J.trans (C.below B.o.2.2).cells) 4;obtain⟨p3,q3,rfl⟩:=OwnR.shape r;clear C hS hn hl ad ah r t A Y Z aa J ab ac;refine p.o _ _ trivial fun f=>?_;clear p
           try simp only[uZ]
           refine Pl [9,10] ?_
           iterate 2 (refine Pc rfl ?_;simp only[uZ])
           refine Pn ?_;refine oon 11 rfl fun K p=>?_;go_wp2_with fail;refine p.o _ _ (trivial) fun f=>?_;clear p
           try simp only[uZ]
           refine odn ?_;have U:=zh (zAv HQ.o.1);have aq:=zh HQ.o.2;have ap:=zh HQ.o.1;clear HQ az au;generalize w3.setCell ⟨l,4,none⟩ (.slice p3 (M.entries.length+1) q3)=wz at *;go_wp2_with fail;refine U.o.mono ?_;rintro e aU ⟨rfl,aA,rfl⟩;have HE:=zW (zB5 w w1 l d pre F (zAV (nm pre) D M b) (.returned (.tuple #[.int .i64 (({M with entries:=M.entries++[b] }:zAl).last:Int),.int .i64 0])) (wz.drewN aA)) (by
            rw[HR.o];refine⟨by rw[show({M with entries:=M.entries++[b] }:zAl).last=M.last+1 by unfold zAl.last;simp;omega];rfl,ap.o.next ⟨rfl,rfl,rfl,Nat.le_refl _,fun _ _=>rfl⟩,aq.o⟩)
           generalize ({M with entries:=M.entries++[b] }:zAl).last=aT at *;go_wp2_with fail
           go_ret2
           exact HE.o
          ·have aF:=zAP aE (.cells #[.slice pu n cu] 39);go_wp2_with fail;refine p.o _ _ trivial fun f=>?_;clear p
           try simp only[uZ]
           refine oon 4 rfl fun K p=>?_;go_wp2_with fail;refine p.o _ _ trivial fun f=>?_;clear p
           try simp only[uZ]
           refine oon 8 rfl fun K p=>?_;obtain⟨C,hS,hn,hl⟩:=aH.o;have ad:=(C.below B.o.2.2).row.keep (w':=N.alloc (.cells #[.slice pu n cu] 39)) fun j s=>(zAU N _).block j (Nat.lt_of_lt_of_le (C.olt j (C.oe j s).1) B.o.2.2.size);have ah:=zCn N (.slice pu n cu) 39 (0,0);refine zEF (.tmp 70) (.tmp 73) 128 rfl 39 i0 (.slice none 0 0) 1 24 underlying128 hi aL aM aN rfl (by decide) _ _ _ rfl ad (.slice (some ⟨N.heap.size,0,none⟩) 1 1) 1 _ rfl ah (by simp[Value.oneCell']) (by unfold maxLen;have:=Q.o;omega) (by have:=Q.o;omega) ?_;intro v3 w3 r t A;obtain⟨Y,Z,aa,J⟩:=zDB (C.below B.o.2.2) B.o.1 (fun j s ho=>by have h1:=B.o.2.1 j s;have h2:=C.olt j ho;omega) ao.o (by rw[V.o];exact ai.o) (zAU N _) r t A;obtain⟨ab,ac⟩:=zAm.turned hS hn hl Y (((Chg.of_below B.o.2.2).mono fun _ _ h=>h.elim).trans Z fun _ _ h=>h) fun j s=>by
            rcases s with s|s|s
            ·exact .inl s
            ·exact .inr (B.o.2.1 j s)
            ·exact(aa j s).imp id fun h=>Nat.le_trans B.o.2.2.size h
           have HQ:=zh (And.intro ab (show Same F w1 (w3.setCell ⟨l,4,none⟩ v3)from fun j s=>(ac j s).trans (a.o j s)));have az:=zAB (J.trans (C.below B.o.2.2).cells) (i:=4) rfl;have au:=zAE (J.trans (C.below B.o.2.2).cells) 4;obtain⟨p3,q3,rfl⟩:=OwnR.shape r;clear C hS hn hl ad ah r t A Y Z aa J ab ac;refine p.o _ _ trivial fun f=>?_;clear p
           try simp only[uZ]
           refine Pl [9,10] ?_
           iterate 2 (refine Pc rfl ?_;simp only[uZ])
           refine Pn ?_;refine oon 11 rfl fun K p=>?_;go_wp2_with fail;refine p.o _ _ (trivial) fun f=>?_;clear p
           try simp only[uZ]
           refine odn ?_;have U:=zh (zAv HQ.o.1);have aq:=zh HQ.o.2;have ap:=zh HQ.o.1;clear HQ az au;generalize w3.setCell ⟨l,4,none⟩ (.slice p3 (M.entries.length+1) q3)=wz at *;go_wp2_with fail;refine U.o.mono ?_;rintro e aU ⟨rfl,aA,rfl⟩;have HE:=zW (zB5 w w1 l d pre F (zAV (nm pre) D M b) (.returned (.tuple #[.int .i64 (({M with entries:=M.entries++[b] }:zAl).last:Int),.int .i64 0])) (wz.drewN aA)) (by
            rw[HR.o];refine⟨by rw[show({M with entries:=M.entries++[b] }:zAl).last=M.last+1 by unfold zAl.last;simp;omega];rfl,ap.o.next ⟨rfl,rfl,rfl,Nat.le_refl _,fun _ _=>rfl⟩,aq.o⟩)
           generalize ({M with entries:=M.entries++[b] }:zAl).last=aT at *;go_wp2_with fail
           go_ret2
           exact HE.o
        ·have P:=zW ((O.alloc (.cells #[.slice pf nf cf] 39)).cell? ⟨l,0,none⟩=some (.pointer (some ⟨d,0,none⟩))∧(O.alloc (.cells #[.slice pf nf cf] 39)).cell? ⟨l,1,none⟩=some (.string pre)) (⟨zAP f.1 _,zAP f.2 _⟩);go_wp2_with fail;refine p.o _ _ (P.o) fun f=>?_;clear p
         try simp only[uZ]
         refine oon 5 rfl fun K p=>?_;go_wp2_with fail;refine(zAQ ⟨f.1,f.2,aB⟩).mono ?_;rintro e N ⟨rfl,rfl⟩;go_wp2_with fail;refine p.o _ _ (f) fun f=>?_;clear p
         try simp only[uZ]
         refine oon 8 rfl fun K p=>?_;have S:=zh (aC.o O y.o al.o);go_wp2_with fail;refine S.o.mono ?_;rintro e w7 ⟨rfl,af,ag,ae⟩;have z:=zh (y.o.lc.same ae);have aj:=zh af;have ar:=zW (Same F w1 w7) fun k I=>(ag k I).trans (a.o k I);clear af ag ae S;go_wp2_with fail;refine p.o _ _ (⟨z.o.1,z.o.2.1⟩) fun f=>?_;clear p
         try simp only[uZ]
         refine otk 9 (v:=?v12x9) rfl ?_;simp only[uZ];refine odn ?_;clear y a al z;go_wp2_with fail;have y:=zh (aj.o.next (zAG w7));have a:=zW (Same F w1 w7.drew) ar.o;obtain⟨am,an,-⟩:=aj.o.lc;refine ost (fun w':World=>w'.cell? ⟨l,0,none⟩=some (.pointer (some ⟨d,0,none⟩))∧w'.cell? ⟨l,1,none⟩=some (.string pre)) 9 (⟨am,an⟩) fun f=>?_;generalize w7.drew=O at *;refine Pl [0,1,2,3,4] ?_
         iterate 5 (refine Pc rfl ?_;simp only[uZ])
         refine Pn ?_;refine oon 5 rfl fun K p=>?_;go_wp2_with fail;refine(zAQ ⟨f.1,f.2,aB⟩).mono ?_;rintro e N ⟨rfl,rfl⟩;go_wp2_with fail;refine p.o _ _ (f) fun f=>?_;clear p
         try simp only[uZ]
         refine oon 6 rfl fun K p=>?_;have P:=zW ((O.alloc (.cells #[.string (zDI pre)] 9)).cell? ⟨l,0,none⟩=some (.pointer (some ⟨d,0,none⟩))∧(O.alloc (.cells #[.string (zDI pre)] 9)).cell? ⟨l,1,none⟩=some (.string pre)) (⟨zAP f.1 _,zAP f.2 _⟩);go_wp2_with fail;refine p.o _ _ (P.o) fun f=>?_;clear p
         try simp only[uZ]
         refine oon 7 rfl fun K p=>?_;go_wp2_with fail;refine(aX.o O y.o).mono ?_;rintro e w8 ⟨rfl,aw,ax,av⟩;have z:=zh (y.o.lc.same av);have aG:=zh aw;have aI:=zW (Same F w1 w8) fun k I=>(ax k I).trans (a.o k I);clear aw ax av;go_wp2_with fail;refine p.o _ _ (⟨z.o.1,z.o.2.1⟩) fun f=>?_;clear p
         try simp only[uZ]
         refine otk 8 (v:=?v40x8) rfl ?_;simp only[uZ];refine odn ?_;clear y a z;have T:=zh (zBj aG.o 0);go_wp2_with fail;refine T.o.mono ?_;rintro e L ⟨rfl,E,G⟩;have R:=zh E;have X:=zW (Same F w1 L) fun k I=>(G k I).trans (aI.o k I);clear E G T;have bc:=zW (zAm w L l d pre D2 M F) (by
          have h:=R.o;have e:({M with dead:=M.dead||decide ((0:Nat)≠0) }:zAl)=M:=by
           rw[Hd.o]
           show(⟨M.base,M.data,M.entries,false⟩:zAl)=M
           rw[←Hd.o]
          rwa[e]at h)
         go_wp2_with fail;refine ost (fun _:World=>True) 12 (trivial) fun f=>?_;have y:=zh (bc.o.next (zAG L));have a:=zW (Same F w1 L.drew) X.o;generalize L.drew=O at *;obtain⟨own,dv,ev,vs,C,hS,hn,hl⟩:=y.o;have k4:=C.c4;have aS:=Hx.o O y.o.bel a.o;have aH:=zh (And.intro C (And.intro hS (And.intro hn hl)));have aD:=zh (zAx aS (by omega));obtain⟨pe,ce,rfl⟩:=OwnR.shape C.row;clear C hS hn hl aS;refine Pl [0,1,2,3,5] ?_
         iterate 5 (refine Pc rfl ?_;simp only[uZ])
         refine Pn ?_;refine zCk 4 6 rfl rfl (by kernel_rfl) (by rfl) (by rfl) (fun K p=>?_) (fun K p=>?_)
         ·go_wp2_with fail;refine p.o _ _ trivial fun f=>?_;clear p
          try simp only[uZ]
          refine oon 6 rfl fun K p=>?_;go_wp2_with fail;refine aD.o.mono ?_;rintro e N ⟨u,rfl,hu,ay,ak⟩;have aE:=(ak.cell (World.block_lt_of_cell? _ _ k4)).trans k4;have B:=zh (And.intro hu (And.intro ay ak));obtain⟨pu,cu,rfl,-⟩:=zAN hu;rw[hn]at B ⊢;clear hu ay ak aD;go_wp2_with fail;refine p.o _ _ trivial fun f=>?_;clear p
          try simp only[uZ]
          refine oon 7 rfl fun K p=>?_;have aF:=zAP aE (.cells #[.slice pu n cu] 39);go_wp2_with fail;refine p.o _ _ trivial fun f=>?_;clear p
          try simp only[uZ]
          refine oon 8 rfl fun K p=>?_;obtain⟨C,hS,hn,hl⟩:=aH.o;have ad:=(C.below B.o.2.2).row.keep (w':=N.alloc (.cells #[.slice pu n cu] 39)) fun j s=>(zAU N _).block j (Nat.lt_of_lt_of_le (C.olt j (C.oe j s).1) B.o.2.2.size);have ah:=zCn N (.slice pu n cu) 39 (0,0);refine zEF (.tmp 70) (.tmp 73) 128 rfl 39 i0 (.slice none 0 0) 1 24 underlying128 hi aL aM aN rfl (by decide) _ _ _ rfl ad (.slice (some ⟨N.heap.size,0,none⟩) 1 1) 1 _ rfl ah (by simp[Value.oneCell']) (by unfold maxLen;have:=Q.o;omega) (by have:=Q.o;omega) ?_;intro v3 w3 r t A;obtain⟨Y,Z,aa,J⟩:=zDB (C.below B.o.2.2) B.o.1 (fun j s ho=>by have h1:=B.o.2.1 j s;have h2:=C.olt j ho;omega) ao.o (by rw[V.o];exact ai.o) (zAU N _) r t A;obtain⟨ab,ac⟩:=zAm.turned hS hn hl Y (((Chg.of_below B.o.2.2).mono fun _ _ h=>h.elim).trans Z fun _ _ h=>h) fun j s=>by
           rcases s with s|s|s
           ·exact .inl s
           ·exact .inr (B.o.2.1 j s)
           ·exact(aa j s).imp id fun h=>Nat.le_trans B.o.2.2.size h
          have HQ:=zh (And.intro ab (show Same F w1 (w3.setCell ⟨l,4,none⟩ v3)from fun j s=>(ac j s).trans (a.o j s)));have az:=zAB (J.trans (C.below B.o.2.2).cells) (i:=4) rfl;have au:=zAE (J.trans (C.below B.o.2.2).cells) 4;obtain⟨p3,q3,rfl⟩:=OwnR.shape r;clear C hS hn hl ad ah r t A Y Z aa J ab ac;refine p.o _ _ trivial fun f=>?_;clear p
          try simp only[uZ]
          refine Pl [9,10] ?_
          iterate 2 (refine Pc rfl ?_;simp only[uZ])
          refine Pn ?_;refine oon 11 rfl fun K p=>?_;go_wp2_with fail;refine p.o _ _ (trivial) fun f=>?_;clear p
          try simp only[uZ]
          refine odn ?_;have U:=zh (zAv HQ.o.1);have aq:=zh HQ.o.2;have ap:=zh HQ.o.1;clear HQ az au;generalize w3.setCell ⟨l,4,none⟩ (.slice p3 (M.entries.length+1) q3)=wz at *;go_wp2_with fail;refine U.o.mono ?_;rintro e aU ⟨rfl,aA,rfl⟩;have HE:=zW (zB5 w w1 l d pre F (zAV (nm pre) D M b) (.returned (.tuple #[.int .i64 (({M with entries:=M.entries++[b] }:zAl).last:Int),.int .i64 0])) (wz.drewN aA)) (by
           rw[HR.o];refine⟨by rw[show({M with entries:=M.entries++[b] }:zAl).last=M.last+1 by unfold zAl.last;simp;omega];rfl,ap.o.next ⟨rfl,rfl,rfl,Nat.le_refl _,fun _ _=>rfl⟩,aq.o⟩)
          generalize ({M with entries:=M.entries++[b] }:zAl).last=aT at *;go_wp2_with fail
          go_ret2
          exact HE.o
         ·go_wp2_with fail;refine aD.o.mono ?_;rintro e N ⟨u,rfl,hu,ay,ak⟩;have aE:=(ak.cell (World.block_lt_of_cell? _ _ k4)).trans k4;have B:=zh (And.intro hu (And.intro ay ak));obtain⟨pu,cu,rfl,-⟩:=zAN hu;rw[hn]at B ⊢;clear hu ay ak aD;go_wp2_with fail;refine p.o _ _ trivial fun f=>?_;clear p
          try simp only[uZ]
          refine zCk 4 7 rfl rfl (by kernel_rfl) (by rfl) (by rfl) (fun K p=>?_) (fun K p=>?_)
          ·go_wp2_with fail;refine p.o _ _ trivial fun f=>?_;clear p
           try simp only[uZ]
           refine oon 7 rfl fun K p=>?_;have aF:=zAP aE (.cells #[.slice pu n cu] 39);go_wp2_with fail;refine p.o _ _ trivial fun f=>?_;clear p
           try simp only[uZ]
           refine oon 8 rfl fun K p=>?_;obtain⟨C,hS,hn,hl⟩:=aH.o;have ad:=(C.below B.o.2.2).row.keep (w':=N.alloc (.cells #[.slice pu n cu] 39)) fun j s=>(zAU N _).block j (Nat.lt_of_lt_of_le (C.olt j (C.oe j s).1) B.o.2.2.size);have ah:=zCn N (.slice pu n cu) 39 (0,0);refine zEF (.tmp 70) (.tmp 73) 128 rfl 39 i0 (.slice none 0 0) 1 24 underlying128 hi aL aM aN rfl (by decide) _ _ _ rfl ad (.slice (some ⟨N.heap.size,0,none⟩) 1 1) 1 _ rfl ah (by simp[Value.oneCell']) (by unfold maxLen;have:=Q.o;omega) (by have:=Q.o;omega) ?_;intro v3 w3 r t A;obtain⟨Y,Z,aa,J⟩:=zDB (C.below B.o.2.2) B.o.1 (fun j s ho=>by have h1:=B.o.2.1 j s;have h2:=C.olt j ho;omega) ao.o (by rw[V.o];exact ai.o) (zAU N _) r t A;obtain⟨ab,ac⟩:=zAm.turned hS hn hl Y (((Chg.of_below B.o.2.2).mono fun _ _ h=>h.elim).trans Z fun _ _ h=>h) fun j s=>by
            rcases s with s|s|s
            ·exact .inl s
            ·exact .inr (B.o.2.1 j s)
            ·exact(aa j s).imp id fun h=>Nat.le_trans B.o.2.2.size h
           have HQ:=zh (And.intro ab (show Same F w1 (w3.setCell ⟨l,4,none⟩ v3)from fun j s=>(ac j s).trans (a.o j s)));have az:=zAB (J.trans (C.below B.o.2.2).cells) (i:=4) rfl;have au:=zAE (J.trans (C.below B.o.2.2).cells) 4;obtain⟨p3,q3,rfl⟩:=OwnR.shape r;clear C hS hn hl ad ah r t A Y Z aa J ab ac;refine p.o _ _ trivial fun f=>?_;clear p
           try simp only[uZ]
           refine Pl [9,10] ?_
           iterate 2 (refine Pc rfl ?_;simp only[uZ])
           refine Pn ?_;refine oon 11 rfl fun K p=>?_;go_wp2_with fail;refine p.o _ _ (trivial) fun f=>?_;clear p
           try simp only[uZ]
           refine odn ?_;have U:=zh (zAv HQ.o.1);have aq:=zh HQ.o.2;have ap:=zh HQ.o.1;clear HQ az au;generalize w3.setCell ⟨l,4,none⟩ (.slice p3 (M.entries.length+1) q3)=wz at *;go_wp2_with fail;refine U.o.mono ?_;rintro e aU ⟨rfl,aA,rfl⟩;have HE:=zW (zB5 w w1 l d pre F (zAV (nm pre) D M b) (.returned (.tuple #[.int .i64 (({M with entries:=M.entries++[b] }:zAl).last:Int),.int .i64 0])) (wz.drewN aA)) (by
            rw[HR.o];refine⟨by rw[show({M with entries:=M.entries++[b] }:zAl).last=M.last+1 by unfold zAl.last;simp;omega];rfl,ap.o.next ⟨rfl,rfl,rfl,Nat.le_refl _,fun _ _=>rfl⟩,aq.o⟩)
           generalize ({M with entries:=M.entries++[b] }:zAl).last=aT at *;go_wp2_with fail
           go_ret2
           exact HE.o
          ·have aF:=zAP aE (.cells #[.slice pu n cu] 39);go_wp2_with fail;refine p.o _ _ trivial fun f=>?_;clear p
           try simp only[uZ]
           refine oon 4 rfl fun K p=>?_;go_wp2_with fail;refine p.o _ _ trivial fun f=>?_;clear p
           try simp only[uZ]
           refine oon 8 rfl fun K p=>?_;obtain⟨C,hS,hn,hl⟩:=aH.o;have ad:=(C.below B.o.2.2).row.keep (w':=N.alloc (.cells #[.slice pu n cu] 39)) fun j s=>(zAU N _).block j (Nat.lt_of_lt_of_le (C.olt j (C.oe j s).1) B.o.2.2.size);have ah:=zCn N (.slice pu n cu) 39 (0,0);refine zEF (.tmp 70) (.tmp 73) 128 rfl 39 i0 (.slice none 0 0) 1 24 underlying128 hi aL aM aN rfl (by decide) _ _ _ rfl ad (.slice (some ⟨N.heap.size,0,none⟩) 1 1) 1 _ rfl ah (by simp[Value.oneCell']) (by unfold maxLen;have:=Q.o;omega) (by have:=Q.o;omega) ?_;intro v3 w3 r t A;obtain⟨Y,Z,aa,J⟩:=zDB (C.below B.o.2.2) B.o.1 (fun j s ho=>by have h1:=B.o.2.1 j s;have h2:=C.olt j ho;omega) ao.o (by rw[V.o];exact ai.o) (zAU N _) r t A;obtain⟨ab,ac⟩:=zAm.turned hS hn hl Y (((Chg.of_below B.o.2.2).mono fun _ _ h=>h.elim).trans Z fun _ _ h=>h) fun j s=>by
            rcases s with s|s|s
            ·exact .inl s
            ·exact .inr (B.o.2.1 j s)
            ·exact(aa j s).imp id fun h=>Nat.le_trans B.o.2.2.size h
           have HQ:=zh (And.intro ab (show Same F w1 (w3.setCell ⟨l,4,none⟩ v3)from fun j s=>(ac j s).trans (a.o j s)));have az:=zAB (J.trans (C.below B.o.2.2).cells) (i:=4) rfl;have au:=zAE (J.trans (C.below B.o.2.2).cells) 4;obtain⟨p3,q3,rfl⟩:=OwnR.shape r;clear C hS hn hl ad ah r t A Y Z aa J ab ac;refine p.o _ _ trivial fun f=>?_;clear p
           try simp only[uZ]
           refine Pl [9,10] ?_
           iterate 2 (refine Pc rfl ?_;simp only[uZ])
           refine Pn ?_;refine oon 11 rfl fun K p=>?_;go_wp2_with fail;refine p.o _ _ (trivial) fun f=>?_;clear p
           try simp only[uZ]
           refine odn ?_;have U:=zh (zAv HQ.o.1);have aq:=zh HQ.o.2;have ap:=zh HQ.o.1;clear HQ az au;generalize w3.setCell ⟨l,4,none⟩ (.slice p3 (M.entries.length+1) q3)=wz at *;go_wp2_with fail;refine U.o.mono ?_;rintro e aU ⟨rfl,aA,rfl⟩;have HE:=zW (zB5 w w1 l d pre F (zAV (nm pre) D M b) (.returned (.tuple #[.int .i64 (({M with entries:=M.entries++[b] }:zAl).last:Int),.int .i64 0])) (wz.drewN aA)) (by
            rw[HR.o];refine⟨by rw[show({M with entries:=M.entries++[b] }:zAl).last=M.last+1 by unfold zAl.last;simp;omega];rfl,ap.o.next ⟨rfl,rfl,rfl,Nat.le_refl _,fun _ _=>rfl⟩,aq.o⟩)
           generalize ({M with entries:=M.entries++[b] }:zAl).last=aT at *;go_wp2_with fail
           go_ret2
           exact HE.o
       ·have cb:((e2:Int) != 0)=true:=by simp;omega
        have HR:=zh (app_err Hd.o b (by rw[V.o];exact be.o) aW.o aY);have bq:=zh aY;clear aY;go_wp2_with fail;have y:=zh (aK.o.next (zAG w6));have a:=zW (Same F w1 w6.drew) bf.o;have al:=zW (zAf w6.drew (.slice pf nf cf) fr) (zAf.below bd.o (zAG w6));obtain⟨am,an,-⟩:=aK.o.lc;refine ost (fun w':World=>w'.cell? ⟨l,0,none⟩=some (.pointer (some ⟨d,0,none⟩))∧w'.cell? ⟨l,1,none⟩=some (.string pre)) 10 (⟨am,an⟩) fun f=>?_;generalize w6.drew=O at *;refine Pl [0,1,2,3,4,6] ?_
        iterate 6 (refine Pc rfl ?_;simp only[uZ])
        refine Pn ?_;refine zCk 5 7 rfl rfl (by kernel_rfl) (by rfl) (by rfl) (fun K p=>?_) (fun K p=>?_)
        ·go_wp2_with fail;refine(zAQ ⟨f.1,f.2,aB⟩).mono ?_;rintro e N ⟨rfl,rfl⟩;go_wp2_with fail;refine p.o _ _ (f) fun f=>?_;clear p
         try simp only[uZ]
         refine oon 7 rfl fun K p=>?_;have P:=zW ((O.alloc (.cells #[.slice pf nf cf] 39)).cell? ⟨l,0,none⟩=some (.pointer (some ⟨d,0,none⟩))∧(O.alloc (.cells #[.slice pf nf cf] 39)).cell? ⟨l,1,none⟩=some (.string pre)) (⟨zAP f.1 _,zAP f.2 _⟩);go_wp2_with fail;refine p.o _ _ (P.o) fun f=>?_;clear p
         try simp only[uZ]
         refine oon 8 rfl fun K p=>?_;have S:=zh (aC.o O y.o al.o);go_wp2_with fail;refine S.o.mono ?_;rintro e w7 ⟨rfl,af,ag,ae⟩;have z:=zh (y.o.lc.same ae);have aj:=zh af;have ar:=zW (Same F w1 w7) fun k I=>(ag k I).trans (a.o k I);clear af ag ae S;go_wp2_with fail;refine p.o _ _ (⟨z.o.1,z.o.2.1⟩) fun f=>?_;clear p
         try simp only[uZ]
         refine otk 9 (v:=?v61x9) rfl ?_;simp only[uZ];refine odn ?_;clear y a al z;go_wp2_with fail;have y:=zh (aj.o.next (zAG w7));have a:=zW (Same F w1 w7.drew) ar.o;obtain⟨am,an,-⟩:=aj.o.lc;refine ost (fun w':World=>w'.cell? ⟨l,0,none⟩=some (.pointer (some ⟨d,0,none⟩))∧w'.cell? ⟨l,1,none⟩=some (.string pre)) 9 (⟨am,an⟩) fun f=>?_;generalize w7.drew=O at *;refine Pl [0,1,2,3,4] ?_
         iterate 5 (refine Pc rfl ?_;simp only[uZ])
         refine Pn ?_;refine oon 5 rfl fun K p=>?_;go_wp2_with fail;refine(zAQ ⟨f.1,f.2,aB⟩).mono ?_;rintro e N ⟨rfl,rfl⟩;go_wp2_with fail;refine p.o _ _ (f) fun f=>?_;clear p
         try simp only[uZ]
         refine oon 6 rfl fun K p=>?_;have P:=zW ((O.alloc (.cells #[.string (zDI pre)] 9)).cell? ⟨l,0,none⟩=some (.pointer (some ⟨d,0,none⟩))∧(O.alloc (.cells #[.string (zDI pre)] 9)).cell? ⟨l,1,none⟩=some (.string pre)) (⟨zAP f.1 _,zAP f.2 _⟩);go_wp2_with fail;refine p.o _ _ (P.o) fun f=>?_;clear p
         try simp only[uZ]
         refine oon 7 rfl fun K p=>?_;go_wp2_with fail;refine(aX.o O y.o).mono ?_;rintro e w8 ⟨rfl,aw,ax,av⟩;have z:=zh (y.o.lc.same av);have aG:=zh aw;have aI:=zW (Same F w1 w8) fun k I=>(ax k I).trans (a.o k I);clear aw ax av;go_wp2_with fail;refine p.o _ _ (⟨z.o.1,z.o.2.1⟩) fun f=>?_;clear p
         try simp only[uZ]
         refine otk 8 (v:=?v70x8) rfl ?_;simp only[uZ];refine odn ?_;clear y a z;have T:=zh (zBj aG.o e2);go_wp2_with fail;refine T.o.mono ?_;rintro e L ⟨rfl,E,G⟩;have R:=zh E;have X:=zW (Same F w1 L) fun k I=>(G k I).trans (aI.o k I);clear E G T;have HE:=zW (zB5 w w1 l d pre F (zAV (nm pre) D M b) (.returned (.tuple #[.int .i64 0,.int .i64 (e2:Int)])) L) (by
          rw[HR.o];refine⟨rfl,?_,X.o⟩;have h:=R.o;rwa[show({M with dead:=M.dead||decide (e2≠0) }:zAl)=M.die by rw[Hd.o];unfold zAl.die;simp[bq.o]]at h)
         go_wp2_with fail
         go_ret2
         exact HE.o
        ·have P:=zW ((O.alloc (.cells #[.slice pf nf cf] 39)).cell? ⟨l,0,none⟩=some (.pointer (some ⟨d,0,none⟩))∧(O.alloc (.cells #[.slice pf nf cf] 39)).cell? ⟨l,1,none⟩=some (.string pre)) (⟨zAP f.1 _,zAP f.2 _⟩);go_wp2_with fail;refine p.o _ _ (P.o) fun f=>?_;clear p
         try simp only[uZ]
         refine oon 5 rfl fun K p=>?_;go_wp2_with fail;refine(zAQ ⟨f.1,f.2,aB⟩).mono ?_;rintro e N ⟨rfl,rfl⟩;go_wp2_with fail;refine p.o _ _ (f) fun f=>?_;clear p
         try simp only[uZ]
         refine oon 8 rfl fun K p=>?_;have S:=zh (aC.o O y.o al.o);go_wp2_with fail;refine S.o.mono ?_;rintro e w7 ⟨rfl,af,ag,ae⟩;have z:=zh (y.o.lc.same ae);have aj:=zh af;have ar:=zW (Same F w1 w7) fun k I=>(ag k I).trans (a.o k I);clear af ag ae S;go_wp2_with fail;refine p.o _ _ (⟨z.o.1,z.o.2.1⟩) fun f=>?_;clear p
         try simp only[uZ]
         refine otk 9 (v:=?v62x9) rfl ?_;simp only[uZ];refine odn ?_;clear y a al z;go_wp2_with fail;have y:=zh (aj.o.next (zAG w7));have a:=zW (Same F w1 w7.drew) ar.o;obtain⟨am,an,-⟩:=aj.o.lc;refine ost (fun w':World=>w'.cell? ⟨l,0,none⟩=some (.pointer (some ⟨d,0,none⟩))∧w'.cell? ⟨l,1,none⟩=some (.string pre)) 9 (⟨am,an⟩) fun f=>?_;generalize w7.drew=O at *;refine Pl [0,1,2,3,4] ?_
         iterate 5 (refine Pc rfl ?_;simp only[uZ])
         refine Pn ?_;refine oon 5 rfl fun K p=>?_;go_wp2_with fail;refine(zAQ ⟨f.1,f.2,aB⟩).mono ?_;rintro e N ⟨rfl,rfl⟩;go_wp2_with fail;refine p.o _ _ (f) fun f=>?_;clear p
         try simp only[uZ]
         refine oon 6 rfl fun K p=>?_;have P:=zW ((O.alloc (.cells #[.string (zDI pre)] 9)).cell? ⟨l,0,none⟩=some (.pointer (some ⟨d,0,none⟩))∧(O.alloc (.cells #[.string (zDI pre)] 9)).cell? ⟨l,1,none⟩=some (.string pre)) (⟨zAP f.1 _,zAP f.2 _⟩);go_wp2_with fail;refine p.o _ _ (P.o) fun f=>?_;clear p
         try simp only[uZ]
         refine oon 7 rfl fun K p=>?_;go_wp2_with fail;refine(aX.o O y.o).mono ?_;rintro e w8 ⟨rfl,aw,ax,av⟩;have z:=zh (y.o.lc.same av);have aG:=zh aw;have aI:=zW (Same F w1 w8) fun k I=>(ax k I).trans (a.o k I);clear aw ax av;go_wp2_with fail;refine p.o _ _ (⟨z.o.1,z.o.2.1⟩) fun f=>?_;clear p
         try simp only[uZ]
         refine otk 8 (v:=?v80x8) rfl ?_;simp only[uZ];refine odn ?_;clear y a z;have T:=zh (zBj aG.o e2);go_wp2_with fail;refine T.o.mono ?_;rintro e L ⟨rfl,E,G⟩;have R:=zh E;have X:=zW (Same F w1 L) fun k I=>(G k I).trans (aI.o k I);clear E G T;have HE:=zW (zB5 w w1 l d pre F (zAV (nm pre) D M b) (.returned (.tuple #[.int .i64 0,.int .i64 (e2:Int)])) L) (by
          rw[HR.o];refine⟨rfl,?_,X.o⟩;have h:=R.o;rwa[show({M with dead:=M.dead||decide (e2≠0) }:zAl)=M.die by rw[Hd.o];unfold zAl.die;simp[bq.o]]at h)
         go_wp2_with fail
         go_ret2
         exact HE.o
     ·have cb:((e1:Int) != 0)=true:=by simp;omega
      have ch:((e1:Int)==0)=false:=by simp;omega
      have aW:=zW (layOn D (zBa (nm pre)) (zAM (zCh (M.last+1) b))=(D1,e1)) (by unfold layOn;rw[br.o,aO];exact if_pos aP);have HR:=zh (app_err Hd.o b (by rw[V.o];exact be.o) aW.o aP);have bp:=zh aP;clear aO aP;go_wp2_with fail;have y:=zh (aK.o.next (zAG w6));have a:=zW (Same F w1 w6.drew) bf.o;have al:=zW (zAf w6.drew (.slice pf nf cf) fr) (zAf.below bd.o (zAG w6));obtain⟨am,an,-⟩:=aK.o.lc;refine ost (fun w':World=>w'.cell? ⟨l,0,none⟩=some (.pointer (some ⟨d,0,none⟩))∧w'.cell? ⟨l,1,none⟩=some (.string pre)) 10 (⟨am,an⟩) fun f=>?_;generalize w6.drew=O at *;refine Pl [0,1,2,3,4,6] ?_
      iterate 6 (refine Pc rfl ?_;simp only[uZ])
      refine Pn ?_;refine zCk 5 7 rfl rfl (by kernel_rfl) (by rfl) (by rfl) (fun K p=>?_) (fun K p=>?_)
      ·go_wp2_with fail;refine(zAQ ⟨f.1,f.2,aB⟩).mono ?_;rintro e N ⟨rfl,rfl⟩;go_wp2_with fail;refine p.o _ _ (f) fun f=>?_;clear p
       try simp only[uZ]
       refine oon 7 rfl fun K p=>?_;have P:=zW ((O.alloc (.cells #[.slice pf nf cf] 39)).cell? ⟨l,0,none⟩=some (.pointer (some ⟨d,0,none⟩))∧(O.alloc (.cells #[.slice pf nf cf] 39)).cell? ⟨l,1,none⟩=some (.string pre)) (⟨zAP f.1 _,zAP f.2 _⟩);go_wp2_with fail;refine p.o _ _ (P.o) fun f=>?_;clear p
       try simp only[uZ]
       refine oon 8 rfl fun K p=>?_;have S:=zh (aC.o O y.o al.o);go_wp2_with fail;refine S.o.mono ?_;rintro e w7 ⟨rfl,af,ag,ae⟩;have z:=zh (y.o.lc.same ae);have aj:=zh af;have ar:=zW (Same F w1 w7) fun k I=>(ag k I).trans (a.o k I);clear af ag ae S;go_wp2_with fail;refine p.o _ _ (⟨z.o.1,z.o.2.1⟩) fun f=>?_;clear p
       try simp only[uZ]
       refine otk 9 (v:=?v91x9) rfl ?_;simp only[uZ];refine odn ?_;clear y a al z;have T:=zh (zBj aj.o e1);go_wp2_with fail;refine T.o.mono ?_;rintro e L ⟨rfl,E,G⟩;have R:=zh E;have X:=zW (Same F w1 L) fun k I=>(G k I).trans (ar.o k I);clear E G T;have HE:=zW (zB5 w w1 l d pre F (zAV (nm pre) D M b) (.returned (.tuple #[.int .i64 0,.int .i64 (e1:Int)])) L) (by
        rw[HR.o];refine⟨rfl,?_,X.o⟩;have h:=R.o;rwa[show({M with dead:=M.dead||decide (e1≠0) }:zAl)=M.die by rw[Hd.o];unfold zAl.die;simp[bp.o]]at h)
       go_wp2_with fail
       go_ret2
       exact HE.o
      ·have P:=zW ((O.alloc (.cells #[.slice pf nf cf] 39)).cell? ⟨l,0,none⟩=some (.pointer (some ⟨d,0,none⟩))∧(O.alloc (.cells #[.slice pf nf cf] 39)).cell? ⟨l,1,none⟩=some (.string pre)) (⟨zAP f.1 _,zAP f.2 _⟩);go_wp2_with fail;refine p.o _ _ (P.o) fun f=>?_;clear p
       try simp only[uZ]
       refine oon 5 rfl fun K p=>?_;go_wp2_with fail;refine(zAQ ⟨f.1,f.2,aB⟩).mono ?_;rintro e N ⟨rfl,rfl⟩;go_wp2_with fail;refine p.o _ _ (f) fun f=>?_;clear p
       try simp only[uZ]
       refine oon 8 rfl fun K p=>?_;have S:=zh (aC.o O y.o al.o);go_wp2_with fail;refine S.o.mono ?_;rintro e w7 ⟨rfl,af,ag,ae⟩;have z:=zh (y.o.lc.same ae);have aj:=zh af;have ar:=zW (Same F w1 w7) fun k I=>(ag k I).trans (a.o k I);clear af ag ae S;go_wp2_with fail;refine p.o _ _ (⟨z.o.1,z.o.2.1⟩) fun f=>?_;clear p
       try simp only[uZ]
       refine otk 9 (v:=?v92x9) rfl ?_;simp only[uZ];refine odn ?_;clear y a al z;have T:=zh (zBj aj.o e1);go_wp2_with fail;refine T.o.mono ?_;rintro e L ⟨rfl,E,G⟩;have R:=zh E;have X:=zW (Same F w1 L) fun k I=>(G k I).trans (ar.o k I);clear E G T;have HE:=zW (zB5 w w1 l d pre F (zAV (nm pre) D M b) (.returned (.tuple #[.int .i64 0,.int .i64 (e1:Int)])) L) (by
        rw[HR.o];refine⟨rfl,?_,X.o⟩;have h:=R.o;rwa[show({M with dead:=M.dead||decide (e1≠0) }:zAl)=M.die by rw[Hd.o];unfold zAl.die;simp[bp.o]]at h)
       go_wp2_with fail
       go_ret2
       exact HE.o
end
def zEI (w w1:World)(l d:Nat)(pre:ByteArray)(F:Nat→Prop)(r:Wrote)(e:Ending)(w':World):Prop :=
 e=.returned (.int .i64 (r.err:Int))∧zAm w w' l d pre r.disk r.led F∧Same F w1 w'
section
variable {w w1 w2 wc:World} {l d:Nat} {pre:ByteArray} {D:zAD} {M:zAl} {F:Nat→Prop}
theorem led_save (h:zAm w w1 l d pre D M F)(b:Below w1.heap.size w1 wc)(s:ByteArray)(i:s.size≤9223372036854775807){p:Option Addr}{n c:Nat}{ls:List Bs}(j:zBM wc (.slice p n c) ls)(hn:n≤140737488355328)(f:ls.flatten.length≤1048576) :
  Calls prog 79 #[.pointer (some ⟨d,0,none⟩),.string s,.slice p n c] wc fun e w'=>e=.returned (.int .i64 ((D.save (nm s) ls.flatten).2:Int))∧zAm w w' l d pre (D.save (nm s) ls.flatten).1 M F∧Same F w1 w'∧w'.heap[l]?=w1.heap[l]? :=
 zEi h b fun _ hS=>save_calls (hS.next b) s i j hn f
theorem led_diskB {P:Program}{f:FuncId}{b:Array Value}{j:zAD×Nat}(h:zAm w w1 l d pre D M F)(p:∀G,St w w1 d D G→Calls P f b wc (Told w d G w1 j)) :
  Calls P f b wc fun e w'=>e=.returned (.int .i64 (j.2:Int))∧zAm w w' l d pre j.1 M F∧Same F w1 w'∧w'.heap[l]?=w1.heap[l]?:=by
 obtain⟨own,o,ev,vs,n,hS,hn,q⟩:=h;refine(p _ hS).mono ?_;rintro e w' ⟨rfl,c,m⟩;exact⟨rfl,⟨own,o,ev,vs,n.keep (fun k i=>m k (.inl i)) fun k i=>c.flt (.inl i),c,hn,fun k i=>c.flt (.inr i)⟩,fun k i=>m k (.inr i),m l (.inl n.ol)⟩
theorem led_rid1 (h:zAm w w1 l d pre D M F)(s:ByteArray)(b:s.size≤9223372036854775807) :
  Calls prog 82 #[.pointer (some ⟨d,0,none⟩),.slice (some ⟨w1.heap.size,0,none⟩) 1 1] (w1.alloc (.cells #[.string s] 9)) fun e w'=>e=.returned (.int .i64 ((D.rid [nm s]).2:Int))∧zAm w w' l d pre (D.rid [nm s]).1 M F∧Same F w1 w'∧w'.heap[l]?=w1.heap[l]? :=
 led_diskB h fun _ hS=>told_rid1 hS (Below.refl _ _) s b
theorem wri_dead (c:M.dead=true)(i:Int)(b:Bs):zAs (nm pre) D M i b=⟨D,M,0,9⟩:=by unfold zAs;rw[if_pos c]
theorem wri_arg (c:M.dead=false)(i:Int)(b:Bs)(h:i<(M.last:Int)∨1099511627776<i):zAs (nm pre) D M i b=⟨D,M,0,1⟩:=by unfold zAs;rw[if_neg (by simp[c]),if_pos h]
theorem wri_long (d:M.dead=false)(i:Int)(b:Bs)(h:¬(i<(M.last:Int)∨1099511627776<i))(c:524288<b.length):zAs (nm pre) D M i b=⟨D,M,0,5⟩:=by unfold zAs;rw[if_neg (by simp[d]),if_neg h,if_pos c]
theorem wri_err (f:M.dead=false)(m:Nat)(b:Bs)(h:¬((m:Int)<(M.last:Int)∨1099511627776<(m:Int)))(d:¬524288<b.length){r:zAD×Nat}(i:imgOn (nm pre) D m b=r)(c:r.2≠0):zAs (nm pre) D M (m:Int) b=⟨r.1,M.die,0,r.2⟩:=by
 unfold zAs;rw[if_neg (by simp[f]),if_neg h,if_neg d,Int.toNat_natCast,i,if_pos c]
theorem wri_ok (f:M.dead=false)(m:Nat)(b:Bs)(h:¬((m:Int)<(M.last:Int)∨1099511627776<(m:Int)))(d:¬524288<b.length){r:zAD×Nat}(i:imgOn (nm pre) D m b=r)(c:r.2=0):zAs (nm pre) D M (m:Int) b=⟨r.1,⟨m,b,[],M.dead⟩,0,0⟩:=by
 unfold zAs;rw[if_neg (by simp[f]),if_neg h,if_neg d,Int.toNat_natCast,i,if_neg (by simpa using c)]
theorem led_reset {own:Nat→Prop}{r ev:Value}{vs:List Value}(c:zBd w1 l d pre own M r ev vs){m:Nat}{v:Value}{b:Bs}(q:zA4 w1 5 v b)(p:∀k,v.ownBlock=some k→¬own k)(z:m≤1099511627776)(j:b.length≤1073741824) :
  zBd (((w1.setCell ⟨l,2,none⟩ (.int .i64 (m:Int))).setCell ⟨l,3,none⟩ v).setCell ⟨l,4,none⟩ (.slice none 0 0)) l d pre (fun k=>own k∨v.ownBlock=some k) ⟨m,b,[],M.dead⟩ v (.slice none 0 0) []:=by
 have f:∀k,v.ownBlock=some k→k≠l:=fun k n e=>p k n (e▸c.ol);have n:∀k,k≠l→(((w1.setCell ⟨l,2,none⟩ (.int .i64 (m:Int))).setCell ⟨l,3,none⟩ v).setCell ⟨l,4,none⟩ (.slice none 0 0)).heap[k]?=w1.heap[k]?:=fun k e=>(zAK _ e).trans ((zAK _ e).trans (zAK _ e));refine⟨?_,OwnR.keep q fun k h=>n k (f k h),OwnR.nil _ _ _,fun i u b o=>(by simp at o),.inl c.ol,fun k h=>⟨.inr h,f k h,fun e=>by cases e⟩,fun k h=>(by cases h),fun u o=>(by simp at o),fun k h=>?_,?_,c.psz,j,fun b j=>(by cases j)⟩
 ·have s:=zAH c.cells 2 (.int .i64 (m:Int));have t:=zAH s 3 v;have y:=zAH t 4 (.slice none 0 0);simpa using y
 ·have:k<w1.heap.size:=h.elim (c.olt k) fun h=>OwnR.lt q h;simpa[World.setCell]using this
 ·show m+0≤_
  omega
theorem lwrite_calls (h:zAm w w1 l d pre D M F)(i:Int)(bt:-9223372036854775808≤i∧i≤9223372036854775807){pp:Option Addr}{n c:Nat}{b:Bs}(hx:∀W,Below w.heap.size w W→Same F w1 W→zAf W (.slice pp n c) b)(bp:b.length≤140737488355328) :
  Calls prog 32 #[.pointer (some ⟨l,0,none⟩),.int .i64 i,.slice pp n c] w1 (zEI w w1 l d pre F (zAs (nm pre) D M i b)):=by
 have hn:b.length=n:=by obtain⟨_,_,e⟩:=(hx w1 h.bel fun _ _=>rfl).slice;simp only[Value.slice.injEq]at e;exact e.2.1.symm
 have ak:=h.psz.2;have ba:=h.last;obtain⟨dv,ev,aY,-⟩:=h.cells;have k5:=cell5 aY;have H:=zh h;have Hx:=zh hx;have az:=zh (zAv h);clear h hx aY;cases hd:M.dead with
 | true =>
  have HE:=zW (zEI w w1 l d pre F (zAs (nm pre) D M i b) (.returned (.int .i64 9)) w1) (by rw[wri_dead hd];exact⟨rfl,H.o,fun _ _=>rfl⟩);have bo:w1.cell? ⟨l,5,none⟩=some (.bool true):=by rw[←hd];exact k5
  clear k5 hd
  go_enter func32,ntmps32
  go_wp2_with fail;go_ret;exact HE.o
 | false =>
  have bo:w1.cell? ⟨l,5,none⟩=some (.bool false):=by rw[←hd];exact k5
  have Hd:=zh hd;clear k5 hd
  by_cases B:i<(M.last:Int)∨1099511627776<i
  ·have HE:=zh (fun q=>show zEI w w1 l d pre F (zAs (nm pre) D M i b) (.returned (.int .i64 1)) (w1.drewN q) by rw[wri_arg Hd.o _ _ B];exact⟨rfl,H.o.next ⟨rfl,rfl,rfl,Nat.le_refl _,fun _ _=>rfl⟩,fun _ _=>rfl⟩);generalize M.last=la at *
   by_cases h1:i<(la:Int)
   ·clear B
    go_enter func32,ntmps32
    go_wp2_with fail;refine az.o.mono ?_;rintro e w2 ⟨rfl,q,rfl⟩;go_wp2_with fail;go_ret;exact HE.o q
   ·have h2:1099511627776<i:=B.resolve_left h1;clear B
    go_enter func32,ntmps32
    go_wp2_with fail;refine az.o.mono ?_;rintro e w2 ⟨rfl,q,rfl⟩;go_wp2_with fail;go_ret;exact HE.o q
  ·obtain⟨m,rfl⟩:∃m:Nat,i=(m:Int):=⟨i.toNat,by omega⟩
   by_cases bm:524288<n
   ·have HE:=zh (fun q=>show zEI w w1 l d pre F (zAs (nm pre) D M (m:Int) b) (.returned (.int .i64 5)) (w1.drewN q) by rw[wri_long Hd.o _ _ B (by omega)];exact⟨rfl,H.o.next ⟨rfl,rfl,rfl,Nat.le_refl _,fun _ _=>rfl⟩,fun _ _=>rfl⟩);have h1:(M.last:Int)≤(m:Int):=by omega
    have h2:(m:Int)≤1099511627776:=by omega
    generalize M.last=la at *;clear B
    go_enter func32,ntmps32
    go_wp2_with fail;refine az.o.mono ?_;rintro e w2 ⟨rfl,q,rfl⟩;go_wp2_with fail;go_ret;exact HE.o q
   ·have aH:=zh B;have aK:=zh (show ¬524288<b.length by omega);have h1:(M.last:Int)≤(m:Int):=by omega
    have h2:(m:Int)≤1099511627776:=by omega
    have an:=zh (show m≤1099511627776 by omega);have U:=zh (show b.length≤524288 by omega);have bs:=zh ak;clear B;generalize aE:M.last=la at *;have am:=zh aE;clear aE
    go_enter func32,ntmps32
    go_wp2_with fail;refine az.o.mono ?_;rintro e w2 ⟨rfl,q,rfl⟩;go_wp2_with fail;have bl:=zW (zES ((w1.drewN q).alloc (.cells #[.slice none 0 0] 133)) w1.heap.size (.slice none 0 0) []) (wr_fresh (w1.drewN q) (0,0) rfl);have aQ:=zW (Below w1.heap.size w1 ((w1.drewN q).alloc (.cells #[.slice none 0 0] 133))) ((show Below w1.heap.size w1 (w1.drewN q)from⟨rfl,rfl,rfl,Nat.le_refl _,fun _ _=>rfl⟩).alloc (Nat.le_refl _) _);have aF:((w1.drewN q).alloc (.cells #[.slice none 0 0] 133)).heap.size=w1.heap.size+1:=by simp
    have bk:=zh (wnum_one bl.o (m:Int) ⟨by omega,by omega⟩ (by simp) (w1.heap.size+1) 1 aF.symm (0,0));have bg:=zW (Below w1.heap.size w1 (((w1.drewN q).alloc (.cells #[.slice none 0 0] 133)).alloc (.cells #[.int .i64 (m:Int)] 3))) (aQ.o.alloc aQ.o.size _);clear aF;generalize (w1.drewN q).alloc (.cells #[.slice none 0 0] 133)=W2 at *;refine bk.o.mono ?_;rintro e w3 ⟨rfl,v3,bf,aV,bd⟩;have ai:=zh (wr_below bg.o (Nat.le_refl _) (fun j hj=>by cases hj) aV bd);have bi:=zh (wbytes_one bf (pv:=pp) (m:=n) (cv:=c) (x:=b) (fun W hc=>by
     have aU:Below w1.heap.size w1 W:=ai.o.1.trans (hc.below ai.o.1.size fun j hj hs=>by
      rcases hs with rfl|hs
      ·omega
      ·have:=ai.o.2 j hs;omega)
     exact Hx.o W (H.o.bel.trans (aU.mono H.o.bel.size)) fun k t=>aU.block k (H.o.flt t)) (by
     have h1:=zEk (m:Int);rw[List.nil_append];have:=U.o;omega) w3.heap.size 1 rfl (0,0))
    have bh:=zW (Below w1.heap.size w1 (w3.alloc (.cells #[.slice pp n c] 39))) (ai.o.1.alloc ai.o.1.size _);clear bf aV bd;go_wp2_with fail;refine bi.o.mono ?_;rintro e N ⟨rfl,v4,aO,aW,be⟩;have T:=zh (wr_below bh.o (Nat.le_refl _) ai.o.2 aW be).1;have aZ:[]++zEU (m:Int)++zAw b=zCh m b:=by
     rw[List.nil_append];unfold zCh;rw[zDa (by have:=an.o;omega)]
    rw[aZ]at aO;have ay:=zW ((zCh m b).length≤540000) (by
     unfold zCh zAw;have h1:=zAk (n:=m) (by have:=an.o;omega);have h2:=zAk (n:=b.length) (by have:=U.o;omega);have h3:=U.o;rw[List.length_append,List.length_append];omega)
    have aL:=zh aO;have aj:=zh (H.o.next T.o);have aI:=zh (H.o.same T.o);clear aO aW be aZ;generalize aT:zCh m b=im at *;have aR:=zh aT;clear aT;generalize bb:im.length=ml at *;have J:=zh bb;clear bb;cases ax:D.save (zCT (nm pre)) im with
    | mk D1 e1 =>
     have ah:=zW (∀W,zAm w W l d pre D M F→∀p c,zAf W (.slice p ml c) im→Calls prog 79 #[.pointer (some ⟨d,0,none⟩),.string (sImg pre),.slice (some ⟨W.heap.size,0,none⟩) 1 1] (W.alloc (.cells #[.slice p ml c] 39)) fun e w'=>e=.returned (.int .i64 (e1:Int))∧zAm w w' l d pre D1 M F∧Same F W w'∧w'.heap[l]?=W.heap[l]?) (fun W h p c hf=>by
      have hr:=zDC hf 39 (0,0) W.heap.size 1 rfl (Nat.le_refl _);have:=led_save h (zBN W (.cells #[.slice p ml c] 39)) (sImg pre) (by rw[size_img];omega) hr (by decide) (by rw[List.flatten_cons,List.flatten_nil,List.append_nil,J.o];have:=ay.o;omega);rwa[nm_img,show [im].flatten=im by rw[List.flatten_cons,List.flatten_nil,List.append_nil],ax]at this)
     by_cases aq:e1=0
     ·subst aq;cases aM:D1.rid [zBa (nm pre)]with
      | mk D2 e2 =>
       have aA:=zW (imgOn (nm pre) D m b=(D2,e2)) (by unfold imgOn;rw[aR.o,ax];rw[if_neg (by simp)];exact aM);have aC:=zW (∀W,zAm w W l d pre D1 M F→Calls prog 82 #[.pointer (some ⟨d,0,none⟩),.slice (some ⟨W.heap.size,0,none⟩) 1 1] (W.alloc (.cells #[.string (zDI pre)] 9)) fun e w'=>e=.returned (.int .i64 (e2:Int))∧zAm w w' l d pre D2 M F∧Same F W w'∧w'.heap[l]?=W.heap[l]?) (fun W h=>by
        have:=led_rid1 h (zDI pre) (by rw[zDD];omega);rwa[zEC,aM]at this)
       clear ax aM
       by_cases aB:e2=0
       ·subst aB;have HR:=zh (wri_ok Hd.o m b (by rw[am.o];exact aH.o) aK.o aA.o rfl);go_wp2_with fail;have s:=zh (aj.o.next (zAG N));have z:=zW (Same F w1 N.drew) aI.o;have ac:=zW (zES N.drew w1.heap.size v4 im) (aL.o.keep (zAG N));have al:=zW (Below w1.heap.size w1 N.drew) (T.o.trans ((zAG N).mono T.o.size));obtain⟨R,S,-⟩:=aj.o.lc;refine ost (fun w':World=>w'.cell? ⟨l,0,none⟩=some (.pointer (some ⟨d,0,none⟩))∧w'.cell? ⟨l,1,none⟩=some (.string pre)) 10 (⟨R,S⟩) fun f=>?_;generalize N.drew=W1 at *;refine Pl [0,1,2,3,4] ?_
        iterate 5 (refine Pc rfl ?_;simp only[uZ])
        refine Pn ?_;refine oon 5 rfl fun K r=>?_;go_wp2_with fail;refine(zBT ⟨f.1,f.2,ak⟩).mono ?_;rintro e w9 ⟨rfl,rfl⟩;go_wp2_with fail;refine r.o _ _ (f) fun f=>?_;clear r
        try simp only[uZ]
        refine oon 6 rfl fun K r=>?_;have Y:=zh (zDR ac.o (by rw[J.o];have:=ay.o;omega));go_wp2_with fail;refine Y.o.mono ?_;rintro e w5 ⟨v5,rfl,I,av,a⟩;have G:=zh (s.o.next a);have Z:=zW (Same F w1 w5) fun k t=>(s.o.same a k t).trans (z.o k t);have X:=zh (s.o.lc.same (a.block l s.o.llt));have ab:=zW (zAf w5 v5 im) I.has;obtain⟨p5,c5,rfl,-⟩:=zAN I;rw[J.o]at ab;clear I av a Y;rw[J.o];go_wp2_with fail;refine r.o _ _ (⟨X.o.1,X.o.2.1⟩) fun f=>?_;clear r
        try simp only[uZ]
        refine oon 7 rfl fun K r=>?_;have Q:=zW ((w5.alloc (.cells #[.slice p5 ml c5] 39)).cell? ⟨l,0,none⟩=some (.pointer (some ⟨d,0,none⟩))∧(w5.alloc (.cells #[.slice p5 ml c5] 39)).cell? ⟨l,1,none⟩=some (.string pre)) (⟨zAP f.1 _,zAP f.2 _⟩);go_wp2_with fail;refine r.o _ _ (Q.o) fun f=>?_;clear r
        try simp only[uZ]
        refine oon 8 rfl fun K r=>?_;have aa:=zh (ah.o w5 G.o p5 c5 ab.o);go_wp2_with fail;refine aa.o.mono ?_;rintro e w7 ⟨rfl,ae,af,ad⟩;have y:=zh (G.o.lc.same ad);have ag:=zh ae;have ao:=zW (Same F w1 w7) fun k t=>(af k t).trans (Z.o k t);clear ae af ad aa;go_wp2_with fail;refine r.o _ _ (⟨y.o.1,y.o.2.1⟩) fun f=>?_;clear r
        try simp only[uZ]
        refine otk 9 (v:=?v10x9) rfl ?_;simp only[uZ];refine odn ?_;clear s z ac al y G Z;go_wp2_with fail;have s:=zh (ag.o.next (zAG w7));have z:=zW (Same F w1 w7.drew) ao.o;obtain⟨R,S,-⟩:=ag.o.lc;refine ost (fun w':World=>w'.cell? ⟨l,0,none⟩=some (.pointer (some ⟨d,0,none⟩))∧w'.cell? ⟨l,1,none⟩=some (.string pre)) 9 (⟨R,S⟩) fun f=>?_;generalize w7.drew=W1 at *;refine Pl [0,1,2,3,4] ?_
        iterate 5 (refine Pc rfl ?_;simp only[uZ])
        refine Pn ?_;refine oon 5 rfl fun K r=>?_;go_wp2_with fail;refine(zAQ ⟨f.1,f.2,ak⟩).mono ?_;rintro e w9 ⟨rfl,rfl⟩;go_wp2_with fail;refine r.o _ _ (f) fun f=>?_;clear r
        try simp only[uZ]
        refine oon 6 rfl fun K r=>?_;have Q:=zW ((W1.alloc (.cells #[.string (zDI pre)] 9)).cell? ⟨l,0,none⟩=some (.pointer (some ⟨d,0,none⟩))∧(W1.alloc (.cells #[.string (zDI pre)] 9)).cell? ⟨l,1,none⟩=some (.string pre)) (⟨zAP f.1 _,zAP f.2 _⟩);go_wp2_with fail;refine r.o _ _ (Q.o) fun f=>?_;clear r
        try simp only[uZ]
        refine oon 7 rfl fun K r=>?_;go_wp2_with fail;refine(aC.o W1 s.o).mono ?_;rintro e w8 ⟨rfl,au,aw,ar⟩;have y:=zh (s.o.lc.same ar);have aG:=zh au;have aJ:=zW (Same F w1 w8) fun k t=>(aw k t).trans (z.o k t);clear au aw ar;go_wp2_with fail;refine r.o _ _ (⟨y.o.1,y.o.2.1⟩) fun f=>?_;clear r
        try simp only[uZ]
        refine otk 8 (v:=?v20x8) rfl ?_;simp only[uZ];refine odn ?_;clear s z y;have V:=zh (zBj aG.o 0);go_wp2_with fail;refine V.o.mono ?_;rintro e L ⟨rfl,C,E⟩;have O:=zh C;have P:=zW (Same F w1 L) fun k t=>(E k t).trans (aJ.o k t);clear C E V;have aS:=zW (zAm w L l d pre D2 M F) (by
         have h:=O.o;have e:({M with dead:=M.dead||decide ((0:Nat)≠0) }:zAl)=M:=by
          rw[Hd.o]
          show(⟨M.base,M.data,M.entries,false⟩:zAl)=M
          rw[←Hd.o]
         rwa[e]at h)
        have bj:=zh (zAx (Hx.o L aS.o.bel P.o) (by have:=U.o;omega));clear O;go_wp2_with fail;refine bj.o.mono ?_;rintro e aP ⟨u,rfl,hu,aN,ap⟩;obtain⟨own,dv,ev,vs,hL,hS,bc,hl⟩:=aS.o;have A:=hL.below ap;have aD:=led_reset A hu (fun k t ho=>by have h1:=aN k t;have h2:=hL.olt k ho;omega) an.o (by have:=U.o;omega);have aX:Chg own L (((aP.setCell ⟨l,2,none⟩ (.int .i64 (m:Int))).setCell ⟨l,3,none⟩ u).setCell ⟨l,4,none⟩ (.slice none 0 0)):=((((Chg.of_below ap).mono fun _ _ h=>h.elim).trans (Chg.setCell aP ⟨l,2,none⟩ _) fun k _ e=>by rw[e];exact hL.ol).trans (Chg.setCell _ ⟨l,3,none⟩ _) fun k _ e=>by rw[e];exact hL.ol).trans (Chg.setCell _ ⟨l,4,none⟩ _) fun k _ e=>by rw[e];exact hL.ol
        have hQ:=zAm.turned hS bc hl aD aX fun k t=>t.imp id (aN k);have HE:=zW (zEI w w1 l d pre F (zAs (nm pre) D M (m:Int) b) (.returned (.int .i64 0)) (((aP.setCell ⟨l,2,none⟩ (.int .i64 (m:Int))).setCell ⟨l,3,none⟩ u).setCell ⟨l,4,none⟩ (.slice none 0 0))) (by
         rw[HR.o];exact⟨rfl,hQ.1,fun k t=>(hQ.2 k t).trans (P.o k t)⟩)
        have k2:=A.c2;have k3:=A.c3;have k4:=A.c4;have f2:=A.fr 2;have f3:=A.fr 3;have f4:=A.fr 4;obtain⟨pu,cu,rfl,-⟩:=zAN hu;obtain⟨pd,cd,rfl,-⟩:=zAN hL.data;obtain⟨pe,ce,rfl⟩:=OwnR.shape hL.row;rw[hn]at HE ⊢;clear hL hS bc hl A aD aX hQ hu aN ap;go_wp2_with fail;go_ret;exact HE.o
       ·have bn:((e2:Int) != 0)=true:=by simp;omega
        have HR:=zh (wri_err Hd.o m b (by rw[am.o];exact aH.o) aK.o aA.o aB);have He:=zh aB;have br:((e2:Int)==0)=false:=by simp;omega
        clear aB;go_wp2_with fail;have s:=zh (aj.o.next (zAG N));have z:=zW (Same F w1 N.drew) aI.o;have ac:=zW (zES N.drew w1.heap.size v4 im) (aL.o.keep (zAG N));have al:=zW (Below w1.heap.size w1 N.drew) (T.o.trans ((zAG N).mono T.o.size));obtain⟨R,S,-⟩:=aj.o.lc;refine ost (fun w':World=>w'.cell? ⟨l,0,none⟩=some (.pointer (some ⟨d,0,none⟩))∧w'.cell? ⟨l,1,none⟩=some (.string pre)) 10 (⟨R,S⟩) fun f=>?_;generalize N.drew=W1 at *;refine Pl [0,1,2,3,4] ?_
        iterate 5 (refine Pc rfl ?_;simp only[uZ])
        refine Pn ?_;refine oon 5 rfl fun K r=>?_;go_wp2_with fail;refine(zBT ⟨f.1,f.2,ak⟩).mono ?_;rintro e w9 ⟨rfl,rfl⟩;go_wp2_with fail;refine r.o _ _ (f) fun f=>?_;clear r
        try simp only[uZ]
        refine oon 6 rfl fun K r=>?_;have Y:=zh (zDR ac.o (by rw[J.o];have:=ay.o;omega));go_wp2_with fail;refine Y.o.mono ?_;rintro e w5 ⟨v5,rfl,I,av,a⟩;have G:=zh (s.o.next a);have Z:=zW (Same F w1 w5) fun k t=>(s.o.same a k t).trans (z.o k t);have X:=zh (s.o.lc.same (a.block l s.o.llt));have ab:=zW (zAf w5 v5 im) I.has;obtain⟨p5,c5,rfl,-⟩:=zAN I;rw[J.o]at ab;clear I av a Y;rw[J.o];go_wp2_with fail;refine r.o _ _ (⟨X.o.1,X.o.2.1⟩) fun f=>?_;clear r
        try simp only[uZ]
        refine oon 7 rfl fun K r=>?_;have Q:=zW ((w5.alloc (.cells #[.slice p5 ml c5] 39)).cell? ⟨l,0,none⟩=some (.pointer (some ⟨d,0,none⟩))∧(w5.alloc (.cells #[.slice p5 ml c5] 39)).cell? ⟨l,1,none⟩=some (.string pre)) (⟨zAP f.1 _,zAP f.2 _⟩);go_wp2_with fail;refine r.o _ _ (Q.o) fun f=>?_;clear r
        try simp only[uZ]
        refine oon 8 rfl fun K r=>?_;have aa:=zh (ah.o w5 G.o p5 c5 ab.o);go_wp2_with fail;refine aa.o.mono ?_;rintro e w7 ⟨rfl,ae,af,ad⟩;have y:=zh (G.o.lc.same ad);have ag:=zh ae;have ao:=zW (Same F w1 w7) fun k t=>(af k t).trans (Z.o k t);clear ae af ad aa;go_wp2_with fail;refine r.o _ _ (⟨y.o.1,y.o.2.1⟩) fun f=>?_;clear r
        try simp only[uZ]
        refine otk 9 (v:=?v30x9) rfl ?_;simp only[uZ];refine odn ?_;clear s z ac al y G Z;go_wp2_with fail;have s:=zh (ag.o.next (zAG w7));have z:=zW (Same F w1 w7.drew) ao.o;obtain⟨R,S,-⟩:=ag.o.lc;refine ost (fun w':World=>w'.cell? ⟨l,0,none⟩=some (.pointer (some ⟨d,0,none⟩))∧w'.cell? ⟨l,1,none⟩=some (.string pre)) 9 (⟨R,S⟩) fun f=>?_;generalize w7.drew=W1 at *;refine Pl [0,1,2,3,4] ?_
        iterate 5 (refine Pc rfl ?_;simp only[uZ])
        refine Pn ?_;refine oon 5 rfl fun K r=>?_;go_wp2_with fail;refine(zAQ ⟨f.1,f.2,ak⟩).mono ?_;rintro e w9 ⟨rfl,rfl⟩;go_wp2_with fail;refine r.o _ _ (f) fun f=>?_;clear r
        try simp only[uZ]
        refine oon 6 rfl fun K r=>?_;have Q:=zW ((W1.alloc (.cells #[.string (zDI pre)] 9)).cell? ⟨l,0,none⟩=some (.pointer (some ⟨d,0,none⟩))∧(W1.alloc (.cells #[.string (zDI pre)] 9)).cell? ⟨l,1,none⟩=some (.string pre)) (⟨zAP f.1 _,zAP f.2 _⟩);go_wp2_with fail;refine r.o _ _ (Q.o) fun f=>?_;clear r
        try simp only[uZ]
        refine oon 7 rfl fun K r=>?_;go_wp2_with fail;refine(aC.o W1 s.o).mono ?_;rintro e w8 ⟨rfl,au,aw,ar⟩;have y:=zh (s.o.lc.same ar);have aG:=zh au;have aJ:=zW (Same F w1 w8) fun k t=>(aw k t).trans (z.o k t);clear au aw ar;go_wp2_with fail;refine r.o _ _ (⟨y.o.1,y.o.2.1⟩) fun f=>?_;clear r
        try simp only[uZ]
        refine otk 8 (v:=?v40x8) rfl ?_;simp only[uZ];refine odn ?_;clear s z y;have V:=zh (zBj aG.o e2);go_wp2_with fail;refine V.o.mono ?_;rintro e L ⟨rfl,C,E⟩;have O:=zh C;have P:=zW (Same F w1 L) fun k t=>(E k t).trans (aJ.o k t);clear C E V;have HE:=zW (zEI w w1 l d pre F (zAs (nm pre) D M (m:Int) b) (.returned (.int .i64 (e2:Int))) L) (by
         rw[HR.o];refine⟨rfl,?_,P.o⟩;have h:=O.o;rwa[show({M with dead:=M.dead||decide (e2≠0) }:zAl)=M.die by rw[Hd.o];unfold zAl.die;simp[He.o]]at h)
        go_wp2_with fail;go_ret;exact HE.o
     ·have bn:((e1:Int) != 0)=true:=by simp;omega
      have bq:((e1:Int)==0)=false:=by simp;omega
      have aA:=zW (imgOn (nm pre) D m b=(D1,e1)) (by unfold imgOn;rw[aR.o,ax];exact if_pos aq);have HR:=zh (wri_err Hd.o m b (by rw[am.o];exact aH.o) aK.o aA.o aq);have He:=zh aq;clear ax aq;go_wp2_with fail;have s:=zh (aj.o.next (zAG N));have z:=zW (Same F w1 N.drew) aI.o;have ac:=zW (zES N.drew w1.heap.size v4 im) (aL.o.keep (zAG N));have al:=zW (Below w1.heap.size w1 N.drew) (T.o.trans ((zAG N).mono T.o.size));obtain⟨R,S,-⟩:=aj.o.lc;refine ost (fun w':World=>w'.cell? ⟨l,0,none⟩=some (.pointer (some ⟨d,0,none⟩))∧w'.cell? ⟨l,1,none⟩=some (.string pre)) 10 (⟨R,S⟩) fun f=>?_;generalize N.drew=W1 at *;refine Pl [0,1,2,3,4] ?_
      iterate 5 (refine Pc rfl ?_;simp only[uZ])
      refine Pn ?_;refine oon 5 rfl fun K r=>?_;go_wp2_with fail;refine(zBT ⟨f.1,f.2,ak⟩).mono ?_;rintro e w9 ⟨rfl,rfl⟩;go_wp2_with fail;refine r.o _ _ (f) fun f=>?_;clear r
      try simp only[uZ]
      refine oon 6 rfl fun K r=>?_;have Y:=zh (zDR ac.o (by rw[J.o];have:=ay.o;omega));go_wp2_with fail;refine Y.o.mono ?_;rintro e w5 ⟨v5,rfl,I,av,a⟩;have G:=zh (s.o.next a);have Z:=zW (Same F w1 w5) fun k t=>(s.o.same a k t).trans (z.o k t);have X:=zh (s.o.lc.same (a.block l s.o.llt));have ab:=zW (zAf w5 v5 im) I.has;obtain⟨p5,c5,rfl,-⟩:=zAN I;rw[J.o]at ab;clear I av a Y;rw[J.o];go_wp2_with fail;refine r.o _ _ (⟨X.o.1,X.o.2.1⟩) fun f=>?_;clear r
      try simp only[uZ]
      refine oon 7 rfl fun K r=>?_;have Q:=zW ((w5.alloc (.cells #[.slice p5 ml c5] 39)).cell? ⟨l,0,none⟩=some (.pointer (some ⟨d,0,none⟩))∧(w5.alloc (.cells #[.slice p5 ml c5] 39)).cell? ⟨l,1,none⟩=some (.string pre)) (⟨zAP f.1 _,zAP f.2 _⟩);go_wp2_with fail;refine r.o _ _ (Q.o) fun f=>?_;clear r
      try simp only[uZ]
      refine oon 8 rfl fun K r=>?_;have aa:=zh (ah.o w5 G.o p5 c5 ab.o);go_wp2_with fail;refine aa.o.mono ?_;rintro e w7 ⟨rfl,ae,af,ad⟩;have y:=zh (G.o.lc.same ad);have ag:=zh ae;have ao:=zW (Same F w1 w7) fun k t=>(af k t).trans (Z.o k t);clear ae af ad aa;go_wp2_with fail;refine r.o _ _ (⟨y.o.1,y.o.2.1⟩) fun f=>?_;clear r
      try simp only[uZ]
      refine otk 9 (v:=?v50x9) rfl ?_;simp only[uZ];refine odn ?_;clear s z ac al y G Z;have V:=zh (zBj ag.o e1);go_wp2_with fail;refine V.o.mono ?_;rintro e L ⟨rfl,C,E⟩;have O:=zh C;have P:=zW (Same F w1 L) fun k t=>(E k t).trans (ao.o k t);clear C E V;have HE:=zW (zEI w w1 l d pre F (zAs (nm pre) D M (m:Int) b) (.returned (.int .i64 (e1:Int))) L) (by
       rw[HR.o];refine⟨rfl,?_,P.o⟩;have h:=O.o;rwa[show({M with dead:=M.dead||decide (e1≠0) }:zAl)=M.die by rw[Hd.o];unfold zAl.die;simp[He.o]]at h)
      go_wp2_with fail;go_ret;exact HE.o
end
theorem nil_append (w:World)(x:Value):Calls prog 43 #[.pointer none,x] w fun e w'=>e=.returned (.tuple #[.int .i64 0,.int .i64 1])∧w'=w:=by
 go_enter func43,ntmps43
 go_wp2_with fail
 go_ret2
 exact⟨rfl,rfl⟩
section
variable {w w1 w2 wc:World} {l d:Nat} {pre:ByteArray} {D:zAD} {M:zAl} {F:Nat→Prop}
end
section
variable {D:zAD} {n b:Bs}
theorem may_ok (b:D.fuse≠some 0)(hn:okN n=true):D.may [n]=0:=by
 unfold zAD.may;rw[if_neg b,if_pos (by simp[hn])]
theorem append_ok (f:D.fuse≠some 0)(hn:okN n=true)(d:D.used+b.length≤D.room)(i:D.files.length<4096) :
  D.append n b=(⟨D.room,put n ⟨(D.cur n).data++b,(D.cur n).lasts⟩ D.files,offF D.fuse 1⟩,0):=by
 have c:D.full n b=false:=by
  unfold zAD.full;simp;omega
 unfold zAD.append;rw[if_neg (by rw[may_ok f hn];simp),if_neg (by rw[c];simp)];rfl
theorem sync_ok {f:zAT}(c:D.fuse≠some 0)(hn:okN n=true)(d:Sat.get n D.files=some f):D.sync [n]=(⟨D.room,put n ⟨f.data,f.data.length⟩ D.files,offF D.fuse 1⟩,0):=by
 have b:zAD.each1 zAD.gSync D n=(⟨D.room,put n ⟨f.data,f.data.length⟩ D.files,offF D.fuse 1⟩,0):=by
  unfold zAD.each1;rw[if_neg (by rw[may_ok c hn];simp),d];rfl
 show(if(zAD.each1 _ _ _).2=0 then _ else _)=_
 rw[b,if_pos rfl];rfl
theorem remove_ok {f:zAT}(c:D.fuse≠some 0)(hn:okN n=true)(d:Sat.get n D.files=some f):D.remove [n]=(⟨D.room,del n D.files,offF D.fuse 1⟩,0):=by
 have b:zAD.each1 zAD.gRemove D n=(⟨D.room,del n D.files,offF D.fuse 1⟩,0):=by
  unfold zAD.each1;rw[if_neg (by rw[may_ok c hn];simp),d];rfl
 show(if(zAD.each1 _ _ _).2=0 then _ else _)=_
 rw[b,if_pos rfl];rfl
end
def whole (b:Bs):zAT:=⟨b,b.length⟩
def recF:Nat→List Bs→List Bs
 | _,[]=>[]
 | n,e::r=>zCh (n+1) e::recF (n+1) r
theorem recF_app:∀(n:Nat) (es b:List Bs),recF n (es++b)=recF n es++recF (n+es.length) b
 | _,[],_=>rfl
 | n,e::r,b=>by
  show zCh (n+1) e::recF (n+1) (r++b)=_
  rw[recF_app (n+1) r b]
  show _=zCh (n+1) e::(recF (n+1) r++recF (n+(r.length+1)) b)
  rw[show n+1+r.length=n+(r.length+1) by omega]
theorem recF_one (n:Nat)(p:Bs):recF n [p]=[zCh (n+1) p]:=rfl
theorem imgB_len (n:Nat)(p:Bs)(hn:n≤4611686018427387904)(b:p.length≤4611686018427387904):(zCh n p).length≤p.length+18:=by
 unfold zCh zAw;have c:=zAk hn;have d:=zAk b;rw[List.length_append,List.length_append];omega
theorem rd_img (n:Nat)(p:Bs)(hn:n≤4611686018427387904):Rd.num ⟨zCh n p,false⟩=(n,⟨zAw p,false⟩):=Rd.num_of hn _ _
theorem rd_row (p:Bs)(b:p.length≤4611686018427387904):Rd.bytes ⟨zAw p,false⟩=(p,⟨[],false⟩):=by
 have:=Rd.bytes_of b [] false;rwa[List.append_nil]at this
def Fits (n:Nat)(es:List Bs):Prop:=n+es.length≤1099511627776∧∀e∈es,e.length≤65536
theorem take1_next {base:Nat}{c:Int}{es:List Bs}{p:Bs}(b:c=-1∨c=((base+es.length:Nat):Int))(hn:base+es.length+1≤1099511627776)(i:p.length≤65536) :
  zC2 base (c,es) (zCh (base+es.length+1) p)=some (((base+es.length+1:Nat):Int),es++[p]):=by
 unfold zC2;rw[rd_img _ _ (by omega)];dsimp only;rw[rd_row _ (by omega)];rw[if_neg (by
  rintro(h|h|h|⟨d,f⟩)
  ·cases h
  ·omega
  ·omega
  ·rcases b with e|e<;>omega),if_neg (by omega),if_neg (by simp)]
theorem takeAll_new (base:Nat):∀(c es:List Bs) (b:Int),(b=-1∨b=((base+es.length:Nat):Int))→Fits (base+es.length) c →
  ∃d,zCA base (b,es) (recF (base+es.length) c)=some (d,es++c)
 | [],es,b,_,_=>⟨b,by rw[List.append_nil];rfl⟩
 | f::c,es,b,hla,hf=>by
  have j:=take1_next (p:=f) hla (by have:=hf.1;simp at this;omega) (hf.2 f (by simp));obtain⟨d,i⟩:=takeAll_new base c (es++[f]) ((base+es.length+1:Nat):Int) (.inr (by rw[List.length_append];rfl)) ⟨by have:=hf.1;simp at this ⊢;omega,fun e k=>hf.2 e (by simp[k])⟩;refine⟨d,?_⟩
  show(match zC2 base (b,es) (zCh (base+es.length+1) f)with|none=>none|some t=>zCA base t (recF (base+es.length+1) c))=_
  rw[j];rw[List.length_append,List.append_assoc]at i;exact i
/-! ### The disk -/
def zAz:Option (Nat×Bs)→Nat
 | none=>0
 | some (n,_)=>n
def dataI:Option (Nat×Bs)→Bs
 | none=>[]
 | some (_,b)=>b
/-! ### What it opens as -/
theorem image_none:zA2 none=(0,0,[]):=by
 unfold zA2;rw[if_pos loadE_none]
theorem image_some (n:Nat)(p:Bs)(hn:n≤1099511627776)(c:p.length≤524288):zA2 (some (whole (zAM (zCh n p))))=(0,n,p):=by
 have b:=imgB_len n p (by omega) (by omega);have h:=load_frame (zCh n p) (by omega) (zAM (zCh n p)).length;unfold zA2 whole;rw[h.1,h.2,if_neg (by decide),if_neg (by decide),rd_img _ _ (by omega)];dsimp only;rw[rd_row _ (by omega),if_neg (by
  rintro(h|h)
  ·cases h
  ·omega)]
def OkI:Option (Nat×Bs)→Prop
 | none=>True
 | some (n,p)=>n≤1099511627776∧p.length≤524288
theorem rid_none {D:zAD}{n:Bs}(h:Sat.get n D.files=none):D.rid [n]=(D,0):=by
 have:zAD.rid1 D n=(D,0):=by unfold zAD.rid1;rw[h];rfl
 show(if(zAD.rid1 D n).2=0 then _ else _)=_
 rw[this];rfl
theorem rid_some {D:zAD}{n:Bs}{f:zAT}(b:D.fuse≠some 0)(hn:okN n=true)(h:Sat.get n D.files=some f):D.rid [n]=(⟨D.room,del n D.files,offF D.fuse 1⟩,0):=by
 have:zAD.rid1 D n=(⟨D.room,del n D.files,offF D.fuse 1⟩,0):=by unfold zAD.rid1;rw[h];exact remove_ok b hn h
 show(if(zAD.rid1 D n).2=0 then _ else _)=_
 rw[this];rfl
theorem Fits.rows {n:Nat}{es:List Bs}(h:Fits n es):∀l∈recF n es,l.length≤1048576:=by
 induction es generalizing n with
 | nil=>intro l b;cases b
 | cons e r ih =>
  intro l b;have c:=h.1;simp only[List.length_cons]at c;cases b with
  | head =>
   have f:=h.2 e (by simp);have:=imgB_len (n+1) e (by omega) (by omega);omega
  | tail _ b=>exact ih ⟨by omega,fun e d=>h.2 e (by simp[d])⟩ l b
def MM (im:Option (Nat×Bs))(es:List Bs):zAl:=⟨zAz im,dataI im,es,false⟩
theorem MM_last (im:Option (Nat×Bs))(es:List Bs):(MM im es).last=zAz im+es.length:=rfl
theorem recs_app (n:Nat)(es:List Bs)(p:Bs):zC4 (recF n (es++[p]))=zC4 (recF n es)++zAM (zCh (n+es.length+1) p):=by
 rw[recF_app,recsB_app,recF_one,recsB_one]
/-! ### A crash -/
/-! ### With a shadow beside -/
/-! ### Append -/
section
variable {im:Option (Nat×Bs)} {es:List Bs} {p:Bs}
theorem app_first (_:OkI im)(c:Fits (zAz im) (es++[p])):¬(65536<p.length∨1099511627776≤(MM im es).last):=by
 have b:=c.1;have d:=c.2 p (by simp);rw[List.length_append]at b;rw[MM_last];simp only[List.length_cons,List.length_nil]at b;omega
end
theorem conv_str {P:Program}{W:World}{d b e:TypeId}(m:P.underlying d=some (.slice e))(i:P.underlying e=some (.int .u8))(f:P.underlying b=some .string){v:Value}{l:Bs}(h:zAf W v l) :
  (convert d b v).run P W=.ok (.string ⟨l.toArray⟩) W:=by
 obtain⟨_,p,c,rfl,q,r⟩:=h;cases p with
 | none =>
  obtain rfl:l=[]:=List.eq_nil_of_length_eq_zero (q rfl);exact Go.run_convert_bytes_nil W d e m i _ _ b f
 | some a =>
  have k:=run_loadCells_list (P:=P) W a (zAX l) (fun j v s=>r a rfl j v s);have n:zAX l=(Lib.numsL l).map (Value.int .u8):=by simp[zAX,Lib.numsL,List.map_map,Function.comp_def]
  have o:(zAX l).length=l.length:=bytesV_len l;rw[o,n]at k;rw[run_convert_bytes_string W d b e _ _ c m i f,run_bytesToString W a l.length c (Lib.numsL l) k,foldl_push_bytes]
  congr 2
  simp[Lib.numsL,List.map_map,Function.comp_def,ByteArray.empty,ByteArray.emptyWithCapacity];rfl
section
variable {w w1:World} {l d:Nat} {pre:ByteArray} {D:zAD} {M:zAl} {F:Nat→Prop}
end
end Go.Proofs.YtmcanphlgkolcaaGreatDoor
