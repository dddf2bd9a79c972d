/- What the program's functions and the document's do, and plain laws, for PJournalPlays. -/
import Derived.Test.YtapfnehdgailmaaGreatJG
import Derived.Test.YtapfnehdgailmaaGreatJL
import Derived.Test.YtapfnehdgailmaaGreatJN
import Derived.Test.YtapfnehdgailmaaGreatJO
import Derived.Test.YtapfnehdgailmaaGreatJQ
open Go.Proofs.Tryz
set_option maxRecDepth 100000
set_option maxHeartbeats 64000000
namespace Go.Proofs.YtapfnehdgailmaaGreat
open Go.RowKit Go.Sat Go.Maps
section
variable {w w1 w2:World} {j d:Nat} {pre:ByteArray} {D:zAA} {M:zAJ} {F F2:Nat→Prop}
theorem zCC {D':zAA}{M':zAJ}{k:Nat}{r:zAA×Nat×zAJ}(h:St w w2 d D' F)(f:Same F w1 w2)(c:r=(D',k,M'))(b:k≠0):zFs w w1 d pre F r (.returned (.tuple #[.pointer none,.int .i64 (k:Int)])) w2:=by
 subst c;exact⟨h,f,.inr ⟨b,rfl⟩⟩
theorem zEz {D':zAA}{M':zAJ}{r:zAA×Nat×zAJ}(h:zAk w w2 j d pre D' M' F)(c:Same F w1 w2)(b:r=(D',0,M')):zFs w w1 d pre F r (.returned (.tuple #[.pointer (some ⟨j,0,none⟩),.int .i64 0])) w2:=by
 subst b;exact⟨h.stF,c,.inl ⟨rfl,j,rfl,h⟩⟩
theorem jou_data (h:zAk w w1 j d pre D M F){dv:Value}{b:Bs}(r:zAi w1 5 dv b)(hF:∀k,dv.ownBlock=some k→F k∧w.heap.size≤k)(g:∀k,F2 k→F k∧dv.ownBlock≠some k)(a:b.length≤1073741824) :
  zAk w (w1.setCell ⟨j,7,none⟩ dv) j d pre D {M with data:=b} F2∧Same F2 w1 (w1.setCell ⟨j,7,none⟩ dv):=by
 obtain⟨own,z,t,y,vs,f,hS,hn,A⟩:=h;have n:∀k,dv.ownBlock=some k→¬own k:=fun k c l=>(hn k l).2 (hF k c).1;have o:∀k,k≠j→(w1.setCell ⟨j,7,none⟩ dv).heap[k]?=w1.heap[k]?:=fun k c=>set_other _ c;have m:∀k,dv.ownBlock=some k→k≠j:=fun k c e=>n k c (e▸f.ol);refine zAk.turned2 (M':={M with data:=b}) (own':=fun k=>own k∨dv.ownBlock=some k) (gv':=z) (dv':=dv) (ev':=y) (vs':=vs) hS hn A ⟨?_,OwnR.keep f.group fun k c=>o k (f.og k c).2.1,OwnR.keep r fun k c=>o k (m k c),f.row.keep fun k c=>o k (f.oe k c).2,⟨f.rows.1,fun i e v p q=>(f.rows.2 i e v p q).keep fun k c=>o k (f.ov v (List.mem_of_getElem? q) k c).2.1⟩,.inl f.ol,fun k c=>⟨.inl (f.og k c).1,(f.og k c).2⟩,fun k c=>⟨.inr c,m k c,fun e=>n k c (f.oe k e).1⟩,fun k c=>⟨.inl (f.oe k c).1,(f.oe k c).2⟩,fun u s k c=>⟨.inl (f.ov u s k c).1,(f.ov u s k c).2⟩,fun k c=>?_,f.psz,⟨f.ok.last,f.ok.term,f.ok.group,f.ok.now,f.ok.vote,a,f.ok.ents⟩⟩ ((Chg.setCell w1 ⟨j,7,none⟩ dv).mono fun x _ e=>by rw[e];exact f.ol) (fun k c=>?_) fun k c=>⟨(g k c).1,fun l=>?_⟩
 ·have p:=zAC f.cells 7 dv;simpa using p
 ·have:k<w1.heap.size:=c.elim (f.olt k) fun h=>OwnR.lt r h;simpa[World.setCell]using this
 ·exact c.imp id fun h=>.inr (hF k h)
 ·rcases l with l|l
  ·exact(hn k l).2 (g k c).1
  ·exact(g k c).2 l
theorem jopen_calls (h:St w w1 d D F)(bP:D.room≤1048576)(pre:ByteArray){nodes:List Int}{pn:Option Addr}{nn cn:Nat}(hx:zBY w1 (.slice pn nn cn) nodes)(bu:nodes.length≤1099511627776) :
  Calls prog 17 #[.pointer (some ⟨d,0,none⟩),.string pre,.slice pn nn cn] w1 (zFs w w1 d pre F (zAV D (nm pre) nodes)):=by
 have aH:(nm pre).length=pre.size:=nm_len pre;have aN:=zh (zEQ hx bu)
 by_cases hp:pre.size<1∨20<pre.size
 ·have p:=zh (zCC (pre:=pre) (k:=1) h (fun _ _=>rfl) (oj_arg (pre:=nm pre) (nodes:=nodes) (by rw[aH];exact hp.elim .inl fun h=>.inr (.inl h))) (by decide));clear h aH hx;generalize bS:pre.size=z at *
  by_cases hz:z<1
  ·have bR:z=0:=by omega
   subst bR
   go_enter func17,ntmps17
   go_wp2_with fail
   go_ret2
   exact p.o
  ·have bY:20<z:=by omega
   go_enter func17,ntmps17
   go_wp2_with fail
   go_ret2
   exact p.o
 ·cases aj:zAZ nodes with
  | false =>
   rw[aj]at aN;have p:=zh (zCC (pre:=pre) (k:=1) h (fun _ _=>rfl) (oj_arg (pre:=nm pre) (nodes:=nodes) (.inr (.inr aj))) (by decide));clear h aH hx aj;generalize bS:pre.size=z at *
   go_enter func17,ntmps17
   go_wp2_with fail;refine aN.o.mono ?_;rintro e w2 ⟨rfl,rfl⟩;go_wp2_with fail
   go_ret2
   exact p.o
  | true =>
   rw[aj]at aN;have bg:1≤pre.size∧pre.size≤20:=by omega
   have ac:¬((nm pre).length<1∨20<(nm pre).length∨zAZ nodes=false):=by
    rw[aH];rintro(h|h|h)
    ·omega
    ·omega
    ·rw[aj]at h;cases h
   obtain⟨O⟩:=zF9 D (nm pre) nodes;have aF:=zGI D (zAF (zAu (nm pre)));rw[O.h1]at aF;have aG:=zGI O.D1 (zAF (zBt (nm pre)));rw[O.h2]at aG;have L:=zh (show O.D2.room≤1048576 by have h1:O.D1.room=D.room:=aF;have h2:O.D2.room=O.D1.room:=aG;omega);have bm:=zh O.h1;have bn:=zh O.h2;have bo:=zh O.hs;have bb:=zh O.hl;have bD:=zh (oj_e1 O ac);have bE:=zh (oj_e2 O ac);have aV:=zh (oj_e3 O ac);have aI:=zh (oj_e4 O ac);have aK:=zh (oj_no O ac);have aJ:=zh (fun M=>oj_keep O ac (M:=M));have ap:=zh (fun M=>oj_anew O ac (M:=M));clear aF aG;generalize O.D1=D1 at *;generalize O.e1=e1 at *;generalize O.D2=D2 at *;generalize O.e2=e2 at *;generalize O.s=sn at *;generalize O.l=li at *;clear O;obtain⟨ks,so⟩:=sn;obtain⟨D3,e3,a3,v⟩:=li;have aV:=zW (e1=0→e2=0→ks≠0→zAV D (nm pre) nodes=(D2,ks,zAJ.none0 nodes)) aV.o;have aI:=zW (e1=0→e2=0→ks=0→e3≠0→zAV D (nm pre) nodes=(D3,e3,zAJ.none0 nodes)) aI.o;have aK:=zW (e1=0→e2=0→ks=0→e3=0→zAo so v a3=none→zAV D (nm pre) nodes=(D3,3,zAJ.none0 nodes)) aK.o;have aJ:=zW (∀M,e1=0→e2=0→ks=0→e3=0→zAo so v a3=some (false,M)→zAV D (nm pre) nodes=(D3,0,M)) aJ.o;have ap:=zW (∀M,e1=0→e2=0→ks=0→e3=0→zAo so v a3=some (true,M)→zAV D (nm pre) nodes=((zAT D3 (nm pre) M).1,(zAT D3 (nm pre) M).2,M)) ap.o;have bK:=zh (zDy hx bu);have HS:=zh h;have bU:=bg.1;have bV:=bg.2;have bA:(zCN pre).size=pre.size+4:=zFT pre;have aU:(sSnp pre).size=pre.size+5:=zGM pre;have bL:=zh aj;have i0:∀(W:World) (a b:ByteArray),(Instr.index 133 (.agg #[.string a,.string b]) (.int .i64 0)).run prog W=.ok (.string a) W:=fun _ _ _=>by kernel_rfl
   have i1:∀(W:World) (a b:ByteArray),(Instr.index 133 (.agg #[.string a,.string b]) (.int .i64 1)).run prog W=.ok (.string b) W:=fun _ _ _=>by kernel_rfl
   clear h aH hx aj ac hp
   go_enter func17,ntmps17
   go_wp2_with fail;refine aN.o.mono ?_;rintro e w2 ⟨rfl,rfl⟩;go_wp2_with fail;refine bK.o.mono ?_;rintro e w3 ⟨gv,rfl,aR,aP,g⟩;obtain⟨pg,cg,rfl,-⟩:=zAw aR;have bF:=zh (jou_fresh (F:=F) (HS.o.move (F':=fun k=>F k∨(Value.slice pg nodes.length cg).ownBlock=some k) (Chg.of_below g) (fun _ _ h=>h.elim) fun k m=>m.elim (fun h=>⟨.inl h,Nat.lt_of_lt_of_le (HS.o.flt h) g.size⟩) fun h=>⟨.inr (aP k h),OwnR.lt aR h⟩) pre bg bL.o aR fun k m=>⟨Nat.le_trans HS.o.below.size (aP k m),fun hf=>by have h1:=HS.o.flt hf;have h2:=aP k m;omega⟩);have bI:=zW (Same F w2 (w3.alloc (.cells #[.int .i64 0,.int .i64 0,.slice pg nodes.length cg,.pointer (some ⟨d,0,none⟩),.string pre,.int .i64 0,.int .i64 (-1),.slice none 0 0,.slice none 0 0,.bool false] 132))) fun k m=>((zAD w3 (.cells #[.int .i64 0,.int .i64 0,.slice pg nodes.length cg,.pointer (some ⟨d,0,none⟩),.string pre,.int .i64 0,.int .i64 (-1),.slice none 0 0,.slice none 0 0,.bool false] 132)).block k (Nat.lt_of_lt_of_le (HS.o.flt m) g.size)).trans (g.block k (HS.o.flt m));clear aR aP g;generalize bQ:w2=w1 at *;clear bQ;go_wp2_with fail;generalize w3.heap.size=j at *;generalize w3.alloc (.cells #[.int .i64 0,.int .i64 0,.slice pg nodes.length cg,.pointer (some ⟨d,0,none⟩),.string pre,.int .i64 0,.int .i64 (-1),.slice none 0 0,.slice none 0 0,.bool false] 132)=W0 at *
   go_loopw [51] (fun x wr=>Same F w1 wr∧((x=.int .i64 0∧zAk w wr j d pre D (zAJ.none0 nodes) F)∨(x=.int .i64 1∧e1=0∧zAk w wr j d pre D1 (zAJ.none0 nodes) F)∨(x=.int .i64 2∧e1=0∧e2=0∧zAk w wr j d pre D2 (zAJ.none0 nodes) F))) (fun i _=>2-(intOf i).toNat)
   case atStart=>exact⟨bI.o,.inl ⟨rfl,bF.o⟩⟩
   case round =>
    obtain⟨ad,hx⟩:=hrel;rcases hx with⟨rfl,hJ⟩|⟨rfl,aA,hJ⟩|⟨rfl,aA,bs,hJ⟩
    ·have r:=zh (jou_read hJ (zBN (zCN pre)) (by rw[zCF,bA];omega));rw[zEh,zBq]at r;have I:=zh hJ;have ah:=zh ad;cases hg:Sat.get (zAF (zAu (nm pre))) D.files with
     | none =>
      have hr:D.rid1 (zAF (zAu (nm pre)))=(D,0):=by unfold zAA.rid1;rw[hg];rfl
      have aa:=bm.o;rw[hr]at aa;have aC:D=D1:=congrArg Prod.fst aa;have aD:0=e1:=congrArg Prod.snd aa;have aE:zDZ (none:Option zAW)=7:=rfl;rw[hg,aE]at r;have Q:=zW (e1=0) aD.symm;have H:=zW (zAk w wr j d pre D1 (zAJ.none0 nodes) F) (aC▸I.o);clear hJ ad hg hr aa aC aD aE;go_wp2_with fail;refine r.o.mono ?_;rintro e w3 ⟨v3,rfl,-,-,g⟩;have p:=zh (And.intro (ah.o.trans (I.o.same g)) (H.o.next g));clear g r;go_wp2_with fail;go_roundw
      case rel=>first|exact⟨p.o.1,.inr (.inl ⟨rfl,Q.o,p.o.2⟩)⟩|((repeat apply Exists.intro);exact⟨⟨p.o.1,.inr (.inl ⟨rfl,Q.o,p.o.2⟩)⟩,rfl⟩)
      case measure=>simp[intOf]
     | some f =>
      have hr:D.remove [zAF (zAu (nm pre))]=(D1,e1):=by
       have:=bm.o;unfold zAA.rid1 at this;rw[hg]at this;exact this
      have aB:zDZ (some f)=0:=rfl;rw[hg,aB]at r;have L:=zh (fun W (h:zAk w W j d pre D (zAJ.none0 nodes) F)=>show Calls prog 76 #[.pointer (some ⟨d,0,none⟩),.slice (some ⟨W.heap.size,0,none⟩) 1 1] (W.alloc (.cells #[.string (zBN (zCN pre))] 9)) fun e w'=>e=.returned (.int .i64 (e1:Int))∧zAk w w' j d pre D1 (zAJ.none0 nodes) F∧Same F W w'∧w'.heap[j]?=W.heap[j]? by
       have:=jou_remove h (zBN (zCN pre)) (by rw[zCF,bA];omega);rwa[zEh,zBq,hr]at this)
      clear hJ ad hg hr aB
      by_cases he:e1=0
      ·have Q:=zh he;rw[he]at L;clear he;go_wp2_with fail;refine r.o.mono ?_;rintro e w3 ⟨v3,rfl,-,-,g⟩;have ae:=zh (I.o.next g);have af:=zh (ah.o.trans (I.o.same g));clear g r;go_wp2_with fail;refine(L.o w3 ae.o).mono ?_;rintro e Y ⟨rfl,T,G,-⟩;have p:=zh (And.intro (af.o.trans G) T);clear T G L;go_wp2_with fail;go_roundw
       case rel=>first|exact⟨p.o.1,.inr (.inl ⟨rfl,Q.o,p.o.2⟩)⟩|((repeat apply Exists.intro);exact⟨⟨p.o.1,.inr (.inl ⟨rfl,Q.o,p.o.2⟩)⟩,rfl⟩)
       case measure=>simp[intOf]
      ·have al:((e1:Int) != 0)=true:=by simp;omega
       have J:=zh (bD.o he);have He:=zh he;clear he;go_wp2_with fail;refine r.o.mono ?_;rintro e w3 ⟨v3,rfl,-,-,g⟩;have ae:=zh (I.o.next g);have af:=zh (ah.o.trans (I.o.same g));clear g r;go_wp2_with fail;refine(L.o w3 ae.o).mono ?_;rintro e Y ⟨rfl,T,G,-⟩;have p:=zh (zCC (pre:=pre) (w1:=w1) T.stF (af.o.trans G) J.o He.o);clear T G L;go_wp2_with fail
       go_ret2
       exact p.o
    ·have B:=zh aA;clear aA;have r:=zh (jou_read hJ (zBN (sSnp pre)) (by rw[zCF,aU];omega));rw[zEh,nm_snp]at r;have I:=zh hJ;have ah:=zh ad;cases hg:Sat.get (zAF (zBt (nm pre))) D1.files with
     | none =>
      have hr:D1.rid1 (zAF (zBt (nm pre)))=(D1,0):=by unfold zAA.rid1;rw[hg];rfl
      have aa:=bn.o;rw[hr]at aa;have aC:D1=D2:=congrArg Prod.fst aa;have aD:0=e2:=congrArg Prod.snd aa;have aE:zDZ (none:Option zAW)=7:=rfl;rw[hg,aE]at r;have Q:=zW (e2=0) aD.symm;have H:=zW (zAk w wr j d pre D2 (zAJ.none0 nodes) F) (aC▸I.o);clear hJ ad hg hr aa aC aD aE;go_wp2_with fail;refine r.o.mono ?_;rintro e w3 ⟨v3,rfl,-,-,g⟩;have p:=zh (And.intro (ah.o.trans (I.o.same g)) (H.o.next g));clear g r;go_wp2_with fail;go_roundw
      case rel=>first|exact⟨p.o.1,.inr (.inr ⟨rfl,B.o,Q.o,p.o.2⟩)⟩|((repeat apply Exists.intro);exact⟨⟨p.o.1,.inr (.inr ⟨rfl,B.o,Q.o,p.o.2⟩)⟩,rfl⟩)
      case measure=>simp[intOf]
     | some f =>
      have hr:D1.remove [zAF (zBt (nm pre))]=(D2,e2):=by
       have:=bn.o;unfold zAA.rid1 at this;rw[hg]at this;exact this
      have aB:zDZ (some f)=0:=rfl;rw[hg,aB]at r;have L:=zh (fun W (h:zAk w W j d pre D1 (zAJ.none0 nodes) F)=>show Calls prog 76 #[.pointer (some ⟨d,0,none⟩),.slice (some ⟨W.heap.size,0,none⟩) 1 1] (W.alloc (.cells #[.string (zBN (sSnp pre))] 9)) fun e w'=>e=.returned (.int .i64 (e2:Int))∧zAk w w' j d pre D2 (zAJ.none0 nodes) F∧Same F W w'∧w'.heap[j]?=W.heap[j]? by
       have:=jou_remove h (zBN (sSnp pre)) (by rw[zCF,aU];omega);rwa[zEh,nm_snp,hr]at this)
      clear hJ ad hg hr aB
      by_cases he:e2=0
      ·have Q:=zh he;rw[he]at L;clear he;go_wp2_with fail;refine r.o.mono ?_;rintro e w3 ⟨v3,rfl,-,-,g⟩;have ae:=zh (I.o.next g);have af:=zh (ah.o.trans (I.o.same g));clear g r;go_wp2_with fail;refine(L.o w3 ae.o).mono ?_;rintro e Y ⟨rfl,T,G,-⟩;have p:=zh (And.intro (af.o.trans G) T);clear T G L;go_wp2_with fail;go_roundw
       case rel=>first|exact⟨p.o.1,.inr (.inr ⟨rfl,B.o,Q.o,p.o.2⟩)⟩|((repeat apply Exists.intro);exact⟨⟨p.o.1,.inr (.inr ⟨rfl,B.o,Q.o,p.o.2⟩)⟩,rfl⟩)
       case measure=>simp[intOf]
      ·have al:((e2:Int) != 0)=true:=by simp;omega
       have J:=zh (bE.o B.o he);have He:=zh he;clear he;go_wp2_with fail;refine r.o.mono ?_;rintro e w3 ⟨v3,rfl,-,-,g⟩;have ae:=zh (I.o.next g);have af:=zh (ah.o.trans (I.o.same g));clear g r;go_wp2_with fail;refine(L.o w3 ae.o).mono ?_;rintro e Y ⟨rfl,T,G,-⟩;have p:=zh (zCC (pre:=pre) (w1:=w1) T.stF (af.o.trans G) J.o He.o);clear T G L;go_wp2_with fail
       go_ret2
       exact p.o
    ·have B:=zh aA;have X:=zh bs;have aq:=zh hJ;have bJ:=zh ad;have bp:=zh (rsnap_calls hJ);rw[bo.o]at bp;have ay:=zh (fun(h3:e3=0)=>zCL hJ.okD L.o (show(zAJ.none0 nodes).entries=[]from rfl) (bb.o.trans (by rw[h3])));clear aA bs hJ ad;go_wp2_with fail;refine bp.o.mono ?_;intro e Y hT;obtain⟨aO,n,t,gp,gn,gc,dv,rfl,bB⟩:=hT;have am:=zh (aq.o.next aO);have aY:=zh (bJ.o.trans (aq.o.same aO));have ba:=zh aO;have bq:=zh bB;clear aO bB
     by_cases an:ks=0
     ·have K:=zh an;cases so with
      | none =>
       have av:=zh (rlog_calls (am.o.box (.cells #[.int .i64 n,.int .i64 t,.slice gp gn gc] 130)) (show(zAJ.none0 nodes).entries=[]from rfl));rw[bb.o]at av;have aw:=zh (aY.o.trans (am.o.same (zAD Y (.cells #[.int .i64 n,.int .i64 t,.slice gp gn gc] 130))));have bh:=zh (zAI Y (.cells #[.int .i64 n,.int .i64 t,.slice gp gn gc] 130));subst an;go_wp2_with fail;generalize Y.alloc (.cells #[.int .i64 n,.int .i64 t,.slice gp gn gc] 130)=w5 at *;refine av.o.mono ?_;rintro e w6 ⟨rfl,U,P,ak⟩
       by_cases N:e3=0
       ·have R:=zh N;have Z:=zh ((ak N).less (F':=F) fun k m=>.inl m);have ab:=zh (aw.o.trans fun k m=>P k (.inl m));subst N;clear U P ak;obtain⟨own,gv,bO,ev,vs,ai,-⟩:=id Z.o;have c0:=ai.c 0 rfl;clear ai
        by_cases aS:0<v.number
        ·have J:=zh (aK.o B.o X.o K.o R.o (show zAo none v a3=none by unfold zAo;exact if_pos aS));have p:=zh (fun q=>zCC (pre:=pre) (w1:=w1) (Z.o.drewN q).stF ab.o J.o (by decide));have d0:decide ((0:Int)<(v.number:Int))=true:=by simp;omega
         have bd:decide (0<v.number)=true:=by simp;omega
         clear aS;go_wp2_with fail
         go_quiet (fail)
         go_wp2_with fail
         go_quiet (fail)
         go_wp2_with fail
         go_ret2
         exact p.o _
        ·have H:=zW (zAo none v a3=some (a3,v)) (by unfold zAo;exact if_neg aS);have d0:decide ((0:Int)<(v.number:Int))=false:=by simp;omega
         have bd:decide (0<v.number)=false:=by simp;omega
         clear aS;cases a3 with
         | false =>
          have J:=zh (aJ.o v B.o X.o K.o R.o H.o);have p:=zh (fun q=>zEz (pre:=pre) (w1:=w1) (Z.o.drewN q) ab.o J.o);go_wp2_with fail
          go_quiet (fail)
          go_wp2_with fail
          go_quiet (fail)
          go_wp2_with fail
          go_ret2
          exact p.o _
         | true =>
          have au:=ap.o v B.o X.o K.o R.o H.o;go_wp2_with fail
          go_quiet (fail)
          go_wp2_with fail
          go_quiet (fail)
          go_wp2_with fail;generalize E:(World.drewN _ _)=WQ;have ar:=zW (zAk w WQ j d pre D3 v F) (by rw[←E];exact Z.o.drewN _);have ag:=zW (Same F w1 WQ) (by rw[←E];exact ab.o);clear E c0;cases V:zAT D3 (nm pre) v with
          | mk D4 e4 =>
           have C:=zW (Calls prog 80 #[.pointer (some ⟨j,0,none⟩)] WQ (zCB w WQ j d pre v F (D4,e4))) (by
            have:=zDF ar.o (ay.o R.o);rwa[V]at this)
           have J:=au;rw[V]at J;have J:=zh J;clear V
           by_cases S:e4=0
           ·subst S;go_wp2_with fail;refine C.o.mono ?_;rintro e w9 ⟨rfl,y,A⟩;have p:=zh (zEz (pre:=pre) (w1:=w1) y (ag.o.trans A) J.o);clear y A C;go_wp2_with fail
            go_ret2
            exact p.o
           ·have al:((e4:Int) != 0)=true:=by simp;omega
            have ax:=zh S;clear S;go_wp2_with fail;refine C.o.mono ?_;rintro e w9 ⟨rfl,y,A⟩;have p:=zh (zCC (pre:=pre) (w1:=w1) (show St w w9 d D4 F from y.stF) (ag.o.trans A) J.o ax.o);clear y A C;go_wp2_with fail
            go_ret2
            exact p.o
       ·have al:((e3:Int) != 0)=true:=by simp;omega
        have p:=zh (zCC (pre:=pre) (w1:=w1) (U.less (F:=F) fun k m=>.inl m) (aw.o.trans fun k m=>P k (.inl m)) (aI.o B.o X.o K.o N) N);clear U P ak N;go_wp2_with fail
        go_ret2
        exact p.o
      | some s =>
       obtain⟨rfl,rfl,bf,be,bv⟩:=bq.o s rfl;have bC:=snapOf_ok (o:=Sat.get (zBt (nm pre)) D2.files) (s:=s) (by rw[bo.o]);obtain⟨bZ,bX,eg,-⟩:=zAw bf;simp only[Value.slice.injEq]at eg;obtain⟨rfl,rfl,rfl⟩:=eg;obtain⟨pd,cd,rfl,-⟩:=zAL be;have br:=zh bC;have bc:=zh bv;have aX:=zh bf;have aW:=zh be;have bH:=zW (zAk w (Y.alloc (.cells #[.int .i64 (s.number:Int),.int .i64 s.term,.slice gp s.group.length gc] 130)) j d pre D2 (zAJ.none0 nodes) (fun k=>F k∨k=Y.heap.size∨((Value.slice gp s.group.length gc).ownBlock=some k∨(Value.slice pd s.data.length cd).ownBlock=some k))) ((aq.o.more (ba.o.trans ((zAD Y (.cells #[.int .i64 (s.number:Int),.int .i64 s.term,.slice gp s.group.length gc] 130)).mono ba.o.size)) fun k m=>by
        have G:Y.heap.size<(Y.alloc (.cells #[.int .i64 (s.number:Int),.int .i64 s.term,.slice gp s.group.length gc] 130)).heap.size:=by simp
        rcases m with m|m|m
        ·exact .inl m
        ·exact .inr ⟨by rw[m];exact ba.o.size,by rw[m];exact G⟩
        ·refine .inr ⟨bc.o k m,Nat.lt_trans ?_ G⟩;exact m.elim (OwnR.lt aX.o) (OwnR.lt aW.o)))
       have av:=zh (rlog_calls bH.o (show(zAJ.none0 nodes).entries=[]from rfl));rw[bb.o]at av;have aw:=zh (aY.o.trans (am.o.same (zAD Y (.cells #[.int .i64 (s.number:Int),.int .i64 s.term,.slice gp s.group.length gc] 130))));have bh:=zh (zAI Y (.cells #[.int .i64 (s.number:Int),.int .i64 s.term,.slice gp s.group.length gc] 130));have bj:=zh (zGB aX.o (zAD Y (.cells #[.int .i64 (s.number:Int),.int .i64 s.term,.slice gp s.group.length gc] 130)));have bi:=zh (zCD aW.o (zAD Y (.cells #[.int .i64 (s.number:Int),.int .i64 s.term,.slice gp s.group.length gc] 130)));have az:=zW (∀k,((Value.slice gp s.group.length gc).ownBlock=some k∨(Value.slice pd s.data.length cd).ownBlock=some k)→w.heap.size≤k∧¬F k) (fun k m=>⟨Nat.le_trans aq.o.bel.size (bc.o k m),fun hf=>by have h1:=aq.o.flt hf;have h2:=bc.o k m;omega⟩);have bW:=zW (∀k,((Value.slice gp s.group.length gc).ownBlock=some k∨(Value.slice pd s.data.length cd).ownBlock=some k)→k≠Y.heap.size) (fun k m e=>by
        have:=m.elim (OwnR.lt aX.o) (OwnR.lt aW.o);omega)
       have bT:=zW (∀k,F k→k≠Y.heap.size) (fun k hf e=>by have h1:=am.o.flt hf;omega);subst an;clear bf be bv bC;go_wp2_with fail;generalize Y.heap.size=b4 at *;generalize Y.alloc (.cells #[.int .i64 (s.number:Int),.int .i64 s.term,.slice gp s.group.length gc] 130)=w5 at *;refine av.o.mono ?_;rintro e w6 ⟨rfl,U,P,ak⟩
       by_cases N:e3=0
       ·have R:=zh N;have Z:=zh (ak N);have ab:=zh (aw.o.trans fun k m=>P k (.inl m));have aL:=zh ((P b4 (.inr (.inl rfl))).trans bh.o);have bk:=zh (OwnR.keep bj.o fun k m=>P k (.inr (.inr (.inl m))));have aT:=zh (OwnR.keep bi.o fun k m=>P k (.inr (.inr (.inr m))));subst N;clear U P ak;obtain⟨own,gv,bO,ev,vs,ai,-⟩:=id Z.o;have c0:=ai.c 0 rfl;have c7:=ai.c 7 rfl;have f7:=ai.fr 7;have z0:=zAU aL.o;have z1:=zAY aL.o;have z2:=zAX aL.o;clear ai
        by_cases ao:v.number<s.number
        ·have H:=zW (zAo (some s) v a3=some (true,v.rebase s)) (by unfold zAo;exact if_pos ao);have d0:decide ((v.number:Int)<(s.number:Int))=true:=by simp;omega
         have bd:decide (v.number<s.number)=true:=by simp;omega
         have au:=ap.o _ B.o X.o K.o R.o H.o;clear ao c7 f7;go_wp2_with fail
         go_quiet (fail)
         go_wp2_with fail;generalize E:(World.drewN _ _)=WQ;have ar:=zW (zAk w WQ j d pre D3 v _) (by rw[←E];exact Z.o.drewN _);have ag:=zW (Same F w1 WQ) (by rw[←E];exact ab.o);have aZ:=zW (WQ.heap[b4]?=some (.cells #[.int .i64 (s.number:Int),.int .i64 s.term,.slice gp s.group.length gc] 130 (0,0))) (by rw[←E];exact aL.o);have bM:=zh (zF6 (F2:=F) ar.o br.o.1 (pg:=gp) (cg:=gc) (pd:=pd) (cd:=cd) (OwnR.keep bk.o fun k _=>by rw[←E];rfl) (OwnR.keep aT.o fun k _=>by rw[←E];rfl) (fun k m=>⟨.inr (.inr m),(az.o k m).1⟩) fun k m=>⟨.inl m,fun e=>(az.o k (.inl e)).2 m,fun e=>(az.o k (.inr e)).2 m⟩);have z0:=zAU aZ.o;have z1:=zAY aZ.o;have z2:=zAX aZ.o;clear E c0;go_wp2_with fail;refine bM.o.mono ?_;rintro e w7 ⟨rfl,bt,bw⟩;have bG:=zh bt;have bl:=zh (ag.o.trans bw);clear bt bw z0 z1 z2;go_wp2_with fail;cases V:zAT D3 (nm pre) (v.rebase s)with
         | mk D4 e4 =>
          have C:=zW (Calls prog 80 #[.pointer (some ⟨j,0,none⟩)] w7 (zCB w w7 j d pre (v.rebase s) F (D4,e4))) (by
           have:=zDF bG.o (Nat.le_trans (zCR v s) (ay.o R.o));rwa[V]at this)
          have J:=au;rw[V]at J;have J:=zh J;clear V
          by_cases S:e4=0
          ·subst S;go_wp2_with fail;refine C.o.mono ?_;rintro e w9 ⟨rfl,y,A⟩;have p:=zh (zEz (pre:=pre) (w1:=w1) y (bl.o.trans A) J.o);clear y A C;go_wp2_with fail
           go_ret2
           exact p.o
          ·have al:((e4:Int) != 0)=true:=by simp;omega
           have ax:=zh S;clear S;go_wp2_with fail;refine C.o.mono ?_;rintro e w9 ⟨rfl,y,A⟩;have p:=zh (zCC (pre:=pre) (w1:=w1) (show St w w9 d D4 F from y.stF) (bl.o.trans A) J.o ax.o);clear y A C;go_wp2_with fail
           go_ret2
           exact p.o
        ·have d0:decide ((v.number:Int)<(s.number:Int))=false:=by simp;omega
         have bd:decide (v.number<s.number)=false:=by simp;omega
         by_cases aQ:s.number<v.number
         ·have H:=zW (zAo (some s) v a3=none) (by unfold zAo;exact(if_neg ao).trans (if_pos aQ));have d1:decide ((s.number:Int)<(v.number:Int))=true:=by simp;omega
          have bN:decide (s.number<v.number)=true:=by simp;omega
          have p:=zh (fun q q2=>zCC (pre:=pre) (w1:=w1) (((Z.o.drewN q).drewN q2).stF.less (F:=F) fun k m=>.inl m) ab.o (aK.o B.o X.o K.o R.o H.o) (by decide));clear ao aQ c7 f7;go_wp2_with fail
          go_quiet (fail)
          go_wp2_with fail
          go_quiet (fail)
          go_wp2_with fail
          go_ret2
          exact p.o _ _
         ·have H:=zW (zAo (some s) v a3=some (a3,{v with data:=s.data})) (by unfold zAo;exact(if_neg ao).trans (if_neg aQ));have d1:decide ((s.number:Int)<(v.number:Int))=false:=by simp;omega
          have bN:decide (s.number<v.number)=false:=by simp;omega
          clear ao aQ;have aM:=zh (fun q=>jou_data (F2:=F) (Z.o.drewN q) (dv:=.slice pd s.data.length cd) (OwnR.keep aT.o fun _ _=>rfl) (fun k m=>⟨.inr (.inr (.inr m)),(az.o k (.inr m)).1⟩) (fun k m=>⟨.inl m,fun e=>(az.o k (.inr e)).2 m⟩) (Nat.le_trans br.o.2.1 (by decide)));cases a3 with
          | false =>
           have J:=zh (aJ.o _ B.o X.o K.o R.o H.o);have p:=zh (fun q=>zEz (pre:=pre) (w1:=w1) (aM.o q).1 (ab.o.trans (aM.o q).2) J.o);go_wp2_with fail
           go_quiet (fail)
           go_wp2_with fail
           go_quiet (fail)
           go_wp2_with fail
           go_ret2
           exact p.o _
          | true =>
           have au:=ap.o _ B.o X.o K.o R.o H.o;go_wp2_with fail
           go_quiet (fail)
           go_wp2_with fail
           go_quiet (fail)
           go_wp2_with fail;generalize E:(World.setCell _ _ _)=WQ;have ar:=zW (zAk w WQ j d pre D3 {v with data:=s.data} F) (by rw[←E];exact(aM.o _).1);have ag:=zW (Same F w1 WQ) (by rw[←E];exact ab.o.trans (aM.o _).2);clear E c0 c7 f7 z0 z1 z2;cases V:zAT D3 (nm pre) {v with data:=s.data}with
           | mk D4 e4 =>
            have C:=zW (Calls prog 80 #[.pointer (some ⟨j,0,none⟩)] WQ (zCB w WQ j d pre {v with data:=s.data} F (D4,e4))) (by
             have:=zDF ar.o (ay.o R.o);rwa[V]at this)
            have J:=au;rw[V]at J;have J:=zh J;clear V
            by_cases S:e4=0
            ·subst S;go_wp2_with fail;refine C.o.mono ?_;rintro e w9 ⟨rfl,y,A⟩;have p:=zh (zEz (pre:=pre) (w1:=w1) y (ag.o.trans A) J.o);clear y A C;go_wp2_with fail
             go_ret2
             exact p.o
            ·have al:((e4:Int) != 0)=true:=by simp;omega
             have ax:=zh S;clear S;go_wp2_with fail;refine C.o.mono ?_;rintro e w9 ⟨rfl,y,A⟩;have p:=zh (zCC (pre:=pre) (w1:=w1) (show St w w9 d D4 F from y.stF) (ag.o.trans A) J.o ax.o);clear y A C;go_wp2_with fail
             go_ret2
             exact p.o
       ·have al:((e3:Int) != 0)=true:=by simp;omega
        have p:=zh (zCC (pre:=pre) (w1:=w1) (U.less (F:=F) fun k m=>.inl m) (aw.o.trans fun k m=>P k (.inl m)) (aI.o B.o X.o K.o N) N);clear U P ak N;go_wp2_with fail
        go_ret2
        exact p.o
     ·have al:((ks:Int) != 0)=true:=by simp;omega
      have p:=zh (zCC (pre:=pre) (w1:=w1) ((am.o.box (.cells #[.int .i64 n,.int .i64 t,.slice gp gn gc] 130)).stF.less (F:=F) fun k m=>.inl m) (aY.o.trans (am.o.same (zAD Y _))) (aV.o B.o X.o an) an);clear an;go_wp2_with fail
      go_ret2
      exact p.o
end
theorem take_one {l:Bs}{x:UInt8}{t:Bs}(h:l=x::t)(b:Bool):Rd.raw ⟨l,b⟩ 1=([x],⟨t,b⟩):=by
 subst h;unfold Rd.raw;rw[if_pos (by simp)];rfl
theorem raw_nil (b:Bool):Rd.raw ⟨[],b⟩ 1=([],Rd.fail):=rfl
theorem or_big (a:Nat)(b:a<9223372036854775808):∃Z:Nat,bits .or .u64 (a:Int) (IntKind.u64.wrap (IntKind.u64.wrap (bits .and .u8 1 127)*9223372036854775808))=(Z:Int)∧4611686018427387904<Z:=by
 have e:(IntKind.u64.wrap (IntKind.u64.wrap (bits .and .u8 1 127)*9223372036854775808))=((9223372036854775808:Nat):Int):=by rfl
 rw[e];refine⟨a ||| 9223372036854775808,u64_or_nat a 9223372036854775808 (by omega) (by decide),?_⟩;have:=@Nat.right_le_or a 9223372036854775808;omega
theorem zBD {w:World}{r:Nat}{R:Rd}{A:Nat→Prop}(h:RdY A w r R) :
  Calls prog 84 #[.pointer (some ⟨r,0,none⟩)] w (NumY A w r R):=by
 have y:=zW (zCi 0 0 R.rest=none→R.num=(0,Rd.fail)) (fun e=>by unfold Rd.num;rw[e]);have N:=zW (∀v t,zCi 0 0 R.rest=some (v,t)→R.num=(v,⟨t,R.bad⟩)) (fun v t e=>by unfold Rd.num;rw[e]);have Q:=zh h;clear h
 go_enter func84,ntmps84
 go_wp2_with fail
 go_loopw [3,4] (fun u i wr=>∃k a:Nat,k≤9∧i=.int .i64 k∧u=.int .u64 a∧a<128 ^ k∧∃S,zCi 0 0 R.rest=zCi k a S∧RdY A wr r ⟨S,R.bad⟩∧Chg (fun k=>k=r) w wr) (fun _ i _=>10-(intOf i).toNat)
 case atStart=>exact⟨0,0,by omega,rfl,rfl,by simp,R.rest,rfl,Q.o,Chg.refl _ _⟩
 case round =>
  obtain⟨k,a,ac,rfl,rfl,ha,S,z,C,F⟩:=hrel;have n:=zh (zEZ C 1 (by decide));have I:=zh F;have Y:decide ((k:Int)<10)=true:=decide_eq_true (by omega);cases S with
  | nil =>
   rw[raw_nil]at n;have l:=zh (y.o z);clear z C F;go_wp2_with fail;refine n.o.mono ?_;rintro e w1 ⟨v,rfl,-,-,b,d⟩;have e1:w1.cell? ⟨r,1,none⟩=some (.bool true):=b.c1;have m:=zW (NumY A w r R (.returned (.int .i64 0)) w1) (⟨by rw[l.o];rfl,by rw[l.o];exact b,I.o.trans d fun _ _ e=>e⟩);clear b d;go_wp2_with fail;go_ret;exact m.o
  | cons x0 S =>
   rw[take_one rfl]at n;have V:R.bad=false:=by
    cases hb:R.bad with
    | false=>rfl
    | true=>have:=C.inv hb;cases this
   have hx:=x0.toNat_lt;have s:=zh z;have q:=zW (9≤k∨(0<k∧x0.toNat=0)→zCi k a (x0::S)=none) (fun e=>by
    unfold zCi;rw[if_pos (e.imp id fun e=>⟨e.1,UInt8.toNat.inj (by rw[e.2];rfl)⟩)])
   have L:=zW (¬(9≤k∨(0<k∧x0.toNat=0))→x0.toNat<128→zCi k a (x0::S)=if 4611686018427387904<a+x0.toNat*128 ^ k then none else some (a+x0.toNat*128 ^ k,S)) (fun e h=>by
    rw[zCi,if_neg (fun h=>e (h.imp id fun h=>⟨h.1,by rw[h.2];rfl⟩)),if_pos h])
   have M:=zW (¬(9≤k∨(0<k∧x0.toNat=0))→¬x0.toNat<128→zCi k a (x0::S)=zCi (k+1) (a+x0.toNat%128*128 ^ k) S) (fun e h=>by
    rw[zCi,if_neg (fun h=>e (h.imp id fun h=>⟨h.1,by rw[h.2];rfl⟩)),if_neg h])
   clear z C F;go_wp2_with fail;refine n.o.mono ?_;rintro e w1 ⟨v,rfl,hv,aa,b,d⟩;have e1:w1.cell? ⟨r,1,none⟩=some (.bool false):=by rw[←V];exact b.c1
   obtain⟨g,cc,rfl,W⟩:∃g cc,v=.slice (some ⟨g,0,none⟩) 1 cc∧w1.cell? ⟨g,0,none⟩=some (.int .u8 (x0.toNat:Int)):=by
    have hh:=hv.has;obtain⟨ad,⟨rfl,h0⟩|⟨g,T,cur,rfl,hg⟩⟩:=hv
    ·simp at h0
    ·refine⟨g,T,rfl,?_⟩;obtain⟨_,p,c,e,_,X⟩:=hh;cases e;have:=X _ rfl 0 (.int .u8 (x0.toNat:Int)) (by simp[zAR]);rwa[add_zero]at this
   have j:=zh (And.intro b (I.o.trans d fun _ _ e=>e));have f:=zh (zEX b);clear hv aa b d;generalize x0.toNat=x at *
   by_cases h9:9≤k
   ·obtain rfl:k=9:=by omega
    have l:=zh (y.o (s.o.trans (q.o (.inl (Nat.le_refl _)))))
    by_cases ai:127<x
    ·go_wp2_with fail;refine f.o.mono ?_;rintro e w2 ⟨rfl,b,d⟩;have m:=zW (NumY A w r R (.returned (.int .i64 0)) w2) (⟨by rw[l.o];rfl,by rw[l.o];exact b,j.o.2.trans d fun _ _ e=>e⟩);clear b d;go_wp2_with fail;go_ret;exact m.o
    ·by_cases aj:1<x
     ·go_wp2_with fail;refine f.o.mono ?_;rintro e w2 ⟨rfl,b,d⟩;have m:=zW (NumY A w r R (.returned (.int .i64 0)) w2) (⟨by rw[l.o];rfl,by rw[l.o];exact b,j.o.2.trans d fun _ _ e=>e⟩);clear b d;go_wp2_with fail;go_ret;exact m.o
     ·by_cases ab:x=0
      focus subst ab
      rotate_left
      focus
       obtain rfl:x=1:=by omega
       obtain⟨Z,ae,af⟩:=or_big a (by
        have h9:(128:Nat) ^ 9=9223372036854775808:=by decide
        omega)
       have ag:decide ((4611686018427387904:Int)<(Z:Int))=true:=decide_eq_true (by omega)
      all_goals
       go_wp2_with fail;refine f.o.mono ?_;rintro e w2 ⟨rfl,b,d⟩;have m:=zW (NumY A w r R (.returned (.int .i64 0)) w2) (⟨by rw[l.o];rfl,by rw[l.o];exact b,j.o.2.trans d fun _ _ e=>e⟩);clear b d;go_wp2_with fail;go_ret;exact m.o
   ·by_cases hz:0<k∧x=0
    ·have l:=zh (y.o (s.o.trans (q.o (.inr hz))));obtain⟨B,rfl⟩:=hz;have K:((k:Int)==9)=false:=by simp;omega
     go_wp2_with fail;refine f.o.mono ?_;rintro e w2 ⟨rfl,b,d⟩;have m:=zW (NumY A w r R (.returned (.int .i64 0)) w2) (⟨by rw[l.o];rfl,by rw[l.o];exact b,j.o.2.trans d fun _ _ e=>e⟩);clear b d;go_wp2_with fail;go_ret;exact m.o
    ·have hs:¬(9≤k∨(0<k∧x=0)):=fun e=>e.elim h9 hz;have K:((k:Int)==9)=false:=by simp;omega
     by_cases D:x<128
     ·have G:=zh (s.o.trans (L.o hs D));have P:=zGP ha (by omega) (show x<256 by omega);rw[show x%128=x by omega]at P;obtain⟨P,-,U⟩:=P;generalize a+x*128 ^ k=Z at *
      by_cases hA:4611686018427387904<Z
      ·have l:=zh (y.o (G.o.trans (if_pos hA)));rcases Nat.lt_or_ge 0 k with B|B
       rotate_left
       rotate_left
       focus have ah:0<x:=by omega
       all_goals
        go_wp2_with fail;refine f.o.mono ?_;rintro e w2 ⟨rfl,b,d⟩;have m:=zW (NumY A w r R (.returned (.int .i64 0)) w2) (⟨by rw[l.o];rfl,by rw[l.o];exact b,j.o.2.trans d fun _ _ e=>e⟩);clear b d;go_wp2_with fail;go_ret;exact m.o
      ·have H:=zh (N.o _ _ (G.o.trans (if_neg hA)));have m:=zW (NumY A w r R (.returned (.int .i64 (Z:Int))) w1) (⟨by rw[H.o],by rw[H.o];exact j.o.1,j.o.2⟩);rcases Nat.lt_or_ge 0 k with B|B
       rotate_left
       ·go_wp2_with fail;go_ret;exact m.o
       ·have ak:((x:Int)==0)=false:=by simp;omega
        go_wp2_with fail;go_ret;exact m.o
     ·have E:=s.o.trans (M.o hs D);obtain⟨P,O,U⟩:=zGP ha (by omega) (show x<256 by omega);have J:=zh (And.intro E O);clear E O;generalize a+x%128*128 ^ k=Z at *;go_wp2_with fail;go_roundw
      case rel=>exact⟨k+1,Z,by omega,by go_num,rfl,J.o.2,S,J.o.1,j.o.1,j.o.2⟩
      case measure=>simp[intOf];omega
theorem num_bad {R:Rd}(b:R.bad=true→R.rest=[])(c:R.num.2.bad=true):R.num=(0,Rd.fail):=by
 cases h:zCi 0 0 R.rest with
 | none=>unfold Rd.num;rw[h]
 | some x =>
  obtain⟨n,t⟩:=x;have e:R.num=(n,⟨t,R.bad⟩):=by unfold Rd.num;rw[h]
  rw[e]at c;rw[b c]at h;cases h
theorem zGL {w:World}{r:Nat}{R:Rd}{A:Nat→Prop}(h:RdY A w r R) :
  Calls prog 86 #[.pointer (some ⟨r,0,none⟩)] w (RowY A w r R.bytes.1 R.bytes.2):=by
 have y:=zh (zBD h);have a:=Rd.num_le R;have b:=num_bad h.inv;have n:=zW (R.bytes=R.num.2.raw R.num.1) rfl;clear h
 go_enter func86,ntmps86
 go_wp2_with fail;refine y.o.mono ?_;rintro e w1 ⟨rfl,c,l⟩;have d:=c.c1;have s:=zh l;cases k:R.num.2.bad with
 | true =>
  rw[k]at d;have hn:=b k;have p:=zW (RowY A w r R.bytes.1 R.bytes.2 (.returned (.slice none 0 0)) w1) (by
   rw[n.o,hn];rw[hn]at c;exact⟨_,rfl,OwnR.nil _ _ _,fun j q=>(by cases q),c,l⟩)
  clear c l hn b;go_wp2_with fail;go_ret;exact p.o
 | false =>
  rw[k]at d;have z:=zh (zEZ c R.num.1 (by omega));clear c l b k;generalize R.num.1=m at *;generalize R.num.2=B at *;go_wp2_with fail;refine z.o.mono ?_;rintro e w2 ⟨v,rfl,t,i,g,f⟩;have p:=zW (RowY A w r R.bytes.1 R.bytes.2 (.returned v) w2) (⟨v,rfl,by rw[n.o];exact t,fun j q=>Nat.le_trans s.o.size (i j q),by rw[n.o];exact g,s.o.trans f fun _ _ e=>e⟩);clear t i g f;go_wp2_with fail;go_ret;exact p.o
def RLst (R:Rd)(l:List Int)(b:Rd):Prop :=
 (R.num.1≤17∧(Rd.ints R.num.1 R.num.2).2.bad=false∧l=(Rd.ints R.num.1 R.num.2).1∧b=(Rd.ints R.num.1 R.num.2).2) ∨
 (¬(R.num.1≤17∧(Rd.ints R.num.1 R.num.2).2.bad=false)∧b.bad=true)
theorem num_stays {R:Rd}(h:R.bad=true):R.num.2.bad=true:=by
 unfold Rd.num
 split
 ·exact h
 ·rfl
theorem ints_stays:∀(n k:Nat) (R:Rd),k≤n→(Rd.ints k R).2.bad=true→(Rd.ints n R).2.bad=true
 | 0,k,R,hk,h=>by
  obtain rfl:k=0:=by omega
  exact h
 | n+1,k,R,hk,h=>by
  by_cases e:k=n+1
  ·rw[←e];exact h
  ·rw[zDz];exact num_stays (ints_stays n k R (by omega) h)
def LstTold (A:Nat→Prop)(w:World)(r:Nat)(R:Rd)(e:Ending)(w':World):Prop :=
 ∃v l R',e=.returned v∧RLst R l R'∧zCd w' v l∧(∀k,v.ownBlock=some k→w.heap.size≤k)∧l.length≤18∧(∀z∈l,0≤z∧z≤4611686018427387904)∧RdY A w' r R'∧Chg (fun k=>k=r) w w'
theorem lst_round {A:Nat→Prop}{w wr w3 c:World}{r k v:Nat}{m l:Value}{zs:List Int}{s:Rd}{o:Obj}(h:∀k,A k→k<w.heap.size∧k≠r)(D:r<w.heap.size)(b:∀y,m.ownBlock=some y→w.heap.size≤y∧y≠r)(f:Chg (fun k=>k=r) w wr)
  (p:RdY A w3 r s) (d:Chg (fun k=>k=r) wr w3) (n:zs.length=k) (j:OwnR c 3 1 l (k+1) (zFg zs++[.int .i64 (v:Int)])) (B:(w3.alloc o).grownBy c m.ownBlock) (i:l.ownBlock=m.ownBlock∨∃g,l.ownBlock=some g∧(w3.alloc o).heap.size≤g) :
  zCd c l (zs++[(v:Int)])∧(∀y,l.ownBlock=some y→w.heap.size≤y∧y≠r)∧RdY A c r s∧Chg (fun k=>k=r) w c:=by
 have E:=f.size;have F:=d.size;have z:=zAv w3 o;have G:=z.size;have t:Chg (fun k=>some k=m.ownBlock) w3 c:=((Chg.of_below z).mono fun _ _ e=>e.elim).trans (Chg.of_grown B) fun _ _ e=>e;refine⟨?_,fun y q=>?_,p.chg t (fun e=>(b r e.symm).2 rfl) (fun x a e=>by have H:=(b x e.symm).1;have I:=(h x a).1;omega),(f.trans d fun _ _ e=>e).trans t fun x a e=>by have:=(b x e.symm).1;omega⟩
 ·unfold zCd zFg;rw[List.length_append,List.map_append,n];exact j
 ·rcases i with e|⟨g,e,C⟩
  ·exact b y (e▸q)
  ·rw[e]at q;cases q;exact⟨by omega,by omega⟩
theorem rlst_calls {w:World}{r:Nat}{R:Rd}{A:Nat→Prop}(h:RdY A w r R)(hA:∀k,A k→k<w.heap.size∧k≠r) :
  Calls prog 85 #[.pointer (some ⟨r,0,none⟩)] w (LstTold A w r R):=by
 obtain⟨i0,hi,aa,ab,ac⟩:=info_parts (show(prog.info? 3).map (fun i=>(i.zero,i.size,i.bytes))=some (some (.int .i64 0),1,8) by kernel_rfl);have Hn:=zh (zBD h);have K:=h.lt;have HA:=zh hA;have HR:=zW (∀l J,((R.num.1≤17∧(Rd.ints R.num.1 R.num.2).2.bad=false∧l=(Rd.ints R.num.1 R.num.2).1∧J=(Rd.ints R.num.1 R.num.2).2)∨(¬(R.num.1≤17∧(Rd.ints R.num.1 R.num.2).2.bad=false)∧J.bad=true))→RLst R l J) fun _ _ h=>h;have an:=Rd.num_le R;clear h hA
 go_enter func85,ntmps85
 go_wp2_with fail;refine Hn.o.mono ?_;rintro e w1 ⟨rfl,X,V⟩;have ag:=zh X;have ae:=zh V;clear X V;generalize R.num.1=n at *;generalize R.num.2=a at *;go_wp2_with fail
 go_loopw [4,5] (fun x i wr=>∃(k:Nat) (E:Value) (p:Rd),k≤n∧k≤18∧i=.int .i64 k∧E=x∧(k≤17∧p=(Rd.ints k a).2∨k=18∧p=Rd.fail)∧zCd wr E (Rd.ints k a).1∧(∀y,E.ownBlock=some y→w.heap.size≤y∧y≠r)∧RdY A wr r p∧Chg (fun k=>k=r) w wr) (fun _ i _=>n-(intOf i).toNat)
 case atStart=>exact⟨0,_,a,Nat.zero_le _,by omega,rfl,rfl,.inl ⟨by omega,rfl⟩,OwnR.nil _ _ _,fun y F=>(by cases F),ag.o,ae.o⟩
 case round =>
  obtain⟨k,E,p,hk,al,rfl,rfl,q,f,j,t,C⟩:=hrel;have O:=t.c1;have P:=zCz k a;have L:=zW ((∀J,(k=n∧k≤17∧p.bad=false∧J=p)∨(p.bad=true∧J=p)→LstTold A w r R (.returned E) wr)) (fun J ai=>by
   refine⟨E,(Rd.ints k a).1,p,rfl,HR.o _ _ ?_,f,fun y F=>(j y F).1,by omega,ints_mem k a,t,C⟩;rcases ai with⟨rfl,ah,s,-⟩|⟨s,-⟩
   ·rcases q with⟨-,rfl⟩|⟨e,-⟩
    ·exact .inl ⟨ah,s,rfl,rfl⟩
    ·omega
   ·refine .inr ⟨fun h2=>?_,s⟩;rcases q with⟨-,rfl⟩|⟨e,-⟩
    ·have:=ints_stays n k a hk s;rw[h2.2]at this;cases this
    ·omega)
  by_cases ao:k<n
  ·cases s:p.bad with
   | true =>
    rw[s]at O;have m:=zh (L.o p (.inr ⟨s,rfl⟩));clear f j t C;go_wp2_with fail;go_ret;exact m.o
   | false =>
    rw[s]at O;have ak:k≤17:=by
     rcases q with⟨h,-⟩|⟨-,rfl⟩
     ·exact h
     ·cases s
    obtain rfl:p=(Rd.ints k a).2:=by
     rcases q with⟨-,h⟩|⟨h,-⟩
     ·exact h
     ·omega
    have af:=zh (zBD t);have I:=zh (zDz k a);have T:=zh (And.intro f (And.intro j C));have G:=zW (OwnR wr 3 1 E k (zFg (Rd.ints k a).1)) (by have:=f;unfold zCd at this;rwa[P]at this);have U:=zh P;have am:=Rd.num_le (Rd.ints k a).2;clear f j t C P q;generalize hv:(Rd.ints k a).2.num.1=v at *;have Hv:=zh hv;clear hv;go_wp2_with fail;refine af.o.mono ?_;rintro e w3 ⟨rfl,Y,M⟩;have S:=zh Y;have Q:=zh M;rw[Hv.o];have g:=zh (G.o.keep fun y F=>M.block y (OwnR.lt G.o F) fun e=>(T.o.2.1 y F).2 e);clear Y M
    by_cases aj:16<k
    ·have W:decide ((16:Int)<(k:Int))=true:=decide_eq_true (by omega);go_wp2_with (at_builtin;have B:=g.o.keep (w':=w3.alloc (.cells #[.int .i64 (v:Int)] 3)) (fun z hz=>(zAv w3 _).block z (OwnR.lt g.o hz));have D:=zDG w3 (.int .i64 (v:Int)) 3 (0,0);refine zAO _ rfl (.tmp 20) (.tmp 23) 38 rfl 3 i0 (.int .i64 0) 1 8 underlying38 hi aa ab ac rfl (by decide) E k _ rfl B (.slice (some ⟨w3.heap.size,0,none⟩) 1 1) 1 _ rfl D (by simp[Value.oneCell']) (by unfold maxLen;omega) (by omega) ?_;clear B D;intro v4 w4 b c d;go_loud (have m:=zh (lst_round (v:=v) HA.o K T.o.2.1 T.o.2.2 S.o Q.o U.o b c d);have ad:=zh (zEX m.o.2.2.1);clear c d;obtain⟨p4,q4,rfl⟩:=OwnR.shape b;clear b))
     refine ad.o.mono ?_;rintro e w5 ⟨rfl,Z,N⟩;have H:=zh (And.intro Z (And.intro (m.o.2.2.2.trans N fun _ _ e=>e) (show zCd w5 (.slice p4 (k+1) q4) _ from OwnR.keep m.o.1 fun y F=>N.block y (OwnR.lt m.o.1 F) fun e=>(m.o.2.1 y F).2 e)));clear Z N;go_wp2_with fail;go_roundw
     case rel=>exact⟨k+1,_,_,by omega,by omega,by go_num,rfl,.inr ⟨by omega,rfl⟩,by rw[I.o];exact H.o.2.2,m.o.2.1,H.o.1,H.o.2.1⟩
     case measure=>simp[intOf];omega
    ·have W:decide ((16:Int)<(k:Int))=false:=decide_eq_false (by omega);go_wp2_with (at_builtin;have B:=g.o.keep (w':=w3.alloc (.cells #[.int .i64 (v:Int)] 3)) (fun z hz=>(zAv w3 _).block z (OwnR.lt g.o hz));have D:=zDG w3 (.int .i64 (v:Int)) 3 (0,0);refine zAO _ rfl (.tmp 20) (.tmp 23) 38 rfl 3 i0 (.int .i64 0) 1 8 underlying38 hi aa ab ac rfl (by decide) E k _ rfl B (.slice (some ⟨w3.heap.size,0,none⟩) 1 1) 1 _ rfl D (by simp[Value.oneCell']) (by unfold maxLen;omega) (by omega) ?_;clear B D;intro v4 w4 b c d;go_loud (have m:=zh (lst_round (v:=v) HA.o K T.o.2.1 T.o.2.2 S.o Q.o U.o b c d);clear c d;obtain⟨p4,q4,rfl⟩:=OwnR.shape b;clear b))
     go_roundw
     case rel=>exact⟨k+1,_,_,by omega,by omega,by go_num,rfl,.inl ⟨by omega,by rw[I.o]⟩,by rw[I.o];exact m.o.1,m.o.2.1,m.o.2.2.1,m.o.2.2.2⟩
     case measure=>simp[intOf];omega
  ·obtain rfl:k=n:=by omega
   have m:=zW (LstTold A w r R (.returned E) wr) (by
    cases s:p.bad with
    | true=>exact L.o p (.inr ⟨s,rfl⟩)
    | false =>
     refine L.o p (.inl ⟨rfl,?_,s,rfl⟩);rcases q with⟨h,-⟩|⟨-,rfl⟩
     ·exact h
     ·cases s)
   clear f j t C q O;go_wp2_with fail;go_ret;exact m.o
theorem zDd {R:Rd}:R.whole=true↔R.bad=false∧R.rest=[]:=by
 unfold Rd.whole;rw[Bool.and_eq_true,List.isEmpty_iff];simp
theorem grp7 {l:List Int}(h:zAZ l=true):l.length≤7:=by
 unfold zAZ at h;rw[Bool.and_eq_true,decide_eq_true_eq]at h;exact h.2.2
theorem ent_nodes7 {e:Ent}(h:zA1 e=true):e.nodes.length≤7:=by
 by_cases b:e.kind=0
 ·rw[ent_zero b,Bool.and_eq_true,decide_eq_true_eq]at h;omega
 ·by_cases c:e.kind=1
  ·rw[ent_one c,Bool.and_eq_true,decide_eq_true_eq]at h;omega
  ·by_cases d:e.kind=2
   ·rw[ent_two d,Bool.and_eq_true,Bool.and_eq_true]at h;exact grp7 h.2.2
   ·rw[ent_none b c d]at h;cases h
theorem lst_any {R b:Rd}{l:List Int}(h:RLst R l b)(c:b.bad=false)(d:l.length≤7):R.grp anyG=(l,b):=by
 rcases h with⟨-,-,rfl,rfl⟩|⟨-,h⟩
 ·rw[zCz]at d;rw[zDW (by omega)];rfl
 ·rw[h]at c;cases c
theorem lst_grp {R b:Rd}{l:List Int}(h:RLst R l b)(c:b.bad=false)(d:zAZ l=true):R.grp zAZ=(l,b):=by
 have f:=grp7 d;rcases h with⟨-,-,rfl,rfl⟩|⟨-,h⟩
 ·rw[zCz]at f;rw[zDW (by omega),if_pos d]
 ·rw[h]at c;cases c
theorem any_lst {R c:Rd}{l:List Int}(h:RLst R l c)(b:(R.grp anyG).2.bad=false):R.grp anyG=(l,c):=by
 by_cases d:7<R.num.1
 ·rw[grp_big d]at b;cases b
 ·rw[zDW d]at b ⊢;rcases h with⟨-,-,rfl,rfl⟩|⟨h,-⟩
  ·rfl
  ·exact absurd ⟨by omega,b⟩ h
theorem grp_lst {R d:Rd}{l:List Int}(h:RLst R l d)(b:(R.grp zAZ).2.bad=false):R.grp zAZ=(l,d):=by
 have c:=grp_bad b
 by_cases f:7<R.num.1
 ·rw[grp_big f]at b;cases b
 ·rw[zDW f]at b c ⊢;have c:zAZ (Rd.ints R.num.1 R.num.2).1=true:=c;rw[c]at b ⊢;have b:(Rd.ints R.num.1 R.num.2).2.bad=false:=b;rcases h with⟨-,-,rfl,rfl⟩|⟨h,-⟩
  ·rfl
  ·exact absurd ⟨by omega,b⟩ h
theorem lst_first {R b:Rd}{l:List Int}(h:RLst R l b):(b.whole&&zAZ l)=(R.grp zAZ).2.whole∧((R.grp zAZ).2.whole=true→R.grp zAZ=(l,b)):=by
 have c:(R.grp zAZ).2.whole=true→R.grp zAZ=(l,b):=fun e=>grp_lst h (zDd.1 e).1;refine⟨?_,c⟩;rw[Bool.eq_iff_iff,Bool.and_eq_true];refine⟨fun e=>?_,fun e=>?_⟩
 ·rw[lst_grp h (zDd.1 e.1).1 e.2];exact e.1
 ·have f:=c e;have d:=grp_bad (zDd.1 e).1;rw[f]at e d;exact⟨e,d⟩
def REntR (R:Rd)(e:Ent)(b:Rd):Prop :=
 ∃l R5,RLst R.num.2.num.2.bytes.2 l R5∧e=⟨(R.num.1:Int),(R.num.2.num.1:Int),R.num.2.num.2.bytes.1,l⟩∧b=if R5.bad=false∧zA1 e=false then Rd.fail else R5
theorem rent_whole {R j:Rd}{e:Ent}(h:REntR R e j) :
  (j.whole=true↔((R.num.2.num.2.bytes.2.grp anyG).2.whole=true∧zA1 ⟨(R.num.1:Int),(R.num.2.num.1:Int),R.num.2.num.2.bytes.1,(R.num.2.num.2.bytes.2.grp anyG).1⟩=true)) ∧
  (j.whole=true→e=⟨(R.num.1:Int),(R.num.2.num.1:Int),R.num.2.num.2.bytes.1,(R.num.2.num.2.bytes.2.grp anyG).1⟩):=by
 obtain⟨l,i,m,rfl,rfl⟩:=h;generalize R.num.2.num.2.bytes.2=n at *;generalize R.num.2.num.2.bytes.1=d at *;have g:(if i.bad=false∧zA1 ⟨(R.num.1:Int),(R.num.2.num.1:Int),d,l⟩=false then Rd.fail else i).whole=true→n.grp anyG=(l,i)∧i.whole=true∧zA1 ⟨(R.num.1:Int),(R.num.2.num.1:Int),d,l⟩=true:=by
  intro b
  split at b
  ·cases b
  ·rename_i hn
   have k:=(zDd.1 b).1;have f:zA1 ⟨(R.num.1:Int),(R.num.2.num.1:Int),d,l⟩=true:=by
    cases q:zA1 ⟨(R.num.1:Int),(R.num.2.num.1:Int),d,l⟩with
    | true=>rfl
    | false=>exact absurd ⟨k,q⟩ hn
   exact⟨lst_any m k (ent_nodes7 f),b,f⟩
 refine⟨⟨fun b=>?_,fun⟨b,f⟩=>?_⟩,fun b=>?_⟩
 ·obtain⟨c,o,p⟩:=g b;rw[c];exact⟨o,p⟩
 ·have c:=any_lst m (zDd.1 b).1;rw[c]at b f;rw[if_neg (fun hn=>by rw[f]at hn;exact absurd hn.2 (by simp))];exact b
 ·obtain⟨c,-⟩:=g b;rw[c]
theorem rsnap_is {b:Bs}{l:List Int}{d:Rd}(h:RLst (Rd.num ⟨b,false⟩).2.num.2 l d)(k:d.bad=false→d.bytes.1.length≤524288) :
  zC9 b=if d.bytes.2.whole=true∧zAZ l=true∧1≤(Rd.num ⟨b,false⟩).1∧(Rd.num ⟨b,false⟩).1≤1099511627776∧(Rd.num ⟨b,false⟩).2.num.1≤1099511627776 then some ⟨(Rd.num ⟨b,false⟩).1,(Rd.num ⟨b,false⟩).2.num.1,l,d.bytes.1⟩else none:=by
 unfold zC9;dsimp only;generalize (Rd.num ⟨b,false⟩).2.num.2=m at *;generalize (Rd.num ⟨b,false⟩).1=n at *;generalize (Rd.num ⟨b,false⟩).2.num.1=t at *
 by_cases c:d.bytes.2.whole=true∧zAZ l=true
 ·have g:=lst_grp h (zFu c.1) c.2;rw[g];dsimp only
  by_cases f:1≤n∧n≤1099511627776∧t≤1099511627776
  ·rw[if_pos ⟨c.1,f.1,f.2.1,f.2.2,k (zFu c.1)⟩,if_pos ⟨c.1,c.2,f⟩]
  ·rw[if_neg (fun e=>f ⟨e.2.1,e.2.2.1,e.2.2.2.1⟩),if_neg (fun e=>f e.2.2)]
 ·refine(if_neg fun e=>?_).trans (if_neg (fun e=>c ⟨e.1,e.2.1⟩)).symm;have i:=zFu e.1;have g:=grp_lst h i;have j:=grp_bad i;rw[g]at e j;exact c ⟨e.1,j⟩
theorem zDw (w:World)(a b:Nat):(w.drewN a).drewN b=w.drewN (a+b):=by
 simp[World.drewN,Nat.add_assoc]
theorem zC4 {w:World}{p:Option Addr}{n c:Nat}{l:List Int}(h:zBY w (.slice p n c) l)(hl:l.length≤1099511627776) :
  Calls prog 36 #[.slice p n c] w fun e w'=>e=.returned (.bool (zAZ l))∧∃q,w'=w.drewN q:=by
 have hn:l.length=n:=by obtain⟨_,_,e⟩:=h.slice;simp only[Value.slice.injEq]at e;exact e.2.1.symm
 rw[hn]at hl;have H:=zh h;have C:=zh hn;clear h hn
 go_enter func36,ntmps36
 go_wp2_with fail
 go_loopw [3] (fun i wr=>∃k q:Nat,k≤n∧i=.int .i64 k∧zFe (-1) l=zFe (zD7 l k) (l.drop k)∧-1≤zD7 l k∧wr=w.drewN q) (fun i _=>n-(intOf i).toNat)
 case atStart=>exact⟨0,0,Nat.zero_le _,rfl,rfl,Int.le_refl _,rfl⟩
 case round =>
  obtain⟨k,q0,hk,rfl,j,ac,s⟩:=hrel;have d:=zh s;have W:=zh (show zBY wr (.slice p n c) l by rw[s];exact zAK.chg H.o (Chg.of_below (⟨rfl,rfl,rfl,Nat.le_refl _,fun _ _=>rfl⟩:Below w.heap.size w (w.drewN q0))) fun _ _=>id);clear s
  by_cases P:k<n
  ·have f:k<l.length:=by rw[C.o];exact P
   have D:=zW (¬(zD7 l k<l[k]∧l[k]<7)→zAZ l=false) (fun I=>by
    unfold zAZ;rw[j,List.drop_eq_getElem_cons f];unfold zFe;rw[decide_eq_false I];rfl)
   have Q:=zW (zD7 l k<l[k]∧l[k]<7→zFe (-1) l=zFe (zD7 l (k+1)) (l.drop (k+1))) (fun I=>by
    rw[j,List.drop_eq_getElem_cons f,zGE f]
    show(decide _&&_)=_
    rw[decide_eq_true I,Bool.true_and])
   have R:=zh (zGE f);rcases W.o.at with v|⟨b,o,c1,G,J⟩
   ·rw[v]at f;simp at f
   rw[C.o]at G;simp only[Value.slice.injEq]at G;obtain⟨rfl,-,rfl⟩:=G;have Z:=J k _ (List.getElem?_eq_getElem f);have E:=zW (k≠0→wr.cell? ⟨b,o+(k-1),none⟩=some (.int .i64 (zD7 l k))) (fun v=>by
    have r:k-1<l.length:=by omega
    have:=J (k-1) _ (List.getElem?_eq_getElem r);rw[this];unfold zD7;rw[if_neg v,List.getElem?_eq_getElem r];rfl)
   have F:=zW (k=0→zD7 l k=-1) (fun v=>by rw[v];rfl);have aa:(k:Int)<(n:Int):=by omega
   clear J j;generalize l[k]=x at *;generalize zD7 l k=q at *
   by_cases A:x<0
   ·have g:=zh (D.o (by omega));have L:decide (x<0)=true:=by simpa using A
    go_wp2_with fail
    go_quiet (fail)
    go_wp2_with fail;go_ret;exact⟨by rw[g.o];rfl,_,by rw[d.o];exact zDw _ _ _⟩
   ·have L:decide (x<0)=false:=by simpa using A
    by_cases B:7≤x
    ·have g:=zh (D.o (by omega));have M:decide (7≤x)=true:=by simpa using B
     go_wp2_with fail
     go_quiet (fail)
     go_wp2_with fail;go_ret;exact⟨by rw[g.o];rfl,_,by rw[d.o];exact zDw _ _ _⟩
    ·have M:decide (7≤x)=false:=by simpa using B
     by_cases m:k=0
     ·have g:=zh (Q.o (by rw[F.o m];omega));have N:decide ((0:Int)<(k:Int))=false:=by simp;omega
      have y:decide (0<k)=false:=by simp;omega
      clear m;go_wp2_with fail
      go_quiet (fail)
      go_wp2_with fail;go_roundw
      case rel=>exact⟨k+1,_,by omega,by go_num,g.o,by rw[R.o];omega,by rw[d.o];exact zDw _ _ _⟩
      case measure=>simp[intOf];omega
     ·have K:=E.o m;have r:(0:Int)<(k:Int):=by omega
      have N:decide ((0:Int)<(k:Int))=true:=by simp;omega
      have y:decide (0<k)=true:=by simp;omega
      have ad:IntKind.i64.wrap ((k:Int)-1)=((k-1:Nat):Int):=by rw[IntWalk.i64_in _ (by omega)];omega
      have U:((k-1:Nat):Int)<(n:Int):=by omega
      have V:k-1<n:=by omega
      clear m
      by_cases a:x≤q
      ·have g:=zh (D.o (by omega));have O:decide (x≤q)=true:=by simpa using a
       go_wp2_with fail
       go_quiet (fail)
       go_wp2_with fail;go_ret;exact⟨by rw[g.o];rfl,_,by rw[d.o];exact zDw _ _ _⟩
      ·have O:decide (x≤q)=false:=by simpa using a
       have g:=zh (Q.o (by omega));go_wp2_with fail
       go_quiet (fail)
       go_wp2_with fail;go_roundw
       case rel=>exact⟨k+1,_,by omega,by go_num,g.o,by rw[R.o];omega,by rw[d.o];exact zDw _ _ _⟩
       case measure=>simp[intOf];omega
  ·have ab:k=n:=by omega
   have z:zFe (-1) l=true:=by rw[j,List.drop_of_length_le (by rw[C.o];omega)];rfl
   have g:=zW (zAZ l=decide (1≤n∧n≤7)) (by unfold zAZ;rw[z,C.o,Bool.true_and]);clear j z
   by_cases S:1≤n
   ·have X:decide ((1:Int)≤(n:Int))=true:=by simp;omega
    by_cases T:n≤7
    ·have Y:decide ((n:Int)≤7)=true:=by simp;omega
     have t:=zW (zAZ l=true) (g.o.trans (decide_eq_true ⟨S,T⟩));go_wp2_with fail;go_ret;exact⟨by rw[t.o];rfl,_,d.o⟩
    ·have Y:decide ((n:Int)≤7)=false:=by simp;omega
     have t:=zW (zAZ l=false) (g.o.trans (decide_eq_false fun e=>T e.2));go_wp2_with fail;go_ret;exact⟨by rw[t.o];rfl,_,d.o⟩
   ·have X:decide ((1:Int)≤(n:Int))=false:=by simp;omega
    have t:=zW (zAZ l=false) (g.o.trans (decide_eq_false fun e=>S e.1));go_wp2_with fail;go_ret;exact⟨by rw[t.o];rfl,_,d.o⟩
end Go.Proofs.YtapfnehdgailmaaGreat
