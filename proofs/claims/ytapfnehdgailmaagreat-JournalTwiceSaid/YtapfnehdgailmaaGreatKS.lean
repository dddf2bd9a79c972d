/- What the program's functions and the document's do, and plain laws, for PJournalTwice. -/
import Derived.Test.YtapfnehdgailmaaGreatKD
import Derived.Test.YtapfnehdgailmaaGreatKI
import Derived.Test.YtapfnehdgailmaaGreatKR
open Go.Proofs.Tryz
set_option maxRecDepth 100000
set_option maxHeartbeats 64000000
namespace Go.Proofs.YtapfnehdgailmaaGreat
open Go.RowKit Go.Sat Go.Maps
def Snd (w W:World)(c:Nat)(b dv:Value)(s:zDE):Prop :=
 W.heap[c]?=some (.cells #[.int .i64 (s.number:Int),.int .i64 s.term,b] 82 (0,0))∧zBe W b s.group∧zAY W dv s.data∧(∀k,dv.ownBlock=some k→w.heap.size≤k)∧∀k,(k=c∨b.ownBlock=some k)→dv.ownBlock≠some k
def FSnd (b:Nat)(c dv:Value)(k:Nat):Prop:=k=b∨c.ownBlock=some k∨dv.ownBlock=some k
theorem Snd.same {w W g:World}{b:Nat}{c dv:Value}{s:zDE}(h:Snd w W b c dv s)(f:Same (FSnd b c dv) W g):Snd w g b c dv s :=
 ⟨(f b (.inl rfl)).trans h.1,zAM.keep h.2.1 fun k d=>f k (.inr (.inl d)),zAM.keep h.2.2.1 fun k d=>f k (.inr (.inr d)),h.2.2.2.1,h.2.2.2.2⟩
theorem nm_logt (pre:ByteArray):nm (pre++(⟨#[45,108,111,103,126]⟩:ByteArray))=zAF (zAm (nm pre)):=by simp[nm,zAF,zAm,logX]
theorem nm_snpt (pre:ByteArray):nm (pre++(⟨#[45,115,110,97,112,126]⟩:ByteArray))=zAF (zBL (nm pre)):=by simp[nm,zAF,zBL,snpX]
theorem set3_block {W:World}{b:Nat}{i j k:Value}{e:TypeId}{g:Nat×Nat}(h:W.heap[b]?=some (.cells #[i,j,k] e g))(c d f:Value) :
  (((W.setCell ⟨b,0,none⟩ c).setCell ⟨b,1,none⟩ d).setCell ⟨b,2,none⟩ f).heap[b]?=some (.cells #[c,d,f] e g):=by
 have q1:=zAC h 0 c;have q2:=zAC q1 1 d;have l:=zAC q2 2 f;simpa using l
theorem set3_chg (W:World)(b:Nat)(c d f:Value):Chg (fun k=>k=b) W (((W.setCell ⟨b,0,none⟩ c).setCell ⟨b,1,none⟩ d).setCell ⟨b,2,none⟩ f) :=
 ((Chg.setCell W ⟨b,0,none⟩ c).trans (Chg.setCell _ ⟨b,1,none⟩ d) fun _ _ e=>e).trans (Chg.setCell _ ⟨b,2,none⟩ f) fun _ _ e=>e
theorem ropen_calls {w:World}{r:Nat}{v:Value}{L:List zAR}{own:Nat→Prop}{D:zAA}(h:zAc w r v L own D)(fd:D.room≤1048576)(pre:ByteArray){nodes:List Int}{pn:Option Addr}{nn cn:Nat}(hx:zBe w (.slice pn nn cn) nodes)(fT:nodes.length≤1099511627776)
  (fW:∀O:OpensJ D (nm pre) nodes,(zD8 (Sat.get (zBL (nm pre)) O.D2.files)).length≤524288) :
  Calls prog 18 #[.pointer (some ⟨r,0,none⟩),.string pre,.slice pn nn cn] w (zFk w r pre own (zAS D (nm pre) nodes)):=by
 have dd:(nm pre).length=pre.size:=nm_len pre;have aG:=zh (zDC hx fT)
 by_cases hp:pre.size<1∨20<pre.size
 ·have a:=zh (fun q=>ropened_arg (pre:=pre) (k:=1) h (zAZ w q) (oj_arg (pre:=nm pre) (nodes:=nodes) (by rw[dd];exact hp.elim .inl fun h=>.inr (.inl h))) (by decide));clear h dd hx;generalize gT:pre.size=z at *
  by_cases hz:z<1
  ·have ff:z=0:=by omega
   subst ff
   go_enter func18,ntmps18
   go_wp2_with fail
   go_ret2
   exact a.o 0
  ·have hE:20<z:=by omega
   go_enter func18,ntmps18
   go_wp2_with fail
   go_ret2
   exact a.o 0
 cases bN:zAX nodes with
 | false =>
  rw[bN]at aG;have a:=zh (fun q=>ropened_arg (pre:=pre) (k:=1) h (zAZ w q) (oj_arg (pre:=nm pre) (nodes:=nodes) (.inr (.inr bN))) (by decide));clear h dd hx bN;generalize gT:pre.size=z at *
  go_enter func18,ntmps18
  go_wp2_with fail;refine aG.o.mono ?_;rintro e w2 ⟨rfl,q,rfl⟩;go_wp2_with fail
  go_ret2
  exact a.o q
 | true =>
  rw[bN]at aG;have fb:1≤pre.size∧pre.size≤20:=by omega
  have bO:¬((nm pre).length<1∨20<(nm pre).length∨zAX nodes=false):=by
   rw[dd];rintro(h|h|h)
   ·omega
   ·omega
   ·rw[bN]at h;cases h
  obtain⟨O⟩:=zGQ D (nm pre) nodes;have cZ:=zGa D (zAF (zAm (nm pre)));rw[O.h1]at cZ;have da:=zGa O.D1 (zAF (zBL (nm pre)));rw[O.h2]at da;have al:=zh (show O.D2.room≤1048576 by have h1:O.D1.room=D.room:=cZ;have h2:O.D2.room=O.D1.room:=da;omega);have fv:=zh O.h1;have fw:=zh O.h2;have gs:=zh O.hs;have ag:=zh O.hl;have gd:=zh (oj_e1 O bO);have ge:=zh (oj_e2 O bO);have fn:=zh (oj_e3 O bO);have bH:=zh (oj_e4 O bO);have ay:=zh (oj_no O bO);have aF:=zh (fun M=>oj_keep O bO (M:=M));have aA:=zh (fun M=>oj_anew O bO (M:=M));have gz:=zh (fW O);clear cZ da fW;generalize O.D1=D1 at *;generalize O.e1=e1 at *;generalize O.D2=Y at *;generalize O.e2=e2 at *;generalize O.s=sn at *;generalize O.l=li at *;clear O;obtain⟨i0,hi,ff,gR,gS⟩:=info_parts (show(prog.info? 3).map (fun i=>(i.zero,i.size,i.bytes))=some (some (.int .i64 0),1,8) by kernel_rfl);have hn:nodes.length=nn:=by obtain⟨_,_,e⟩:=hx.slice;simp only[Value.slice.injEq]at e;exact e.2.1.symm
  have Hn:=zh hn;have hA:nn≤7:=by rw[←hn];exact grp7 bN
  have gr:=zh bN;have H:=zh h;have Hx:=zh hx;have gX:=fb.1;have gY:=fb.2;have ds:(zCT pre).size=pre.size+4:=zFa pre;have hd:(sSnp pre).size=pre.size+5:=zGe pre;have gP:(pre++(⟨#[45,108,111,103,126]⟩:ByteArray)).size=pre.size+5:=by simp[ByteArray.size_append];rfl
  have gQ:(pre++(⟨#[45,115,110,97,112,126]⟩:ByteArray)).size=pre.size+6:=by simp[ByteArray.size_append];rfl
  clear h hx hn bO hp dd bN fT fd
  go_enter func18,ntmps18
  go_wp2_with fail;refine aG.o.mono ?_;rintro e w1 ⟨rfl,q,rfl⟩;have df:=zW (Below w.heap.size w (w.drewN q)) (⟨rfl,rfl,rfl,Nat.le_refl _,fun _ _=>rfl⟩);generalize w.drewN q=w1 at *;clear aG;have fO:=zAI w1 (.cells #[.int .i64 0,.int .i64 0,.slice none 0 0,.pointer (some ⟨r,0,none⟩),.string pre,.int .i64 0,.int .i64 (-1),.slice none 0 0,.slice none 0 0,.bool false] 84);have de:(w1.alloc (.cells #[.int .i64 0,.int .i64 0,.slice none 0 0,.pointer (some ⟨r,0,none⟩),.string pre,.int .i64 0,.int .i64 (-1),.slice none 0 0,.slice none 0 0,.bool false] 84)).heap.size=w1.heap.size+1:=by simp
  have fA:=zW (OwnR ((w1.alloc (.cells #[.int .i64 0,.int .i64 0,.slice none 0 0,.pointer (some ⟨r,0,none⟩),.string pre,.int .i64 0,.int .i64 (-1),.slice none 0 0,.slice none 0 0,.bool false] 84)).alloc (.cells #[] 3)) 3 1 (.slice (some ⟨w1.heap.size+1,0,none⟩) 0 0) 0 []) (by
   have:=zAx (w1.alloc (.cells #[.int .i64 0,.int .i64 0,.slice none 0 0,.pointer (some ⟨r,0,none⟩),.string pre,.int .i64 0,.int .i64 (-1),.slice none 0 0,.slice none 0 0,.bool false] 84)) 3;rwa[de]at this)
  have dI:=zW (Below w.heap.size w ((w1.alloc (.cells #[.int .i64 0,.int .i64 0,.slice none 0 0,.pointer (some ⟨r,0,none⟩),.string pre,.int .i64 0,.int .i64 (-1),.slice none 0 0,.slice none 0 0,.bool false] 84)).alloc (.cells #[] 3))) ((df.o.alloc df.o.size _).alloc (by have:=df.o.size;rw[de];omega) _);have gu:=zh (zAy (.cells #[] 3) fO);have dA:=zW (((w1.alloc (.cells #[.int .i64 0,.int .i64 0,.slice none 0 0,.pointer (some ⟨r,0,none⟩),.string pre,.int .i64 0,.int .i64 (-1),.slice none 0 0,.slice none 0 0,.bool false] 84)).alloc (.cells #[] 3)).heap.size=w1.heap.size+2) (by simp);have gC:=zW (zAM ((w1.alloc (.cells #[.int .i64 0,.int .i64 0,.slice none 0 0,.pointer (some ⟨r,0,none⟩),.string pre,.int .i64 0,.int .i64 (-1),.slice none 0 0,.slice none 0 0,.bool false] 84)).alloc (.cells #[] 3)) 1 (.slice pn nn cn) nn (nodes.map (Value.int .i64))) (by
   have:=zAM.chg Hx.o (Chg.of_below dI.o) fun _ _=>id;rwa[Hn.o]at this)
  have dj:=zh df.o.size;clear fO de;go_wp2_with (at_builtin;refine zAP _ rfl (.tmp 46) (.tmp 47) 38 rfl 3 i0 (.int .i64 0) 1 8 underlying38 hi ff gR gS rfl (by decide) (.slice (some ⟨w1.heap.size+1,0,none⟩) 0 0) 0 _ rfl fA.o (.slice pn nn cn) nn _ rfl gC.o (fun u hu=>by obtain⟨z,-,rfl⟩:=List.mem_map.1 hu;rfl) (by unfold maxLen;omega) (by omega) ?_;intro v3 w3 bw bu cU;go_loud (rw[Nat.zero_add,List.nil_append]at bw;have fh:=zh (dI.o.grown bu dI.o.size fun k e=>by(have e2:w1.heap.size+1=k:=Option.some.inj e;have:=dj.o;omega));have dn:=(bu.block w1.heap.size (by rw[dA.o];omega) fun e=>by(have e2:w1.heap.size=w1.heap.size+1:=Option.some.inj e;omega)).trans gu.o;have fx:=zh dn;have c2:=zAb dn;have f2:=zAE dn 2;have bX:=zh (zA2 (B:=w1.heap.size+1) cU (fun k p=>by(have e2:w1.heap.size+1=k:=Option.some.inj p;omega)) (by rw[dA.o];omega));have dL:=zh bw;obtain⟨p3,q3,rfl⟩:=OwnR.shape bw;clear bw bu cU dn))
  clear c2 f2;have gt:=zW (((w3.setCell ⟨w1.heap.size,2,none⟩ (.slice p3 nn q3)).alloc (.cells #[.string (pre++(⟨#[45,108,111,103,126]⟩:ByteArray)),.string (pre++(⟨#[45,115,110,97,112,126]⟩:ByteArray))] 9)).heap[w1.heap.size]?=some (RJC r 0 0 (.slice p3 nn q3) pre 0 (-1) (.slice none 0 0) (.slice none 0 0) false)) (by
   refine zAy _ ?_;have:=zAC fx.o 2 (.slice p3 nn q3);rw[show(#[Value.int IntKind.i64 0,.int .i64 0,.slice none 0 0,.pointer (some ⟨r,0,none⟩),.string pre,.int .i64 0,.int .i64 (-1),.slice none 0 0,.slice none 0 0,.bool false]:Array Value).setIfInBounds 2 (.slice p3 nn q3)=#[.int .i64 0,.int .i64 0,.slice p3 nn q3,.pointer (some ⟨r,0,none⟩),.string pre,.int .i64 0,.int .i64 (-1),.slice none 0 0,.slice none 0 0,.bool false]from rfl]at this;exact this)
  have dx:=zW (Below w.heap.size w (w3.setCell ⟨w1.heap.size,2,none⟩ (.slice p3 nn q3))) ((((Chg.of_below fh.o).mono fun _ _ e=>e.elim:Chg (fun k=>k=w1.heap.size) w w3).trans (Chg.setCell w3 ⟨w1.heap.size,2,none⟩ _) fun k _ e=>e).below (Nat.le_refl _) fun k p e=>by have:=dj.o;omega);have ga:=zh (dx.o.alloc dx.o.size (.cells #[.string (pre++(⟨#[45,108,111,103,126]⟩:ByteArray)),.string (pre++(⟨#[45,115,110,97,112,126]⟩:ByteArray))] 9));have dQ:=zh (zAI (w3.setCell ⟨w1.heap.size,2,none⟩ (.slice p3 nn q3)) (.cells #[.string (pre++(⟨#[45,108,111,103,126]⟩:ByteArray)),.string (pre++(⟨#[45,115,110,97,112,126]⟩:ByteArray))] 9));have gf:=zW (zBe ((w3.setCell ⟨w1.heap.size,2,none⟩ (.slice p3 nn q3)).alloc (.cells #[.string (pre++(⟨#[45,108,111,103,126]⟩:ByteArray)),.string (pre++(⟨#[45,115,110,97,112,126]⟩:ByteArray))] 9)) (.slice p3 nn q3) nodes) (by
   have h1:OwnR (w3.setCell ⟨w1.heap.size,2,none⟩ (.slice p3 nn q3)) 3 1 (.slice p3 nn q3) nn (nodes.map (Value.int .i64)):=dL.o.keep fun k p=>set_other _ fun e=>by have h2:=bX.o k p;have e2:k=w1.heap.size:=e;omega
   have h2:=OwnR.holds h1;unfold zBe;rw[Hn.o];exact zAM.chg h2 (Chg.alloc _ _) fun _ _ e=>e)
  have gB:=zW ((w3.setCell ⟨w1.heap.size,2,none⟩ (.slice p3 nn q3)).heap.size=w3.heap.size) (by simp[World.setCell]);rw[gB.o]at dQ;have gn:=zW (∀k,(Value.slice p3 nn q3).ownBlock=some k→k<w3.heap.size) fun k p=>OwnR.lt dL.o p;have ft:=zW (w.heap.size≤w3.heap.size∧w3.heap.size≠w1.heap.size) (⟨fh.o.size,fun e=>by have:=zAB fx.o;omega⟩);have gm:=zW (((w3.setCell ⟨w1.heap.size,2,none⟩ (.slice p3 nn q3)).alloc (.cells #[.string (pre++(⟨#[45,108,111,103,126]⟩:ByteArray)),.string (pre++(⟨#[45,115,110,97,112,126]⟩:ByteArray))] 9)).heap.size=w3.heap.size+1) (by simp[World.setCell]);have fp:=zW (∀k,(Value.slice p3 nn q3).ownBlock=some k→w.heap.size≤k∧k<((w3.setCell ⟨w1.heap.size,2,none⟩ (.slice p3 nn q3)).alloc (.cells #[.string (pre++(⟨#[45,108,111,103,126]⟩:ByteArray)),.string (pre++(⟨#[45,115,110,97,112,126]⟩:ByteArray))] 9)).heap.size∧k≠w1.heap.size) (fun k p=>⟨by have h1:=bX.o k p;have h2:=dj.o;omega,by rw[gm.o];have h1:=OwnR.lt dL.o p;omega,by have h1:=bX.o k p;omega⟩);generalize gH:(w3.setCell ⟨w1.heap.size,2,none⟩ (.slice p3 nn q3)).alloc (.cells #[.string (pre++(⟨#[45,108,111,103,126]⟩:ByteArray)),.string (pre++(⟨#[45,115,110,97,112,126]⟩:ByteArray))] 9)=W5 at *;clear gH;have fq:=zW (ROS w (fun k=>k=w3.heap.size) w1.heap.size r pre own W5 D (zAJ.none0 nodes)) (ros_fresh H.o ga.o fb gr.o gt.o dj.o gf.o (fun k p=>fp.o k p) (fun k p=>⟨by rw[p];exact zAB dQ.o,by rw[p];exact ft.o.1,by rw[p];exact ft.o.2,fun e=>by have h1:=fp.o k e;have h2:=gn.o k e;omega⟩));generalize w3.heap.size=ta at *;generalize w1.heap.size=j at *
  go_loopw [10] (fun x wr=>wr.heap[ta]?=some (.cells #[.string (pre++(⟨#[45,108,111,103,126]⟩:ByteArray)),.string (pre++(⟨#[45,115,110,97,112,126]⟩:ByteArray))] 9 (0,0))∧((x=.int .i64 0∧ROS w (fun k=>k=ta) j r pre own wr D (zAJ.none0 nodes))∨(x=.int .i64 1∧e1=0∧ROS w (fun k=>k=ta) j r pre own wr D1 (zAJ.none0 nodes))∨(x=.int .i64 2∧e1=0∧e2=0∧ROS w (fun k=>k=ta) j r pre own wr Y (zAJ.none0 nodes)))) (fun i _=>2-(intOf i).toNat)
  case atStart=>exact⟨dQ.o,.inl ⟨rfl,fq.o⟩⟩
  case round =>
   obtain⟨bD,hx⟩:=hrel;rcases hx with⟨rfl,hJ⟩|⟨rfl,cT,hJ⟩|⟨rfl,cT,fM,hJ⟩
   ·have ci:=bD;have k0:=zAW ci;have k1:=zAd ci;obtain⟨v0,L0,cm,aH⟩:=ros_ref hJ;have C:=zh (zC0 aH (pre++(⟨#[45,108,111,103,126]⟩:ByteArray)));rw[nm_logt]at C;have bT:=zh hJ;have aN:=zh bD;clear aH ci;cases hg:Sat.get (zAF (zAm (nm pre))) D.files with
    | none =>
     have hr:D.rid1 (zAF (zAm (nm pre)))=(D,0):=by unfold zAA.rid1;rw[hg];rfl
     have bA:=fv.o;rw[hr]at bA;have cY:D=D1:=congrArg Prod.fst bA;have aw:0=e1:=congrArg Prod.snd bA;have cw:zDe (none:Option zAT)=7:=rfl;rw[hg]at C;have bb:=zW (e1=0) aw.symm;have ac:=zW (ROS w (fun k=>k=ta) j r pre own wr D1 (zAJ.none0 nodes)) (cY▸bT.o);clear hJ bD hg hr bA cY aw cw;go_wp2_with fail;refine C.o.mono ?_;rintro e w3 ⟨v3,rfl,-,-,A⟩;have a:=zh (And.intro ((A.block ta (zAB aN.o)).trans aN.o) (ac.o.next A));clear A C;rw[show zDe (none:Option zAT)=7 from rfl];go_wp2_with fail;go_roundw
     case rel=>first|exact⟨a.o.1,.inr (.inl ⟨rfl,bb.o,a.o.2⟩)⟩|((repeat apply Exists.intro);exact⟨⟨a.o.1,.inr (.inl ⟨rfl,bb.o,a.o.2⟩)⟩,rfl⟩)
     case measure=>simp[intOf]
    | some f =>
     have hr:D.remove [zAF (zAm (nm pre))]=(D1,e1):=by
      have:=fv.o;unfold zAA.rid1 at this;rw[hg]at this;exact this
     rw[hg]at C;have al:=zh (fun W (h:ROS w (fun k=>k=ta) j r pre own W D (zAJ.none0 nodes))=>show Calls prog 82 #[.pointer (some ⟨r,0,none⟩),.string (pre++(⟨#[45,108,111,103,126]⟩:ByteArray))] W fun e w'=>e=.returned (.int .i64 (e1:Int))∧ROS w (fun k=>k=ta) j r pre own w' D1 (zAJ.none0 nodes)∧Same (fun k=>k=ta) W w' by
      have:=zFX (Re:=D.remove [nm (pre++(⟨#[45,108,111,103,126]⟩:ByteArray))]) h (Below.refl _ _) fun v L bS hR=>rrem_calls hR (pre++(⟨#[45,108,111,103,126]⟩:ByteArray)) (by rw[gP];omega);rwa[nm_logt,hr]at this)
     clear hJ bD hg hr
     by_cases he:e1=0
     ·have bb:=zh he;rw[he]at al;clear he;go_wp2_with fail;refine C.o.mono ?_;rintro e w3 ⟨v3,rfl,-,-,A⟩;have aE:=zh (bT.o.next A);have T:=(A.block ta (zAB aN.o)).trans aN.o;have cM:=zh T;have k0:=zAW T;have k1:=zAd T;have ao:=zh (al.o w3 aE.o);clear A C T al;rw[show ∀f:zAT,zDe (some f)=0 from fun _=>rfl];go_wp2_with fail;refine ao.o.mono ?_;rintro e w4 ⟨rfl,bf,bC⟩;have a:=zh (And.intro ((bC ta rfl).trans cM.o) bf);clear bf bC ao k0 k1;go_wp2_with fail;go_roundw
      case rel=>first|exact⟨a.o.1,.inr (.inl ⟨rfl,bb.o,a.o.2⟩)⟩|((repeat apply Exists.intro);exact⟨⟨a.o.1,.inr (.inl ⟨rfl,bb.o,a.o.2⟩)⟩,rfl⟩)
      case measure=>simp[intOf]
     ·have cW:((e1:Int) != 0)=true:=by simp;omega
      have HR:=zh (gd.o he);have He:=zh he;clear he;go_wp2_with fail;refine C.o.mono ?_;rintro e w3 ⟨v3,rfl,-,-,A⟩;have aE:=zh (bT.o.next A);have T:=(A.block ta (zAB aN.o)).trans aN.o;have k0:=zAW T;have k1:=zAd T;have ao:=zh (al.o w3 aE.o);clear A C T al;rw[show ∀f:zAT,zDe (some f)=0 from fun _=>rfl];go_wp2_with fail;refine ao.o.mono ?_;rintro e w4 ⟨rfl,bf,bC⟩;have a:=zh (zAk bf HR.o He.o);clear bf bC ao k0 k1;go_wp2_with fail
      go_ret2
      exact a.o
   ·have F:=zh cT;clear cT;have ci:=bD;have k0:=zAW ci;have k1:=zAd ci;obtain⟨v0,L0,cm,aH⟩:=ros_ref hJ;have C:=zh (zC0 aH (pre++(⟨#[45,115,110,97,112,126]⟩:ByteArray)));rw[nm_snpt]at C;have bT:=zh hJ;have aN:=zh bD;clear aH ci;cases hg:Sat.get (zAF (zBL (nm pre))) D1.files with
    | none =>
     have hr:D1.rid1 (zAF (zBL (nm pre)))=(D1,0):=by unfold zAA.rid1;rw[hg];rfl
     have bA:=fw.o;rw[hr]at bA;have cY:D1=Y:=congrArg Prod.fst bA;have aw:0=e2:=congrArg Prod.snd bA;have cw:zDe (none:Option zAT)=7:=rfl;rw[hg]at C;have bb:=zW (e2=0) aw.symm;have ac:=zW (ROS w (fun k=>k=ta) j r pre own wr Y (zAJ.none0 nodes)) (cY▸bT.o);clear hJ bD hg hr bA cY aw cw;go_wp2_with fail;refine C.o.mono ?_;rintro e w3 ⟨v3,rfl,-,-,A⟩;have a:=zh (And.intro ((A.block ta (zAB aN.o)).trans aN.o) (ac.o.next A));clear A C;rw[show zDe (none:Option zAT)=7 from rfl];go_wp2_with fail;go_roundw
     case rel=>first|exact⟨a.o.1,.inr (.inr ⟨rfl,F.o,bb.o,a.o.2⟩)⟩|((repeat apply Exists.intro);exact⟨⟨a.o.1,.inr (.inr ⟨rfl,F.o,bb.o,a.o.2⟩)⟩,rfl⟩)
     case measure=>simp[intOf]
    | some f =>
     have hr:D1.remove [zAF (zBL (nm pre))]=(Y,e2):=by
      have:=fw.o;unfold zAA.rid1 at this;rw[hg]at this;exact this
     rw[hg]at C;have al:=zh (fun W (h:ROS w (fun k=>k=ta) j r pre own W D1 (zAJ.none0 nodes))=>show Calls prog 82 #[.pointer (some ⟨r,0,none⟩),.string (pre++(⟨#[45,115,110,97,112,126]⟩:ByteArray))] W fun e w'=>e=.returned (.int .i64 (e2:Int))∧ROS w (fun k=>k=ta) j r pre own w' Y (zAJ.none0 nodes)∧Same (fun k=>k=ta) W w' by
      have:=zFX (Re:=D1.remove [nm (pre++(⟨#[45,115,110,97,112,126]⟩:ByteArray))]) h (Below.refl _ _) fun v L bS hR=>rrem_calls hR (pre++(⟨#[45,115,110,97,112,126]⟩:ByteArray)) (by rw[gQ];omega);rwa[nm_snpt,hr]at this)
     clear hJ bD hg hr
     by_cases he:e2=0
     ·have bb:=zh he;rw[he]at al;clear he;go_wp2_with fail;refine C.o.mono ?_;rintro e w3 ⟨v3,rfl,-,-,A⟩;have aE:=zh (bT.o.next A);have T:=(A.block ta (zAB aN.o)).trans aN.o;have cM:=zh T;have k0:=zAW T;have k1:=zAd T;have ao:=zh (al.o w3 aE.o);clear A C T al;rw[show ∀f:zAT,zDe (some f)=0 from fun _=>rfl];go_wp2_with fail;refine ao.o.mono ?_;rintro e w4 ⟨rfl,bf,bC⟩;have a:=zh (And.intro ((bC ta rfl).trans cM.o) bf);clear bf bC ao k0 k1;go_wp2_with fail;go_roundw
      case rel=>first|exact⟨a.o.1,.inr (.inr ⟨rfl,F.o,bb.o,a.o.2⟩)⟩|((repeat apply Exists.intro);exact⟨⟨a.o.1,.inr (.inr ⟨rfl,F.o,bb.o,a.o.2⟩)⟩,rfl⟩)
      case measure=>simp[intOf]
     ·have cW:((e2:Int) != 0)=true:=by simp;omega
      have HR:=zh (ge.o F.o he);have He:=zh he;clear he;go_wp2_with fail;refine C.o.mono ?_;rintro e w3 ⟨v3,rfl,-,-,A⟩;have aE:=zh (bT.o.next A);have T:=(A.block ta (zAB aN.o)).trans aN.o;have k0:=zAW T;have k1:=zAd T;have ao:=zh (al.o w3 aE.o);clear A C T al;rw[show ∀f:zAT,zDe (some f)=0 from fun _=>rfl];go_wp2_with fail;refine ao.o.mono ?_;rintro e w4 ⟨rfl,bf,bC⟩;have a:=zh (zAk bf HR.o He.o);clear bf bC ao k0 k1;go_wp2_with fail
      go_ret2
      exact a.o
   ·have F:=zh cT;have P:=zh fM;have dh:=zh (hJ.less (F':=fun _=>False) fun _ h=>h.elim);have dW:=zAD wr (.cells #[.int .i64 0,.int .i64 0,.slice none 0 0] 82);have fg:=zh dW;have gl:=zW ((wr.alloc (.cells #[.int .i64 0,.int .i64 0,.slice none 0 0] 82)).heap.size=wr.heap.size+1) (by simp);have dO:=zh (zAI wr (.cells #[.int .i64 0,.int .i64 0,.slice none 0 0] 82));have aE:=zh (dh.o.next dW);obtain⟨v0,L0,cm,aH⟩:=ros_ref aE.o;have fy:=zh (rload_calls aH (sSnp pre));rw[nm_snp]at fy;have cG:=zh gs.o;have fB:=zh gz.o;clear cT fM hJ bD dW aH;generalize hB:Sat.get (zBL (nm pre)) Y.files=of at *;go_wp2_with fail;refine fy.o.mono ?_;rintro e w6 ⟨v6,rfl,bE,bo,bt⟩;have dg:=zh (fg.o.trans (bt.mono fg.o.size));rcases loadE_cases of with hl|hl|hl
    rotate_left
    ·have am:sn=(3,none):=cG.o.symm.trans (snapOf_3 hl);have a:=zh (zAk (aE.o.next bt) (show zAS D (nm pre) nodes=(Y,3,zAJ.none0 nodes) by have t:=fn.o F.o P.o;rw[am]at t;exact t (by decide)) (by decide));rw[hl];clear hl am bE bo bt;go_wp2_with fail
     go_ret2
     exact a.o
    ·have am:sn=(0,none):=cG.o.symm.trans (zGf hl);obtain⟨ks,gM⟩:∃ks,ks=sn.1:=⟨_,rfl⟩;have Q:=zW (sn.1=0) (by rw[am]);have aY:=zW (e1=0→e2=0→sn.1=0→li.2.1=0→zAi none li.2.2.2 li.2.2.1=none→zAS D (nm pre) nodes=(li.1,3,zAJ.none0 nodes)) (by have t:=ay.o;rw[am]at t ⊢;exact t);have aW:=zW (∀M,e1=0→e2=0→sn.1=0→li.2.1=0→zAi none li.2.2.2 li.2.2.1=some (false,M)→zAS D (nm pre) nodes=(li.1,0,M)) (by have t:=aF.o;rw[am]at t ⊢;exact t);have aV:=zW (∀M,e1=0→e2=0→sn.1=0→li.2.1=0→zAi none li.2.2.2 li.2.2.1=some (true,M)→zAS D (nm pre) nodes=((zAU li.1 (nm pre) M).1,(zAU li.1 (nm pre) M).2,M)) (by have t:=aA.o;rw[am]at t ⊢;exact t);have aM:=zh (aE.o.next bt);rw[hl];clear hl am bE bo bt gM ay aF aA aE;generalize dU:w6=W7 at *;clear dU;go_wp2_with fail;obtain⟨v0,L0,cm,aH⟩:=ros_ref aM.o;have C:=zh (zC0 aH (zCT pre));rw[zBw]at C;have aB:=zh aM.o.okD;have aI:=zFM aM.o.okD (zAm (nm pre));clear aH;cases hg:Sat.get (zAm (nm pre)) Y.files with
     | none =>
      have c:li=(Y,0,true,zAJ.none0 nodes):=ag.o.symm.trans (zE9 hg);have R:=ag.o;obtain⟨E,aC⟩:∃E,E=Y:=⟨_,rfl⟩;obtain⟨b,bZ⟩:∃b,b=zAJ.none0 nodes:=⟨_,rfl⟩;rw[←aC,←bZ]at c;have ay:=zW (zAi none b true=none→zAS D (nm pre) nodes=(E,3,zAJ.none0 nodes)) (fun hj=>by have t:=aY.o F.o P.o Q.o;rw[c]at t;exact t rfl hj);have aF:=zW (∀M,zAi none b true=some (false,M)→zAS D (nm pre) nodes=(E,0,M)) (fun M hj=>by have t:=aW.o M F.o P.o Q.o;rw[c]at t;exact t rfl hj);have aA:=zW (∀M,zAi none b true=some (true,M)→zAS D (nm pre) nodes=((zAU E (nm pre) M).1,(zAU E (nm pre) M).2,M)) (fun M hj=>by have t:=aV.o M F.o P.o Q.o;rw[c]at t;exact t rfl hj);have az:=zh (zCS (D:=Y) (D':=E) (pre:=nm pre) (M:=zAJ.none0 nodes) (M':=b) aB.o al.o (show(zAJ.none0 nodes).entries=[]from rfl) (R.trans c));rw[hg]at C;have cC:=zW (ROS w (fun _=>False) j r pre own W7 E b) (by rw[aC,bZ];exact aM.o);clear hg aI c R aC bZ;go_wp2_with fail;refine C.o.mono ?_;rintro e WT ⟨v3,rfl,-,-,A⟩;have aa:=zh (cC.o.next A)
      
      clear A C;rw[show zDe (none:Option zAT)=7 from rfl];obtain⟨cP,cN,cO,d⟩:=aa.o.cells;have c0:=zAW d;clear d
      by_cases K:0<b.number
      ·have HR:=zh (ay.o (show zAi none b true=none by unfold zAi;exact if_pos K));have a:=zh (fun q=>zAk (aa.o.next (zAZ WT q)) HR.o (by decide));have d0:decide ((0:Int)<(b.number:Int))=true:=by simp;omega
       have bc:decide (0<b.number)=true:=by simp;omega
       clear K;go_wp2_with fail
       go_quiet (fail)
       go_wp2_with fail
       go_ret2
       exact a.o _
      ·have ac:=zW (zAi none b true=some (true,b)) (by unfold zAi;exact if_neg K);have d0:decide ((0:Int)<(b.number:Int))=false:=by simp;omega
       have bc:decide (0<b.number)=false:=by simp;omega
       clear K;have bp:=aA.o _ ac.o;go_wp2_with fail
       go_quiet (fail)
       go_wp2_with fail
       go_quiet (fail)
       go_wp2_with fail;generalize cS:(World.drewN _ _)=WQ;have dK:=zW (ROS w (fun _=>False) j r pre own WQ E b) (by rw[←cS];exact aa.o.next (zAZ WT _));clear cS c0;cases ak:zAU E (nm pre) b with
       | mk D4 e4 =>
        have J:=zh (zGc dK.o az.o);rw[ak]at J;have I:=bp;rw[ak]at I;have I:=zh I;clear ak
        by_cases ai:e4=0
        ·subst ai;go_wp2_with fail;refine J.o.mono ?_;rintro e w9 ⟨rfl,N,ae⟩;have a:=zh (zBZ N I.o);clear N ae J;go_wp2_with fail
         go_ret2
         exact a.o
        ·have cl:((e4:Int) != 0)=true:=by simp;omega
         have bq:=zh ai;clear ai;go_wp2_with fail;refine J.o.mono ?_;rintro e w9 ⟨rfl,N,ae⟩;have a:=zh (zAk N I.o bq.o);clear N ae J;go_wp2_with fail
         go_ret2
         exact a.o
     | some f =>
      have bn:f.data.length≤1073741824:=by rw[hg]at aI;exact aI
      have bV:=zh (zFw (M:=zAJ.none0 nodes) hg);have cB:=zh (fun M'=>readLog_ok (M:=zAJ.none0 nodes) (M':=M') hg);rw[hg]at C;clear hg aI;go_wp2_with fail;refine C.o.mono ?_;rintro e w3 ⟨v3,rfl,bl,fa,A⟩;have co:=zh (aM.o.next A)
      
      have bl:zAj w3 5 v3 f.data:=bl;obtain⟨pb,cb,rfl,bM⟩:=zAN bl;have cL:=zh (rscan_calls bl.has bM bn);clear A bl fa bM C;have fU:=scan_le f.data;generalize bh:f.data.length=ax at *;rw[show ∀f:zAT,zDe (some f)=0 from fun _=>rfl];go_wp2_with fail;refine cL.o.mono ?_;rintro e w4 ⟨v4,vs,rfl,aw,cd,cs⟩;have aL:=zW (ROS w (fun k=>(fun _=>False) k∨(v4.ownBlock=some k∨∃u∈vs,u.ownBlock=some k)) j r pre own w4 Y (zAJ.none0 nodes)) (co.o.more cs fun k p=>by
       rcases p with p|p|⟨u,hu,p⟩
       ·exact .inl p
       ·exact .inr ⟨cd.1 k p,OwnR.lt aw.row p⟩
       ·refine .inr ⟨cd.2 u hu k p,?_⟩;obtain⟨i,hi,rfl⟩:=List.getElem_of_mem hu;have dX:i<(zDx f.data).1.length:=by rw[←aw.len];exact hi
        exact OwnR.lt (aw.has i _ _ (List.getElem?_eq_getElem hi) (List.getElem?_eq_getElem dX)) p)
      
      have bU:=zh aw;have cJ:=zW (∀x∈(zDx f.data).1,x.length≤1073741824) fun x hx=>scanJ_row bn bh hx;clear aw cd cs cL co;obtain⟨pr,cr,fe⟩:=OwnR.shape bU.o.row;generalize hq:(zDx f.data).2=q at *;generalize bi:(zDx f.data).1=rows at *;have gO:rows.length≤1073741824:=zF0 bn bh bi;generalize cX:rows.length=n at *;have br:=zh cX;subst fe;clear hq bi cX bh
      by_cases K:n=0
      ·have db:rows=[]:=List.eq_nil_of_length_eq_zero (by rw[br.o,K]);have c:li=(Y,3,false,zAJ.none0 nodes):=ag.o.symm.trans (bV.o (by rw[db];rfl));have a:=zh (zAk aL.o (show zAS D (nm pre) nodes=(Y,3,zAJ.none0 nodes) by have t:=bH.o F.o P.o Q.o;rw[c]at t;exact t (show(3:Nat)≠0 by decide)) (by decide));have e0:((n:Int)==0)=true:=by simp;omega
       clear db K c;go_wp2_with fail
       go_ret2
       exact a.o
      ·have e0:((n:Int)==0)=false:=by simp;omega
       have cI:=zh K;clear K;obtain⟨S,hN,bK,cQ,cR⟩:=ros_new aL.o;have dM:=zh cR;clear cR;have cA:=zh hN;have bI:=zh bK;have cD:=zh cQ;have cH:=zh (fun k p=>aL.o.fj (k:=k) p);clear hN bK cQ;go_wp2_with fail
       go_loopw [23] (fun i wr=>∃(k:Nat) (Mk:zAJ),k≤n∧i=.int .i64 k∧(k=0→Mk=zAJ.none0 nodes)∧Mk.entries.length≤k∧zBi (fun k=>S k∨w4.heap.size≤k) wr j r pre Mk∧Chg (fun k=>S k∨w4.heap.size≤k) w4 wr∧zCC (zAJ.none0 nodes) rows=restJ k Mk (rows.drop k)) (fun i _=>n-(intOf i).toNat)
       case atStart=>exact⟨0,zAJ.none0 nodes,Nat.zero_le _,rfl,fun _=>rfl,Nat.zero_le _,cA.o.wide fun _ h=>.inl h,Chg.refl _ _,rfl⟩
       case round =>
        clear cA e0;obtain⟨k,Mk,p,rfl,bv,cV,hN,hC,aj⟩:=hrel;have af:∀x,(fun k=>(fun _=>False) k∨((Value.slice pr n cr).ownBlock=some k∨∃u∈vs,u.ownBlock=some k)) x→wr.heap[x]?=w4.heap[x]?:=fun x hx=>hC.block x (aL.o.flt hx) fun e=>e.elim (fun e=>(bI.o x e).2 hx) fun e=>by have:=aL.o.flt hx;omega
        by_cases ad:k<n
        ·have aQ:k<rows.length:=by rw[br.o];exact ad
         rw[List.drop_eq_getElem_cons aQ,restJ_cons]at aj;have aP:=bU.o.keepJ (w':=wr) fun x hx=>af x (.inr hx);have bg:k<vs.length:=by rw[aP.len];exact aQ
         have aR:=aP.has k _ _ (List.getElem?_eq_getElem bg) (List.getElem?_eq_getElem aQ);have aD:∃g,pr=some ⟨g,0,none⟩∧wr.cell? ⟨g,k,none⟩=some vs[k]:=by
          rcases aP.row.2 with⟨-,h0⟩|⟨g,gD,cur,e,-⟩
          ·omega
          ·refine⟨g,?_,?_⟩
           ·simp only[Value.slice.injEq]at e;exact e.1
           ·have hc:=aP.row.cells (g:=g) (by rw[e];rfl) k _ (List.getElem?_eq_getElem bg);rwa[add_zero]at hc
         obtain⟨g,rfl,aD⟩:=aD;have bm:=cJ.o _ (List.getElem_mem aQ);obtain⟨px,cx,ce,ca⟩:=zAN aR;have bF:∀y,vs[k].ownBlock=some y→(fun k=>(fun _=>False) k∨((Value.slice (some ⟨g,0,none⟩) n cr).ownBlock=some k∨∃u∈vs,u.ownBlock=some k)) y:=fun y hy=>.inr (.inr ⟨vs[k],List.getElem_mem bg,hy⟩);rw[ce]at aR aD bF;have an:=zh (rreads_calls hN (decide (k=0)) (fun hf=>by rw[bv (by simpa using hf)];rfl) aR.has ca bm (fun y hy=>OwnR.lt aR hy) (fun y hy=>cH.o y (bF y hy)) (by omega));have HC:=zh hC;have gL:((k:Int)==0)=decide (k=0):=by
          by_cases h0:k=0
          ·subst h0;rfl
          ·rw[decide_eq_false h0];simp;omega
         cases hc:zBc (decide (k=0)) Mk rows[k]with
         | none =>
          rw[hc]at aj;rw[hc]at an;have c:li=(Y,3,false,zAJ.none0 nodes):=ag.o.symm.trans (bV.o aj);have aX:=zW (zAS D (nm pre) nodes=(Y,3,zAJ.none0 nodes)) (by have t:=bH.o F.o P.o Q.o;rw[c]at t;exact t (show(3:Nat)≠0 by decide));clear hN hC aj aP aR bm hc ce bg bv c af ca bF;generalize rows[k]=x at *;generalize x.length=m at *;generalize decide (k=0)=fk at *;clear aQ;go_wp2_with fail;refine an.o.mono ?_;rintro e w6 ⟨be,cc⟩;obtain rfl:e=.returned (.bool false):=cc;have a:=zh (ropened_bad2 (pre:=pre) (dM.o w6 (HC.o.trans be fun _ _ h=>h)) aX.o (by decide));clear be an;go_wp2_with fail
          go_ret2
          exact a.o
         | some Mn =>
          rw[hc]at aj;rw[hc]at an;have dZ:=rec1_len hc;have dN:=zh (show Mn.entries.length≤k+1 by omega);have dP:=zW (zCC (zAJ.none0 nodes) rows=restJ (k+1) Mn (rows.drop (k+1))) aj;clear hN hC aj aP aR bm hc ce bg bv af ca bF dZ cV;generalize rows[k]=x at *;generalize x.length=m at *;generalize decide (k=0)=fk at *;clear aQ;go_wp2_with fail;refine an.o.mono ?_;rintro e w6 ⟨be,cc,bo⟩;subst cc;have a:=zh (And.intro (bo.wide fun y hy=>hy.elim id fun h=>.inr (Nat.le_trans HC.o.size h)) (HC.o.trans be fun _ _ h=>h));clear be bo;go_wp2_with fail;go_roundw
          case rel=>exact⟨k+1,Mn,by omega,by go_num,fun h=>by omega,dN.o,a.o.1,a.o.2,dP.o⟩
          case measure=>simp[intOf];omega
        ·have dY:k=n:=by omega
         subst dY;have bP:zCC (zAJ.none0 nodes) rows=some Mk:=by
          rw[aj,List.drop_of_length_le (by rw[br.o];exact Nat.le_refl _)];cases k with
          | zero=>exact absurd rfl cI.o
          | succ k=>rfl
         have aK:=zh (cB.o Mk bP);have bW:=zW (ROS w (fun _=>False) j r pre own wr Y Mk) ((cD.o wr Mk hN hC).1.less fun _ h=>.inl h)
         
         clear hN hC aj bP bU aL cJ bV cB cI br bv af cD bI cH cV;generalize dS:Mk=b at *;clear dS
         by_cases cf:q<ax
         ·have dq:decide ((q:Int)<(ax:Int))=true:=by simp;omega
          have dR:decide (q<ax)=true:=by simp;omega
          cases bk:Y.truncate (zAm (nm pre)) (q:Int)with
          | mk Dt e1t =>
           have aO:=zW (Calls prog 90 #[.pointer (some ⟨r,0,none⟩),.string (zCT pre),.int .i64 (q:Int)] wr fun e w'=>e=.returned (.int .i64 (e1t:Int))∧ROS w (fun _=>False) j r pre own w' Dt b∧Same (fun _=>False) wr w') (by
            have:=zFX (Re:=Y.truncate (nm (zCT pre)) (q:Int)) bW.o (Below.refl _ _) fun v L bS hR=>rtrunc_calls hR (zCT pre) (by rw[ds];omega) (q:Int) (by omega) (by omega);rwa[zBw,bk]at this)
           by_cases aq:e1t=0
           ·subst aq;cases ch:Dt.sync [zAm (nm pre)]with
            | mk E e2t =>
             have hT:tornOff Y (zAm (nm pre)) q ax=(E,e2t):=by unfold tornOff;rw[if_pos cf,bk,if_neg (by simp)];exact ch
             have hR:=aK.o;rw[hT]at hR;have bs:=zh (fun W (h:ROS w (fun _=>False) j r pre own W Dt b)=>show Calls prog 91 #[.pointer (some ⟨r,0,none⟩),.string (zCT pre)] W fun e w'=>e=.returned (.int .i64 (e2t:Int))∧ROS w (fun _=>False) j r pre own w' E b∧Same (fun _=>False) W w' by
              have:=zFX (Re:=Dt.sync [nm (zCT pre)]) h (Below.refl _ _) fun v L bS hR=>zDg hR (zCT pre) (by rw[ds];omega);rwa[zBw,ch]at this)
             clear bk ch hT aK
             by_cases aJ:e2t=0
             ·subst aJ;have c:li=(E,0,false,b):=ag.o.symm.trans hR;have R:=ag.o;have ay:=zW (zAi none b false=none→zAS D (nm pre) nodes=(E,3,zAJ.none0 nodes)) (fun hj=>by have t:=aY.o F.o P.o Q.o;rw[c]at t;exact t rfl hj);have aF:=zW (∀M,zAi none b false=some (false,M)→zAS D (nm pre) nodes=(E,0,M)) (fun M hj=>by have t:=aW.o M F.o P.o Q.o;rw[c]at t;exact t rfl hj);have aA:=zW (∀M,zAi none b false=some (true,M)→zAS D (nm pre) nodes=((zAU E (nm pre) M).1,(zAU E (nm pre) M).2,M)) (fun M hj=>by have t:=aV.o M F.o P.o Q.o;rw[c]at t;exact t rfl hj);have az:=zh (zCS (D:=Y) (D':=E) (pre:=nm pre) (M:=zAJ.none0 nodes) (M':=b) aB.o al.o (show(zAJ.none0 nodes).entries=[]from rfl) (R.trans c));clear c R hR;go_wp2_with fail;refine aO.o.mono ?_;rintro e w6 ⟨rfl,au,aU⟩;have ap:=zh (bs.o w6 au)
              
              clear au aU aO bs;go_wp2_with fail;refine ap.o.mono ?_;rintro e WT ⟨rfl,ah,bQ⟩;have aa:=zh ah
              
              clear ah bQ ap;obtain⟨cP,cN,cO,d⟩:=aa.o.cells;have c0:=zAW d;clear d
              by_cases K:0<b.number
              ·have HR:=zh (ay.o (show zAi none b false=none by unfold zAi;exact if_pos K));have a:=zh (fun q=>zAk (aa.o.next (zAZ WT q)) HR.o (by decide));have d0:decide ((0:Int)<(b.number:Int))=true:=by simp;omega
               have bc:decide (0<b.number)=true:=by simp;omega
               clear K;go_wp2_with fail
               go_quiet (fail)
               go_wp2_with fail
               go_ret2
               exact a.o _
              ·have ac:=zW (zAi none b false=some (false,b)) (by unfold zAi;exact if_neg K);have d0:decide ((0:Int)<(b.number:Int))=false:=by simp;omega
               have bc:decide (0<b.number)=false:=by simp;omega
               clear K;have HR:=zh (aF.o _ ac.o);have a:=zh (fun q q2=>zBZ ((aa.o.next (zAZ WT q)).next (zAZ (WT.drewN q) q2)) HR.o);go_wp2_with fail
               go_quiet (fail)
               go_wp2_with fail
               go_quiet (fail)
               go_wp2_with fail
               go_ret2
               exact a.o _ _
             ·have cW:((e2t:Int) != 0)=true:=by simp;omega
              have c:li=(E,e2t,false,b):=ag.o.symm.trans hR;have aX:=zW (zAS D (nm pre) nodes=(E,e2t,zAJ.none0 nodes)) (by have t:=bH.o F.o P.o Q.o;rw[c]at t;exact t aJ);have cF:=zh aJ;clear c hR aJ;go_wp2_with fail;refine aO.o.mono ?_;rintro e w6 ⟨rfl,au,aU⟩;have ap:=zh (bs.o w6 au);clear au aU aO bs;go_wp2_with fail;refine ap.o.mono ?_;rintro e WT ⟨rfl,ah,bQ⟩;have a:=zh (zAk ah aX.o cF.o);clear ah bQ ap;go_wp2_with fail
              go_ret2
              exact a.o
           ·have hT:tornOff Y (zAm (nm pre)) q ax=(Dt,e1t):=by unfold tornOff;rw[if_pos cf,bk,if_pos aq]
            have hR:=aK.o;rw[hT]at hR;have c:li=(Dt,e1t,false,b):=ag.o.symm.trans hR;have aX:=zW (zAS D (nm pre) nodes=(Dt,e1t,zAJ.none0 nodes)) (by have t:=bH.o F.o P.o Q.o;rw[c]at t;exact t aq);have cW:((e1t:Int) != 0)=true:=by simp;omega
            have gK:((e1t:Int)==0)=false:=by simp;omega
            have cE:=zh aq;clear bk hT hR aK c aq;go_wp2_with fail;refine aO.o.mono ?_;rintro e w6 ⟨rfl,au,aU⟩;have a:=zh (zAk au aX.o cE.o);clear au aU aO;go_wp2_with fail
            go_ret2
            exact a.o
         ·have dq:decide ((q:Int)<(ax:Int))=false:=by simp;omega
          have dR:decide (q<ax)=false:=by simp;omega
          have hT:tornOff Y (zAm (nm pre)) q ax=(Y,0):=by unfold tornOff;rw[if_neg cf]
          have hR:=aK.o;rw[hT]at hR;have c:li=(Y,0,false,b):=ag.o.symm.trans hR;have R:=ag.o;obtain⟨E,aC⟩:∃E,E=Y:=⟨_,rfl⟩;rw[←aC]at c;have ay:=zW (zAi none b false=none→zAS D (nm pre) nodes=(E,3,zAJ.none0 nodes)) (fun hj=>by have t:=aY.o F.o P.o Q.o;rw[c]at t;exact t rfl hj);have aF:=zW (∀M,zAi none b false=some (false,M)→zAS D (nm pre) nodes=(E,0,M)) (fun M hj=>by have t:=aW.o M F.o P.o Q.o;rw[c]at t;exact t rfl hj);have aA:=zW (∀M,zAi none b false=some (true,M)→zAS D (nm pre) nodes=((zAU E (nm pre) M).1,(zAU E (nm pre) M).2,M)) (fun M hj=>by have t:=aV.o M F.o P.o Q.o;rw[c]at t;exact t rfl hj);have az:=zh (zCS (D:=Y) (D':=E) (pre:=nm pre) (M:=zAJ.none0 nodes) (M':=b) aB.o al.o (show(zAJ.none0 nodes).entries=[]from rfl) (R.trans c));have aa:=zW (ROS w (fun _=>False) j r pre own wr E b) (by rw[aC];exact bW.o);clear hT hR aK c R aC bW;go_wp2_with fail;generalize dV:wr=WT at *;clear dV;obtain⟨cP,cN,cO,d⟩:=aa.o.cells;have c0:=zAW d;clear d
          by_cases K:0<b.number
          ·have HR:=zh (ay.o (show zAi none b false=none by unfold zAi;exact if_pos K));have a:=zh (fun q=>zAk (aa.o.next (zAZ WT q)) HR.o (by decide));have d0:decide ((0:Int)<(b.number:Int))=true:=by simp;omega
           have bc:decide (0<b.number)=true:=by simp;omega
           clear K;go_wp2_with fail
           go_quiet (fail)
           go_wp2_with fail
           go_ret2
           exact a.o _
          ·have ac:=zW (zAi none b false=some (false,b)) (by unfold zAi;exact if_neg K);have d0:decide ((0:Int)<(b.number:Int))=false:=by simp;omega
           have bc:decide (0<b.number)=false:=by simp;omega
           clear K;have HR:=zh (aF.o _ ac.o);have a:=zh (fun q q2=>zBZ ((aa.o.next (zAZ WT q)).next (zAZ (WT.drewN q) q2)) HR.o);go_wp2_with fail
           go_quiet (fail)
           go_wp2_with fail
           go_quiet (fail)
           go_wp2_with fail
           go_ret2
           exact a.o _ _
    ·have am:sn=(match zDH (zD8 of)with|none=>(3,none)|some s=>(0,some s)):=cG.o.symm.trans (snapOf_0 hl);have gw:=zW (∀s,zDH (zD8 of)=some s→s.OK∧s.data.length≤524288∧1≤s.number) fun s hs=>snapIs_ok hs;rw[hl];have hh:=zh (aE.o.next bt);have bE:zAj w6 5 v6 (zD8 of):=bE;obtain⟨pv,cv,rfl,fL⟩:=zAN bE;have fP:=fB.o;generalize zD8 of=sb at *;have gj:=zh (zFv (w:=w6) bE.has fL (fun k p=>OwnR.lt bE p) (by omega));have dB:=zh (fun k p=>OwnR.lt (k:=k) bE p);have fm:=zh (zAD w6 (.cells #[.slice pv sb.length cv,.bool false] 148));have gv:=zh bo;have fz:=zh ((bt.block wr.heap.size (zAB dO.o)).trans dO.o);have fY:wr.heap.size<w6.heap.size:=Nat.lt_of_lt_of_le (zAB dO.o) bt.size;have gy:=zh (fun l' R' (hL:RLst (Rd.num ⟨sb,false⟩).2.num.2 l' R')=>rsnap_is hL fun hb=>Nat.le_trans (rsnap_len hL hb) fP);have gg:=zh (zBC gj.o);have ht:=Rd.num_le ⟨sb,false⟩;have hv:=Rd.num_le (Rd.num ⟨sb,false⟩).2;clear hl bE bo bt fL aE;have hm:=zh fP;generalize dF:sb.length=gU at *;have gV:=zh dF;clear dF;go_wp2_with fail;generalize gI:w6.alloc (.cells #[.slice pv gU cv,.bool false] 148)=Wq at *;clear gI;refine gg.o.mono ?_;rintro e w7 ⟨rfl,cw,fI⟩;have fi:=zW (Below w6.heap.size w6 w7) (fm.o.trans (fI.below fm.o.size fun i hi e=>by omega));have gh:=zh (zBC cw);clear cw fI;go_wp2_with fail;refine gh.o.mono ?_;rintro e w8 ⟨rfl,fc,fJ⟩;have gW:=fc.lt;have dG:=zW (Below w6.heap.size w6 w8) (fi.o.trans (fJ.below fi.o.size fun i hi e=>by omega));have hD:=dG.o.size;have HL:=zh (rlst_calls fc fun k p=>⟨by have:=dB.o k p;omega,fun e=>by have:=dB.o k p;omega⟩);clear fc fJ;go_wp2_with fail;refine HL.o.mono ?_;rintro e w9 ⟨vg,lg,R',rfl,dT,du,fR,dC,gN,fV,fK⟩;have dH:=zW (Below w6.heap.size w6 w9) (dG.o.trans (fK.below dG.o.size fun i hi e=>by omega));have cK:=zh (gy.o lg R' dT);have ho:=zh (fun hb=>rsnap_len dT hb);obtain⟨X,V,rfl,-⟩:=zAw du;have cp:=zh (And.intro du (And.intro (show ∀k,(Value.slice X lg.length V).ownBlock=some k→wr.heap.size<k∧w6.heap.size<k∧k<w9.heap.size from fun k p=>by have h1:=fR k p;have h2:=OwnR.lt du p;omega) dC));have ae:=dH.o.size;have cu:=(dH.o.block wr.heap.size fY).trans fz.o;have t0:=zAW cu;have t1:=zAd cu;have t2:=zAb cu;have tf:=zAE cu;have gx:=zh cu;have gi:=zh fV;clear dT du fR dC gN fV fK cu;generalize (Rd.num ⟨sb,false⟩).1=n1 at *;generalize (Rd.num ⟨sb,false⟩).2.num.1=n2 at *;generalize dD:lg.length=cy at *;have dz:=zh dD;clear dD;have cj:=zh (set3_chg w9 wr.heap.size (.int .i64 (n1:Int)) (.int .i64 (n2:Int)) (.slice X cy V));have dy:=zh (set3_block gx.o (.int .i64 (n1:Int)) (.int .i64 (n2:Int)) (.slice X cy V));have gb:=zh (zGd (gi.o.chg cj.o (fun e=>by omega) fun k p e=>by have h1:=gv.o k p;have h2:=gl.o;have e2:k=wr.heap.size:=e;omega));go_wp2_with fail;clear t0 t1 t2 tf;generalize fH:((w9.setCell ⟨wr.heap.size,0,none⟩ (.int .i64 (n1:Int))).setCell ⟨wr.heap.size,1,none⟩ (.int .i64 (n2:Int))).setCell ⟨wr.heap.size,2,none⟩ (.slice X cy V)=fC at *;clear fH;refine gb.o.mono ?_;rintro e aS ⟨vd,rfl,dt,fQ,dE,bL⟩;have fu:=zh (zCk dE);have gZ:=cj.o.size;have ha:=bL.size;have ck:=zh ((bL.block wr.heap.size (zAB dy.o) (by omega)).trans dy.o);have fo:=zW (zBe aS (.slice X cy V) lg) (by
      have h1:=zCm.has cp.o.1;have h2:zBe fC (.slice X cy V) lg:=zAM.chg h1 cj.o fun k p e=>by have:=(cp.o.2.1 k p).1;omega
      exact zAM.chg h2 bL fun k p e=>by have:=(cp.o.2.1 k p).2.1;omega)
     have aG:=zh (zDC fo.o (by have:=cp.o.2.2;have:=dz.o;omega));have dw:=zW (Below wr.heap.size wr aS) (((dg.o.trans (dH.o.mono dg.o.size)).trans (cj.o.below (Nat.le_trans dg.o.size ae) fun k p e=>by omega)).trans (bL.below (by have:=dg.o.size;omega) fun k p e=>by omega));obtain⟨dp,dc,rfl,-⟩:=zAN dt;have go:=zW (w.heap.size≤wr.heap.size) (by obtain⟨_,_,_,hc,_⟩:=dh.o;exact hc.size);generalize fX:R'.bytes.1=sd at *;generalize gG:R'.bytes.2=Rb at *;generalize bn:sd.length=dl at *;have gq:=zh bn;have di:=zh (And.intro (zAj.has dt) (show ∀k,(Value.slice dp dl dc).ownBlock=some k→fC.heap.size≤k∧k<aS.heap.size from fun k p=>⟨fQ k p,OwnR.lt dt p⟩));have bG:=zh (fun q (t:zDH sb=none)=>zAk (dh.o.next (dw.o.trans (zAZ aS q))) (show zAS D (nm pre) nodes=(Y,3,zAJ.none0 nodes) by have h8:=fn.o F.o P.o;rw[am,t]at h8;exact h8 (by decide)) (by decide));have u0:=zAW ck.o;have u1:=zAd ck.o;have u2:=zAb ck.o;have HU:=zh (fun q=>And.intro (show(aS.drewN q).cell? ⟨wr.heap.size,0,none⟩=some (.int .i64 (n1:Int))from u0) (show(aS.drewN q).cell? ⟨wr.heap.size,1,none⟩=some (.int .i64 (n2:Int))from u1));have gA:=zh am;clear dt fQ dE bL fX gG bn am u0 u1;go_wp2_with fail;refine fu.o.mono ?_;rintro e hG ⟨rfl,fZ⟩;obtain rfl:=fZ.symm;cases hw:Rb.whole with
     | false =>
      have a:=zh (bG.o 0 (by rw[cK.o,hw];exact if_neg (by simp)));clear hw;go_wp2_with fail
      go_ret2
      exact a.o
     | true =>
      cases ct:zAX lg with
      | false =>
       have a:=zh (fun q=>bG.o q (by rw[cK.o,ct];exact if_neg (by simp)));rw[ct]at aG;clear hw ct;go_wp2_with fail;refine aG.o.mono ?_;rintro e dv ⟨rfl,q,rfl⟩;go_wp2_with fail
       go_ret2
       exact a.o q
      | true =>
       have dk:=zW (zDH sb=if 1≤n1∧n1≤1099511627776∧n2≤1099511627776 then some ⟨n1,n2,lg,sd⟩else none) (by rw[cK.o,hw,ct];simp);rw[ct]at aG;clear hw ct
       by_cases h1:n1<1
       ·have d1:decide ((n1:Int)<1)=true:=decide_eq_true (by omega);have bY:decide (n1<1)=true:=decide_eq_true h1;have a:=zh (fun q=>bG.o q (by rw[dk.o,if_neg (by omega)]));clear h1;have u0:=fun q=>(HU.o q).1;have u1:=fun q=>(HU.o q).2;go_wp2_with fail;refine aG.o.mono ?_;rintro e dv ⟨rfl,q,rfl⟩;have u0:=u0 q;have u1:=u1 q;go_wp2_with fail
        go_ret2
        exact a.o q
       have d1:decide ((n1:Int)<1)=false:=decide_eq_false (by omega);have bY:decide (n1<1)=false:=decide_eq_false h1
       by_cases h2:1099511627776<n1
       ·have d2:decide ((1099511627776:Int)<(n1:Int))=true:=decide_eq_true (by omega);have gE:decide (1099511627776<n1)=true:=decide_eq_true h2;have a:=zh (fun q=>bG.o q (by rw[dk.o,if_neg (by omega)]));clear h1;have u0:=fun q=>(HU.o q).1;have u1:=fun q=>(HU.o q).2;go_wp2_with fail;refine aG.o.mono ?_;rintro e dv ⟨rfl,q,rfl⟩;have u0:=u0 q;have u1:=u1 q;go_wp2_with fail
        go_ret2
        exact a.o q
       have d2:decide ((1099511627776:Int)<(n1:Int))=false:=decide_eq_false (by omega);have gE:decide (1099511627776<n1)=false:=decide_eq_false h2
       by_cases h3:1099511627776<n2
       ·have d3:decide ((1099511627776:Int)<(n2:Int))=true:=decide_eq_true (by omega);have gF:decide (1099511627776<n2)=true:=decide_eq_true h3;have a:=zh (fun q=>bG.o q (by rw[dk.o,if_neg (by omega)]));clear h1;have u0:=fun q=>(HU.o q).1;have u1:=fun q=>(HU.o q).2;go_wp2_with fail;refine aG.o.mono ?_;rintro e dv ⟨rfl,q,rfl⟩;have u0:=u0 q;have u1:=u1 q;go_wp2_with fail
        go_ret2
        exact a.o q
       have d3:decide ((1099511627776:Int)<(n2:Int))=false:=decide_eq_false (by omega);have gF:decide (1099511627776<n2)=false:=decide_eq_false h3;have dr:zDH sb=some ⟨n1,n2,lg,sd⟩:=by rw[dk.o,if_pos (by omega)]
       obtain⟨s,bR⟩:∃s:zDE,s=⟨n1,n2,lg,sd⟩:=⟨_,rfl⟩;rw[←bR]at dr;have cq:=zh (gw.o s dr);have am:sn=(0,some s):=by rw[gA.o,dr]
       have Q:=zW (sn.1=0) (by rw[am]);have aY:=zW (e1=0→e2=0→sn.1=0→li.2.1=0→zAi (some s) li.2.2.2 li.2.2.1=none→zAS D (nm pre) nodes=(li.1,3,zAJ.none0 nodes)) (by have t:=ay.o;rw[am]at t ⊢;exact t);have aW:=zW (∀M,e1=0→e2=0→sn.1=0→li.2.1=0→zAi (some s) li.2.2.2 li.2.2.1=some (false,M)→zAS D (nm pre) nodes=(li.1,0,M)) (by have t:=aF.o;rw[am]at t ⊢;exact t);have aV:=zW (∀M,e1=0→e2=0→sn.1=0→li.2.1=0→zAi (some s) li.2.2.2 li.2.2.1=some (true,M)→zAS D (nm pre) nodes=((zAU li.1 (nm pre) M).1,(zAU li.1 (nm pre) M).2,M)) (by have t:=aA.o;rw[am]at t ⊢;exact t);have en:(n1:Int)=(s.number:Int):=by rw[bR]
       have et:(n2:Int)=s.term:=by rw[bR]
       have eg:cy=s.group.length:=by rw[bR];exact dz.o.symm
       have ed:dl=s.data.length:=by rw[bR];exact gq.o.symm
       subst eg;subst ed;have fs:=zh (fun q=>show Snd w (aS.drewN q) wr.heap.size (.slice X s.group.length V) (.slice dp s.data.length dc) s from⟨by
        have t:=ck.o;rw[en,et]at t;exact t,by
        have t:zBe aS (.slice X s.group.length V) s.group:=by have h8:=fo.o;rwa[show lg=s.group by rw[bR]]at h8
        exact zAM.keep t fun _ _=>rfl,by
        have t:zAY aS (.slice dp s.data.length dc) s.data:=by have h8:=di.o.1;rwa[show sd=s.data by rw[bR]]at h8
        exact zAM.keep t fun _ _=>rfl,fun k p=>by have h8:=(di.o.2 k p).1;have h7:=go.o;omega,fun k p e=>by
        have h8:=(di.o.2 k e).1;rcases p with p|p
        ·omega
        ·have h7:=cp.o.2.1 k p;omega⟩)
       have fr:=zh (fun q=>show ROS w (FSnd wr.heap.size (.slice X s.group.length V) (.slice dp s.data.length dc)) j r pre own (aS.drewN q) Y (zAJ.none0 nodes)from dh.o.more (dw.o.trans (zAZ aS q)) fun k p=>.inr (by
        show wr.heap.size≤k∧k<aS.heap.size
        rcases p with p|p|p
        ·omega
        ·have h7:=cp.o.2.1 k p;omega
        ·have h8:=di.o.2 k p;omega))
       have u0:=fun q=>(HU.o q).1;have u1:=fun q=>(HU.o q).2;clear am ay aF aA dr h1 h2 h3 en et bR;go_wp2_with fail;refine aG.o.mono ?_;rintro e dv ⟨rfl,q,rfl⟩;have u0:=u0 q;have u1:=u1 q;have aM:=zh (fr.o q);have G:=zh (fs.o q);clear aG;generalize dU:aS.drewN q=W7 at *;generalize gJ:wr.heap.size=U at *;clear dU gJ u2;go_wp2_with fail;obtain⟨v0,L0,cm,aH⟩:=ros_ref aM.o;have C:=zh (zC0 aH (zCT pre));rw[zBw]at C;have aB:=zh aM.o.okD;have aI:=zFM aM.o.okD (zAm (nm pre));clear aH;cases hg:Sat.get (zAm (nm pre)) Y.files with
       | none =>
        have c:li=(Y,0,true,zAJ.none0 nodes):=ag.o.symm.trans (zE9 hg);have R:=ag.o;obtain⟨E,aC⟩:∃E,E=Y:=⟨_,rfl⟩;obtain⟨b,bZ⟩:∃b,b=zAJ.none0 nodes:=⟨_,rfl⟩;rw[←aC,←bZ]at c;have ay:=zW (zAi (some s) b true=none→zAS D (nm pre) nodes=(E,3,zAJ.none0 nodes)) (fun hj=>by have t:=aY.o F.o P.o Q.o;rw[c]at t;exact t rfl hj);have aF:=zW (∀M,zAi (some s) b true=some (false,M)→zAS D (nm pre) nodes=(E,0,M)) (fun M hj=>by have t:=aW.o M F.o P.o Q.o;rw[c]at t;exact t rfl hj);have aA:=zW (∀M,zAi (some s) b true=some (true,M)→zAS D (nm pre) nodes=((zAU E (nm pre) M).1,(zAU E (nm pre) M).2,M)) (fun M hj=>by have t:=aV.o M F.o P.o Q.o;rw[c]at t;exact t rfl hj);have az:=zh (zCS (D:=Y) (D':=E) (pre:=nm pre) (M:=zAJ.none0 nodes) (M':=b) aB.o al.o (show(zAJ.none0 nodes).entries=[]from rfl) (R.trans c));rw[hg]at C;have cC:=zW (ROS w (FSnd U (.slice X s.group.length V) (.slice dp s.data.length dc)) j r pre own W7 E b) (by rw[aC,bZ];exact aM.o);clear hg aI c R aC bZ;go_wp2_with fail;refine C.o.mono ?_;rintro e WT ⟨v3,rfl,-,-,A⟩;have aa:=zh (cC.o.next A);have G:=zW (Snd w WT U (.slice X s.group.length V) (.slice dp s.data.length dc) s) (G.o.same (aM.o.same A));clear A C;rw[show zDe (none:Option zAT)=7 from rfl];obtain⟨cP,cN,cO,d⟩:=aa.o.cells;have c0:=zAW d;have c7:=zAG d (i:=7) rfl;have f7:=zAE d 7;have y0:=zAW G.o.1;clear d
        by_cases ar:s.number<b.number
        ·have HR:=zh (ay.o (show zAi (some s) b true=none by unfold zAi;exact(if_neg (by omega)).trans (if_pos ar)));have a:=zh (fun q=>zAk (aa.o.next (zAZ WT q)) HR.o (by decide));have d0:decide ((s.number:Int)<(b.number:Int))=true:=by simp;omega
         have bc:decide (s.number<b.number)=true:=by simp;omega
         clear ar c7 f7;go_wp2_with fail
         go_quiet (fail)
         go_wp2_with fail
         go_ret2
         exact a.o _
        ·have d0:decide ((s.number:Int)<(b.number:Int))=false:=by simp;omega
         have bc:decide (s.number<b.number)=false:=by simp;omega
         have ba:=zh (fun q=>ros_data (F':=fun k=>k=U∨(Value.slice X s.group.length V).ownBlock=some k) (aa.o.next (zAZ WT q)) (v2:=.slice dp s.data.length dc) (zAY.below G.o.2.2.1 (zAZ WT q)) (fun k p=>⟨.inr (.inr p),G.o.2.2.2.1 k p⟩) (fun k p=>⟨p.elim .inl fun h=>.inr (.inl h),G.o.2.2.2.2 k p⟩) (Nat.le_trans cq.o.2.1 (by decide)));go_wp2_with fail
         go_quiet (fail)
         go_wp2_with fail;generalize bd:(World.setCell _ _ _)=WD;have aZ:=zW (ROS w (fun k=>k=U∨(Value.slice X s.group.length V).ownBlock=some k) j r pre own WD E {b with data:=s.data}) (by rw[←bd];exact(ba.o _).1);have bj:∀k,(FSnd U (.slice X s.group.length V) (.slice dp s.data.length dc)) k→WD.heap[k]?=WT.heap[k]?:=fun k p=>by rw[←bd];exact(ba.o _).2 k p
         have HX:=zh ((bj U (.inl rfl)).trans G.o.1);have HG:=zW (zBe WD (.slice X s.group.length V) s.group) (zAM.keep G.o.2.1 fun k p=>bj k (.inr (.inl p)));obtain⟨fG,fE,fF,ab⟩:=aZ.o.cells;have c0:WD.cell? ⟨j,0,none⟩=some (.int .i64 (b.number:Int)):=zAW ab;have z0:=zAW HX.o;have z1:=zAd HX.o;have z2:=zAb HX.o;clear ab c7 f7 y0 bj bd ba
         by_cases ad:b.number<s.number
         ·have ac:=zW (zAi (some s) b true=some (true,b.rebase s)) (by unfold zAi;exact if_pos ad);have d1:decide ((b.number:Int)<(s.number:Int))=true:=by simp;omega
          have bY:decide (b.number<s.number)=true:=by simp;omega
          have bp:=aA.o _ ac.o;have bJ:=zh (fun q=>ros_stands (aZ.o.next (zAZ WD q)) (n2:=s.number) (t2:=s.term) (g2:=s.group) ad (show(⟨s.number,s.term,s.group,s.data⟩:zDE).OK from cq.o.1) (pg:=X) (cg:=V) (zAM.keep HG.o fun _ _=>rfl) (fun k p=>.inr p));have Z:=fun q=>And.intro (show(WD.drewN q).cell? ⟨U,0,none⟩=_ from z0) (And.intro (show(WD.drewN q).cell? ⟨U,1,none⟩=_ from z1) (show(WD.drewN q).cell? ⟨U,2,none⟩=_ from z2));have HZ:=zh Z;clear ad ar Z;go_wp2_with fail
          go_quiet (fail)
          generalize av:World.drewN WD _=WX;have aT:=zW (Calls prog 92 #[.pointer (some ⟨j,0,none⟩),.agg #[.int .i64 (s.number:Int),.int .i64 s.term,.slice X s.group.length V]] WX fun e w'=>e=.returned (.tuple #[])∧ROS w (fun k=>k=U∨(Value.slice X s.group.length V).ownBlock=some k) j r pre own w' E (b.rebase s)∧Same _ WX w') (by rw[←av];exact bJ.o _);have z0:WX.cell? ⟨U,0,none⟩=some (.int .i64 (s.number:Int)):=by rw[←av];exact(HZ.o _).1
          have z1:WX.cell? ⟨U,1,none⟩=some (.int .i64 s.term):=by rw[←av];exact(HZ.o _).2.1
          have z2:WX.cell? ⟨U,2,none⟩=some (.slice X s.group.length V):=by rw[←av];exact(HZ.o _).2.2
          clear av c0 bJ HZ;go_wp2_with fail;refine aT.o.mono ?_;rintro e w7 ⟨rfl,ah,-⟩;have cz:=zh ah;clear ah aT z0 z1 z2;go_wp2_with fail;cases ak:zAU E (nm pre) (b.rebase s)with
          | mk D4 e4 =>
           have J:=zh (zGc cz.o (Nat.le_trans (zEE b s) az.o));rw[ak]at J;have I:=bp;rw[ak]at I;have I:=zh I;clear ak
           by_cases ai:e4=0
           ·subst ai;go_wp2_with fail;refine J.o.mono ?_;rintro e w9 ⟨rfl,N,ae⟩;have a:=zh (zBZ N I.o);clear N ae J;go_wp2_with fail
            go_ret2
            exact a.o
           ·have cl:((e4:Int) != 0)=true:=by simp;omega
            have bq:=zh ai;clear ai;go_wp2_with fail;refine J.o.mono ?_;rintro e w9 ⟨rfl,N,ae⟩;have a:=zh (zAk N I.o bq.o);clear N ae J;go_wp2_with fail
            go_ret2
            exact a.o
         ·have ac:=zW (zAi (some s) b true=some (true,{b with data:=s.data})) (by unfold zAi;exact(if_neg ad).trans (if_neg ar));have d1:decide ((b.number:Int)<(s.number:Int))=false:=by simp;omega
          have bY:decide (b.number<s.number)=false:=by simp;omega
          clear ad ar;go_wp2_with fail
          go_quiet (fail)
          have bp:=aA.o _ ac.o;go_wp2_with fail;generalize cS:(World.drewN _ _)=WQ;have dK:=zW (ROS w _ j r pre own WQ E _) (by rw[←cS];exact aZ.o.next (zAZ WD _));clear cS c0 z0 z1 z2;cases ak:zAU E (nm pre) {b with data:=s.data}with
          | mk D4 e4 =>
           have J:=zh (zGc dK.o az.o);rw[ak]at J;have I:=bp;rw[ak]at I;have I:=zh I;clear ak
           by_cases ai:e4=0
           ·subst ai;go_wp2_with fail;refine J.o.mono ?_;rintro e w9 ⟨rfl,N,ae⟩;have a:=zh (zBZ N I.o);clear N ae J;go_wp2_with fail
            go_ret2
            exact a.o
           ·have cl:((e4:Int) != 0)=true:=by simp;omega
            have bq:=zh ai;clear ai;go_wp2_with fail;refine J.o.mono ?_;rintro e w9 ⟨rfl,N,ae⟩;have a:=zh (zAk N I.o bq.o);clear N ae J;go_wp2_with fail
            go_ret2
            exact a.o
       | some f =>
        have bn:f.data.length≤1073741824:=by rw[hg]at aI;exact aI
        have bV:=zh (zFw (M:=zAJ.none0 nodes) hg);have cB:=zh (fun M'=>readLog_ok (M:=zAJ.none0 nodes) (M':=M') hg);rw[hg]at C;clear hg aI;go_wp2_with fail;refine C.o.mono ?_;rintro e w3 ⟨v3,rfl,bl,fa,A⟩;have co:=zh (aM.o.next A);have G:=zW (Snd w w3 U (.slice X s.group.length V) (.slice dp s.data.length dc) s) (G.o.same (aM.o.same A));have bl:zAj w3 5 v3 f.data:=bl;obtain⟨pb,cb,rfl,bM⟩:=zAN bl;have cL:=zh (rscan_calls bl.has bM bn);clear A bl fa bM C;have fU:=scan_le f.data;generalize bh:f.data.length=ax at *;rw[show ∀f:zAT,zDe (some f)=0 from fun _=>rfl];go_wp2_with fail;refine cL.o.mono ?_;rintro e w4 ⟨v4,vs,rfl,aw,cd,cs⟩;have aL:=zW (ROS w (fun k=>(FSnd U (.slice X s.group.length V) (.slice dp s.data.length dc)) k∨(v4.ownBlock=some k∨∃u∈vs,u.ownBlock=some k)) j r pre own w4 Y (zAJ.none0 nodes)) (co.o.more cs fun k p=>by
         rcases p with p|p|⟨u,hu,p⟩
         ·exact .inl p
         ·exact .inr ⟨cd.1 k p,OwnR.lt aw.row p⟩
         ·refine .inr ⟨cd.2 u hu k p,?_⟩;obtain⟨i,hi,rfl⟩:=List.getElem_of_mem hu;have dX:i<(zDx f.data).1.length:=by rw[←aw.len];exact hi
          exact OwnR.lt (aw.has i _ _ (List.getElem?_eq_getElem hi) (List.getElem?_eq_getElem dX)) p)
        have G:=zW (Snd w w4 U (.slice X s.group.length V) (.slice dp s.data.length dc) s) (G.o.same (co.o.same cs));have bU:=zh aw;have cJ:=zW (∀x∈(zDx f.data).1,x.length≤1073741824) fun x hx=>scanJ_row bn bh hx;clear aw cd cs cL co;obtain⟨pr,cr,fe⟩:=OwnR.shape bU.o.row;generalize hq:(zDx f.data).2=q at *;generalize bi:(zDx f.data).1=rows at *;have gO:rows.length≤1073741824:=zF0 bn bh bi;generalize cX:rows.length=n at *;have br:=zh cX;subst fe;clear hq bi cX bh
        by_cases K:n=0
        ·have db:rows=[]:=List.eq_nil_of_length_eq_zero (by rw[br.o,K]);have c:li=(Y,3,false,zAJ.none0 nodes):=ag.o.symm.trans (bV.o (by rw[db];rfl));have a:=zh (zAk aL.o (show zAS D (nm pre) nodes=(Y,3,zAJ.none0 nodes) by have t:=bH.o F.o P.o Q.o;rw[c]at t;exact t (show(3:Nat)≠0 by decide)) (by decide));have e0:((n:Int)==0)=true:=by simp;omega
         clear db K c;go_wp2_with fail
         go_ret2
         exact a.o
        ·have e0:((n:Int)==0)=false:=by simp;omega
         have cI:=zh K;clear K;obtain⟨S,hN,bK,cQ,cR⟩:=ros_new aL.o;have dM:=zh cR;clear cR;have cA:=zh hN;have bI:=zh bK;have cD:=zh cQ;have cH:=zh (fun k p=>aL.o.fj (k:=k) p);clear hN bK cQ;go_wp2_with fail
         go_loopw [23] (fun i wr=>∃(k:Nat) (Mk:zAJ),k≤n∧i=.int .i64 k∧(k=0→Mk=zAJ.none0 nodes)∧Mk.entries.length≤k∧zBi (fun k=>S k∨w4.heap.size≤k) wr j r pre Mk∧Chg (fun k=>S k∨w4.heap.size≤k) w4 wr∧zCC (zAJ.none0 nodes) rows=restJ k Mk (rows.drop k)) (fun i _=>n-(intOf i).toNat)
         case atStart=>exact⟨0,zAJ.none0 nodes,Nat.zero_le _,rfl,fun _=>rfl,Nat.zero_le _,cA.o.wide fun _ h=>.inl h,Chg.refl _ _,rfl⟩
         case round =>
          clear cA e0;obtain⟨k,Mk,p,rfl,bv,cV,hN,hC,aj⟩:=hrel;have af:∀x,(fun k=>(FSnd U (.slice X s.group.length V) (.slice dp s.data.length dc)) k∨((Value.slice pr n cr).ownBlock=some k∨∃u∈vs,u.ownBlock=some k)) x→wr.heap[x]?=w4.heap[x]?:=fun x hx=>hC.block x (aL.o.flt hx) fun e=>e.elim (fun e=>(bI.o x e).2 hx) fun e=>by have:=aL.o.flt hx;omega
          by_cases ad:k<n
          ·have aQ:k<rows.length:=by rw[br.o];exact ad
           rw[List.drop_eq_getElem_cons aQ,restJ_cons]at aj;have aP:=bU.o.keepJ (w':=wr) fun x hx=>af x (.inr hx);have bg:k<vs.length:=by rw[aP.len];exact aQ
           have aR:=aP.has k _ _ (List.getElem?_eq_getElem bg) (List.getElem?_eq_getElem aQ);have aD:∃g,pr=some ⟨g,0,none⟩∧wr.cell? ⟨g,k,none⟩=some vs[k]:=by
            rcases aP.row.2 with⟨-,h0⟩|⟨g,gD,cur,e,-⟩
            ·omega
            ·refine⟨g,?_,?_⟩
             ·simp only[Value.slice.injEq]at e;exact e.1
             ·have hc:=aP.row.cells (g:=g) (by rw[e];rfl) k _ (List.getElem?_eq_getElem bg);rwa[add_zero]at hc
           obtain⟨g,rfl,aD⟩:=aD;have bm:=cJ.o _ (List.getElem_mem aQ);obtain⟨px,cx,ce,ca⟩:=zAN aR;have bF:∀y,vs[k].ownBlock=some y→(fun k=>(FSnd U (.slice X s.group.length V) (.slice dp s.data.length dc)) k∨((Value.slice (some ⟨g,0,none⟩) n cr).ownBlock=some k∨∃u∈vs,u.ownBlock=some k)) y:=fun y hy=>.inr (.inr ⟨vs[k],List.getElem_mem bg,hy⟩);rw[ce]at aR aD bF;have an:=zh (rreads_calls hN (decide (k=0)) (fun hf=>by rw[bv (by simpa using hf)];rfl) aR.has ca bm (fun y hy=>OwnR.lt aR hy) (fun y hy=>cH.o y (bF y hy)) (by omega));have HC:=zh hC;have gL:((k:Int)==0)=decide (k=0):=by
            by_cases h0:k=0
            ·subst h0;rfl
            ·rw[decide_eq_false h0];simp;omega
           cases hc:zBc (decide (k=0)) Mk rows[k]with
           | none =>
            rw[hc]at aj;rw[hc]at an;have c:li=(Y,3,false,zAJ.none0 nodes):=ag.o.symm.trans (bV.o aj);have aX:=zW (zAS D (nm pre) nodes=(Y,3,zAJ.none0 nodes)) (by have t:=bH.o F.o P.o Q.o;rw[c]at t;exact t (show(3:Nat)≠0 by decide));clear hN hC aj aP aR bm hc ce bg bv c af ca bF;generalize rows[k]=x at *;generalize x.length=m at *;generalize decide (k=0)=fk at *;clear aQ;go_wp2_with fail;refine an.o.mono ?_;rintro e w6 ⟨be,cc⟩;obtain rfl:e=.returned (.bool false):=cc;have a:=zh (ropened_bad2 (pre:=pre) (dM.o w6 (HC.o.trans be fun _ _ h=>h)) aX.o (by decide));clear be an;go_wp2_with fail
            go_ret2
            exact a.o
           | some Mn =>
            rw[hc]at aj;rw[hc]at an;have dZ:=rec1_len hc;have dN:=zh (show Mn.entries.length≤k+1 by omega);have dP:=zW (zCC (zAJ.none0 nodes) rows=restJ (k+1) Mn (rows.drop (k+1))) aj;clear hN hC aj aP aR bm hc ce bg bv af ca bF dZ cV;generalize rows[k]=x at *;generalize x.length=m at *;generalize decide (k=0)=fk at *;clear aQ;go_wp2_with fail;refine an.o.mono ?_;rintro e w6 ⟨be,cc,bo⟩;subst cc;have a:=zh (And.intro (bo.wide fun y hy=>hy.elim id fun h=>.inr (Nat.le_trans HC.o.size h)) (HC.o.trans be fun _ _ h=>h));clear be bo;go_wp2_with fail;go_roundw
            case rel=>exact⟨k+1,Mn,by omega,by go_num,fun h=>by omega,dN.o,a.o.1,a.o.2,dP.o⟩
            case measure=>simp[intOf];omega
          ·have dY:k=n:=by omega
           subst dY;have bP:zCC (zAJ.none0 nodes) rows=some Mk:=by
            rw[aj,List.drop_of_length_le (by rw[br.o];exact Nat.le_refl _)];cases k with
            | zero=>exact absurd rfl cI.o
            | succ k=>rfl
           have aK:=zh (cB.o Mk bP);have bW:=zW (ROS w (FSnd U (.slice X s.group.length V) (.slice dp s.data.length dc)) j r pre own wr Y Mk) ((cD.o wr Mk hN hC).1.less fun _ h=>.inl h);have G:=zW (Snd w wr U (.slice X s.group.length V) (.slice dp s.data.length dc) s) (G.o.same (fun x hx=>af x (.inl hx)));clear hN hC aj bP bU aL cJ bV cB cI br bv af cD bI cH cV;generalize dS:Mk=b at *;clear dS
           by_cases cf:q<ax
           ·have dq:decide ((q:Int)<(ax:Int))=true:=by simp;omega
            have dR:decide (q<ax)=true:=by simp;omega
            cases bk:Y.truncate (zAm (nm pre)) (q:Int)with
            | mk Dt e1t =>
             have aO:=zW (Calls prog 90 #[.pointer (some ⟨r,0,none⟩),.string (zCT pre),.int .i64 (q:Int)] wr fun e w'=>e=.returned (.int .i64 (e1t:Int))∧ROS w (FSnd U (.slice X s.group.length V) (.slice dp s.data.length dc)) j r pre own w' Dt b∧Same (FSnd U (.slice X s.group.length V) (.slice dp s.data.length dc)) wr w') (by
              have:=zFX (Re:=Y.truncate (nm (zCT pre)) (q:Int)) bW.o (Below.refl _ _) fun v L bS hR=>rtrunc_calls hR (zCT pre) (by rw[ds];omega) (q:Int) (by omega) (by omega);rwa[zBw,bk]at this)
             by_cases aq:e1t=0
             ·subst aq;cases ch:Dt.sync [zAm (nm pre)]with
              | mk E e2t =>
               have hT:tornOff Y (zAm (nm pre)) q ax=(E,e2t):=by unfold tornOff;rw[if_pos cf,bk,if_neg (by simp)];exact ch
               have hR:=aK.o;rw[hT]at hR;have bs:=zh (fun W (h:ROS w (FSnd U (.slice X s.group.length V) (.slice dp s.data.length dc)) j r pre own W Dt b)=>show Calls prog 91 #[.pointer (some ⟨r,0,none⟩),.string (zCT pre)] W fun e w'=>e=.returned (.int .i64 (e2t:Int))∧ROS w (FSnd U (.slice X s.group.length V) (.slice dp s.data.length dc)) j r pre own w' E b∧Same (FSnd U (.slice X s.group.length V) (.slice dp s.data.length dc)) W w' by
                have:=zFX (Re:=Dt.sync [nm (zCT pre)]) h (Below.refl _ _) fun v L bS hR=>zDg hR (zCT pre) (by rw[ds];omega);rwa[zBw,ch]at this)
               clear bk ch hT aK
               by_cases aJ:e2t=0
               ·subst aJ;have c:li=(E,0,false,b):=ag.o.symm.trans hR;have R:=ag.o;have ay:=zW (zAi (some s) b false=none→zAS D (nm pre) nodes=(E,3,zAJ.none0 nodes)) (fun hj=>by have t:=aY.o F.o P.o Q.o;rw[c]at t;exact t rfl hj);have aF:=zW (∀M,zAi (some s) b false=some (false,M)→zAS D (nm pre) nodes=(E,0,M)) (fun M hj=>by have t:=aW.o M F.o P.o Q.o;rw[c]at t;exact t rfl hj);have aA:=zW (∀M,zAi (some s) b false=some (true,M)→zAS D (nm pre) nodes=((zAU E (nm pre) M).1,(zAU E (nm pre) M).2,M)) (fun M hj=>by have t:=aV.o M F.o P.o Q.o;rw[c]at t;exact t rfl hj);have az:=zh (zCS (D:=Y) (D':=E) (pre:=nm pre) (M:=zAJ.none0 nodes) (M':=b) aB.o al.o (show(zAJ.none0 nodes).entries=[]from rfl) (R.trans c));clear c R hR;go_wp2_with fail;refine aO.o.mono ?_;rintro e w6 ⟨rfl,au,aU⟩;have ap:=zh (bs.o w6 au);have G:=zW (Snd w w6 U (.slice X s.group.length V) (.slice dp s.data.length dc) s) (G.o.same aU);clear au aU aO bs;go_wp2_with fail;refine ap.o.mono ?_;rintro e WT ⟨rfl,ah,bQ⟩;have aa:=zh ah;have G:=zW (Snd w WT U (.slice X s.group.length V) (.slice dp s.data.length dc) s) (G.o.same bQ);clear ah bQ ap;obtain⟨cP,cN,cO,d⟩:=aa.o.cells;have c0:=zAW d;have c7:=zAG d (i:=7) rfl;have f7:=zAE d 7;have y0:=zAW G.o.1;clear d
                by_cases ar:s.number<b.number
                ·have HR:=zh (ay.o (show zAi (some s) b false=none by unfold zAi;exact(if_neg (by omega)).trans (if_pos ar)));have a:=zh (fun q=>zAk (aa.o.next (zAZ WT q)) HR.o (by decide));have d0:decide ((s.number:Int)<(b.number:Int))=true:=by simp;omega
                 have bc:decide (s.number<b.number)=true:=by simp;omega
                 clear ar c7 f7;go_wp2_with fail
                 go_quiet (fail)
                 go_wp2_with fail
                 go_ret2
                 exact a.o _
                ·have d0:decide ((s.number:Int)<(b.number:Int))=false:=by simp;omega
                 have bc:decide (s.number<b.number)=false:=by simp;omega
                 have ba:=zh (fun q=>ros_data (F':=fun k=>k=U∨(Value.slice X s.group.length V).ownBlock=some k) (aa.o.next (zAZ WT q)) (v2:=.slice dp s.data.length dc) (zAY.below G.o.2.2.1 (zAZ WT q)) (fun k p=>⟨.inr (.inr p),G.o.2.2.2.1 k p⟩) (fun k p=>⟨p.elim .inl fun h=>.inr (.inl h),G.o.2.2.2.2 k p⟩) (Nat.le_trans cq.o.2.1 (by decide)));go_wp2_with fail
                 go_quiet (fail)
                 go_wp2_with fail;generalize bd:(World.setCell _ _ _)=WD;have aZ:=zW (ROS w (fun k=>k=U∨(Value.slice X s.group.length V).ownBlock=some k) j r pre own WD E {b with data:=s.data}) (by rw[←bd];exact(ba.o _).1);have bj:∀k,(FSnd U (.slice X s.group.length V) (.slice dp s.data.length dc)) k→WD.heap[k]?=WT.heap[k]?:=fun k p=>by rw[←bd];exact(ba.o _).2 k p
                 have HX:=zh ((bj U (.inl rfl)).trans G.o.1);have HG:=zW (zBe WD (.slice X s.group.length V) s.group) (zAM.keep G.o.2.1 fun k p=>bj k (.inr (.inl p)));obtain⟨fG,fE,fF,ab⟩:=aZ.o.cells;have c0:WD.cell? ⟨j,0,none⟩=some (.int .i64 (b.number:Int)):=zAW ab;have z0:=zAW HX.o;have z1:=zAd HX.o;have z2:=zAb HX.o;clear ab c7 f7 y0 bj bd ba
                 by_cases ad:b.number<s.number
                 ·have ac:=zW (zAi (some s) b false=some (true,b.rebase s)) (by unfold zAi;exact if_pos ad);have d1:decide ((b.number:Int)<(s.number:Int))=true:=by simp;omega
                  have bY:decide (b.number<s.number)=true:=by simp;omega
                  have bp:=aA.o _ ac.o;have bJ:=zh (fun q=>ros_stands (aZ.o.next (zAZ WD q)) (n2:=s.number) (t2:=s.term) (g2:=s.group) ad (show(⟨s.number,s.term,s.group,s.data⟩:zDE).OK from cq.o.1) (pg:=X) (cg:=V) (zAM.keep HG.o fun _ _=>rfl) (fun k p=>.inr p));have Z:=fun q=>And.intro (show(WD.drewN q).cell? ⟨U,0,none⟩=_ from z0) (And.intro (show(WD.drewN q).cell? ⟨U,1,none⟩=_ from z1) (show(WD.drewN q).cell? ⟨U,2,none⟩=_ from z2));have HZ:=zh Z;clear ad ar Z;go_wp2_with fail
                  go_quiet (fail)
                  generalize av:World.drewN WD _=WX;have aT:=zW (Calls prog 92 #[.pointer (some ⟨j,0,none⟩),.agg #[.int .i64 (s.number:Int),.int .i64 s.term,.slice X s.group.length V]] WX fun e w'=>e=.returned (.tuple #[])∧ROS w (fun k=>k=U∨(Value.slice X s.group.length V).ownBlock=some k) j r pre own w' E (b.rebase s)∧Same _ WX w') (by rw[←av];exact bJ.o _);have z0:WX.cell? ⟨U,0,none⟩=some (.int .i64 (s.number:Int)):=by rw[←av];exact(HZ.o _).1
                  have z1:WX.cell? ⟨U,1,none⟩=some (.int .i64 s.term):=by rw[←av];exact(HZ.o _).2.1
                  have z2:WX.cell? ⟨U,2,none⟩=some (.slice X s.group.length V):=by rw[←av];exact(HZ.o _).2.2
                  clear av c0 bJ HZ;go_wp2_with fail;refine aT.o.mono ?_;rintro e w7 ⟨rfl,ah,-⟩;have cz:=zh ah;clear ah aT z0 z1 z2;go_wp2_with fail;cases ak:zAU E (nm pre) (b.rebase s)with
                  | mk D4 e4 =>
                   have J:=zh (zGc cz.o (Nat.le_trans (zEE b s) az.o));rw[ak]at J;have I:=bp;rw[ak]at I;have I:=zh I;clear ak
                   by_cases ai:e4=0
                   ·subst ai;go_wp2_with fail;refine J.o.mono ?_;rintro e w9 ⟨rfl,N,ae⟩;have a:=zh (zBZ N I.o);clear N ae J;go_wp2_with fail
                    go_ret2
                    exact a.o
                   ·have cl:((e4:Int) != 0)=true:=by simp;omega
                    have bq:=zh ai;clear ai;go_wp2_with fail;refine J.o.mono ?_;rintro e w9 ⟨rfl,N,ae⟩;have a:=zh (zAk N I.o bq.o);clear N ae J;go_wp2_with fail
                    go_ret2
                    exact a.o
                 ·have ac:=zW (zAi (some s) b false=some (false,{b with data:=s.data})) (by unfold zAi;exact(if_neg ad).trans (if_neg ar));have d1:decide ((b.number:Int)<(s.number:Int))=false:=by simp;omega
                  have bY:decide (b.number<s.number)=false:=by simp;omega
                  clear ad ar;go_wp2_with fail
                  go_quiet (fail)
                  have HR:=zh (aF.o _ ac.o);have a:=zh (fun q=>zBZ (aZ.o.next (zAZ WD q)) HR.o);go_wp2_with fail
                  go_ret2
                  exact a.o _
               ·have cW:((e2t:Int) != 0)=true:=by simp;omega
                have c:li=(E,e2t,false,b):=ag.o.symm.trans hR;have aX:=zW (zAS D (nm pre) nodes=(E,e2t,zAJ.none0 nodes)) (by have t:=bH.o F.o P.o Q.o;rw[c]at t;exact t aJ);have cF:=zh aJ;clear c hR aJ;go_wp2_with fail;refine aO.o.mono ?_;rintro e w6 ⟨rfl,au,aU⟩;have ap:=zh (bs.o w6 au);clear au aU aO bs;go_wp2_with fail;refine ap.o.mono ?_;rintro e WT ⟨rfl,ah,bQ⟩;have a:=zh (zAk ah aX.o cF.o);clear ah bQ ap;go_wp2_with fail
                go_ret2
                exact a.o
             ·have hT:tornOff Y (zAm (nm pre)) q ax=(Dt,e1t):=by unfold tornOff;rw[if_pos cf,bk,if_pos aq]
              have hR:=aK.o;rw[hT]at hR;have c:li=(Dt,e1t,false,b):=ag.o.symm.trans hR;have aX:=zW (zAS D (nm pre) nodes=(Dt,e1t,zAJ.none0 nodes)) (by have t:=bH.o F.o P.o Q.o;rw[c]at t;exact t aq);have cW:((e1t:Int) != 0)=true:=by simp;omega
              have gK:((e1t:Int)==0)=false:=by simp;omega
              have cE:=zh aq;clear bk hT hR aK c aq;go_wp2_with fail;refine aO.o.mono ?_;rintro e w6 ⟨rfl,au,aU⟩;have a:=zh (zAk au aX.o cE.o);clear au aU aO;go_wp2_with fail
              go_ret2
              exact a.o
           ·have dq:decide ((q:Int)<(ax:Int))=false:=by simp;omega
            have dR:decide (q<ax)=false:=by simp;omega
            have hT:tornOff Y (zAm (nm pre)) q ax=(Y,0):=by unfold tornOff;rw[if_neg cf]
            have hR:=aK.o;rw[hT]at hR;have c:li=(Y,0,false,b):=ag.o.symm.trans hR;have R:=ag.o;obtain⟨E,aC⟩:∃E,E=Y:=⟨_,rfl⟩;rw[←aC]at c;have ay:=zW (zAi (some s) b false=none→zAS D (nm pre) nodes=(E,3,zAJ.none0 nodes)) (fun hj=>by have t:=aY.o F.o P.o Q.o;rw[c]at t;exact t rfl hj);have aF:=zW (∀M,zAi (some s) b false=some (false,M)→zAS D (nm pre) nodes=(E,0,M)) (fun M hj=>by have t:=aW.o M F.o P.o Q.o;rw[c]at t;exact t rfl hj);have aA:=zW (∀M,zAi (some s) b false=some (true,M)→zAS D (nm pre) nodes=((zAU E (nm pre) M).1,(zAU E (nm pre) M).2,M)) (fun M hj=>by have t:=aV.o M F.o P.o Q.o;rw[c]at t;exact t rfl hj);have az:=zh (zCS (D:=Y) (D':=E) (pre:=nm pre) (M:=zAJ.none0 nodes) (M':=b) aB.o al.o (show(zAJ.none0 nodes).entries=[]from rfl) (R.trans c));have aa:=zW (ROS w (FSnd U (.slice X s.group.length V) (.slice dp s.data.length dc)) j r pre own wr E b) (by rw[aC];exact bW.o);clear hT hR aK c R aC bW;go_wp2_with fail;generalize dV:wr=WT at *;clear dV;obtain⟨cP,cN,cO,d⟩:=aa.o.cells;have c0:=zAW d;have c7:=zAG d (i:=7) rfl;have f7:=zAE d 7;have y0:=zAW G.o.1;clear d
            by_cases ar:s.number<b.number
            ·have HR:=zh (ay.o (show zAi (some s) b false=none by unfold zAi;exact(if_neg (by omega)).trans (if_pos ar)));have a:=zh (fun q=>zAk (aa.o.next (zAZ WT q)) HR.o (by decide));have d0:decide ((s.number:Int)<(b.number:Int))=true:=by simp;omega
             have bc:decide (s.number<b.number)=true:=by simp;omega
             clear ar c7 f7;go_wp2_with fail
             go_quiet (fail)
             go_wp2_with fail
             go_ret2
             exact a.o _
            ·have d0:decide ((s.number:Int)<(b.number:Int))=false:=by simp;omega
             have bc:decide (s.number<b.number)=false:=by simp;omega
             have ba:=zh (fun q=>ros_data (F':=fun k=>k=U∨(Value.slice X s.group.length V).ownBlock=some k) (aa.o.next (zAZ WT q)) (v2:=.slice dp s.data.length dc) (zAY.below G.o.2.2.1 (zAZ WT q)) (fun k p=>⟨.inr (.inr p),G.o.2.2.2.1 k p⟩) (fun k p=>⟨p.elim .inl fun h=>.inr (.inl h),G.o.2.2.2.2 k p⟩) (Nat.le_trans cq.o.2.1 (by decide)));go_wp2_with fail
             go_quiet (fail)
             go_wp2_with fail;generalize bd:(World.setCell _ _ _)=WD;have aZ:=zW (ROS w (fun k=>k=U∨(Value.slice X s.group.length V).ownBlock=some k) j r pre own WD E {b with data:=s.data}) (by rw[←bd];exact(ba.o _).1);have bj:∀k,(FSnd U (.slice X s.group.length V) (.slice dp s.data.length dc)) k→WD.heap[k]?=WT.heap[k]?:=fun k p=>by rw[←bd];exact(ba.o _).2 k p
             have HX:=zh ((bj U (.inl rfl)).trans G.o.1);have HG:=zW (zBe WD (.slice X s.group.length V) s.group) (zAM.keep G.o.2.1 fun k p=>bj k (.inr (.inl p)));obtain⟨fG,fE,fF,ab⟩:=aZ.o.cells;have c0:WD.cell? ⟨j,0,none⟩=some (.int .i64 (b.number:Int)):=zAW ab;have z0:=zAW HX.o;have z1:=zAd HX.o;have z2:=zAb HX.o;clear ab c7 f7 y0 bj bd ba
             by_cases ad:b.number<s.number
             ·have ac:=zW (zAi (some s) b false=some (true,b.rebase s)) (by unfold zAi;exact if_pos ad);have d1:decide ((b.number:Int)<(s.number:Int))=true:=by simp;omega
              have bY:decide (b.number<s.number)=true:=by simp;omega
              have bp:=aA.o _ ac.o;have bJ:=zh (fun q=>ros_stands (aZ.o.next (zAZ WD q)) (n2:=s.number) (t2:=s.term) (g2:=s.group) ad (show(⟨s.number,s.term,s.group,s.data⟩:zDE).OK from cq.o.1) (pg:=X) (cg:=V) (zAM.keep HG.o fun _ _=>rfl) (fun k p=>.inr p));have Z:=fun q=>And.intro (show(WD.drewN q).cell? ⟨U,0,none⟩=_ from z0) (And.intro (show(WD.drewN q).cell? ⟨U,1,none⟩=_ from z1) (show(WD.drewN q).cell? ⟨U,2,none⟩=_ from z2));have HZ:=zh Z;clear ad ar Z;go_wp2_with fail
              go_quiet (fail)
              generalize av:World.drewN WD _=WX;have aT:=zW (Calls prog 92 #[.pointer (some ⟨j,0,none⟩),.agg #[.int .i64 (s.number:Int),.int .i64 s.term,.slice X s.group.length V]] WX fun e w'=>e=.returned (.tuple #[])∧ROS w (fun k=>k=U∨(Value.slice X s.group.length V).ownBlock=some k) j r pre own w' E (b.rebase s)∧Same _ WX w') (by rw[←av];exact bJ.o _);have z0:WX.cell? ⟨U,0,none⟩=some (.int .i64 (s.number:Int)):=by rw[←av];exact(HZ.o _).1
              have z1:WX.cell? ⟨U,1,none⟩=some (.int .i64 s.term):=by rw[←av];exact(HZ.o _).2.1
              have z2:WX.cell? ⟨U,2,none⟩=some (.slice X s.group.length V):=by rw[←av];exact(HZ.o _).2.2
              clear av c0 bJ HZ;go_wp2_with fail;refine aT.o.mono ?_;rintro e w7 ⟨rfl,ah,-⟩;have cz:=zh ah;clear ah aT z0 z1 z2;go_wp2_with fail;cases ak:zAU E (nm pre) (b.rebase s)with
              | mk D4 e4 =>
               have J:=zh (zGc cz.o (Nat.le_trans (zEE b s) az.o));rw[ak]at J;have I:=bp;rw[ak]at I;have I:=zh I;clear ak
               by_cases ai:e4=0
               ·subst ai;go_wp2_with fail;refine J.o.mono ?_;rintro e w9 ⟨rfl,N,ae⟩;have a:=zh (zBZ N I.o);clear N ae J;go_wp2_with fail
                go_ret2
                exact a.o
               ·have cl:((e4:Int) != 0)=true:=by simp;omega
                have bq:=zh ai;clear ai;go_wp2_with fail;refine J.o.mono ?_;rintro e w9 ⟨rfl,N,ae⟩;have a:=zh (zAk N I.o bq.o);clear N ae J;go_wp2_with fail
                go_ret2
                exact a.o
             ·have ac:=zW (zAi (some s) b false=some (false,{b with data:=s.data})) (by unfold zAi;exact(if_neg ad).trans (if_neg ar));have d1:decide ((b.number:Int)<(s.number:Int))=false:=by simp;omega
              have bY:decide (b.number<s.number)=false:=by simp;omega
              clear ad ar;go_wp2_with fail
              go_quiet (fail)
              have HR:=zh (aF.o _ ac.o);have a:=zh (fun q=>zBZ (aZ.o.next (zAZ WD q)) HR.o);go_wp2_with fail
              go_ret2
              exact a.o _
theorem oneB_short (b:Bs):(oneB b).length≤b.length:=by
 unfold oneB
 split
 ·unfold decB
  split
  ·rw[List.length_take,List.length_drop];omega
  ·exact Nat.zero_le _
 ·exact Nat.zero_le _
theorem loadB_short (o:Option zAT):(zD8 o).length≤(zCq o).length:=by
 unfold zD8
 split
 ·exact oneB_short _
 ·exact Nat.zero_le _
theorem data_used {D:zAA}(h:Srt D.files)(n:Bs):(zCq (Sat.get n D.files)).length≤D.used:=by
 cases b:Sat.get n D.files with
 | none=>exact Nat.zero_le _
 | some f=>exact le_sum (f:=zAA.size) h b
theorem each1_less {D:zAA}(h:Srt D.files)(n:Bs):(zAA.each1 zAA.gRemove D n).1.used≤D.used∧Srt (zAA.each1 zAA.gRemove D n).1.files:=by
 unfold zAA.each1
 split
 ·exact⟨Nat.le_refl _,h⟩
 ·cases b:Sat.get n D.files with
  | none=>exact⟨Nat.le_refl _,h⟩
  | some f =>
   refine⟨?_,zCV h⟩
   show zBK zAA.size (del n D.files)≤zBK zAA.size D.files
   rw[zC2 h b];omega
theorem rid1_less {D:zAA}(h:Srt D.files)(n:Bs):(D.rid1 n).1.used≤D.used∧Srt (D.rid1 n).1.files:=by
 unfold zAA.rid1
 split
 ·show(zAA.each zAA.gRemove D [n]).1.used≤_∧Srt (zAA.each zAA.gRemove D [n]).1.files
  simp only[zAA.each]
  split
  ·exact each1_less h n
  ·exact each1_less h n
 ·exact⟨Nat.le_refl _,h⟩
theorem open_snp_le {D:zAA}{g:List Int}{pre:Bs}(h:Srt D.files){u:Nat}(k:D.used≤u)(O:OpensJ D pre g):(zD8 (Sat.get (zBL pre) O.D2.files)).length≤u:=by
 have b:=rid1_less h (zAF (zAm pre));rw[O.h1]at b;have c:=rid1_less b.2 (zAF (zBL pre));rw[O.h2]at c;have d:=loadB_short (Sat.get (zBL pre) O.D2.files);have f:(zCq (Sat.get (zBL pre) O.D2.files)).length≤O.D2.used:=data_used c.2 (zBL pre);have i:O.D1.used≤D.used:=b.1;have j:O.D2.used≤O.D1.used:=c.1;omega
end Go.Proofs.YtapfnehdgailmaaGreat
