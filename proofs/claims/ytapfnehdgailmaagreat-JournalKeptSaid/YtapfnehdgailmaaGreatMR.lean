/- What the program's functions and the document's do, and plain laws, for PJournalKept. -/
import Derived.Test.YtapfnehdgailmaaGreatMD
import Derived.Test.YtapfnehdgailmaaGreatMI
import Derived.Test.YtapfnehdgailmaaGreatMQ
open Go.Proofs.Tryz
set_option maxRecDepth 100000
set_option maxHeartbeats 64000000
namespace Go.Proofs.YtapfnehdgailmaaGreat
open Go.RowKit Go.Sat Go.Maps
def Snd (w W:World)(c:Nat)(b dv:Value)(s:zC8):Prop :=
 W.heap[c]?=some (.cells #[.int .i64 (s.number:Int),.int .i64 s.term,b] 82 (0,0))∧zBg W b s.group∧zAY W dv s.data∧(∀k,dv.ownBlock=some k→w.heap.size≤k)∧∀k,(k=c∨b.ownBlock=some k)→dv.ownBlock≠some k
def FSnd (b:Nat)(c dv:Value)(k:Nat):Prop:=k=b∨c.ownBlock=some k∨dv.ownBlock=some k
theorem Snd.same {w W g:World}{b:Nat}{c dv:Value}{s:zC8}(h:Snd w W b c dv s)(f:Same (FSnd b c dv) W g):Snd w g b c dv s :=
 ⟨(f b (.inl rfl)).trans h.1,zAM.keep h.2.1 fun k d=>f k (.inr (.inl d)),zAM.keep h.2.2.1 fun k d=>f k (.inr (.inr d)),h.2.2.2.1,h.2.2.2.2⟩
theorem nm_logt (pre:ByteArray):nm (pre++(⟨#[45,108,111,103,126]⟩:ByteArray))=zAF (zAm (nm pre)):=by simp[nm,zAF,zAm,logX]
theorem nm_snpt (pre:ByteArray):nm (pre++(⟨#[45,115,110,97,112,126]⟩:ByteArray))=zAF (zBR (nm pre)):=by simp[nm,zAF,zBR,snpX]
theorem set3_block {W:World}{b:Nat}{i j k:Value}{e:TypeId}{g:Nat×Nat}(h:W.heap[b]?=some (.cells #[i,j,k] e g))(c d f:Value) :
  (((W.setCell ⟨b,0,none⟩ c).setCell ⟨b,1,none⟩ d).setCell ⟨b,2,none⟩ f).heap[b]?=some (.cells #[c,d,f] e g):=by
 have q1:=zAD h 0 c;have q2:=zAD q1 1 d;have l:=zAD q2 2 f;simpa using l
theorem set3_chg (W:World)(b:Nat)(c d f:Value):Chg (fun k=>k=b) W (((W.setCell ⟨b,0,none⟩ c).setCell ⟨b,1,none⟩ d).setCell ⟨b,2,none⟩ f) :=
 ((Chg.setCell W ⟨b,0,none⟩ c).trans (Chg.setCell _ ⟨b,1,none⟩ d) fun _ _ e=>e).trans (Chg.setCell _ ⟨b,2,none⟩ f) fun _ _ e=>e
theorem ropen_calls {w:World}{r:Nat}{v:Value}{L:List zAR}{own:Nat→Prop}{D:zAA}(h:zAf w r v L own D)(fb:D.room≤1048576)(pre:ByteArray){nodes:List Int}{pn:Option Addr}{nn cn:Nat}(hx:zBg w (.slice pn nn cn) nodes)(fP:nodes.length≤1099511627776)
  (fS:∀O:OpensJ D (nm pre) nodes,(zEX (Sat.get (zBR (nm pre)) O.D2.files)).length≤524288) :
  Calls prog 18 #[.pointer (some ⟨r,0,none⟩),.string pre,.slice pn nn cn] w (ROpened w r pre own (zAV D (nm pre) nodes)):=by
 have da:(nm pre).length=pre.size:=nm_len pre;have aG:=zh (zC7 hx fP)
 by_cases hp:pre.size<1∨20<pre.size
 ·have a:=zh (fun q=>ropened_arg (pre:=pre) (k:=1) h (zAb w q) (oj_arg (pre:=nm pre) (nodes:=nodes) (by rw[da];exact hp.elim .inl fun h=>.inr (.inl h))) (by decide));clear h da hx;generalize gP:pre.size=z at *
  by_cases hz:z<1
  ·have fd:z=0:=by omega
   subst fd
   go_enter func18,ntmps18
   go_wp2_with fail
   go_ret2
   exact a.o 0
  ·have hv:20<z:=by omega
   go_enter func18,ntmps18
   go_wp2_with fail
   go_ret2
   exact a.o 0
 cases bL:zAX nodes with
 | false =>
  rw[bL]at aG;have a:=zh (fun q=>ropened_arg (pre:=pre) (k:=1) h (zAb w q) (oj_arg (pre:=nm pre) (nodes:=nodes) (.inr (.inr bL))) (by decide));clear h da hx bL;generalize gP:pre.size=z at *
  go_enter func18,ntmps18
  go_wp2_with fail;refine aG.o.mono ?_;rintro e w2 ⟨rfl,q,rfl⟩;go_wp2_with fail
  go_ret2
  exact a.o q
 | true =>
  rw[bL]at aG;have dZ:1≤pre.size∧pre.size≤20:=by omega
  have bM:¬((nm pre).length<1∨20<(nm pre).length∨zAX nodes=false):=by
   rw[da];rintro(h|h|h)
   ·omega
   ·omega
   ·rw[bL]at h;cases h
  obtain⟨O⟩:=zGM D (nm pre) nodes;have cX:=zGW D (zAF (zAm (nm pre)));rw[O.h1]at cX;have cY:=zGW O.D1 (zAF (zBR (nm pre)));rw[O.h2]at cY;have al:=zh (show O.D2.room≤1048576 by have h1:O.D1.room=D.room:=cX;have h2:O.D2.room=O.D1.room:=cY;omega);have ft:=zh O.h1;have fu:=zh O.h2;have gn:=zh O.hs;have ag:=zh O.hl;have fY:=zh (oj_e1 O bM);have fZ:=zh (oj_e2 O bM);have fi:=zh (oj_e3 O bM);have bF:=zh (oj_e4 O bM);have ay:=zh (oj_no O bM);have aF:=zh (fun M=>oj_keep O bM (M:=M));have aA:=zh (fun M=>oj_anew O bM (M:=M));have gv:=zh (fS O);clear cX cY fS;generalize O.D1=D1 at *;generalize O.e1=e1 at *;generalize O.D2=Y at *;generalize O.e2=e2 at *;generalize O.s=sn at *;generalize O.l=li at *;clear O;obtain⟨i0,hi,fd,gN,gO⟩:=info_parts (show(prog.info? 3).map (fun i=>(i.zero,i.size,i.bytes))=some (some (.int .i64 0),1,8) by kernel_rfl);have hn:nodes.length=nn:=by obtain⟨_,_,e⟩:=hx.slice;simp only[Value.slice.injEq]at e;exact e.2.1.symm
  have Hn:=zh hn;have hm:nn≤7:=by rw[←hn];exact grp7 bL
  have gm:=zh bL;have H:=zh h;have Hx:=zh hx;have gT:=dZ.1;have gU:=dZ.2;have dn:(zCS pre).size=pre.size+4:=zFY pre;have gX:(sSnp pre).size=pre.size+5:=zGb pre;have gL:(pre++(⟨#[45,108,111,103,126]⟩:ByteArray)).size=pre.size+5:=by simp[ByteArray.size_append];rfl
  have gM:(pre++(⟨#[45,115,110,97,112,126]⟩:ByteArray)).size=pre.size+6:=by simp[ByteArray.size_append];rfl
  clear h hx hn bM hp da bL fP fb
  go_enter func18,ntmps18
  go_wp2_with fail;refine aG.o.mono ?_;rintro e w1 ⟨rfl,q,rfl⟩;have dd:=zW (Below w.heap.size w (w.drewN q)) (⟨rfl,rfl,rfl,Nat.le_refl _,fun _ _=>rfl⟩);generalize w.drewN q=w1 at *;clear aG;have fK:=zAJ w1 (.cells #[.int .i64 0,.int .i64 0,.slice none 0 0,.pointer (some ⟨r,0,none⟩),.string pre,.int .i64 0,.int .i64 (-1),.slice none 0 0,.slice none 0 0,.bool false] 84);have db:(w1.alloc (.cells #[.int .i64 0,.int .i64 0,.slice none 0 0,.pointer (some ⟨r,0,none⟩),.string pre,.int .i64 0,.int .i64 (-1),.slice none 0 0,.slice none 0 0,.bool false] 84)).heap.size=w1.heap.size+1:=by simp
  have fy:=zW (OwnR ((w1.alloc (.cells #[.int .i64 0,.int .i64 0,.slice none 0 0,.pointer (some ⟨r,0,none⟩),.string pre,.int .i64 0,.int .i64 (-1),.slice none 0 0,.slice none 0 0,.bool false] 84)).alloc (.cells #[] 3)) 3 1 (.slice (some ⟨w1.heap.size+1,0,none⟩) 0 0) 0 []) (by
   have:=zBH (w1.alloc (.cells #[.int .i64 0,.int .i64 0,.slice none 0 0,.pointer (some ⟨r,0,none⟩),.string pre,.int .i64 0,.int .i64 (-1),.slice none 0 0,.slice none 0 0,.bool false] 84)) 3;rwa[db]at this)
  have dG:=zW (Below w.heap.size w ((w1.alloc (.cells #[.int .i64 0,.int .i64 0,.slice none 0 0,.pointer (some ⟨r,0,none⟩),.string pre,.int .i64 0,.int .i64 (-1),.slice none 0 0,.slice none 0 0,.bool false] 84)).alloc (.cells #[] 3))) ((dd.o.alloc dd.o.size _).alloc (by have:=dd.o.size;rw[db];omega) _);have gq:=zh (zBA (.cells #[] 3) fK);have dy:=zW (((w1.alloc (.cells #[.int .i64 0,.int .i64 0,.slice none 0 0,.pointer (some ⟨r,0,none⟩),.string pre,.int .i64 0,.int .i64 (-1),.slice none 0 0,.slice none 0 0,.bool false] 84)).alloc (.cells #[] 3)).heap.size=w1.heap.size+2) (by simp);have gy:=zW (zAM ((w1.alloc (.cells #[.int .i64 0,.int .i64 0,.slice none 0 0,.pointer (some ⟨r,0,none⟩),.string pre,.int .i64 0,.int .i64 (-1),.slice none 0 0,.slice none 0 0,.bool false] 84)).alloc (.cells #[] 3)) 1 (.slice pn nn cn) nn (nodes.map (Value.int .i64))) (by
   have:=zAM.chg Hx.o (Chg.of_below dG.o) fun _ _=>id;rwa[Hn.o]at this)
  have dh:=zh dd.o.size;clear fK db;go_wp2_with (at_builtin;refine zAP _ rfl (.tmp 46) (.tmp 47) 38 rfl 3 i0 (.int .i64 0) 1 8 underlying38 hi fd gN gO rfl (by decide) (.slice (some ⟨w1.heap.size+1,0,none⟩) 0 0) 0 _ rfl fy.o (.slice pn nn cn) nn _ rfl gy.o (fun u hu=>by obtain⟨z,-,rfl⟩:=List.mem_map.1 hu;rfl) (by unfold maxLen;omega) (by omega) ?_;intro v3 w3 bw bu cS;go_loud (rw[Nat.zero_add,List.nil_append]at bw;have ff:=zh (dG.o.grown bu dG.o.size fun k e=>by(have e2:w1.heap.size+1=k:=Option.some.inj e;have:=dh.o;omega));have dj:=(bu.block w1.heap.size (by rw[dy.o];omega) fun e=>by(have e2:w1.heap.size=w1.heap.size+1:=Option.some.inj e;omega)).trans gq.o;have fv:=zh dj;have c2:=zAo dj;have f2:=zAE dj 2;have bV:=zh (zA5 (B:=w1.heap.size+1) cS (fun k p=>by(have e2:w1.heap.size+1=k:=Option.some.inj p;omega)) (by rw[dy.o];omega));have dI:=zh bw;obtain⟨p3,q3,rfl⟩:=OwnR.shape bw;clear bw bu cS dj))
  clear c2 f2;have go:=zW (((w3.setCell ⟨w1.heap.size,2,none⟩ (.slice p3 nn q3)).alloc (.cells #[.string (pre++(⟨#[45,108,111,103,126]⟩:ByteArray)),.string (pre++(⟨#[45,115,110,97,112,126]⟩:ByteArray))] 9)).heap[w1.heap.size]?=some (RJC r 0 0 (.slice p3 nn q3) pre 0 (-1) (.slice none 0 0) (.slice none 0 0) false)) (by
   refine zBA _ ?_;have:=zAD fv.o 2 (.slice p3 nn q3);rw[show(#[Value.int IntKind.i64 0,.int .i64 0,.slice none 0 0,.pointer (some ⟨r,0,none⟩),.string pre,.int .i64 0,.int .i64 (-1),.slice none 0 0,.slice none 0 0,.bool false]:Array Value).setIfInBounds 2 (.slice p3 nn q3)=#[.int .i64 0,.int .i64 0,.slice p3 nn q3,.pointer (some ⟨r,0,none⟩),.string pre,.int .i64 0,.int .i64 (-1),.slice none 0 0,.slice none 0 0,.bool false]from rfl]at this;exact this)
  have dv:=zW (Below w.heap.size w (w3.setCell ⟨w1.heap.size,2,none⟩ (.slice p3 nn q3))) ((((Chg.of_below ff.o).mono fun _ _ e=>e.elim:Chg (fun k=>k=w1.heap.size) w w3).trans (Chg.setCell w3 ⟨w1.heap.size,2,none⟩ _) fun k _ e=>e).below (Nat.le_refl _) fun k p e=>by have:=dh.o;omega);have fW:=zh (dv.o.alloc dv.o.size (.cells #[.string (pre++(⟨#[45,108,111,103,126]⟩:ByteArray)),.string (pre++(⟨#[45,115,110,97,112,126]⟩:ByteArray))] 9));have dO:=zh (zAJ (w3.setCell ⟨w1.heap.size,2,none⟩ (.slice p3 nn q3)) (.cells #[.string (pre++(⟨#[45,108,111,103,126]⟩:ByteArray)),.string (pre++(⟨#[45,115,110,97,112,126]⟩:ByteArray))] 9));have ga:=zW (zBg ((w3.setCell ⟨w1.heap.size,2,none⟩ (.slice p3 nn q3)).alloc (.cells #[.string (pre++(⟨#[45,108,111,103,126]⟩:ByteArray)),.string (pre++(⟨#[45,115,110,97,112,126]⟩:ByteArray))] 9)) (.slice p3 nn q3) nodes) (by
   have h1:OwnR (w3.setCell ⟨w1.heap.size,2,none⟩ (.slice p3 nn q3)) 3 1 (.slice p3 nn q3) nn (nodes.map (Value.int .i64)):=dI.o.keep fun k p=>set_other _ fun e=>by have h2:=bV.o k p;have e2:k=w1.heap.size:=e;omega
   have h2:=OwnR.holds h1;unfold zBg;rw[Hn.o];exact zAM.chg h2 (Chg.alloc _ _) fun _ _ e=>e)
  have gx:=zW ((w3.setCell ⟨w1.heap.size,2,none⟩ (.slice p3 nn q3)).heap.size=w3.heap.size) (by simp[World.setCell]);rw[gx.o]at dO;have gi:=zW (∀k,(Value.slice p3 nn q3).ownBlock=some k→k<w3.heap.size) fun k p=>OwnR.lt dI.o p;have fr:=zW (w.heap.size≤w3.heap.size∧w3.heap.size≠w1.heap.size) (⟨ff.o.size,fun e=>by have:=zAB fv.o;omega⟩);have gh:=zW (((w3.setCell ⟨w1.heap.size,2,none⟩ (.slice p3 nn q3)).alloc (.cells #[.string (pre++(⟨#[45,108,111,103,126]⟩:ByteArray)),.string (pre++(⟨#[45,115,110,97,112,126]⟩:ByteArray))] 9)).heap.size=w3.heap.size+1) (by simp[World.setCell]);have fn:=zW (∀k,(Value.slice p3 nn q3).ownBlock=some k→w.heap.size≤k∧k<((w3.setCell ⟨w1.heap.size,2,none⟩ (.slice p3 nn q3)).alloc (.cells #[.string (pre++(⟨#[45,108,111,103,126]⟩:ByteArray)),.string (pre++(⟨#[45,115,110,97,112,126]⟩:ByteArray))] 9)).heap.size∧k≠w1.heap.size) (fun k p=>⟨by have h1:=bV.o k p;have h2:=dh.o;omega,by rw[gh.o];have h1:=OwnR.lt dI.o p;omega,by have h1:=bV.o k p;omega⟩);generalize gD:(w3.setCell ⟨w1.heap.size,2,none⟩ (.slice p3 nn q3)).alloc (.cells #[.string (pre++(⟨#[45,108,111,103,126]⟩:ByteArray)),.string (pre++(⟨#[45,115,110,97,112,126]⟩:ByteArray))] 9)=W5 at *;clear gD;have fo:=zW (ROS w (fun k=>k=w3.heap.size) w1.heap.size r pre own W5 D (zAH.none0 nodes)) (ros_fresh H.o fW.o dZ gm.o go.o dh.o ga.o (fun k p=>fn.o k p) (fun k p=>⟨by rw[p];exact zAB dO.o,by rw[p];exact fr.o.1,by rw[p];exact fr.o.2,fun e=>by have h1:=fn.o k e;have h2:=gi.o k e;omega⟩));generalize w3.heap.size=ta at *;generalize w1.heap.size=j at *
  go_loopw [10] (fun x wr=>wr.heap[ta]?=some (.cells #[.string (pre++(⟨#[45,108,111,103,126]⟩:ByteArray)),.string (pre++(⟨#[45,115,110,97,112,126]⟩:ByteArray))] 9 (0,0))∧((x=.int .i64 0∧ROS w (fun k=>k=ta) j r pre own wr D (zAH.none0 nodes))∨(x=.int .i64 1∧e1=0∧ROS w (fun k=>k=ta) j r pre own wr D1 (zAH.none0 nodes))∨(x=.int .i64 2∧e1=0∧e2=0∧ROS w (fun k=>k=ta) j r pre own wr Y (zAH.none0 nodes)))) (fun i _=>2-(intOf i).toNat)
  case atStart=>exact⟨dO.o,.inl ⟨rfl,fo.o⟩⟩
  case round =>
   obtain⟨bA,hx⟩:=hrel;rcases hx with⟨rfl,hJ⟩|⟨rfl,cR,hJ⟩|⟨rfl,cR,fJ,hJ⟩
   ·have cf:=bA;have k0:=zAd cf;have k1:=zAn cf;obtain⟨v0,L0,ck,aH⟩:=ros_ref hJ;have C:=zh (zCy aH (pre++(⟨#[45,108,111,103,126]⟩:ByteArray)));rw[nm_logt]at C;have bR:=zh hJ;have aN:=zh bA;clear aH cf;cases hg:Sat.get (zAF (zAm (nm pre))) D.files with
    | none =>
     have hr:D.rid1 (zAF (zAm (nm pre)))=(D,0):=by unfold zAA.rid1;rw[hg];rfl
     have bx:=ft.o;rw[hr]at bx;have cW:D=D1:=congrArg Prod.fst bx;have aw:0=e1:=congrArg Prod.snd bx;have ct:zDa (none:Option zAS)=7:=rfl;rw[hg]at C;have bb:=zW (e1=0) aw.symm;have ac:=zW (ROS w (fun k=>k=ta) j r pre own wr D1 (zAH.none0 nodes)) (cW▸bR.o);clear hJ bA hg hr bx cW aw ct;go_wp2_with fail;refine C.o.mono ?_;rintro e w3 ⟨v3,rfl,-,-,A⟩;have a:=zh (And.intro ((A.block ta (zAB aN.o)).trans aN.o) (ac.o.next A));clear A C;rw[show zDa (none:Option zAS)=7 from rfl];go_wp2_with fail;go_roundw
     case rel=>first|exact⟨a.o.1,.inr (.inl ⟨rfl,bb.o,a.o.2⟩)⟩|((repeat apply Exists.intro);exact⟨⟨a.o.1,.inr (.inl ⟨rfl,bb.o,a.o.2⟩)⟩,rfl⟩)
     case measure=>simp[intOf]
    | some f =>
     have hr:D.remove [zAF (zAm (nm pre))]=(D1,e1):=by
      have:=ft.o;unfold zAA.rid1 at this;rw[hg]at this;exact this
     rw[hg]at C;have al:=zh (fun W (h:ROS w (fun k=>k=ta) j r pre own W D (zAH.none0 nodes))=>show Calls prog 82 #[.pointer (some ⟨r,0,none⟩),.string (pre++(⟨#[45,108,111,103,126]⟩:ByteArray))] W fun e w'=>e=.returned (.int .i64 (e1:Int))∧ROS w (fun k=>k=ta) j r pre own w' D1 (zAH.none0 nodes)∧Same (fun k=>k=ta) W w' by
      have:=zFT (Re:=D.remove [nm (pre++(⟨#[45,108,111,103,126]⟩:ByteArray))]) h (Below.refl _ _) fun v L bQ hR=>rrem_calls hR (pre++(⟨#[45,108,111,103,126]⟩:ByteArray)) (by rw[gL];omega);rwa[nm_logt,hr]at this)
     clear hJ bA hg hr
     by_cases he:e1=0
     ·have bb:=zh he;rw[he]at al;clear he;go_wp2_with fail;refine C.o.mono ?_;rintro e w3 ⟨v3,rfl,-,-,A⟩;have aE:=zh (bR.o.next A);have T:=(A.block ta (zAB aN.o)).trans aN.o;have cK:=zh T;have k0:=zAd T;have k1:=zAn T;have ao:=zh (al.o w3 aE.o);clear A C T al;rw[show ∀f:zAS,zDa (some f)=0 from fun _=>rfl];go_wp2_with fail;refine ao.o.mono ?_;rintro e w4 ⟨rfl,bf,bz⟩;have a:=zh (And.intro ((bz ta rfl).trans cK.o) bf);clear bf bz ao k0 k1;go_wp2_with fail;go_roundw
      case rel=>first|exact⟨a.o.1,.inr (.inl ⟨rfl,bb.o,a.o.2⟩)⟩|((repeat apply Exists.intro);exact⟨⟨a.o.1,.inr (.inl ⟨rfl,bb.o,a.o.2⟩)⟩,rfl⟩)
      case measure=>simp[intOf]
     ·have cU:((e1:Int) != 0)=true:=by simp;omega
      have HR:=zh (fY.o he);have He:=zh he;clear he;go_wp2_with fail;refine C.o.mono ?_;rintro e w3 ⟨v3,rfl,-,-,A⟩;have aE:=zh (bR.o.next A);have T:=(A.block ta (zAB aN.o)).trans aN.o;have k0:=zAd T;have k1:=zAn T;have ao:=zh (al.o w3 aE.o);clear A C T al;rw[show ∀f:zAS,zDa (some f)=0 from fun _=>rfl];go_wp2_with fail;refine ao.o.mono ?_;rintro e w4 ⟨rfl,bf,bz⟩;have a:=zh (zAi bf HR.o He.o);clear bf bz ao k0 k1;go_wp2_with fail
      go_ret2
      exact a.o
   ·have F:=zh cR;clear cR;have cf:=bA;have k0:=zAd cf;have k1:=zAn cf;obtain⟨v0,L0,ck,aH⟩:=ros_ref hJ;have C:=zh (zCy aH (pre++(⟨#[45,115,110,97,112,126]⟩:ByteArray)));rw[nm_snpt]at C;have bR:=zh hJ;have aN:=zh bA;clear aH cf;cases hg:Sat.get (zAF (zBR (nm pre))) D1.files with
    | none =>
     have hr:D1.rid1 (zAF (zBR (nm pre)))=(D1,0):=by unfold zAA.rid1;rw[hg];rfl
     have bx:=fu.o;rw[hr]at bx;have cW:D1=Y:=congrArg Prod.fst bx;have aw:0=e2:=congrArg Prod.snd bx;have ct:zDa (none:Option zAS)=7:=rfl;rw[hg]at C;have bb:=zW (e2=0) aw.symm;have ac:=zW (ROS w (fun k=>k=ta) j r pre own wr Y (zAH.none0 nodes)) (cW▸bR.o);clear hJ bA hg hr bx cW aw ct;go_wp2_with fail;refine C.o.mono ?_;rintro e w3 ⟨v3,rfl,-,-,A⟩;have a:=zh (And.intro ((A.block ta (zAB aN.o)).trans aN.o) (ac.o.next A));clear A C;rw[show zDa (none:Option zAS)=7 from rfl];go_wp2_with fail;go_roundw
     case rel=>first|exact⟨a.o.1,.inr (.inr ⟨rfl,F.o,bb.o,a.o.2⟩)⟩|((repeat apply Exists.intro);exact⟨⟨a.o.1,.inr (.inr ⟨rfl,F.o,bb.o,a.o.2⟩)⟩,rfl⟩)
     case measure=>simp[intOf]
    | some f =>
     have hr:D1.remove [zAF (zBR (nm pre))]=(Y,e2):=by
      have:=fu.o;unfold zAA.rid1 at this;rw[hg]at this;exact this
     rw[hg]at C;have al:=zh (fun W (h:ROS w (fun k=>k=ta) j r pre own W D1 (zAH.none0 nodes))=>show Calls prog 82 #[.pointer (some ⟨r,0,none⟩),.string (pre++(⟨#[45,115,110,97,112,126]⟩:ByteArray))] W fun e w'=>e=.returned (.int .i64 (e2:Int))∧ROS w (fun k=>k=ta) j r pre own w' Y (zAH.none0 nodes)∧Same (fun k=>k=ta) W w' by
      have:=zFT (Re:=D1.remove [nm (pre++(⟨#[45,115,110,97,112,126]⟩:ByteArray))]) h (Below.refl _ _) fun v L bQ hR=>rrem_calls hR (pre++(⟨#[45,115,110,97,112,126]⟩:ByteArray)) (by rw[gM];omega);rwa[nm_snpt,hr]at this)
     clear hJ bA hg hr
     by_cases he:e2=0
     ·have bb:=zh he;rw[he]at al;clear he;go_wp2_with fail;refine C.o.mono ?_;rintro e w3 ⟨v3,rfl,-,-,A⟩;have aE:=zh (bR.o.next A);have T:=(A.block ta (zAB aN.o)).trans aN.o;have cK:=zh T;have k0:=zAd T;have k1:=zAn T;have ao:=zh (al.o w3 aE.o);clear A C T al;rw[show ∀f:zAS,zDa (some f)=0 from fun _=>rfl];go_wp2_with fail;refine ao.o.mono ?_;rintro e w4 ⟨rfl,bf,bz⟩;have a:=zh (And.intro ((bz ta rfl).trans cK.o) bf);clear bf bz ao k0 k1;go_wp2_with fail;go_roundw
      case rel=>first|exact⟨a.o.1,.inr (.inr ⟨rfl,F.o,bb.o,a.o.2⟩)⟩|((repeat apply Exists.intro);exact⟨⟨a.o.1,.inr (.inr ⟨rfl,F.o,bb.o,a.o.2⟩)⟩,rfl⟩)
      case measure=>simp[intOf]
     ·have cU:((e2:Int) != 0)=true:=by simp;omega
      have HR:=zh (fZ.o F.o he);have He:=zh he;clear he;go_wp2_with fail;refine C.o.mono ?_;rintro e w3 ⟨v3,rfl,-,-,A⟩;have aE:=zh (bR.o.next A);have T:=(A.block ta (zAB aN.o)).trans aN.o;have k0:=zAd T;have k1:=zAn T;have ao:=zh (al.o w3 aE.o);clear A C T al;rw[show ∀f:zAS,zDa (some f)=0 from fun _=>rfl];go_wp2_with fail;refine ao.o.mono ?_;rintro e w4 ⟨rfl,bf,bz⟩;have a:=zh (zAi bf HR.o He.o);clear bf bz ao k0 k1;go_wp2_with fail
      go_ret2
      exact a.o
   ·have F:=zh cR;have P:=zh fJ;have df:=zh (hJ.less (F':=fun _=>False) fun _ h=>h.elim);have dU:=zAC wr (.cells #[.int .i64 0,.int .i64 0,.slice none 0 0] 82);have fe:=zh dU;have gg:=zW ((wr.alloc (.cells #[.int .i64 0,.int .i64 0,.slice none 0 0] 82)).heap.size=wr.heap.size+1) (by simp);have dM:=zh (zAJ wr (.cells #[.int .i64 0,.int .i64 0,.slice none 0 0] 82));have aE:=zh (df.o.next dU);obtain⟨v0,L0,ck,aH⟩:=ros_ref aE.o;have fw:=zh (rload_calls aH (sSnp pre));rw[nm_snp]at fw;have cE:=zh gn.o;have fz:=zh gv.o;clear cR fJ hJ bA dU aH;generalize ho:Sat.get (zBR (nm pre)) Y.files=of at *;go_wp2_with fail;refine fw.o.mono ?_;rintro e w6 ⟨v6,rfl,bC,bo,bt⟩;have de:=zh (fe.o.trans (bt.mono fe.o.size));rcases loadE_cases of with hl|hl|hl
    rotate_left
    ·have am:sn=(3,none):=cE.o.symm.trans (snapOf_3 hl);have a:=zh (zAi (aE.o.next bt) (show zAV D (nm pre) nodes=(Y,3,zAH.none0 nodes) by have t:=fi.o F.o P.o;rw[am]at t;exact t (by decide)) (by decide));rw[hl];clear hl am bC bo bt;go_wp2_with fail
     go_ret2
     exact a.o
    ·have am:sn=(0,none):=cE.o.symm.trans (zGc hl);obtain⟨ks,gI⟩:∃ks,ks=sn.1:=⟨_,rfl⟩;have Q:=zW (sn.1=0) (by rw[am]);have aY:=zW (e1=0→e2=0→sn.1=0→li.2.1=0→zAh none li.2.2.2 li.2.2.1=none→zAV D (nm pre) nodes=(li.1,3,zAH.none0 nodes)) (by have t:=ay.o;rw[am]at t ⊢;exact t);have aW:=zW (∀M,e1=0→e2=0→sn.1=0→li.2.1=0→zAh none li.2.2.2 li.2.2.1=some (false,M)→zAV D (nm pre) nodes=(li.1,0,M)) (by have t:=aF.o;rw[am]at t ⊢;exact t);have aV:=zW (∀M,e1=0→e2=0→sn.1=0→li.2.1=0→zAh none li.2.2.2 li.2.2.1=some (true,M)→zAV D (nm pre) nodes=((zAT li.1 (nm pre) M).1,(zAT li.1 (nm pre) M).2,M)) (by have t:=aA.o;rw[am]at t ⊢;exact t);have aM:=zh (aE.o.next bt);rw[hl];clear hl am bC bo bt gI ay aF aA aE;generalize dS:w6=W7 at *;clear dS;go_wp2_with fail;obtain⟨v0,L0,ck,aH⟩:=ros_ref aM.o;have C:=zh (zCy aH (zCS pre));rw[zBy]at C;have aB:=zh aM.o.okD;have aI:=zFI aM.o.okD (zAm (nm pre));clear aH;cases hg:Sat.get (zAm (nm pre)) Y.files with
     | none =>
      have c:li=(Y,0,true,zAH.none0 nodes):=ag.o.symm.trans (zE3 hg);have R:=ag.o;obtain⟨E,aC⟩:∃E,E=Y:=⟨_,rfl⟩;obtain⟨b,bX⟩:∃b,b=zAH.none0 nodes:=⟨_,rfl⟩;rw[←aC,←bX]at c;have ay:=zW (zAh none b true=none→zAV D (nm pre) nodes=(E,3,zAH.none0 nodes)) (fun hj=>by have t:=aY.o F.o P.o Q.o;rw[c]at t;exact t rfl hj);have aF:=zW (∀M,zAh none b true=some (false,M)→zAV D (nm pre) nodes=(E,0,M)) (fun M hj=>by have t:=aW.o M F.o P.o Q.o;rw[c]at t;exact t rfl hj);have aA:=zW (∀M,zAh none b true=some (true,M)→zAV D (nm pre) nodes=((zAT E (nm pre) M).1,(zAT E (nm pre) M).2,M)) (fun M hj=>by have t:=aV.o M F.o P.o Q.o;rw[c]at t;exact t rfl hj);have az:=zh (zCR (D:=Y) (D':=E) (pre:=nm pre) (M:=zAH.none0 nodes) (M':=b) aB.o al.o (show(zAH.none0 nodes).entries=[]from rfl) (R.trans c));rw[hg]at C;have cA:=zW (ROS w (fun _=>False) j r pre own W7 E b) (by rw[aC,bX];exact aM.o);clear hg aI c R aC bX;go_wp2_with fail;refine C.o.mono ?_;rintro e WT ⟨v3,rfl,-,-,A⟩;have aa:=zh (cA.o.next A)
      
      clear A C;rw[show zDa (none:Option zAS)=7 from rfl];obtain⟨cN,cL,cM,d⟩:=aa.o.cells;have c0:=zAd d;clear d
      by_cases K:0<b.number
      ·have HR:=zh (ay.o (show zAh none b true=none by unfold zAh;exact if_pos K));have a:=zh (fun q=>zAi (aa.o.next (zAb WT q)) HR.o (by decide));have d0:decide ((0:Int)<(b.number:Int))=true:=by simp;omega
       have bc:decide (0<b.number)=true:=by simp;omega
       clear K;go_wp2_with fail
       go_quiet (fail)
       go_wp2_with fail
       go_ret2
       exact a.o _
      ·have ac:=zW (zAh none b true=some (true,b)) (by unfold zAh;exact if_neg K);have d0:decide ((0:Int)<(b.number:Int))=false:=by simp;omega
       have bc:decide (0<b.number)=false:=by simp;omega
       clear K;have bp:=aA.o _ ac.o;go_wp2_with fail
       go_quiet (fail)
       go_wp2_with fail
       go_quiet (fail)
       go_wp2_with fail;generalize cQ:(World.drewN _ _)=WQ;have dH:=zW (ROS w (fun _=>False) j r pre own WQ E b) (by rw[←cQ];exact aa.o.next (zAb WT _));clear cQ c0;cases ak:zAT E (nm pre) b with
       | mk D4 e4 =>
        have J:=zh (zGZ dH.o az.o);rw[ak]at J;have I:=bp;rw[ak]at I;have I:=zh I;clear ak
        by_cases ai:e4=0
        ·subst ai;go_wp2_with fail;refine J.o.mono ?_;rintro e w9 ⟨rfl,N,ae⟩;have a:=zh (zBb N I.o);clear N ae J;go_wp2_with fail
         go_ret2
         exact a.o
        ·have cj:((e4:Int) != 0)=true:=by simp;omega
         have bq:=zh ai;clear ai;go_wp2_with fail;refine J.o.mono ?_;rintro e w9 ⟨rfl,N,ae⟩;have a:=zh (zAi N I.o bq.o);clear N ae J;go_wp2_with fail
         go_ret2
         exact a.o
     | some f =>
      have bn:f.data.length≤1073741824:=by rw[hg]at aI;exact aI
      have bT:=zh (zFp (M:=zAH.none0 nodes) hg);have cz:=zh (fun M'=>readLog_ok (M:=zAH.none0 nodes) (M':=M') hg);rw[hg]at C;clear hg aI;go_wp2_with fail;refine C.o.mono ?_;rintro e w3 ⟨v3,rfl,bl,dY,A⟩;have cl:=zh (aM.o.next A)
      
      have bl:zAk w3 5 v3 f.data:=bl;obtain⟨pb,cb,rfl,bK⟩:=zAN bl;have cJ:=zh (rscan_calls bl.has bK bn);clear A bl dY bK C;have fQ:=scan_le f.data;generalize bh:f.data.length=ax at *;rw[show ∀f:zAS,zDa (some f)=0 from fun _=>rfl];go_wp2_with fail;refine cJ.o.mono ?_;rintro e w4 ⟨v4,vs,rfl,aw,ca,cp⟩;have aL:=zW (ROS w (fun k=>(fun _=>False) k∨(v4.ownBlock=some k∨∃u∈vs,u.ownBlock=some k)) j r pre own w4 Y (zAH.none0 nodes)) (cl.o.more cp fun k p=>by
       rcases p with p|p|⟨u,hu,p⟩
       ·exact .inl p
       ·exact .inr ⟨ca.1 k p,OwnR.lt aw.row p⟩
       ·refine .inr ⟨ca.2 u hu k p,?_⟩;obtain⟨i,hi,rfl⟩:=List.getElem_of_mem hu;have dV:i<(zDv f.data).1.length:=by rw[←aw.len];exact hi
        exact OwnR.lt (aw.has i _ _ (List.getElem?_eq_getElem hi) (List.getElem?_eq_getElem dV)) p)
      
      have bS:=zh aw;have cH:=zW (∀x∈(zDv f.data).1,x.length≤1073741824) fun x hx=>scanJ_row bn bh hx;clear aw ca cp cJ cl;obtain⟨pr,cr,fc⟩:=OwnR.shape bS.o.row;generalize hq:(zDv f.data).2=q at *;generalize bi:(zDv f.data).1=rows at *;have gK:rows.length≤1073741824:=zFt bn bh bi;generalize cV:rows.length=n at *;have br:=zh cV;subst fc;clear hq bi cV bh
      by_cases K:n=0
      ·have cZ:rows=[]:=List.eq_nil_of_length_eq_zero (by rw[br.o,K]);have c:li=(Y,3,false,zAH.none0 nodes):=ag.o.symm.trans (bT.o (by rw[cZ];rfl));have a:=zh (zAi aL.o (show zAV D (nm pre) nodes=(Y,3,zAH.none0 nodes) by have t:=bF.o F.o P.o Q.o;rw[c]at t;exact t (show(3:Nat)≠0 by decide)) (by decide));have e0:((n:Int)==0)=true:=by simp;omega
       clear cZ K c;go_wp2_with fail
       go_ret2
       exact a.o
      ·have e0:((n:Int)==0)=false:=by simp;omega
       have cG:=zh K;clear K;obtain⟨S,hN,bI,cO,cP⟩:=ros_new aL.o;have dK:=zh cP;clear cP;have cy:=zh hN;have bG:=zh bI;have cB:=zh cO;have cF:=zh (fun k p=>aL.o.fj (k:=k) p);clear hN bI cO;go_wp2_with fail
       go_loopw [23] (fun i wr=>∃(k:Nat) (Mk:zAH),k≤n∧i=.int .i64 k∧(k=0→Mk=zAH.none0 nodes)∧Mk.entries.length≤k∧zA4 (fun k=>S k∨w4.heap.size≤k) wr j r pre Mk∧Chg (fun k=>S k∨w4.heap.size≤k) w4 wr∧zCC (zAH.none0 nodes) rows=restJ k Mk (rows.drop k)) (fun i _=>n-(intOf i).toNat)
       case atStart=>exact⟨0,zAH.none0 nodes,Nat.zero_le _,rfl,fun _=>rfl,Nat.zero_le _,cy.o.wide fun _ h=>.inl h,Chg.refl _ _,rfl⟩
       case round =>
        clear cy e0;obtain⟨k,Mk,p,rfl,bv,cT,hN,hC,aj⟩:=hrel;have af:∀x,(fun k=>(fun _=>False) k∨((Value.slice pr n cr).ownBlock=some k∨∃u∈vs,u.ownBlock=some k)) x→wr.heap[x]?=w4.heap[x]?:=fun x hx=>hC.block x (aL.o.flt hx) fun e=>e.elim (fun e=>(bG.o x e).2 hx) fun e=>by have:=aL.o.flt hx;omega
        by_cases ad:k<n
        ·have aQ:k<rows.length:=by rw[br.o];exact ad
         rw[List.drop_eq_getElem_cons aQ,restJ_cons]at aj;have aP:=bS.o.keepJ (w':=wr) fun x hx=>af x (.inr hx);have bg:k<vs.length:=by rw[aP.len];exact aQ
         have aR:=aP.has k _ _ (List.getElem?_eq_getElem bg) (List.getElem?_eq_getElem aQ);have aD:∃g,pr=some ⟨g,0,none⟩∧wr.cell? ⟨g,k,none⟩=some vs[k]:=by
          rcases aP.row.2 with⟨-,h0⟩|⟨g,gz,cur,e,-⟩
          ·omega
          ·refine⟨g,?_,?_⟩
           ·simp only[Value.slice.injEq]at e;exact e.1
           ·have hc:=aP.row.cells (g:=g) (by rw[e];rfl) k _ (List.getElem?_eq_getElem bg);rwa[add_zero]at hc
         obtain⟨g,rfl,aD⟩:=aD;have bm:=cH.o _ (List.getElem_mem aQ);obtain⟨px,cx,cc,bY⟩:=zAN aR;have bD:∀y,vs[k].ownBlock=some y→(fun k=>(fun _=>False) k∨((Value.slice (some ⟨g,0,none⟩) n cr).ownBlock=some k∨∃u∈vs,u.ownBlock=some k)) y:=fun y hy=>.inr (.inr ⟨vs[k],List.getElem_mem bg,hy⟩);rw[cc]at aR aD bD;have an:=zh (rreads_calls hN (decide (k=0)) (fun hf=>by rw[bv (by simpa using hf)];rfl) aR.has bY bm (fun y hy=>OwnR.lt aR hy) (fun y hy=>cF.o y (bD y hy)) (by omega));have HC:=zh hC;have gH:((k:Int)==0)=decide (k=0):=by
          by_cases h0:k=0
          ·subst h0;rfl
          ·rw[decide_eq_false h0];simp;omega
         cases hc:zBe (decide (k=0)) Mk rows[k]with
         | none =>
          rw[hc]at aj;rw[hc]at an;have c:li=(Y,3,false,zAH.none0 nodes):=ag.o.symm.trans (bT.o aj);have aX:=zW (zAV D (nm pre) nodes=(Y,3,zAH.none0 nodes)) (by have t:=bF.o F.o P.o Q.o;rw[c]at t;exact t (show(3:Nat)≠0 by decide));clear hN hC aj aP aR bm hc cc bg bv c af bY bD;generalize rows[k]=x at *;generalize x.length=m at *;generalize decide (k=0)=fk at *;clear aQ;go_wp2_with fail;refine an.o.mono ?_;rintro e w6 ⟨be,bZ⟩;obtain rfl:e=.returned (.bool false):=bZ;have a:=zh (ropened_bad2 (pre:=pre) (dK.o w6 (HC.o.trans be fun _ _ h=>h)) aX.o (by decide));clear be an;go_wp2_with fail
          go_ret2
          exact a.o
         | some Mn =>
          rw[hc]at aj;rw[hc]at an;have dX:=rec1_len hc;have dL:=zh (show Mn.entries.length≤k+1 by omega);have dN:=zW (zCC (zAH.none0 nodes) rows=restJ (k+1) Mn (rows.drop (k+1))) aj;clear hN hC aj aP aR bm hc cc bg bv af bY bD dX cT;generalize rows[k]=x at *;generalize x.length=m at *;generalize decide (k=0)=fk at *;clear aQ;go_wp2_with fail;refine an.o.mono ?_;rintro e w6 ⟨be,bZ,bo⟩;subst bZ;have a:=zh (And.intro (bo.wide fun y hy=>hy.elim id fun h=>.inr (Nat.le_trans HC.o.size h)) (HC.o.trans be fun _ _ h=>h));clear be bo;go_wp2_with fail;go_roundw
          case rel=>exact⟨k+1,Mn,by omega,by go_num,fun h=>by omega,dL.o,a.o.1,a.o.2,dN.o⟩
          case measure=>simp[intOf];omega
        ·have dW:k=n:=by omega
         subst dW;have bN:zCC (zAH.none0 nodes) rows=some Mk:=by
          rw[aj,List.drop_of_length_le (by rw[br.o];exact Nat.le_refl _)];cases k with
          | zero=>exact absurd rfl cG.o
          | succ k=>rfl
         have aK:=zh (cz.o Mk bN);have bU:=zW (ROS w (fun _=>False) j r pre own wr Y Mk) ((cB.o wr Mk hN hC).1.less fun _ h=>.inl h)
         
         clear hN hC aj bN bS aL cH bT cz cG br bv af cB bG cF cT;generalize dQ:Mk=b at *;clear dQ
         by_cases cd:q<ax
         ·have dq:decide ((q:Int)<(ax:Int))=true:=by simp;omega
          have dP:decide (q<ax)=true:=by simp;omega
          cases bk:Y.truncate (zAm (nm pre)) (q:Int)with
          | mk Dt e1t =>
           have aO:=zW (Calls prog 90 #[.pointer (some ⟨r,0,none⟩),.string (zCS pre),.int .i64 (q:Int)] wr fun e w'=>e=.returned (.int .i64 (e1t:Int))∧ROS w (fun _=>False) j r pre own w' Dt b∧Same (fun _=>False) wr w') (by
            have:=zFT (Re:=Y.truncate (nm (zCS pre)) (q:Int)) bU.o (Below.refl _ _) fun v L bQ hR=>rtrunc_calls hR (zCS pre) (by rw[dn];omega) (q:Int) (by omega) (by omega);rwa[zBy,bk]at this)
           by_cases aq:e1t=0
           ·subst aq;cases ce:Dt.sync [zAm (nm pre)]with
            | mk E e2t =>
             have hT:tornOff Y (zAm (nm pre)) q ax=(E,e2t):=by unfold tornOff;rw[if_pos cd,bk,if_neg (by simp)];exact ce
             have hR:=aK.o;rw[hT]at hR;have bs:=zh (fun W (h:ROS w (fun _=>False) j r pre own W Dt b)=>show Calls prog 91 #[.pointer (some ⟨r,0,none⟩),.string (zCS pre)] W fun e w'=>e=.returned (.int .i64 (e2t:Int))∧ROS w (fun _=>False) j r pre own w' E b∧Same (fun _=>False) W w' by
              have:=zFT (Re:=Dt.sync [nm (zCS pre)]) h (Below.refl _ _) fun v L bQ hR=>zDc hR (zCS pre) (by rw[dn];omega);rwa[zBy,ce]at this)
             clear bk ce hT aK
             by_cases aJ:e2t=0
             ·subst aJ;have c:li=(E,0,false,b):=ag.o.symm.trans hR;have R:=ag.o;have ay:=zW (zAh none b false=none→zAV D (nm pre) nodes=(E,3,zAH.none0 nodes)) (fun hj=>by have t:=aY.o F.o P.o Q.o;rw[c]at t;exact t rfl hj);have aF:=zW (∀M,zAh none b false=some (false,M)→zAV D (nm pre) nodes=(E,0,M)) (fun M hj=>by have t:=aW.o M F.o P.o Q.o;rw[c]at t;exact t rfl hj);have aA:=zW (∀M,zAh none b false=some (true,M)→zAV D (nm pre) nodes=((zAT E (nm pre) M).1,(zAT E (nm pre) M).2,M)) (fun M hj=>by have t:=aV.o M F.o P.o Q.o;rw[c]at t;exact t rfl hj);have az:=zh (zCR (D:=Y) (D':=E) (pre:=nm pre) (M:=zAH.none0 nodes) (M':=b) aB.o al.o (show(zAH.none0 nodes).entries=[]from rfl) (R.trans c));clear c R hR;go_wp2_with fail;refine aO.o.mono ?_;rintro e w6 ⟨rfl,au,aU⟩;have ap:=zh (bs.o w6 au)
              
              clear au aU aO bs;go_wp2_with fail;refine ap.o.mono ?_;rintro e WT ⟨rfl,ah,bO⟩;have aa:=zh ah
              
              clear ah bO ap;obtain⟨cN,cL,cM,d⟩:=aa.o.cells;have c0:=zAd d;clear d
              by_cases K:0<b.number
              ·have HR:=zh (ay.o (show zAh none b false=none by unfold zAh;exact if_pos K));have a:=zh (fun q=>zAi (aa.o.next (zAb WT q)) HR.o (by decide));have d0:decide ((0:Int)<(b.number:Int))=true:=by simp;omega
               have bc:decide (0<b.number)=true:=by simp;omega
               clear K;go_wp2_with fail
               go_quiet (fail)
               go_wp2_with fail
               go_ret2
               exact a.o _
              ·have ac:=zW (zAh none b false=some (false,b)) (by unfold zAh;exact if_neg K);have d0:decide ((0:Int)<(b.number:Int))=false:=by simp;omega
               have bc:decide (0<b.number)=false:=by simp;omega
               clear K;have HR:=zh (aF.o _ ac.o);have a:=zh (fun q q2=>zBb ((aa.o.next (zAb WT q)).next (zAb (WT.drewN q) q2)) HR.o);go_wp2_with fail
               go_quiet (fail)
               go_wp2_with fail
               go_quiet (fail)
               go_wp2_with fail
               go_ret2
               exact a.o _ _
             ·have cU:((e2t:Int) != 0)=true:=by simp;omega
              have c:li=(E,e2t,false,b):=ag.o.symm.trans hR;have aX:=zW (zAV D (nm pre) nodes=(E,e2t,zAH.none0 nodes)) (by have t:=bF.o F.o P.o Q.o;rw[c]at t;exact t aJ);have cD:=zh aJ;clear c hR aJ;go_wp2_with fail;refine aO.o.mono ?_;rintro e w6 ⟨rfl,au,aU⟩;have ap:=zh (bs.o w6 au);clear au aU aO bs;go_wp2_with fail;refine ap.o.mono ?_;rintro e WT ⟨rfl,ah,bO⟩;have a:=zh (zAi ah aX.o cD.o);clear ah bO ap;go_wp2_with fail
              go_ret2
              exact a.o
           ·have hT:tornOff Y (zAm (nm pre)) q ax=(Dt,e1t):=by unfold tornOff;rw[if_pos cd,bk,if_pos aq]
            have hR:=aK.o;rw[hT]at hR;have c:li=(Dt,e1t,false,b):=ag.o.symm.trans hR;have aX:=zW (zAV D (nm pre) nodes=(Dt,e1t,zAH.none0 nodes)) (by have t:=bF.o F.o P.o Q.o;rw[c]at t;exact t aq);have cU:((e1t:Int) != 0)=true:=by simp;omega
            have gG:((e1t:Int)==0)=false:=by simp;omega
            have cC:=zh aq;clear bk hT hR aK c aq;go_wp2_with fail;refine aO.o.mono ?_;rintro e w6 ⟨rfl,au,aU⟩;have a:=zh (zAi au aX.o cC.o);clear au aU aO;go_wp2_with fail
            go_ret2
            exact a.o
         ·have dq:decide ((q:Int)<(ax:Int))=false:=by simp;omega
          have dP:decide (q<ax)=false:=by simp;omega
          have hT:tornOff Y (zAm (nm pre)) q ax=(Y,0):=by unfold tornOff;rw[if_neg cd]
          have hR:=aK.o;rw[hT]at hR;have c:li=(Y,0,false,b):=ag.o.symm.trans hR;have R:=ag.o;obtain⟨E,aC⟩:∃E,E=Y:=⟨_,rfl⟩;rw[←aC]at c;have ay:=zW (zAh none b false=none→zAV D (nm pre) nodes=(E,3,zAH.none0 nodes)) (fun hj=>by have t:=aY.o F.o P.o Q.o;rw[c]at t;exact t rfl hj);have aF:=zW (∀M,zAh none b false=some (false,M)→zAV D (nm pre) nodes=(E,0,M)) (fun M hj=>by have t:=aW.o M F.o P.o Q.o;rw[c]at t;exact t rfl hj);have aA:=zW (∀M,zAh none b false=some (true,M)→zAV D (nm pre) nodes=((zAT E (nm pre) M).1,(zAT E (nm pre) M).2,M)) (fun M hj=>by have t:=aV.o M F.o P.o Q.o;rw[c]at t;exact t rfl hj);have az:=zh (zCR (D:=Y) (D':=E) (pre:=nm pre) (M:=zAH.none0 nodes) (M':=b) aB.o al.o (show(zAH.none0 nodes).entries=[]from rfl) (R.trans c));have aa:=zW (ROS w (fun _=>False) j r pre own wr E b) (by rw[aC];exact bU.o);clear hT hR aK c R aC bU;go_wp2_with fail;generalize dT:wr=WT at *;clear dT;obtain⟨cN,cL,cM,d⟩:=aa.o.cells;have c0:=zAd d;clear d
          by_cases K:0<b.number
          ·have HR:=zh (ay.o (show zAh none b false=none by unfold zAh;exact if_pos K));have a:=zh (fun q=>zAi (aa.o.next (zAb WT q)) HR.o (by decide));have d0:decide ((0:Int)<(b.number:Int))=true:=by simp;omega
           have bc:decide (0<b.number)=true:=by simp;omega
           clear K;go_wp2_with fail
           go_quiet (fail)
           go_wp2_with fail
           go_ret2
           exact a.o _
          ·have ac:=zW (zAh none b false=some (false,b)) (by unfold zAh;exact if_neg K);have d0:decide ((0:Int)<(b.number:Int))=false:=by simp;omega
           have bc:decide (0<b.number)=false:=by simp;omega
           clear K;have HR:=zh (aF.o _ ac.o);have a:=zh (fun q q2=>zBb ((aa.o.next (zAb WT q)).next (zAb (WT.drewN q) q2)) HR.o);go_wp2_with fail
           go_quiet (fail)
           go_wp2_with fail
           go_quiet (fail)
           go_wp2_with fail
           go_ret2
           exact a.o _ _
    ·have am:sn=(match zDD (zEX of)with|none=>(3,none)|some s=>(0,some s)):=cE.o.symm.trans (snapOf_0 hl);have gs:=zW (∀s,zDD (zEX of)=some s→s.OK∧s.data.length≤524288∧1≤s.number) fun s hs=>snapIs_ok hs;rw[hl];have gY:=zh (aE.o.next bt);have bC:zAk w6 5 v6 (zEX of):=bC;obtain⟨pv,cv,rfl,fI⟩:=zAN bC;have fL:=fz.o;generalize zEX of=sb at *;have gf:=zh (zFo (w:=w6) bC.has fI (fun k p=>OwnR.lt bC p) (by omega));have dz:=zh (fun k p=>OwnR.lt (k:=k) bC p);have fh:=zh (zAC w6 (.cells #[.slice pv sb.length cv,.bool false] 148));have gr:=zh bo;have fx:=zh ((bt.block wr.heap.size (zAB dM.o)).trans dM.o);have fU:wr.heap.size<w6.heap.size:=Nat.lt_of_lt_of_le (zAB dM.o) bt.size;have gu:=zh (fun l' R' (hL:RLst (Rd.num ⟨sb,false⟩).2.num.2 l' R')=>rsnap_is hL fun hb=>Nat.le_trans (rsnap_len hL hb) fL);have gb:=zh (zBE gf.o);have hd:=Rd.num_le ⟨sb,false⟩;have hh:=Rd.num_le (Rd.num ⟨sb,false⟩).2;clear hl bC bo bt fI aE;have gZ:=zh fL;generalize dD:sb.length=gQ at *;have gR:=zh dD;clear dD;go_wp2_with fail;generalize gE:w6.alloc (.cells #[.slice pv gQ cv,.bool false] 148)=Wq at *;clear gE;refine gb.o.mono ?_;rintro e w7 ⟨rfl,ct,fF⟩;have fg:=zW (Below w6.heap.size w6 w7) (fh.o.trans (fF.below fh.o.size fun i hi e=>by omega));have gd:=zh (zBE ct);clear ct fF;go_wp2_with fail;refine gd.o.mono ?_;rintro e w8 ⟨rfl,fa,fG⟩;have gS:=fa.lt;have dE:=zW (Below w6.heap.size w6 w8) (fg.o.trans (fG.below fg.o.size fun i hi e=>by omega));have ht:=dE.o.size;have HL:=zh (rlst_calls fa fun k p=>⟨by have:=dz.o k p;omega,fun e=>by have:=dz.o k p;omega⟩);clear fa fG;go_wp2_with fail;refine HL.o.mono ?_;rintro e w9 ⟨vg,lg,R',rfl,dR,ds,fO,dA,gJ,fR,fH⟩;have dF:=zW (Below w6.heap.size w6 w9) (dE.o.trans (fH.below dE.o.size fun i hi e=>by omega));have cI:=zh (gu.o lg R' dR);have ha:=zh (fun hb=>rsnap_len dR hb);obtain⟨X,V,rfl,-⟩:=zAw ds;have cm:=zh (And.intro ds (And.intro (show ∀k,(Value.slice X lg.length V).ownBlock=some k→wr.heap.size<k∧w6.heap.size<k∧k<w9.heap.size from fun k p=>by have h1:=fO k p;have h2:=OwnR.lt ds p;omega) dA));have ae:=dF.o.size;have cs:=(dF.o.block wr.heap.size fU).trans fx.o;have t0:=zAd cs;have t1:=zAn cs;have t2:=zAo cs;have tf:=zAE cs;have gt:=zh cs;have ge:=zh fR;clear dR ds fO dA gJ fR fH cs;generalize (Rd.num ⟨sb,false⟩).1=n1 at *;generalize (Rd.num ⟨sb,false⟩).2.num.1=n2 at *;generalize dB:lg.length=cu at *;have dx:=zh dB;clear dB;have ch:=zh (set3_chg w9 wr.heap.size (.int .i64 (n1:Int)) (.int .i64 (n2:Int)) (.slice X cu V));have dw:=zh (set3_block gt.o (.int .i64 (n1:Int)) (.int .i64 (n2:Int)) (.slice X cu V));have fX:=zh (zGa (ge.o.chg ch.o (fun e=>by omega) fun k p e=>by have h1:=gr.o k p;have h2:=gg.o;have e2:k=wr.heap.size:=e;omega));go_wp2_with fail;clear t0 t1 t2 tf;generalize fE:((w9.setCell ⟨wr.heap.size,0,none⟩ (.int .i64 (n1:Int))).setCell ⟨wr.heap.size,1,none⟩ (.int .i64 (n2:Int))).setCell ⟨wr.heap.size,2,none⟩ (.slice X cu V)=fA at *;clear fE;refine fX.o.mono ?_;rintro e aS ⟨vd,rfl,dr,fM,dC,bJ⟩;have fs:=zh (zCk dC);have gV:=ch.o.size;have gW:=bJ.size;have ci:=zh ((bJ.block wr.heap.size (zAB dw.o) (by omega)).trans dw.o);have fm:=zW (zBg aS (.slice X cu V) lg) (by
      have h1:=zCp.has cm.o.1;have h2:zBg fA (.slice X cu V) lg:=zAM.chg h1 ch.o fun k p e=>by have:=(cm.o.2.1 k p).1;omega
      exact zAM.chg h2 bJ fun k p e=>by have:=(cm.o.2.1 k p).2.1;omega)
     have aG:=zh (zC7 fm.o (by have:=cm.o.2.2;have:=dx.o;omega));have du:=zW (Below wr.heap.size wr aS) (((de.o.trans (dF.o.mono de.o.size)).trans (ch.o.below (Nat.le_trans de.o.size ae) fun k p e=>by omega)).trans (bJ.below (by have:=de.o.size;omega) fun k p e=>by omega));obtain⟨dp,dc,rfl,-⟩:=zAN dr;have gj:=zW (w.heap.size≤wr.heap.size) (by obtain⟨_,_,_,hc,_⟩:=df.o;exact hc.size);generalize fT:R'.bytes.1=sd at *;generalize gC:R'.bytes.2=Rb at *;generalize bn:sd.length=dl at *;have gl:=zh bn;have dg:=zh (And.intro (zAk.has dr) (show ∀k,(Value.slice dp dl dc).ownBlock=some k→fA.heap.size≤k∧k<aS.heap.size from fun k p=>⟨fM k p,OwnR.lt dr p⟩));have bE:=zh (fun q (t:zDD sb=none)=>zAi (df.o.next (du.o.trans (zAb aS q))) (show zAV D (nm pre) nodes=(Y,3,zAH.none0 nodes) by have h8:=fi.o F.o P.o;rw[am,t]at h8;exact h8 (by decide)) (by decide));have u0:=zAd ci.o;have u1:=zAn ci.o;have u2:=zAo ci.o;have HU:=zh (fun q=>And.intro (show(aS.drewN q).cell? ⟨wr.heap.size,0,none⟩=some (.int .i64 (n1:Int))from u0) (show(aS.drewN q).cell? ⟨wr.heap.size,1,none⟩=some (.int .i64 (n2:Int))from u1));have gw:=zh am;clear dr fM dC bJ fT gC bn am u0 u1;go_wp2_with fail;refine fs.o.mono ?_;rintro e hA ⟨rfl,fV⟩;obtain rfl:=fV.symm;cases hw:Rb.whole with
     | false =>
      have a:=zh (bE.o 0 (by rw[cI.o,hw];exact if_neg (by simp)));clear hw;go_wp2_with fail
      go_ret2
      exact a.o
     | true =>
      cases cq:zAX lg with
      | false =>
       have a:=zh (fun q=>bE.o q (by rw[cI.o,cq];exact if_neg (by simp)));rw[cq]at aG;clear hw cq;go_wp2_with fail;refine aG.o.mono ?_;rintro e dt ⟨rfl,q,rfl⟩;go_wp2_with fail
       go_ret2
       exact a.o q
      | true =>
       have di:=zW (zDD sb=if 1≤n1∧n1≤1099511627776∧n2≤1099511627776 then some ⟨n1,n2,lg,sd⟩else none) (by rw[cI.o,hw,cq];simp);rw[cq]at aG;clear hw cq
       by_cases h1:n1<1
       ·have d1:decide ((n1:Int)<1)=true:=decide_eq_true (by omega);have bW:decide (n1<1)=true:=decide_eq_true h1;have a:=zh (fun q=>bE.o q (by rw[di.o,if_neg (by omega)]));clear h1;have u0:=fun q=>(HU.o q).1;have u1:=fun q=>(HU.o q).2;go_wp2_with fail;refine aG.o.mono ?_;rintro e dt ⟨rfl,q,rfl⟩;have u0:=u0 q;have u1:=u1 q;go_wp2_with fail
        go_ret2
        exact a.o q
       have d1:decide ((n1:Int)<1)=false:=decide_eq_false (by omega);have bW:decide (n1<1)=false:=decide_eq_false h1
       by_cases h2:1099511627776<n1
       ·have d2:decide ((1099511627776:Int)<(n1:Int))=true:=decide_eq_true (by omega);have gA:decide (1099511627776<n1)=true:=decide_eq_true h2;have a:=zh (fun q=>bE.o q (by rw[di.o,if_neg (by omega)]));clear h1;have u0:=fun q=>(HU.o q).1;have u1:=fun q=>(HU.o q).2;go_wp2_with fail;refine aG.o.mono ?_;rintro e dt ⟨rfl,q,rfl⟩;have u0:=u0 q;have u1:=u1 q;go_wp2_with fail
        go_ret2
        exact a.o q
       have d2:decide ((1099511627776:Int)<(n1:Int))=false:=decide_eq_false (by omega);have gA:decide (1099511627776<n1)=false:=decide_eq_false h2
       by_cases h3:1099511627776<n2
       ·have d3:decide ((1099511627776:Int)<(n2:Int))=true:=decide_eq_true (by omega);have gB:decide (1099511627776<n2)=true:=decide_eq_true h3;have a:=zh (fun q=>bE.o q (by rw[di.o,if_neg (by omega)]));clear h1;have u0:=fun q=>(HU.o q).1;have u1:=fun q=>(HU.o q).2;go_wp2_with fail;refine aG.o.mono ?_;rintro e dt ⟨rfl,q,rfl⟩;have u0:=u0 q;have u1:=u1 q;go_wp2_with fail
        go_ret2
        exact a.o q
       have d3:decide ((1099511627776:Int)<(n2:Int))=false:=decide_eq_false (by omega);have gB:decide (1099511627776<n2)=false:=decide_eq_false h3;have dk:zDD sb=some ⟨n1,n2,lg,sd⟩:=by rw[di.o,if_pos (by omega)]
       obtain⟨s,bP⟩:∃s:zC8,s=⟨n1,n2,lg,sd⟩:=⟨_,rfl⟩;rw[←bP]at dk;have co:=zh (gs.o s dk);have am:sn=(0,some s):=by rw[gw.o,dk]
       have Q:=zW (sn.1=0) (by rw[am]);have aY:=zW (e1=0→e2=0→sn.1=0→li.2.1=0→zAh (some s) li.2.2.2 li.2.2.1=none→zAV D (nm pre) nodes=(li.1,3,zAH.none0 nodes)) (by have t:=ay.o;rw[am]at t ⊢;exact t);have aW:=zW (∀M,e1=0→e2=0→sn.1=0→li.2.1=0→zAh (some s) li.2.2.2 li.2.2.1=some (false,M)→zAV D (nm pre) nodes=(li.1,0,M)) (by have t:=aF.o;rw[am]at t ⊢;exact t);have aV:=zW (∀M,e1=0→e2=0→sn.1=0→li.2.1=0→zAh (some s) li.2.2.2 li.2.2.1=some (true,M)→zAV D (nm pre) nodes=((zAT li.1 (nm pre) M).1,(zAT li.1 (nm pre) M).2,M)) (by have t:=aA.o;rw[am]at t ⊢;exact t);have en:(n1:Int)=(s.number:Int):=by rw[bP]
       have et:(n2:Int)=s.term:=by rw[bP]
       have eg:cu=s.group.length:=by rw[bP];exact dx.o.symm
       have ed:dl=s.data.length:=by rw[bP];exact gl.o.symm
       subst eg;subst ed;have fq:=zh (fun q=>show Snd w (aS.drewN q) wr.heap.size (.slice X s.group.length V) (.slice dp s.data.length dc) s from⟨by
        have t:=ci.o;rw[en,et]at t;exact t,by
        have t:zBg aS (.slice X s.group.length V) s.group:=by have h8:=fm.o;rwa[show lg=s.group by rw[bP]]at h8
        exact zAM.keep t fun _ _=>rfl,by
        have t:zAY aS (.slice dp s.data.length dc) s.data:=by have h8:=dg.o.1;rwa[show sd=s.data by rw[bP]]at h8
        exact zAM.keep t fun _ _=>rfl,fun k p=>by have h8:=(dg.o.2 k p).1;have h7:=gj.o;omega,fun k p e=>by
        have h8:=(dg.o.2 k e).1;rcases p with p|p
        ·omega
        ·have h7:=cm.o.2.1 k p;omega⟩)
       have fp:=zh (fun q=>show ROS w (FSnd wr.heap.size (.slice X s.group.length V) (.slice dp s.data.length dc)) j r pre own (aS.drewN q) Y (zAH.none0 nodes)from df.o.more (du.o.trans (zAb aS q)) fun k p=>.inr (by
        show wr.heap.size≤k∧k<aS.heap.size
        rcases p with p|p|p
        ·omega
        ·have h7:=cm.o.2.1 k p;omega
        ·have h8:=dg.o.2 k p;omega))
       have u0:=fun q=>(HU.o q).1;have u1:=fun q=>(HU.o q).2;clear am ay aF aA dk h1 h2 h3 en et bP;go_wp2_with fail;refine aG.o.mono ?_;rintro e dt ⟨rfl,q,rfl⟩;have u0:=u0 q;have u1:=u1 q;have aM:=zh (fp.o q);have G:=zh (fq.o q);clear aG;generalize dS:aS.drewN q=W7 at *;generalize gF:wr.heap.size=U at *;clear dS gF u2;go_wp2_with fail;obtain⟨v0,L0,ck,aH⟩:=ros_ref aM.o;have C:=zh (zCy aH (zCS pre));rw[zBy]at C;have aB:=zh aM.o.okD;have aI:=zFI aM.o.okD (zAm (nm pre));clear aH;cases hg:Sat.get (zAm (nm pre)) Y.files with
       | none =>
        have c:li=(Y,0,true,zAH.none0 nodes):=ag.o.symm.trans (zE3 hg);have R:=ag.o;obtain⟨E,aC⟩:∃E,E=Y:=⟨_,rfl⟩;obtain⟨b,bX⟩:∃b,b=zAH.none0 nodes:=⟨_,rfl⟩;rw[←aC,←bX]at c;have ay:=zW (zAh (some s) b true=none→zAV D (nm pre) nodes=(E,3,zAH.none0 nodes)) (fun hj=>by have t:=aY.o F.o P.o Q.o;rw[c]at t;exact t rfl hj);have aF:=zW (∀M,zAh (some s) b true=some (false,M)→zAV D (nm pre) nodes=(E,0,M)) (fun M hj=>by have t:=aW.o M F.o P.o Q.o;rw[c]at t;exact t rfl hj);have aA:=zW (∀M,zAh (some s) b true=some (true,M)→zAV D (nm pre) nodes=((zAT E (nm pre) M).1,(zAT E (nm pre) M).2,M)) (fun M hj=>by have t:=aV.o M F.o P.o Q.o;rw[c]at t;exact t rfl hj);have az:=zh (zCR (D:=Y) (D':=E) (pre:=nm pre) (M:=zAH.none0 nodes) (M':=b) aB.o al.o (show(zAH.none0 nodes).entries=[]from rfl) (R.trans c));rw[hg]at C;have cA:=zW (ROS w (FSnd U (.slice X s.group.length V) (.slice dp s.data.length dc)) j r pre own W7 E b) (by rw[aC,bX];exact aM.o);clear hg aI c R aC bX;go_wp2_with fail;refine C.o.mono ?_;rintro e WT ⟨v3,rfl,-,-,A⟩;have aa:=zh (cA.o.next A);have G:=zW (Snd w WT U (.slice X s.group.length V) (.slice dp s.data.length dc) s) (G.o.same (aM.o.same A));clear A C;rw[show zDa (none:Option zAS)=7 from rfl];obtain⟨cN,cL,cM,d⟩:=aa.o.cells;have c0:=zAd d;have c7:=zAG d (i:=7) rfl;have f7:=zAE d 7;have y0:=zAd G.o.1;clear d
        by_cases ar:s.number<b.number
        ·have HR:=zh (ay.o (show zAh (some s) b true=none by unfold zAh;exact(if_neg (by omega)).trans (if_pos ar)));have a:=zh (fun q=>zAi (aa.o.next (zAb WT q)) HR.o (by decide));have d0:decide ((s.number:Int)<(b.number:Int))=true:=by simp;omega
         have bc:decide (s.number<b.number)=true:=by simp;omega
         clear ar c7 f7;go_wp2_with fail
         go_quiet (fail)
         go_wp2_with fail
         go_ret2
         exact a.o _
        ·have d0:decide ((s.number:Int)<(b.number:Int))=false:=by simp;omega
         have bc:decide (s.number<b.number)=false:=by simp;omega
         have ba:=zh (fun q=>ros_data (F':=fun k=>k=U∨(Value.slice X s.group.length V).ownBlock=some k) (aa.o.next (zAb WT q)) (v2:=.slice dp s.data.length dc) (zAY.below G.o.2.2.1 (zAb WT q)) (fun k p=>⟨.inr (.inr p),G.o.2.2.2.1 k p⟩) (fun k p=>⟨p.elim .inl fun h=>.inr (.inl h),G.o.2.2.2.2 k p⟩) (Nat.le_trans co.o.2.1 (by decide)));go_wp2_with fail
         go_quiet (fail)
         go_wp2_with fail;generalize bd:(World.setCell _ _ _)=WD;have aZ:=zW (ROS w (fun k=>k=U∨(Value.slice X s.group.length V).ownBlock=some k) j r pre own WD E {b with data:=s.data}) (by rw[←bd];exact(ba.o _).1);have bj:∀k,(FSnd U (.slice X s.group.length V) (.slice dp s.data.length dc)) k→WD.heap[k]?=WT.heap[k]?:=fun k p=>by rw[←bd];exact(ba.o _).2 k p
         have HX:=zh ((bj U (.inl rfl)).trans G.o.1);have HG:=zW (zBg WD (.slice X s.group.length V) s.group) (zAM.keep G.o.2.1 fun k p=>bj k (.inr (.inl p)));obtain⟨fD,fB,fC,ab⟩:=aZ.o.cells;have c0:WD.cell? ⟨j,0,none⟩=some (.int .i64 (b.number:Int)):=zAd ab;have z0:=zAd HX.o;have z1:=zAn HX.o;have z2:=zAo HX.o;clear ab c7 f7 y0 bj bd ba
         by_cases ad:b.number<s.number
         ·have ac:=zW (zAh (some s) b true=some (true,b.rebase s)) (by unfold zAh;exact if_pos ad);have d1:decide ((b.number:Int)<(s.number:Int))=true:=by simp;omega
          have bW:decide (b.number<s.number)=true:=by simp;omega
          have bp:=aA.o _ ac.o;have bH:=zh (fun q=>ros_stands (aZ.o.next (zAb WD q)) (n2:=s.number) (t2:=s.term) (g2:=s.group) ad (show(⟨s.number,s.term,s.group,s.data⟩:zC8).OK from co.o.1) (pg:=X) (cg:=V) (zAM.keep HG.o fun _ _=>rfl) (fun k p=>.inr p));have Z:=fun q=>And.intro (show(WD.drewN q).cell? ⟨U,0,none⟩=_ from z0) (And.intro (show(WD.drewN q).cell? ⟨U,1,none⟩=_ from z1) (show(WD.drewN q).cell? ⟨U,2,none⟩=_ from z2));have HZ:=zh Z;clear ad ar Z;go_wp2_with fail
          go_quiet (fail)
          generalize av:World.drewN WD _=WX;have aT:=zW (Calls prog 92 #[.pointer (some ⟨j,0,none⟩),.agg #[.int .i64 (s.number:Int),.int .i64 s.term,.slice X s.group.length V]] WX fun e w'=>e=.returned (.tuple #[])∧ROS w (fun k=>k=U∨(Value.slice X s.group.length V).ownBlock=some k) j r pre own w' E (b.rebase s)∧Same _ WX w') (by rw[←av];exact bH.o _);have z0:WX.cell? ⟨U,0,none⟩=some (.int .i64 (s.number:Int)):=by rw[←av];exact(HZ.o _).1
          have z1:WX.cell? ⟨U,1,none⟩=some (.int .i64 s.term):=by rw[←av];exact(HZ.o _).2.1
          have z2:WX.cell? ⟨U,2,none⟩=some (.slice X s.group.length V):=by rw[←av];exact(HZ.o _).2.2
          clear av c0 bH HZ;go_wp2_with fail;refine aT.o.mono ?_;rintro e w7 ⟨rfl,ah,-⟩;have cw:=zh ah;clear ah aT z0 z1 z2;go_wp2_with fail;cases ak:zAT E (nm pre) (b.rebase s)with
          | mk D4 e4 =>
           have J:=zh (zGZ cw.o (Nat.le_trans (zEC b s) az.o));rw[ak]at J;have I:=bp;rw[ak]at I;have I:=zh I;clear ak
           by_cases ai:e4=0
           ·subst ai;go_wp2_with fail;refine J.o.mono ?_;rintro e w9 ⟨rfl,N,ae⟩;have a:=zh (zBb N I.o);clear N ae J;go_wp2_with fail
            go_ret2
            exact a.o
           ·have cj:((e4:Int) != 0)=true:=by simp;omega
            have bq:=zh ai;clear ai;go_wp2_with fail;refine J.o.mono ?_;rintro e w9 ⟨rfl,N,ae⟩;have a:=zh (zAi N I.o bq.o);clear N ae J;go_wp2_with fail
            go_ret2
            exact a.o
         ·have ac:=zW (zAh (some s) b true=some (true,{b with data:=s.data})) (by unfold zAh;exact(if_neg ad).trans (if_neg ar));have d1:decide ((b.number:Int)<(s.number:Int))=false:=by simp;omega
          have bW:decide (b.number<s.number)=false:=by simp;omega
          clear ad ar;go_wp2_with fail
          go_quiet (fail)
          have bp:=aA.o _ ac.o;go_wp2_with fail;generalize cQ:(World.drewN _ _)=WQ;have dH:=zW (ROS w _ j r pre own WQ E _) (by rw[←cQ];exact aZ.o.next (zAb WD _));clear cQ c0 z0 z1 z2;cases ak:zAT E (nm pre) {b with data:=s.data}with
          | mk D4 e4 =>
           have J:=zh (zGZ dH.o az.o);rw[ak]at J;have I:=bp;rw[ak]at I;have I:=zh I;clear ak
           by_cases ai:e4=0
           ·subst ai;go_wp2_with fail;refine J.o.mono ?_;rintro e w9 ⟨rfl,N,ae⟩;have a:=zh (zBb N I.o);clear N ae J;go_wp2_with fail
            go_ret2
            exact a.o
           ·have cj:((e4:Int) != 0)=true:=by simp;omega
            have bq:=zh ai;clear ai;go_wp2_with fail;refine J.o.mono ?_;rintro e w9 ⟨rfl,N,ae⟩;have a:=zh (zAi N I.o bq.o);clear N ae J;go_wp2_with fail
            go_ret2
            exact a.o
       | some f =>
        have bn:f.data.length≤1073741824:=by rw[hg]at aI;exact aI
        have bT:=zh (zFp (M:=zAH.none0 nodes) hg);have cz:=zh (fun M'=>readLog_ok (M:=zAH.none0 nodes) (M':=M') hg);rw[hg]at C;clear hg aI;go_wp2_with fail;refine C.o.mono ?_;rintro e w3 ⟨v3,rfl,bl,dY,A⟩;have cl:=zh (aM.o.next A);have G:=zW (Snd w w3 U (.slice X s.group.length V) (.slice dp s.data.length dc) s) (G.o.same (aM.o.same A));have bl:zAk w3 5 v3 f.data:=bl;obtain⟨pb,cb,rfl,bK⟩:=zAN bl;have cJ:=zh (rscan_calls bl.has bK bn);clear A bl dY bK C;have fQ:=scan_le f.data;generalize bh:f.data.length=ax at *;rw[show ∀f:zAS,zDa (some f)=0 from fun _=>rfl];go_wp2_with fail;refine cJ.o.mono ?_;rintro e w4 ⟨v4,vs,rfl,aw,ca,cp⟩;have aL:=zW (ROS w (fun k=>(FSnd U (.slice X s.group.length V) (.slice dp s.data.length dc)) k∨(v4.ownBlock=some k∨∃u∈vs,u.ownBlock=some k)) j r pre own w4 Y (zAH.none0 nodes)) (cl.o.more cp fun k p=>by
         rcases p with p|p|⟨u,hu,p⟩
         ·exact .inl p
         ·exact .inr ⟨ca.1 k p,OwnR.lt aw.row p⟩
         ·refine .inr ⟨ca.2 u hu k p,?_⟩;obtain⟨i,hi,rfl⟩:=List.getElem_of_mem hu;have dV:i<(zDv f.data).1.length:=by rw[←aw.len];exact hi
          exact OwnR.lt (aw.has i _ _ (List.getElem?_eq_getElem hi) (List.getElem?_eq_getElem dV)) p)
        have G:=zW (Snd w w4 U (.slice X s.group.length V) (.slice dp s.data.length dc) s) (G.o.same (cl.o.same cp));have bS:=zh aw;have cH:=zW (∀x∈(zDv f.data).1,x.length≤1073741824) fun x hx=>scanJ_row bn bh hx;clear aw ca cp cJ cl;obtain⟨pr,cr,fc⟩:=OwnR.shape bS.o.row;generalize hq:(zDv f.data).2=q at *;generalize bi:(zDv f.data).1=rows at *;have gK:rows.length≤1073741824:=zFt bn bh bi;generalize cV:rows.length=n at *;have br:=zh cV;subst fc;clear hq bi cV bh
        by_cases K:n=0
        ·have cZ:rows=[]:=List.eq_nil_of_length_eq_zero (by rw[br.o,K]);have c:li=(Y,3,false,zAH.none0 nodes):=ag.o.symm.trans (bT.o (by rw[cZ];rfl));have a:=zh (zAi aL.o (show zAV D (nm pre) nodes=(Y,3,zAH.none0 nodes) by have t:=bF.o F.o P.o Q.o;rw[c]at t;exact t (show(3:Nat)≠0 by decide)) (by decide));have e0:((n:Int)==0)=true:=by simp;omega
         clear cZ K c;go_wp2_with fail
         go_ret2
         exact a.o
        ·have e0:((n:Int)==0)=false:=by simp;omega
         have cG:=zh K;clear K;obtain⟨S,hN,bI,cO,cP⟩:=ros_new aL.o;have dK:=zh cP;clear cP;have cy:=zh hN;have bG:=zh bI;have cB:=zh cO;have cF:=zh (fun k p=>aL.o.fj (k:=k) p);clear hN bI cO;go_wp2_with fail
         go_loopw [23] (fun i wr=>∃(k:Nat) (Mk:zAH),k≤n∧i=.int .i64 k∧(k=0→Mk=zAH.none0 nodes)∧Mk.entries.length≤k∧zA4 (fun k=>S k∨w4.heap.size≤k) wr j r pre Mk∧Chg (fun k=>S k∨w4.heap.size≤k) w4 wr∧zCC (zAH.none0 nodes) rows=restJ k Mk (rows.drop k)) (fun i _=>n-(intOf i).toNat)
         case atStart=>exact⟨0,zAH.none0 nodes,Nat.zero_le _,rfl,fun _=>rfl,Nat.zero_le _,cy.o.wide fun _ h=>.inl h,Chg.refl _ _,rfl⟩
         case round =>
          clear cy e0;obtain⟨k,Mk,p,rfl,bv,cT,hN,hC,aj⟩:=hrel;have af:∀x,(fun k=>(FSnd U (.slice X s.group.length V) (.slice dp s.data.length dc)) k∨((Value.slice pr n cr).ownBlock=some k∨∃u∈vs,u.ownBlock=some k)) x→wr.heap[x]?=w4.heap[x]?:=fun x hx=>hC.block x (aL.o.flt hx) fun e=>e.elim (fun e=>(bG.o x e).2 hx) fun e=>by have:=aL.o.flt hx;omega
          by_cases ad:k<n
          ·have aQ:k<rows.length:=by rw[br.o];exact ad
           rw[List.drop_eq_getElem_cons aQ,restJ_cons]at aj;have aP:=bS.o.keepJ (w':=wr) fun x hx=>af x (.inr hx);have bg:k<vs.length:=by rw[aP.len];exact aQ
           have aR:=aP.has k _ _ (List.getElem?_eq_getElem bg) (List.getElem?_eq_getElem aQ);have aD:∃g,pr=some ⟨g,0,none⟩∧wr.cell? ⟨g,k,none⟩=some vs[k]:=by
            rcases aP.row.2 with⟨-,h0⟩|⟨g,gz,cur,e,-⟩
            ·omega
            ·refine⟨g,?_,?_⟩
             ·simp only[Value.slice.injEq]at e;exact e.1
             ·have hc:=aP.row.cells (g:=g) (by rw[e];rfl) k _ (List.getElem?_eq_getElem bg);rwa[add_zero]at hc
           obtain⟨g,rfl,aD⟩:=aD;have bm:=cH.o _ (List.getElem_mem aQ);obtain⟨px,cx,cc,bY⟩:=zAN aR;have bD:∀y,vs[k].ownBlock=some y→(fun k=>(FSnd U (.slice X s.group.length V) (.slice dp s.data.length dc)) k∨((Value.slice (some ⟨g,0,none⟩) n cr).ownBlock=some k∨∃u∈vs,u.ownBlock=some k)) y:=fun y hy=>.inr (.inr ⟨vs[k],List.getElem_mem bg,hy⟩);rw[cc]at aR aD bD;have an:=zh (rreads_calls hN (decide (k=0)) (fun hf=>by rw[bv (by simpa using hf)];rfl) aR.has bY bm (fun y hy=>OwnR.lt aR hy) (fun y hy=>cF.o y (bD y hy)) (by omega));have HC:=zh hC;have gH:((k:Int)==0)=decide (k=0):=by
            by_cases h0:k=0
            ·subst h0;rfl
            ·rw[decide_eq_false h0];simp;omega
           cases hc:zBe (decide (k=0)) Mk rows[k]with
           | none =>
            rw[hc]at aj;rw[hc]at an;have c:li=(Y,3,false,zAH.none0 nodes):=ag.o.symm.trans (bT.o aj);have aX:=zW (zAV D (nm pre) nodes=(Y,3,zAH.none0 nodes)) (by have t:=bF.o F.o P.o Q.o;rw[c]at t;exact t (show(3:Nat)≠0 by decide));clear hN hC aj aP aR bm hc cc bg bv c af bY bD;generalize rows[k]=x at *;generalize x.length=m at *;generalize decide (k=0)=fk at *;clear aQ;go_wp2_with fail;refine an.o.mono ?_;rintro e w6 ⟨be,bZ⟩;obtain rfl:e=.returned (.bool false):=bZ;have a:=zh (ropened_bad2 (pre:=pre) (dK.o w6 (HC.o.trans be fun _ _ h=>h)) aX.o (by decide));clear be an;go_wp2_with fail
            go_ret2
            exact a.o
           | some Mn =>
            rw[hc]at aj;rw[hc]at an;have dX:=rec1_len hc;have dL:=zh (show Mn.entries.length≤k+1 by omega);have dN:=zW (zCC (zAH.none0 nodes) rows=restJ (k+1) Mn (rows.drop (k+1))) aj;clear hN hC aj aP aR bm hc cc bg bv af bY bD dX cT;generalize rows[k]=x at *;generalize x.length=m at *;generalize decide (k=0)=fk at *;clear aQ;go_wp2_with fail;refine an.o.mono ?_;rintro e w6 ⟨be,bZ,bo⟩;subst bZ;have a:=zh (And.intro (bo.wide fun y hy=>hy.elim id fun h=>.inr (Nat.le_trans HC.o.size h)) (HC.o.trans be fun _ _ h=>h));clear be bo;go_wp2_with fail;go_roundw
            case rel=>exact⟨k+1,Mn,by omega,by go_num,fun h=>by omega,dL.o,a.o.1,a.o.2,dN.o⟩
            case measure=>simp[intOf];omega
          ·have dW:k=n:=by omega
           subst dW;have bN:zCC (zAH.none0 nodes) rows=some Mk:=by
            rw[aj,List.drop_of_length_le (by rw[br.o];exact Nat.le_refl _)];cases k with
            | zero=>exact absurd rfl cG.o
            | succ k=>rfl
           have aK:=zh (cz.o Mk bN);have bU:=zW (ROS w (FSnd U (.slice X s.group.length V) (.slice dp s.data.length dc)) j r pre own wr Y Mk) ((cB.o wr Mk hN hC).1.less fun _ h=>.inl h);have G:=zW (Snd w wr U (.slice X s.group.length V) (.slice dp s.data.length dc) s) (G.o.same (fun x hx=>af x (.inl hx)));clear hN hC aj bN bS aL cH bT cz cG br bv af cB bG cF cT;generalize dQ:Mk=b at *;clear dQ
           by_cases cd:q<ax
           ·have dq:decide ((q:Int)<(ax:Int))=true:=by simp;omega
            have dP:decide (q<ax)=true:=by simp;omega
            cases bk:Y.truncate (zAm (nm pre)) (q:Int)with
            | mk Dt e1t =>
             have aO:=zW (Calls prog 90 #[.pointer (some ⟨r,0,none⟩),.string (zCS pre),.int .i64 (q:Int)] wr fun e w'=>e=.returned (.int .i64 (e1t:Int))∧ROS w (FSnd U (.slice X s.group.length V) (.slice dp s.data.length dc)) j r pre own w' Dt b∧Same (FSnd U (.slice X s.group.length V) (.slice dp s.data.length dc)) wr w') (by
              have:=zFT (Re:=Y.truncate (nm (zCS pre)) (q:Int)) bU.o (Below.refl _ _) fun v L bQ hR=>rtrunc_calls hR (zCS pre) (by rw[dn];omega) (q:Int) (by omega) (by omega);rwa[zBy,bk]at this)
             by_cases aq:e1t=0
             ·subst aq;cases ce:Dt.sync [zAm (nm pre)]with
              | mk E e2t =>
               have hT:tornOff Y (zAm (nm pre)) q ax=(E,e2t):=by unfold tornOff;rw[if_pos cd,bk,if_neg (by simp)];exact ce
               have hR:=aK.o;rw[hT]at hR;have bs:=zh (fun W (h:ROS w (FSnd U (.slice X s.group.length V) (.slice dp s.data.length dc)) j r pre own W Dt b)=>show Calls prog 91 #[.pointer (some ⟨r,0,none⟩),.string (zCS pre)] W fun e w'=>e=.returned (.int .i64 (e2t:Int))∧ROS w (FSnd U (.slice X s.group.length V) (.slice dp s.data.length dc)) j r pre own w' E b∧Same (FSnd U (.slice X s.group.length V) (.slice dp s.data.length dc)) W w' by
                have:=zFT (Re:=Dt.sync [nm (zCS pre)]) h (Below.refl _ _) fun v L bQ hR=>zDc hR (zCS pre) (by rw[dn];omega);rwa[zBy,ce]at this)
               clear bk ce hT aK
               by_cases aJ:e2t=0
               ·subst aJ;have c:li=(E,0,false,b):=ag.o.symm.trans hR;have R:=ag.o;have ay:=zW (zAh (some s) b false=none→zAV D (nm pre) nodes=(E,3,zAH.none0 nodes)) (fun hj=>by have t:=aY.o F.o P.o Q.o;rw[c]at t;exact t rfl hj);have aF:=zW (∀M,zAh (some s) b false=some (false,M)→zAV D (nm pre) nodes=(E,0,M)) (fun M hj=>by have t:=aW.o M F.o P.o Q.o;rw[c]at t;exact t rfl hj);have aA:=zW (∀M,zAh (some s) b false=some (true,M)→zAV D (nm pre) nodes=((zAT E (nm pre) M).1,(zAT E (nm pre) M).2,M)) (fun M hj=>by have t:=aV.o M F.o P.o Q.o;rw[c]at t;exact t rfl hj);have az:=zh (zCR (D:=Y) (D':=E) (pre:=nm pre) (M:=zAH.none0 nodes) (M':=b) aB.o al.o (show(zAH.none0 nodes).entries=[]from rfl) (R.trans c));clear c R hR;go_wp2_with fail;refine aO.o.mono ?_;rintro e w6 ⟨rfl,au,aU⟩;have ap:=zh (bs.o w6 au);have G:=zW (Snd w w6 U (.slice X s.group.length V) (.slice dp s.data.length dc) s) (G.o.same aU);clear au aU aO bs;go_wp2_with fail;refine ap.o.mono ?_;rintro e WT ⟨rfl,ah,bO⟩;have aa:=zh ah;have G:=zW (Snd w WT U (.slice X s.group.length V) (.slice dp s.data.length dc) s) (G.o.same bO);clear ah bO ap;obtain⟨cN,cL,cM,d⟩:=aa.o.cells;have c0:=zAd d;have c7:=zAG d (i:=7) rfl;have f7:=zAE d 7;have y0:=zAd G.o.1;clear d
                by_cases ar:s.number<b.number
                ·have HR:=zh (ay.o (show zAh (some s) b false=none by unfold zAh;exact(if_neg (by omega)).trans (if_pos ar)));have a:=zh (fun q=>zAi (aa.o.next (zAb WT q)) HR.o (by decide));have d0:decide ((s.number:Int)<(b.number:Int))=true:=by simp;omega
                 have bc:decide (s.number<b.number)=true:=by simp;omega
                 clear ar c7 f7;go_wp2_with fail
                 go_quiet (fail)
                 go_wp2_with fail
                 go_ret2
                 exact a.o _
                ·have d0:decide ((s.number:Int)<(b.number:Int))=false:=by simp;omega
                 have bc:decide (s.number<b.number)=false:=by simp;omega
                 have ba:=zh (fun q=>ros_data (F':=fun k=>k=U∨(Value.slice X s.group.length V).ownBlock=some k) (aa.o.next (zAb WT q)) (v2:=.slice dp s.data.length dc) (zAY.below G.o.2.2.1 (zAb WT q)) (fun k p=>⟨.inr (.inr p),G.o.2.2.2.1 k p⟩) (fun k p=>⟨p.elim .inl fun h=>.inr (.inl h),G.o.2.2.2.2 k p⟩) (Nat.le_trans co.o.2.1 (by decide)));go_wp2_with fail
                 go_quiet (fail)
                 go_wp2_with fail;generalize bd:(World.setCell _ _ _)=WD;have aZ:=zW (ROS w (fun k=>k=U∨(Value.slice X s.group.length V).ownBlock=some k) j r pre own WD E {b with data:=s.data}) (by rw[←bd];exact(ba.o _).1);have bj:∀k,(FSnd U (.slice X s.group.length V) (.slice dp s.data.length dc)) k→WD.heap[k]?=WT.heap[k]?:=fun k p=>by rw[←bd];exact(ba.o _).2 k p
                 have HX:=zh ((bj U (.inl rfl)).trans G.o.1);have HG:=zW (zBg WD (.slice X s.group.length V) s.group) (zAM.keep G.o.2.1 fun k p=>bj k (.inr (.inl p)));obtain⟨fD,fB,fC,ab⟩:=aZ.o.cells;have c0:WD.cell? ⟨j,0,none⟩=some (.int .i64 (b.number:Int)):=zAd ab;have z0:=zAd HX.o;have z1:=zAn HX.o;have z2:=zAo HX.o;clear ab c7 f7 y0 bj bd ba
                 by_cases ad:b.number<s.number
                 ·have ac:=zW (zAh (some s) b false=some (true,b.rebase s)) (by unfold zAh;exact if_pos ad);have d1:decide ((b.number:Int)<(s.number:Int))=true:=by simp;omega
                  have bW:decide (b.number<s.number)=true:=by simp;omega
                  have bp:=aA.o _ ac.o;have bH:=zh (fun q=>ros_stands (aZ.o.next (zAb WD q)) (n2:=s.number) (t2:=s.term) (g2:=s.group) ad (show(⟨s.number,s.term,s.group,s.data⟩:zC8).OK from co.o.1) (pg:=X) (cg:=V) (zAM.keep HG.o fun _ _=>rfl) (fun k p=>.inr p));have Z:=fun q=>And.intro (show(WD.drewN q).cell? ⟨U,0,none⟩=_ from z0) (And.intro (show(WD.drewN q).cell? ⟨U,1,none⟩=_ from z1) (show(WD.drewN q).cell? ⟨U,2,none⟩=_ from z2));have HZ:=zh Z;clear ad ar Z;go_wp2_with fail
                  go_quiet (fail)
                  generalize av:World.drewN WD _=WX;have aT:=zW (Calls prog 92 #[.pointer (some ⟨j,0,none⟩),.agg #[.int .i64 (s.number:Int),.int .i64 s.term,.slice X s.group.length V]] WX fun e w'=>e=.returned (.tuple #[])∧ROS w (fun k=>k=U∨(Value.slice X s.group.length V).ownBlock=some k) j r pre own w' E (b.rebase s)∧Same _ WX w') (by rw[←av];exact bH.o _);have z0:WX.cell? ⟨U,0,none⟩=some (.int .i64 (s.number:Int)):=by rw[←av];exact(HZ.o _).1
                  have z1:WX.cell? ⟨U,1,none⟩=some (.int .i64 s.term):=by rw[←av];exact(HZ.o _).2.1
                  have z2:WX.cell? ⟨U,2,none⟩=some (.slice X s.group.length V):=by rw[←av];exact(HZ.o _).2.2
                  clear av c0 bH HZ;go_wp2_with fail;refine aT.o.mono ?_;rintro e w7 ⟨rfl,ah,-⟩;have cw:=zh ah;clear ah aT z0 z1 z2;go_wp2_with fail;cases ak:zAT E (nm pre) (b.rebase s)with
                  | mk D4 e4 =>
                   have J:=zh (zGZ cw.o (Nat.le_trans (zEC b s) az.o));rw[ak]at J;have I:=bp;rw[ak]at I;have I:=zh I;clear ak
                   by_cases ai:e4=0
                   ·subst ai;go_wp2_with fail;refine J.o.mono ?_;rintro e w9 ⟨rfl,N,ae⟩;have a:=zh (zBb N I.o);clear N ae J;go_wp2_with fail
                    go_ret2
                    exact a.o
                   ·have cj:((e4:Int) != 0)=true:=by simp;omega
                    have bq:=zh ai;clear ai;go_wp2_with fail;refine J.o.mono ?_;rintro e w9 ⟨rfl,N,ae⟩;have a:=zh (zAi N I.o bq.o);clear N ae J;go_wp2_with fail
                    go_ret2
                    exact a.o
                 ·have ac:=zW (zAh (some s) b false=some (false,{b with data:=s.data})) (by unfold zAh;exact(if_neg ad).trans (if_neg ar));have d1:decide ((b.number:Int)<(s.number:Int))=false:=by simp;omega
                  have bW:decide (b.number<s.number)=false:=by simp;omega
                  clear ad ar;go_wp2_with fail
                  go_quiet (fail)
                  have HR:=zh (aF.o _ ac.o);have a:=zh (fun q=>zBb (aZ.o.next (zAb WD q)) HR.o);go_wp2_with fail
                  go_ret2
                  exact a.o _
               ·have cU:((e2t:Int) != 0)=true:=by simp;omega
                have c:li=(E,e2t,false,b):=ag.o.symm.trans hR;have aX:=zW (zAV D (nm pre) nodes=(E,e2t,zAH.none0 nodes)) (by have t:=bF.o F.o P.o Q.o;rw[c]at t;exact t aJ);have cD:=zh aJ;clear c hR aJ;go_wp2_with fail;refine aO.o.mono ?_;rintro e w6 ⟨rfl,au,aU⟩;have ap:=zh (bs.o w6 au);clear au aU aO bs;go_wp2_with fail;refine ap.o.mono ?_;rintro e WT ⟨rfl,ah,bO⟩;have a:=zh (zAi ah aX.o cD.o);clear ah bO ap;go_wp2_with fail
                go_ret2
                exact a.o
             ·have hT:tornOff Y (zAm (nm pre)) q ax=(Dt,e1t):=by unfold tornOff;rw[if_pos cd,bk,if_pos aq]
              have hR:=aK.o;rw[hT]at hR;have c:li=(Dt,e1t,false,b):=ag.o.symm.trans hR;have aX:=zW (zAV D (nm pre) nodes=(Dt,e1t,zAH.none0 nodes)) (by have t:=bF.o F.o P.o Q.o;rw[c]at t;exact t aq);have cU:((e1t:Int) != 0)=true:=by simp;omega
              have gG:((e1t:Int)==0)=false:=by simp;omega
              have cC:=zh aq;clear bk hT hR aK c aq;go_wp2_with fail;refine aO.o.mono ?_;rintro e w6 ⟨rfl,au,aU⟩;have a:=zh (zAi au aX.o cC.o);clear au aU aO;go_wp2_with fail
              go_ret2
              exact a.o
           ·have dq:decide ((q:Int)<(ax:Int))=false:=by simp;omega
            have dP:decide (q<ax)=false:=by simp;omega
            have hT:tornOff Y (zAm (nm pre)) q ax=(Y,0):=by unfold tornOff;rw[if_neg cd]
            have hR:=aK.o;rw[hT]at hR;have c:li=(Y,0,false,b):=ag.o.symm.trans hR;have R:=ag.o;obtain⟨E,aC⟩:∃E,E=Y:=⟨_,rfl⟩;rw[←aC]at c;have ay:=zW (zAh (some s) b false=none→zAV D (nm pre) nodes=(E,3,zAH.none0 nodes)) (fun hj=>by have t:=aY.o F.o P.o Q.o;rw[c]at t;exact t rfl hj);have aF:=zW (∀M,zAh (some s) b false=some (false,M)→zAV D (nm pre) nodes=(E,0,M)) (fun M hj=>by have t:=aW.o M F.o P.o Q.o;rw[c]at t;exact t rfl hj);have aA:=zW (∀M,zAh (some s) b false=some (true,M)→zAV D (nm pre) nodes=((zAT E (nm pre) M).1,(zAT E (nm pre) M).2,M)) (fun M hj=>by have t:=aV.o M F.o P.o Q.o;rw[c]at t;exact t rfl hj);have az:=zh (zCR (D:=Y) (D':=E) (pre:=nm pre) (M:=zAH.none0 nodes) (M':=b) aB.o al.o (show(zAH.none0 nodes).entries=[]from rfl) (R.trans c));have aa:=zW (ROS w (FSnd U (.slice X s.group.length V) (.slice dp s.data.length dc)) j r pre own wr E b) (by rw[aC];exact bU.o);clear hT hR aK c R aC bU;go_wp2_with fail;generalize dT:wr=WT at *;clear dT;obtain⟨cN,cL,cM,d⟩:=aa.o.cells;have c0:=zAd d;have c7:=zAG d (i:=7) rfl;have f7:=zAE d 7;have y0:=zAd G.o.1;clear d
            by_cases ar:s.number<b.number
            ·have HR:=zh (ay.o (show zAh (some s) b false=none by unfold zAh;exact(if_neg (by omega)).trans (if_pos ar)));have a:=zh (fun q=>zAi (aa.o.next (zAb WT q)) HR.o (by decide));have d0:decide ((s.number:Int)<(b.number:Int))=true:=by simp;omega
             have bc:decide (s.number<b.number)=true:=by simp;omega
             clear ar c7 f7;go_wp2_with fail
             go_quiet (fail)
             go_wp2_with fail
             go_ret2
             exact a.o _
            ·have d0:decide ((s.number:Int)<(b.number:Int))=false:=by simp;omega
             have bc:decide (s.number<b.number)=false:=by simp;omega
             have ba:=zh (fun q=>ros_data (F':=fun k=>k=U∨(Value.slice X s.group.length V).ownBlock=some k) (aa.o.next (zAb WT q)) (v2:=.slice dp s.data.length dc) (zAY.below G.o.2.2.1 (zAb WT q)) (fun k p=>⟨.inr (.inr p),G.o.2.2.2.1 k p⟩) (fun k p=>⟨p.elim .inl fun h=>.inr (.inl h),G.o.2.2.2.2 k p⟩) (Nat.le_trans co.o.2.1 (by decide)));go_wp2_with fail
             go_quiet (fail)
             go_wp2_with fail;generalize bd:(World.setCell _ _ _)=WD;have aZ:=zW (ROS w (fun k=>k=U∨(Value.slice X s.group.length V).ownBlock=some k) j r pre own WD E {b with data:=s.data}) (by rw[←bd];exact(ba.o _).1);have bj:∀k,(FSnd U (.slice X s.group.length V) (.slice dp s.data.length dc)) k→WD.heap[k]?=WT.heap[k]?:=fun k p=>by rw[←bd];exact(ba.o _).2 k p
             have HX:=zh ((bj U (.inl rfl)).trans G.o.1);have HG:=zW (zBg WD (.slice X s.group.length V) s.group) (zAM.keep G.o.2.1 fun k p=>bj k (.inr (.inl p)));obtain⟨fD,fB,fC,ab⟩:=aZ.o.cells;have c0:WD.cell? ⟨j,0,none⟩=some (.int .i64 (b.number:Int)):=zAd ab;have z0:=zAd HX.o;have z1:=zAn HX.o;have z2:=zAo HX.o;clear ab c7 f7 y0 bj bd ba
             by_cases ad:b.number<s.number
             ·have ac:=zW (zAh (some s) b false=some (true,b.rebase s)) (by unfold zAh;exact if_pos ad);have d1:decide ((b.number:Int)<(s.number:Int))=true:=by simp;omega
              have bW:decide (b.number<s.number)=true:=by simp;omega
              have bp:=aA.o _ ac.o;have bH:=zh (fun q=>ros_stands (aZ.o.next (zAb WD q)) (n2:=s.number) (t2:=s.term) (g2:=s.group) ad (show(⟨s.number,s.term,s.group,s.data⟩:zC8).OK from co.o.1) (pg:=X) (cg:=V) (zAM.keep HG.o fun _ _=>rfl) (fun k p=>.inr p));have Z:=fun q=>And.intro (show(WD.drewN q).cell? ⟨U,0,none⟩=_ from z0) (And.intro (show(WD.drewN q).cell? ⟨U,1,none⟩=_ from z1) (show(WD.drewN q).cell? ⟨U,2,none⟩=_ from z2));have HZ:=zh Z;clear ad ar Z;go_wp2_with fail
              go_quiet (fail)
              generalize av:World.drewN WD _=WX;have aT:=zW (Calls prog 92 #[.pointer (some ⟨j,0,none⟩),.agg #[.int .i64 (s.number:Int),.int .i64 s.term,.slice X s.group.length V]] WX fun e w'=>e=.returned (.tuple #[])∧ROS w (fun k=>k=U∨(Value.slice X s.group.length V).ownBlock=some k) j r pre own w' E (b.rebase s)∧Same _ WX w') (by rw[←av];exact bH.o _);have z0:WX.cell? ⟨U,0,none⟩=some (.int .i64 (s.number:Int)):=by rw[←av];exact(HZ.o _).1
              have z1:WX.cell? ⟨U,1,none⟩=some (.int .i64 s.term):=by rw[←av];exact(HZ.o _).2.1
              have z2:WX.cell? ⟨U,2,none⟩=some (.slice X s.group.length V):=by rw[←av];exact(HZ.o _).2.2
              clear av c0 bH HZ;go_wp2_with fail;refine aT.o.mono ?_;rintro e w7 ⟨rfl,ah,-⟩;have cw:=zh ah;clear ah aT z0 z1 z2;go_wp2_with fail;cases ak:zAT E (nm pre) (b.rebase s)with
              | mk D4 e4 =>
               have J:=zh (zGZ cw.o (Nat.le_trans (zEC b s) az.o));rw[ak]at J;have I:=bp;rw[ak]at I;have I:=zh I;clear ak
               by_cases ai:e4=0
               ·subst ai;go_wp2_with fail;refine J.o.mono ?_;rintro e w9 ⟨rfl,N,ae⟩;have a:=zh (zBb N I.o);clear N ae J;go_wp2_with fail
                go_ret2
                exact a.o
               ·have cj:((e4:Int) != 0)=true:=by simp;omega
                have bq:=zh ai;clear ai;go_wp2_with fail;refine J.o.mono ?_;rintro e w9 ⟨rfl,N,ae⟩;have a:=zh (zAi N I.o bq.o);clear N ae J;go_wp2_with fail
                go_ret2
                exact a.o
             ·have ac:=zW (zAh (some s) b false=some (false,{b with data:=s.data})) (by unfold zAh;exact(if_neg ad).trans (if_neg ar));have d1:decide ((b.number:Int)<(s.number:Int))=false:=by simp;omega
              have bW:decide (b.number<s.number)=false:=by simp;omega
              clear ad ar;go_wp2_with fail
              go_quiet (fail)
              have HR:=zh (aF.o _ ac.o);have a:=zh (fun q=>zBb (aZ.o.next (zAb WD q)) HR.o);go_wp2_with fail
              go_ret2
              exact a.o _
theorem oneB_short (b:Bs):(oneB b).length≤b.length:=by
 unfold oneB
 split
 ·unfold decB
  split
  ·rw[List.length_take,List.length_drop];omega
  ·exact Nat.zero_le _
 ·exact Nat.zero_le _
theorem loadB_short (o:Option zAS):(zEX o).length≤(zDC o).length:=by
 unfold zEX
 split
 ·exact oneB_short _
 ·exact Nat.zero_le _
theorem data_used {D:zAA}(h:Srt D.files)(n:Bs):(zDC (Sat.get n D.files)).length≤D.used:=by
 cases b:Sat.get n D.files with
 | none=>exact Nat.zero_le _
 | some f=>exact le_sum (f:=zAA.size) h b
theorem each1_less {D:zAA}(h:Srt D.files)(n:Bs):(zAA.each1 zAA.gRemove D n).1.used≤D.used∧Srt (zAA.each1 zAA.gRemove D n).1.files:=by
 unfold zAA.each1
 split
 ·exact⟨Nat.le_refl _,h⟩
 ·cases b:Sat.get n D.files with
  | none=>exact⟨Nat.le_refl _,h⟩
  | some f =>
   refine⟨?_,zCU h⟩
   show zBM zAA.size (del n D.files)≤zBM zAA.size D.files
   rw[zC0 h b];omega
theorem rid1_less {D:zAA}(h:Srt D.files)(n:Bs):(D.rid1 n).1.used≤D.used∧Srt (D.rid1 n).1.files:=by
 unfold zAA.rid1
 split
 ·show(zAA.each zAA.gRemove D [n]).1.used≤_∧Srt (zAA.each zAA.gRemove D [n]).1.files
  simp only[zAA.each]
  split
  ·exact each1_less h n
  ·exact each1_less h n
 ·exact⟨Nat.le_refl _,h⟩
theorem open_snp_le {D:zAA}{g:List Int}{pre:Bs}(h:Srt D.files){u:Nat}(k:D.used≤u)(O:OpensJ D pre g):(zEX (Sat.get (zBR pre) O.D2.files)).length≤u:=by
 have b:=rid1_less h (zAF (zAm pre));rw[O.h1]at b;have c:=rid1_less b.2 (zAF (zBR pre));rw[O.h2]at c;have d:=loadB_short (Sat.get (zBR pre) O.D2.files);have f:(zDC (Sat.get (zBR pre) O.D2.files)).length≤O.D2.used:=data_used c.2 (zBR pre);have i:O.D1.used≤D.used:=b.1;have j:O.D2.used≤O.D1.used:=c.1;omega
end Go.Proofs.YtapfnehdgailmaaGreat
