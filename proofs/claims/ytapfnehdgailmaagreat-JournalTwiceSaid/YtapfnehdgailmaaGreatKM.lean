/- What the program's functions and the document's do, and plain laws, for PJournalTwice. -/
import Derived.Test.YtapfnehdgailmaaGreatKA
import Derived.Test.YtapfnehdgailmaaGreatKC
import Derived.Test.YtapfnehdgailmaaGreatKD
import Derived.Test.YtapfnehdgailmaaGreatKE
import Derived.Test.YtapfnehdgailmaaGreatKI
import Derived.Test.YtapfnehdgailmaaGreatKJ
import Derived.Test.YtapfnehdgailmaaGreatKK
import Derived.Test.YtapfnehdgailmaaGreatKL
open Go.Proofs.Tryz
set_option maxRecDepth 100000
set_option maxHeartbeats 64000000
namespace Go.Proofs.YtapfnehdgailmaaGreat
open Go.RowKit Go.Sat Go.Maps
section
variable {w:World} {r:Nat} {v:Value} {L:List zAR} {own:Nat→Prop} {D:zAA}
theorem zAz.left {room:Nat}{b:Option Nat}(h:zAz w r v L own room b)(f:Option Nat):zAz (w.setCell ⟨r,2,none⟩ (.int .i64 (zFg f))) r v L own room f where
 cells:=zAC h.cells 2 _
 row:=h.row.keep fun k c=>set_other _ (h.ov k c).2
 data:=fun x d=>OwnR.keep (h.data x d) fun k c=>set_other _ (h.ob x d k c).2.1
 or:=h.or
 ov:=h.ov
 ob:=h.ob
 olt:=fun k c=>by
  have:=h.olt k c;simpa[World.setCell]using this
def crashK (k:Int)(x:zAR):Bs×zAT:=(x.n,zAA.crashF k x.f)
structure RCrash (w W:World)(r:Nat)(v:Value)(L:List zAR)(own:Nat→Prop)(D:zAA)(dr:Int)(k:Nat)(M:List zAR)(own':Nat→Prop):Prop where
 core:zAz W r v M own' D.room D.fuse
 len:M.length=L.length
 rest:M.drop k=L.drop k
 done:(M.take k).map zAR.key=(L.take k).map (crashK dr)
 chg:Chg own w W
 ext:∀j,own' j→own j∨w.heap.size≤j
theorem rcrash_calls (h:zAc w r v L own D)(G:Int)(h0:-9223372036854775808≤G)(h1:G≤9223372036854775807) :
  Calls prog 51 #[.pointer (some ⟨r,0,none⟩),.int .i64 G] w fun e w'=>e=.returned (.tuple #[])∧∃own' v' L',zAc w' r v' L' own' (D.crash G)∧Chg own w w'∧∀k,own' k→own k∨w.heap.size≤k:=by
 have bh:=h.fit;have H:=zh h;obtain⟨pv,cv,aH⟩:=h.slice;have aU:=zh h.at
 have aj:∀(k:Nat) (x:zAR),L[k]?=some x→x.f.data.length≤1073741824∧x.f.lasts≤x.f.data.length:=fun k x hx=>⟨h.len_le hx,by
  have hm:x.key∈D.files:=by rw[h.files];exact List.mem_map_of_mem (List.mem_of_getElem? hx)
  exact h.ok.lasts x.key hm⟩
 have aw:=zh aj;obtain⟨dn,bp⟩:∃dn:Nat,max 0 G=(dn:Int):=⟨(max 0 G).toNat,by omega⟩;have ah:(max 0 G).toNat=dn:=by omega
 have bo:dn≤9223372036854775807:=by omega
 have aV:=zh ah;have c1:=h.c1.trans (by rw[aH]);clear h aj ah;subst aH;generalize hN:L.length=N at *;have HN:=zh hN;clear hN
 go_enter func51,ntmps51
 go_wp2_with fail
 go_loopw [4] (fun i W=>∃(k:Nat) (M:List zAR) (own':Nat→Prop),k≤N∧i=.int .i64 k∧RCrash w W r (.slice pv N cv) L own D G k M own') (fun i _=>N-(intOf i).toNat)
 case atStart=>exact⟨0,L,own,Nat.zero_le _,rfl,⟨H.o.core,rfl,rfl,rfl,Chg.refl _ _,fun _ h=>.inl h⟩⟩
 case round =>
  obtain⟨k,M,own',hk,rfl,t⟩:=hrel
  by_cases bb:k<N
  ·have ao:k<L.length:=by rw[HN.o];exact bb
   obtain⟨x,hx⟩:∃x,L[k]?=some x:=⟨_,List.getElem?_eq_getElem ao⟩;have ab:M[k]?=some x:=by
    have h2:=congrArg (fun l=>l[0]?) t.rest;simp only[List.getElem?_drop,Nat.add_zero]at h2;rw[h2,hx]
   rcases aU.o with h0|⟨g,bm,e1,-,-⟩
   ·rw[h0]at ao;simp at ao
   cases e1;have ac:=t.core.at rfl ab;obtain⟨-,q,aX⟩:=ac;have Q:=t.core.c1;obtain⟨pb,cb,eb,bn⟩:=zDd (t.core.data x (List.mem_of_getElem? ab));rw[eb]at q;obtain⟨br,bs⟩:=aw.o k x hx;have Hr:=zh t;have Hx:=zh (And.intro hx ab);have au:=zh eb;clear t hx ab eb;generalize aO:x.f.data.length=mx at *;generalize aK:x.f.lasts=la at *;have aa:=zh aO;have al:=zh aK;clear aO aK;obtain⟨u,hu⟩:∃u:Nat,mx-la=u:=⟨_,rfl⟩;have bw:((mx:Int)-(la:Int))=(u:Int):=by omega
   go_wp2_with fail
   go_quiet (fail)
   -- region 6
   have aC:Below wr.heap.size wr (wr.drewN nq):=⟨rfl,rfl,rfl,Nat.le_refl _,fun _ _=>rfl⟩;have t:=Hr.o;have U:zAz (wr.drewN nq) r (.slice (some ⟨g,0,none⟩) N cv) M own' D.room D.fuse:=t.core.keep (Nat.le_refl _) fun _ _=>rfl;have af:Chg own w (wr.drewN nq):=t.chg.trans ((Chg.of_below aC).mono (T:=fun _=>False) fun _ _ h=>h) fun _ _ h=>h.elim;have ak:zAA.stays x.f G=la+dn%(u+1):=by
    unfold zAA.stays;rw[aV.o,aa.o,al.o,hu]
   obtain⟨d,ar⟩:∃d,la+dn%(u+1)=d:=⟨_,rfl⟩;have aN:=Nat.mod_lt dn (show 0<u+1 by omega);have Y:d≤mx:=by omega
   rw[ar]at ak;have aW:=zh (And.intro ak ar);have b:=zh U;have ad:=zh af;have av:=zh t.ext;clear t U af aC Q q aX;have bg:wr.heap.size=(wr.drewN nq).heap.size:=rfl;generalize wr.drewN nq=O at *;clear bg;have y:=zW (∀I,Below O.heap.size O I→I.cell? ⟨g,k*3+1,none⟩=some (.slice pb mx cb)∧I.cell? ⟨g,k*3+2,none⟩=some (.int .i64 (la:Int))∧I.frozen? ⟨g,k*3+1,none⟩=false∧I.frozen? ⟨g,k*3+2,none⟩=false) (fun I hb=>by
    have hW:=b.o.keep (w':=I) hb.size fun j s=>hb.block j (b.o.olt j s);have h3:=hW.at rfl Hx.o.2;exact⟨h3.2.1.trans (by rw[au.o]),h3.2.2.trans (by rw[al.o]),hW.free rfl _,hW.free rfl _⟩)
   have ax:=zW (∀I,Below O.heap.size O I→zAM I 1 (.slice pb d cb) d (zAQ (x.f.data.take d))) (fun I hb=>by
    have hW:=b.o.keep (w':=I) hb.size fun j s=>hb.block j (b.o.olt j s);have hd:=(hW.data x (List.mem_of_getElem? Hx.o.2)).has;rw[au.o]at hd;have hc:=zAY.cut hd (k:=d) (by rw[aa.o];exact Y) cb;unfold zAY at hc;rw[List.length_take,aa.o,Nat.min_eq_left Y]at hc;exact hc)
   have ae:=zh (show ∀R F,Below O.heap.size O R→OwnR R 5 1 F d (zAQ (x.f.data.take d))→(∀j,F.ownBlock=some j→O.heap.size≤j) →
     (R.setCell ⟨g,k*3+1,none⟩ F).cell? ⟨g,k*3+1,none⟩=some F∧(R.setCell ⟨g,k*3+1,none⟩ F).cell? ⟨g,k*3+2,none⟩=some (.int .i64 (la:Int))∧(R.setCell ⟨g,k*3+1,none⟩ F).frozen? ⟨g,k*3+2,none⟩=false∧(R.setCell ⟨g,k*3+1,none⟩ F).cell? ⟨r,1,none⟩=some (.slice (some ⟨g,0,none⟩) N cv) ∧
     RCrash w ((R.setCell ⟨g,k*3+1,none⟩ F).setCell ⟨g,k*3+2,none⟩ (.int .i64 (d:Int))) r (.slice (some ⟨g,0,none⟩) N cv) L own D G (k+1) (M.set k ⟨x.n,F,⟨x.f.data.take d,d⟩⟩) (fun j=>own' j∨F.ownBlock=some j)from fun R F hb h7 ap=>by
    have aL:(x.f.data.take d).length=d:=by rw[List.length_take,aa.o,Nat.min_eq_left Y]
    have aZ:zAj R 5 F (x.f.data.take d):=by unfold zAj;rw[aL];exact h7
    have hW:=b.o.keep (w':=R) hb.size fun j s=>hb.block j (b.o.olt j s);have aG:=(b.o.ov g rfl).1;have aJ:k<M.length:=(List.getElem?_eq_some_iff.1 Hx.o.2).1;have h1:=hW.store (g:=g) rfl Hx.o.2 1 (by omega) F ⟨x.n,F,⟨x.f.data.take d,x.f.lasts⟩⟩ rfl (own':=fun j=>own' j∨F.ownBlock=some j) (fun _ h=>.inl h) aZ
     (fun j s=>⟨.inr s,fun e=>by have:=b.o.olt r b.o.or;have:=ap j s;omega,fun e=>by have:=b.o.olt g aG;have:=ap j s;omega⟩)
     (fun j s=>by
      rcases s with s|s
      ·exact hW.olt j s
      ·exact OwnR.lt h7 s)
    have an:(M.set k ⟨x.n,F,⟨x.f.data.take d,x.f.lasts⟩⟩)[k]?=some ⟨x.n,F,⟨x.f.data.take d,x.f.lasts⟩⟩:=List.getElem?_set_self aJ;have aM:=List.mem_of_getElem? an;have aY:=h1.data _ aM;have aP:=h1.ob _ aM;have h2:=h1.store (g:=g) rfl an 2 (by omega) (.int .i64 (d:Int)) ⟨x.n,F,⟨x.f.data.take d,d⟩⟩ rfl (fun _ h=>h) aY (fun j s=>⟨.inr s,(aP j s).2.1,fun e=>(aP j s).2.2 (by rw[e];rfl)⟩) h1.olt;rw[List.set_set]at h2;have aB:=h1.at rfl an;refine⟨aB.2.1,aB.2.2.trans (by rw[←al.o]),h1.free rfl _,h1.c1,?_⟩;have t:=Hr.o;have aQ:∀j,own' j→own j∨w.heap.size≤j:=av.o;have aI:own g∨w.heap.size≤g:=aQ g aG;have aE:Chg own w (R.setCell ⟨g,k*3+1,none⟩ F):=(ad.o.trans ((Chg.of_below hb).mono (T:=fun _=>False) fun _ _ h=>h) fun _ _ h=>h.elim).trans (Chg.setCell R ⟨g,k*3+1,none⟩ F) fun j s e=>by
     have e:j=g:=e;rcases aI with h|h
     ·rw[e];exact h
     ·omega
    have aF:=aE.trans (Chg.setCell (R.setCell ⟨g,k*3+1,none⟩ F) ⟨g,k*3+2,none⟩ (.int .i64 (d:Int))) (fun j s e=>by
     have e:j=g:=e;rcases aI with h|h
     ·rw[e];exact h
     ·omega)
    refine⟨h2,by rw[List.length_set];exact t.len,?_,?_,aF,fun j s=>?_⟩
    ·rw[List.drop_set_of_lt (by omega)];have h3:=congrArg (List.drop 1) t.rest;rw[List.drop_drop,List.drop_drop]at h3;exact h3
    ·have h4:(L.take (k+1)).map (crashK G)=(L.take k).map (crashK G)++[crashK G x]:=by rw[List.take_add_one,Hx.o.1,List.map_append];rfl
     have h5:(M.set k ⟨x.n,F,⟨x.f.data.take d,d⟩⟩).take (k+1)=M.take k++[⟨x.n,F,⟨x.f.data.take d,d⟩⟩]:=by
      rw[List.take_add_one,List.getElem?_set_self aJ,List.take_set_of_le (Nat.le_refl _)];rfl
     rw[h4,h5,List.map_append,t.done]
     congr 1
     show [(x.n,(⟨x.f.data.take d,d⟩:zAT))]=[(x.n,zAA.crashF G x.f)]
     unfold zAA.crashF;rw[aW.o.1]
    ·rcases s with s|s
     ·exact aQ j s
     ·exact .inr (Nat.le_trans ad.o.size (ap j s)))
   obtain⟨i0,hi,aR,aS,aT⟩:=info_parts (show(prog.info? 5).map (fun i=>(i.zero,i.size,i.bytes))=some (some (.int .u8 0),1,1) by kernel_rfl);have bu:∀W,(Instr.slice 22 (.slice pb mx cb) none (some (.int .i64 (d:Int))) none).run prog W=.ok (.slice pb d cb) W:=fun W=>zB9 W underlying22 hi pb _ cb d (by omega);have bj:IntKind.i64.wrap ((u:Int)+1)=(u:Int)+1:=zFd (by omega) (by omega);obtain⟨dm,ag⟩:∃dm,dn%(u+1)=dm:=⟨_,rfl⟩;have bv:(dn:Int).tmod ((u:Int)+1)=(dm:Int):=by rw[←ag];rfl
   have bi:((u:Int)+1=0)=False:=by simp;omega
   have aA:(la:Int)+(dm:Int)=(d:Int):=by omega
   have bk:IntKind.i64.wrap ((la:Int)+(dm:Int))=(d:Int):=by rw[aA];exact zFd (by omega) (by omega)
   have bl:IntKind.i64.wrap (d:Int)=(d:Int):=zFd (by omega) (by omega);clear ar aN ag;go_wp2_with fail;have S:=zW (Below O.heap.size O O.drew) (⟨rfl,rfl,rfl,Nat.le_refl _,fun _ _=>rfl⟩);have hS:=(y.o _ S.o).2.1;refine ost (fun I:World=>I.cell? ⟨g,k*3+2,none⟩=some (.int .i64 (la:Int))) 20 hS fun c=>?_;clear hS;generalize O.drew=Wd at *;refine Pl [0,2,3,4,6,7,8,9,10,11,12,13,14] ?_
   iterate 13 (refine Pc rfl ?_;simp only[uZ])
   refine Pn ?_;refine zCw 1 5 rfl rfl (by kernel_rfl) (by rfl) (by rfl) (fun K a=>?_) (fun K a=>?_)
   focus
    go_wp2_with fail;have P:=zh (S.o.alloc S.o.size (.cells #[] 5));refine a.o _ _ ((y.o _ P.o).2.1) fun c=>?_;clear a;try simp only[uZ]
    refine oon 5 rfl fun K a=>?_;have q:=(y.o _ P.o).1;go_wp2_with fail;clear q;refine a.o _ _ ((y.o _ P.o).2.1) fun c=>?_;clear a;try simp only[uZ]
    refine otk 15 (v:=?v1x15) rfl ?_;simp only[uZ]
   rotate_left
   focus
    have q:=(y.o _ S.o).1;go_wp2_with fail;clear q;refine a.o _ _ ((y.o _ S.o).2.1) fun c=>?_;clear a;try simp only[uZ]
    refine otk 15 (v:=?v2x15) rfl ?_;simp only[uZ];refine oon 1 rfl fun K a=>?_;go_wp2_with fail;have P:=zh (S.o.alloc S.o.size (.cells #[] 5));refine a.o _ _ ((y.o _ P.o).2.1) fun c=>?_;clear a;try simp only[uZ]
   all_goals
    refine oon 16 rfl fun K a=>?_;have E:=zAx Wd 5;have Z:=ax.o _ P.o;refine zAn (.tmp 35) (.tmp 49) 22 (by rfl) 5 i0 (.int .u8 0) 1 1 underlying22 hi aR aS aT rfl (by decide) (.slice (some ⟨Wd.heap.size,0,none⟩) 0 0) 0 [] (by rfl) E (.slice pb d cb) d _ (by rfl) Z (zAO _) (by unfold maxLen;omega) (by omega) ?_;clear E Z;intro v6 w6 m p A;have X6:=zh (P.o.grown p P.o.size (fun j e=>by have:=S.o.size;simp[Value.ownBlock]at e;omega));have C:=zA2 (B:=O.heap.size) A (fun k hk=>by have:=S.o.size;simp[Value.ownBlock]at hk;omega) P.o.size;rw[Nat.zero_add,List.nil_append]at m;obtain⟨p6,c6,rfl⟩:=OwnR.shape m;have z:=zh (ae.o w6 (.slice p6 d c6) X6.o m C);clear p A m C;refine a.o _ _ ((y.o _ X6.o).2.1) fun c=>?_;clear a;try simp only[uZ]
    refine Pl [17,18] ?_;iterate 2 (refine Pc rfl ?_;simp only[uZ])
    refine Pn ?_;refine oon 19 rfl fun K a=>?_;obtain⟨Q,q,V,X⟩:=y.o _ X6.o;go_wp2_with fail;have am:(w6.setCell ⟨g,k*3+1,none⟩ (.slice p6 d c6)).cell? ⟨g,k*3+2,none⟩=some (.int .i64 (la:Int)):=(World.cell?_setCell_other _ _ _ _ (by simp)).trans q;clear Q q V X;refine a.o _ _ (am) fun c=>?_;clear a;try simp only[uZ]
    refine odn ?_;clear c;obtain⟨bc,bd,be,bf,aq⟩:=z.o;clear z;go_wp2_with fail;go_roundw;case rel=>exact⟨k+1,_,_,by omega,by go_num,aq⟩
    case measure=>simp[intOf];omega
  ·have ba:k=N:=by omega
   subst ba;have az:M.take k=M:=List.take_of_length_le (by rw[t.len,HN.o];exact Nat.le_refl _);have ay:L.take k=L:=List.take_of_length_le (by rw[HN.o];exact Nat.le_refl _);have J:(D.crash G).files=M.map zAR.key:=by
    have h3:=t.done;rw[az,ay]at h3;rw[h3]
    show mp (zAA.crashF G) D.files=_
    rw[H.o.files];unfold mp;rw[List.map_map];rfl
   have ai:zAc (wr.setCell ⟨r,2,none⟩ (.int .i64 (-1))) r (.slice pv k cv) M own' (D.crash G):=(t.core.left none).full rfl rfl J (ok_crash H.o.ok G);have bt:own r∨w.heap.size≤r:=.inl H.o.or;have aD:Chg own w (wr.setCell ⟨r,2,none⟩ (.int .i64 (-1))):=t.chg.trans (Chg.setCell wr ⟨r,2,none⟩ (.int .i64 (-1))) fun j _ e=>by
    have e:j=r:=e;rw[e];exact H.o.or
   have Hf:=zW (∃own'' v' L',zAc (wr.setCell ⟨r,2,none⟩ (.int .i64 (-1))) r v' L' own'' (D.crash G)∧Chg own w (wr.setCell ⟨r,2,none⟩ (.int .i64 (-1)))∧∀j,own'' j→own j∨w.heap.size≤j) (⟨_,_,_,ai,aD,t.ext⟩);have Q:=t.core.c1;have q:wr.cell? ⟨r,2,none⟩=some (.int .i64 (zFg D.fuse)):=zAG t.core.cells rfl;have bq:=zAE t.core.cells 2;clear t ai aD J az ay;go_wp2_with fail
   go_end0
   exact⟨rfl,Hf.o⟩
end
section
variable {w:World} {r:Nat} {v:Value} {L:List zAR} {own:Nat→Prop} {D:zAA}
structure RCopy (w W:World)(r2:Nat)(v2:Value)(L:List zAR)(D:zAA)(k:Nat)(M:List zAR)(own2:Nat→Prop):Prop where
 core:zAz W r2 v2 M own2 D.room none
 keys:M.map zAR.key=(L.take k).map zAR.key
 new:∀j,own2 j→w.heap.size≤j
 bel:Below w.heap.size w W
theorem RCopy.len {W:World}{c:Nat}{v2:Value}{k:Nat}{M:List zAR}{own2:Nat→Prop}(h:RCopy w W c v2 L D k M own2)(b:k≤L.length):M.length=k:=by
 have:=congrArg List.length h.keys;rw[List.length_map,List.length_map,List.length_take,Nat.min_eq_left b]at this;exact this
end
def Pair (w w1:World)(d:Nat)(D:zAA)(r:Nat)(R:zAA):Prop:=∃own v L,St w w1 d D own∧zAc w1 r v L own R∧∀k,own k→w.heap.size≤k
section
variable {w w1:World} {d:Nat} {D:zAA} {r:Nat} {R:zAA}
theorem Pair.bel (h:Pair w w1 d D r R):Below w.heap.size w w1:=let ⟨_,_,_,hS,_,_⟩:=h;hS.below
theorem Pair.okD (h:Pair w w1 d D r R):D.OK:=let ⟨_,_,_,hS,_,_⟩:=h;hS.ok
theorem Pair.next (h:Pair w w1 d D r R){w2:World}(b:Below w1.heap.size w1 w2):Pair w w2 d D r R:=by
 obtain⟨own,v,L,hS,c,hn⟩:=h;exact⟨own,v,L,hS.next b,c.below b,hn⟩
theorem Pair.alloc (h:Pair w w1 d D r R)(o:Obj):Pair w (w1.alloc o) d D r R:=h.next ((Below.refl _ _).alloc (Nat.le_refl _) o)
theorem Pair.drewN (h:Pair w w1 d D r R)(n:Nat):Pair w (w1.drewN n) d D r R:=h.next ⟨rfl,rfl,rfl,Nat.le_refl _,fun _ _=>rfl⟩
theorem zAc.same {w2:World}{own:Nat→Prop}{v:Value}{L:List zAR}(h:zAc w1 r v L own R)(hS:St w w2 d D own)(c:Same own w1 w2):zAc w2 r v L own R where
 cells:=(c r h.or).trans h.cells
 row:=h.row.keep fun k b=>c k (h.ov k b).1
 files:=h.files
 data:=fun x f=>OwnR.keep (h.data x f) fun k b=>c k (h.ob x f k b).1
 or:=h.or
 ov:=h.ov
 ob:=h.ob
 olt:=fun _ b=>hS.flt b
 ok:=h.ok
theorem Pair.moved {w':World}{own own':Nat→Prop}{v':Value}{L':List zAR}{f:zAA}(hS:St w w1 d D own)(hn:∀k,own k→w.heap.size≤k)(c:zAc w' r v' L' own' f)(i:Chg own w1 w')(g:∀k,own' k→own k∨w1.heap.size≤k):Pair w w' d D r f:=by
 refine⟨own',v',L',hS.move i (fun k _ b=>⟨b,hn k b⟩) (fun k b=>⟨g k b,c.olt k b⟩),c,fun k b=>?_⟩;rcases g k b with h|h
 ·exact hn k h
 ·exact Nat.le_trans hS.below.size h
end
section
variable {w:World} {r:Nat} {v:Value} {L:List zAR} {own:Nat→Prop} {D:zAA}
theorem rhas_calls (h:zAc w r v L own D)(s:ByteArray) :
  Calls prog 198 #[.pointer (some ⟨r,0,none⟩),.string s] w fun e w'=>e=.returned (.bool (Sat.get (nm s) D.files).isSome)∧Below w.heap.size w w':=by
 have H:=zh (zC0 h s);clear h;cases d:Sat.get (nm s) D.files with
 | none =>
  rw[d]at H
  go_enter func198,ntmps198
  go_wp2_with fail;refine H.o.mono ?_;rintro e w' ⟨v,rfl,-,-,b⟩;have c:=zh b;clear b;go_wp2_with fail;go_ret;exact⟨rfl,c.o⟩
 | some f =>
  rw[d]at H
  go_enter func198,ntmps198
  go_wp2_with fail;refine H.o.mono ?_;rintro e w' ⟨v,rfl,-,-,b⟩;have c:=zh b;clear b;go_wp2_with fail;go_ret;exact⟨rfl,c.o⟩
def RGotL (w:World)(o:Option zAT)(e:Ending)(w':World):Prop :=
 ∃v,e=.returned (.tuple #[v,.int .i64 (loadE o:Int)])∧zAj w' 5 v (zD8 o)∧(∀k,v.ownBlock=some k→w.heap.size≤k)∧Below w.heap.size w w'
theorem rload_calls (h:zAc w r v L own D)(s:ByteArray) :
  Calls prog 83 #[.pointer (some ⟨r,0,none⟩),.string s] w (RGotL w (Sat.get (nm s) D.files)):=by
 have i:=zFM h.ok (nm s);have H:=zh (zC0 h s);clear h;cases A:Sat.get (nm s) D.files with
 | none =>
  rw[A]at H;clear i
  go_enter func83,ntmps83
  go_wp2_with fail;refine H.o.mono ?_;rintro e w2 ⟨v,rfl,-,-,m⟩;have l:=zW (RGotL w none (.returned (.tuple #[.slice none 0 0,.int .i64 7])) w2) (⟨.slice none 0 0,by rw[zEA];rfl,by rw[zFV];exact OwnR.nil _ _ _,fun k n=>(by cases n),m⟩);clear m;go_wp2_with fail
  go_ret2
  exact l.o
 | some f =>
  rw[A]at H i
  go_enter func83,ntmps83
  go_wp2_with fail;refine H.o.mono ?_;rintro e w2 ⟨v,rfl,j,-,m⟩;obtain⟨p,c,rfl,q⟩:=zDd j;have B:=zh (rone_calls j.has q (by omega));have y:=zh m;have a:=loadE_some f;have z:=zD9 f;generalize zCq (some f)=b at *;generalize F:b.length=N at *;clear j m q i;go_wp2_with fail;refine B.o.mono ?_;rintro e w3 ⟨v,rfl,j,hn,g⟩;have d:=y.o.trans (g.mono y.o.size)
  by_cases t:oneE b=0
  ·have l:=zW (RGotL w (some f) (.returned (.tuple #[v,.int .i64 0])) w3) (⟨v,by rw[a,if_pos t];rfl,by rw[z];exact j,fun k n=>Nat.le_trans y.o.size (hn k n),d⟩);rw[t];clear j hn g d;go_wp2_with fail
   go_ret2
   exact l.o
  ·have l:=zW (RGotL w (some f) (.returned (.tuple #[.slice none 0 0,.int .i64 3])) w3) (⟨.slice none 0 0,by rw[a,if_neg t];rfl,by rw[z];unfold oneB;rw[if_neg t];exact OwnR.nil _ _ _,fun k n=>(by cases n),d⟩);have C:((oneE b:Int) != 0)=true:=by simp;omega
   generalize oneE b=E at *;clear j hn g d;go_wp2_with fail
   go_ret2
   exact l.o
end
def RSt (w0 w1:World)(r:Nat)(own0:Nat→Prop)(D:zAA)(F:Nat→Prop):Prop :=
 ∃own v L,zAc w1 r v L own D∧Chg own0 w0 w1∧(∀k,own k→(own0 k∨w0.heap.size≤k)∧¬F k)∧∀k,F k→k<w1.heap.size
section
variable {w w0 w1 w2:World} {r:Nat} {v:Value} {L:List zAR} {own own0:Nat→Prop} {D:zAA} {F:Nat→Prop}
theorem RSt.start (h:zAc w r v L own D)(c:Below w.heap.size w w1)(hF:∀k,F k→¬own k∧k<w1.heap.size):RSt w w1 r own D F :=
 ⟨own,v,L,h.below c,(Chg.of_below c).mono fun _ _ h=>h.elim,fun k b=>⟨.inl b,fun d=>(hF k d).1 b⟩,fun k b=>(hF k b).2⟩
theorem RSt.ok (h:RSt w0 w1 r own0 D F):D.OK:=let ⟨_,_,_,hR,_⟩:=h;hR.ok
theorem RSt.flt (h:RSt w0 w1 r own0 D F){k:Nat}(b:F k):k<w1.heap.size:=let ⟨_,_,_,_,_,_,hF⟩:=h;hF k b
theorem RSt.next (h:RSt w0 w1 r own0 D F)(b:Below w1.heap.size w1 w2):RSt w0 w2 r own0 D F:=by
 obtain⟨own,v,L,c,d,g,hF⟩:=h;exact⟨own,v,L,c.below b,d.trans (Chg.of_below b) fun _ _ h=>h.elim,g,fun k f=>Nat.lt_of_lt_of_le (hF k f) b.size⟩
theorem RSt.same (h:RSt w0 w1 r own0 D F)(b:Below w1.heap.size w1 w2):Same F w1 w2:=fun _ c=>b.block _ (h.flt c)
theorem RSt.apart {F':Nat→Prop}(h:RSt w0 w1 r own0 D F)(d:Below w1.heap.size w1 w2)(b:∀k,F' k→F k∨(w1.heap.size≤k∧k<w2.heap.size)):RSt w0 w2 r own0 D F':=by
 obtain⟨own,v,L,f,i,g,hF⟩:=h;refine⟨own,v,L,f.below d,i.trans (Chg.of_below d) fun _ _ h=>h.elim,fun k c=>⟨(g k c).1,fun j=>?_⟩,fun k c=>?_⟩
 ·rcases b k j with h|h
  ·exact(g k c).2 h
  ·have:=f.olt k c;omega
 ·rcases b k c with h|h
  ·exact Nat.lt_of_lt_of_le (hF k h) d.size
  ·exact h.2
theorem zEf {P:Program}{f:FuncId}{args:Array Value}{Re:zAA×Nat}(h:RSt w0 w1 r own0 D F)(p:∀own v L,zAc w1 r v L own D→(∀k,own k→¬F k)→Calls P f args w1 (zCo w1 r own Re)) :
  Calls P f args w1 fun e w'=>e=.returned (.int .i64 (Re.2:Int))∧RSt w0 w' r own0 Re.1 F∧Same F w1 w':=by
 obtain⟨own,v,L,m,l,b,hF⟩:=h;refine(p own v L m fun k c=>(b k c).2).mono ?_;rintro e w' ⟨rfl,own',⟨v',L',g⟩,d,n⟩;refine⟨rfl,⟨own',v',L',g,l.trans d fun i q j=>?_,fun k c=>?_,fun k c=>Nat.lt_of_lt_of_le (hF k c) d.size⟩,fun k c=>d.block k (hF k c) fun j=>(b k j).2 c⟩
 ·rcases(b i j).1 with h|h
  ·exact h
  ·omega
 ·rcases n k c with h|h
  ·exact b k h
  ·exact⟨.inr (Nat.le_trans l.size h),fun o=>by have:=hF k o;omega⟩
theorem RSt.stop (h:RSt w0 w1 r own0 D F)(k:Nat):zCo w0 r own0 (D,k) (.returned (.int .i64 (k:Int))) w1:=by
 obtain⟨own,v,L,b,c,f,-⟩:=h;exact⟨rfl,own,⟨v,L,b⟩,c,fun k d=>(f k d).1⟩
theorem rst_has (h:RSt w0 w1 r own0 D F)(s:ByteArray) :
  Calls prog 198 #[.pointer (some ⟨r,0,none⟩),.string s] w1 fun e w'=>e=.returned (.bool (Sat.get (nm s) D.files).isSome)∧RSt w0 w' r own0 D F∧Same F w1 w':=by
 have b:=h;obtain⟨own,v,L,d,-⟩:=h;exact(rhas_calls d s).mono fun e w' ⟨f,c⟩=>⟨f,b.next c,b.same c⟩
theorem rstep_below {w':World}{R:zAA×Nat}{e:Ending}{b:World}(c:Below w.heap.size w w')(h:zCo w' r own R e b):zCo w r own R e b:=by
 obtain⟨g,own',d,f,j⟩:=h;exact⟨g,own',d,zCd c f,fun k i=>(j k i).imp id fun h=>Nat.le_trans c.size h⟩
end
structure zF3 (w:World)(j r:Nat)(pre:ByteArray)(O C:Nat→Prop)(M:zAJ)(gv dv ev:Value)(vs:List EV):Prop where
 cells:w.heap[j]?=some (RJC r (M.number:Int) M.term gv pre M.now M.vote dv ev M.dead)
 group:zBe w gv M.group
 data:zAY w dv M.data
 row:OwnR w 50 4 ev M.entries.length (zA3 M.entries vs)
 rlen:vs.length=M.entries.length
 rows:∀(i:Nat) e v,M.entries[i]?=some e→vs[i]?=some v→zBP w e v
 oj:O j
 oe:∀k,ev.ownBlock=some k→O k∧k≠j
 cg:∀k,gv.ownBlock=some k→C k
 cd:∀k,dv.ownBlock=some k→C k
 cv:∀u∈vs,∀k,(u.1.ownBlock=some k∨u.2.ownBlock=some k)→C k
 dis:∀k,C k→¬O k
 olt:∀k,O k→k<w.heap.size
 clt:∀k,C k→k<w.heap.size
 psz:1≤pre.size∧pre.size≤20
 ok:M.OK
section
variable {w w':World} {j r:Nat} {pre:ByteArray} {O C:Nat→Prop} {M:zAJ} {gv dv ev:Value} {vs:List EV}
theorem zBP.keep {e:Ent}{v:EV}(h:zBP w e v)(c:∀k,(v.1.ownBlock=some k∨v.2.ownBlock=some k)→w'.heap[k]?=w.heap[k]?):zBP w' e v :=
 ⟨zAM.keep h.data fun k b=>c k (.inl b),zAM.keep h.nodes fun k b=>c k (.inr b),h.dl,h.nl⟩
theorem zF3.keep (h:zF3 w j r pre O C M gv dv ev vs)(c:∀k,O k∨C k→w'.heap[k]?=w.heap[k]?)(d:∀k,O k∨C k→k<w'.heap.size):zF3 w' j r pre O C M gv dv ev vs where
 cells:=(c j (.inl h.oj)).trans h.cells
 group:=zAM.keep h.group fun k b=>c k (.inr (h.cg k b))
 data:=zAM.keep h.data fun k b=>c k (.inr (h.cd k b))
 row:=h.row.keep fun k b=>c k (.inl (h.oe k b).1)
 rlen:=h.rlen
 rows:=fun i e v g f=>(h.rows i e v g f).keep fun k b=>c k (.inr (h.cv v (List.mem_of_getElem? f) k b))
 oj:=h.oj
 oe:=h.oe
 cg:=h.cg
 cd:=h.cd
 cv:=h.cv
 dis:=h.dis
 olt:=fun k b=>d k (.inl b)
 clt:=fun k b=>d k (.inr b)
 psz:=h.psz
 ok:=h.ok
theorem zF3.below (h:zF3 w j r pre O C M gv dv ev vs)(c:Below w.heap.size w w'):zF3 w' j r pre O C M gv dv ev vs :=
 h.keep (fun k b=>c.block k (b.elim (h.olt k) (h.clt k))) fun k b=>Nat.lt_of_lt_of_le (b.elim (h.olt k) (h.clt k)) c.size
theorem zF3.chg {S:Nat→Prop}(h:zF3 w j r pre O C M gv dv ev vs)(c:Chg S w w')(hS:∀k,S k→¬O k∧¬C k):zF3 w' j r pre O C M gv dv ev vs :=
 h.keep (fun k b=>c.block k (b.elim (h.olt k) (h.clt k)) fun s=>b.elim (hS k s).1 (hS k s).2) fun k b=>Nat.lt_of_lt_of_le (b.elim (h.olt k) (h.clt k)) c.size
theorem zF3.c (h:zF3 w j r pre O C M gv dv ev vs)(i:Nat){v:Value}(b:(#[.int .i64 (M.number:Int),.int .i64 M.term,gv,.pointer (some ⟨r,0,none⟩),.string pre,.int .i64 M.now,.int .i64 M.vote,dv,ev,.bool M.dead]:Array Value)[i]?=some v):w.cell? ⟨j,i,none⟩=some v:=zAG h.cells b
theorem zF3.fr (h:zF3 w j r pre O C M gv dv ev vs)(i:Nat):w.frozen? ⟨j,i,none⟩=false:=zAE h.cells i
theorem zF3.ent (h:zF3 w j r pre O C M gv dv ev vs){i:Nat}{e:Ent}(l:M.entries[i]?=some e):∃g c v,ev=.slice (some ⟨g,0,none⟩) M.entries.length c∧vs[i]?=some v∧zBP w e v ∧
  w.cell? ⟨g,i*4,none⟩=some (.int .i64 e.term)∧w.cell? ⟨g,i*4+1,none⟩=some (.int .i64 e.kind)∧w.cell? ⟨g,i*4+2,none⟩=some v.1∧w.cell? ⟨g,i*4+3,none⟩=some v.2:=by
 have m:=(List.getElem?_eq_some_iff.1 l).1;have d:vs[i]?=some (vs[i]'(by rw[h.rlen];exact m)):=List.getElem?_eq_getElem _;generalize vs[i]'(by rw[h.rlen];exact m)=v at d;rcases h.row.2 with⟨-,o⟩|⟨g,f,cur,rfl,-⟩
 ·omega
 ·have b:∀(k:Nat) u,(zEy e v)[k]?=some u→w.cell? ⟨g,i*4+k,none⟩=some u:=fun k u n=>by
   have:=h.row.cells (g:=g) rfl (i*4+k) u (zEO _ _ i e v l d k u n);rwa[add_zero]at this
  exact⟨g,f,v,rfl,d,h.rows i e v l d,b 0 _ rfl,b 1 _ rfl,b 2 _ rfl,b 3 _ rfl⟩
end
def RJF (w1:World)(j r:Nat)(pre:ByteArray)(D:zAA)(M:zAJ)(Hot Cold:Nat→Prop):Prop :=
 ∃O own gv dv ev vs v L,zF3 w1 j r pre O Cold M gv dv ev vs∧zAc w1 r v L own D∧(∀k,O k→¬own k)∧(∀k,Cold k→¬own k)∧∀k,Hot k↔O k∨own k
section
variable {w1 w2:World} {j r:Nat} {pre:ByteArray} {D:zAA} {M:zAJ} {Hot Cold:Nat→Prop}
theorem RJF.okM (h:RJF w1 j r pre D M Hot Cold):M.OK:=let ⟨_,_,_,_,_,_,_,_,hJ,_⟩:=h;hJ.ok
theorem RJF.okD (h:RJF w1 j r pre D M Hot Cold):D.OK:=let ⟨_,_,_,_,_,_,_,_,_,hR,_⟩:=h;hR.ok
theorem RJF.hlt (h:RJF w1 j r pre D M Hot Cold){k:Nat}(f:Hot k):k<w1.heap.size:=by
 obtain⟨_,_,_,_,_,_,_,_,c,d,_,_,b⟩:=h;exact((b k).1 f).elim (c.olt k) (d.olt k)
theorem RJF.clt (h:RJF w1 j r pre D M Hot Cold){k:Nat}(b:Cold k):k<w1.heap.size:=let ⟨_,_,_,_,_,_,_,_,hJ,_⟩:=h;hJ.clt k b
theorem RJF.dis (h:RJF w1 j r pre D M Hot Cold){k:Nat}(b:Cold k):¬Hot k:=by
 obtain⟨_,_,_,_,_,_,_,_,f,i,_,c,d⟩:=h;exact fun g=>((d k).1 g).elim (f.dis k b) (c k b)
theorem RJF.jhot (h:RJF w1 j r pre D M Hot Cold):Hot j:=let ⟨_,_,_,_,_,_,_,_,hJ,_,_,_,hH⟩:=h;(hH j).2 (.inl hJ.oj)
theorem RJF.psz (h:RJF w1 j r pre D M Hot Cold):1≤pre.size∧pre.size≤20:=let ⟨_,_,_,_,_,_,_,_,hJ,_⟩:=h;hJ.psz
theorem RJF.chg {S:Nat→Prop}(h:RJF w1 j r pre D M Hot Cold)(c:Chg S w1 w2)(hS:∀k,S k→¬Hot k∧¬Cold k):RJF w2 j r pre D M Hot Cold:=by
 obtain⟨O,own,gv,dv,ev,vs,v,L,i,d,l,g,b⟩:=h;exact⟨O,own,gv,dv,ev,vs,v,L,i.chg c fun k s=>⟨fun o=>(hS k s).1 ((b k).2 (.inl o)),(hS k s).2⟩,d.keep c.size (fun k f=>c.block k (d.olt k f) fun s=>(hS k s).1 ((b k).2 (.inr f))),l,g,b⟩
theorem RJF.below (h:RJF w1 j r pre D M Hot Cold)(b:Below w1.heap.size w1 w2):RJF w2 j r pre D M Hot Cold:=h.chg (Chg.of_below b) fun _ s=>s.elim
theorem RJF.drewN (h:RJF w1 j r pre D M Hot Cold)(q:Nat):RJF (w1.drewN q) j r pre D M Hot Cold:=h.below ⟨rfl,rfl,rfl,Nat.le_refl _,fun _ _=>rfl⟩
def zBz (w1:World)(j r:Nat)(pre:ByteArray)(Hot Cold:Nat→Prop)(b:zDW)(e:Ending)(w':World):Prop :=
 e=.returned (.int .i64 (b.err:Int))∧∃Hot' Cold',RJF w' j r pre b.disk b.jou Hot' Cold'∧Chg Hot w1 w'∧(∀k,Hot' k→Hot k∨w1.heap.size≤k)∧∀k,Cold' k→Cold k∨w1.heap.size≤k
theorem zDp (h:RJF w1 j r pre D M Hot Cold):Calls prog 42 #[.pointer (some ⟨j,0,none⟩)] w1 fun e w'=>e=.returned (.tuple #[.int .i64 (M.last:Int),.int .i64 M.lastT])∧∃q,w'=w1.drewN q:=by
 have d:=h.okM.last;obtain⟨O,own,gv,dv,ev,vs,v,L,k,B,A,z,a⟩:=h;have R:=k.c 0 rfl;have S:=k.c 1 rfl;have y:=k.c 8 rfl;obtain⟨p,c,l⟩:=k.row.shape;have t:=zW (M.last=M.number+M.entries.length) rfl
 by_cases m:M.entries.length=0
 ·have E:M.entries=[]:=List.eq_nil_of_length_eq_zero m;have s:=zW ((M.last:Int)=(M.number:Int)∧M.lastT=M.term) (⟨by rw[t.o,m];rfl,by unfold zAJ.lastT;rw[E];rfl⟩);rw[l,m]at y;clear k B A z a l E m d
  go_enter func42,ntmps42
  go_wp2_with fail
  go_quiet (fail)
  go_wp2_with fail
  go_ret2
  exact⟨by rw[s.o.1,s.o.2];rfl,_,rfl⟩
 ·have f:M.entries.length-1<M.entries.length:=by omega
  obtain⟨g,Q,v',i,H,-,N,-,-,-⟩:=k.ent (List.getElem?_eq_getElem f);have C:M.lastT=M.entries[M.entries.length-1].term:=by
   unfold zAJ.lastT;rw[List.getLast?_eq_getElem?,List.getElem?_eq_getElem f]
  rw[←C]at N;rw[i]at y;unfold zAJ.last at d;clear k B A z a l i H f C;generalize M.entries.length=n at *;generalize M.number=b at *;generalize M.last=P at *;generalize M.lastT=T at *;have G:((n:Int)==0)=false:=by simp;omega
  have I:IntKind.i64.wrap ((b:Int)+(n:Int))=(P:Int):=by rw[IntWalk.i64_in _ (by omega),t.o];omega
  have J:IntKind.i64.wrap ((n:Int)-1)=((n-1:Nat):Int):=by rw[IntWalk.i64_in _ (by omega)];omega
  have F:n-1<n:=by omega
  go_enter func42,ntmps42
  go_wp2_with fail
  go_quiet (fail)
  go_wp2_with fail
  go_ret2
  exact⟨rfl,_,rfl⟩
theorem zFi (h:RJF w1 j r pre D M Hot Cold)(i:Int)(Y:-9223372036854775808≤i∧i≤9223372036854775807) :
  Calls prog 95 #[.pointer (some ⟨j,0,none⟩),.int .i64 i] w1 fun e w'=>e=.returned (.tuple #[.int .i64 ((M.termAt i).getD 0),.bool (M.termAt i).isSome])∧∃q,w'=w1.drewN q:=by
 have d:=h.okM.last;obtain⟨O,own,gv,dv,ev,vs,v,L,s,E,C,A,B⟩:=h;have W:=s.c 0 rfl;have X:=s.c 1 rfl;have F:=s.c 8 rfl;obtain⟨p,c,m⟩:=s.row.shape
 by_cases f:i=(M.number:Int)
 ·have N:(i==(M.number:Int))=true:=by simpa using f
  have z:=zh (show M.termAt i=some M.term by rw[f];exact zEh);clear s E C A B f m d F;generalize M.termAt i=I at *;generalize M.number=b at *
  go_enter func95,ntmps95
  go_wp2_with fail
  go_ret2
  exact⟨by rw[z.o];rfl,0,rfl⟩
 ·have N:(i==(M.number:Int))=false:=by simpa using f
  unfold zAJ.last at d
  by_cases l:i<(M.number:Int)
  ·have z:=zh (show M.termAt i=none by unfold zAJ.termAt;rw[if_neg f,if_pos l]);have J:decide (i<(M.number:Int))=true:=decide_eq_true l;clear s E C A B f m d F l;generalize M.termAt i=I at *;generalize M.number=b at *
   go_enter func95,ntmps95
   go_wp2_with fail
   go_quiet (fail)
   go_wp2_with fail
   go_ret2
   exact⟨by rw[z.o];rfl,_,rfl⟩
  ·have J:decide (i<(M.number:Int))=false:=decide_eq_false l;rw[m]at F;have R:IntKind.i64.wrap ((M.number:Int)+(M.entries.length:Int))=((M.number+M.entries.length:Nat):Int):=by rw[IntWalk.i64_in _ (by omega)];omega
   by_cases t:((M.number+M.entries.length:Nat):Int)<i
   ·have z:=zh (show M.termAt i=none by
     unfold zAJ.termAt;rw[if_neg f,if_neg l,List.getElem?_eq_none (by omega)];rfl)
    have G:decide (((M.number+M.entries.length:Nat):Int)<i)=true:=decide_eq_true t;clear s E C A B f m d l t;generalize M.termAt i=I at *;generalize M.number+M.entries.length=U at *;generalize M.number=b at *;generalize M.entries.length=n at *
    go_enter func95,ntmps95
    go_wp2_with fail
    go_quiet (fail)
    go_wp2_with fail
    go_ret2
    exact⟨by rw[z.o];rfl,_,rfl⟩
   ·have G:decide (((M.number+M.entries.length:Nat):Int)<i)=false:=decide_eq_false t;have a:(i-(M.number:Int)-1).toNat<M.entries.length:=by omega
    obtain⟨g,V,v',y,Q,-,Z,-,-,-⟩:=s.ent (List.getElem?_eq_getElem a);have z:=zh (zEI (M:=M) (show(M.number:Int)<i by omega) (List.getElem?_eq_getElem a));rw[m]at y;cases y;clear s E C A B m Q;generalize P:(i-(M.number:Int)-1).toNat=k at *;generalize M.entries[k]=e at *;generalize H:M.number+M.entries.length=U at *;generalize M.termAt i=I at *;generalize M.entries.length=n at *;generalize M.number=b at *;have S:IntKind.i64.wrap (i-(b:Int))=(k:Int)+1:=by rw[IntWalk.i64_in _ (by omega)];omega
    have T:IntKind.i64.wrap (k:Int)=(k:Int):=IntWalk.i64_in _ (by omega);clear P d l t f H
    go_enter func95,ntmps95
    go_wp2_with fail
    go_quiet (fail)
    go_wp2_with fail
    go_quiet (fail)
    go_wp2_with fail
    go_ret2
    exact⟨by rw[z.o];rfl,_,zGB _ _ _⟩
end
theorem zC5 {w w':World}{e:TypeId}{v:Value}{m:Nat}{xs:List Value}(b:OwnR w' e 1 v (0+m) ([]++xs))(f:(w.alloc (.cells #[] e)).grownBy w' (some w.heap.size))(i:v.ownBlock=some w.heap.size∨∃g,v.ownBlock=some g∧(w.alloc (.cells #[] e)).heap.size≤g) :
  OwnR w' e 1 v m xs∧(∀k,v.ownBlock=some k→w.heap.size≤k)∧Below w.heap.size w w':=by
 rw[Nat.zero_add,List.nil_append]at b;refine⟨b,fun k c=>?_,(zAD w _).trans ((Chg.of_grown f).below (by simp) fun k c e=>?_)⟩
 ·rcases i with h|⟨g,h,d⟩
  ·rw[h]at c;cases c;exact Nat.le_refl _
  ·rw[h]at c;cases c;simp at d;omega
 ·have:=Option.some.inj e;omega
def zAJ.upto (M:zAJ)(z:Int):Nat:=min (z-(M.number:Int)).toNat M.entries.length
section
variable {w1 w2:World} {j r:Nat} {pre:ByteArray} {D:zAA} {M:zAJ} {Hot Cold:Nat→Prop}
theorem grp_min_yes {m k:Nat}{e:Ent}(b:M.entries[k]?=some e)(c:e.kind=2)(d:k+1≤m):M.grpIn (min (k+1) m)=(e.nodes,M.number+k+1):=by
 rw[Nat.min_eq_left d];exact grpIn_yes b c
theorem grp_min_no {m k:Nat}{e:Ent}(c:M.entries[k]?=some e)(h:e.kind≠2∨¬k+1≤m):M.grpIn (min (k+1) m)=M.grpIn (min k m):=by
 by_cases b:k+1≤m
 ·rw[Nat.min_eq_left b,Nat.min_eq_left (by omega)];exact grpIn_no c (h.resolve_right fun h=>h b)
 ·rw[Nat.min_eq_right (by omega),Nat.min_eq_right (by omega)]
theorem rjgrpAt_calls (h:RJF w1 j r pre D M Hot Cold)(z:Int)(aF:(M.number:Int)≤z)(aE:z≤9223372036854775807) :
  Calls prog 119 #[.pointer (some ⟨j,0,none⟩),.int .i64 z] w1 (zBX w1 (M.grpIn (M.upto z))):=by
 obtain⟨i0,hi,an,ao,ap⟩:=info_parts (show(prog.info? 3).map (fun i=>(i.zero,i.size,i.bytes))=some (some (.int .i64 0),1,8) by kernel_rfl);have a:=h.okM.last;have am:=h.okM.group;have Z:=zh h.okM.ents;obtain⟨O,own,gv,dv,ev,vs,v,L,V,hR,hO,hC,hH⟩:=h;have HJ:=zh V;have c0:=V.c 0 rfl;have c2:=V.c 2 rfl;have c8:=V.c 8 rfl;obtain⟨pg,cg,ae⟩:=V.group.slice;obtain⟨p8,au,X⟩:=V.row.shape;rw[ae]at c2;rw[X]at c8;have ar:=zh (ae▸V.group);have ay:=(zDt am).2;unfold zAJ.last at a;clear hR hO hC hH am ae;obtain⟨m,hm⟩:∃m,m=M.upto z:=⟨_,rfl⟩;rw[←hm];have Hm:=zW (∀k,k<M.entries.length→(k+1≤m↔(M.number:Int)+k+1≤z)) (fun k hk=>by
  rw[hm];unfold zAJ.upto;omega)
 have aw:m≤M.entries.length:=by
  rw[hm];exact Nat.min_le_right _ _
 clear hm;generalize hb:M.number=b at *;generalize hn:M.entries.length=n at *;generalize Y:M.group.length=U at *;have Hn:=zh hn;have T:=zh Y;clear hn Y;have ax:IntKind.i64.wrap ((n:Int)-1)=(n:Int)-1:=IntWalk.i64_in _ (by omega);clear V
 go_enter func119,ntmps119
 go_wp2_with fail
 go_loopw [6] (fun x wr=>∃k:Nat,k≤n∧x=.int .i64 ((k:Int)-1)∧M.grpIn m=M.grpIn (min k m)∧Below w1.heap.size w1 wr) (fun x _=>(intOf x+1).toNat)
 case atStart=>exact⟨n,Nat.le_refl _,rfl,by rw[Nat.min_eq_right aw],Below.refl _ _⟩
 case round =>
  obtain⟨k,hk,rfl,Q,f⟩:=hrel;have ah:=zAH c0 f;have ai:=zAH c2 f;have aj:=zAH c8 f;cases k with
  | zero =>
   have G:=zh Q;have HB:=zh f;have B:=zh (f.trans (⟨rfl,rfl,rfl,Nat.le_refl _,fun _ _=>rfl⟩:Below w1.heap.size wr wr.drew));have t:=zh (fun W (hb2:Below wr.drew.heap.size wr.drew W)=>(show zAM W 1 (.slice pg U cg) U (zFq M.group) by
    have h1:zBe W (.slice pg U cg) M.group:=zAM.chg ar.o (Chg.of_below ((f.trans (⟨rfl,rfl,rfl,Nat.le_refl _,fun _ _=>rfl⟩:Below w1.heap.size wr wr.drew)).trans (hb2.mono f.size))) fun _ _=>id;unfold zBe at h1;rwa[T.o]at h1))
   have ak:decide ((0:Int)≤((0:Nat):Int)-1)=false:=by decide
   clear Q f aj;go_wp2_with fail;refine ost (fun w':World=>w'.cell? ⟨j,2,none⟩=some (.slice pg U cg)∧w'.cell? ⟨j,0,none⟩=some (.int .i64 (b:Int))) 14 (⟨ai,ah⟩) fun d=>?_;generalize wr.drew=W1 at *;refine Pl [1,2,3,4,5,7,8,9,10,11] ?_
   iterate 10 (refine Pc rfl ?_;simp only[uZ])
   refine Pn ?_;refine oon 0 rfl fun K I=>?_;have A:=zh (zAD W1 (.cells #[] 3));have aa:=zh (And.intro (zAH d.1 A.o) (zAH d.2 A.o));have p:=zh d;go_wp2_with fail;refine I.o _ _ (aa.o) fun d=>?_;clear I
   try simp only[uZ]
   refine oon 6 rfl fun K I=>?_;have F:=zh (zAx W1 3);have H:=zh (t.o _ A.o);refine zAn (.tmp 56) (.tmp 61) 38 rfl 3 i0 (.int .i64 0) 1 8 underlying38 hi an ao ap rfl (by decide) (.slice (some ⟨W1.heap.size,0,none⟩) 0 0) 0 [] rfl F.o (.slice pg U cg) U _ rfl H.o (fun u hu=>by obtain⟨z,-,rfl⟩:=List.mem_map.1 hu;rfl) (by unfold maxLen;omega) (by omega) ?_;intro v4 w4 s l q;have P:=zh (zC5 s l q);have ab:=zh (And.intro (zAH p.o.1 P.o.2.2) (zAH p.o.2 P.o.2.2));clear s l q F H;obtain⟨p4,c4,rfl⟩:=OwnR.shape P.o.1;refine I.o _ _ (ab.o) fun d=>?_;clear I
   try simp only[uZ]
   refine Pl [12,13] ?_
   iterate 2 (refine Pc rfl ?_;simp only[uZ])
   refine Pn ?_;have HE:=zW (zBX w1 (M.grpIn m) (.returned (.tuple #[.slice p4 U c4,.int .i64 (b:Int)])) w4) (by
    have hE:=P.o;rw[G.o,Nat.zero_min];refine⟨.slice p4 U c4,?_,?_,fun y hy=>Nat.le_trans B.o.size (hE.2.1 y hy),B.o.trans (hE.2.2.mono B.o.size)⟩
    ·show _=Ending.returned (.tuple #[_,.int .i64 (M.number:Int)])
     rw[hb]
    ·show zCm w4 _ M.group
     unfold zCm;rw[T.o];exact hE.1)
   refine odn ?_;go_wp2_with fail
   go_ret2
   exact HE.o
  | succ k =>
   have af:k<M.entries.length:=by rw[Hn.o];omega
   have he:=List.getElem?_eq_getElem af;obtain⟨g,c,v,ad,-,ac,k0,k1,k2,k3⟩:=HJ.o.ent he;rw[X]at ad;rw[Hn.o]at ad;cases ad;have hf:=zBE (Z.o _ (List.getElem_mem af));have R:=fun h1 h2=>grp_min_yes (m:=m) he h1 h2;have J:=fun h1=>grp_min_no (m:=m) he h1;generalize M.entries[k]=e at *;have N:=Hm.o k (by omega);obtain⟨pn,cn,en⟩:=ac.nodes.slice;rw[en]at k3;have k1:=zAH k1 f;have k3:=zAH k3 f;have t:=zh (fun W (hb2:Below wr.drew.heap.size wr.drew W)=>(show zAM W 1 (.slice pn e.nodes.length cn) e.nodes.length (zFq e.nodes) by
    rw[←en];exact zAM.chg ac.nodes (Chg.of_below ((f.trans (⟨rfl,rfl,rfl,Nat.le_refl _,fun _ _=>rfl⟩:Below w1.heap.size wr wr.drew)).trans (hb2.mono f.size))) fun _ _=>id))
   have G:=zh Q;have HB:=zh f;have B:=zh (f.trans (⟨rfl,rfl,rfl,Nat.le_refl _,fun _ _=>rfl⟩:Below w1.heap.size wr wr.drew));have ak:decide ((0:Int)≤((k+1:Nat):Int)-1)=true:=decide_eq_true (by omega);have al:((k+1:Nat):Int)-1=(k:Int):=by omega
   rw[al]at ak ⊢;have aB:e.nodes.length≤7:=by omega
   have az:k≤1099511627776:=by omega
   have aA:k<n:=by omega
   clear Q f ai af he ac en hf al;obtain⟨x0,ag⟩:∃x0,x0=b+k:=⟨_,rfl⟩;obtain⟨x1,S⟩:∃x1,x1=b+k+1:=⟨_,rfl⟩;have aC:IntKind.i64.wrap ((b:Int)+(k:Int))=(x0:Int):=by rw[IntWalk.i64_in _ (by omega)];omega
   have aD:IntKind.i64.wrap ((x0:Int)+1)=(x1:Int):=by rw[IntWalk.i64_in _ (by omega)];omega
   have aq:=zh S
   by_cases C:e.kind=2
   ·have hq:(e.kind==2)=true:=by simpa using C
    by_cases E:k+1≤m
    ·have av:decide ((x1:Int)≤z)=true:=decide_eq_true (by have:=N.1 E;omega);have HG:=zh (R C E);clear R J N C E ag S a;go_wp2_with fail;refine ost (fun w':World=>w'.cell? ⟨j,8,none⟩=some (.slice (some ⟨g,0,none⟩) n au)∧w'.cell? ⟨g,k*4+3,none⟩=some (.slice pn e.nodes.length cn)∧w'.cell? ⟨j,0,none⟩=some (.int .i64 (b:Int))) 20 (⟨aj,k3,ah⟩) fun d=>?_;generalize wr.drew=W1 at *;refine Pl [1,2,3,4,5,6,7,8,10,11,12,13,14,15,16,17] ?_
     iterate 16 (refine Pc rfl ?_;simp only[uZ])
     refine Pn ?_;refine oon 0 rfl fun K I=>?_;have A:=zh (zAD W1 (.cells #[] 3));have aa:=zh (And.intro (zAH d.1 A.o) (And.intro (zAH d.2.1 A.o) (zAH d.2.2 A.o)));have p:=zh d;go_wp2_with fail;refine I.o _ _ (aa.o) fun d=>?_;clear I
     try simp only[uZ]
     refine oon 9 rfl fun K I=>?_;have F:=zh (zAx W1 3);have H:=zh (t.o _ A.o);refine zAn (.tmp 38) (.tmp 46) 38 rfl 3 i0 (.int .i64 0) 1 8 underlying38 hi an ao ap rfl (by decide) (.slice (some ⟨W1.heap.size,0,none⟩) 0 0) 0 [] rfl F.o (.slice pn e.nodes.length cn) e.nodes.length _ rfl H.o (fun u hu=>by obtain⟨z,-,rfl⟩:=List.mem_map.1 hu;rfl) (by unfold maxLen;omega) (by omega) ?_;intro v4 w4 s l q;have P:=zh (zC5 s l q);have ab:=zh (And.intro (zAH p.o.1 P.o.2.2) (And.intro (zAH p.o.2.1 P.o.2.2) (zAH p.o.2.2 P.o.2.2)));clear s l q F H;obtain⟨p4,c4,rfl⟩:=OwnR.shape P.o.1;refine I.o _ _ (ab.o) fun d=>?_;clear I
     try simp only[uZ]
     refine Pl [18,19] ?_
     iterate 2 (refine Pc rfl ?_;simp only[uZ])
     refine Pn ?_;have HE:=zW (zBX w1 (M.grpIn m) (.returned (.tuple #[.slice p4 e.nodes.length c4,.int .i64 (x1:Int)])) w4) (by
      have hE:=P.o;rw[G.o,HG.o];refine⟨.slice p4 e.nodes.length c4,?_,hE.1,fun y hy=>Nat.le_trans B.o.size (hE.2.1 y hy),B.o.trans (hE.2.2.mono B.o.size)⟩
      show _=Ending.returned (.tuple #[_,.int .i64 ((M.number+k+1:Nat):Int)])
      rw[hb,←aq.o])
     refine odn ?_;go_wp2_with fail
     go_ret2
     exact HE.o
    ·have av:decide ((x1:Int)≤z)=false:=decide_eq_false (by have:=fun h=>E (N.2 h);omega);have HG:=zh (J (.inr E));clear R J N C E ag S a;go_wp2_with fail;go_roundw
     case rel=>exact⟨k,by omega,rfl,G.o.trans HG.o,HB.o⟩
     case measure =>
      show((k:Int)-1+1).toNat<((k:Int)+1).toNat
      omega
   ·have hq:(e.kind==2)=false:=by simpa using C
    have HG:=zh (J (.inl C));clear R J N C ag S a;go_wp2_with fail;go_roundw
    case rel=>exact⟨k,by omega,rfl,G.o.trans HG.o,HB.o⟩
    case measure =>
     show((k:Int)-1+1).toNat<((k:Int)+1).toNat
     omega
theorem upto_all (M:zAJ){z:Int}(h:(M.last:Int)≤z):M.upto z=M.entries.length:=by
 unfold zAJ.upto;unfold zAJ.last at h;omega
end
section
variable {w w1 w2:World} {j d:Nat} {pre:ByteArray} {D:zAA} {M:zAJ} {F F2:Nat→Prop}
theorem zCK {D':zAA}{M':zAJ}{k:Nat}{r:zAA×Nat×zAJ}(h:St w w2 d D' F)(f:Same F w1 w2)(c:r=(D',k,M'))(b:k≠0):zEr w w1 d pre F r (.returned (.tuple #[.pointer none,.int .i64 (k:Int)])) w2:=by
 subst c;exact⟨h,f,.inr ⟨b,rfl⟩⟩
theorem zE7 {D':zAA}{M':zAJ}{r:zAA×Nat×zAJ}(h:zAl w w2 j d pre D' M' F)(c:Same F w1 w2)(b:r=(D',0,M')):zEr w w1 d pre F r (.returned (.tuple #[.pointer (some ⟨j,0,none⟩),.int .i64 0])) w2:=by
 subst b;exact⟨h.stF,c,.inl ⟨rfl,j,rfl,h⟩⟩
theorem jou_data (h:zAl w w1 j d pre D M F){dv:Value}{b:Bs}(r:zAj w1 5 dv b)(hF:∀k,dv.ownBlock=some k→F k∧w.heap.size≤k)(g:∀k,F2 k→F k∧dv.ownBlock≠some k)(y:b.length≤1073741824) :
  zAl w (w1.setCell ⟨j,7,none⟩ dv) j d pre D {M with data:=b} F2∧Same F2 w1 (w1.setCell ⟨j,7,none⟩ dv):=by
 obtain⟨own,gv,t,ev,vs,f,hS,hn,z⟩:=h;have n:∀k,dv.ownBlock=some k→¬own k:=fun k c l=>(hn k l).2 (hF k c).1;have o:∀k,k≠j→(w1.setCell ⟨j,7,none⟩ dv).heap[k]?=w1.heap[k]?:=fun k c=>set_other _ c;have m:∀k,dv.ownBlock=some k→k≠j:=fun k c e=>n k c (e▸f.ol);refine zAl.turned2 (M':={M with data:=b}) (own':=fun k=>own k∨dv.ownBlock=some k) (gv':=gv) (dv':=dv) (ev':=ev) (vs':=vs) hS hn z ⟨?_,OwnR.keep f.group fun k c=>o k (f.og k c).2.1,OwnR.keep r fun k c=>o k (m k c),f.row.keep fun k c=>o k (f.oe k c).2,⟨f.rows.1,fun i e v p q=>(f.rows.2 i e v p q).keep fun k c=>o k (f.ov v (List.mem_of_getElem? q) k c).2.1⟩,.inl f.ol,fun k c=>⟨.inl (f.og k c).1,(f.og k c).2⟩,fun k c=>⟨.inr c,m k c,fun e=>n k c (f.oe k e).1⟩,fun k c=>⟨.inl (f.oe k c).1,(f.oe k c).2⟩,fun u s k c=>⟨.inl (f.ov u s k c).1,(f.ov u s k c).2⟩,fun k c=>?_,f.psz,⟨f.ok.last,f.ok.term,f.ok.group,f.ok.now,f.ok.vote,y,f.ok.ents⟩⟩ ((Chg.setCell w1 ⟨j,7,none⟩ dv).mono fun x _ e=>by rw[e];exact f.ol) (fun k c=>?_) fun k c=>⟨(g k c).1,fun l=>?_⟩
 ·have p:=zAC f.cells 7 dv;simpa using p
 ·have:k<w1.heap.size:=c.elim (f.olt k) fun h=>OwnR.lt r h;simpa[World.setCell]using this
 ·exact c.imp id fun h=>.inr (hF k h)
 ·rcases l with l|l
  ·exact(hn k l).2 (g k c).1
  ·exact(g k c).2 l
theorem zFt (h:St w w1 d D F)(bP:D.room≤1048576)(pre:ByteArray){nodes:List Int}{pn:Option Addr}{nn cn:Nat}(hx:zBe w1 (.slice pn nn cn) nodes)(bu:nodes.length≤1099511627776) :
  Calls prog 17 #[.pointer (some ⟨d,0,none⟩),.string pre,.slice pn nn cn] w1 (zEr w w1 d pre F (zAS D (nm pre) nodes)):=by
 have aH:(nm pre).length=pre.size:=nm_len pre;have aN:=zh (zEU hx bu)
 by_cases hp:pre.size<1∨20<pre.size
 ·have p:=zh (zCK (pre:=pre) (k:=1) h (fun _ _=>rfl) (oj_arg (pre:=nm pre) (nodes:=nodes) (by rw[aH];exact hp.elim .inl fun h=>.inr (.inl h))) (by decide));clear h aH hx;generalize bS:pre.size=z at *
  by_cases hz:z<1
  ·have bR:z=0:=by omega
   subst bR
   go_enter func17,ntmps17
   go_wp2_with fail
   go_ret2
   exact p.o
  ·have bY:20<z:=by omega
   go_enter func17,ntmps17
   go_wp2_with fail
   go_ret2
   exact p.o
 ·cases aj:zAX nodes with
  | false =>
   rw[aj]at aN;have p:=zh (zCK (pre:=pre) (k:=1) h (fun _ _=>rfl) (oj_arg (pre:=nm pre) (nodes:=nodes) (.inr (.inr aj))) (by decide));clear h aH hx aj;generalize bS:pre.size=z at *
   go_enter func17,ntmps17
   go_wp2_with fail;refine aN.o.mono ?_;rintro e w2 ⟨rfl,rfl⟩;go_wp2_with fail
   go_ret2
   exact p.o
  | true =>
   rw[aj]at aN;have bg:1≤pre.size∧pre.size≤20:=by omega
   have ac:¬((nm pre).length<1∨20<(nm pre).length∨zAX nodes=false):=by
    rw[aH];rintro(h|h|h)
    ·omega
    ·omega
    ·rw[aj]at h;cases h
   obtain⟨O⟩:=zGQ D (nm pre) nodes;have aF:=zGa D (zAF (zAm (nm pre)));rw[O.h1]at aF;have aG:=zGa O.D1 (zAF (zBL (nm pre)));rw[O.h2]at aG;have L:=zh (show O.D2.room≤1048576 by have h1:O.D1.room=D.room:=aF;have h2:O.D2.room=O.D1.room:=aG;omega);have bm:=zh O.h1;have bn:=zh O.h2;have bo:=zh O.hs;have bb:=zh O.hl;have bD:=zh (oj_e1 O ac);have bE:=zh (oj_e2 O ac);have aV:=zh (oj_e3 O ac);have aI:=zh (oj_e4 O ac);have aK:=zh (oj_no O ac);have aJ:=zh (fun M=>oj_keep O ac (M:=M));have ap:=zh (fun M=>oj_anew O ac (M:=M));clear aF aG;generalize O.D1=D1 at *;generalize O.e1=e1 at *;generalize O.D2=D2 at *;generalize O.e2=e2 at *;generalize O.s=sn at *;generalize O.l=li at *;clear O;obtain⟨ks,so⟩:=sn;obtain⟨D3,e3,a3,v⟩:=li;have aV:=zW (e1=0→e2=0→ks≠0→zAS D (nm pre) nodes=(D2,ks,zAJ.none0 nodes)) aV.o;have aI:=zW (e1=0→e2=0→ks=0→e3≠0→zAS D (nm pre) nodes=(D3,e3,zAJ.none0 nodes)) aI.o;have aK:=zW (e1=0→e2=0→ks=0→e3=0→zAi so v a3=none→zAS D (nm pre) nodes=(D3,3,zAJ.none0 nodes)) aK.o;have aJ:=zW (∀M,e1=0→e2=0→ks=0→e3=0→zAi so v a3=some (false,M)→zAS D (nm pre) nodes=(D3,0,M)) aJ.o;have ap:=zW (∀M,e1=0→e2=0→ks=0→e3=0→zAi so v a3=some (true,M)→zAS D (nm pre) nodes=((zAU D3 (nm pre) M).1,(zAU D3 (nm pre) M).2,M)) ap.o;have bK:=zh (zD1 hx bu);have HS:=zh h;have bU:=bg.1;have bV:=bg.2;have bA:(zCT pre).size=pre.size+4:=zFa pre;have aU:(sSnp pre).size=pre.size+5:=zGe pre;have bL:=zh aj;have i0:∀(W:World) (a b:ByteArray),(Instr.index 133 (.agg #[.string a,.string b]) (.int .i64 0)).run prog W=.ok (.string a) W:=fun _ _ _=>by kernel_rfl
   have i1:∀(W:World) (a b:ByteArray),(Instr.index 133 (.agg #[.string a,.string b]) (.int .i64 1)).run prog W=.ok (.string b) W:=fun _ _ _=>by kernel_rfl
   clear h aH hx aj ac hp
   go_enter func17,ntmps17
   go_wp2_with fail;refine aN.o.mono ?_;rintro e w2 ⟨rfl,rfl⟩;go_wp2_with fail;refine bK.o.mono ?_;rintro e w3 ⟨gv,rfl,aR,aP,g⟩;obtain⟨pg,cg,rfl,-⟩:=zAw aR;have bF:=zh (jou_fresh (F:=F) (HS.o.move (F':=fun k=>F k∨(Value.slice pg nodes.length cg).ownBlock=some k) (Chg.of_below g) (fun _ _ h=>h.elim) fun k m=>m.elim (fun h=>⟨.inl h,Nat.lt_of_lt_of_le (HS.o.flt h) g.size⟩) fun h=>⟨.inr (aP k h),OwnR.lt aR h⟩) pre bg bL.o aR fun k m=>⟨Nat.le_trans HS.o.below.size (aP k m),fun hf=>by have h1:=HS.o.flt hf;have h2:=aP k m;omega⟩);have bI:=zW (Same F w2 (w3.alloc (.cells #[.int .i64 0,.int .i64 0,.slice pg nodes.length cg,.pointer (some ⟨d,0,none⟩),.string pre,.int .i64 0,.int .i64 (-1),.slice none 0 0,.slice none 0 0,.bool false] 132))) fun k m=>((zAD w3 (.cells #[.int .i64 0,.int .i64 0,.slice pg nodes.length cg,.pointer (some ⟨d,0,none⟩),.string pre,.int .i64 0,.int .i64 (-1),.slice none 0 0,.slice none 0 0,.bool false] 132)).block k (Nat.lt_of_lt_of_le (HS.o.flt m) g.size)).trans (g.block k (HS.o.flt m));clear aR aP g;generalize bQ:w2=w1 at *;clear bQ;go_wp2_with fail;generalize w3.heap.size=j at *;generalize w3.alloc (.cells #[.int .i64 0,.int .i64 0,.slice pg nodes.length cg,.pointer (some ⟨d,0,none⟩),.string pre,.int .i64 0,.int .i64 (-1),.slice none 0 0,.slice none 0 0,.bool false] 132)=W0 at *
   go_loopw [51] (fun x wr=>Same F w1 wr∧((x=.int .i64 0∧zAl w wr j d pre D (zAJ.none0 nodes) F)∨(x=.int .i64 1∧e1=0∧zAl w wr j d pre D1 (zAJ.none0 nodes) F)∨(x=.int .i64 2∧e1=0∧e2=0∧zAl w wr j d pre D2 (zAJ.none0 nodes) F))) (fun i _=>2-(intOf i).toNat)
   case atStart=>exact⟨bI.o,.inl ⟨rfl,bF.o⟩⟩
   case round =>
    obtain⟨ad,hx⟩:=hrel;rcases hx with⟨rfl,hJ⟩|⟨rfl,aA,hJ⟩|⟨rfl,aA,bs,hJ⟩
    ·have r:=zh (jou_read hJ (zBT (zCT pre)) (by rw[zCN,bA];omega));rw[zEj,zBw]at r;have I:=zh hJ;have ah:=zh ad;cases hg:Sat.get (zAF (zAm (nm pre))) D.files with
     | none =>
      have hr:D.rid1 (zAF (zAm (nm pre)))=(D,0):=by unfold zAA.rid1;rw[hg];rfl
      have aa:=bm.o;rw[hr]at aa;have aC:D=D1:=congrArg Prod.fst aa;have aD:0=e1:=congrArg Prod.snd aa;have aE:zDe (none:Option zAT)=7:=rfl;rw[hg,aE]at r;have Q:=zW (e1=0) aD.symm;have H:=zW (zAl w wr j d pre D1 (zAJ.none0 nodes) F) (aC▸I.o);clear hJ ad hg hr aa aC aD aE;go_wp2_with fail;refine r.o.mono ?_;rintro e w3 ⟨v3,rfl,-,-,g⟩;have p:=zh (And.intro (ah.o.trans (I.o.same g)) (H.o.next g));clear g r;go_wp2_with fail;go_roundw
      case rel=>first|exact⟨p.o.1,.inr (.inl ⟨rfl,Q.o,p.o.2⟩)⟩|((repeat apply Exists.intro);exact⟨⟨p.o.1,.inr (.inl ⟨rfl,Q.o,p.o.2⟩)⟩,rfl⟩)
      case measure=>simp[intOf]
     | some f =>
      have hr:D.remove [zAF (zAm (nm pre))]=(D1,e1):=by
       have:=bm.o;unfold zAA.rid1 at this;rw[hg]at this;exact this
      have aB:zDe (some f)=0:=rfl;rw[hg,aB]at r;have L:=zh (fun W (h:zAl w W j d pre D (zAJ.none0 nodes) F)=>show Calls prog 76 #[.pointer (some ⟨d,0,none⟩),.slice (some ⟨W.heap.size,0,none⟩) 1 1] (W.alloc (.cells #[.string (zBT (zCT pre))] 9)) fun e w'=>e=.returned (.int .i64 (e1:Int))∧zAl w w' j d pre D1 (zAJ.none0 nodes) F∧Same F W w'∧w'.heap[j]?=W.heap[j]? by
       have:=jou_remove h (zBT (zCT pre)) (by rw[zCN,bA];omega);rwa[zEj,zBw,hr]at this)
      clear hJ ad hg hr aB
      by_cases he:e1=0
      ·have Q:=zh he;rw[he]at L;clear he;go_wp2_with fail;refine r.o.mono ?_;rintro e w3 ⟨v3,rfl,-,-,g⟩;have ae:=zh (I.o.next g);have af:=zh (ah.o.trans (I.o.same g));clear g r;go_wp2_with fail;refine(L.o w3 ae.o).mono ?_;rintro e Y ⟨rfl,T,G,-⟩;have p:=zh (And.intro (af.o.trans G) T);clear T G L;go_wp2_with fail;go_roundw
       case rel=>first|exact⟨p.o.1,.inr (.inl ⟨rfl,Q.o,p.o.2⟩)⟩|((repeat apply Exists.intro);exact⟨⟨p.o.1,.inr (.inl ⟨rfl,Q.o,p.o.2⟩)⟩,rfl⟩)
       case measure=>simp[intOf]
      ·have al:((e1:Int) != 0)=true:=by simp;omega
       have J:=zh (bD.o he);have He:=zh he;clear he;go_wp2_with fail;refine r.o.mono ?_;rintro e w3 ⟨v3,rfl,-,-,g⟩;have ae:=zh (I.o.next g);have af:=zh (ah.o.trans (I.o.same g));clear g r;go_wp2_with fail;refine(L.o w3 ae.o).mono ?_;rintro e Y ⟨rfl,T,G,-⟩;have p:=zh (zCK (pre:=pre) (w1:=w1) T.stF (af.o.trans G) J.o He.o);clear T G L;go_wp2_with fail
       go_ret2
       exact p.o
    ·have B:=zh aA;clear aA;have r:=zh (jou_read hJ (zBT (sSnp pre)) (by rw[zCN,aU];omega));rw[zEj,nm_snp]at r;have I:=zh hJ;have ah:=zh ad;cases hg:Sat.get (zAF (zBL (nm pre))) D1.files with
     | none =>
      have hr:D1.rid1 (zAF (zBL (nm pre)))=(D1,0):=by unfold zAA.rid1;rw[hg];rfl
      have aa:=bn.o;rw[hr]at aa;have aC:D1=D2:=congrArg Prod.fst aa;have aD:0=e2:=congrArg Prod.snd aa;have aE:zDe (none:Option zAT)=7:=rfl;rw[hg,aE]at r;have Q:=zW (e2=0) aD.symm;have H:=zW (zAl w wr j d pre D2 (zAJ.none0 nodes) F) (aC▸I.o);clear hJ ad hg hr aa aC aD aE;go_wp2_with fail;refine r.o.mono ?_;rintro e w3 ⟨v3,rfl,-,-,g⟩;have p:=zh (And.intro (ah.o.trans (I.o.same g)) (H.o.next g));clear g r;go_wp2_with fail;go_roundw
      case rel=>first|exact⟨p.o.1,.inr (.inr ⟨rfl,B.o,Q.o,p.o.2⟩)⟩|((repeat apply Exists.intro);exact⟨⟨p.o.1,.inr (.inr ⟨rfl,B.o,Q.o,p.o.2⟩)⟩,rfl⟩)
      case measure=>simp[intOf]
     | some f =>
      have hr:D1.remove [zAF (zBL (nm pre))]=(D2,e2):=by
       have:=bn.o;unfold zAA.rid1 at this;rw[hg]at this;exact this
      have aB:zDe (some f)=0:=rfl;rw[hg,aB]at r;have L:=zh (fun W (h:zAl w W j d pre D1 (zAJ.none0 nodes) F)=>show Calls prog 76 #[.pointer (some ⟨d,0,none⟩),.slice (some ⟨W.heap.size,0,none⟩) 1 1] (W.alloc (.cells #[.string (zBT (sSnp pre))] 9)) fun e w'=>e=.returned (.int .i64 (e2:Int))∧zAl w w' j d pre D2 (zAJ.none0 nodes) F∧Same F W w'∧w'.heap[j]?=W.heap[j]? by
       have:=jou_remove h (zBT (sSnp pre)) (by rw[zCN,aU];omega);rwa[zEj,nm_snp,hr]at this)
      clear hJ ad hg hr aB
      by_cases he:e2=0
      ·have Q:=zh he;rw[he]at L;clear he;go_wp2_with fail;refine r.o.mono ?_;rintro e w3 ⟨v3,rfl,-,-,g⟩;have ae:=zh (I.o.next g);have af:=zh (ah.o.trans (I.o.same g));clear g r;go_wp2_with fail;refine(L.o w3 ae.o).mono ?_;rintro e Y ⟨rfl,T,G,-⟩;have p:=zh (And.intro (af.o.trans G) T);clear T G L;go_wp2_with fail;go_roundw
       case rel=>first|exact⟨p.o.1,.inr (.inr ⟨rfl,B.o,Q.o,p.o.2⟩)⟩|((repeat apply Exists.intro);exact⟨⟨p.o.1,.inr (.inr ⟨rfl,B.o,Q.o,p.o.2⟩)⟩,rfl⟩)
       case measure=>simp[intOf]
      ·have al:((e2:Int) != 0)=true:=by simp;omega
       have J:=zh (bE.o B.o he);have He:=zh he;clear he;go_wp2_with fail;refine r.o.mono ?_;rintro e w3 ⟨v3,rfl,-,-,g⟩;have ae:=zh (I.o.next g);have af:=zh (ah.o.trans (I.o.same g));clear g r;go_wp2_with fail;refine(L.o w3 ae.o).mono ?_;rintro e Y ⟨rfl,T,G,-⟩;have p:=zh (zCK (pre:=pre) (w1:=w1) T.stF (af.o.trans G) J.o He.o);clear T G L;go_wp2_with fail
       go_ret2
       exact p.o
    ·have B:=zh aA;have X:=zh bs;have aq:=zh hJ;have bJ:=zh ad;have bp:=zh (rsnap_calls hJ);rw[bo.o]at bp;have ay:=zh (fun(h3:e3=0)=>zCS hJ.okD L.o (show(zAJ.none0 nodes).entries=[]from rfl) (bb.o.trans (by rw[h3])));clear aA bs hJ ad;go_wp2_with fail;refine bp.o.mono ?_;intro e Y hT;obtain⟨aO,n,t,gp,gn,gc,dv,rfl,bB⟩:=hT;have am:=zh (aq.o.next aO);have aY:=zh (bJ.o.trans (aq.o.same aO));have ba:=zh aO;have bq:=zh bB;clear aO bB
     by_cases an:ks=0
     ·have K:=zh an;cases so with
      | none =>
       have av:=zh (rlog_calls (am.o.box (.cells #[.int .i64 n,.int .i64 t,.slice gp gn gc] 130)) (show(zAJ.none0 nodes).entries=[]from rfl));rw[bb.o]at av;have aw:=zh (aY.o.trans (am.o.same (zAD Y (.cells #[.int .i64 n,.int .i64 t,.slice gp gn gc] 130))));have bh:=zh (zAI Y (.cells #[.int .i64 n,.int .i64 t,.slice gp gn gc] 130));subst an;go_wp2_with fail;generalize Y.alloc (.cells #[.int .i64 n,.int .i64 t,.slice gp gn gc] 130)=w5 at *;refine av.o.mono ?_;rintro e w6 ⟨rfl,U,P,ak⟩
       by_cases N:e3=0
       ·have R:=zh N;have Z:=zh ((ak N).less (F':=F) fun k m=>.inl m);have ab:=zh (aw.o.trans fun k m=>P k (.inl m));subst N;clear U P ak;obtain⟨own,gv,bO,ev,vs,ai,-⟩:=id Z.o;have c0:=ai.c 0 rfl;clear ai
        by_cases aS:0<v.number
        ·have J:=zh (aK.o B.o X.o K.o R.o (show zAi none v a3=none by unfold zAi;exact if_pos aS));have p:=zh (fun q=>zCK (pre:=pre) (w1:=w1) (Z.o.drewN q).stF ab.o J.o (by decide));have d0:decide ((0:Int)<(v.number:Int))=true:=by simp;omega
         have bd:decide (0<v.number)=true:=by simp;omega
         clear aS;go_wp2_with fail
         go_quiet (fail)
         go_wp2_with fail
         go_quiet (fail)
         go_wp2_with fail
         go_ret2
         exact p.o _
        ·have H:=zW (zAi none v a3=some (a3,v)) (by unfold zAi;exact if_neg aS);have d0:decide ((0:Int)<(v.number:Int))=false:=by simp;omega
         have bd:decide (0<v.number)=false:=by simp;omega
         clear aS;cases a3 with
         | false =>
          have J:=zh (aJ.o v B.o X.o K.o R.o H.o);have p:=zh (fun q=>zE7 (pre:=pre) (w1:=w1) (Z.o.drewN q) ab.o J.o);go_wp2_with fail
          go_quiet (fail)
          go_wp2_with fail
          go_quiet (fail)
          go_wp2_with fail
          go_ret2
          exact p.o _
         | true =>
          have au:=ap.o v B.o X.o K.o R.o H.o;go_wp2_with fail
          go_quiet (fail)
          go_wp2_with fail
          go_quiet (fail)
          go_wp2_with fail;generalize E:(World.drewN _ _)=WQ;have ar:=zW (zAl w WQ j d pre D3 v F) (by rw[←E];exact Z.o.drewN _);have ag:=zW (Same F w1 WQ) (by rw[←E];exact ab.o);clear E c0;cases V:zAU D3 (nm pre) v with
          | mk D4 e4 =>
           have C:=zW (Calls prog 80 #[.pointer (some ⟨j,0,none⟩)] WQ (zCJ w WQ j d pre v F (D4,e4))) (by
            have:=zDK ar.o (ay.o R.o);rwa[V]at this)
           have J:=au;rw[V]at J;have J:=zh J;clear V
           by_cases S:e4=0
           ·subst S;go_wp2_with fail;refine C.o.mono ?_;rintro e w9 ⟨rfl,y,A⟩;have p:=zh (zE7 (pre:=pre) (w1:=w1) y (ag.o.trans A) J.o);clear y A C;go_wp2_with fail
            go_ret2
            exact p.o
           ·have al:((e4:Int) != 0)=true:=by simp;omega
            have ax:=zh S;clear S;go_wp2_with fail;refine C.o.mono ?_;rintro e w9 ⟨rfl,y,A⟩;have p:=zh (zCK (pre:=pre) (w1:=w1) (show St w w9 d D4 F from y.stF) (ag.o.trans A) J.o ax.o);clear y A C;go_wp2_with fail
            go_ret2
            exact p.o
       ·have al:((e3:Int) != 0)=true:=by simp;omega
        have p:=zh (zCK (pre:=pre) (w1:=w1) (U.less (F:=F) fun k m=>.inl m) (aw.o.trans fun k m=>P k (.inl m)) (aI.o B.o X.o K.o N) N);clear U P ak N;go_wp2_with fail
        go_ret2
        exact p.o
      | some s =>
       obtain⟨rfl,rfl,bf,be,bv⟩:=bq.o s rfl;have bC:=snapOf_ok (o:=Sat.get (zBL (nm pre)) D2.files) (s:=s) (by rw[bo.o]);obtain⟨bZ,bX,eg,-⟩:=zAw bf;simp only[Value.slice.injEq]at eg;obtain⟨rfl,rfl,rfl⟩:=eg;obtain⟨pd,cd,rfl,-⟩:=zAN be;have br:=zh bC;have bc:=zh bv;have aX:=zh bf;have aW:=zh be;have bH:=zW (zAl w (Y.alloc (.cells #[.int .i64 (s.number:Int),.int .i64 s.term,.slice gp s.group.length gc] 130)) j d pre D2 (zAJ.none0 nodes) (fun k=>F k∨k=Y.heap.size∨((Value.slice gp s.group.length gc).ownBlock=some k∨(Value.slice pd s.data.length cd).ownBlock=some k))) ((aq.o.more (ba.o.trans ((zAD Y (.cells #[.int .i64 (s.number:Int),.int .i64 s.term,.slice gp s.group.length gc] 130)).mono ba.o.size)) fun k m=>by
        have G:Y.heap.size<(Y.alloc (.cells #[.int .i64 (s.number:Int),.int .i64 s.term,.slice gp s.group.length gc] 130)).heap.size:=by simp
        rcases m with m|m|m
        ·exact .inl m
        ·exact .inr ⟨by rw[m];exact ba.o.size,by rw[m];exact G⟩
        ·refine .inr ⟨bc.o k m,Nat.lt_trans ?_ G⟩;exact m.elim (OwnR.lt aX.o) (OwnR.lt aW.o)))
       have av:=zh (rlog_calls bH.o (show(zAJ.none0 nodes).entries=[]from rfl));rw[bb.o]at av;have aw:=zh (aY.o.trans (am.o.same (zAD Y (.cells #[.int .i64 (s.number:Int),.int .i64 s.term,.slice gp s.group.length gc] 130))));have bh:=zh (zAI Y (.cells #[.int .i64 (s.number:Int),.int .i64 s.term,.slice gp s.group.length gc] 130));have bj:=zh (zGR aX.o (zAD Y (.cells #[.int .i64 (s.number:Int),.int .i64 s.term,.slice gp s.group.length gc] 130)));have bi:=zh (zCL aW.o (zAD Y (.cells #[.int .i64 (s.number:Int),.int .i64 s.term,.slice gp s.group.length gc] 130)));have az:=zW (∀k,((Value.slice gp s.group.length gc).ownBlock=some k∨(Value.slice pd s.data.length cd).ownBlock=some k)→w.heap.size≤k∧¬F k) (fun k m=>⟨Nat.le_trans aq.o.bel.size (bc.o k m),fun hf=>by have h1:=aq.o.flt hf;have h2:=bc.o k m;omega⟩);have bW:=zW (∀k,((Value.slice gp s.group.length gc).ownBlock=some k∨(Value.slice pd s.data.length cd).ownBlock=some k)→k≠Y.heap.size) (fun k m e=>by
        have:=m.elim (OwnR.lt aX.o) (OwnR.lt aW.o);omega)
       have bT:=zW (∀k,F k→k≠Y.heap.size) (fun k hf e=>by have h1:=am.o.flt hf;omega);subst an;clear bf be bv bC;go_wp2_with fail;generalize Y.heap.size=b4 at *;generalize Y.alloc (.cells #[.int .i64 (s.number:Int),.int .i64 s.term,.slice gp s.group.length gc] 130)=w5 at *;refine av.o.mono ?_;rintro e w6 ⟨rfl,U,P,ak⟩
       by_cases N:e3=0
       ·have R:=zh N;have Z:=zh (ak N);have ab:=zh (aw.o.trans fun k m=>P k (.inl m));have aL:=zh ((P b4 (.inr (.inl rfl))).trans bh.o);have bk:=zh (OwnR.keep bj.o fun k m=>P k (.inr (.inr (.inl m))));have aT:=zh (OwnR.keep bi.o fun k m=>P k (.inr (.inr (.inr m))));subst N;clear U P ak;obtain⟨own,gv,bO,ev,vs,ai,-⟩:=id Z.o;have c0:=ai.c 0 rfl;have c7:=ai.c 7 rfl;have f7:=ai.fr 7;have z0:=zAW aL.o;have z1:=zAd aL.o;have z2:=zAb aL.o;clear ai
        by_cases ao:v.number<s.number
        ·have H:=zW (zAi (some s) v a3=some (true,v.rebase s)) (by unfold zAi;exact if_pos ao);have d0:decide ((v.number:Int)<(s.number:Int))=true:=by simp;omega
         have bd:decide (v.number<s.number)=true:=by simp;omega
         have au:=ap.o _ B.o X.o K.o R.o H.o;clear ao c7 f7;go_wp2_with fail
         go_quiet (fail)
         go_wp2_with fail;generalize E:(World.drewN _ _)=WQ;have ar:=zW (zAl w WQ j d pre D3 v _) (by rw[←E];exact Z.o.drewN _);have ag:=zW (Same F w1 WQ) (by rw[←E];exact ab.o);have aZ:=zW (WQ.heap[b4]?=some (.cells #[.int .i64 (s.number:Int),.int .i64 s.term,.slice gp s.group.length gc] 130 (0,0))) (by rw[←E];exact aL.o);have bM:=zh (zGM (F2:=F) ar.o br.o.1 (pg:=gp) (cg:=gc) (pd:=pd) (cd:=cd) (OwnR.keep bk.o fun k _=>by rw[←E];rfl) (OwnR.keep aT.o fun k _=>by rw[←E];rfl) (fun k m=>⟨.inr (.inr m),(az.o k m).1⟩) fun k m=>⟨.inl m,fun e=>(az.o k (.inl e)).2 m,fun e=>(az.o k (.inr e)).2 m⟩);have z0:=zAW aZ.o;have z1:=zAd aZ.o;have z2:=zAb aZ.o;clear E c0;go_wp2_with fail;refine bM.o.mono ?_;rintro e w7 ⟨rfl,bt,bw⟩;have bG:=zh bt;have bl:=zh (ag.o.trans bw);clear bt bw z0 z1 z2;go_wp2_with fail;cases V:zAU D3 (nm pre) (v.rebase s)with
         | mk D4 e4 =>
          have C:=zW (Calls prog 80 #[.pointer (some ⟨j,0,none⟩)] w7 (zCJ w w7 j d pre (v.rebase s) F (D4,e4))) (by
           have:=zDK bG.o (Nat.le_trans (zEE v s) (ay.o R.o));rwa[V]at this)
          have J:=au;rw[V]at J;have J:=zh J;clear V
          by_cases S:e4=0
          ·subst S;go_wp2_with fail;refine C.o.mono ?_;rintro e w9 ⟨rfl,y,A⟩;have p:=zh (zE7 (pre:=pre) (w1:=w1) y (bl.o.trans A) J.o);clear y A C;go_wp2_with fail
           go_ret2
           exact p.o
          ·have al:((e4:Int) != 0)=true:=by simp;omega
           have ax:=zh S;clear S;go_wp2_with fail;refine C.o.mono ?_;rintro e w9 ⟨rfl,y,A⟩;have p:=zh (zCK (pre:=pre) (w1:=w1) (show St w w9 d D4 F from y.stF) (bl.o.trans A) J.o ax.o);clear y A C;go_wp2_with fail
           go_ret2
           exact p.o
        ·have d0:decide ((v.number:Int)<(s.number:Int))=false:=by simp;omega
         have bd:decide (v.number<s.number)=false:=by simp;omega
         by_cases aQ:s.number<v.number
         ·have H:=zW (zAi (some s) v a3=none) (by unfold zAi;exact(if_neg ao).trans (if_pos aQ));have d1:decide ((s.number:Int)<(v.number:Int))=true:=by simp;omega
          have bN:decide (s.number<v.number)=true:=by simp;omega
          have p:=zh (fun q q2=>zCK (pre:=pre) (w1:=w1) (((Z.o.drewN q).drewN q2).stF.less (F:=F) fun k m=>.inl m) ab.o (aK.o B.o X.o K.o R.o H.o) (by decide));clear ao aQ c7 f7;go_wp2_with fail
          go_quiet (fail)
          go_wp2_with fail
          go_quiet (fail)
          go_wp2_with fail
          go_ret2
          exact p.o _ _
         ·have H:=zW (zAi (some s) v a3=some (a3,{v with data:=s.data})) (by unfold zAi;exact(if_neg ao).trans (if_neg aQ));have d1:decide ((s.number:Int)<(v.number:Int))=false:=by simp;omega
          have bN:decide (s.number<v.number)=false:=by simp;omega
          clear ao aQ;have aM:=zh (fun q=>jou_data (F2:=F) (Z.o.drewN q) (dv:=.slice pd s.data.length cd) (OwnR.keep aT.o fun _ _=>rfl) (fun k m=>⟨.inr (.inr (.inr m)),(az.o k (.inr m)).1⟩) (fun k m=>⟨.inl m,fun e=>(az.o k (.inr e)).2 m⟩) (Nat.le_trans br.o.2.1 (by decide)));cases a3 with
          | false =>
           have J:=zh (aJ.o _ B.o X.o K.o R.o H.o);have p:=zh (fun q=>zE7 (pre:=pre) (w1:=w1) (aM.o q).1 (ab.o.trans (aM.o q).2) J.o);go_wp2_with fail
           go_quiet (fail)
           go_wp2_with fail
           go_quiet (fail)
           go_wp2_with fail
           go_ret2
           exact p.o _
          | true =>
           have au:=ap.o _ B.o X.o K.o R.o H.o;go_wp2_with fail
           go_quiet (fail)
           go_wp2_with fail
           go_quiet (fail)
           go_wp2_with fail;generalize E:(World.setCell _ _ _)=WQ;have ar:=zW (zAl w WQ j d pre D3 {v with data:=s.data} F) (by rw[←E];exact(aM.o _).1);have ag:=zW (Same F w1 WQ) (by rw[←E];exact ab.o.trans (aM.o _).2);clear E c0 c7 f7 z0 z1 z2;cases V:zAU D3 (nm pre) {v with data:=s.data}with
           | mk D4 e4 =>
            have C:=zW (Calls prog 80 #[.pointer (some ⟨j,0,none⟩)] WQ (zCJ w WQ j d pre {v with data:=s.data} F (D4,e4))) (by
             have:=zDK ar.o (ay.o R.o);rwa[V]at this)
            have J:=au;rw[V]at J;have J:=zh J;clear V
            by_cases S:e4=0
            ·subst S;go_wp2_with fail;refine C.o.mono ?_;rintro e w9 ⟨rfl,y,A⟩;have p:=zh (zE7 (pre:=pre) (w1:=w1) y (ag.o.trans A) J.o);clear y A C;go_wp2_with fail
             go_ret2
             exact p.o
            ·have al:((e4:Int) != 0)=true:=by simp;omega
             have ax:=zh S;clear S;go_wp2_with fail;refine C.o.mono ?_;rintro e w9 ⟨rfl,y,A⟩;have p:=zh (zCK (pre:=pre) (w1:=w1) (show St w w9 d D4 F from y.stF) (ag.o.trans A) J.o ax.o);clear y A C;go_wp2_with fail
             go_ret2
             exact p.o
       ·have al:((e3:Int) != 0)=true:=by simp;omega
        have p:=zh (zCK (pre:=pre) (w1:=w1) (U.less (F:=F) fun k m=>.inl m) (aw.o.trans fun k m=>P k (.inl m)) (aI.o B.o X.o K.o N) N);clear U P ak N;go_wp2_with fail
        go_ret2
        exact p.o
     ·have al:((ks:Int) != 0)=true:=by simp;omega
      have p:=zh (zCK (pre:=pre) (w1:=w1) ((am.o.box (.cells #[.int .i64 n,.int .i64 t,.slice gp gn gc] 130)).stF.less (F:=F) fun k m=>.inl m) (aY.o.trans (am.o.same (zAD Y _))) (aV.o B.o X.o an) an);clear an;go_wp2_with fail
      go_ret2
      exact p.o
end
theorem take_one {l:Bs}{x:UInt8}{t:Bs}(h:l=x::t)(b:Bool):Rd.raw ⟨l,b⟩ 1=([x],⟨t,b⟩):=by
 subst h;unfold Rd.raw;rw[if_pos (by simp)];rfl
theorem raw_nil (b:Bool):Rd.raw ⟨[],b⟩ 1=([],Rd.fail):=rfl
theorem or_big (a:Nat)(b:a<9223372036854775808):∃Z:Nat,bits .or .u64 (a:Int) (IntKind.u64.wrap (IntKind.u64.wrap (bits .and .u8 1 127)*9223372036854775808))=(Z:Int)∧4611686018427387904<Z:=by
 have e:(IntKind.u64.wrap (IntKind.u64.wrap (bits .and .u8 1 127)*9223372036854775808))=((9223372036854775808:Nat):Int):=by rfl
 rw[e];refine⟨a ||| 9223372036854775808,u64_or_nat a 9223372036854775808 (by omega) (by decide),?_⟩;have:=@Nat.right_le_or a 9223372036854775808;omega
theorem zBC {w:World}{r:Nat}{R:Rd}{A:Nat→Prop}(h:RdY A w r R) :
  Calls prog 84 #[.pointer (some ⟨r,0,none⟩)] w (NumY A w r R):=by
 have y:=zW (zCp 0 0 R.rest=none→R.num=(0,Rd.fail)) (fun e=>by unfold Rd.num;rw[e]);have N:=zW (∀v t,zCp 0 0 R.rest=some (v,t)→R.num=(v,⟨t,R.bad⟩)) (fun v t e=>by unfold Rd.num;rw[e]);have Q:=zh h;clear h
 go_enter func84,ntmps84
 go_wp2_with fail
 go_loopw [3,4] (fun u i wr=>∃k a:Nat,k≤9∧i=.int .i64 k∧u=.int .u64 a∧a<128 ^ k∧∃S,zCp 0 0 R.rest=zCp k a S∧RdY A wr r ⟨S,R.bad⟩∧Chg (fun k=>k=r) w wr) (fun _ i _=>10-(intOf i).toNat)
 case atStart=>exact⟨0,0,by omega,rfl,rfl,by simp,R.rest,rfl,Q.o,Chg.refl _ _⟩
 case round =>
  obtain⟨k,a,ac,rfl,rfl,ha,S,z,C,F⟩:=hrel;have n:=zh (zEe C 1 (by decide));have I:=zh F;have Y:decide ((k:Int)<10)=true:=decide_eq_true (by omega);cases S with
  | nil =>
   rw[raw_nil]at n;have l:=zh (y.o z);clear z C F;go_wp2_with fail;refine n.o.mono ?_;rintro e w1 ⟨v,rfl,-,-,b,d⟩;have e1:w1.cell? ⟨r,1,none⟩=some (.bool true):=b.c1;have m:=zW (NumY A w r R (.returned (.int .i64 0)) w1) (⟨by rw[l.o];rfl,by rw[l.o];exact b,I.o.trans d fun _ _ e=>e⟩);clear b d;go_wp2_with fail;go_ret;exact m.o
  | cons x0 S =>
   rw[take_one rfl]at n;have V:R.bad=false:=by
    cases hb:R.bad with
    | false=>rfl
    | true=>have:=C.inv hb;cases this
   have hx:=x0.toNat_lt;have s:=zh z;have q:=zW (9≤k∨(0<k∧x0.toNat=0)→zCp k a (x0::S)=none) (fun e=>by
    unfold zCp;rw[if_pos (e.imp id fun e=>⟨e.1,UInt8.toNat.inj (by rw[e.2];rfl)⟩)])
   have L:=zW (¬(9≤k∨(0<k∧x0.toNat=0))→x0.toNat<128→zCp k a (x0::S)=if 4611686018427387904<a+x0.toNat*128 ^ k then none else some (a+x0.toNat*128 ^ k,S)) (fun e h=>by
    rw[zCp,if_neg (fun h=>e (h.imp id fun h=>⟨h.1,by rw[h.2];rfl⟩)),if_pos h])
   have M:=zW (¬(9≤k∨(0<k∧x0.toNat=0))→¬x0.toNat<128→zCp k a (x0::S)=zCp (k+1) (a+x0.toNat%128*128 ^ k) S) (fun e h=>by
    rw[zCp,if_neg (fun h=>e (h.imp id fun h=>⟨h.1,by rw[h.2];rfl⟩)),if_neg h])
   clear z C F;go_wp2_with fail;refine n.o.mono ?_;rintro e w1 ⟨v,rfl,hv,aa,b,d⟩;have e1:w1.cell? ⟨r,1,none⟩=some (.bool false):=by rw[←V];exact b.c1
   obtain⟨g,cc,rfl,W⟩:∃g cc,v=.slice (some ⟨g,0,none⟩) 1 cc∧w1.cell? ⟨g,0,none⟩=some (.int .u8 (x0.toNat:Int)):=by
    have hh:=hv.has;obtain⟨ad,⟨rfl,h0⟩|⟨g,T,cur,rfl,hg⟩⟩:=hv
    ·simp at h0
    ·refine⟨g,T,rfl,?_⟩;obtain⟨_,p,c,e,_,X⟩:=hh;cases e;have:=X _ rfl 0 (.int .u8 (x0.toNat:Int)) (by simp[zAQ]);rwa[add_zero]at this
   have j:=zh (And.intro b (I.o.trans d fun _ _ e=>e));have f:=zh (zEc b);clear hv aa b d;generalize x0.toNat=x at *
   by_cases h9:9≤k
   ·obtain rfl:k=9:=by omega
    have l:=zh (y.o (s.o.trans (q.o (.inl (Nat.le_refl _)))))
    by_cases ai:127<x
    ·go_wp2_with fail;refine f.o.mono ?_;rintro e w2 ⟨rfl,b,d⟩;have m:=zW (NumY A w r R (.returned (.int .i64 0)) w2) (⟨by rw[l.o];rfl,by rw[l.o];exact b,j.o.2.trans d fun _ _ e=>e⟩);clear b d;go_wp2_with fail;go_ret;exact m.o
    ·by_cases aj:1<x
     ·go_wp2_with fail;refine f.o.mono ?_;rintro e w2 ⟨rfl,b,d⟩;have m:=zW (NumY A w r R (.returned (.int .i64 0)) w2) (⟨by rw[l.o];rfl,by rw[l.o];exact b,j.o.2.trans d fun _ _ e=>e⟩);clear b d;go_wp2_with fail;go_ret;exact m.o
     ·by_cases ab:x=0
      focus subst ab
      rotate_left
      focus
       obtain rfl:x=1:=by omega
       obtain⟨Z,ae,af⟩:=or_big a (by
        have h9:(128:Nat) ^ 9=9223372036854775808:=by decide
        omega)
       have ag:decide ((4611686018427387904:Int)<(Z:Int))=true:=decide_eq_true (by omega)
      all_goals
       go_wp2_with fail;refine f.o.mono ?_;rintro e w2 ⟨rfl,b,d⟩;have m:=zW (NumY A w r R (.returned (.int .i64 0)) w2) (⟨by rw[l.o];rfl,by rw[l.o];exact b,j.o.2.trans d fun _ _ e=>e⟩);clear b d;go_wp2_with fail;go_ret;exact m.o
   ·by_cases hz:0<k∧x=0
    ·have l:=zh (y.o (s.o.trans (q.o (.inr hz))));obtain⟨B,rfl⟩:=hz;have K:((k:Int)==9)=false:=by simp;omega
     go_wp2_with fail;refine f.o.mono ?_;rintro e w2 ⟨rfl,b,d⟩;have m:=zW (NumY A w r R (.returned (.int .i64 0)) w2) (⟨by rw[l.o];rfl,by rw[l.o];exact b,j.o.2.trans d fun _ _ e=>e⟩);clear b d;go_wp2_with fail;go_ret;exact m.o
    ·have hs:¬(9≤k∨(0<k∧x=0)):=fun e=>e.elim h9 hz;have K:((k:Int)==9)=false:=by simp;omega
     by_cases D:x<128
     ·have G:=zh (s.o.trans (L.o hs D));have P:=zGi ha (by omega) (show x<256 by omega);rw[show x%128=x by omega]at P;obtain⟨P,-,U⟩:=P;generalize a+x*128 ^ k=Z at *
      by_cases hA:4611686018427387904<Z
      ·have l:=zh (y.o (G.o.trans (if_pos hA)));rcases Nat.lt_or_ge 0 k with B|B
       rotate_left
       rotate_left
       focus have ah:0<x:=by omega
       all_goals
        go_wp2_with fail;refine f.o.mono ?_;rintro e w2 ⟨rfl,b,d⟩;have m:=zW (NumY A w r R (.returned (.int .i64 0)) w2) (⟨by rw[l.o];rfl,by rw[l.o];exact b,j.o.2.trans d fun _ _ e=>e⟩);clear b d;go_wp2_with fail;go_ret;exact m.o
      ·have H:=zh (N.o _ _ (G.o.trans (if_neg hA)));have m:=zW (NumY A w r R (.returned (.int .i64 (Z:Int))) w1) (⟨by rw[H.o],by rw[H.o];exact j.o.1,j.o.2⟩);rcases Nat.lt_or_ge 0 k with B|B
       rotate_left
       ·go_wp2_with fail;go_ret;exact m.o
       ·have ak:((x:Int)==0)=false:=by simp;omega
        go_wp2_with fail;go_ret;exact m.o
     ·have E:=s.o.trans (M.o hs D);obtain⟨P,O,U⟩:=zGi ha (by omega) (show x<256 by omega);have J:=zh (And.intro E O);clear E O;generalize a+x%128*128 ^ k=Z at *;go_wp2_with fail;go_roundw
      case rel=>exact⟨k+1,Z,by omega,by go_num,rfl,J.o.2,S,J.o.1,j.o.1,j.o.2⟩
      case measure=>simp[intOf];omega
theorem num_bad {R:Rd}(b:R.bad=true→R.rest=[])(c:R.num.2.bad=true):R.num=(0,Rd.fail):=by
 cases h:zCp 0 0 R.rest with
 | none=>unfold Rd.num;rw[h]
 | some x =>
  obtain⟨n,t⟩:=x;have e:R.num=(n,⟨t,R.bad⟩):=by unfold Rd.num;rw[h]
  rw[e]at c;rw[b c]at h;cases h
theorem zGd {w:World}{r:Nat}{R:Rd}{A:Nat→Prop}(h:RdY A w r R) :
  Calls prog 86 #[.pointer (some ⟨r,0,none⟩)] w (RowY A w r R.bytes.1 R.bytes.2):=by
 have y:=zh (zBC h);have a:=Rd.num_le R;have b:=num_bad h.inv;have n:=zW (R.bytes=R.num.2.raw R.num.1) rfl;clear h
 go_enter func86,ntmps86
 go_wp2_with fail;refine y.o.mono ?_;rintro e w1 ⟨rfl,c,l⟩;have d:=c.c1;have s:=zh l;cases k:R.num.2.bad with
 | true =>
  rw[k]at d;have hn:=b k;have p:=zW (RowY A w r R.bytes.1 R.bytes.2 (.returned (.slice none 0 0)) w1) (by
   rw[n.o,hn];rw[hn]at c;exact⟨_,rfl,OwnR.nil _ _ _,fun j q=>(by cases q),c,l⟩)
  clear c l hn b;go_wp2_with fail;go_ret;exact p.o
 | false =>
  rw[k]at d;have z:=zh (zEe c R.num.1 (by omega));clear c l b k;generalize R.num.1=m at *;generalize R.num.2=B at *;go_wp2_with fail;refine z.o.mono ?_;rintro e w2 ⟨v,rfl,t,i,g,f⟩;have p:=zW (RowY A w r R.bytes.1 R.bytes.2 (.returned v) w2) (⟨v,rfl,by rw[n.o];exact t,fun j q=>Nat.le_trans s.o.size (i j q),by rw[n.o];exact g,s.o.trans f fun _ _ e=>e⟩);clear t i g f;go_wp2_with fail;go_ret;exact p.o
end Go.Proofs.YtapfnehdgailmaaGreat
