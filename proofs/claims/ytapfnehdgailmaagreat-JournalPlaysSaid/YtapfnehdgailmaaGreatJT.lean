/- What the program's functions and the document's do, and plain laws, for PJournalPlays. -/
import Derived.Test.YtapfnehdgailmaaGreatJB
import Derived.Test.YtapfnehdgailmaaGreatJE
import Derived.Test.YtapfnehdgailmaaGreatJF
import Derived.Test.YtapfnehdgailmaaGreatJH
import Derived.Test.YtapfnehdgailmaaGreatJI
import Derived.Test.YtapfnehdgailmaaGreatJN
import Derived.Test.YtapfnehdgailmaaGreatJO
import Derived.Test.YtapfnehdgailmaaGreatJQ
import Derived.Test.YtapfnehdgailmaaGreatJR
import Derived.Test.YtapfnehdgailmaaGreatJS
open Go.Proofs.Tryz
set_option maxRecDepth 100000
set_option maxHeartbeats 64000000
namespace Go.Proofs.YtapfnehdgailmaaGreat
open Go.RowKit Go.Sat Go.Maps
section
variable {w:World} {r:Nat} {v:Value} {L:List zAQ} {own:Nat→Prop} {D:zAA}
theorem zAy.left {room:Nat}{b:Option Nat}(h:zAy w r v L own room b)(f:Option Nat):zAy (w.setCell ⟨r,2,none⟩ (.int .i64 (zFY f))) r v L own room f where
 cells:=zAC h.cells 2 _
 row:=h.row.keep fun k c=>set_other _ (h.ov k c).2
 data:=fun x d=>OwnR.keep (h.data x d) fun k c=>set_other _ (h.ob x d k c).2.1
 or:=h.or
 ov:=h.ov
 ob:=h.ob
 olt:=fun k c=>by
  have:=h.olt k c;simpa[World.setCell]using this
def crashK (k:Int)(x:zAQ):Bs×zAW:=(x.n,zAA.crashF k x.f)
structure RCrash (w W:World)(r:Nat)(v:Value)(L:List zAQ)(own:Nat→Prop)(D:zAA)(dr:Int)(k:Nat)(M:List zAQ)(own':Nat→Prop):Prop where
 core:zAy W r v M own' D.room D.fuse
 len:M.length=L.length
 rest:M.drop k=L.drop k
 done:(M.take k).map zAQ.key=(L.take k).map (crashK dr)
 chg:Chg own w W
 ext:∀j,own' j→own j∨w.heap.size≤j
theorem rcrash_calls (h:zAd w r v L own D)(G:Int)(h0:-9223372036854775808≤G)(h1:G≤9223372036854775807) :
  Calls prog 51 #[.pointer (some ⟨r,0,none⟩),.int .i64 G] w fun e w'=>e=.returned (.tuple #[])∧∃own' v' L',zAd w' r v' L' own' (D.crash G)∧Chg own w w'∧∀k,own' k→own k∨w.heap.size≤k:=by
 have bh:=h.fit;have H:=zh h;obtain⟨pv,cv,aH⟩:=h.slice;have aU:=zh h.at
 have aj:∀(k:Nat) (x:zAQ),L[k]?=some x→x.f.data.length≤1073741824∧x.f.lasts≤x.f.data.length:=fun k x hx=>⟨h.len_le hx,by
  have hm:x.key∈D.files:=by rw[h.files];exact List.mem_map_of_mem (List.mem_of_getElem? hx)
  exact h.ok.lasts x.key hm⟩
 have aw:=zh aj;obtain⟨dn,bp⟩:∃dn:Nat,max 0 G=(dn:Int):=⟨(max 0 G).toNat,by omega⟩;have ah:(max 0 G).toNat=dn:=by omega
 have bo:dn≤9223372036854775807:=by omega
 have aV:=zh ah;have c1:=h.c1.trans (by rw[aH]);clear h aj ah;subst aH;generalize hN:L.length=N at *;have HN:=zh hN;clear hN
 go_enter func51,ntmps51
 go_wp2_with fail
 go_loopw [4] (fun i W=>∃(k:Nat) (M:List zAQ) (own':Nat→Prop),k≤N∧i=.int .i64 k∧RCrash w W r (.slice pv N cv) L own D G k M own') (fun i _=>N-(intOf i).toNat)
 case atStart=>exact⟨0,L,own,Nat.zero_le _,rfl,⟨H.o.core,rfl,rfl,rfl,Chg.refl _ _,fun _ h=>.inl h⟩⟩
 case round =>
  obtain⟨k,M,own',hk,rfl,t⟩:=hrel
  by_cases bb:k<N
  ·have ao:k<L.length:=by rw[HN.o];exact bb
   obtain⟨x,hx⟩:∃x,L[k]?=some x:=⟨_,List.getElem?_eq_getElem ao⟩;have ab:M[k]?=some x:=by
    have h2:=congrArg (fun l=>l[0]?) t.rest;simp only[List.getElem?_drop,Nat.add_zero]at h2;rw[h2,hx]
   rcases aU.o with h0|⟨g,bm,e1,-,-⟩
   ·rw[h0]at ao;simp at ao
   cases e1;have ac:=t.core.at rfl ab;obtain⟨-,q,aX⟩:=ac;have Q:=t.core.c1;obtain⟨pb,cb,eb,bn⟩:=zDY (t.core.data x (List.mem_of_getElem? ab));rw[eb]at q;obtain⟨br,bs⟩:=aw.o k x hx;have Hr:=zh t;have Hx:=zh (And.intro hx ab);have au:=zh eb;clear t hx ab eb;generalize aO:x.f.data.length=mx at *;generalize aK:x.f.lasts=la at *;have aa:=zh aO;have al:=zh aK;clear aO aK;obtain⟨u,hu⟩:∃u:Nat,mx-la=u:=⟨_,rfl⟩;have bw:((mx:Int)-(la:Int))=(u:Int):=by omega
   go_wp2_with fail
   go_quiet (fail)
   -- region 6
   have aC:Below wr.heap.size wr (wr.drewN nq):=⟨rfl,rfl,rfl,Nat.le_refl _,fun _ _=>rfl⟩;have t:=Hr.o;have U:zAy (wr.drewN nq) r (.slice (some ⟨g,0,none⟩) N cv) M own' D.room D.fuse:=t.core.keep (Nat.le_refl _) fun _ _=>rfl;have af:Chg own w (wr.drewN nq):=t.chg.trans ((Chg.of_below aC).mono (T:=fun _=>False) fun _ _ h=>h) fun _ _ h=>h.elim;have ak:zAA.stays x.f G=la+dn%(u+1):=by
    unfold zAA.stays;rw[aV.o,aa.o,al.o,hu]
   obtain⟨d,ar⟩:∃d,la+dn%(u+1)=d:=⟨_,rfl⟩;have aN:=Nat.mod_lt dn (show 0<u+1 by omega);have Y:d≤mx:=by omega
   rw[ar]at ak;have aW:=zh (And.intro ak ar);have b:=zh U;have ad:=zh af;have av:=zh t.ext;clear t U af aC Q q aX;have bg:wr.heap.size=(wr.drewN nq).heap.size:=rfl;generalize wr.drewN nq=O at *;clear bg;have y:=zW (∀I,Below O.heap.size O I→I.cell? ⟨g,k*3+1,none⟩=some (.slice pb mx cb)∧I.cell? ⟨g,k*3+2,none⟩=some (.int .i64 (la:Int))∧I.frozen? ⟨g,k*3+1,none⟩=false∧I.frozen? ⟨g,k*3+2,none⟩=false) (fun I hb=>by
    have hW:=b.o.keep (w':=I) hb.size fun j s=>hb.block j (b.o.olt j s);have h3:=hW.at rfl Hx.o.2;exact⟨h3.2.1.trans (by rw[au.o]),h3.2.2.trans (by rw[al.o]),hW.free rfl _,hW.free rfl _⟩)
   have ax:=zW (∀I,Below O.heap.size O I→zAK I 1 (.slice pb d cb) d (zAR (x.f.data.take d))) (fun I hb=>by
    have hW:=b.o.keep (w':=I) hb.size fun j s=>hb.block j (b.o.olt j s);have hd:=(hW.data x (List.mem_of_getElem? Hx.o.2)).has;rw[au.o]at hd;have hc:=zAb.cut hd (k:=d) (by rw[aa.o];exact Y) cb;unfold zAb at hc;rw[List.length_take,aa.o,Nat.min_eq_left Y]at hc;exact hc)
   have ae:=zh (show ∀R F,Below O.heap.size O R→OwnR R 5 1 F d (zAR (x.f.data.take d))→(∀j,F.ownBlock=some j→O.heap.size≤j) →
     (R.setCell ⟨g,k*3+1,none⟩ F).cell? ⟨g,k*3+1,none⟩=some F∧(R.setCell ⟨g,k*3+1,none⟩ F).cell? ⟨g,k*3+2,none⟩=some (.int .i64 (la:Int))∧(R.setCell ⟨g,k*3+1,none⟩ F).frozen? ⟨g,k*3+2,none⟩=false∧(R.setCell ⟨g,k*3+1,none⟩ F).cell? ⟨r,1,none⟩=some (.slice (some ⟨g,0,none⟩) N cv) ∧
     RCrash w ((R.setCell ⟨g,k*3+1,none⟩ F).setCell ⟨g,k*3+2,none⟩ (.int .i64 (d:Int))) r (.slice (some ⟨g,0,none⟩) N cv) L own D G (k+1) (M.set k ⟨x.n,F,⟨x.f.data.take d,d⟩⟩) (fun j=>own' j∨F.ownBlock=some j)from fun R F hb h7 ap=>by
    have aL:(x.f.data.take d).length=d:=by rw[List.length_take,aa.o,Nat.min_eq_left Y]
    have aZ:zAi R 5 F (x.f.data.take d):=by unfold zAi;rw[aL];exact h7
    have hW:=b.o.keep (w':=R) hb.size fun j s=>hb.block j (b.o.olt j s);have aG:=(b.o.ov g rfl).1;have aJ:k<M.length:=(List.getElem?_eq_some_iff.1 Hx.o.2).1;have h1:=hW.store (g:=g) rfl Hx.o.2 1 (by omega) F ⟨x.n,F,⟨x.f.data.take d,x.f.lasts⟩⟩ rfl (own':=fun j=>own' j∨F.ownBlock=some j) (fun _ h=>.inl h) aZ
     (fun j s=>⟨.inr s,fun e=>by have:=b.o.olt r b.o.or;have:=ap j s;omega,fun e=>by have:=b.o.olt g aG;have:=ap j s;omega⟩)
     (fun j s=>by
      rcases s with s|s
      ·exact hW.olt j s
      ·exact OwnR.lt h7 s)
    have an:(M.set k ⟨x.n,F,⟨x.f.data.take d,x.f.lasts⟩⟩)[k]?=some ⟨x.n,F,⟨x.f.data.take d,x.f.lasts⟩⟩:=List.getElem?_set_self aJ;have aM:=List.mem_of_getElem? an;have aY:=h1.data _ aM;have aP:=h1.ob _ aM;have h2:=h1.store (g:=g) rfl an 2 (by omega) (.int .i64 (d:Int)) ⟨x.n,F,⟨x.f.data.take d,d⟩⟩ rfl (fun _ h=>h) aY (fun j s=>⟨.inr s,(aP j s).2.1,fun e=>(aP j s).2.2 (by rw[e];rfl)⟩) h1.olt;rw[List.set_set]at h2;have aB:=h1.at rfl an;refine⟨aB.2.1,aB.2.2.trans (by rw[←al.o]),h1.free rfl _,h1.c1,?_⟩;have t:=Hr.o;have aQ:∀j,own' j→own j∨w.heap.size≤j:=av.o;have aI:own g∨w.heap.size≤g:=aQ g aG;have aE:Chg own w (R.setCell ⟨g,k*3+1,none⟩ F):=(ad.o.trans ((Chg.of_below hb).mono (T:=fun _=>False) fun _ _ h=>h) fun _ _ h=>h.elim).trans (Chg.setCell R ⟨g,k*3+1,none⟩ F) fun j s e=>by
     have e:j=g:=e;rcases aI with h|h
     ·rw[e];exact h
     ·omega
    have aF:=aE.trans (Chg.setCell (R.setCell ⟨g,k*3+1,none⟩ F) ⟨g,k*3+2,none⟩ (.int .i64 (d:Int))) (fun j s e=>by
     have e:j=g:=e;rcases aI with h|h
     ·rw[e];exact h
     ·omega)
    refine⟨h2,by rw[List.length_set];exact t.len,?_,?_,aF,fun j s=>?_⟩
    ·rw[List.drop_set_of_lt (by omega)];have h3:=congrArg (List.drop 1) t.rest;rw[List.drop_drop,List.drop_drop]at h3;exact h3
    ·have h4:(L.take (k+1)).map (crashK G)=(L.take k).map (crashK G)++[crashK G x]:=by rw[List.take_add_one,Hx.o.1,List.map_append];rfl
     have h5:(M.set k ⟨x.n,F,⟨x.f.data.take d,d⟩⟩).take (k+1)=M.take k++[⟨x.n,F,⟨x.f.data.take d,d⟩⟩]:=by
      rw[List.take_add_one,List.getElem?_set_self aJ,List.take_set_of_le (Nat.le_refl _)];rfl
     rw[h4,h5,List.map_append,t.done]
     congr 1
     show [(x.n,(⟨x.f.data.take d,d⟩:zAW))]=[(x.n,zAA.crashF G x.f)]
     unfold zAA.crashF;rw[aW.o.1]
    ·rcases s with s|s
     ·exact aQ j s
     ·exact .inr (Nat.le_trans ad.o.size (ap j s)))
   obtain⟨i0,hi,aR,aS,aT⟩:=info_parts (show(prog.info? 5).map (fun i=>(i.zero,i.size,i.bytes))=some (some (.int .u8 0),1,1) by kernel_rfl);have bu:∀W,(Instr.slice 22 (.slice pb mx cb) none (some (.int .i64 (d:Int))) none).run prog W=.ok (.slice pb d cb) W:=fun W=>zB3 W underlying22 hi pb _ cb d (by omega);have bj:IntKind.i64.wrap ((u:Int)+1)=(u:Int)+1:=zFW (by omega) (by omega);obtain⟨dm,ag⟩:∃dm,dn%(u+1)=dm:=⟨_,rfl⟩;have bv:(dn:Int).tmod ((u:Int)+1)=(dm:Int):=by rw[←ag];rfl
   have bi:((u:Int)+1=0)=False:=by simp;omega
   have aA:(la:Int)+(dm:Int)=(d:Int):=by omega
   have bk:IntKind.i64.wrap ((la:Int)+(dm:Int))=(d:Int):=by rw[aA];exact zFW (by omega) (by omega)
   have bl:IntKind.i64.wrap (d:Int)=(d:Int):=zFW (by omega) (by omega);clear ar aN ag;go_wp2_with fail;have S:=zW (Below O.heap.size O O.drew) (⟨rfl,rfl,rfl,Nat.le_refl _,fun _ _=>rfl⟩);have hS:=(y.o _ S.o).2.1;refine ost (fun I:World=>I.cell? ⟨g,k*3+2,none⟩=some (.int .i64 (la:Int))) 20 hS fun c=>?_;clear hS;generalize O.drew=Wd at *;refine Pl [0,2,3,4,6,7,8,9,10,11,12,13,14] ?_
   iterate 13 (refine Pc rfl ?_;simp only[uZ])
   refine Pn ?_;refine zCp 1 5 rfl rfl (by kernel_rfl) (by rfl) (by rfl) (fun K a=>?_) (fun K a=>?_)
   focus
    go_wp2_with fail;have P:=zh (S.o.alloc S.o.size (.cells #[] 5));refine a.o _ _ ((y.o _ P.o).2.1) fun c=>?_;clear a;try simp only[uZ]
    refine oon 5 rfl fun K a=>?_;have q:=(y.o _ P.o).1;go_wp2_with fail;clear q;refine a.o _ _ ((y.o _ P.o).2.1) fun c=>?_;clear a;try simp only[uZ]
    refine otk 15 (v:=?v1x15) rfl ?_;simp only[uZ]
   rotate_left
   focus
    have q:=(y.o _ S.o).1;go_wp2_with fail;clear q;refine a.o _ _ ((y.o _ S.o).2.1) fun c=>?_;clear a;try simp only[uZ]
    refine otk 15 (v:=?v2x15) rfl ?_;simp only[uZ];refine oon 1 rfl fun K a=>?_;go_wp2_with fail;have P:=zh (S.o.alloc S.o.size (.cells #[] 5));refine a.o _ _ ((y.o _ P.o).2.1) fun c=>?_;clear a;try simp only[uZ]
   all_goals
    refine oon 16 rfl fun K a=>?_;have E:=zAx Wd 5;have Z:=ax.o _ P.o;refine zAm (.tmp 35) (.tmp 49) 22 (by rfl) 5 i0 (.int .u8 0) 1 1 underlying22 hi aR aS aT rfl (by decide) (.slice (some ⟨Wd.heap.size,0,none⟩) 0 0) 0 [] (by rfl) E (.slice pb d cb) d _ (by rfl) Z (zAN _) (by unfold maxLen;omega) (by omega) ?_;clear E Z;intro v6 w6 m p A;have X6:=zh (P.o.grown p P.o.size (fun j e=>by have:=S.o.size;simp[Value.ownBlock]at e;omega));have C:=zA0 (B:=O.heap.size) A (fun k hk=>by have:=S.o.size;simp[Value.ownBlock]at hk;omega) P.o.size;rw[Nat.zero_add,List.nil_append]at m;obtain⟨p6,c6,rfl⟩:=OwnR.shape m;have z:=zh (ae.o w6 (.slice p6 d c6) X6.o m C);clear p A m C;refine a.o _ _ ((y.o _ X6.o).2.1) fun c=>?_;clear a;try simp only[uZ]
    refine Pl [17,18] ?_;iterate 2 (refine Pc rfl ?_;simp only[uZ])
    refine Pn ?_;refine oon 19 rfl fun K a=>?_;obtain⟨Q,q,V,X⟩:=y.o _ X6.o;go_wp2_with fail;have am:(w6.setCell ⟨g,k*3+1,none⟩ (.slice p6 d c6)).cell? ⟨g,k*3+2,none⟩=some (.int .i64 (la:Int)):=(World.cell?_setCell_other _ _ _ _ (by simp)).trans q;clear Q q V X;refine a.o _ _ (am) fun c=>?_;clear a;try simp only[uZ]
    refine odn ?_;clear c;obtain⟨bc,bd,be,bf,aq⟩:=z.o;clear z;go_wp2_with fail;go_roundw;case rel=>exact⟨k+1,_,_,by omega,by go_num,aq⟩
    case measure=>simp[intOf];omega
  ·have ba:k=N:=by omega
   subst ba;have az:M.take k=M:=List.take_of_length_le (by rw[t.len,HN.o];exact Nat.le_refl _);have ay:L.take k=L:=List.take_of_length_le (by rw[HN.o];exact Nat.le_refl _);have J:(D.crash G).files=M.map zAQ.key:=by
    have h3:=t.done;rw[az,ay]at h3;rw[h3]
    show mp (zAA.crashF G) D.files=_
    rw[H.o.files];unfold mp;rw[List.map_map];rfl
   have ai:zAd (wr.setCell ⟨r,2,none⟩ (.int .i64 (-1))) r (.slice pv k cv) M own' (D.crash G):=(t.core.left none).full rfl rfl J (ok_crash H.o.ok G);have bt:own r∨w.heap.size≤r:=.inl H.o.or;have aD:Chg own w (wr.setCell ⟨r,2,none⟩ (.int .i64 (-1))):=t.chg.trans (Chg.setCell wr ⟨r,2,none⟩ (.int .i64 (-1))) fun j _ e=>by
    have e:j=r:=e;rw[e];exact H.o.or
   have Hf:=zW (∃own'' v' L',zAd (wr.setCell ⟨r,2,none⟩ (.int .i64 (-1))) r v' L' own'' (D.crash G)∧Chg own w (wr.setCell ⟨r,2,none⟩ (.int .i64 (-1)))∧∀j,own'' j→own j∨w.heap.size≤j) (⟨_,_,_,ai,aD,t.ext⟩);have Q:=t.core.c1;have q:wr.cell? ⟨r,2,none⟩=some (.int .i64 (zFY D.fuse)):=zAG t.core.cells rfl;have bq:=zAE t.core.cells 2;clear t ai aD J az ay;go_wp2_with fail
   go_end0
   exact⟨rfl,Hf.o⟩
end
section
variable {w:World} {r:Nat} {v:Value} {L:List zAQ} {own:Nat→Prop} {D:zAA}
structure RCopy (w W:World)(r2:Nat)(v2:Value)(L:List zAQ)(D:zAA)(k:Nat)(M:List zAQ)(own2:Nat→Prop):Prop where
 core:zAy W r2 v2 M own2 D.room none
 keys:M.map zAQ.key=(L.take k).map zAQ.key
 new:∀j,own2 j→w.heap.size≤j
 bel:Below w.heap.size w W
theorem RCopy.len {W:World}{c:Nat}{v2:Value}{k:Nat}{M:List zAQ}{own2:Nat→Prop}(h:RCopy w W c v2 L D k M own2)(b:k≤L.length):M.length=k:=by
 have:=congrArg List.length h.keys;rw[List.length_map,List.length_map,List.length_take,Nat.min_eq_left b]at this;exact this
end
def Pair (w w1:World)(d:Nat)(D:zAA)(r:Nat)(R:zAA):Prop:=∃own v L,St w w1 d D own∧zAd w1 r v L own R∧∀k,own k→w.heap.size≤k
section
variable {w w1:World} {d:Nat} {D:zAA} {r:Nat} {R:zAA}
theorem Pair.bel (h:Pair w w1 d D r R):Below w.heap.size w w1:=let ⟨_,_,_,hS,_,_⟩:=h;hS.below
theorem Pair.okD (h:Pair w w1 d D r R):D.OK:=let ⟨_,_,_,hS,_,_⟩:=h;hS.ok
theorem Pair.next (h:Pair w w1 d D r R){w2:World}(b:Below w1.heap.size w1 w2):Pair w w2 d D r R:=by
 obtain⟨own,v,L,hS,c,hn⟩:=h;exact⟨own,v,L,hS.next b,c.below b,hn⟩
theorem Pair.alloc (h:Pair w w1 d D r R)(o:Obj):Pair w (w1.alloc o) d D r R:=h.next ((Below.refl _ _).alloc (Nat.le_refl _) o)
theorem Pair.drewN (h:Pair w w1 d D r R)(n:Nat):Pair w (w1.drewN n) d D r R:=h.next ⟨rfl,rfl,rfl,Nat.le_refl _,fun _ _=>rfl⟩
theorem zAd.same {w2:World}{own:Nat→Prop}{v:Value}{L:List zAQ}(h:zAd w1 r v L own R)(hS:St w w2 d D own)(c:Same own w1 w2):zAd w2 r v L own R where
 cells:=(c r h.or).trans h.cells
 row:=h.row.keep fun k b=>c k (h.ov k b).1
 files:=h.files
 data:=fun x f=>OwnR.keep (h.data x f) fun k b=>c k (h.ob x f k b).1
 or:=h.or
 ov:=h.ov
 ob:=h.ob
 olt:=fun _ b=>hS.flt b
 ok:=h.ok
theorem Pair.moved {w':World}{own own':Nat→Prop}{v':Value}{L':List zAQ}{f:zAA}(hS:St w w1 d D own)(hn:∀k,own k→w.heap.size≤k)(c:zAd w' r v' L' own' f)(i:Chg own w1 w')(g:∀k,own' k→own k∨w1.heap.size≤k):Pair w w' d D r f:=by
 refine⟨own',v',L',hS.move i (fun k _ b=>⟨b,hn k b⟩) (fun k b=>⟨g k b,c.olt k b⟩),c,fun k b=>?_⟩;rcases g k b with h|h
 ·exact hn k h
 ·exact Nat.le_trans hS.below.size h
end
section
variable {w:World} {r:Nat} {v:Value} {L:List zAQ} {own:Nat→Prop} {D:zAA}
theorem rhas_calls (h:zAd w r v L own D)(s:ByteArray) :
  Calls prog 198 #[.pointer (some ⟨r,0,none⟩),.string s] w fun e w'=>e=.returned (.bool (Sat.get (nm s) D.files).isSome)∧Below w.heap.size w w':=by
 have H:=zh (zCM h s);clear h;cases d:Sat.get (nm s) D.files with
 | none =>
  rw[d]at H
  go_enter func198,ntmps198
  go_wp2_with fail;refine H.o.mono ?_;rintro e w' ⟨v,rfl,-,-,b⟩;have c:=zh b;clear b;go_wp2_with fail;go_ret;exact⟨rfl,c.o⟩
 | some f =>
  rw[d]at H
  go_enter func198,ntmps198
  go_wp2_with fail;refine H.o.mono ?_;rintro e w' ⟨v,rfl,-,-,b⟩;have c:=zh b;clear b;go_wp2_with fail;go_ret;exact⟨rfl,c.o⟩
def RGotL (w:World)(o:Option zAW)(e:Ending)(w':World):Prop :=
 ∃v,e=.returned (.tuple #[v,.int .i64 (loadE o:Int)])∧zAi w' 5 v (zDq o)∧(∀k,v.ownBlock=some k→w.heap.size≤k)∧Below w.heap.size w w'
theorem rload_calls (h:zAd w r v L own D)(s:ByteArray) :
  Calls prog 83 #[.pointer (some ⟨r,0,none⟩),.string s] w (RGotL w (Sat.get (nm s) D.files)):=by
 have i:=zEH h.ok (nm s);have H:=zh (zCM h s);clear h;cases A:Sat.get (nm s) D.files with
 | none =>
  rw[A]at H;clear i
  go_enter func83,ntmps83
  go_wp2_with fail;refine H.o.mono ?_;rintro e w2 ⟨v,rfl,-,-,m⟩;have l:=zW (RGotL w none (.returned (.tuple #[.slice none 0 0,.int .i64 7])) w2) (⟨.slice none 0 0,by rw[zFP];rfl,by rw[zFO];exact OwnR.nil _ _ _,fun k n=>(by cases n),m⟩);clear m;go_wp2_with fail
  go_ret2
  exact l.o
 | some f =>
  rw[A]at H i
  go_enter func83,ntmps83
  go_wp2_with fail;refine H.o.mono ?_;rintro e w2 ⟨v,rfl,j,-,m⟩;obtain⟨p,c,rfl,q⟩:=zDY j;have B:=zh (rone_calls j.has q (by omega));have y:=zh m;have a:=loadE_some f;have z:=zD4 f;generalize zCj (some f)=b at *;generalize F:b.length=N at *;clear j m q i;go_wp2_with fail;refine B.o.mono ?_;rintro e w3 ⟨v,rfl,j,hn,g⟩;have d:=y.o.trans (g.mono y.o.size)
  by_cases t:oneE b=0
  ·have l:=zW (RGotL w (some f) (.returned (.tuple #[v,.int .i64 0])) w3) (⟨v,by rw[a,if_pos t];rfl,by rw[z];exact j,fun k n=>Nat.le_trans y.o.size (hn k n),d⟩);rw[t];clear j hn g d;go_wp2_with fail
   go_ret2
   exact l.o
  ·have l:=zW (RGotL w (some f) (.returned (.tuple #[.slice none 0 0,.int .i64 3])) w3) (⟨.slice none 0 0,by rw[a,if_neg t];rfl,by rw[z];unfold oneB;rw[if_neg t];exact OwnR.nil _ _ _,fun k n=>(by cases n),d⟩);have C:((oneE b:Int) != 0)=true:=by simp;omega
   generalize oneE b=E at *;clear j hn g d;go_wp2_with fail
   go_ret2
   exact l.o
end
def RSt (w0 w1:World)(r:Nat)(own0:Nat→Prop)(D:zAA)(F:Nat→Prop):Prop :=
 ∃own v L,zAd w1 r v L own D∧Chg own0 w0 w1∧(∀k,own k→(own0 k∨w0.heap.size≤k)∧¬F k)∧∀k,F k→k<w1.heap.size
section
variable {w w0 w1 w2:World} {r:Nat} {v:Value} {L:List zAQ} {own own0:Nat→Prop} {D:zAA} {F:Nat→Prop}
theorem RSt.start (h:zAd w r v L own D)(c:Below w.heap.size w w1)(hF:∀k,F k→¬own k∧k<w1.heap.size):RSt w w1 r own D F :=
 ⟨own,v,L,h.below c,(Chg.of_below c).mono fun _ _ h=>h.elim,fun k b=>⟨.inl b,fun d=>(hF k d).1 b⟩,fun k b=>(hF k b).2⟩
theorem RSt.ok (h:RSt w0 w1 r own0 D F):D.OK:=let ⟨_,_,_,hR,_⟩:=h;hR.ok
theorem RSt.flt (h:RSt w0 w1 r own0 D F){k:Nat}(b:F k):k<w1.heap.size:=let ⟨_,_,_,_,_,_,hF⟩:=h;hF k b
theorem RSt.next (h:RSt w0 w1 r own0 D F)(b:Below w1.heap.size w1 w2):RSt w0 w2 r own0 D F:=by
 obtain⟨own,v,L,c,d,g,hF⟩:=h;exact⟨own,v,L,c.below b,d.trans (Chg.of_below b) fun _ _ h=>h.elim,g,fun k f=>Nat.lt_of_lt_of_le (hF k f) b.size⟩
theorem RSt.same (h:RSt w0 w1 r own0 D F)(b:Below w1.heap.size w1 w2):Same F w1 w2:=fun _ c=>b.block _ (h.flt c)
theorem RSt.apart {F':Nat→Prop}(h:RSt w0 w1 r own0 D F)(d:Below w1.heap.size w1 w2)(b:∀k,F' k→F k∨(w1.heap.size≤k∧k<w2.heap.size)):RSt w0 w2 r own0 D F':=by
 obtain⟨own,v,L,f,i,g,hF⟩:=h;refine⟨own,v,L,f.below d,i.trans (Chg.of_below d) fun _ _ h=>h.elim,fun k c=>⟨(g k c).1,fun j=>?_⟩,fun k c=>?_⟩
 ·rcases b k j with h|h
  ·exact(g k c).2 h
  ·have:=f.olt k c;omega
 ·rcases b k c with h|h
  ·exact Nat.lt_of_lt_of_le (hF k h) d.size
  ·exact h.2
theorem zEa {P:Program}{f:FuncId}{args:Array Value}{Re:zAA×Nat}(h:RSt w0 w1 r own0 D F)(p:∀own v L,zAd w1 r v L own D→(∀k,own k→¬F k)→Calls P f args w1 (zCh w1 r own Re)) :
  Calls P f args w1 fun e w'=>e=.returned (.int .i64 (Re.2:Int))∧RSt w0 w' r own0 Re.1 F∧Same F w1 w':=by
 obtain⟨own,v,L,m,l,b,hF⟩:=h;refine(p own v L m fun k c=>(b k c).2).mono ?_;rintro e w' ⟨rfl,own',⟨v',L',g⟩,d,n⟩;refine⟨rfl,⟨own',v',L',g,l.trans d fun i q j=>?_,fun k c=>?_,fun k c=>Nat.lt_of_lt_of_le (hF k c) d.size⟩,fun k c=>d.block k (hF k c) fun j=>(b k j).2 c⟩
 ·rcases(b i j).1 with h|h
  ·exact h
  ·omega
 ·rcases n k c with h|h
  ·exact b k h
  ·exact⟨.inr (Nat.le_trans l.size h),fun o=>by have:=hF k o;omega⟩
theorem RSt.stop (h:RSt w0 w1 r own0 D F)(k:Nat):zCh w0 r own0 (D,k) (.returned (.int .i64 (k:Int))) w1:=by
 obtain⟨own,v,L,b,c,f,-⟩:=h;exact⟨rfl,own,⟨v,L,b⟩,c,fun k d=>(f k d).1⟩
theorem rst_has (h:RSt w0 w1 r own0 D F)(s:ByteArray) :
  Calls prog 198 #[.pointer (some ⟨r,0,none⟩),.string s] w1 fun e w'=>e=.returned (.bool (Sat.get (nm s) D.files).isSome)∧RSt w0 w' r own0 D F∧Same F w1 w':=by
 have b:=h;obtain⟨own,v,L,d,-⟩:=h;exact(rhas_calls d s).mono fun e w' ⟨f,c⟩=>⟨f,b.next c,b.same c⟩
theorem rstep_below {w':World}{R:zAA×Nat}{e:Ending}{b:World}(c:Below w.heap.size w w')(h:zCh w' r own R e b):zCh w r own R e b:=by
 obtain⟨g,own',d,f,j⟩:=h;exact⟨g,own',d,zCW c f,fun k i=>(j k i).imp id fun h=>Nat.le_trans c.size h⟩
end
structure zFq (w:World)(j r:Nat)(pre:ByteArray)(O C:Nat→Prop)(M:zAJ)(gv dv ev:Value)(vs:List EV):Prop where
 cells:w.heap[j]?=some (RJC r (M.number:Int) M.term gv pre M.now M.vote dv ev M.dead)
 group:zBY w gv M.group
 data:zAb w dv M.data
 row:OwnR w 50 4 ev M.entries.length (zA3 M.entries vs)
 rlen:vs.length=M.entries.length
 rows:∀(i:Nat) e v,M.entries[i]?=some e→vs[i]?=some v→zBH w e v
 oj:O j
 oe:∀k,ev.ownBlock=some k→O k∧k≠j
 cg:∀k,gv.ownBlock=some k→C k
 cd:∀k,dv.ownBlock=some k→C k
 cv:∀u∈vs,∀k,(u.1.ownBlock=some k∨u.2.ownBlock=some k)→C k
 dis:∀k,C k→¬O k
 olt:∀k,O k→k<w.heap.size
 clt:∀k,C k→k<w.heap.size
 psz:1≤pre.size∧pre.size≤20
 ok:M.OK
section
variable {w w':World} {j r:Nat} {pre:ByteArray} {O C:Nat→Prop} {M:zAJ} {gv dv ev:Value} {vs:List EV}
theorem zBH.keep {e:Ent}{v:EV}(h:zBH w e v)(c:∀k,(v.1.ownBlock=some k∨v.2.ownBlock=some k)→w'.heap[k]?=w.heap[k]?):zBH w' e v :=
 ⟨zAK.keep h.data fun k b=>c k (.inl b),zAK.keep h.nodes fun k b=>c k (.inr b),h.dl,h.nl⟩
theorem zFq.keep (h:zFq w j r pre O C M gv dv ev vs)(c:∀k,O k∨C k→w'.heap[k]?=w.heap[k]?)(d:∀k,O k∨C k→k<w'.heap.size):zFq w' j r pre O C M gv dv ev vs where
 cells:=(c j (.inl h.oj)).trans h.cells
 group:=zAK.keep h.group fun k b=>c k (.inr (h.cg k b))
 data:=zAK.keep h.data fun k b=>c k (.inr (h.cd k b))
 row:=h.row.keep fun k b=>c k (.inl (h.oe k b).1)
 rlen:=h.rlen
 rows:=fun i e v g f=>(h.rows i e v g f).keep fun k b=>c k (.inr (h.cv v (List.mem_of_getElem? f) k b))
 oj:=h.oj
 oe:=h.oe
 cg:=h.cg
 cd:=h.cd
 cv:=h.cv
 dis:=h.dis
 olt:=fun k b=>d k (.inl b)
 clt:=fun k b=>d k (.inr b)
 psz:=h.psz
 ok:=h.ok
theorem zFq.below (h:zFq w j r pre O C M gv dv ev vs)(c:Below w.heap.size w w'):zFq w' j r pre O C M gv dv ev vs :=
 h.keep (fun k b=>c.block k (b.elim (h.olt k) (h.clt k))) fun k b=>Nat.lt_of_lt_of_le (b.elim (h.olt k) (h.clt k)) c.size
theorem zFq.chg {S:Nat→Prop}(h:zFq w j r pre O C M gv dv ev vs)(c:Chg S w w')(hS:∀k,S k→¬O k∧¬C k):zFq w' j r pre O C M gv dv ev vs :=
 h.keep (fun k b=>c.block k (b.elim (h.olt k) (h.clt k)) fun s=>b.elim (hS k s).1 (hS k s).2) fun k b=>Nat.lt_of_lt_of_le (b.elim (h.olt k) (h.clt k)) c.size
theorem zFq.c (h:zFq w j r pre O C M gv dv ev vs)(i:Nat){v:Value}(b:(#[.int .i64 (M.number:Int),.int .i64 M.term,gv,.pointer (some ⟨r,0,none⟩),.string pre,.int .i64 M.now,.int .i64 M.vote,dv,ev,.bool M.dead]:Array Value)[i]?=some v):w.cell? ⟨j,i,none⟩=some v:=zAG h.cells b
theorem zFq.fr (h:zFq w j r pre O C M gv dv ev vs)(i:Nat):w.frozen? ⟨j,i,none⟩=false:=zAE h.cells i
theorem zFq.ent (h:zFq w j r pre O C M gv dv ev vs){i:Nat}{e:Ent}(l:M.entries[i]?=some e):∃g c v,ev=.slice (some ⟨g,0,none⟩) M.entries.length c∧vs[i]?=some v∧zBH w e v ∧
  w.cell? ⟨g,i*4,none⟩=some (.int .i64 e.term)∧w.cell? ⟨g,i*4+1,none⟩=some (.int .i64 e.kind)∧w.cell? ⟨g,i*4+2,none⟩=some v.1∧w.cell? ⟨g,i*4+3,none⟩=some v.2:=by
 have m:=(List.getElem?_eq_some_iff.1 l).1;have d:vs[i]?=some (vs[i]'(by rw[h.rlen];exact m)):=List.getElem?_eq_getElem _;generalize vs[i]'(by rw[h.rlen];exact m)=v at d;rcases h.row.2 with⟨-,o⟩|⟨g,f,cur,rfl,-⟩
 ·omega
 ·have b:∀(k:Nat) u,(zEq e v)[k]?=some u→w.cell? ⟨g,i*4+k,none⟩=some u:=fun k u n=>by
   have:=h.row.cells (g:=g) rfl (i*4+k) u (zEJ _ _ i e v l d k u n);rwa[add_zero]at this
  exact⟨g,f,v,rfl,d,h.rows i e v l d,b 0 _ rfl,b 1 _ rfl,b 2 _ rfl,b 3 _ rfl⟩
end
def RJF (w1:World)(j r:Nat)(pre:ByteArray)(D:zAA)(M:zAJ)(Hot Cold:Nat→Prop):Prop :=
 ∃O own gv dv ev vs v L,zFq w1 j r pre O Cold M gv dv ev vs∧zAd w1 r v L own D∧(∀k,O k→¬own k)∧(∀k,Cold k→¬own k)∧∀k,Hot k↔O k∨own k
section
variable {w1 w2:World} {j r:Nat} {pre:ByteArray} {D:zAA} {M:zAJ} {Hot Cold:Nat→Prop}
theorem RJF.okM (h:RJF w1 j r pre D M Hot Cold):M.OK:=let ⟨_,_,_,_,_,_,_,_,hJ,_⟩:=h;hJ.ok
theorem RJF.okD (h:RJF w1 j r pre D M Hot Cold):D.OK:=let ⟨_,_,_,_,_,_,_,_,_,hR,_⟩:=h;hR.ok
theorem RJF.hlt (h:RJF w1 j r pre D M Hot Cold){k:Nat}(f:Hot k):k<w1.heap.size:=by
 obtain⟨_,_,_,_,_,_,_,_,c,d,_,_,b⟩:=h;exact((b k).1 f).elim (c.olt k) (d.olt k)
theorem RJF.clt (h:RJF w1 j r pre D M Hot Cold){k:Nat}(b:Cold k):k<w1.heap.size:=let ⟨_,_,_,_,_,_,_,_,hJ,_⟩:=h;hJ.clt k b
theorem RJF.dis (h:RJF w1 j r pre D M Hot Cold){k:Nat}(b:Cold k):¬Hot k:=by
 obtain⟨_,_,_,_,_,_,_,_,f,i,_,c,d⟩:=h;exact fun g=>((d k).1 g).elim (f.dis k b) (c k b)
theorem RJF.jhot (h:RJF w1 j r pre D M Hot Cold):Hot j:=let ⟨_,_,_,_,_,_,_,_,hJ,_,_,_,hH⟩:=h;(hH j).2 (.inl hJ.oj)
theorem RJF.psz (h:RJF w1 j r pre D M Hot Cold):1≤pre.size∧pre.size≤20:=let ⟨_,_,_,_,_,_,_,_,hJ,_⟩:=h;hJ.psz
theorem RJF.chg {S:Nat→Prop}(h:RJF w1 j r pre D M Hot Cold)(c:Chg S w1 w2)(hS:∀k,S k→¬Hot k∧¬Cold k):RJF w2 j r pre D M Hot Cold:=by
 obtain⟨O,own,gv,dv,ev,vs,v,L,i,d,l,g,b⟩:=h;exact⟨O,own,gv,dv,ev,vs,v,L,i.chg c fun k s=>⟨fun o=>(hS k s).1 ((b k).2 (.inl o)),(hS k s).2⟩,d.keep c.size (fun k f=>c.block k (d.olt k f) fun s=>(hS k s).1 ((b k).2 (.inr f))),l,g,b⟩
theorem RJF.below (h:RJF w1 j r pre D M Hot Cold)(b:Below w1.heap.size w1 w2):RJF w2 j r pre D M Hot Cold:=h.chg (Chg.of_below b) fun _ s=>s.elim
theorem RJF.drewN (h:RJF w1 j r pre D M Hot Cold)(q:Nat):RJF (w1.drewN q) j r pre D M Hot Cold:=h.below ⟨rfl,rfl,rfl,Nat.le_refl _,fun _ _=>rfl⟩
def zBu (w1:World)(j r:Nat)(pre:ByteArray)(Hot Cold:Nat→Prop)(b:zDu)(e:Ending)(w':World):Prop :=
 e=.returned (.int .i64 (b.err:Int))∧∃Hot' Cold',RJF w' j r pre b.disk b.jou Hot' Cold'∧Chg Hot w1 w'∧(∀k,Hot' k→Hot k∨w1.heap.size≤k)∧∀k,Cold' k→Cold k∨w1.heap.size≤k
theorem zDm (h:RJF w1 j r pre D M Hot Cold):Calls prog 42 #[.pointer (some ⟨j,0,none⟩)] w1 fun e w'=>e=.returned (.tuple #[.int .i64 (M.last:Int),.int .i64 M.lastT])∧∃q,w'=w1.drewN q:=by
 have d:=h.okM.last;obtain⟨O,own,gv,dv,ev,vs,v,L,k,B,A,z,a⟩:=h;have R:=k.c 0 rfl;have S:=k.c 1 rfl;have y:=k.c 8 rfl;obtain⟨p,c,l⟩:=k.row.shape;have t:=zW (M.last=M.number+M.entries.length) rfl
 by_cases m:M.entries.length=0
 ·have E:M.entries=[]:=List.eq_nil_of_length_eq_zero m;have s:=zW ((M.last:Int)=(M.number:Int)∧M.lastT=M.term) (⟨by rw[t.o,m];rfl,by unfold zAJ.lastT;rw[E];rfl⟩);rw[l,m]at y;clear k B A z a l E m d
  go_enter func42,ntmps42
  go_wp2_with fail
  go_quiet (fail)
  go_wp2_with fail
  go_ret2
  exact⟨by rw[s.o.1,s.o.2];rfl,_,rfl⟩
 ·have f:M.entries.length-1<M.entries.length:=by omega
  obtain⟨g,Q,v',i,H,-,N,-,-,-⟩:=k.ent (List.getElem?_eq_getElem f);have C:M.lastT=M.entries[M.entries.length-1].term:=by
   unfold zAJ.lastT;rw[List.getLast?_eq_getElem?,List.getElem?_eq_getElem f]
  rw[←C]at N;rw[i]at y;unfold zAJ.last at d;clear k B A z a l i H f C;generalize M.entries.length=n at *;generalize M.number=b at *;generalize M.last=P at *;generalize M.lastT=T at *;have G:((n:Int)==0)=false:=by simp;omega
  have I:IntKind.i64.wrap ((b:Int)+(n:Int))=(P:Int):=by rw[IntWalk.i64_in _ (by omega),t.o];omega
  have J:IntKind.i64.wrap ((n:Int)-1)=((n-1:Nat):Int):=by rw[IntWalk.i64_in _ (by omega)];omega
  have F:n-1<n:=by omega
  go_enter func42,ntmps42
  go_wp2_with fail
  go_quiet (fail)
  go_wp2_with fail
  go_ret2
  exact⟨rfl,_,rfl⟩
theorem zFa (h:RJF w1 j r pre D M Hot Cold)(i:Int)(Y:-9223372036854775808≤i∧i≤9223372036854775807) :
  Calls prog 95 #[.pointer (some ⟨j,0,none⟩),.int .i64 i] w1 fun e w'=>e=.returned (.tuple #[.int .i64 ((M.termAt i).getD 0),.bool (M.termAt i).isSome])∧∃q,w'=w1.drewN q:=by
 have d:=h.okM.last;obtain⟨O,own,gv,dv,ev,vs,v,L,s,E,C,A,B⟩:=h;have W:=s.c 0 rfl;have X:=s.c 1 rfl;have F:=s.c 8 rfl;obtain⟨p,c,m⟩:=s.row.shape
 by_cases f:i=(M.number:Int)
 ·have N:(i==(M.number:Int))=true:=by simpa using f
  have z:=zh (show M.termAt i=some M.term by rw[f];exact zEe);clear s E C A B f m d F;generalize M.termAt i=I at *;generalize M.number=b at *
  go_enter func95,ntmps95
  go_wp2_with fail
  go_ret2
  exact⟨by rw[z.o];rfl,0,rfl⟩
 ·have N:(i==(M.number:Int))=false:=by simpa using f
  unfold zAJ.last at d
  by_cases l:i<(M.number:Int)
  ·have z:=zh (show M.termAt i=none by unfold zAJ.termAt;rw[if_neg f,if_pos l]);have J:decide (i<(M.number:Int))=true:=decide_eq_true l;clear s E C A B f m d F l;generalize M.termAt i=I at *;generalize M.number=b at *
   go_enter func95,ntmps95
   go_wp2_with fail
   go_quiet (fail)
   go_wp2_with fail
   go_ret2
   exact⟨by rw[z.o];rfl,_,rfl⟩
  ·have J:decide (i<(M.number:Int))=false:=decide_eq_false l;rw[m]at F;have R:IntKind.i64.wrap ((M.number:Int)+(M.entries.length:Int))=((M.number+M.entries.length:Nat):Int):=by rw[IntWalk.i64_in _ (by omega)];omega
   by_cases t:((M.number+M.entries.length:Nat):Int)<i
   ·have z:=zh (show M.termAt i=none by
     unfold zAJ.termAt;rw[if_neg f,if_neg l,List.getElem?_eq_none (by omega)];rfl)
    have G:decide (((M.number+M.entries.length:Nat):Int)<i)=true:=decide_eq_true t;clear s E C A B f m d l t;generalize M.termAt i=I at *;generalize M.number+M.entries.length=U at *;generalize M.number=b at *;generalize M.entries.length=n at *
    go_enter func95,ntmps95
    go_wp2_with fail
    go_quiet (fail)
    go_wp2_with fail
    go_ret2
    exact⟨by rw[z.o];rfl,_,rfl⟩
   ·have G:decide (((M.number+M.entries.length:Nat):Int)<i)=false:=decide_eq_false t;have a:(i-(M.number:Int)-1).toNat<M.entries.length:=by omega
    obtain⟨g,V,v',y,Q,-,Z,-,-,-⟩:=s.ent (List.getElem?_eq_getElem a);have z:=zh (zED (M:=M) (show(M.number:Int)<i by omega) (List.getElem?_eq_getElem a));rw[m]at y;cases y;clear s E C A B m Q;generalize P:(i-(M.number:Int)-1).toNat=k at *;generalize M.entries[k]=e at *;generalize H:M.number+M.entries.length=U at *;generalize M.termAt i=I at *;generalize M.entries.length=n at *;generalize M.number=b at *;have S:IntKind.i64.wrap (i-(b:Int))=(k:Int)+1:=by rw[IntWalk.i64_in _ (by omega)];omega
    have T:IntKind.i64.wrap (k:Int)=(k:Int):=IntWalk.i64_in _ (by omega);clear P d l t f H
    go_enter func95,ntmps95
    go_wp2_with fail
    go_quiet (fail)
    go_wp2_with fail
    go_quiet (fail)
    go_wp2_with fail
    go_ret2
    exact⟨by rw[z.o];rfl,_,zFv _ _ _⟩
end
theorem zC0 {w w':World}{e:TypeId}{v:Value}{m:Nat}{xs:List Value}(b:OwnR w' e 1 v (0+m) ([]++xs))(f:(w.alloc (.cells #[] e)).grownBy w' (some w.heap.size))(i:v.ownBlock=some w.heap.size∨∃g,v.ownBlock=some g∧(w.alloc (.cells #[] e)).heap.size≤g) :
  OwnR w' e 1 v m xs∧(∀k,v.ownBlock=some k→w.heap.size≤k)∧Below w.heap.size w w':=by
 rw[Nat.zero_add,List.nil_append]at b;refine⟨b,fun k c=>?_,(zAD w _).trans ((Chg.of_grown f).below (by simp) fun k c e=>?_)⟩
 ·rcases i with h|⟨g,h,d⟩
  ·rw[h]at c;cases c;exact Nat.le_refl _
  ·rw[h]at c;cases c;simp at d;omega
 ·have:=Option.some.inj e;omega
def zAJ.upto (M:zAJ)(z:Int):Nat:=min (z-(M.number:Int)).toNat M.entries.length
section
variable {w1 w2:World} {j r:Nat} {pre:ByteArray} {D:zAA} {M:zAJ} {Hot Cold:Nat→Prop}
theorem grp_min_yes {m k:Nat}{e:Ent}(b:M.entries[k]?=some e)(c:e.kind=2)(d:k+1≤m):M.grpIn (min (k+1) m)=(e.nodes,M.number+k+1):=by
 rw[Nat.min_eq_left d];exact grpIn_yes b c
theorem grp_min_no {m k:Nat}{e:Ent}(c:M.entries[k]?=some e)(h:e.kind≠2∨¬k+1≤m):M.grpIn (min (k+1) m)=M.grpIn (min k m):=by
 by_cases b:k+1≤m
 ·rw[Nat.min_eq_left b,Nat.min_eq_left (by omega)];exact grpIn_no c (h.resolve_right fun h=>h b)
 ·rw[Nat.min_eq_right (by omega),Nat.min_eq_right (by omega)]
theorem rjgrpAt_calls (h:RJF w1 j r pre D M Hot Cold)(z:Int)(aF:(M.number:Int)≤z)(aE:z≤9223372036854775807) :
  Calls prog 119 #[.pointer (some ⟨j,0,none⟩),.int .i64 z] w1 (zBS w1 (M.grpIn (M.upto z))):=by
 obtain⟨i0,hi,an,ao,ap⟩:=info_parts (show(prog.info? 3).map (fun i=>(i.zero,i.size,i.bytes))=some (some (.int .i64 0),1,8) by kernel_rfl);have a:=h.okM.last;have am:=h.okM.group;have Z:=zh h.okM.ents;obtain⟨O,own,gv,dv,ev,vs,v,L,V,hR,hO,hC,hH⟩:=h;have HJ:=zh V;have c0:=V.c 0 rfl;have c2:=V.c 2 rfl;have c8:=V.c 8 rfl;obtain⟨pg,cg,ae⟩:=V.group.slice;obtain⟨p8,au,X⟩:=V.row.shape;rw[ae]at c2;rw[X]at c8;have ar:=zh (ae▸V.group);have ay:=(zEP am).2;unfold zAJ.last at a;clear hR hO hC hH am ae;obtain⟨m,hm⟩:∃m,m=M.upto z:=⟨_,rfl⟩;rw[←hm];have Hm:=zW (∀k,k<M.entries.length→(k+1≤m↔(M.number:Int)+k+1≤z)) (fun k hk=>by
  rw[hm];unfold zAJ.upto;omega)
 have aw:m≤M.entries.length:=by
  rw[hm];exact Nat.min_le_right _ _
 clear hm;generalize hb:M.number=b at *;generalize hn:M.entries.length=n at *;generalize Y:M.group.length=U at *;have Hn:=zh hn;have T:=zh Y;clear hn Y;have ax:IntKind.i64.wrap ((n:Int)-1)=(n:Int)-1:=IntWalk.i64_in _ (by omega);clear V
 go_enter func119,ntmps119
 go_wp2_with fail
 go_loopw [6] (fun x wr=>∃k:Nat,k≤n∧x=.int .i64 ((k:Int)-1)∧M.grpIn m=M.grpIn (min k m)∧Below w1.heap.size w1 wr) (fun x _=>(intOf x+1).toNat)
 case atStart=>exact⟨n,Nat.le_refl _,rfl,by rw[Nat.min_eq_right aw],Below.refl _ _⟩
 case round =>
  obtain⟨k,hk,rfl,Q,f⟩:=hrel;have ah:=zAH c0 f;have ai:=zAH c2 f;have aj:=zAH c8 f;cases k with
  | zero =>
   have G:=zh Q;have HB:=zh f;have B:=zh (f.trans (⟨rfl,rfl,rfl,Nat.le_refl _,fun _ _=>rfl⟩:Below w1.heap.size wr wr.drew));have t:=zh (fun W (hb2:Below wr.drew.heap.size wr.drew W)=>(show zAK W 1 (.slice pg U cg) U (zFg M.group) by
    have h1:zBY W (.slice pg U cg) M.group:=zAK.chg ar.o (Chg.of_below ((f.trans (⟨rfl,rfl,rfl,Nat.le_refl _,fun _ _=>rfl⟩:Below w1.heap.size wr wr.drew)).trans (hb2.mono f.size))) fun _ _=>id;unfold zBY at h1;rwa[T.o]at h1))
   have ak:decide ((0:Int)≤((0:Nat):Int)-1)=false:=by decide
   clear Q f aj;go_wp2_with fail;refine ost (fun w':World=>w'.cell? ⟨j,2,none⟩=some (.slice pg U cg)∧w'.cell? ⟨j,0,none⟩=some (.int .i64 (b:Int))) 14 (⟨ai,ah⟩) fun d=>?_;generalize wr.drew=W1 at *;refine Pl [1,2,3,4,5,7,8,9,10,11] ?_
   iterate 10 (refine Pc rfl ?_;simp only[uZ])
   refine Pn ?_;refine oon 0 rfl fun K I=>?_;have A:=zh (zAD W1 (.cells #[] 3));have aa:=zh (And.intro (zAH d.1 A.o) (zAH d.2 A.o));have p:=zh d;go_wp2_with fail;refine I.o _ _ (aa.o) fun d=>?_;clear I
   try simp only[uZ]
   refine oon 6 rfl fun K I=>?_;have F:=zh (zAx W1 3);have H:=zh (t.o _ A.o);refine zAm (.tmp 56) (.tmp 61) 38 rfl 3 i0 (.int .i64 0) 1 8 underlying38 hi an ao ap rfl (by decide) (.slice (some ⟨W1.heap.size,0,none⟩) 0 0) 0 [] rfl F.o (.slice pg U cg) U _ rfl H.o (fun u hu=>by obtain⟨z,-,rfl⟩:=List.mem_map.1 hu;rfl) (by unfold maxLen;omega) (by omega) ?_;intro v4 w4 s l q;have P:=zh (zC0 s l q);have ab:=zh (And.intro (zAH p.o.1 P.o.2.2) (zAH p.o.2 P.o.2.2));clear s l q F H;obtain⟨p4,c4,rfl⟩:=OwnR.shape P.o.1;refine I.o _ _ (ab.o) fun d=>?_;clear I
   try simp only[uZ]
   refine Pl [12,13] ?_
   iterate 2 (refine Pc rfl ?_;simp only[uZ])
   refine Pn ?_;have HE:=zW (zBS w1 (M.grpIn m) (.returned (.tuple #[.slice p4 U c4,.int .i64 (b:Int)])) w4) (by
    have hE:=P.o;rw[G.o,Nat.zero_min];refine⟨.slice p4 U c4,?_,?_,fun y hy=>Nat.le_trans B.o.size (hE.2.1 y hy),B.o.trans (hE.2.2.mono B.o.size)⟩
    ·show _=Ending.returned (.tuple #[_,.int .i64 (M.number:Int)])
     rw[hb]
    ·show zCd w4 _ M.group
     unfold zCd;rw[T.o];exact hE.1)
   refine odn ?_;go_wp2_with fail
   go_ret2
   exact HE.o
  | succ k =>
   have af:k<M.entries.length:=by rw[Hn.o];omega
   have he:=List.getElem?_eq_getElem af;obtain⟨g,c,v,ad,-,ac,k0,k1,k2,k3⟩:=HJ.o.ent he;rw[X]at ad;rw[Hn.o]at ad;cases ad;have hf:=zBF (Z.o _ (List.getElem_mem af));have R:=fun h1 h2=>grp_min_yes (m:=m) he h1 h2;have J:=fun h1=>grp_min_no (m:=m) he h1;generalize M.entries[k]=e at *;have N:=Hm.o k (by omega);obtain⟨pn,cn,en⟩:=ac.nodes.slice;rw[en]at k3;have k1:=zAH k1 f;have k3:=zAH k3 f;have t:=zh (fun W (hb2:Below wr.drew.heap.size wr.drew W)=>(show zAK W 1 (.slice pn e.nodes.length cn) e.nodes.length (zFg e.nodes) by
    rw[←en];exact zAK.chg ac.nodes (Chg.of_below ((f.trans (⟨rfl,rfl,rfl,Nat.le_refl _,fun _ _=>rfl⟩:Below w1.heap.size wr wr.drew)).trans (hb2.mono f.size))) fun _ _=>id))
   have G:=zh Q;have HB:=zh f;have B:=zh (f.trans (⟨rfl,rfl,rfl,Nat.le_refl _,fun _ _=>rfl⟩:Below w1.heap.size wr wr.drew));have ak:decide ((0:Int)≤((k+1:Nat):Int)-1)=true:=decide_eq_true (by omega);have al:((k+1:Nat):Int)-1=(k:Int):=by omega
   rw[al]at ak ⊢;have aB:e.nodes.length≤7:=by omega
   have az:k≤1099511627776:=by omega
   have aA:k<n:=by omega
   clear Q f ai af he ac en hf al;obtain⟨x0,ag⟩:∃x0,x0=b+k:=⟨_,rfl⟩;obtain⟨x1,S⟩:∃x1,x1=b+k+1:=⟨_,rfl⟩;have aC:IntKind.i64.wrap ((b:Int)+(k:Int))=(x0:Int):=by rw[IntWalk.i64_in _ (by omega)];omega
   have aD:IntKind.i64.wrap ((x0:Int)+1)=(x1:Int):=by rw[IntWalk.i64_in _ (by omega)];omega
   have aq:=zh S
   by_cases C:e.kind=2
   ·have hq:(e.kind==2)=true:=by simpa using C
    by_cases E:k+1≤m
    ·have av:decide ((x1:Int)≤z)=true:=decide_eq_true (by have:=N.1 E;omega);have HG:=zh (R C E);clear R J N C E ag S a;go_wp2_with fail;refine ost (fun w':World=>w'.cell? ⟨j,8,none⟩=some (.slice (some ⟨g,0,none⟩) n au)∧w'.cell? ⟨g,k*4+3,none⟩=some (.slice pn e.nodes.length cn)∧w'.cell? ⟨j,0,none⟩=some (.int .i64 (b:Int))) 20 (⟨aj,k3,ah⟩) fun d=>?_;generalize wr.drew=W1 at *;refine Pl [1,2,3,4,5,6,7,8,10,11,12,13,14,15,16,17] ?_
     iterate 16 (refine Pc rfl ?_;simp only[uZ])
     refine Pn ?_;refine oon 0 rfl fun K I=>?_;have A:=zh (zAD W1 (.cells #[] 3));have aa:=zh (And.intro (zAH d.1 A.o) (And.intro (zAH d.2.1 A.o) (zAH d.2.2 A.o)));have p:=zh d;go_wp2_with fail;refine I.o _ _ (aa.o) fun d=>?_;clear I
     try simp only[uZ]
     refine oon 9 rfl fun K I=>?_;have F:=zh (zAx W1 3);have H:=zh (t.o _ A.o);refine zAm (.tmp 38) (.tmp 46) 38 rfl 3 i0 (.int .i64 0) 1 8 underlying38 hi an ao ap rfl (by decide) (.slice (some ⟨W1.heap.size,0,none⟩) 0 0) 0 [] rfl F.o (.slice pn e.nodes.length cn) e.nodes.length _ rfl H.o (fun u hu=>by obtain⟨z,-,rfl⟩:=List.mem_map.1 hu;rfl) (by unfold maxLen;omega) (by omega) ?_;intro v4 w4 s l q;have P:=zh (zC0 s l q);have ab:=zh (And.intro (zAH p.o.1 P.o.2.2) (And.intro (zAH p.o.2.1 P.o.2.2) (zAH p.o.2.2 P.o.2.2)));clear s l q F H;obtain⟨p4,c4,rfl⟩:=OwnR.shape P.o.1;refine I.o _ _ (ab.o) fun d=>?_;clear I
     try simp only[uZ]
     refine Pl [18,19] ?_
     iterate 2 (refine Pc rfl ?_;simp only[uZ])
     refine Pn ?_;have HE:=zW (zBS w1 (M.grpIn m) (.returned (.tuple #[.slice p4 e.nodes.length c4,.int .i64 (x1:Int)])) w4) (by
      have hE:=P.o;rw[G.o,HG.o];refine⟨.slice p4 e.nodes.length c4,?_,hE.1,fun y hy=>Nat.le_trans B.o.size (hE.2.1 y hy),B.o.trans (hE.2.2.mono B.o.size)⟩
      show _=Ending.returned (.tuple #[_,.int .i64 ((M.number+k+1:Nat):Int)])
      rw[hb,←aq.o])
     refine odn ?_;go_wp2_with fail
     go_ret2
     exact HE.o
    ·have av:decide ((x1:Int)≤z)=false:=decide_eq_false (by have:=fun h=>E (N.2 h);omega);have HG:=zh (J (.inr E));clear R J N C E ag S a;go_wp2_with fail;go_roundw
     case rel=>exact⟨k,by omega,rfl,G.o.trans HG.o,HB.o⟩
     case measure =>
      show((k:Int)-1+1).toNat<((k:Int)+1).toNat
      omega
   ·have hq:(e.kind==2)=false:=by simpa using C
    have HG:=zh (J (.inl C));clear R J N C ag S a;go_wp2_with fail;go_roundw
    case rel=>exact⟨k,by omega,rfl,G.o.trans HG.o,HB.o⟩
    case measure =>
     show((k:Int)-1+1).toNat<((k:Int)+1).toNat
     omega
theorem upto_all (M:zAJ){z:Int}(h:(M.last:Int)≤z):M.upto z=M.entries.length:=by
 unfold zAJ.upto;unfold zAJ.last at h;omega
end
section
variable {D:zAA} {n b:Bs}
theorem put1_app (i:D.fuse≠some 0)(k:1≤n.length)(hn:n.length≤60)(d:Sat.get (zAF n) D.files=none)(g:D.used+b.length≤D.room)(l:D.files.length<4096) :
  D.append (zAF n) b=(⟨D.room,put (zAF n) ⟨b,0⟩ D.files,offF D.fuse 1⟩,0):=by
 have j:D.may [zAF n]=0:=by
  unfold zAA.may;rw[if_neg i,if_pos];simp only[List.all_cons,List.all_nil,Bool.and_true,okN,zEA];simp;omega
 have f:D.full (zAF n) b=false:=by
  unfold zAA.full;rw[d];simp;omega
 unfold zAA.append;rw[if_neg (by rw[j];simp),if_neg (by rw[f];simp)];have c:D.cur (zAF n)=⟨[],0⟩:=by unfold zAA.cur;rw[d];rfl
 rw[c];rfl
theorem put1_syn {room:Nat}{L:List (Bs×zAW)}{f:Option Nat}(h:Srt L)(d:f≠some 0)(j:1≤n.length)(hn:n.length≤60) :
  zAA.sync ⟨room,put (zAF n) ⟨b,0⟩ L,f⟩ [zAF n]=(⟨room,put (zAF n) ⟨b,b.length⟩ L,offF f 1⟩,0):=by
 have i:zAA.may ⟨room,put (zAF n) ⟨b,0⟩ L,f⟩ [zAF n]=0:=by
  unfold zAA.may;rw[if_neg d,if_pos];simp only[List.all_cons,List.all_nil,Bool.and_true,okN,zEA];simp;omega
 have c:zAA.each1 zAA.gSync ⟨room,put (zAF n) ⟨b,0⟩ L,f⟩ (zAF n)=(⟨room,put (zAF n) ⟨b,b.length⟩ L,offF f 1⟩,0):=by
  unfold zAA.each1;rw[if_neg (by rw[i];simp)];have g:Sat.get (zAF n) (zAA.files ⟨room,put (zAF n) ⟨b,0⟩ L,f⟩)=some ⟨b,0⟩:=zCQ h _ _;rw[g]
  show((⟨room,put _ _ (put _ _ L),_⟩:zAA),0)=_
  rw[put_put h];rfl
 show(if(zAA.each1 _ _ _).2=0 then _ else _)=_
 rw[c,if_pos rfl];rfl
theorem put1_all (h:D.OK)(g:∀j,D.fuse=some j→3≤j)(c:1≤n.length)(hn:n.length≤60)(f:Sat.get (zAF n) D.files=none)(d:D.used+b.length≤D.room)(k:D.files.length<4096) :
  D.save1 n b=(⟨D.room,put n ⟨b,b.length⟩ D.files,offF D.fuse 3⟩,0):=by
 have i:D.save0 n=(D,0):=by unfold zAA.save0;rw[f];rfl
 have l:D.fuse≠some 0:=fun e=>by have:=g 0 e;omega
 rw[save1_ren i (put1_app l c hn f d k) (put1_syn h.srt (off_ne fun j e=>by have:=g j e;omega) c hn),off_off,
  save_ren h.srt (off_ne fun j e=>by have:=g j e;omega) c hn f,off_off]
end
def zFy (g:List Int):Bs:=zAM (zFJ 0 0 g)++zAM (zCU 0 (-1))
theorem rows_none0 (g:List Int):zAS (zAJ.none0 g).rows=zFy g:=by
 show zAS [zFJ 0 0 g,zCU 0 (-1)]=_
 unfold zFy;rw[←zCA (zFJ 0 0 g),←zCA (zCU 0 (-1)),←zD8];rfl
theorem firstB_len {g:List Int}(h:zAZ g=true):(zFy g).length≤150:=by
 have f:=(zCZ h).1;unfold zFy;rw[List.length_append,zAl,zAl];have i:(zCU 0 (-1)).length≤19:=by
  unfold zCU;have a:=zBJ 0;have b:=zBJ ((-1)+1);simp only[List.length_cons,List.length_append];omega
 have j:(zFJ 0 0 g).length≤100:=by
  unfold zFJ zDp;have a:(zD5 0).length≤9:=zAh (by omega);have b:=zBJ 0;have c:=zAh (n:=g.length) (by omega);have d:=zBA g;simp only[List.length_cons,List.length_append];omega
 omega
def zDS (room:Nat)(pre:Bs)(g:List Int):zAA:=⟨room,[(zAu pre,⟨zFy g,(zFy g).length⟩)],none⟩
theorem save_fresh {room:Nat}(l:200≤room)(b:room≤1073741824){pre:Bs}(k:1≤pre.length∧pre.length≤20){g:List Int}(d:zAZ g=true) :
  (zAA.fresh room).save1 (zAu pre) (zFy g)=(zDS room pre g,0):=by
 have c:(zAu pre).length=pre.length+4:=by unfold zAu logX;simp
 have i:=firstB_len d;have f:(zAA.fresh room).used=0:=rfl;rw[put1_all (ok_fresh room b) (fun j e=>by cases e) (by rw[c];omega) (by rw[c];omega) rfl (by rw[f];show 0+_≤room;omega) (show 0<4096 by decide)];rfl
theorem jopen_fresh {room:Nat}(t:200≤room)(j:room≤1073741824){pre:Bs}(s:1≤pre.length∧pre.length≤20){g:List Int}(k:zAZ g=true) :
  zAV (zAA.fresh room) pre g=(zDS room pre g,0,zAJ.none0 g):=by
 obtain⟨O⟩:=zF9 (zAA.fresh room) pre g;have f:=O.h1;have c:=O.h2;have d:=O.hs;have b:=O.hl;have l:(zAA.fresh room).rid1 (zAF (zAu pre))=(zAA.fresh room,0):=rfl;rw[l]at f;have o:zAA.fresh room=O.D1:=congrArg Prod.fst f;have q:0=O.e1:=congrArg Prod.snd f;rw[←o]at c;have m:(zAA.fresh room).rid1 (zAF (zBt pre))=(zAA.fresh room,0):=rfl;rw[m]at c;have p:zAA.fresh room=O.D2:=congrArg Prod.fst c;have r:0=O.e2:=congrArg Prod.snd c;rw[←p]at d b;have b3:zC5 (Sat.get (zBt pre) (zAA.fresh room).files)=(0,none):=snapOf_7 zFP;rw[b3]at d;have n:zBP (zAA.fresh room) pre (zAJ.none0 g)=(zAA.fresh room,0,true,zAJ.none0 g):=rfl;rw[n]at b;have v:zAT (zAA.fresh room) pre (zAJ.none0 g)=(zDS room pre g,0):=by
  unfold zAT;rw[rows_none0,save_fresh t j s k]
 have i:¬(pre.length<1∨20<pre.length∨zAZ g=false):=by
  rintro(h|h|h)
  ·omega
  ·omega
  ·rw[k]at h;cases h
 rw[oj_anew O i q.symm r.symm (by rw[←d]) (by rw[←b]) (M:=zAJ.none0 g) (by rw[←d,←b];rfl),←b,v]
end Go.Proofs.YtapfnehdgailmaaGreat
