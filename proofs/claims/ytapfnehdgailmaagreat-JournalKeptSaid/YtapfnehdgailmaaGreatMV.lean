/- What the program's functions and the document's do, and plain laws, for PJournalKept. -/
import Derived.Deep.CutBlock
import Derived.Deep.DeepCutAuto
import Derived.Test.YtapfnehdgailmaaGreatMK
import Derived.Test.YtapfnehdgailmaaGreatMU
open Go.Proofs.Tryz
set_option maxRecDepth 100000
set_option maxHeartbeats 64000000
namespace Go.Proofs.YtapfnehdgailmaaGreat
open Go.RowKit Go.Sat Go.Maps
theorem jkept_walk {w:World}{p:Option Addr}{n c:Nat}{l:List zEJ}(hx:Steps5 w p n l)(hn:n≤140737488355328)(fu dr:Int)(dY:-9223372036854775808≤fu∧fu≤9223372036854775807)(cp:-9223372036854775808≤dr∧dr≤9223372036854775807) :
  Calls prog 8 #[.slice p n c,.int .i64 fu,.int .i64 dr] w (True3 w):=by
 have da:=zh (heavy6_calls (c:=c) hx hn);have aQ:=zh (fun W=>known5_calls W)
 go_enter func8,ntmps8
 go_wp2_with fail;refine da.o.mono ?_;rintro e w1 ⟨hv,rfl,an,q,rfl⟩;have al:=zh an;have Hx:=zh (hx.below (zAb w q));have Hw:=zW (Below w.heap.size w (w.drewN q)) (zAb w q);clear an hx;generalize w.drewN q=Y at *;cases hv with
 | true =>
  go_wp2_with fail;refine(aQ.o _).mono ?_;rintro e wK ⟨rfl,aj⟩;have HE:=zW (Below w.heap.size w wK) ((Hw.o).trans (aj.mono (Hw.o).size));go_wp2_with fail;go_ret;exact⟨rfl,HE.o⟩
 | false =>
  by_cases h1:fu<0
  ·have dW:=h1;go_wp2_with fail;refine(aQ.o _).mono ?_;rintro e wK ⟨rfl,aj⟩;have HE:=zW (Below w.heap.size w wK) ((Hw.o).trans (aj.mono (Hw.o).size));go_wp2_with fail;go_ret;exact⟨rfl,HE.o⟩
  by_cases h2:1000<fu
  ·have dX:=h2;go_wp2_with fail;refine(aQ.o _).mono ?_;rintro e wK ⟨rfl,aj⟩;have HE:=zW (Below w.heap.size w wK) ((Hw.o).trans (aj.mono (Hw.o).size));go_wp2_with fail;go_ret;exact⟨rfl,HE.o⟩
  have cc:=zh (al.o rfl).2;have ds:=zh (zFB Y 1048576 (by decide) (by decide));go_wp2_with fail;refine ds.o.mono ?_;rintro e w2 ⟨I,d,r,rfl,aK,bd⟩;have aq:=zh aK;have dO:=zh bd;have bX:=zh (zFB w2 1048576 (by decide) (by decide));clear aK bd;go_wp2_with fail;refine bX.o.mono ?_;rintro e w3 ⟨O,dq,rq,rfl,cA,be⟩;obtain⟨j,xp,jq,x,hY,hp,hq⟩:=pk_two aq.o cA be;have HY:=zh hY;have HP:=zh hp;have HQ:=zh hq;clear cA be hY hp hq aq;have p0:=zAd HP.o;have cY:=zh (pk_fuse HY.o fu (by omega) (by omega));go_wp2_with fail;refine cY.o.mono ?_;rintro e w4 ⟨rfl,cg,bI⟩;have cR:=zh cg;have bO:=zh ((bI I (.inl (.inl rfl))).trans HP.o);have bm:=zh ((bI O (.inl (.inr rfl))).trans HQ.o);have dc:=zh (k_start.burn fu);clear cg bI HY HP HQ p0;have q3:=zBI bm.o;have ab:=zh (pk_shot cR.o fun _ h=>h.elim);go_wp2_with fail;refine ab.o.mono ?_;rintro e w5 ⟨y,S,rfl,J,-,aJ,Q,aI⟩;have T:=zAC w5 (.cells #[.pointer (some ⟨y,0,none⟩)] 35);have ay:=zh (J.box (.cells #[.pointer (some ⟨y,0,none⟩)] 35));have av:=zh ((T.block I (J.lt (.inl (.inl rfl)))).trans ((Q.block I (zAB bO.o)).trans bO.o));have aw:=zh ((T.block O (J.lt (.inl (.inr rfl)))).trans ((Q.block O (zAB bm.o)).trans bm.o));have ax:=zh (shots_one aJ);have az:=zW (∀k,S k→¬((k=I∨k=O)∨k=w5.heap.size)) (fun k A e=>e.elim (aI k A) fun e=>by have:=J.lt (.inr A);omega);have aA:=zW (Y.heap.size≤w5.heap.size) J.bel.size;clear J aJ Q aI T ab q3
  go_upto_block 0 with fail
  generalize w5.heap.size=g at *;generalize w5.alloc (.cells #[.pointer (some ⟨y,0,none⟩)] 35)=w6 at *;generalize (zCW 1048576 [97] zDu).setFuse fu=D0 at *
  go_cut [11] (fun cJ wx=>∃(k:Nat) (D DN:zAA) (M N:zAH) (Ns:List zAH) (G S:Nat→Prop),k≤80∧zA8 Y wx j d x rq D M DN N G S∧(∀k,(k=I∨cJ.ownBlock=some k)→G k)∧wx.heap[I]?=some (zCE d r (.pointer (some ⟨j,0,none⟩)) (.pointer (some ⟨xp,0,none⟩)) false)∧zDp wx rq S cJ Ns∧AftJ zDu (wts (l.take k)) (fun N=>N∈Ns) D∧Ns.length≤10000)
  case first =>
   go_wp2_with fail
   go_loopw [11,12] (fun sv i wr=>∃(k:Nat) (D DN:zAA) (M:zAH) (g:Nat) (S:Nat→Prop),k≤n∧k≤80∧i=.int .i64 k∧sv=.slice (some ⟨g,0,none⟩) 1 1∧zA8 Y wr j d x rq D M DN M (fun k=>(k=I∨k=O)∨k=g) S∧wr.heap[I]?=some (zCE d r (.pointer (some ⟨j,0,none⟩)) (.pointer (some ⟨xp,0,none⟩)) false)∧wr.heap[O]?=some (zCE dq rq (.pointer (some ⟨jq,0,none⟩)) (.pointer (some ⟨x,0,none⟩)) false)∧zDp wr rq S (.slice (some ⟨g,0,none⟩) 1 1) [M]∧(∀k,S k→¬((k=I∨k=O)∨k=g))∧zEk (wts (l.take k)) M D DN∧Y.heap.size≤g) (fun _ i _=>n-(intOf i).toNat)
   case atStart=>exact⟨0,D0,_,_,g,S,Nat.zero_le _,by omega,rfl,rfl,ay.o,av.o,aw.o,ax.o,az.o,dc.o,aA.o⟩
   case round =>
    clear ay av aw ax az aA
    as_aux_lemma =>
     obtain⟨k,D,DN,M,g,S,A,aT,rfl,rfl,hY,hP,hQ,hS,hd,hK,hg⟩:=hrel;have HY:=zh hY;have HP:=zh hP;have HQ:=zh hQ;have HS:=zh hS;have Hd:=zh hd;have HK:=zh hK;have Hg:=zh hg;clear hY hP hQ hS hd hK hg
     by_cases fa:k<n
     ·by_cases dy:k<80
      ·have aU:k<l.length:=by have:=Hx.o.1;omega
       obtain⟨s,hs⟩:∃s,l[k]?=some s:=⟨_,List.getElem?_eq_getElem aU⟩;rcases Hx.o.2 with dB|⟨gx,o,rfl,ch⟩
       ·rw[dB]at aU;simp at aU
       have v:=ch k s hs;have bG:=(al.o rfl).1 k s dy hs;have bq:=zh (v.he.has fun e he=>by have:=bG.2.2.2 e he;omega);have bU:=zh v.hn;have bR:=zh v.hd;obtain⟨dK,dI,cI,-⟩:=v.ok;have aC:=zh (wts_succ hs);have dF:=wts_le l (show k+1≤80 by omega);have br:=zW (wts (l.take k)+wt5 s≤6100) (by have:=cc.o;have:=aC.o;omega);have bY:=zW (5≤wt5 s) (by unfold wt5;omega);have bZ:=zW (zBO s.es+5≤wt5 s) (by unfold wt5;omega);obtain⟨kd,a,b,pl,nl,cl,pn,nn,cn,pd,nd,cd,es,vs,nodes,data⟩:=s;have U:=HY.o.bel;have c0:wr.cell? ⟨gx,o+k*6,none⟩=some (.int .i64 kd):=(U.cell (World.block_lt_of_cell? Y _ v.ck)).trans v.ck;have c1:wr.cell? ⟨gx,o+k*6+1,none⟩=some (.int .i64 a):=(U.cell (World.block_lt_of_cell? Y _ v.ca)).trans v.ca;have c2:wr.cell? ⟨gx,o+k*6+2,none⟩=some (.int .i64 b):=(U.cell (World.block_lt_of_cell? Y _ v.cb)).trans v.cb;have c3:wr.cell? ⟨gx,o+k*6+3,none⟩=some (.slice pl nl cl):=(U.cell (World.block_lt_of_cell? Y _ v.c3)).trans v.c3;have c4:wr.cell? ⟨gx,o+k*6+4,none⟩=some (.slice pn nn cn):=(U.cell (World.block_lt_of_cell? Y _ v.c4)).trans v.c4;have c5:wr.cell? ⟨gx,o+k*6+5,none⟩=some (.slice pd nd cd):=(U.cell (World.block_lt_of_cell? Y _ v.c5)).trans v.c5;have aW:nodes.length=nn:=by obtain⟨_,_,e⟩:=v.hn.slice;simp only[Value.slice.injEq]at e;exact e.2.1.symm
       have bE:data.length=nd:=by obtain⟨_,_,e⟩:=v.hd.slice;simp only[Value.slice.injEq]at e;exact e.2.1.symm
       have bF:es.length=nl:=bq.o.len;have df:=zh aW;have dd:=zh bE;have de:=zh bF;have Hs:=zh hs;have bT:=zh cI;have dS:=zh bG.2.2.2;obtain⟨aV,bB,bC,-⟩:=bG;dsimp only at dK dI bT bq bU bR aV bB bC aC br bY bZ;have cU:=zh aV;rw[bE]at aV;rw[aW]at bB;rw[bF]at bC;clear v ch hs aU cI U dF aW bE bF
       go_upto_region 13 with(fail)
       have aS:=zAC wr (.cells #[.int .i64 kd,.int .i64 a,.int .i64 b,.slice pl nl cl,.slice pn nn cn,.slice pd nd cd] 80);have cr:=zAB HP.o;have ct:=zAB HQ.o;have ah:=zh (HY.o.box (.cells #[.int .i64 kd,.int .i64 a,.int .i64 b,.slice pl nl cl,.slice pn nn cn,.slice pd nd cd] 80));have bk:=zh ((aS.block I cr).trans HP.o);have aP:=zh ((aS.block O ct).trans HQ.o);have ao:=zh (zAJ wr (.cells #[.int .i64 kd,.int .i64 a,.int .i64 b,.slice pl nl cl,.slice pn nn cn,.slice pd nd cd] 80));have bn:=zh (HS.o.keep (w2:=wr.alloc (.cells #[.int .i64 kd,.int .i64 a,.int .i64 b,.slice pl nl cl,.slice pn nn cn,.slice pd nd cd] 80)) (fun y L=>aS.block y (L.elim (fun e=>HY.o.lt (.inr e)) fun e=>HS.o.lt e)) fun y L=>ah.o.lt (.inr L));have bp:=zW (∀y,S y→¬(((y=I∨y=O)∨y=g)∨y=wr.heap.size)) (fun y L e=>e.elim (Hd.o y L) fun e=>by have:=HY.o.lt (.inr L);omega);have cW:=zW (Y.heap.size≤wr.heap.size∧wr.heap.size≠I∧wr.heap.size≠O) (⟨HY.o.bel.size,by omega,by omega⟩);clear aS cr ct c0 c1 c2 c3 c4 c5;generalize wr.alloc (.cells #[.int .i64 kd,.int .i64 a,.int .i64 b,.slice pl nl cl,.slice pn nn cn,.slice pd nd cd] 80)=W0 at *;generalize wr.heap.size=bs at *;have s0:=zAd ao.o
       by_cases k1:kd<1
       ·go_wp2_with fail;go_roundw
        case rel=>exact⟨k+1,D,DN,M,g,S,by omega,by omega,by go_num,rfl,ah.o.less (fun y e=>.inl e) fun y e=>e,bk.o,aP.o,bn.o,fun y L e=>bp.o y L (.inl e),by rw[aC.o];exact HK.o.more _,Hg.o⟩
        case measure=>simp[intOf];omega
       by_cases k6:5<kd
       ·have fd:decide (5<kd)=true:=decide_eq_true k6;go_wp2_with fail;go_roundw
        case rel=>exact⟨k+1,D,DN,M,g,S,by omega,by omega,by go_num,rfl,ah.o.less (fun y e=>.inl e) fun y e=>e,bk.o,aP.o,bn.o,fun y L e=>bp.o y L (.inl e),by rw[aC.o];exact HK.o.more _,Hg.o⟩
        case measure=>simp[intOf];omega
       have cE:Calls prog 42 #[.pointer (some ⟨x,0,none⟩)] W0 fun e w'=>e=.returned (.tuple #[.int .i64 (M.last:Int),.int .i64 M.lastT])∧∃q,w'=W0.drewN q:=by
        obtain⟨F,bW,bc,-,hR,-⟩:=ah.o;exact zDm hR
       have dp:=zh cE;have dC:=ah.o.okN.last;have bj:=zW (M.entries.length≤1000000) (by
        have h1:=HK.o.last;have h2:M.last=M.number+M.entries.length:=rfl;have h3:=br.o;omega)
       have q3:=zBI aP.o;clear cE;generalize bD:M.last=la at *;go_wp2_with fail;refine dp.o.mono ?_;rintro e w2 ⟨rfl,q,rfl⟩;have bo:=zh (ah.o.next (zAb W0 q));have cP:=zW ((W0.drewN q).heap[I]?=_) bk.o;have bP:=zW ((W0.drewN q).heap[O]?=_) aP.o;have bg:=zW ((W0.drewN q).heap[bs]?=_) ao.o;have cQ:=zh (bn.o.keep (w2:=W0.drewN q) (fun _ _=>rfl) fun y L=>ah.o.lt (.inr L));clear ao s0 q3;generalize W0.drewN q=ai at *;have s1:=zAn bg.o
       go_upto_region 16 with(fail)
       have dT:=zh bD;generalize dD:(la:Int)+max (-6) (min a 6)=off at *;have di:=zh (show -9223372036854775808≤off∧off≤9223372036854775807 by omega);have bV:=zh (show off≤(M.last:Int)+6 by rw[bD];omega);clear dD bD;have aZ:ai.cell? ⟨x,5,none⟩=some (.int .i64 M.now)∧0≤M.now∧M.now≤1099511627776:=by
        obtain⟨F,bW,bc,-,hR,-⟩:=bo.o;obtain⟨gv,dv,ev,hc⟩:=hR.cellsD;have h1:=zAl.1 hR.okM.now;exact⟨zAG hc rfl,h1.1,h1.2⟩
       obtain⟨aZ,fb,fc⟩:=aZ;generalize cz:M.now=nw at *;have dU:=zh cz;clear cz;have dH:IntKind.i64.wrap (nw+max (-1) (min a 3))=nw+max (-1) (min a 3):=IntWalk.i64_in _ (by omega);refine ost (fun w':World=>w'.heap[O]?=some (zCE dq rq (.pointer (some ⟨jq,0,none⟩)) (.pointer (some ⟨x,0,none⟩)) false)∧w'.heap[bs]?=some (.cells #[.int .i64 kd,.int .i64 a,.int .i64 b,.slice pl nl cl,.slice pn nn cn,.slice pd nd cd] 80 (0,0))∧w'.cell? ⟨x,5,none⟩=some (.int .i64 nw)) 13 ⟨bP.o,bg.o,aZ⟩ fun t=>?_;refine Pl [0,1,2,3,4,5,6,7,8,9,10,11,12] ?_
       iterate 13 (refine Pd rfl (by intro w aH;have q3:=zBI aH.1;have s1:=zAn aH.2.1;have x5:=aH.2.2;go_simp;try with_reducible rfl) ?_;simp only[uZ])
       refine Pn ?_;refine odn ?_;have ap:=zh (bo.o.next (zAU ai));have af:=zW (ai.drew.heap[I]?=_) cP.o;have bl:=zW (ai.drew.heap[O]?=_) bP.o;have bh:=zW (ai.drew.heap[bs]?=_) bg.o;have ag:=zh (cQ.o.keep (w2:=ai.drew) (fun _ _=>rfl) fun y L=>bo.o.lt (.inr L));clear t aZ s1 dH;generalize ai.drew=P at *;generalize dE:nw+max (-1) (min a 3)=tt at *;have dt:=zh (show -9223372036854775808≤tt∧tt≤9223372036854775807 by omega);clear dE
       go_upto_region 20 with(fail)
       have ar:=zAC P (.cells #[] 35);have B:=zW (KSt Y (P.alloc (.cells #[] 35)) j d x rq I O g bs (zCE d r (.pointer (some ⟨j,0,none⟩)) (.pointer (some ⟨xp,0,none⟩)) false) (zCE dq rq (.pointer (some ⟨jq,0,none⟩)) (.pointer (some ⟨x,0,none⟩)) false) (.cells #[.int .i64 kd,.int .i64 a,.int .i64 b,.slice pl nl cl,.slice pn nn cn,.slice pd nd cd] 80 (0,0)) (.slice (some ⟨P.heap.size,0,none⟩) 0 0) M [] D M DN M S) (
        ⟨(ap.o.box (.cells #[] 35)).less (fun y e=>e.imp id fun e=>(Option.some.inj e).symm) fun y e=>e,(ar.block I (zAB af.o)).trans af.o,(ar.block O (zAB bl.o)).trans bl.o,(ar.block bs (zAB bh.o)).trans bh.o,
         ag.o.keep (fun y L=>ar.block y (L.elim (fun e=>ap.o.lt (.inr e)) fun e=>ag.o.lt e)) fun y L=>Nat.lt_of_lt_of_le (ap.o.lt (.inr L)) ar.size,shots_nil P rq S,fun y L e=>e.elim (bp.o y L) fun e=>by
          have h1:=ap.o.lt (.inr L);have h2:P.heap.size=y:=Option.some.inj e;omega⟩)
       have dg:=zW (∀y,(Value.slice (some ⟨P.heap.size,0,none⟩) 0 0).ownBlock=some y→Y.heap.size≤y) (fun y e=>by
        have h1:P.heap.size=y:=Option.some.inj e;have h2:=ap.o.bel.size;omega)
       have bS:=zW (FarV Y I O g bs (.slice (some ⟨P.heap.size,0,none⟩) 0 0)) (fun y e=>by
        have h1:P.heap.size=y:=Option.some.inj e;have h2:=ap.o.bel.size;have h3:=zAB af.o;have h4:=zAB bl.o;have h5:=zAB bh.o;have h6:=ag.o.lt (k:=g) rfl;exact⟨⟨by omega,by omega,by omega⟩,by omega,by omega⟩)
       clear ar af ag;generalize P.alloc (.cells #[] 35)=W5 at *;generalize P.heap.size=nb at *;obtain⟨p2,q3,s0,s1,s2,s3,s4,s5⟩:=zA7 B.o.kh
       go_upto_block 2 with(fail)
       go_cut [18,19,20] (fun dL dM dN wx=>KoutW Y j d x rq I O g bs (zCE d r (.pointer (some ⟨j,0,none⟩)) (.pointer (some ⟨xp,0,none⟩)) false) (zCE dq rq (.pointer (some ⟨jq,0,none⟩)) (.pointer (some ⟨x,0,none⟩)) false) (.cells #[.int .i64 kd,.int .i64 a,.int .i64 b,.slice pl nl cl,.slice pn nn cn,.slice pd nd cd] 80 (0,0)) (wts (l.take (k+1))) M dL dM dN wx)
       case first J2 K2 hJ2 hM2 =>
        have cZ:=zW (Y.heap.size≤g∧g≠I∧g≠O) (⟨Hg.o,zFW B.o.s0 rfl B.o.p (by decide),zFW B.o.s0 rfl B.o.q (by decide)⟩);refine wp_out (jk_kinds (kd:=kd) (by omega) (a:=a) (b:=b) (off:=off) (tt:=tt) (es:=es) (vs:=vs) (nodes:=nodes) (data:=data) B HK bY br dg bq de bC bZ cZ cW bS dt di bT bR dd cU aV bj bV bU df bB (by kernel_rfl) (zh ?_));intros
        rename_i w9 aY
        refine hM2 _ _ ?_
        go_meet
        rw[aC.o];exact aY
       case rest =>
        clear B p2 q3 s0 s1 s2 s3 s4 s5;obtain⟨D',M',DN',N',e,f,pv,cv,Ms,S',rfl,rfl,rfl,ak,dA,cw,aX⟩:=hcut;have B:=zh ak;have dl:=zh aX;rcases dA with⟨rfl,rfl,rfl,rfl,aG⟩|⟨rfl,rfl,rfl,aG⟩|⟨rfl,rfl,hA⟩
        ·as_aux_lemma =>
          have bi:=zh aG;clear aG ak aX;go_wp2_with fail;go_roundw
          case rel=>exact⟨k+1,D',DN',_,g,S',by omega,by omega,by go_num,rfl,B.o.pr.less (fun y e=>.inl (.inl e)) fun y e=>e,B.o.p,B.o.q,B.o.s0,fun y L e=>B.o.dis y L (.inl (.inl e)),bi.o,Hg.o⟩
          case measure=>simp[intOf];omega
        ·as_aux_lemma =>
          have bi:=zh aG;have q3:=zBI ak.q;have ab:=zh (pk_shot ak.pr ak.dis);clear aG ak aX;go_wp2_with fail;refine ab.o.mono ?_;rintro e w5 ⟨y,S9,rfl,J,-,aJ,Q,aI⟩;have T:=zAC w5 (.cells #[.pointer (some ⟨y,0,none⟩)] 35);have ay:=zh ((J.box (.cells #[.pointer (some ⟨y,0,none⟩)] 35)).less (G':=fun y=>(y=I∨y=O)∨y=w5.heap.size) (fun y e=>e.elim (fun e=>.inl (.inl (.inl (.inl e)))) .inr) fun y e=>e);have av:=zh ((T.block I (J.lt (.inl (.inl (.inl (.inl (.inl rfl))))))).trans ((Q.block I (zAB B.o.p)).trans B.o.p));have aw:=zh ((T.block O (J.lt (.inl (.inl (.inl (.inl (.inr rfl))))))).trans ((Q.block O (zAB B.o.q)).trans B.o.q));have ax:=zh (shots_one aJ);have az:=zW (∀k,S9 k→¬((k=I∨k=O)∨k=w5.heap.size)) (fun k A e=>e.elim (fun e=>aI k A (.inl (.inl (.inl e)))) fun e=>by have:=J.lt (.inr A);omega);have aA:=zW (Y.heap.size≤w5.heap.size) J.bel.size;clear J aJ Q aI T ab B q3;go_wp2_with fail;go_roundw
          case rel=>exact⟨k+1,D',DN',_,w5.heap.size,S9,by omega,by omega,by go_num,rfl,ay.o,av.o,aw.o,ax.o,az.o,bi.o,aA.o⟩
          case measure=>simp[intOf];omega
        ·have HA:=zh hA;clear hA ak aX
         as_aux_lemma =>
          have cL:=HA;clear HA;have bx:∀y,(Value.slice (some ⟨g,0,none⟩) 1 1).ownBlock=some y→y≠I∧y≠O:=fun y e=>⟨zFW B.o.s0 e B.o.p (by decide),zFW B.o.s0 e B.o.q (by decide)⟩;have bK:∀y,(Value.slice pv Ms.length cv).ownBlock=some y→y≠I∧y≠O:=fun y e=>⟨zFW B.o.s1 e B.o.p (by decide),zFW B.o.s1 e B.o.q (by decide)⟩;have aO:=zh (B.o.dst ⟨Hg.o,(bx g rfl).1,(bx g rfl).2⟩ fun y e=>⟨dl.o y e,(bK y e).1,(bK y e).2⟩);have aB:=zh cw;have cK:=zh B.o.s0;have ao:=zh B.o.s1;have q3:=zBI B.o.q;clear bx bK B cw;obtain⟨ip,cq,cB,cC,cD⟩:=info_parts (show(prog.info? 35).map (fun i=>(i.zero,i.size,i.bytes))=some (some (.pointer none),1,8) by kernel_rfl);go_wp2_with fail;refine ost (fun w':World=>w'.heap[O]?=some (zCE dq rq (.pointer (some ⟨jq,0,none⟩)) (.pointer (some ⟨x,0,none⟩)) false)) 11 aO.o.q fun t=>?_;have V:=zh (aO.o.next (zAU wc));have HA:=zh (zFX aO.o cK.o (zAU wc));have HB:=zh (zFX aO.o ao.o (zAU wc));have RA:=zh (fun k (A:(Value.slice (some ⟨g,0,none⟩) 1 1).ownBlock=some k)=>(Or.inl (Option.some.inj A).symm:k=g∨(Value.slice pv Ms.length cv).ownBlock=some k));have RB:=zh (fun k (A:(Value.slice pv Ms.length cv).ownBlock=some k)=>(Or.inr A:k=g∨(Value.slice pv Ms.length cv).ownBlock=some k));clear ao q3;generalize wc.drew=W0 at *;refine Pl [0,1,3,4,5,6] ?_
          iterate 6 (refine Pd rfl (by intro w aH;have q3:=zBI aH;go_simp;try with_reducible rfl) ?_;simp only[uZ])
          refine Pn ?_;refine oon 2 rfl fun K hK=>?_;obtain⟨ys,ad,X,ae⟩:=HA.o;obtain⟨zs,aL,aM,aN⟩:=HB.o;have aD:=zh X;have aE:=zh (OwnR.holds aM);have au:=zh (fun W2 v3 (ho:OwnR W2 35 1 v3 _ _) (hg:W0.grownBy W2 (Value.slice (some ⟨g,0,none⟩) 1 1).ownBlock)=>zFA V.o RA.out ad ae aL aN ho hg);clear ad X ae aL aM aN;refine zAq (.tmp 251) (.tmp 252) 77 rfl 35 ip (.pointer none) 1 8 underlying77 cq cB cC cD rfl (by decide) (Value.slice (some ⟨g,0,none⟩) 1 1) 1 _ rfl aD.o (Value.slice pv Ms.length cv) Ms.length _ rfl aE.o (fun u hu=>by obtain⟨z,-,rfl⟩:=List.mem_map.1 hu;rfl) (by have:=aB.o;(try simp only[List.length_append,List.length_cons,List.length_nil]);unfold maxLen;omega) (by have:=aB.o;(try simp only[List.length_append,List.length_cons,List.length_nil]);omega) ?_;intro v3 wX H C ac;have aa:=zh (au.o wX v3 H C);have E:=zh (dst_grown V.o RA.out C ac fun k A=>OwnR.lt H A);have Z:=OwnR.shape H;have aF:=zh (dst_r1 E.o);clear H C ac au aD aE V HA RA HB RB    t;have V:=E;clear E;have HX:=aa;clear aa;have RX:=aF;clear aF;obtain⟨p3,c3,rfl⟩:=Z;go_wp2_with fail;refine hK.o _ _ V.o.q fun t=>?_;clear hK
          try simp only[uZ]
          refine oon 7 rfl fun K hK=>?_;have ab:=zh (dst_shot V.o);go_wp2_with fail;refine ab.o.mono ?_;rintro e wS ⟨y,S9,rfl,co,cH,aY,ci⟩;have aa:=zh ((zFX V.o HX.o ci).wide aY);have Hy:=zh cH;have E:=zh co;clear co cH aY ci ab V HX t;have V:=E;clear E;have HX:=aa;clear aa;go_wp2_with fail;refine hK.o _ _ V.o.q fun t=>?_;clear hK
          try simp only[uZ]
          refine oon 8 rfl fun K hK=>?_;go_wp2_with fail;have cm:=zAC wS (.cells #[.pointer (some ⟨y,0,none⟩)] 35);have E:=zh (dst_lit V.o y);have HL:=zh (shots_one Hy.o);have RL:=zh (dst_r2 E.o);have aa:=zh (zFX V.o HX.o cm);have aF:=zh (fun k (A:(Value.slice p3 (1+Ms.length) c3).ownBlock=some k)=>(Or.inl (RX.out k A):_∨k=wS.heap.size));clear cm V HX RX t;have V:=E;clear E;have HX:=aa;clear aa;have RX:=aF;clear aF;refine hK.o _ _ V.o.q fun t=>?_;clear hK
          try simp only[uZ]
          generalize wS.alloc (.cells #[.pointer (some ⟨y,0,none⟩)] 35)=wL at *;generalize wS.heap.size=lb at *;refine oon 9 rfl fun K hK=>?_;obtain⟨ys,ad,X,ae⟩:=HX.o;obtain⟨zs,aL,aM,aN⟩:=HL.o;have aD:=zh X;have aE:=zh (OwnR.holds aM);have au:=zh (fun W2 v3 (ho:OwnR W2 35 1 v3 _ _) (hg:wL.grownBy W2 (Value.slice p3 (1+Ms.length) c3).ownBlock)=>zFA V.o RX.out ad ae aL aN ho hg);clear ad X ae aL aM aN;refine zAq (.tmp 253) (.tmp 259) 77 rfl 35 ip (.pointer none) 1 8 underlying77 cq cB cC cD rfl (by decide) (Value.slice p3 (1+Ms.length) c3) ([M]++Ms).length _ rfl aD.o (Value.slice (some ⟨lb,0,none⟩) 1 1) 1 _ rfl aE.o (fun u hu=>by obtain⟨z,-,rfl⟩:=List.mem_map.1 hu;rfl) (by have:=aB.o;(try simp only[List.length_append,List.length_cons,List.length_nil]);unfold maxLen;omega) (by have:=aB.o;(try simp only[List.length_append,List.length_cons,List.length_nil]);omega) ?_;intro v3 wZ H C ac;have cS:=zh (au.o wZ v3 H C);have E:=zh (dst_grown V.o RX.out C ac fun k A=>OwnR.lt H A);have Z:=OwnR.shape H;have dx:=zh (dst_r1 E.o);clear H C ac au aD aE V HX RX HL RL    t;have V:=E;clear E;have HZ:=cS;have RZ:=dx;obtain⟨p4,c4,rfl⟩:=Z;go_wp2_with fail;refine hK.o _ _ V.o.q fun t=>?_;clear hK
          try simp only[uZ]
          refine Pl [10] ?_
          iterate 1 (refine Pc rfl ?_;simp only[uZ])
          refine Pn ?_;refine odn ?_;clear t;go_wp2_with fail
          go_meet
          exact⟨k+1,D',DN',_,_,_,_,_,by omega,V.o.pr,fun y e=>e.elim (fun e=>.inl (.inl e)) fun e=>.inr (RZ.out y e),V.o.p,HZ.o,cL.o.mono fun K hK=>by
           rcases hK with rfl|hK|rfl
           ·exact List.mem_append_left _ (List.mem_append_left _ (List.mem_singleton.2 rfl))
           ·exact List.mem_append_left _ (List.mem_append_right _ hK)
           ·exact List.mem_append_right _ (List.mem_singleton.2 rfl),by
           have:=aB.o;simp only[List.length_append,List.length_cons,List.length_nil];omega⟩
      ·have dP:decide ((k:Int)<80)=false:=by simp;omega
       go_wp2_with fail
       go_meet
       exact⟨k,D,DN,M,M,[M],_,S,aT,HY.o,fun y e=>e.elim (fun e=>.inl (.inl e)) (fun e=>.inr (Option.some.inj e).symm),HP.o,HS.o,HK.o.p.aft.mono fun N hN=>by rw[hN];exact List.mem_singleton.2 rfl,by simp⟩
     ·have aW:decide ((k:Int)<(n:Int))=false:=by simp;omega
      go_wp2_with fail
      go_meet
      exact⟨k,D,DN,M,M,[M],_,S,aT,HY.o,fun y e=>e.elim (fun e=>.inl (.inl e)) (fun e=>.inr (Option.some.inj e).symm),HP.o,HS.o,HK.o.p.aft.mono fun N hN=>by rw[hN];exact List.mem_singleton.2 rfl,by simp⟩
  case rest =>
   clear ay av aw ax az aA
   as_aux_lemma =>
    obtain⟨k,D,DN,M,N,Ns,G,S,aT,hY,hG,hP,hS,hA,dQ⟩:=hcut;have dG:=wts_le l aT;obtain⟨M1,ce,aK,-⟩:=aft_open rfl hA (by have:=cc.o;omega) dr;obtain⟨FF,bW,bc,hL,hR,A,bt,cf⟩:=hY;have dk:=zh (bt I (hG I (.inl rfl))).1;have aR:=zh (fun k (A:S k∨u11.ownBlock=some k)=>A.elim (fun e=>(cf k e).1) fun e=>(bt k (hG k (.inr e))).1);have HS:=zh hS;have bj:=zh ce;have aq:=zh aK;have dn:=zW ((D.crash dr).room≤1048576) (Nat.le_of_eq hA.room);have p0:=zAd hP;have HP:=zh hP;have HB:=zh hL.bel;have cX:=zh (st_crash hL.stF dr cp.1 cp.2);have dR:=zh (fun k (A:FF k)=>hL.flt A);clear hG hP hS hA hL hR A bt cf ce aK dG;go_wp2_with fail;refine cX.o.mono ?_;rintro e w2 ⟨rfl,h2,bH⟩;have af:=zh ((bH I dk.o).trans HP.o);have ag:=zh (HS.o.keep (fun k A=>bH k (aR.o k A)) fun k A=>h2.flt (aR.o k (.inl A)));have dj:=zW (Calls prog 17 #[.pointer (some ⟨d,0,none⟩),.string sA,.slice (some ⟨w2.heap.size,0,none⟩) 3 3] (w2.alloc LitO) (zFz Y (w2.alloc LitO) d sA FF (zAV (D.crash dr) [97] zDu))) (jopen_calls (h2.next (zAC w2 LitO)) dn.o sA (hasI_012 w2) (by simp));have cM:=zh (fun k (A:FF k)=>h2.flt A);clear h2 bH HS HP p0;have p0:=zAd af.o;generalize zAV (D.crash dr) [97] zDu=R at *;obtain⟨D9,k9,M9⟩:=R;obtain⟨rfl,rfl⟩:k9=0∧M9=M1:=⟨congrArg Prod.fst aq.o,congrArg Prod.snd aq.o⟩;go_wp2_with fail;refine dj.o.mono ?_;rintro e w3 ⟨v,cG,bw⟩;rcases bw with⟨-,j9,rfl,bA⟩|⟨cx,-⟩
    rotate_left
    ·exact absurd rfl cx
    have bf:∀k,FF k→w3.heap[k]?=w2.heap[k]?:=fun k A=>(cG k A).trans (zF0 w2 LitO (cM.o k A));have dz:=ag.o.keep (fun k A=>bf k (aR.o k A)) fun k A=>v.flt (aR.o k (.inl A));obtain⟨ys,ad,X,ae⟩:=dz;obtain⟨ps,cs,bJ⟩:=OwnR.shape X;obtain⟨ix,bz⟩:=List.getElem?_of_mem bj.o;have dZ:=(List.getElem?_eq_some_iff.1 bz).1;have cF:∃g,ps=some ⟨g,0,none⟩∧∀(i:Nat) y,ys[i]?=some y→w3.cell? ⟨g,i,none⟩=some (.pointer (some ⟨y,0,none⟩)):=by
     rcases X.2 with⟨-,h0⟩|⟨g,dV,cur,e,-⟩
     ·omega
     ·rw[bJ]at e;refine⟨g,?_,fun i y L=>?_⟩
      ·simp only[Value.slice.injEq]at e;exact e.1
      ·have hc:=X.cells (g:=g) (by rw[bJ,e];rfl) i (.pointer (some ⟨y,0,none⟩)) (by rw[List.getElem?_map,L];rfl);rwa[add_zero]at hc
    obtain⟨g9,rfl,am⟩:=cF;subst bJ;have HC:=zh am;have du:=zh ad;have dw:=zh ae;have db:=zh bz;have cN:=zh bA;have bL:=zW (Below w.heap.size w w3) (Hw.o.trans (bA.bel.mono Hw.o.size));generalize cy:Ns.length=nl at *;have dh:=zh cy;clear v cG bf ad X ae bz bA am cy ag af p0 aq;go_wp2_with fail
    go_loopw [26] (fun i wr=>∃m:Nat,i=.int .i64 m∧m≤ix∧Below w3.heap.size w3 wr) (fun i _=>nl-(intOf i).toNat)
    case atStart=>exact⟨0,rfl,Nat.zero_le _,Below.refl _ _⟩
    case round =>
     obtain⟨m,rfl,hm,hb⟩:=hrel;have cu:m<ys.length:=by have:=du.o;omega
     have ba:=List.getElem?_eq_getElem cu;have hc:=hb.cell (World.block_lt_of_cell? w3 _ (HC.o m _ ba)) |>.trans (HC.o m _ ba)
     obtain⟨Nm,bu⟩:∃Nm,Ns[m]?=some Nm:=⟨_,List.getElem?_eq_getElem (show m<Ns.length by rw[dh.o];omega)⟩;have cT:=zh (alike_calls (cN.o.next hb) ((dw.o m _ Nm ba bu).below hb));have cO:=zh bu;have Hb:=zh (bL.o.trans (hb.mono bL.o.size));have bQ:=zh hb;clear hb bu ba;generalize ys[m]=ym at *;clear cu;go_wp2_with fail;refine cT.o.mono ?_;rintro e w5 ⟨bb,rfl,cj,Q⟩;have bN:=zh (Hb.o.trans (Q.mono Hb.o.size));have bM:=zh (bQ.o.trans (Q.mono bQ.o.size));have cV:=zh cj;clear Q cj hc;cases bv:bb with
     | true =>
      subst bv;go_wp2_with fail;refine(aQ.o _).mono ?_;rintro e wK ⟨rfl,aj⟩;have HE:=zW (Below w.heap.size w wK) ((bN.o).trans (aj.mono (bN.o).size));go_wp2_with fail;go_ret;exact⟨rfl,HE.o⟩
     | false =>
      have cx:m≠ix:=fun e=>by
       have h1:=cO.o;rw[e,db.o]at h1;have h2:=cV.o (by rw[Option.some.inj h1];exact JEq.refl _);rw[bv]at h2;cases h2
      subst bv;go_wp2_with fail;go_roundw
      case rel=>exact⟨m+1,by go_num,by omega,bM.o⟩
      case measure=>simp[intOf];omega
end Go.Proofs.YtapfnehdgailmaaGreat
