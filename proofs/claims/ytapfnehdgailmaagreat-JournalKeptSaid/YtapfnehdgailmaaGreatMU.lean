/- What the program's functions and the document's do, and plain laws, for PJournalKept. -/
import Derived.Deep.CutBlock
import Derived.Deep.CutRange
import Derived.Deep.DeepCutAuto
import Derived.Test.YtapfnehdgailmaaGreatMA
import Derived.Test.YtapfnehdgailmaaGreatMC
import Derived.Test.YtapfnehdgailmaaGreatMD
import Derived.Test.YtapfnehdgailmaaGreatME
import Derived.Test.YtapfnehdgailmaaGreatMF
import Derived.Test.YtapfnehdgailmaaGreatMG
import Derived.Test.YtapfnehdgailmaaGreatMI
import Derived.Test.YtapfnehdgailmaaGreatMK
import Derived.Test.YtapfnehdgailmaaGreatMM
import Derived.Test.YtapfnehdgailmaaGreatMO
import Derived.Test.YtapfnehdgailmaaGreatMR
import Derived.Test.YtapfnehdgailmaaGreatMS
import Derived.Test.YtapfnehdgailmaaGreatMT
open Go.Proofs.Tryz
set_option maxRecDepth 100000
set_option maxHeartbeats 64000000
namespace Go.Proofs.YtapfnehdgailmaaGreat
open Go.RowKit Go.Sat Go.Maps
theorem jk_kinds {kd:Int}(la:kd=1∨kd=2∨kd=3∨kd=4∨kd=5){N W5:World}{j d x r X xp dq jq pb W g T nb A B P cl nn cn nd cd:Nat}{pl pn pd:Option Addr}{a b off tt:Int}{D DN:zAA}{M:zAH}{S:Nat→Prop}{es:List Ent}{vs:List EV}{nodes:List Int}{data:Bs}
  (f:Hid (KSt N W5 j d x X pb W g T (zCE d r (.pointer (some ⟨j,0,none⟩)) (.pointer (some ⟨xp,0,none⟩)) false) (zCE dq X (.pointer (some ⟨jq,0,none⟩)) (.pointer (some ⟨x,0,none⟩)) false) (.cells #[.int .i64 kd,.int .i64 a,.int .i64 b,.slice pl P cl,.slice pn nn cn,.slice pd nd cd] 80 (0,0)) (.slice (some ⟨nb,0,none⟩) 0 0) M [] D M DN M S)) (HK:Hid (zEk A M D DN)) (au:Hid (5≤B)) (ab:Hid (A+B≤6100)) (ag:Hid (∀y,(Value.slice (some ⟨nb,0,none⟩) 0 0).ownBlock=some y→N.heap.size≤y))
  (bV:Hid (zCb N (.slice pl P cl) es vs)) (R:Hid (es.length=P)) (li:P≤1200) (bX:Hid (zBO es+5≤B)) (Hg:Hid (N.heap.size≤g∧g≠pb∧g≠W)) (kP:Hid (N.heap.size≤T∧T≠pb∧T≠W)) (ch:Hid (FarV N pb W g T (.slice (some ⟨nb,0,none⟩) 0 0))) (cs:Hid (-9223372036854775808≤tt∧tt≤9223372036854775807)) (ae:Hid (-9223372036854775808≤off∧off≤9223372036854775807)) (ck:Hid (-9223372036854775808≤b∧b≤9223372036854775807)) (aq:Hid (zAY N (.slice pd nd cd) data)) (ar:Hid (data.length=nd)) (cg:Hid (data.length≤6000)) (bZ:nd≤6000) (ap:Hid (M.entries.length≤1000000)) (az:Hid (off≤(M.last:Int)+6)) (cq:Hid (zBg N (.slice pn nn cn) nodes)) (cp:Hid (nodes.length=nn)) (lh:nn≤6000)
  {K':Act→World→Prop} {c0 c1 c2 c3 c4 c5 c6 c8 cw cx cD cY dj kV kW kX ge gn go gp gq gr gs gt gu gv gw gx gy gz gA gB gC gD gE gF gG gH gI gJ gK gL gM gN gO gP gQ gR gS gT gU gV gW gX gY gZ ha hc hd hf hg hh hi hj hl ho hp hq hr ht hv hw hx hz hA hB hC hD hE hG hH hI hJ hL hM hN hO hP hQ hR hT hU aA aB aC aD aE aF aG aH aI aJ aK aL aM aN cy cz cA cB cC cE cF cG cH cI cJ cK cL cM cN cO cP cQ cR cS cT cU cV cW cX cZ da db dc dd de df dg dh di dk dn dp dr ds dt du dv dw dx dy dz dA dB dC dD dE dF dG dH dI dK dL dM dN dO dP dQ dR dS dT dU dV dW dX dY dZ fa fb fc fd fe ff fg fh fi fj fk fm fn fo fp fq fr fs ft fu fv fw fx fy fz fA fB fC fD fE fF fG fH fI fJ fK fL fM fO fP fQ fR fS fT fU fV fW fX fY fZ ga gb gc gf gg gh gi gj gl gm aO aP aQ aR aS aT aU aV aW aX aY aZ ba bb bc bd be bf bg bh bi bj bk bl bm bn bo bp bq br bt bu bv bw bx bz bA bB bC bD bE bF bG bH bI bJ bK bL bM bN bO bP bQ bR bS:Value} {s:Code} (hs:((Tryz.f8.body.bind (blk 2)).getD .skip)=s)
  (HQ:Hid (∀(jv jG jR cc ce lg id ie ig ih ii ij ik il im io iq ir it iu iv iw ix iy iz iA iB iC iD iE iF iG iH iI iJ iK iL iM iN iO iP iQ iR iS iT iU iV iW iX iY iZ ja jb jc jd je jf jg jh ji jj jk jl jm jn jo jp jr js jt ju jw jx jy jz jA jB jC jD jE jF jH jI jJ jK jL jM jN jO jP jQ jS jT jU jV jW jX jY jZ ka kb kc ke kf kg ki kj kk kl km kn ko kp kq kr ks kt ku kv kw kx ky kz kA kB kC kD kE kF kG kH kI kJ kK kL kM kN kO:Value) (w':World),KoutW N j d x X pb W g T (zCE d r (.pointer (some ⟨j,0,none⟩)) (.pointer (some ⟨xp,0,none⟩)) false) (zCE dq X (.pointer (some ⟨jq,0,none⟩)) (.pointer (some ⟨x,0,none⟩)) false) (.cells #[.int .i64 kd,.int .i64 a,.int .i64 b,.slice pl P cl,.slice pn nn cn,.slice pd nd cd] 80 (0,0)) (A+B) M jv jG jR w'→K' ⟨(c0::c1::c2::c3::c4::c5::c6:: .pointer (some ⟨pb,0,none⟩)::c8:: .pointer (some ⟨W,0,none⟩)::cw::cx::cD:: .pointer (some ⟨T,0,none⟩)::cY::dj:: .int .i64 off:: .int .i64 tt::jv::jG::jR::cc::ce::lg::ge::gn::go::gp::gq::gr::gs::gt::gu::gv::gw::gx::gy::gz::gA::gB::gC::gD::gE::gF::gG::gH::gI::gJ::gK::gL::gM::gN::gO::gP::gQ::gR::gS::gT::gU::gV::gW::gX::gY::gZ::ha::hc::hd::hf::hg::hh::hi::hj::hl::ho::hp::hq::hr::ht::hv::hw::hx::hz::hA::hB::hC::hD::hE::hG::hH::hI::hJ::hL::hM::hN::hO::hP::hQ::hR::hT::hU::aA::aB::aC::aD::aE::aF::aG::aH::aI::aJ::aK::aL::aM::aN:: .int .i64 kd::id::ie::ig::ih::ii::ij::ik::il::im::io::iq::ir::it::iu::iv::iw::ix::iy::iz::iA::iB::iC::iD::iE::iF::iG::iH::iI::iJ::iK::iL::iM::iN::iO::iP::iQ::iR::iS::iT::iU::iV::iW::iX::iY::iZ::ja::jb::jc::jd::je::jf::jg::jh::ji::jj::jk::jl::jm::jn::jo::jp::jr::js::jt::ju::jw::jx::jy::jz::jA::jB::jC::jD::jE::jF::jH::jI::jJ::jK::jL::jM::jN::jO::jP::jQ::jS::jT::jU::jV::jW::jX::jY::jZ::ka::kb::kc::ke::kf::kg::ki::kj::kk::kl::km::kn::ko::kp::kq::kr::ks::kt::ku::kv::kw::kx::ky::kz::kA::kB::kC::kD::kE::kF::kG::kH::kI::kJ::kK::kL::kM::kN::kO::aO::aP::aQ::aR::aS::aT::aU::aV::aW::aX::aY::aZ::ba::bb::bc::bd::be::bf::bg::bh::bi::bj::bk::bl::bm::bn::bo::bp::bq::br::bt::bu::bv::bw::bx::bz::bA::bB::bC::bD::bE::bF::bG::bH::bI::bJ::bK::bL::bM::bN::bO::bP::bQ::bR::bS::[]).toArray,[]⟩ w')) :
  Code.wp prog s (Exit.then K' fun _ _ _=>False) ⟨(c0::c1::c2::c3::c4::c5::c6:: .pointer (some ⟨pb,0,none⟩)::c8:: .pointer (some ⟨W,0,none⟩)::cw::cx::cD:: .pointer (some ⟨T,0,none⟩)::cY::dj:: .int .i64 off:: .int .i64 tt:: .int .i64 0:: .int .i64 0:: .slice (some ⟨nb,0,none⟩) 0 0::kV::kW::kX::ge::gn::go::gp::gq::gr::gs::gt::gu::gv::gw::gx::gy::gz::gA::gB::gC::gD::gE::gF::gG::gH::gI::gJ::gK::gL::gM::gN::gO::gP::gQ::gR::gS::gT::gU::gV::gW::gX::gY::gZ::ha::hc::hd::hf::hg::hh::hi::hj::hl::ho::hp::hq::hr::ht::hv::hw::hx::hz::hA::hB::hC::hD::hE::hG::hH::hI::hJ::hL::hM::hN::hO::hP::hQ::hR::hT::hU::aA::aB::aC::aD::aE::aF::aG::aH::aI::aJ::aK::aL::aM::aN:: .int .i64 kd::cy::cz::cA::cB::cC::cE::cF::cG::cH::cI::cJ::cK::cL::cM::cN::cO::cP::cQ::cR::cS::cT::cU::cV::cW::cX::cZ::da::db::dc::dd::de::df::dg::dh::di::dk::dn::dp::dr::ds::dt::du::dv::dw::dx::dy::dz::dA::dB::dC::dD::dE::dF::dG::dH::dI::dK::dL::dM::dN::dO::dP::dQ::dR::dS::dT::dU::dV::dW::dX::dY::dZ::fa::fb::fc::fd::fe::ff::fg::fh::fi::fj::fk::fm::fn::fo::fp::fq::fr::fs::ft::fu::fv::fw::fx::fy::fz::fA::fB::fC::fD::fE::fF::fG::fH::fI::fJ::fK::fL::fM::fO::fP::fQ::fR::fS::fT::fU::fV::fW::fX::fY::fZ::ga::gb::gc::gf::gg::gh::gi::gj::gl::gm::aO::aP::aQ::aR::aS::aT::aU::aV::aW::aX::aY::aZ::ba::bb::bc::bd::be::bf::bg::bh::bi::bj::bk::bl::bm::bn::bo::bp::bq::br::bt::bu::bv::bw::bx::bz::bA::bB::bC::bD::bE::bF::bG::bH::bI::bJ::bK::bL::bM::bN::bO::bP::bQ::bR::bS::[]).toArray,[]⟩ W5:=by
 subst hs
 conv=>arg 2;whnf
 rcases la with rfl|rfl|rfl|rfl|rfl
 ·as_aux_lemma =>
   obtain⟨F,C,G,H,I,z,J,L⟩:=zA7 f.o.kh;go_wp2_with fail;refine ost (KH j d x r X xp dq jq pb W T P cl nn cn nd cd pl pn pd 1 a b) 8 f.o.kh fun c=>?_;have Q:=zh (f.o.next (zAU W5));clear f F C G H I z J L;generalize W5.drew=W2 at *;refine Pl [0,1,2,3,4,5] ?_
   iterate 6 (refine Pd rfl (by intro w t;obtain⟨F,C,G,H,I,z,J,L⟩:=zA7 t;go_simp;try with_reducible rfl) ?_;simp only[uZ])
   refine Pn ?_;have p:=zh (kst_append Q.o bV.o (by omega));refine oon 6 rfl fun K O=>?_;go_wp2_with fail;refine p.o.mono ?_;rintro e w6 ⟨rfl,E⟩;have f:=zh E;clear E c p Q;go_wp2_with fail;refine O.o _ _ f.o.kh fun c=>?_;clear O
   try simp only[uZ]
   refine Pl [7] ?_;refine Pc rfl ?_;simp only[uZ];refine Pn ?_;refine odn ?_;clear c;obtain⟨F,C,G,H,I,z,J,L⟩:=zA7 f.o.kh;generalize ic:zAZ [97] D M es=Z1 at *;have cu:=zh ic;clear ic;go_wp2_with fail
   go_loopw [21,22] (fun gd i wr=>∃m:Nat,m≤P∧i=.int .i64 m∧gd=.bool ((es.take m).all zAt)∧KSt N wr j d x X pb W g T (zCE d r (.pointer (some ⟨j,0,none⟩)) (.pointer (some ⟨xp,0,none⟩)) false) (zCE dq X (.pointer (some ⟨jq,0,none⟩)) (.pointer (some ⟨x,0,none⟩)) false) (.cells #[.int .i64 1,.int .i64 a,.int .i64 b,.slice pl P cl,.slice pn nn cn,.slice pd nd cd] 80 (0,0)) (.slice (some ⟨nb,0,none⟩) 0 0) M [] Z1.disk Z1.jou DN M S) (fun _ i _=>P-(intOf i).toNat)
   case atStart=>exact⟨0,Nat.zero_le _,rfl,rfl,f.o⟩
   case round =>
    clear f F C G H I z J L;obtain⟨m,hm,rfl,rfl,Y⟩:=hrel;have f:=zh Y;clear Y;have Z:=f.o.b;have z:=zBI Z;clear Z
    by_cases lb:m<P
    ·have ao:(es.take (m+1)).all zAt=((es.take m).all zAt&&zAt (es[m]'(by have:=R.o;omega))):=by rw[List.take_succ_eq_append_getElem (by have:=R.o;omega),List.all_append];simp
     have U:=zh ao;clear ao;have al:m<es.length:=by have:=R.o;omega
     obtain⟨b2,o2,⟨cc,ce⟩,ca,V,d0,d1,d2,d3⟩:=bV.o.ent al;have v:=f.o.pr.bel;obtain⟨q1,r1,ai⟩:=V.data.slice;obtain⟨q2,r2,aj⟩:=V.nodes.slice;dsimp only at ai aj d2 d3;subst ai;subst aj;have e0:=(v.cell (World.block_lt_of_cell? N _ d0)).trans d0;have e1:=(v.cell (World.block_lt_of_cell? N _ d1)).trans d1;have e2:=(v.cell (World.block_lt_of_cell? N _ d2)).trans d2;have e3:=(v.cell (World.block_lt_of_cell? N _ d3)).trans d3;have cr:=zh (ris_calls (V.below v));subst ca;clear v d0 d1 d2 d3 V;generalize es[m]=em at *;clear al;generalize kY:em.data.length=dl at *;generalize lc:em.nodes.length=lj at *;clear kY lc;cases aw:(es.take m).all zAt with
     | true =>
      rw[aw]at U;clear aw;go_wp2_with fail;refine cr.o.mono ?_;rintro e w7 ⟨rfl,hV⟩;have H7:=zh (f.o.next hV);clear hV f;go_wp2_with fail;go_roundw
      case rel=>exact⟨m+1,by omega,by go_num,by rw[U.o];rfl,H7.o⟩
      case measure=>simp[intOf];omega
     | false =>
      rw[aw]at U;clear aw;go_wp2_with fail;go_roundw
      case rel=>exact⟨m+1,by omega,by go_num,by rw[U.o];rfl,f.o⟩
      case measure=>simp[intOf];omega
    ·obtain rfl:P=m:=by omega
     rw[List.take_of_length_le (by have:=R.o;omega)];cases ad:es.all zAt with
     | false =>
      have cm:=zh (kout_refuse HK.o ad (B:=B) (by have:=bX.o;omega) ab.o);rw[cu.o]at cm;clear ad;go_wp2_with fail
      go_loopw [20,23] (fun nx i wr=>i=.int .i64 0∧nx=.slice (some ⟨nb,0,none⟩) 0 0∧KSt N wr j d x X pb W g T (zCE d r (.pointer (some ⟨j,0,none⟩)) (.pointer (some ⟨xp,0,none⟩)) false) (zCE dq X (.pointer (some ⟨jq,0,none⟩)) (.pointer (some ⟨x,0,none⟩)) false) (.cells #[.int .i64 1,.int .i64 a,.int .i64 b,.slice pl P cl,.slice pn nn cn,.slice pd nd cd] 80 (0,0)) (.slice (some ⟨nb,0,none⟩) 0 0) M [] Z1.disk Z1.jou DN M S) (fun _ i _=>0)
      case atStart=>exact⟨rfl,rfl,f.o⟩
      case round =>
       clear f z;obtain⟨rfl,rfl,Y⟩:=hrel;have f:=zh Y;clear Y;have Z:=f.o.b;have z:=zBI Z;clear Z;go_wp2_with fail
       all_goals
        apply HQ.o;exact⟨_,_,_,_,_,_,_,_,[],S,rfl,rfl,rfl,f.o,cm.o,by simp,ag.o⟩
     | true =>
      have ax:=zh ad;clear ad;obtain⟨ip,kZ,ld,le,lf⟩:=info_parts (show(prog.info? 35).map (fun i=>(i.zero,i.size,i.bytes))=some (some (.pointer none),1,8) by kernel_rfl);go_wp2_with fail
      go_loopw [20,23] (fun nx i wr=>∃(m:Nat) (pv:Option Addr) (cv:Nat) (Sm:Nat→Prop) (af:zAA),m≤P∧i=.int .i64 m∧nx=.slice pv m cv∧KSt N wr j d x X pb W g T (zCE d r (.pointer (some ⟨j,0,none⟩)) (.pointer (some ⟨xp,0,none⟩)) false) (zCE dq X (.pointer (some ⟨jq,0,none⟩)) (.pointer (some ⟨x,0,none⟩)) false) (.cells #[.int .i64 1,.int .i64 a,.int .i64 b,.slice pl P cl,.slice pn nn cn,.slice pd nd cd] 80 (0,0)) (.slice pv m cv) M ((List.range m).map fun k=>appM M (es.take (k+1))) Z1.disk Z1.jou af (appM M (es.take m)) Sm∧zCZ zDu (A+zBO (es.take m)) (appM M (es.take m)) af∧af.fuse=none∧FarV N pb W g T (.slice pv m cv)) (fun _ i _=>P-(intOf i).toNat)
      case atStart=>exact⟨0,some ⟨nb,0,none⟩,0,S,DN,Nat.zero_le _,rfl,rfl,by rw[appM_nil];exact f.o,by rw[appM_nil];exact HK.o.q,HK.o.fuse,ch.o⟩
      case round =>
       clear f z;obtain⟨m,pv,cv,Sm,af,hm,rfl,rfl,Y,bZ,hW,hZ⟩:=hrel;have f:=zh Y;have co:=zh bZ;have ci:=zh hW;have cj:=zh hZ;clear Y bZ hW hZ;have Z:=f.o.b;have hY:=f.o.q;have z:=zBI Z;have C:=zBI hY;clear Z hY
       by_cases lb:m<P
       ·have bW:=zh (kq_step (es:=es) co.o ci.o (by have:=R.o;omega) ax.o HK.o.last (by have:=R.o;omega) (by have:=bX.o;have:=ab.o;omega));have al:m<es.length:=by have:=R.o;omega
        obtain⟨b2,o2,⟨cc,ce⟩,ca,V,d0,d1,d2,d3⟩:=bV.o.ent al;have v:=f.o.pr.bel;obtain⟨q1,r1,ai⟩:=V.data.slice;obtain⟨q2,r2,aj⟩:=V.nodes.slice;dsimp only at ai aj d2 d3;subst ai;subst aj;have e0:=(v.cell (World.block_lt_of_cell? N _ d0)).trans d0;have e1:=(v.cell (World.block_lt_of_cell? N _ d1)).trans d1;have e2:=(v.cell (World.block_lt_of_cell? N _ d2)).trans d2;have e3:=(v.cell (World.block_lt_of_cell? N _ d3)).trans d3;subst ca;have kQ:=zh (V:zBS N _ _);clear v V;generalize es[m]=em at *;have HE:=zW (∀w',Below N.heap.size N w'→w'.cell? ⟨b2,o2+m*4,none⟩=some (.int .i64 em.term)∧w'.cell? ⟨b2,o2+m*4+1,none⟩=some (.int .i64 em.kind)∧w'.cell? ⟨b2,o2+m*4+2,none⟩=some (.slice q1 em.data.length r1)∧w'.cell? ⟨b2,o2+m*4+3,none⟩=some (.slice q2 em.nodes.length r2)) fun w' hb=>⟨(hb.cell (World.block_lt_of_cell? N _ d0)).trans d0,(hb.cell (World.block_lt_of_cell? N _ d1)).trans d1,(hb.cell (World.block_lt_of_cell? N _ d2)).trans d2,(hb.cell (World.block_lt_of_cell? N _ d3)).trans d3⟩;clear d0 d1 d2 d3 al
        go_upto_region 31 with(fail)
        refine ost (fun w':World=>(w'.heap[W]?=some (zCE dq X (.pointer (some ⟨jq,0,none⟩)) (.pointer (some ⟨x,0,none⟩)) false)∧w'.heap[T]?=some (.cells #[.int .i64 1,.int .i64 a,.int .i64 b,.slice (some ⟨b2,o2,none⟩) P cl,.slice pn nn cn,.slice pd nd cd] 80 (0,0)))∧w'.cell? ⟨b2,o2+m*4,none⟩=some (.int .i64 em.term)∧w'.cell? ⟨b2,o2+m*4+1,none⟩=some (.int .i64 em.kind)∧w'.cell? ⟨b2,o2+m*4+2,none⟩=some (.slice q1 em.data.length r1)∧w'.cell? ⟨b2,o2+m*4+3,none⟩=some (.slice q2 em.nodes.length r2)) 11 ⟨⟨f.o.q,f.o.b⟩,HE.o _ (f.o.next (zAU wr)).pr.bel⟩ fun c=>?_;have Q:=zh (f.o.next (zAU wr));clear f z C e0 e1 e2 e3;generalize wr.drew=W2 at *;have cb:=kst_rone Q.o kQ.o;dsimp only at cb;have kT:=zh cb;clear cb;refine Pl [0,1,2,3,4,5,6,7,8] ?_
        iterate 9 (refine Pd rfl (by intro w t;have C:=zBI t.1.1;have z:=zBI t.1.2;have e0:=t.2.1;have e1:=t.2.2.1;have e2:=t.2.2.2.1;have e3:=t.2.2.2.2;go_simp;try with_reducible rfl) ?_;simp only[uZ])
        refine Pn ?_;refine oon 9 rfl fun K O=>?_;go_wp2_with fail;have av:=Q.o.next (zAC W2 (.cells #[.int .i64 em.term,.int .i64 em.kind,.slice q1 em.data.length r1,.slice q2 em.nodes.length r2] 50));refine O.o _ _ ⟨⟨av.q,av.b⟩,HE.o _ av.pr.bel⟩ fun c=>?_;clear O av Q
        try simp only[uZ]
        refine oon 10 rfl fun K O=>?_;go_wp2_with fail;refine kT.o.mono ?_;rintro e w6 ⟨rfl,E⟩;rw[bW.o.1]at E;have f:=zh E;clear E c;go_wp2_with fail;refine O.o _ _ ⟨⟨f.o.q,f.o.b⟩,HE.o _ f.o.pr.bel⟩ fun c=>?_;clear O;refine odn ?_;clear c;have C:=zBI f.o.q;have kU:=zh (kst_shot f.o);go_wp2_with fail;refine kU.o.mono ?_;rintro e wS ⟨y,S9,rfl,hX,ia⟩;obtain⟨ys,ib,an⟩:=kst_push (n:=m) hX ia (by simp) Hg.o kP.o cj.o;have ct:=zh ib;have ah:=zh an;have ay:=zh (OwnR.holds (own_oneP wS (ptrV y) 35));clear hX ia ib an f C;go_wp2_with (at_builtin;refine zAP _ rfl (.tmp 161) (.tmp 167) 77 rfl 35 ip (.pointer none) 1 8 underlying77 kZ ld le lf rfl (by decide) (.slice pv m cv) m _ rfl ct.o (.slice (some ⟨wS.heap.size,0,none⟩) 1 1) 1 [ptrV y] rfl ay.o (by intro u hu;rw[List.mem_singleton.1 hu];rfl) (by unfold maxLen;omega) (by omega) ?_;intro v3 w3 am ak bU;go_loud (obtain⟨p3,c3,rfl⟩:=OwnR.shape am;have cf:=zh (ah.o _ w3 am ak bU);clear am ak bU ah ct ay))
        go_roundw
        case rel =>
         refine⟨m+1,p3,c3,S9,_,by omega,by go_num,rfl,?_,bW.o.2.1,bW.o.2.2,cf.o.2⟩;rw[List.range_succ,List.map_append];exact cf.o.1
        case measure=>simp[intOf];omega
       ·obtain rfl:P=m:=by omega
        have bY:=kout_append (l:=es) (DN':=af) HK.o (fun e he=>List.all_eq_true.1 ax.o e he) bX.o ab.o (by have h:=co.o;rwa[List.take_of_length_le (by have:=R.o;omega)]at h) ci.o;rw[R.o,cu.o]at bY;have kR:=zh bY;have bT:((List.range P).map fun k=>appM M (es.take (k+1))).length=P:=by simp
        have ac:=zh bT;clear bY bT;go_wp2_with fail;apply HQ.o;exact⟨_,_,_,_,_,_,pv,cv,_,Sm,rfl,rfl,by rw[ac.o],by rw[ac.o];exact f.o,by rw[List.take_of_length_le (by have:=R.o;omega)];exact kR.o,by rw[ac.o];omega,fun y hy=>(cj.o y (by rw[ac.o]at hy;exact hy)).1.1⟩
 ·as_aux_lemma =>
   obtain⟨F,C,G,H,I,z,J,L⟩:=zA7 f.o.kh;go_wp2_with fail;have aa:=zh (kout_term HK.o tt b au.o ab.o);refine ost (KH j d x r X xp dq jq pb W T P cl nn cn nd cd pl pn pd 2 a b) 9 f.o.kh fun c=>?_;have Q:=zh (f.o.next (zAU W5));clear f F C G H I z J L;generalize W5.drew=W2 at *;refine Pl [0,1,2,3,4,5,6] ?_
   iterate 7 (refine Pd rfl (by intro w t;obtain⟨F,C,G,H,I,z,J,L⟩:=zA7 t;go_simp;try with_reducible rfl) ?_;simp only[uZ])
   refine Pn ?_;have p:=zh (kst_term Q.o tt b cs.o ck.o);refine oon 7 rfl fun K O=>?_;go_wp2_with fail;refine p.o.mono ?_;rintro e w6 ⟨rfl,E⟩;have f:=zh E;clear E c p Q;go_wp2_with fail;refine O.o _ _ f.o.kh fun c=>?_;clear O
   try simp only[uZ]
   refine Pl [8] ?_;refine Pc rfl ?_;simp only[uZ];refine Pn ?_;refine odn ?_;clear c;obtain⟨F,C,G,H,I,z,J,L⟩:=zA7 f.o.kh;go_wp2_with fail;refine ost (KH j d x r X xp dq jq pb W T P cl nn cn nd cd pl pn pd 2 a b) 9 f.o.kh fun c=>?_;have Q:=zh (f.o.next (zAU w6));clear f F C G H I z J L;generalize w6.drew=W2 at *;refine Pl [0,1,2,3,4,5,6] ?_
   iterate 7 (refine Pd rfl (by intro w t;obtain⟨F,C,G,H,I,z,J,L⟩:=zA7 t;go_simp;try with_reducible rfl) ?_;simp only[uZ])
   refine Pn ?_;have p:=zh (kst_rterm Q.o tt b cs.o ck.o);refine oon 7 rfl fun K O=>?_;go_wp2_with fail;refine p.o.mono ?_;rintro e w7 ⟨rfl,E⟩;have f:=zh E;clear E c p Q;go_wp2_with fail;refine O.o _ _ f.o.kh fun c=>?_;clear O
   try simp only[uZ]
   refine Pl [8] ?_;refine Pc rfl ?_;simp only[uZ];refine Pn ?_;refine odn ?_;clear c;obtain⟨F,C,G,H,I,z,J,L⟩:=zA7 f.o.kh;go_wp2_with fail;apply HQ.o;exact⟨_,_,_,_,_,_,_,_,[],S,rfl,rfl,rfl,f.o,aa.o,by simp,ag.o⟩
 ·as_aux_lemma =>
   obtain⟨F,C,G,H,I,z,J,L⟩:=zA7 f.o.kh;have aa:=zh (kout_cut HK.o off au.o ab.o);have p:=zh (kst_cut f.o off ae.o);go_wp2_with fail;refine p.o.mono ?_;rintro e w6 ⟨rfl,E⟩;have f:=zh E;clear E p F C G H I z J L;obtain⟨F,C,G,H,I,z,J,L⟩:=zA7 f.o.kh;have p:=zh (kst_rcut f.o off ae.o);go_wp2_with fail;refine p.o.mono ?_;rintro e w7 ⟨rfl,E⟩;have f:=zh E;clear E p F C G H I z J L;obtain⟨F,C,G,H,I,z,J,L⟩:=zA7 f.o.kh;go_wp2_with fail;apply HQ.o;exact⟨_,_,_,_,_,_,_,_,[],S,rfl,rfl,rfl,f.o,aa.o,by simp,ag.o⟩
 ·as_aux_lemma =>
   obtain⟨F,C,G,H,I,z,J,L⟩:=zA7 f.o.kh;go_wp2_with fail;have aa:=zh (kout_compact HK.o off cg.o az.o au.o ab.o);refine ost (KH j d x r X xp dq jq pb W T P cl nn cn nd cd pl pn pd 4 a b) 9 f.o.kh fun c=>?_;have Q:=zh (f.o.next (zAU W5));clear f F C G H I z J L;generalize W5.drew=W2 at *;refine Pl [0,1,2,3,4,5,6] ?_
   iterate 7 (refine Pd rfl (by intro w t;obtain⟨F,C,G,H,I,z,J,L⟩:=zA7 t;go_simp;try with_reducible rfl) ?_;simp only[uZ])
   refine Pn ?_;have p:=zh (kst_compact Q.o ap.o off ae.o ar.o (by omega) aq.o);refine oon 7 rfl fun K O=>?_;go_wp2_with fail;refine p.o.mono ?_;rintro e w6 ⟨rfl,E⟩;have f:=zh E;clear E c p Q;go_wp2_with fail;refine O.o _ _ f.o.kh fun c=>?_;clear O
   try simp only[uZ]
   refine Pl [8] ?_;refine Pc rfl ?_;simp only[uZ];refine Pn ?_;refine odn ?_;clear c;obtain⟨F,C,G,H,I,z,J,L⟩:=zA7 f.o.kh;go_wp2_with fail;refine ost (KH j d x r X xp dq jq pb W T P cl nn cn nd cd pl pn pd 4 a b) 9 f.o.kh fun c=>?_;have Q:=zh (f.o.next (zAU w6));clear f F C G H I z J L;generalize w6.drew=W2 at *;refine Pl [0,1,2,3,4,5,6] ?_
   iterate 7 (refine Pd rfl (by intro w t;obtain⟨F,C,G,H,I,z,J,L⟩:=zA7 t;go_simp;try with_reducible rfl) ?_;simp only[uZ])
   refine Pn ?_;have p:=zh (kst_rcompact Q.o ap.o off ae.o ar.o (by omega) aq.o);refine oon 7 rfl fun K O=>?_;go_wp2_with fail;refine p.o.mono ?_;rintro e w7 ⟨rfl,E⟩;have f:=zh E;clear E c p Q;go_wp2_with fail;refine O.o _ _ f.o.kh fun c=>?_;clear O
   try simp only[uZ]
   refine Pl [8] ?_;refine Pc rfl ?_;simp only[uZ];refine Pn ?_;refine odn ?_;clear c;obtain⟨F,C,G,H,I,z,J,L⟩:=zA7 f.o.kh;go_wp2_with fail;apply HQ.o;exact⟨_,_,_,_,_,_,_,_,[],S,rfl,rfl,rfl,f.o,aa.o,by simp,ag.o⟩
 ·as_aux_lemma =>
   obtain⟨F,C,G,H,I,z,J,L⟩:=zA7 f.o.kh;go_wp2_with fail;have aa:=zh (kout_install HK.o off b (ns:=nodes) cg.o az.o au.o ab.o);refine ost (KH j d x r X xp dq jq pb W T P cl nn cn nd cd pl pn pd 5 a b) 13 f.o.kh fun c=>?_;have Q:=zh (f.o.next (zAU W5));clear f F C G H I z J L;generalize W5.drew=W2 at *;refine Pl [0,1,2,3,4,5,6,7,8,9,10] ?_
   iterate 11 (refine Pd rfl (by intro w t;obtain⟨F,C,G,H,I,z,J,L⟩:=zA7 t;go_simp;try with_reducible rfl) ?_;simp only[uZ])
   refine Pn ?_;have p:=zh (kst_install Q.o ap.o off b ae.o ar.o (by omega) cp.o (by omega) cq.o aq.o);refine oon 11 rfl fun K O=>?_;go_wp2_with fail;refine p.o.mono ?_;rintro e w6 ⟨rfl,E⟩;have f:=zh E;clear E c p Q;go_wp2_with fail;refine O.o _ _ f.o.kh fun c=>?_;clear O
   try simp only[uZ]
   refine Pl [12] ?_;refine Pc rfl ?_;simp only[uZ];refine Pn ?_;refine odn ?_;clear c;obtain⟨F,C,G,H,I,z,J,L⟩:=zA7 f.o.kh;go_wp2_with fail;refine ost (KH j d x r X xp dq jq pb W T P cl nn cn nd cd pl pn pd 5 a b) 13 f.o.kh fun c=>?_;have Q:=zh (f.o.next (zAU w6));clear f F C G H I z J L;generalize w6.drew=W2 at *;refine Pl [0,1,2,3,4,5,6,7,8,9,10] ?_
   iterate 11 (refine Pd rfl (by intro w t;obtain⟨F,C,G,H,I,z,J,L⟩:=zA7 t;go_simp;try with_reducible rfl) ?_;simp only[uZ])
   refine Pn ?_;have p:=zh (kst_rinstall Q.o ap.o off b ae.o ar.o (by rw[cp.o];omega) cq.o aq.o);refine oon 11 rfl fun K O=>?_;go_wp2_with fail;refine p.o.mono ?_;rintro e w7 ⟨rfl,E⟩;have f:=zh E;clear E c p Q;go_wp2_with fail;refine O.o _ _ f.o.kh fun c=>?_;clear O
   try simp only[uZ]
   refine Pl [12] ?_;refine Pc rfl ?_;simp only[uZ];refine Pn ?_;refine odn ?_;clear c;obtain⟨F,C,G,H,I,z,J,L⟩:=zA7 f.o.kh;go_wp2_with fail;apply HQ.o;exact⟨_,_,_,_,_,_,_,_,[],S,rfl,rfl,rfl,f.o,aa.o,by simp,ag.o⟩
def OwnL (w:World)(v:Value)(es:List Ent)(b:List EV)(k:Nat):Prop:=OwnR w 50 4 v es.length (zAz es b)∧∀(i:Nat) e u,k≤i→es[i]?=some e→b[i]?=some u→zDg w e u
theorem zDL {w w':World}{a:Addr}{v:Value}(h:Below w.heap.size w w')(b:w.cell? a=some v):w'.cell? a=some v :=
 (h.cell (World.block_lt_of_cell? w _ b)).trans b
theorem OwnL.next {w w':World}{v:Value}{es:List Ent}{j:List EV}{k:Nat}(h:OwnL w v es j k)(c:Below w.heap.size w w'):OwnL w' v es j k :=
 ⟨OwnR.keep h.1 fun _ b=>c.block _ (OwnR.lt h.1 b),fun i e u f d g=>(h.2 i e u f d g).keep fun _ b=>c.block _ ((h.2 i e u f d g).lt b)⟩
theorem OwnL.ent {w:World}{p:Option Addr}{n c:Nat}{es:List Ent}{f:List EV}{k:Nat}(h:OwnL w (.slice p n c) es f k)(g:f.length=es.length)(t:k<es.length):∃b o u,p=some ⟨b,o,none⟩∧f[k]?=some u∧zDg w es[k] u ∧
  w.cell? ⟨b,o+k*4,none⟩=some (.int .i64 es[k].term)∧w.cell? ⟨b,o+k*4+1,none⟩=some (.int .i64 es[k].kind)∧w.cell? ⟨b,o+k*4+2,none⟩=some u.1∧w.cell? ⟨b,o+k*4+3,none⟩=some u.2:=by
 have s:=OwnR.holds h.1;obtain⟨a,z,l⟩:=OwnR.shape h.1;simp only[Value.slice.injEq]at l;obtain⟨rfl,rfl,rfl⟩:=l;have i:f[k]?=some (f[k]'(by omega)):=List.getElem?_eq_getElem _;generalize f[k]'(by omega)=v at i;have q:=List.getElem?_eq_getElem t;have j:zAz es f≠[]:=fun e=>by
  have:=zDy es f g;rw[e]at this;simp at this;omega
 obtain⟨b,o,rfl,r⟩:=holds_at4 s j;have d:∀(m:Nat) u,(zEm es[k] v)[m]?=some u→w.cell? ⟨b,o+(k*4+m),none⟩=some u:=fun m u y=>r _ _ (zEM _ _ k _ v q i m u y);exact⟨b,o,v,rfl,i,h.2 k _ v (Nat.le_refl _) q i,d 0 _ rfl,d 1 _ rfl,d 2 _ rfl,d 3 _ rfl⟩
theorem holds_drewN {w:World}{s n:Nat}{v:Value}{xs:List Value}(h:zAM w s v n xs)(q:Nat):zAM (w.drewN q) s v n xs :=
 zAM.keep h fun _ _=>rfl
theorem take_eqG {α:Type}{l m:List α}{k:Nat}{x y:α}(b:l[k]?=some x)(c:m[k]?=some y)(h:l.take k=m.take k)(e:x=y):l.take (k+1)=m.take (k+1):=by
 rw[List.take_add_one,List.take_add_one,b,c,h,e]
theorem ne_atG {α:Type}[BEq α][LawfulBEq α]{l m:List α}{k:Nat}{x y:α}(c:l[k]?=some x)(b:m[k]?=some y)(e:x≠y):(l==m)=false:=by
 rw[beq_eq_false_iff_ne];rintro rfl;rw[c]at b;exact e (Option.some.inj b)
theorem zFj {w:World}{x y:Value}{l m:List Int}(H:zBg w x l)(I:zBg w y m)(hl:l.length≤140737488355328)(hm:m.length≤140737488355328) :
  Calls prog 26 #[x,y] w (SamePost w (l==m)):=by
 by_cases d:l.length=m.length
 ·have S:=H.at
  have T:=I.at
  obtain⟨K,U,rfl⟩:=H.slice;obtain⟨py,V,rfl⟩:=I.slice;have B:((l.length:Int) != (m.length:Int))=false:=by simp[d]
  have r:=zh d;have O:=zh S;have P:=zh T;clear H I d S T;generalize E:l.length=N at *;generalize G:m.length=M at *;have z:=zh E;have A:=zh G;clear E G
  go_enter func26,ntmps26
  go_wp2
  go_loopw [5] (fun i wr=>∃k q:Nat,k≤N∧i=.int .i64 k∧l.take k=m.take k∧wr=w.drewN q) (fun i _=>N-(intOf i).toNat)
  case atStart=>exact⟨0,0,Nat.zero_le _,rfl,rfl,rfl⟩
  case round =>
   obtain⟨k,q,hk,rfl,n,rfl⟩:=hrel;have f:=zh n;clear n
   by_cases R:k<N
   ·have F:k<M:=by have:=r.o;omega
    have g:k<l.length:=by rw[z.o];exact R
    have j:k<m.length:=by rw[A.o];exact F
    have v:l[k]?=some l[k]:=List.getElem?_eq_getElem g;have J:m[k]?=some m[k]:=List.getElem?_eq_getElem j;rcases O.o with h|⟨b,o,c,W,C⟩
    ·rw[h]at g;simp at g
    rcases P.o with h|⟨b2,o2,c2,X,D⟩
    ·rw[h]at j;simp at j
    cases W;cases X;have Y:=C k _ v;have Z:=D k _ J;have t:=zh (fun e=>take_eqG v J f.o e);have Q:=zh (fun e=>ne_atG v J e);clear C D v J;generalize l[k]=a at *;generalize m[k]=b at *
    by_cases p:a=b
    ·subst p;clear g j;go_wp2_with fail
     go_quiet (fail)
     go_wp2
     go_roundw
     case rel=>exact⟨k+1,q+nq,by omega,by go_num,t.o trivial,by first|rfl|rw[World.drewN_drewN]⟩
     case measure=>simp[intOf];omega
    ·have hd:((a != b)=true):=by simpa using p
     have L:=zh p;clear p g j;go_wp2_with fail
     go_quiet (fail)
     go_wp2
     go_ret;exact⟨by rw[Q.o L.o];rfl,q+nq,by first|rfl|rw[World.drewN_drewN]⟩
   ·go_wp2
    go_ret;refine⟨?_,q,rfl⟩;have v:=f.o;rw[List.take_of_length_le (by rw[z.o];omega),List.take_of_length_le (by rw[A.o];have:=r.o;omega)]at v;simp[v]
 ·obtain⟨K,U,rfl⟩:=H.slice;obtain⟨py,V,rfl⟩:=I.slice;have B:((l.length:Int) != (m.length:Int))=true:=by simp;omega
  have s:(l==m)=false:=by rw[beq_eq_false_iff_ne];rintro rfl;exact d rfl
  rw[s];clear H I d s
  go_enter func26,ntmps26
  go_wp2
  go_ret;exact⟨rfl,0,rfl⟩
theorem zFs {w:World}{x y:Value}{l m:Bs}(I:zAY w x l)(J:zAY w y m)(hl:l.length≤140737488355328)(hm:m.length≤140737488355328) :
  Calls prog 33 #[x,y] w (SamePost w (l==m)):=by
 by_cases d:l.length=m.length
 ·have S:=I.at
  have T:=J.at
  obtain⟨px,U,rfl⟩:=I.slice;obtain⟨py,V,rfl⟩:=J.slice;have C:((l.length:Int) != (m.length:Int))=false:=by simp[d]
  have r:=zh d;have O:=zh S;have P:=zh T;clear I J d S T;generalize F:l.length=N at *;generalize H:m.length=M at *;have A:=zh F;have B:=zh H;clear F H
  go_enter func33,ntmps33
  go_wp2
  go_loopw [5] (fun i wr=>∃k q:Nat,k≤N∧i=.int .i64 k∧l.take k=m.take k∧wr=w.drewN q) (fun i _=>N-(intOf i).toNat)
  case atStart=>exact⟨0,0,Nat.zero_le _,rfl,rfl,rfl⟩
  case round =>
   obtain⟨k,q,hk,rfl,p,rfl⟩:=hrel;have g:=zh p;clear p
   by_cases R:k<N
   ·have G:k<M:=by have:=r.o;omega
    have j:k<l.length:=by rw[A.o];exact R
    have n:k<m.length:=by rw[B.o];exact G
    have z:l[k]?=some l[k]:=List.getElem?_eq_getElem j;have L:m[k]?=some m[k]:=List.getElem?_eq_getElem n;rcases O.o with h|⟨b,o,c,W,D⟩
    ·rw[h]at j;simp at j
    rcases P.o with h|⟨b2,o2,c2,X,E⟩
    ·rw[h]at n;simp at n
    cases W;cases X;have Y:=D k _ z;have Z:=E k _ L;have v:=zh (fun e=>take_eq_succ z L g.o e);have Q:=zh (fun e=>ne_at z L e);clear D E z L;generalize l[k]=a at *;generalize m[k]=b at *
    by_cases f:a=b
    ·have K:((a.toNat:Int) != (b.toNat:Int))=false:=by simp[f]
     have t:=zh f;clear f j n;go_wp2_with fail
     go_quiet (fail)
     go_wp2
     go_roundw
     case rel=>exact⟨k+1,q+nq,by omega,by go_num,v.o t.o,by first|rfl|rw[World.drewN_drewN]⟩
     case measure=>simp[intOf];omega
    ·have K:((a.toNat:Int) != (b.toNat:Int))=true:=by
      simp only[bne_iff_ne,ne_eq,Int.natCast_inj];exact fun e=>f (UInt8.toNat.inj e)
     have t:=zh f;clear f j n;go_wp2_with fail
     go_quiet (fail)
     go_wp2
     go_ret;exact⟨by rw[Q.o t.o];rfl,q+nq,by first|rfl|rw[World.drewN_drewN]⟩
   ·go_wp2
    go_ret;refine⟨?_,q,rfl⟩;have z:=g.o;rw[List.take_of_length_le (by rw[A.o];omega),List.take_of_length_le (by rw[B.o];have:=r.o;omega)]at z;simp[z]
 ·obtain⟨px,U,rfl⟩:=I.slice;obtain⟨py,V,rfl⟩:=J.slice;have C:((l.length:Int) != (m.length:Int))=true:=by simp;omega
  have s:(l==m)=false:=by rw[beq_eq_false_iff_ne];rintro rfl;exact d rfl
  rw[s];clear I J d s
  go_enter func33,ntmps33
  go_wp2
  go_ret;exact⟨rfl,0,rfl⟩
def entEq (e f:Ent):Bool:=decide (e.term=f.term)&&decide (e.kind=f.kind)&&(e.data==f.data)&&(e.nodes==f.nodes)
theorem entEq_refl (e:Ent):entEq e e=true:=by simp[entEq]
theorem entries5_calls {w:World}{e f:Ent}{v u:EV}(y:zBS w e v)(t:zBS w f u) :
  Calls prog 37 #[zDx e v,zDx f u] w fun r w'=>r=.returned (.bool (entEq e f))∧Below w.heap.size w w':=by
 obtain⟨l,k1,m,h⟩:=e;obtain⟨t2,k2,n,A⟩:=f;obtain⟨D,v2⟩:=v;obtain⟨B,C⟩:=u;have k:=(zAC w (.cells #[.int .i64 l,.int .i64 k1,D,v2] 50)).alloc (by simp) (.cells #[.int .i64 t2,.int .i64 k2,B,C] 50);have c:=y.below k;have b:=t.below k;have g:=zh (zFs c.data b.data (Nat.le_trans c.dl (by decide)) (Nat.le_trans b.dl (by decide)));have p:=zh (fun q=>zFj (holds_drewN c.nodes q) (holds_drewN b.nodes q) (Nat.le_trans c.nl (by decide)) (Nat.le_trans b.nl (by decide)));have j:=zh k;clear k y t c b;unfold zDx entEq;dsimp only at g p ⊢
 by_cases d:l=t2
 ·have z:(l==t2)=true:=by simpa using d
  rw[decide_eq_true d]
  by_cases i:k1=k2
  ·have a:(k1==k2)=true:=by simpa using i
   rw[decide_eq_true i];subst d;subst i;cases s:m==n with
   | true =>
    rw[s]at g
    go_enter func37,ntmps37
    go_wp2_with fail;refine g.o.mono ?_;rintro r w2 ⟨rfl,q,rfl⟩;go_wp2_with fail;refine(p.o q).mono ?_;rintro r w3 ⟨rfl,q2,rfl⟩;go_wp2_with fail;go_ret;exact⟨by simp,j.o.trans ⟨rfl,rfl,rfl,Nat.le_refl _,fun _ _=>rfl⟩⟩
   | false =>
    rw[s]at g
    go_enter func37,ntmps37
    go_wp2_with fail;refine g.o.mono ?_;rintro r w2 ⟨rfl,q,rfl⟩;go_wp2_with fail;go_ret;exact⟨by simp,j.o.trans ⟨rfl,rfl,rfl,Nat.le_refl _,fun _ _=>rfl⟩⟩
  ·have a:(k1==k2)=false:=by simpa using i
   rw[decide_eq_false i];subst d
   go_enter func37,ntmps37
   go_wp2_with fail;go_ret;exact⟨by simp,j.o.trans ⟨rfl,rfl,rfl,Nat.le_refl _,fun _ _=>rfl⟩⟩
 ·have z:(l==t2)=false:=by simpa using d
  rw[decide_eq_false d]
  go_enter func37,ntmps37
  go_wp2_with fail;go_ret;exact⟨by simp,j.o.trans ⟨rfl,rfl,rfl,Nat.le_refl _,fun _ _=>rfl⟩⟩
def JEq (M N:zAH):Prop:=M.number=N.number∧M.term=N.term∧M.group=N.group∧M.now=N.now∧M.vote=N.vote∧M.data=N.data∧M.entries=N.entries
theorem JEq.refl (M:zAH):JEq M M:=⟨rfl,rfl,rfl,rfl,rfl,rfl,rfl⟩
theorem JEq.is {M N:zAH}(h:JEq M N):M={N with dead:=M.dead}:=by
 obtain⟨a,b,c,d,e,f,g,x⟩:=M;obtain⟨i,j,k,l,m,n,o⟩:=h;simp only at i j k l m n o;subst i j k l m n o;rfl
theorem grpIn_dead (N:zAH)(x:Bool):∀k,({N with dead:=x}:zAH).grpIn k=N.grpIn k
 | 0=>rfl
 | k+1=>by
  show(match N.entries[k]? with|some e=>if e.kind=2 then(e.nodes,N.number+k+1)else({N with dead:=x}:zAH).grpIn k|none=>({N with dead:=x}:zAH).grpIn k)=_
  rw[grpIn_dead N x k];rfl
theorem JEq.grp {M N:zAH}(h:JEq M N):M.grpIn M.entries.length=N.grpIn N.entries.length:=by
 rw[h.is];exact grpIn_dead N M.dead _
theorem JEq.last {M N:zAH}(h:JEq M N):M.last=N.last:=by rw[h.is];rfl
theorem JEq.lastT {M N:zAH}(h:JEq M N):M.lastT=N.lastT:=by rw[h.is];rfl
theorem JEq.termAt {M N:zAH}(h:JEq M N)(i:Int):M.termAt i=N.termAt i:=by rw[h.is];rfl
theorem termAt_some (M:zAH)(i:Int):(M.termAt i).isSome=decide ((M.number:Int)≤i∧i≤(M.last:Int)):=by
 have f:M.last=M.number+M.entries.length:=rfl;unfold zAH.termAt
 by_cases b:i=(M.number:Int)
 ·rw[if_pos b,decide_eq_true (by omega)];rfl
 ·rw[if_neg b]
  by_cases c:i<(M.number:Int)
  ·rw[if_pos c,decide_eq_false (by omega)];rfl
  ·rw[if_neg c]
   by_cases d:i≤(M.last:Int)
   ·rw[List.getElem?_eq_getElem (by omega),decide_eq_true (by omega)];rfl
   ·rw[List.getElem?_eq_none (by omega),decide_eq_false (by omega)];rfl
def zBZ (w1:World)(M N:zAH)(e:Ending)(w':World):Prop:=∃b,e=.returned (.bool b)∧(JEq M N→b=true)∧Below w1.heap.size w1 w'
abbrev EZero:Ent:=⟨0,0,[],[]⟩
theorem ent_nil (W:World):zBS W EZero (.slice none 0 0,.slice none 0 0):=⟨zAk.has (e:=0) (OwnR.nil _ _ _),zCp.has (OwnR.nil _ _ _),Nat.zero_le _,Nat.zero_le _⟩
section
variable {w w1:World} {j d x r:Nat} {pre pre2:ByteArray} {D:zAA} {M N:zAH} {F S:Nat→Prop}
theorem ent_len {e:Ent}(h:zAt e=true):e.data.length≤1099511627776∧e.nodes.length≤1099511627776:=by
 have:=zBN h;omega
theorem jat_any (h:zAj w w1 j d pre D M F)(i:Int)(m:-9223372036854775808≤i∧i≤9223372036854775807) :
  ∃(e:Ent) (k:Int),(∀N:zAH,JEq M N→(N.entries[(i-(N.number:Int)-1).toNat]?=some e∧(N.number:Int)<i)∨(e=EZero∧¬((N.number:Int)<i∧i≤(N.last:Int))))∧k=(if(M.number:Int)<i∧i≤(M.last:Int)then 0 else 7) ∧
  Calls prog 34 #[.pointer (some ⟨j,0,none⟩),.int .i64 i] w1 fun r w'=>∃v:EV,r=.returned (.tuple #[zDx e v,.int .i64 k])∧zBS w' e v∧Below w1.heap.size w1 w':=by
 by_cases b:(M.number:Int)<i∧i≤(M.last:Int)
 ·have o:M.last=M.number+M.entries.length:=rfl;have g:(i-(M.number:Int)-1).toNat<M.entries.length:=by omega
  have l:=ent_len (h.okM.ents _ (List.getElem_mem g));refine⟨M.entries[(i-(M.number:Int)-1).toNat],0,fun N f=>.inl ⟨?_,by rw[←f.1];exact b.1⟩,by rw[if_pos b],(jat_yes h i m b.1 (List.getElem?_eq_getElem g)).mono ?_⟩
  ·rw[←f.1,←f.2.2.2.2.2.2];exact List.getElem?_eq_getElem g
  ·rintro r w' ⟨v,rfl,n,-,c⟩;exact⟨v,rfl,n.has l.1 l.2,c⟩
 ·refine⟨EZero,7,fun N f=>.inr ⟨rfl,by rw[←f.1,←f.last];exact b⟩,by rw[if_neg b],(jat_no h i m b).mono ?_⟩;rintro r w' ⟨rfl,c⟩;exact⟨(.slice none 0 0,.slice none 0 0),rfl,ent_nil w',c⟩
theorem rnat_any (h:zA4 S w1 x r pre2 N)(i:Int)(g:-9223372036854775808≤i∧i≤9223372036854775807) :
  ∃(e:Ent) (k:Int),((N.entries[(i-(N.number:Int)-1).toNat]?=some e∧(N.number:Int)<i∧i≤(N.last:Int))∨(e=EZero∧¬((N.number:Int)<i∧i≤(N.last:Int))))∧k=(if(N.number:Int)<i∧i≤(N.last:Int)then 0 else 7) ∧
  Calls prog 96 #[.pointer (some ⟨x,0,none⟩),.int .i64 i] w1 fun r w'=>∃v:EV,r=.returned (.tuple #[zDx e v,.int .i64 k])∧zBS w' e v∧Below w1.heap.size w1 w':=by
 by_cases b:(N.number:Int)<i∧i≤(N.last:Int)
 ·have l:N.last=N.number+N.entries.length:=rfl;have d:(i-(N.number:Int)-1).toNat<N.entries.length:=by omega
  have f:=ent_len (h.ok.ents _ (List.getElem_mem d));refine⟨N.entries[(i-(N.number:Int)-1).toNat],0,.inl ⟨List.getElem?_eq_getElem d,b⟩,by rw[if_pos b],(rnat_yes h i g b.1 (List.getElem?_eq_getElem d)).mono ?_⟩;rintro r w' ⟨v,rfl,j,-,c⟩;exact⟨v,rfl,j.has f.1 f.2,c⟩
 ·refine⟨EZero,7,.inr ⟨rfl,b⟩,by rw[if_neg b],(rnat_no h i g b).mono ?_⟩;rintro r w' ⟨rfl,c⟩;exact⟨(.slice none 0 0,.slice none 0 0),rfl,ent_nil w',c⟩
theorem alike_calls (h:zAj w w1 j d pre D M F)(hx:zA4 S w1 x r pre2 N) :
  Calls prog 19 #[.pointer (some ⟨j,0,none⟩),.pointer (some ⟨x,0,none⟩)] w1 (zBZ w1 M N):=by
 have H:=zh (fun W (hb:Below w1.heap.size w1 W)=>h.next hb);have HX:=zh (fun W (hb:Below w1.heap.size w1 W)=>hx.below hb);have bS:=zh (jterm_calls h);have cr:=h.okM.last;have cs:=hx.ok.last;have aZ:=zW (M.data.length≤140737488355328∧M.group.length≤7∧(M.grpIn M.entries.length).1.length≤7) (⟨Nat.le_trans h.okM.data (by decide),grp7 h.okM.group,grp7 (zFO h.okM _)⟩);have ba:=zW (N.data.length≤140737488355328∧N.group.length≤7∧(N.grpIn N.entries.length).1.length≤7) (⟨Nat.le_trans hx.ok.data (by decide),grp7 hx.ok.group,grp7 (zFO hx.ok _)⟩);clear h hx
 go_enter func19,ntmps19
 go_wp2_with fail;refine bS.o.mono ?_;rintro e w2 ⟨rfl,q2,rfl⟩;have aP:=zh (zAb (B:=w1.heap.size) w1 q2);generalize w1.drewN q2=w2 at *;have bK:=zh (zFk (H.o w2 aP.o));go_wp2_with fail;refine bK.o.mono ?_;rintro e w3 ⟨rfl,q3,rfl⟩;have aQ:=zh (aP.o.trans (zAb w2 q3));generalize w2.drewN q3=w3 at *;have bN:=zh (zCr (H.o w3 aQ.o));go_wp2_with fail;refine bN.o.mono ?_;rintro e w4 ⟨rfl,q4,rfl⟩;have aR:=zh (aQ.o.trans (zAb w3 q4));generalize w3.drewN q4=w4 at *;have U:=zh (HX.o w4 aR.o).last_calls;go_wp2_with fail;refine U.o.mono ?_;rintro e w5 ⟨rfl,q5,rfl⟩;have av:=zh (aR.o.trans (zAb w4 q5));generalize w4.drewN q5=w5 at *;have bO:=zh (jnodes_calls (H.o w5 av.o));clear U;go_wp2_with fail;refine bO.o.mono ?_;rintro e w6 ⟨v1,rfl,aJ,-,bp⟩;have aw:=zh (av.o.trans (bp.mono av.o.size));have v:=zh (zCp.has aJ);have bL:=zh (rnconf_calls (HX.o w6 aw.o));obtain⟨p1,c1,rfl,-⟩:=zAw aJ;clear aJ bp;go_wp2_with fail;refine bL.o.mono ?_;rintro e w7 ⟨v2,rfl,aK,-,aH⟩;have ax:=zh (aw.o.trans (aH.mono aw.o.size));have v:=zh (zAM.chg v.o (Chg.of_below aH) fun _ _=>id);have Q:=zh (zCp.has aK);have bQ:=zh (jsnap_calls (H.o w7 ax.o));obtain⟨p2,c2,rfl,-⟩:=zAw aK;clear aK aH;go_wp2_with fail;refine bQ.o.mono ?_;rintro e p ⟨v3,v4,rfl,aL,aM,-,ab⟩;have q:=zh (ax.o.trans (ab.mono ax.o.size));have v:=zW (zBg p _ (M.grpIn M.entries.length).1) (zAM.chg v.o (Chg.of_below ab) fun _ _=>id);have Q:=zW (zBg p _ (N.grpIn N.entries.length).1) (zAM.chg Q.o (Chg.of_below ab) fun _ _=>id);have bJ:=zh (zAk.has aL);have R:=zh (zCp.has aM);obtain⟨p3,c3,rfl,-⟩:=zAN aL;obtain⟨p4,c4,rfl,-⟩:=zAw aM;clear aL aM ab;obtain⟨O,C,cn,cl,cm,cA,E,cf⟩:=HX.o p q.o;have P:=zh E.group;have bC:=zh E.data;obtain⟨pg,cg,eg⟩:=E.group.slice;obtain⟨pd,cd,ed⟩:=E.data.slice;subst eg;subst ed;have x0:=E.c 0 rfl;have x1:=E.c 1 rfl;have x2:=E.c 2 rfl;have x5:=E.c 5 rfl;have x6:=E.c 6 rfl;have x7:=E.c 7 rfl;have X2:=zh x2;have X7:=zh x7;have X0:=zh x0;have t:=zh (And.intro aZ.o ba.o);clear E cf x2 x7;simp only[List.append]at *;have bM:=zh (zFj v.o Q.o (by have:=aZ.o;omega) (by have:=ba.o;omega));generalize ap:M.data.length=cx at *;have bc:=zh ap;clear ap;generalize aq:N.data.length=ci at *;have bd:=zh aq;clear aq;generalize ar:M.group.length=cj at *;have be:=zh ar;clear ar;generalize au:N.group.length=aN at *;have bf:=zh au;clear au;have aX:=zW (JEq M N→M.grpIn M.entries.length=N.grpIn N.entries.length) fun h=>h.grp;generalize M.grpIn M.entries.length=G1 at *;generalize N.grpIn N.entries.length=G2 at *;obtain⟨g1,n1⟩:=G1;obtain⟨g2,n2⟩:=G2;dsimp only at *;generalize g1.length=cy at *;generalize g2.length=cz at *
 by_cases b:M.now=N.now
 rotate_left
 ·have bl:(M.now != N.now)=true:=by simpa using b
  have l:=zW (zBZ w1 M N (.returned (.bool false)) p) (⟨false,rfl,fun k=>absurd (k.2.2.2.1) b,q.o⟩);clear b;go_wp2_with fail;go_ret;exact l.o
 have bl:(M.now != N.now)=false:=by simpa using b
 by_cases g:M.vote=N.vote
 rotate_left
 ·have bo:(M.vote != N.vote)=true:=by simpa using g
  have l:=zW (zBZ w1 M N (.returned (.bool false)) p) (⟨false,rfl,fun k=>absurd (k.2.2.2.2.1) g,q.o⟩);clear b g;go_wp2_with fail;go_ret;exact l.o
 have bo:(M.vote != N.vote)=false:=by simpa using g
 by_cases f:(M.number:Int)=(N.number:Int)
 rotate_left
 ·have bm:((M.number:Int) != (N.number:Int))=true:=by simpa using f
  have l:=zW (zBZ w1 M N (.returned (.bool false)) p) (⟨false,rfl,fun k=>absurd (by rw[k.1]) f,q.o⟩);clear b g f;go_wp2_with fail;go_ret;exact l.o
 have bm:((M.number:Int) != (N.number:Int))=false:=by simpa using f
 by_cases n:M.term=N.term
 rotate_left
 ·have bn:(M.term != N.term)=true:=by simpa using n
  have l:=zW (zBZ w1 M N (.returned (.bool false)) p) (⟨false,rfl,fun k=>absurd (k.2.1) n,q.o⟩);clear b g f n;go_wp2_with fail;go_ret;exact l.o
 have bn:(M.term != N.term)=false:=by simpa using n
 by_cases m:(M.last:Int)=(N.last:Int)
 rotate_left
 ·have bj:((M.last:Int) != (N.last:Int))=true:=by simpa using m
  have l:=zW (zBZ w1 M N (.returned (.bool false)) p) (⟨false,rfl,fun k=>absurd (by rw[k.last]) m,q.o⟩);clear b g f n m;go_wp2_with fail;go_ret;exact l.o
 have bj:((M.last:Int) != (N.last:Int))=false:=by simpa using m
 by_cases s:M.lastT=N.lastT
 rotate_left
 ·have bk:(M.lastT != N.lastT)=true:=by simpa using s
  have l:=zW (zBZ w1 M N (.returned (.bool false)) p) (⟨false,rfl,fun k=>absurd (k.lastT) s,q.o⟩);clear b g f n m s
  go_wp2_with fail;go_ret;exact l.o
 have bk:(M.lastT != N.lastT)=false:=by simpa using s
 have ao:=zh f;have an:=zh m;clear b g f n m s
 go_wp2_with fail;refine bM.o.mono ?_;rintro e w9 ⟨rfl,L,rfl⟩;have ay:=zh (q.o.trans (zAb p L));have y7:(p.drewN L).cell? ⟨x,7,none⟩=some (.slice pd ci cd):=X7.o;have Y2:=zW ((p.drewN L).cell? ⟨x,2,none⟩=some (.slice pg aN cg)) X2.o;have Y0:=zW ((p.drewN L).cell? ⟨x,0,none⟩=some (.int .i64 (N.number:Int))) X0.o;have bP:=zh (zFs (w:=p.drewN L) (zAY.below bJ.o (zAb p L)) (zAY.below bC.o (zAb p L)) (by rw[bc.o];exact t.o.1.1) (by rw[bd.o];exact t.o.2.1));have R:=zW (zBg (p.drewN L) (.slice p4 cj c4) M.group) (zAM.keep R.o fun _ _=>rfl);have P:=zW (zBg (p.drewN L) (.slice pg aN cg) N.group) (zAM.keep P.o fun _ _=>rfl);clear x0 x1 x5 x6 v Q;generalize p.drewN L=w9 at *;cases af:(g1==g2)with
 | false =>
  have l:=zW (zBZ w1 M N (.returned (.bool false)) w9) (⟨false,rfl,fun k=>by have h9:=aX.o k;rw[Prod.mk.injEq]at h9;rw[h9.1]at af;simp at af,ay.o⟩);clear af;go_wp2_with fail;go_ret;exact l.o
 | true =>
  clear af
  by_cases y:(n1:Int)=(n2:Int)
  rotate_left
  ·have bU:((n1:Int) != (n2:Int))=true:=by simpa using y
   have l:=zW (zBZ w1 M N (.returned (.bool false)) w9) (⟨false,rfl,fun k=>by have h9:=aX.o k;rw[Prod.mk.injEq]at h9;rw[h9.2]at y;exact absurd rfl y,ay.o⟩);clear y;go_wp2_with fail;go_ret;exact l.o
  have bU:((n1:Int) != (n2:Int))=false:=by simpa using y
  clear y;go_wp2_with fail;refine bP.o.mono ?_;rintro e J ⟨rfl,I,rfl⟩;have am:=zh (ay.o.trans (zAb w9 I));have y2:(w9.drewN I).cell? ⟨x,2,none⟩=some (.slice pg aN cg):=Y2.out;have Z0:=zW ((w9.drewN I).cell? ⟨x,0,none⟩=some (.int .i64 (N.number:Int))) Y0.out;have bb:=zh (zFj (w:=w9.drewN I) (zAM.keep R.o fun _ _=>rfl) (zAM.keep P.o fun _ _=>rfl) (by rw[be.o];have:=t.o.1.2.1;omega) (by rw[bf.o];have:=t.o.2.2.1;omega));clear y7 R P;generalize w9.drewN I=J at *;cases ad:(M.data==N.data)with
  | false =>
   have l:=zW (zBZ w1 M N (.returned (.bool false)) J) (⟨false,rfl,fun k=>by rw[k.2.2.2.2.2.1]at ad;simp at ad,am.o⟩);clear ad;go_wp2_with fail;go_ret;exact l.o
  | true =>
   clear ad;go_wp2_with fail;refine bb.o.mono ?_;rintro e cB ⟨rfl,aO,rfl⟩;have aW:=zh (am.o.trans (zAb J aO));have z0:(J.drewN aO).cell? ⟨x,0,none⟩=some (.int .i64 (N.number:Int)):=Z0.out;clear y2;generalize bX:J.drewN aO=W0 at *;clear bX;cases ag:(M.group==N.group)with
   | false =>
    have l:=zW (zBZ w1 M N (.returned (.bool false)) W0) (⟨false,rfl,fun k=>by rw[k.2.2.1]at ag;simp at ag,aW.o⟩);clear ag;go_wp2_with fail;go_ret;exact l.o
   | true =>
    clear ag;have bz:N.last=N.number+N.entries.length:=rfl;have U:=zh bz;have cp:N.number≤N.last:=by omega
    clear bz;have ch:IntKind.i64.wrap ((N.number:Int)-1)=(N.number:Int)-1:=IntWalk.i64_in _ (by omega);have ct:IntKind.i64.wrap ((N.last:Int)+1)=(N.last:Int)+1:=IntWalk.i64_in _ (by omega);go_wp2_with fail
    go_loopw [19] (fun i wr=>∃z:Int,i=.int .i64 z∧(N.number:Int)-1≤z∧z≤(N.last:Int)+2∧Below w1.heap.size w1 wr) (fun i _=>((N.last:Int)+2-intOf i).toNat)
    case atStart=>exact⟨_,rfl,by omega,by omega,aW.o⟩
    case round =>
     clear z0 ch;obtain⟨z,rfl,cu,cv,hb⟩:=hrel
     by_cases bx:z≤(N.last:Int)+1
     ·have bW:decide (z≤(N.last:Int)+1)=true:=decide_eq_true bx;have ah:-9223372036854775808≤z∧z≤9223372036854775807:=by omega
      have HB:=zh hb;have bi:=zh (zEW (H.o wr hb) z ah);have bT:=zW ((M.termAt z).isSome=(N.termAt z).isSome) (by rw[termAt_some,termAt_some,ao.o,an.o]);have cw:IntKind.i64.wrap (z+1)=z+1:=IntWalk.i64_in _ (by omega);rw[bT.o]at bi;have bF:=zh (fun k:JEq M N=>show(M.termAt z).getD 0=(N.termAt z).getD 0 by rw[k.termAt]);clear hb;generalize (M.termAt z).getD 0=ta at *;go_wp2_with fail;refine bi.o.mono ?_;rintro e wA ⟨rfl,qA,rfl⟩;have aS:=zh (HB.o.trans (zAb wr qA));generalize wr.drewN qA=wA at *;have bR:=zh (zDr (HX.o wA aS.o) z ah);generalize (N.termAt z).getD 0=tb at *;generalize (N.termAt z).isSome=ts at *;go_wp2_with fail;refine bR.o.mono ?_;rintro e wB ⟨rfl,qB,rfl⟩;have az:=zh (aS.o.trans (zAb wA qB));generalize wA.drewN qB=wB at *;obtain⟨a,k1,bu,bv,bs⟩:=jat_any (H.o wB az.o) z ah;have bA:=zh bs;have bD:=zh bu;have bG:=zh bv;clear bs bu bv;go_wp2_with fail;refine bA.o.mono ?_;rintro e wC ⟨⟨u1,u2⟩,rfl,hu,bq⟩;have aT:=zh (az.o.trans (bq.mono az.o.size));obtain⟨ai,Y,aD⟩:=hu.data.slice;obtain⟨aj,Z,aE⟩:=hu.nodes.slice;have aD:u1=.slice ai a.data.length Y:=aD;have aE:u2=.slice aj a.nodes.length Z:=aE;subst aD;subst aE;have HU:=zh hu;clear hu bq;unfold zDx;generalize ca:a.data.length=m1 at *;generalize cb:a.nodes.length=m2 at *;have aY:=zh (zAC wC (.cells #[.int .i64 a.term,.int .i64 a.kind,.slice ai m1 Y,.slice aj m2 Z] 50));have bg:=zh (zAJ wC (.cells #[.int .i64 a.term,.int .i64 a.kind,.slice ai m1 Y,.slice aj m2 Z] 50));have aA:=zh (aT.o.trans (aY.o.mono aT.o.size));have bH:=zh (HU.o.below aY.o);clear ca cb;obtain⟨A,k2,aI,bw,bt⟩:=rnat_any (HX.o _ aA.o) z ah;have bB:=zh bt;have bE:=zW (JEq M N→a=A) (fun k=>by
       rcases bD.o N k with⟨h1,h2⟩|⟨h1,h2⟩
       ·rcases aI with⟨h3,h4⟩|⟨h3,h4⟩
        ·rw[h1]at h3;exact Option.some.inj h3
        ·exfalso;have h5:=(List.getElem?_eq_some_iff.1 h1).1;have h6:=U.o;exact h4 ⟨h2,by omega⟩
       ·rcases aI with⟨h3,h4⟩|⟨h3,h4⟩
        ·exact absurd h4 h2
        ·rw[h1,h3])
      have bZ:k1=k2:=by rw[bG.o,bw,ao.o,an.o]
      subst bZ;have cq:(k1 != k1)=false:=by simp
      clear bt aI bw;go_wp2_with fail;generalize co:wC.heap.size=bY at *;generalize wC.alloc (.cells #[.int .i64 a.term,.int .i64 a.kind,.slice ai m1 Y,.slice aj m2 Z] 50)=wD at *;refine bB.o.mono ?_;rintro e wE ⟨⟨y1,y2⟩,rfl,hy,ac⟩;have aU:=zh (aA.o.trans (ac.mono aA.o.size));obtain⟨ak,K,aF⟩:=hy.data.slice;obtain⟨al,aa,aG⟩:=hy.nodes.slice;have aF:y1=.slice ak A.data.length K:=aF;have aG:y2=.slice al A.nodes.length aa:=aG;subst aF;subst aG;have bI:=zh (bH.o.below ac);have bh:=zh ((ac.block bY (zAB bg.o)).trans bg.o);have HY:=zh hy;clear hy ac;unfold zDx;generalize cc:A.data.length=m3 at *;generalize ce:A.nodes.length=m4 at *;have T:=zh (zAC wE (.cells #[.int .i64 A.term,.int .i64 A.kind,.slice ak m3 K,.slice al m4 aa] 50));have V:=zh (zAJ wE (.cells #[.int .i64 A.term,.int .i64 A.kind,.slice ak m3 K,.slice al m4 aa] 50));have X:=zh ((T.o.block bY (zAB bh.o)).trans bh.o);have aB:=zh (aU.o.trans (T.o.mono aU.o.size));have aC:=zh (entries5_calls (bI.o.below T.o) (HY.o.below T.o));unfold zDx at aC;dsimp only at aC;clear cc ce;have s0:=zAd X.o;have s1:=zAn X.o;have s2:=zAo X.o;have s3:=zBI X.o;have t0:=zAd V.o;have t1:=zAn V.o;have t2:=zAo V.o;have t3:=zBI V.o
      by_cases G:ta=tb
      rotate_left
      ·have bV:(ta != tb)=true:=by simpa using G
       have l:=zW (zBZ w1 M N (.returned (.bool false)) (wE.alloc (.cells #[.int .i64 A.term,.int .i64 A.kind,.slice ak m3 K,.slice al m4 aa] 50))) (⟨false,rfl,fun k=>absurd (bF.o k) G,aB.o⟩);clear G;go_wp2_with fail;go_ret;exact l.o
      have bV:(ta != tb)=false:=by simpa using G
      have ck:(ts != ts)=false:=by cases ts<;>rfl
      clear G;go_wp2_with fail;refine aC.o.mono ?_;rintro e wG ⟨rfl,br⟩;have aV:=zh (aB.o.trans (br.mono aB.o.size));clear br s0 s1 s2 s3 t0 t1 t2 t3;cases ae:entEq a A with
      | false =>
       have l:=zW (zBZ w1 M N (.returned (.bool false)) wG) (⟨false,rfl,fun k=>(by rw[bE.o k,entEq_refl]at ae;cases ae),aV.o⟩);clear ae;go_wp2_with fail;go_ret;exact l.o
      | true =>
       clear ae;go_wp2_with fail;go_roundw
       case rel=>exact⟨z+1,by go_num,by omega,by omega,aV.o⟩
       case measure=>simp[intOf];omega
     ·have bW:decide (z≤(N.last:Int)+1)=false:=decide_eq_false bx;have l:=zW (zBZ w1 M N (.returned (.bool true)) wr) (⟨true,rfl,fun _=>rfl,hb⟩);clear hb;go_wp2_with fail;go_ret;exact l.o
end
def zEJ.off (s:zEJ)(M:zAH):Int:=(M.last:Int)+max (-6) (min s.a 6)
section
variable {w w1 w2:World} {pb j d x r:Nat} {D D2:zAA} {M M2:zAH} {G:Nat→Prop}
theorem zDo.chg {S:Nat→Prop}(h:zDo w w1 j d x r D M D2 M2 G)(i:Chg S w1 w2)(hS:∀k,S k→G k∧w.heap.size≤k):zDo w w2 j d x r D M D2 M2 G:=by
 obtain⟨F,f,b,l,m,c,g⟩:=h;exact⟨F,f,b,l.move i (fun k _ e=>⟨(g k (hS k e).1).1,(hS k e).2⟩) fun k c=>⟨.inl c,Nat.lt_of_lt_of_le (l.flt c) i.size⟩,m.chg i fun k e=>(g k (hS k e).1).2,c,g⟩
end
def SnN (q:Bs):Prop:=q=zBR [97]∨q=zAF (zBR [97])
structure Inv5 (R i:Nat)(D:zAA)(M:zAH):Prop where
 small:zBL SnN 100000 R D
 ents:M.entries.length≤90000+1200*i
section
variable {R i k:Nat} {D:zAA} {M:zAH}
theorem Inv5.more (h:Inv5 R i D M):Inv5 R (i+1) D M:=⟨h.small,by have:=h.ents;omega⟩
end
theorem known5_calls (w:World):Calls prog 20 #[] w fun e w'=>e=.returned (.bool true)∧Below w.heap.size w w':=by
 have ai:=zh (start_calls w 65536 (by decide) (by decide));obtain⟨D1,D2,L,M⟩:=known5;have aa:=zh L;have ab:=zh M;clear L M;have kc:=fun(w:World) (C:Array Value) (n c:Nat)=>Lib.run_convert_bytes_const (P:=prog) w 22 5 C n c underlying22 underlying5
 go_enter func20,ntmps20
 go_wp2_with fail;refine ai.o.mono ?_;rintro e w1 ⟨p,d,r,rfl,⟨j,x,hJ,hp⟩,-⟩;have HJ:=zh hJ;have Hp:=zh hp;have c2:=zAo hp;clear hJ hp;have V:=zW (zAj w ((w1.alloc (.cells #[.int .u8 120] 5 (1,2))).alloc (.cells #[.int .i64 1,.int .i64 0,.slice none 0 0,.slice none 0 0,.int .i64 2,.int .i64 1,.slice (some ⟨w1.heap.size,0,none⟩) 1 1,.slice none 0 0] 50)) j d sA (zCW 65536 [97] zDu) (zAH.none0 zDu) (fun k=>(k=p∨k=w1.heap.size)∨k=w1.heap.size+1)) (by
  have:=(HJ.o.box (.cells #[.int .u8 120] 5 (1,2))).box (.cells #[.int .i64 1,.int .i64 0,.slice none 0 0,.slice none 0 0,.int .i64 2,.int .i64 1,.slice (some ⟨w1.heap.size,0,none⟩) 1 1,.slice none 0 0] 50);simpa using this)
 have D:((w1.alloc (.cells #[.int .u8 120] 5 (1,2))).alloc (.cells #[.int .i64 1,.int .i64 0,.slice none 0 0,.slice none 0 0,.int .i64 2,.int .i64 1,.slice (some ⟨w1.heap.size,0,none⟩) 1 1,.slice none 0 0] 50)).heap[w1.heap.size]?=some (.cells #[.int .u8 120] 5 (1,2)):=zBA _ (zAJ w1 _);have E:((w1.alloc (.cells #[.int .u8 120] 5 (1,2))).alloc (.cells #[.int .i64 1,.int .i64 0,.slice none 0 0,.slice none 0 0,.int .i64 2,.int .i64 1,.slice (some ⟨w1.heap.size,0,none⟩) 1 1,.slice none 0 0] 50)).heap[w1.heap.size+1]?=some (.cells #[.int .i64 1,.int .i64 0,.slice none 0 0,.slice none 0 0,.int .i64 2,.int .i64 1,.slice (some ⟨w1.heap.size,0,none⟩) 1 1,.slice none 0 0] 50):=by have:=zAJ (w1.alloc (.cells #[.int .u8 120] 5 (1,2))) (.cells #[.int .i64 1,.int .i64 0,.slice none 0 0,.slice none 0 0,.int .i64 2,.int .i64 1,.slice (some ⟨w1.heap.size,0,none⟩) 1 1,.slice none 0 0] 50);simpa using this
 have U:=zW (∀W,Below w.heap.size w W→Same (fun k=>(k=p∨k=w1.heap.size)∨k=w1.heap.size+1) ((w1.alloc (.cells #[.int .u8 120] 5 (1,2))).alloc (.cells #[.int .i64 1,.int .i64 0,.slice none 0 0,.slice none 0 0,.int .i64 2,.int .i64 1,.slice (some ⟨w1.heap.size,0,none⟩) 1 1,.slice none 0 0] 50)) W→zCb W (.slice (some ⟨w1.heap.size+1,0,none⟩) 2 2) [ke1,ke2] [(.slice none 0 0,.slice none 0 0),(.slice (some ⟨w1.heap.size,0,none⟩) 1 1,.slice none 0 0)]) (fun W _ Q=>by
  have h1:=(Q w1.heap.size (.inl (.inr rfl))).trans D;have h2:=(Q (w1.heap.size+1) (.inr rfl)).trans E;have f:∀l:List Value,l=[]→zAM W 1 (.slice none 0 0) 0 l:=fun l e=>by rw[e];exact⟨rfl,none,0,rfl,fun _=>rfl,fun a m=>by cases m⟩
  refine⟨rfl,⟨rfl,some ⟨w1.heap.size+1,0,none⟩,2,rfl,fun e=>(by cases e),fun a m i u y=>?_⟩,fun i e v H g=>?_⟩
  ·cases m;rw[add_zero];refine zAG h2 ?_;simpa[zAz,zEm,ke1,ke2]using y
  ·match i,H,g with
   | 0,H,g =>
    cases H;cases g;exact⟨f _ rfl,f _ rfl,by decide,by decide⟩
   | 1,H,g =>
    cases H;cases g;refine⟨⟨rfl,some ⟨w1.heap.size,0,none⟩,1,rfl,fun e=>(by cases e),fun a m i u y=>?_⟩,f _ rfl,by decide,by decide⟩;cases m;rw[add_zero];refine zAG h1 ?_;simpa[zAQ,ke2]using y)
 have h:=zh (zGH V.o U.o (by decide));rw[show zAZ (nm sA) (zCW 65536 [97] zDu) (zAH.none0 zDu) [ke1,ke2]=⟨D1,kM1,0⟩from aa.o]at h;have ad:=zh (zBA (.cells #[.int .i64 1,.int .i64 0,.slice none 0 0,.slice none 0 0,.int .i64 2,.int .i64 1,.slice (some ⟨w1.heap.size,0,none⟩) 1 1,.slice none 0 0] 50) (zBA (.cells #[.int .u8 120] 5 (1,2)) Hp.o));clear D E;go_wp2_with fail;refine h.o.mono ?_;rintro e w2 ⟨rfl,I,N⟩;have X:=zh (I.less (F':=fun k=>k=p) fun k hk=>.inl (.inl hk));have B:=zh ((N p (.inl (.inl rfl))).trans ad.o);have d2:=zAo B.o;clear I N c2;have Y:=zh (X.o.box (.cells #[.int .u8 115] 5 (1,2)));have F:=zAJ w2 (.cells #[.int .u8 115] 5 (1,2));have A:=zh (zFd Y.o (show kM1.entries.length≤1000000 by decide) 1 (by decide) (pd:=some ⟨w2.heap.size,0,none⟩) (n:=1) (cd:=1) (b:=[115]) rfl (by decide) fun W _ Q=>⟨rfl,some ⟨w2.heap.size,0,none⟩,1,rfl,fun e=>(by cases e),fun a m i u y=>by
  cases m;rw[add_zero];refine zAG ((Q w2.heap.size (.inr rfl)).trans F) ?_;simpa[zAQ]using y⟩)
 rw[show zAW (nm sA) D1 kM1 1 [115]=⟨D2,kM2,0⟩from ab.o]at A;have ae:=zh (zBA (.cells #[.int .u8 115] 5 (1,2)) B.o);clear F;go_wp2_with fail;refine A.o.mono ?_;rintro e w3 ⟨rfl,J,O⟩;have s:=zh J;have af:=zh ((O p (.inl rfl)).trans ae.o);have e2:=zAo af.o;have K:=zh (zFk s.o);clear J O d2;go_wp2_with fail;refine K.o.mono ?_;rintro e w4 ⟨rfl,R,rfl⟩;have Z:=zh (s.o.drewN R);have ac:=zh (zCr Z.o);have e2:(w3.drewN R).cell? ⟨p,2,none⟩=some (.pointer (some ⟨j,0,none⟩)):=e2;rw[show((kM2.number:Nat):Int)=1 from rfl,show kM2.term=1 from rfl];go_wp2_with fail;refine ac.o.mono ?_;rintro e w5 ⟨rfl,q5,rfl⟩;rw[show((kM2.last:Nat):Int)=2 from rfl,show kM2.lastT=2 from rfl];have t:=zh (s.o.drewN (R+q5));have ah:=zh (jsnap_calls t.o);have e3:((w3.drewN R).drewN q5).cell? ⟨p,2,none⟩=some (.pointer (some ⟨j,0,none⟩)):=e2;go_wp2_with fail;refine ah.o.mono ?_;rintro e q ⟨v,u,rfl,g,-,-,G⟩;have z:=zW (Below w.heap.size w q) (t.o.bel.trans (G.mono t.o.bel.size));have g:zAk q 5 v [115]:=g;have Hv:=zW (zAY (q.alloc (.cells #[.int .u8 115] 5 (1,2))) v [115]) ((zCM g (zAC q (.cells #[.int .u8 115] 5 (1,2)))).has);obtain⟨pv,cv,rfl,-⟩:=zAN g;have Hl:=zW (zAY (q.alloc (.cells #[.int .u8 115] 5 (1,2))) (.slice (some ⟨q.heap.size,0,none⟩) 1 1) [115]) (⟨rfl,some ⟨q.heap.size,0,none⟩,1,rfl,fun e=>(by cases e),fun a m i u y=>by
  cases m;rw[add_zero];refine zAG (zAJ q _) ?_;simpa[zAQ]using y⟩)
 have ag:=zh (zFs Hv.o Hl.o (by decide) (by decide));have S:=zh (z.o.alloc z.o.size (.cells #[.int .u8 115] 5 (1,2)));clear g G;go_wp2_with fail;refine ag.o.mono ?_;rintro e w7 ⟨rfl,n7,rfl⟩;have T:=zh (S.o.trans ⟨rfl,rfl,rfl,Nat.le_refl _,fun _ _=>rfl⟩:Below w.heap.size w ((q.alloc (.cells #[.int .u8 115] 5 (1,2))).drewN n7));rw[show((([115]:Bs)==[115]):Bool)=true from rfl];go_wp2_with fail;go_ret;exact⟨rfl,T.o⟩
theorem zC9.below {w W:World}{v:Value}{es:List Ent}{f:List EV}(h:zC9 w v es f)(b:Below w.heap.size w W):zC9 W v es f :=
 ⟨h.1,zAM.chg h.2.1 (Chg.of_below b) fun _ _=>id,fun i e u c d=>⟨zAY.below (h.2.2 i e u c d).1 b,zAM.chg (h.2.2 i e u c d).2.1 (Chg.of_below b) fun _ _=>id,(h.2.2 i e u c d).2.2⟩⟩
theorem Step5At.below {w W:World}{g j:Nat}{s:zEJ}(h:Step5At w g j s)(b:Below w.heap.size w W):Step5At W g j s :=
 ⟨zDL b h.ck,zDL b h.ca,zDL b h.cb,zDL b h.c3,zDL b h.c4,zDL b h.c5,h.he.below b,zAM.chg h.hn (Chg.of_below b) fun _ _=>id,zAY.below h.hd b,h.ok⟩
theorem Steps5.below {w W:World}{p:Option Addr}{n:Nat}{l:List zEJ}(h:Steps5 w p n l)(c:Below w.heap.size w W):Steps5 W p n l :=
 ⟨h.1,h.2.imp id fun⟨g,o,e,b⟩=>⟨g,o,e,fun i s d=>(b i s d).below c⟩⟩
end Go.Proofs.YtapfnehdgailmaaGreat
