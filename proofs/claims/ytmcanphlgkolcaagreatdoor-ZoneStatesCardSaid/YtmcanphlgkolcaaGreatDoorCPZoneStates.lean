/- The law ZoneStates holds for all arguments: the function returns true and leaves its arguments as they were; its tables are laid, and tied to the program's text. -/
import Derived.LaidMore
import Derived.OpenShut
import Derived.Stop.Joined
import Derived.Test.YtmcanphlgkolcaaGreatDoorCA
import Derived.Test.YtmcanphlgkolcaaGreatDoorCR
import Derived.Test.YtmcanphlgkolcaaGreatDoorCards
import Derived.Test.YtmcanphlgkolcaaGreatDoorTie
set_option maxRecDepth 100000
set_option maxHeartbeats 64000000
namespace Go.Proofs.YtmcanphlgkolcaaGreatDoor.zoneStatesDone
open Go.ChangeShapes Go.WideShapes Go.ChangeAt Go.RowKit Go.Sat
open Go.ChangeMaps (open_string shut_string)
theorem own:ownKnob Tryz.prog.godebug=none:=by kernel_rfl
theorem laidOut:laidOutB Tryz.prog=true:=by kernel_rfl
theorem door_met (os:Os)(b:Array Value):laidMetH Tryz.prog Rows.zoneStatesRow.laid ((World.doorLaid Tryz.prog 24 os).forCall (fun _ _=>0) ⟨#[],b,[]⟩).memory :=
 laidMetH_of_parts3 (fuel:=8) (laidMet_of_run' 8 (by kernel_rfl) (by kernel_rfl)) (by kernel_rfl) (by kernel_rfl)
theorem lifted (os:Os)(d:os.Started)(H:Type)(enc:TypeId×Value→H) :
  ReturnsInHanded {} Tryz.checked os 3 .any (fun w b=>(Rows.zoneStatesSpec.pre enc Tryz.prog Tryz.f3 [] false w b∧laidMetH Tryz.prog Rows.zoneStatesRow.laid w)∧sizedMet enc Tryz.prog Tryz.f3 (OpenSpec.ofChange Rows.zoneStatesSpec) false w b)
   (Rows.zoneStatesSpec.post enc Tryz.prog Tryz.f3 false true false false):=by
 refine returnsInHanded_of_change_and (C:=Tryz.checked) (X:=fun w _=>laidMetH Tryz.prog Rows.zoneStatesRow.laid w) (fun _ _ _ Z h=>h.of_heap Z) own d (by kernel_rfl) Tryz.func3
  (ChangeSpec.witness_shaped (enc:=enc) (C:=Tryz.checked) (os:=os) (X:=fun w _=>laidMetH Tryz.prog Rows.zoneStatesRow.laid w) false (World.doorLaid Tryz.prog 24 os) #[.int .i64 0,.agg (OpL OpM.zero).toArray,.agg (SpanL ⟨#[]⟩ ⟨#[]⟩).toArray] 8 rfl (World.shaped_of_RefB (by kernel_rfl) (by kernel_rfl)) (by kernel_rfl) (by kernel_rfl) (by kernel_rfl) (door_met os _)) ?_
 intro W base b N gs n i F _ G _ _;have c:∀(j:Nat) t v,Tryz.f3.params[j]?=some t→b[j]?=some v→Value.okWide Tryz.prog W .any base t v:=i;have s:=F;obtain⟨p,q,r,U,rfl,-,-⟩:=F;have E:DataW.TrodAll enc Tryz.prog W 0 (fun _=>true) true Tryz.f3.params.toList b.toList N p:=r;rw[Tryz.params3]at E c;obtain⟨J,aa,d0,O,p0,q0,y,rfl,rfl,R,r0⟩:=trodAll_cons E;obtain⟨L,ab,d1,P,p1,q1,z,rfl,rfl,S,r1⟩:=trodAll_cons r0;obtain⟨M,ac,d2,Q,p2,q2,a,rfl,rfl,T,r2⟩:=trodAll_cons r1;obtain⟨rfl,rfl,rfl⟩:=trodAll_nil r2;subst z;subst a;obtain rfl:b=#[J,L,M]:=by cases b;simp_all
 obtain⟨rfl,rfl⟩:=trodVars_none U;have I:=R;have k1:=S;have k2:=T;have A:∀x∈p0,x.block<W.heap.size:=by obtain⟨m,k⟩:=I;exact DataW.trod_lt m _ _ _ k
 have B:∀x∈p1,x.block<W.heap.size:=by obtain⟨m,k⟩:=k1;exact DataW.trod_lt m _ _ _ k
 have D:∀x∈p2,x.block<W.heap.size:=by obtain⟨m,k⟩:=k2;exact DataW.trod_lt m _ _ _ k
 obtain⟨st,rfl,hs⟩:=int_arg (c 0 3 J rfl rfl);obtain⟨o,rfl,K⟩:=op_arg (c 1 25 L rfl rfl);obtain⟨fr,tu,rfl,Y,ht⟩:=span_arg (c 2 27 M rfl rfl);refine(zstates_walk W st (zBx hs) o K fr tu Y ht).mono fun e W' ⟨V,f⟩=>?_;subst V;exact⟨_,rfl,_,_,_,[],_,[],s,trodAll_mk1 (shut_bool Tryz.underlying4 _),(trodAll_cons_mk (Below.trod laidOut (by kernel_rfl) (of_decide_eq_true (by kernel_rfl)) I f A) (trodAll_cons_mk (Below.trod laidOut (by kernel_rfl) (of_decide_eq_true (by kernel_rfl)) k1 f B) (trodAll_cons_mk (Below.trod laidOut (by kernel_rfl) (of_decide_eq_true (by kernel_rfl)) k2 f D) trodAll_mk0))),rfl,f.frame _,fun h=>by cases h⟩
theorem joined:joinedFacts Tryz.pinned.checked.prog 3 Tryz.f3 Rows.zoneStatesSpec Rows.zoneStatesRow=true:=by
 unfold joinedFacts;simp only[Bool.and_eq_true]
 repeat' apply And.intro
 all_goals exact(by as_aux_lemma=>kernel_rfl)
theorem named:Tryz.pinned.checked.prog.funcNamed Rows.zoneStatesRow.func=some 3:=by kernel_rfl
theorem inst:Tryz.f3.isInstance Tryz.pinned.checked.prog Rows.zoneStatesRow.origin Rows.zoneStatesRow.targs:=of_decide_eq_true (by kernel_rfl)
theorem wrap:Tryz.f3.isWrapper Tryz.pinned.checked.prog Rows.zoneStatesRow.wrapper Rows.zoneStatesRow.mainSum:=by
 unfold Func.isWrapper;first|(rw[if_pos (by decide +kernel)];kernel_rfl)|(rw[if_neg (by decide +kernel)];exact⟨rfl,rfl⟩)
theorem over:Rows.ZoneStatesSaid :=
 OpenClaim.holds_of_wide 3 Tryz.f3 rfl rfl rfl rfl rfl rfl rfl ⟨rfl,rfl,rfl,rfl,rfl⟩ rfl rfl rfl rfl rfl named Tryz.func3 joined inst wrap
  (fun os b H enc _=>lifted os b H enc)
theorem proved:Rows.ZoneStatesCardSaid :=
 Claim7.holds_tied_plain_at .later [] [.data, .data, .data] true (true, "122c0cb2dfa944089ca54db68d27fd63e3457a982a91cf9d718c002f74975b35") true
  over (fun _ h=>by cases h) (by as_aux_lemma=>kernel_rfl) (fun _ h=>by cases h) zoneStates_row_tie rfl ⟨rfl,rfl⟩ (by as_aux_lemma=>kernel_rfl) rfl
  (fun f i k c=>by
   obtain rfl : f = 3 := Option.some.inj ((show Tryz.prog.funcNamed "satrapy/satrapylaw15.ZoneStates" = some 3 by as_aux_lemma => kernel_rfl).symm.trans k) |>.symm
   obtain rfl:i=Tryz.f3:=(Option.some.inj (Tryz.func3.symm.trans c)).symm;exact⟨by as_aux_lemma=>kernel_rfl,fun j t d=>by
    rw[Tryz.params3]at d;have m:t∈[3,25,27]:=by simpa using Array.mem_of_getElem? d
    have b:([3,25,27].all fun u=>!Tryz.prog.wantsStandIn u)=true:=by as_aux_lemma=>kernel_rfl
    exact(show Tryz.prog.wantsStandIn t=false by simpa using List.all_eq_true.1 b t m)⟩)
  (by as_aux_lemma=>kernel_rfl)
#print axioms proved
end Go.Proofs.YtmcanphlgkolcaaGreatDoor.zoneStatesDone
