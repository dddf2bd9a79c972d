/- The law JournalKept holds for all scripts, fuses and crashes: the function returns true and leaves its arguments as they were; there is no condition. -/
import Derived.Test.YtapfnehdgailmaaGreatMA
import Derived.Test.YtapfnehdgailmaaGreatMV
set_option maxRecDepth 100000
set_option maxHeartbeats 64000000
namespace Go.Proofs.YtapfnehdgailmaaGreat.journalKeptDone
open Go.ChangeShapes Go.WideShapes Go.ChangeAt Go.RowKit Go.Sat
open Go.ChangeMaps (open_string shut_string)
theorem own:ownKnob Tryz.prog.godebug=none:=by kernel_rfl
theorem laidOut:laidOutB Tryz.prog=true:=by kernel_rfl
theorem lifted (P:Os)(c:P.Started)(H:Type)(enc:TypeId×Value→H) :
  ReturnsInHanded {} Tryz.checked P 8 .any (Rows.journalKeptSpec.pre6 enc Tryz.prog Tryz.f8 Rows.journalKeptRow.domain false) (Rows.journalKeptSpec.post enc Tryz.prog Tryz.f8 false true false false):=by
 refine returnsInHanded_of_change_sized (C:=Tryz.checked) own c (by kernel_rfl) Tryz.func8
  (ChangeSpec.witness6 (enc:=enc) (C:=Tryz.checked) false ⟨#[],#[.slice none 0 0,.int .i64 0,.int .i64 0],[]⟩ 8 (by kernel_rfl) (by kernel_rfl) (by kernel_rfl) (by kernel_rfl)) ?_
 intro W base args I Z l d M _ k _;have b:∀(j:Nat) t v,Tryz.f8.params[j]?=some t→args[j]?=some v→Value.okWide Tryz.prog W .any base t v:=d;have i:(DataW.weightsEach Tryz.prog (Tryz.f8.params.toList++[]) (I++Z)).all (·≤reachBytes)=true:=k;have y:=M;obtain⟨p,q,s,hV,rfl,-,-⟩:=M;have L:DataW.TrodAll enc Tryz.prog W 0 (fun _=>true) true Tryz.f8.params.toList args.toList I p:=s;rw[Tryz.params8]at L b i;obtain⟨Q,ab,U,V,p0,q0,z,rfl,rfl,J,r0⟩:=trodAll_cons L;obtain⟨R,ac,d1,X,p1,q1,rfl,rfl,rfl,K,r1⟩:=trodAll_cons r0;obtain⟨v2,ad,d2,Y,p2,q2,rfl,rfl,rfl,h2,r2⟩:=trodAll_cons r1;obtain⟨rfl,rfl,rfl⟩:=trodAll_nil r2;obtain rfl:args=#[Q,R,v2]:=by cases args;simp_all
 obtain⟨rfl,rfl⟩:=trodVars_none hV;have g:=List.all_eq_true.1 i;obtain⟨a0,O,G,rfl⟩:=okWide_slice Tryz.underlying74 (b 0 74 Q rfl rfl);have N:=J;have B:∀x∈p0,x.block<W.heap.size:=by obtain⟨m,hm⟩:=N;exact DataW.trod_lt m _ _ _ hm
 have D:∀n∈U.weights Tryz.prog 74,n≤reachBytes:=fun n hn=>of_decide_eq_true (g n (DataW.weights_mem_each (j:=0) rfl rfl n hn));obtain⟨r,a⟩:=J;obtain⟨aa,o,A⟩:=steps5_arg a D;obtain⟨S,rfl,rfl,rfl,w1⟩:=open_int Tryz.underlying3 (b 1 3 R rfl rfl) K;have E:=bounds_i64 w1;obtain⟨T,rfl,rfl,rfl,w2⟩:=open_int Tryz.underlying3 (b 2 3 v2 rfl rfl) h2;have F:=bounds_i64 w2;refine(jkept_walk o A S T ⟨E.1,E.2⟩ ⟨F.1,F.2⟩).mono fun e W' ⟨he,f⟩=>?_;subst he;exact⟨_,rfl,_,_,_,[],_,[],y,trodAll_mk1 (shut_bool Tryz.underlying4 _),(trodAll_cons_mk (Below.trod laidOut (by kernel_rfl) (of_decide_eq_true (by kernel_rfl)) N f B) (trodAll_cons_mk (shut_int Tryz.underlying3 w1) (trodAll_cons_mk (shut_int Tryz.underlying3 w2) trodAll_mk0))),rfl,f.frame _,fun h=>by cases h⟩
theorem over:Rows.journalKeptRow.holds Tryz.pinned (OpenSpec.ofChange Rows.journalKeptSpec) :=
 OpenClaim.holds_of_wide 8 Tryz.f8 rfl rfl rfl rfl rfl rfl rfl ⟨rfl,rfl,rfl,rfl,rfl⟩ rfl rfl rfl rfl rfl (by kernel_rfl) Tryz.func8 (by kernel_rfl)
  (of_decide_eq_true (by kernel_rfl)) (by unfold Func.isWrapper;first|(rw[if_pos (by decide +kernel)];kernel_rfl)|(rw[if_neg (by decide +kernel)];exact⟨rfl,rfl⟩))
  (fun c b H enc _=>lifted c b H enc)
theorem proved:Rows.JournalKeptSaid:=over
#print axioms proved
end Go.Proofs.YtapfnehdgailmaaGreat.journalKeptDone
