/- The law JournalPlays holds for all scripts: the function returns true and leaves its arguments as they were; there is no condition. -/
import Derived.Test.YtapfnehdgailmaaGreatJB
import Derived.Test.YtapfnehdgailmaaGreatJG1
set_option maxRecDepth 100000
set_option maxHeartbeats 64000000
namespace Go.Proofs.YtapfnehdgailmaaGreat.journalPlaysDone
open Go.ChangeShapes Go.WideShapes Go.ChangeAt Go.RowKit Go.Sat
open Go.ChangeMaps (open_string shut_string)
theorem own:ownKnob Tryz.prog.godebug=none:=by kernel_rfl
theorem laidOut:laidOutB Tryz.prog=true:=by kernel_rfl
theorem lifted (N:Os)(c:N.Started)(H:Type)(enc:TypeId×Value→H) :
  ReturnsInHanded {} Tryz.checked N 12 .any (Rows.journalPlaysSpec.pre6 enc Tryz.prog Tryz.f12 Rows.journalPlaysRow.domain false) (Rows.journalPlaysSpec.post enc Tryz.prog Tryz.f12 false true false false):=by
 refine returnsInHanded_of_change_sized (C:=Tryz.checked) own c (by kernel_rfl) Tryz.func12
  (ChangeSpec.witness6 (enc:=enc) (C:=Tryz.checked) false ⟨#[],#[.int .i64 0,.slice none 0 0],[]⟩ 8 (by kernel_rfl) (by kernel_rfl) (by kernel_rfl) (by kernel_rfl)) ?_
 intro W base args G V l d L _ k _;have b:∀(j:Nat) t v,Tryz.f12.params[j]?=some t→args[j]?=some v→Value.okWide Tryz.prog W .any base t v:=d;have i:(DataW.weightsEach Tryz.prog (Tryz.f12.params.toList++[]) (G++V)).all (·≤reachBytes)=true:=k;have y:=L;obtain⟨p,q,s,Y,rfl,-,-⟩:=L;have J:DataW.TrodAll enc Tryz.prog W 0 (fun _=>true) true Tryz.f12.params.toList args.toList G p:=s;rw[Tryz.params12]at J b i;obtain⟨O,ab,d0,T,p0,q0,z,rfl,rfl,X,r0⟩:=trodAll_cons J;obtain⟨P,ac,S,U,p1,q1,rfl,rfl,rfl,I,r1⟩:=trodAll_cons r0;obtain⟨rfl,rfl,rfl⟩:=trodAll_nil r1;obtain rfl:args=#[O,P]:=by cases args;simp_all
 obtain⟨rfl,rfl⟩:=trodVars_none Y;have g:=List.all_eq_true.1 i;obtain⟨R,rfl,rfl,rfl,Q⟩:=open_int Tryz.underlying3 (b 0 3 O rfl rfl) X;have E:=bounds_i64 Q;obtain⟨a1,M,F,rfl⟩:=okWide_slice Tryz.underlying74 (b 1 74 P rfl rfl);have k1:=I;have B:∀x∈p1,x.block<W.heap.size:=by obtain⟨m,K⟩:=k1;exact DataW.trod_lt m _ _ _ K
 have D:∀n∈S.weights Tryz.prog 74,n≤reachBytes:=fun n hn=>of_decide_eq_true (g n (DataW.weights_mem_each (j:=1) rfl rfl n hn));obtain⟨r,a⟩:=I;obtain⟨aa,o,A⟩:=steps5_arg a D;refine(jplays_walk o A R ⟨E.1,E.2⟩).mono fun e W' ⟨Z,f⟩=>?_;subst Z;exact⟨_,rfl,_,_,_,[],_,[],y,trodAll_mk1 (shut_bool Tryz.underlying4 _),(trodAll_cons_mk (shut_int Tryz.underlying3 Q) (trodAll_cons_mk (Below.trod laidOut (by kernel_rfl) (of_decide_eq_true (by kernel_rfl)) k1 f B) trodAll_mk0)),rfl,f.frame _,fun h=>by cases h⟩
theorem over:Rows.journalPlaysRow.holds Tryz.pinned (OpenSpec.ofChange Rows.journalPlaysSpec) :=
 OpenClaim.holds_of_wide 12 Tryz.f12 rfl rfl rfl rfl rfl rfl rfl ⟨rfl,rfl,rfl,rfl,rfl⟩ rfl rfl rfl rfl rfl (by kernel_rfl) Tryz.func12 (by kernel_rfl)
  (of_decide_eq_true (by kernel_rfl)) (by unfold Func.isWrapper;first|(rw[if_pos (by decide +kernel)];kernel_rfl)|(rw[if_neg (by decide +kernel)];exact⟨rfl,rfl⟩))
  (fun c b H enc _=>lifted c b H enc)
theorem proved:Rows.JournalPlaysSaid:=over
#print axioms proved
end Go.Proofs.YtapfnehdgailmaaGreat.journalPlaysDone
