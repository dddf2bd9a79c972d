/- The law JournalTwice holds for all scripts, fuses and crashes: the function returns true and leaves its arguments as they were; there is no condition. -/
import Derived.Test.YtapfnehdgailmaaGreatKA
import Derived.Test.YtapfnehdgailmaaGreatKU
set_option maxRecDepth 100000
set_option maxHeartbeats 64000000
namespace Go.Proofs.YtapfnehdgailmaaGreat.journalTwiceDone
open Go.ChangeShapes Go.WideShapes Go.ChangeAt Go.RowKit Go.Sat
open Go.ChangeMaps (open_string shut_string)
theorem own:ownKnob Tryz.prog.godebug=none:=by kernel_rfl
theorem laidOut:laidOutB Tryz.prog=true:=by kernel_rfl
theorem lifted (Q:Os)(c:Q.Started)(H:Type)(enc:TypeId×Value→H) :
  ReturnsInHanded {} Tryz.checked Q 9 .any (Rows.journalTwiceSpec.pre6 enc Tryz.prog Tryz.f9 Rows.journalTwiceRow.domain false) (Rows.journalTwiceSpec.post enc Tryz.prog Tryz.f9 false true false false):=by
 refine returnsInHanded_of_change_sized (C:=Tryz.checked) own c (by kernel_rfl) Tryz.func9
  (ChangeSpec.witness6 (enc:=enc) (C:=Tryz.checked) false ⟨#[],#[.slice none 0 0,.int .i64 0,.int .i64 0,.int .i64 0,.int .i64 0],[]⟩ 8 (by kernel_rfl) (by kernel_rfl) (by kernel_rfl) (by kernel_rfl)) ?_
 intro W base args J gs l d N _ k _;have b:∀(j:Nat) t v,Tryz.f9.params[j]?=some t→args[j]?=some v→Value.okWide Tryz.prog W .any base t v:=d;have i:(DataW.weightsEach Tryz.prog (Tryz.f9.params.toList++[]) (J++gs)).all (·≤reachBytes)=true:=k;have y:=N;obtain⟨p,q,s,hV,rfl,-,-⟩:=N;have M:DataW.TrodAll enc Tryz.prog W 0 (fun _=>true) true Tryz.f9.params.toList args.toList J p:=s;rw[Tryz.params9]at M b i;obtain⟨R,ag,K,aa,p0,q0,z,rfl,rfl,L,r0⟩:=trodAll_cons M;obtain⟨S,ah,d1,ab,p1,q1,rfl,rfl,rfl,h1,r1⟩:=trodAll_cons r0;obtain⟨v2,ai,d2,ac,p2,q2,rfl,rfl,rfl,h2,r2⟩:=trodAll_cons r1;obtain⟨v3,aj,d3,ad,p3,q3,rfl,rfl,rfl,h3,r3⟩:=trodAll_cons r2;obtain⟨T,ak,d4,ae,p4,q4,rfl,rfl,rfl,h4,r4⟩:=trodAll_cons r3;obtain⟨rfl,rfl,rfl⟩:=trodAll_nil r4;obtain rfl:args=#[R,S,v2,v3,T]:=by cases args;simp_all
 obtain⟨rfl,rfl⟩:=trodVars_none hV;have g:=List.all_eq_true.1 i;obtain⟨a0,P,I,rfl⟩:=okWide_slice Tryz.underlying74 (b 0 74 R rfl rfl);have O:=L;have B:∀x∈p0,x.block<W.heap.size:=by obtain⟨m,hm⟩:=O;exact DataW.trod_lt m _ _ _ hm
 have D:∀n∈K.weights Tryz.prog 74,n≤reachBytes:=fun n hn=>of_decide_eq_true (g n (DataW.weights_mem_each (j:=0) rfl rfl n hn));obtain⟨r,a⟩:=L;obtain⟨af,o,A⟩:=steps5_arg a D;obtain⟨V,rfl,rfl,rfl,w1⟩:=open_int Tryz.underlying3 (b 1 3 S rfl rfl) h1;have E:=bounds_i64 w1;obtain⟨X,rfl,rfl,rfl,w2⟩:=open_int Tryz.underlying3 (b 2 3 v2 rfl rfl) h2;have F:=bounds_i64 w2;obtain⟨Y,rfl,rfl,rfl,w3⟩:=open_int Tryz.underlying3 (b 3 3 v3 rfl rfl) h3;have b3:=bounds_i64 w3;obtain⟨Z,rfl,rfl,rfl,U⟩:=open_int Tryz.underlying3 (b 4 3 T rfl rfl) h4;have G:=bounds_i64 U;refine(jtwice_walk o A V X Y Z ⟨E.1,E.2⟩ ⟨F.1,F.2⟩ ⟨b3.1,b3.2⟩ ⟨G.1,G.2⟩).mono fun e W' ⟨he,f⟩=>?_;subst he;exact⟨_,rfl,_,_,_,[],_,[],y,trodAll_mk1 (shut_bool Tryz.underlying4 _),(trodAll_cons_mk (Below.trod laidOut (by kernel_rfl) (of_decide_eq_true (by kernel_rfl)) O f B) (trodAll_cons_mk (shut_int Tryz.underlying3 w1) (trodAll_cons_mk (shut_int Tryz.underlying3 w2) (trodAll_cons_mk (shut_int Tryz.underlying3 w3) (trodAll_cons_mk (shut_int Tryz.underlying3 U) trodAll_mk0))))),rfl,f.frame _,fun h=>by cases h⟩
theorem over:Rows.journalTwiceRow.holds Tryz.pinned (OpenSpec.ofChange Rows.journalTwiceSpec) :=
 OpenClaim.holds_of_wide 9 Tryz.f9 rfl rfl rfl rfl rfl rfl rfl ⟨rfl,rfl,rfl,rfl,rfl⟩ rfl rfl rfl rfl rfl (by kernel_rfl) Tryz.func9 (by kernel_rfl)
  (of_decide_eq_true (by kernel_rfl)) (by unfold Func.isWrapper;first|(rw[if_pos (by decide +kernel)];kernel_rfl)|(rw[if_neg (by decide +kernel)];exact⟨rfl,rfl⟩))
  (fun c b H enc _=>lifted c b H enc)
theorem proved:Rows.JournalTwiceSaid:=over
#print axioms proved
end Go.Proofs.YtapfnehdgailmaaGreat.journalTwiceDone
