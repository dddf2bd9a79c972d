/- The law LedgerPlays holds for all scripts: the function returns true and leaves its arguments as they were; there is no condition. -/
import Derived.Test.YtapfnehdgailmaaGreatEB
import Derived.Test.YtapfnehdgailmaaGreatEV
set_option maxRecDepth 100000
set_option maxHeartbeats 64000000
namespace Go.Proofs.YtapfnehdgailmaaGreat.ledgerPlaysDone
open Go.ChangeShapes Go.WideShapes Go.ChangeAt Go.RowKit Go.Sat
open Go.ChangeMaps (open_string shut_string)
theorem own:ownKnob Tryz.prog.godebug=none:=by kernel_rfl
theorem laidOut:laidOutB Tryz.prog=true:=by kernel_rfl
theorem lifted (os:Os) (started:os.Started) (H:Type) (enc:TypeId × Value→H) :
  ReturnsInHanded {} Tryz.checked os 11 .any (Rows.ledgerPlaysSpec.pre6 enc Tryz.prog Tryz.f11 Rows.ledgerPlaysRow.domain false) (Rows.ledgerPlaysSpec.post enc Tryz.prog Tryz.f11 false true false false):=by
 refine returnsInHanded_of_change_sized (C:=Tryz.checked) own started (by kernel_rfl) Tryz.func11
  (ChangeSpec.witness6 (enc:=enc) (C:=Tryz.checked) false ⟨#[],#[.slice none 0 0],[]⟩ 8 (by kernel_rfl) (by kernel_rfl) (by kernel_rfl) (by kernel_rfl)) ?_
 intro W base args ds gs before hval0 hW _ hsz0 _
 have hval:∀ (j:Nat) t v,Tryz.f11.params[j]?=some t→args[j]?=some v→Value.okWide Tryz.prog W .any base t v:=hval0
 have hsz:(DataW.weightsEach Tryz.prog (Tryz.f11.params.toList ++ []) (ds ++ gs)).all (·≤reachBytes)=true:=hsz0
 have hW1:=hW
 obtain ⟨p,q,hA0,hV,rfl,-,-⟩:=hW
 have hA:DataW.TrodAll enc Tryz.prog W 0 (fun _=>true) true Tryz.f11.params.toList args.toList ds p:=hA0
 rw [Tryz.params11] at hA hval hsz
 obtain ⟨v0,vs0,d0,ds0,p0,q0,hargs,rfl,rfl,h0,r0⟩:=trodAll_cons hA
 obtain ⟨rfl,rfl,rfl⟩:=trodAll_nil r0
 obtain rfl:args=#[v0]:=by cases args;simp_all
 obtain ⟨rfl,rfl⟩:=trodVars_none hV
 have hall:=List.all_eq_true.1 hsz
 obtain ⟨a0,len0,cap0,rfl⟩:=okWide_slice Tryz.underlying98 (hval 0 98 v0 rfl rfl)
 have k0:=h0
 have lt0:∀ x ∈ p0,x.block < W.heap.size:=by obtain ⟨m,hm⟩:=k0;exact DataW.trod_lt m _ _ _ hm
 have wt0:∀ n ∈ d0.weights Tryz.prog 98,n≤reachBytes:=fun n hn=>of_decide_eq_true (hall n (DataW.weights_mem_each (j:=0) rfl rfl n hn))
 obtain ⟨fuel0,hf0⟩:=h0
 obtain ⟨ls0,at0,ln0⟩:=acts14_arg hf0 wt0
 refine (lplays_walk at0 ln0).mono fun e W' ⟨he,bel⟩=>?_
 subst he
 exact ⟨_,rfl,_,_,_,[],_,[],hW1,trodAll_mk1 (shut_bool Tryz.underlying4 _),(trodAll_cons_mk (Below.trod laidOut (by kernel_rfl) (of_decide_eq_true (by kernel_rfl)) k0 bel lt0) trodAll_mk0),rfl,bel.frame _,fun h=>by cases h⟩
theorem over:Rows.ledgerPlaysRow.holds Tryz.pinned (OpenSpec.ofChange Rows.ledgerPlaysSpec) :=
 OpenClaim.holds_of_wide 11 Tryz.f11 rfl rfl rfl rfl rfl rfl rfl ⟨rfl,rfl,rfl,rfl,rfl⟩ rfl rfl rfl rfl rfl (by kernel_rfl) Tryz.func11 (by kernel_rfl)
  (of_decide_eq_true (by kernel_rfl)) (by unfold Func.isWrapper;first | (rw [if_pos (by decide +kernel)];kernel_rfl) | (rw [if_neg (by decide +kernel)];exact ⟨rfl,rfl⟩))
  (fun os started H enc _=>lifted os started H enc)
theorem proved:Rows.LedgerPlaysSaid:=over
#print axioms proved
end Go.Proofs.YtapfnehdgailmaaGreat.ledgerPlaysDone
