/- The law SourceOfNothing holds for all arguments: its tables are laid, and tied to the program's text. -/
import Derived.Test.YtogdfkilhpkloaaGreatDoorASogA
import Derived.Test.YtogdfkilhpkloaaGreatDoorASogB
import Derived.Test.YtogdfkilhpkloaaGreatDoorTie
import Derived.Test.YtogdfkilhpkloaaGreatDoorCards
import Derived.LaidMore
import Derived.OpenShut
import Derived.Stop.Joined
namespace Go.Proofs.YtogdfkilhpkloaaGreatDoor.sourceOfNothingDone
open Go.ChangeShapes Go.WideShapes Go.ChangeAt Go.RowKit Go.Sat
theorem proved : Rows.SourceOfNothingCardSaid :=
  Claim7.holds_tied_plain_at .later [] [.data, .data, .data] true (true, "9776d9d7eb8ab34161891ce79a12b14a107d850b8ba6385273046aa7dbfb2b1e") true
    over (fun _ h => by cases h) (by as_aux_lemma => kernel_rfl) (fun _ h => by cases h) sourceOfNothing_row_tie rfl ⟨rfl, rfl⟩ (by as_aux_lemma => kernel_rfl) rfl
    (fun f fn hf hfn => by
      obtain rfl : f = 6 := Option.some.inj ((show Tryz.prog.funcNamed "satrapy/satrapylaw22.SourceOfNothing" = some 6 by as_aux_lemma => kernel_rfl).symm.trans hf) |>.symm
      obtain rfl : fn = Tryz.f6 := (Option.some.inj (Tryz.func6.symm.trans hfn)).symm
      exact ⟨by as_aux_lemma => kernel_rfl, fun j t ht => by
        rw [Tryz.params6] at ht
        have hm : t ∈ [3, 70] := by simpa using Array.mem_of_getElem? ht
        have hall : ([3, 70].all fun u => !Tryz.prog.wantsStandIn u) = true := by as_aux_lemma => kernel_rfl
        exact (show Tryz.prog.wantsStandIn t = false by simpa using List.all_eq_true.1 hall t hm)⟩)
    goes
#print axioms proved
end Go.Proofs.YtogdfkilhpkloaaGreatDoor.sourceOfNothingDone
