/- SourceOfNothing: no function of the program starts a goroutine; so its row goes by none. -/
import Derived.Test.YtogdfkilhpkloaaGreatDoorTie
import Derived.Test.YtogdfkilhpkloaaGreatDoorCards
import Derived.WalkKit
namespace Go.Proofs.YtogdfkilhpkloaaGreatDoor.sourceOfNothingDone
open Go.RowKit
def still (l : List Func) : Bool := l.all fun f => !f.goes
theorem still_parts {l : List Func} (n : Nat) (h1 : still (l.take n) = true) (h2 : still (l.drop n) = true) : still l = true := by
  unfold still at *
  rw [← List.take_append_drop n l, List.all_append, h1, h2]
  rfl
theorem part0 : still ((Tryz.funcs.toList.drop 0).take 45) = true := by kernel_rfl
theorem part1 : still ((Tryz.funcs.toList.drop 45).take 45) = true := by kernel_rfl
theorem part2 : still ((Tryz.funcs.toList.drop 90).take 45) = true := by kernel_rfl
theorem part3 : still ((Tryz.funcs.toList.drop 135).take 45) = true := by kernel_rfl
theorem part4 : still ((Tryz.funcs.toList.drop 180).take 45) = true := by kernel_rfl
theorem part5 : still ((Tryz.funcs.toList.drop 225).take 45) = true := by kernel_rfl
theorem part6 : still ((Tryz.funcs.toList.drop 270).take 45) = true := by kernel_rfl
theorem part7 : still ((Tryz.funcs.toList.drop 315).take 45) = true := by kernel_rfl
theorem part8 : still ((Tryz.funcs.toList.drop 360).take 45) = true := by kernel_rfl
theorem part9 : still ((Tryz.funcs.toList.drop 405).take 45) = true := by kernel_rfl
theorem part10 : still (Tryz.funcs.toList.drop 450) = true := by kernel_rfl
theorem from10 : still (Tryz.funcs.toList.drop 450) = true := part10
theorem from9 : still (Tryz.funcs.toList.drop 405) = true := still_parts 45 part9 (by rw [List.drop_drop]; exact from10)
theorem from8 : still (Tryz.funcs.toList.drop 360) = true := still_parts 45 part8 (by rw [List.drop_drop]; exact from9)
theorem from7 : still (Tryz.funcs.toList.drop 315) = true := still_parts 45 part7 (by rw [List.drop_drop]; exact from8)
theorem from6 : still (Tryz.funcs.toList.drop 270) = true := still_parts 45 part6 (by rw [List.drop_drop]; exact from7)
theorem from5 : still (Tryz.funcs.toList.drop 225) = true := still_parts 45 part5 (by rw [List.drop_drop]; exact from6)
theorem from4 : still (Tryz.funcs.toList.drop 180) = true := still_parts 45 part4 (by rw [List.drop_drop]; exact from5)
theorem from3 : still (Tryz.funcs.toList.drop 135) = true := still_parts 45 part3 (by rw [List.drop_drop]; exact from4)
theorem from2 : still (Tryz.funcs.toList.drop 90) = true := still_parts 45 part2 (by rw [List.drop_drop]; exact from3)
theorem from1 : still (Tryz.funcs.toList.drop 45) = true := still_parts 45 part1 (by rw [List.drop_drop]; exact from2)
theorem from0 : still (Tryz.funcs.toList.drop 0) = true := still_parts 45 part0 (by rw [List.drop_drop]; exact from1)
theorem none_goes {g : Nat} {fn : Func} (h : Tryz.prog.funcs[g]? = some fn) : fn.goes = false := by
  have h1 : fn ∈ Tryz.funcs.toList := by
    have h2 : Tryz.funcs[g]? = some fn := h
    exact Array.mem_toList_iff.2 (Array.mem_of_getElem? h2)
  have h3 := List.all_eq_true.1 (show still Tryz.funcs.toList = true from from0) fn h1
  simpa using h3
theorem goes_none (f : FuncId) : Tryz.prog.goes f = false := by
  unfold Program.goes
  have h1 : ((Tryz.prog.closure f).any fun g => (Tryz.prog.funcs[g]?).any Func.goes) = false := by
    rw [List.any_eq_false]
    intro g _
    cases hg : Tryz.prog.funcs[g]? with
    | none => simp
    | some fn => simp [none_goes hg]
  have h2 : Tryz.prog.funcs.any Func.goes = false := by
    rw [Array.any_eq_false]
    intro i hi
    simp [none_goes (Array.getElem?_eq_getElem hi)]
  rw [h1, h2]
  simp
theorem goes : false = Rows.sourceOfNothingRow.goesBy Tryz.pinned.checked.prog := by
  show false = Tryz.prog.goesAt Rows.sourceOfNothingRow.start Rows.sourceOfNothingRow.func
  unfold Program.goesAt Program.goesFrom
  rw [show Rows.sourceOfNothingRow.start = .entering from rfl]
  cases Tryz.prog.funcNamed Rows.sourceOfNothingRow.func with
  | none => rfl
  | some f => simp [goes_none f]
end Go.Proofs.YtogdfkilhpkloaaGreatDoor.sourceOfNothingDone
