/-
  No cell of these rows narrows 'for every input' (looked for: loops, veiled, ifaces, maps, wideKeys, modest, calm, conditions, laid).
  DERIVED. THE GIVEN ROWS OF THIS SEAT. 11 by the template 'for every input the law returns true; each argument reads behind the call as it read before'; 0 by the template 'total and deterministic' (their statements: YtdlbamhabenhgaaTotals.lean).
  GIVEN WITH THE SEED: the statements are not yours to turn. If you find one false, say at which input.
  Laid BY PROGRAM, IN A SANDBOX (cutbox-rows.mjs): the forced cells as the released guide's own fill.sh prints them over the translation 9759cca2e1d9f72b… (all of the seat's roots in one cut). By AI agents, Wed Nov 11 2026. No macro, syntax, notation, axiom, sorry.
-/
import Derived.Test.YtdlbamhabenhgaaChecked
import GoSem.Claim
import GoSem.ClaimJoined
import GoSem.ClaimMapViews
import Derived.JoinedTies
import Derived.KernelRfl
namespace Go.Proofs.Ytdlbamhabenhgaa
/- THE CELL 'sum', in the pinned program and in every row, IS THE sha256 OF THE DUMP (.gsa) THAT YtdlbamhabenhgaaProg.lean LOADS. Nothing in Lean hashes anything: it is a label: what it is worth is what the hold of that sum in a sandbox is worth. -/
noncomputable def Try.pinned : Pinned := { name := "ytdlbamhabenhgaa", sum := "9759cca2e1d9f72bd61e913b02758ae73a2227d54367eefb94fc26ba7e99286d", checked := Try.checked }
namespace Rows
def none {H : Type} : Left H := { results := [], args := [] }

/-- 'satrapylaw3.DiskKeeps': WHATEVER THE INPUT: true; the input reads as it did. -/
def diskKeepsSpec : ChangeSpec := { name := "diskKeeps", fn := fun _ => fun
  | [d1, d2, d3] => { results := [.lit (.bool true)], args := [d1, d2, d3] }
  | _ => none }
def diskKeepsRow : OpenClaim := { program := "ytdlbamhabenhgaa", sum := "9759cca2e1d9f72bd61e913b02758ae73a2227d54367eefb94fc26ba7e99286d", func := "satrapy/satrapylaw3.DiskKeeps", spec := "diskKeeps", inPlace := ["internal/bytealg.MakeNoZero"], unfollowed := true, recurses := true, apart := false }
def DiskKeepsSaid : Prop := diskKeepsRow.holds Try.pinned (OpenSpec.ofChange diskKeepsSpec)

/-- ITS FALSE NEIGHBOUR: 'it returns false'. Refute it at one input. -/
def diskKeepsWrong : ChangeSpec := { name := "diskKeeps", fn := fun _ => fun
  | [d1, d2, d3] => { results := [.lit (.bool false)], args := [d1, d2, d3] }
  | _ => none }
def DiskKeepsWrongFalsely : Prop := diskKeepsRow.holds Try.pinned (OpenSpec.ofChange diskKeepsWrong)

/-- 'satrapylaw3.DiskRoom': WHATEVER THE INPUT: true; the input reads as it did. -/
def diskRoomSpec : ChangeSpec := { name := "diskRoom", fn := fun _ => fun
  | [d1, d2] => { results := [.lit (.bool true)], args := [d1, d2] }
  | _ => none }
def diskRoomRow : OpenClaim := { program := "ytdlbamhabenhgaa", sum := "9759cca2e1d9f72bd61e913b02758ae73a2227d54367eefb94fc26ba7e99286d", func := "satrapy/satrapylaw3.DiskRoom", spec := "diskRoom", inPlace := ["internal/bytealg.MakeNoZero"], unfollowed := true, recurses := true, apart := false }
def DiskRoomSaid : Prop := diskRoomRow.holds Try.pinned (OpenSpec.ofChange diskRoomSpec)

/-- ITS FALSE NEIGHBOUR: 'it returns false'. Refute it at one input. -/
def diskRoomWrong : ChangeSpec := { name := "diskRoom", fn := fun _ => fun
  | [d1, d2] => { results := [.lit (.bool false)], args := [d1, d2] }
  | _ => none }
def DiskRoomWrongFalsely : Prop := diskRoomRow.holds Try.pinned (OpenSpec.ofChange diskRoomWrong)

/-- 'satrapylaw3.DiskFuses': WHATEVER THE INPUT: true; the input reads as it did. -/
def diskFusesSpec : ChangeSpec := { name := "diskFuses", fn := fun _ => fun
  | [d1, d2] => { results := [.lit (.bool true)], args := [d1, d2] }
  | _ => none }
def diskFusesRow : OpenClaim := { program := "ytdlbamhabenhgaa", sum := "9759cca2e1d9f72bd61e913b02758ae73a2227d54367eefb94fc26ba7e99286d", func := "satrapy/satrapylaw3.DiskFuses", spec := "diskFuses", inPlace := ["internal/bytealg.MakeNoZero"], unfollowed := true, recurses := true, apart := false }
def DiskFusesSaid : Prop := diskFusesRow.holds Try.pinned (OpenSpec.ofChange diskFusesSpec)

/-- ITS FALSE NEIGHBOUR: 'it returns false'. Refute it at one input. -/
def diskFusesWrong : ChangeSpec := { name := "diskFuses", fn := fun _ => fun
  | [d1, d2] => { results := [.lit (.bool false)], args := [d1, d2] }
  | _ => none }
def DiskFusesWrongFalsely : Prop := diskFusesRow.holds Try.pinned (OpenSpec.ofChange diskFusesWrong)

/-- 'satrapylaw4.KeepLast': WHATEVER THE INPUT: true; the input reads as it did. -/
def keepLastSpec : ChangeSpec := { name := "keepLast", fn := fun _ => fun
  | [d1, d2, d3] => { results := [.lit (.bool true)], args := [d1, d2, d3] }
  | _ => none }
def keepLastRow : OpenClaim := { program := "ytdlbamhabenhgaa", sum := "9759cca2e1d9f72bd61e913b02758ae73a2227d54367eefb94fc26ba7e99286d", func := "satrapy/satrapylaw4.KeepLast", spec := "keepLast", inPlace := ["internal/bytealg.MakeNoZero"], unfollowed := true, recurses := true, apart := false }
def KeepLastSaid : Prop := keepLastRow.holds Try.pinned (OpenSpec.ofChange keepLastSpec)

/-- ITS FALSE NEIGHBOUR: 'it returns false'. Refute it at one input. -/
def keepLastWrong : ChangeSpec := { name := "keepLast", fn := fun _ => fun
  | [d1, d2, d3] => { results := [.lit (.bool false)], args := [d1, d2, d3] }
  | _ => none }
def KeepLastWrongFalsely : Prop := keepLastRow.holds Try.pinned (OpenSpec.ofChange keepLastWrong)

/-- 'satrapylaw3.DiskMany': WHATEVER THE INPUT: true; the input reads as it did. -/
def diskManySpec : ChangeSpec := { name := "diskMany", fn := fun _ => fun
  | [d1, d2, d3] => { results := [.lit (.bool true)], args := [d1, d2, d3] }
  | _ => none }
def diskManyRow : OpenClaim := { program := "ytdlbamhabenhgaa", sum := "9759cca2e1d9f72bd61e913b02758ae73a2227d54367eefb94fc26ba7e99286d", func := "satrapy/satrapylaw3.DiskMany", spec := "diskMany", inPlace := ["internal/bytealg.MakeNoZero"], unfollowed := true, recurses := true, apart := false }
def DiskManySaid : Prop := diskManyRow.holds Try.pinned (OpenSpec.ofChange diskManySpec)

/-- ITS FALSE NEIGHBOUR: 'it returns false'. Refute it at one input. -/
def diskManyWrong : ChangeSpec := { name := "diskMany", fn := fun _ => fun
  | [d1, d2, d3] => { results := [.lit (.bool false)], args := [d1, d2, d3] }
  | _ => none }
def DiskManyWrongFalsely : Prop := diskManyRow.holds Try.pinned (OpenSpec.ofChange diskManyWrong)

/-- 'satrapylaw3.DiskNames': WHATEVER THE INPUT: true; the input reads as it did. -/
def diskNamesSpec : ChangeSpec := { name := "diskNames", fn := fun _ => fun
  | [d1, d2, d3, d4] => { results := [.lit (.bool true)], args := [d1, d2, d3, d4] }
  | _ => none }
def diskNamesRow : OpenClaim := { program := "ytdlbamhabenhgaa", sum := "9759cca2e1d9f72bd61e913b02758ae73a2227d54367eefb94fc26ba7e99286d", func := "satrapy/satrapylaw3.DiskNames", spec := "diskNames", inPlace := ["internal/bytealg.MakeNoZero"], unfollowed := true, recurses := true, apart := false }
def DiskNamesSaid : Prop := diskNamesRow.holds Try.pinned (OpenSpec.ofChange diskNamesSpec)

/-- ITS FALSE NEIGHBOUR: 'it returns false'. Refute it at one input. -/
def diskNamesWrong : ChangeSpec := { name := "diskNames", fn := fun _ => fun
  | [d1, d2, d3, d4] => { results := [.lit (.bool false)], args := [d1, d2, d3, d4] }
  | _ => none }
def DiskNamesWrongFalsely : Prop := diskNamesRow.holds Try.pinned (OpenSpec.ofChange diskNamesWrong)

/-- 'satrapylaw3.DiskPlays': WHATEVER THE INPUT: true; the input reads as it did. -/
def diskPlaysSpec : ChangeSpec := { name := "diskPlays", fn := fun _ => fun
  | [d1, d2] => { results := [.lit (.bool true)], args := [d1, d2] }
  | _ => none }
def diskPlaysRow : OpenClaim := { program := "ytdlbamhabenhgaa", sum := "9759cca2e1d9f72bd61e913b02758ae73a2227d54367eefb94fc26ba7e99286d", func := "satrapy/satrapylaw3.DiskPlays", spec := "diskPlays", inPlace := ["internal/bytealg.MakeNoZero"], unfollowed := true, recurses := true, apart := false }
def DiskPlaysSaid : Prop := diskPlaysRow.holds Try.pinned (OpenSpec.ofChange diskPlaysSpec)

/-- ITS FALSE NEIGHBOUR: 'it returns false'. Refute it at one input. -/
def diskPlaysWrong : ChangeSpec := { name := "diskPlays", fn := fun _ => fun
  | [d1, d2] => { results := [.lit (.bool false)], args := [d1, d2] }
  | _ => none }
def DiskPlaysWrongFalsely : Prop := diskPlaysRow.holds Try.pinned (OpenSpec.ofChange diskPlaysWrong)

/-- 'satrapylaw3.DiskOfNothing': WHATEVER THE INPUT: true; the input reads as it did. -/
def diskOfNothingSpec : ChangeSpec := { name := "diskOfNothing", fn := fun _ => fun
  | [d1, d2, d3] => { results := [.lit (.bool true)], args := [d1, d2, d3] }
  | _ => none }
def diskOfNothingRow : OpenClaim := { program := "ytdlbamhabenhgaa", sum := "9759cca2e1d9f72bd61e913b02758ae73a2227d54367eefb94fc26ba7e99286d", func := "satrapy/satrapylaw3.DiskOfNothing", spec := "diskOfNothing", inPlace := ["internal/bytealg.MakeNoZero"], unfollowed := true, recurses := true, apart := false }
def DiskOfNothingSaid : Prop := diskOfNothingRow.holds Try.pinned (OpenSpec.ofChange diskOfNothingSpec)

/-- ITS FALSE NEIGHBOUR: 'it returns false'. Refute it at one input. -/
def diskOfNothingWrong : ChangeSpec := { name := "diskOfNothing", fn := fun _ => fun
  | [d1, d2, d3] => { results := [.lit (.bool false)], args := [d1, d2, d3] }
  | _ => none }
def DiskOfNothingWrongFalsely : Prop := diskOfNothingRow.holds Try.pinned (OpenSpec.ofChange diskOfNothingWrong)

/-- 'satrapylaw4.KeepOfNothing': WHATEVER THE INPUT: true; the input reads as it did. -/
def keepOfNothingSpec : ChangeSpec := { name := "keepOfNothing", fn := fun _ => fun
  | [d1, d2] => { results := [.lit (.bool true)], args := [d1, d2] }
  | _ => none }
def keepOfNothingRow : OpenClaim := { program := "ytdlbamhabenhgaa", sum := "9759cca2e1d9f72bd61e913b02758ae73a2227d54367eefb94fc26ba7e99286d", func := "satrapy/satrapylaw4.KeepOfNothing", spec := "keepOfNothing", inPlace := ["internal/bytealg.MakeNoZero"], unfollowed := true, recurses := true, apart := false }
def KeepOfNothingSaid : Prop := keepOfNothingRow.holds Try.pinned (OpenSpec.ofChange keepOfNothingSpec)

/-- ITS FALSE NEIGHBOUR: 'it returns false'. Refute it at one input. -/
def keepOfNothingWrong : ChangeSpec := { name := "keepOfNothing", fn := fun _ => fun
  | [d1, d2] => { results := [.lit (.bool false)], args := [d1, d2] }
  | _ => none }
def KeepOfNothingWrongFalsely : Prop := keepOfNothingRow.holds Try.pinned (OpenSpec.ofChange keepOfNothingWrong)

/-- 'satrapylaw4.KeepApart': WHATEVER THE INPUT: true; the input reads as it did. -/
def keepApartSpec : ChangeSpec := { name := "keepApart", fn := fun _ => fun
  | [d1, d2, d3, d4] => { results := [.lit (.bool true)], args := [d1, d2, d3, d4] }
  | _ => none }
def keepApartRow : OpenClaim := { program := "ytdlbamhabenhgaa", sum := "9759cca2e1d9f72bd61e913b02758ae73a2227d54367eefb94fc26ba7e99286d", func := "satrapy/satrapylaw4.KeepApart", spec := "keepApart", inPlace := ["internal/bytealg.MakeNoZero"], unfollowed := true, recurses := true, apart := false }
def KeepApartSaid : Prop := keepApartRow.holds Try.pinned (OpenSpec.ofChange keepApartSpec)

/-- ITS FALSE NEIGHBOUR: 'it returns false'. Refute it at one input. -/
def keepApartWrong : ChangeSpec := { name := "keepApart", fn := fun _ => fun
  | [d1, d2, d3, d4] => { results := [.lit (.bool false)], args := [d1, d2, d3, d4] }
  | _ => none }
def KeepApartWrongFalsely : Prop := keepApartRow.holds Try.pinned (OpenSpec.ofChange keepApartWrong)

/-- 'satrapylaw4.KeepPlays': WHATEVER THE INPUT: true; the input reads as it did. -/
def keepPlaysSpec : ChangeSpec := { name := "keepPlays", fn := fun _ => fun
  | [d1, d2] => { results := [.lit (.bool true)], args := [d1, d2] }
  | _ => none }
def keepPlaysRow : OpenClaim := { program := "ytdlbamhabenhgaa", sum := "9759cca2e1d9f72bd61e913b02758ae73a2227d54367eefb94fc26ba7e99286d", func := "satrapy/satrapylaw4.KeepPlays", spec := "keepPlays", inPlace := ["internal/bytealg.MakeNoZero"], unfollowed := true, recurses := true, apart := false }
def KeepPlaysSaid : Prop := keepPlaysRow.holds Try.pinned (OpenSpec.ofChange keepPlaysSpec)

/-- ITS FALSE NEIGHBOUR: 'it returns false'. Refute it at one input. -/
def keepPlaysWrong : ChangeSpec := { name := "keepPlays", fn := fun _ => fun
  | [d1, d2] => { results := [.lit (.bool false)], args := [d1, d2] }
  | _ => none }
def KeepPlaysWrongFalsely : Prop := keepPlaysRow.holds Try.pinned (OpenSpec.ofChange keepPlaysWrong)

/- THE SECOND FORM. 'bulk': how many values and letters a reading holds, each counted each time it is reached (what is shared counts as often as it is met; a slice's spare places count too). A statement '..UptoSaid' is the law's where the arguments, and the package variables that the reading takes, are together of bulk at most 1048576: NARROWER than '..Said'. Prove '..Said' where nothing that the law and all that it calls make is longer than what came in: it says more and counts as full. Else prove '..UptoSaid'. A law counts once. -/
mutual
def uptoBulk {H : Type} : DataW H → Nat
  | .lit (.string bytes) => bytes.length + 1
  | .lit _ => 1
  | .nil => 1
  | .ptr d => uptoBulk d + 1
  | .slice elems spare => uptoBulkAll elems + uptoBulkAll spare + 1
  | .agg parts => uptoBulkAll parts + 1
  | .iface _ d => uptoBulk d + 1
  | .map entries => uptoBulkEntries entries + 1
  | .held _ => 1
def uptoBulkAll {H : Type} : List (DataW H) → Nat
  | [] => 0
  | d :: r => uptoBulk d + uptoBulkAll r
def uptoBulkEntries {H : Type} : List (Lit × DataW H) → Nat
  | [] => 0
  | x :: r => uptoBulkEntry x + uptoBulkEntries r
def uptoBulkEntry {H : Type} : Lit × DataW H → Nat
  | (.string bytes, d) => bytes.length + uptoBulk d + 1
  | (_, d) => uptoBulk d + 1
 end
def uptoSmall : (H : Type) → List (DataW H) → Bool := fun _ ds => decide (uptoBulkAll ds ≤ 1048576)
def OpenSpec.upto (s : _root_.Go.ChangeSpec) : _root_.Go.OpenSpec := { _root_.Go.OpenSpec.ofChange s with cond := some uptoSmall }

/-- 'satrapylaw3.DiskKeeps', WHERE WHAT IT READS IS OF BULK AT MOST 1048576: true; the input reads as it did. -/
def diskKeepsUptoRow : OpenClaim := { program := "ytdlbamhabenhgaa", sum := "9759cca2e1d9f72bd61e913b02758ae73a2227d54367eefb94fc26ba7e99286d", func := "satrapy/satrapylaw3.DiskKeeps", spec := "diskKeeps", inPlace := ["internal/bytealg.MakeNoZero"], unfollowed := true, recurses := true, apart := false, narrowed := true }
def DiskKeepsUptoSaid : Prop := diskKeepsUptoRow.holds Try.pinned (OpenSpec.upto diskKeepsSpec)

/-- 'satrapylaw3.DiskRoom', WHERE WHAT IT READS IS OF BULK AT MOST 1048576: true; the input reads as it did. -/
def diskRoomUptoRow : OpenClaim := { program := "ytdlbamhabenhgaa", sum := "9759cca2e1d9f72bd61e913b02758ae73a2227d54367eefb94fc26ba7e99286d", func := "satrapy/satrapylaw3.DiskRoom", spec := "diskRoom", inPlace := ["internal/bytealg.MakeNoZero"], unfollowed := true, recurses := true, apart := false, narrowed := true }
def DiskRoomUptoSaid : Prop := diskRoomUptoRow.holds Try.pinned (OpenSpec.upto diskRoomSpec)

/-- 'satrapylaw3.DiskFuses', WHERE WHAT IT READS IS OF BULK AT MOST 1048576: true; the input reads as it did. -/
def diskFusesUptoRow : OpenClaim := { program := "ytdlbamhabenhgaa", sum := "9759cca2e1d9f72bd61e913b02758ae73a2227d54367eefb94fc26ba7e99286d", func := "satrapy/satrapylaw3.DiskFuses", spec := "diskFuses", inPlace := ["internal/bytealg.MakeNoZero"], unfollowed := true, recurses := true, apart := false, narrowed := true }
def DiskFusesUptoSaid : Prop := diskFusesUptoRow.holds Try.pinned (OpenSpec.upto diskFusesSpec)

/-- 'satrapylaw4.KeepLast', WHERE WHAT IT READS IS OF BULK AT MOST 1048576: true; the input reads as it did. -/
def keepLastUptoRow : OpenClaim := { program := "ytdlbamhabenhgaa", sum := "9759cca2e1d9f72bd61e913b02758ae73a2227d54367eefb94fc26ba7e99286d", func := "satrapy/satrapylaw4.KeepLast", spec := "keepLast", inPlace := ["internal/bytealg.MakeNoZero"], unfollowed := true, recurses := true, apart := false, narrowed := true }
def KeepLastUptoSaid : Prop := keepLastUptoRow.holds Try.pinned (OpenSpec.upto keepLastSpec)

/-- 'satrapylaw3.DiskMany', WHERE WHAT IT READS IS OF BULK AT MOST 1048576: true; the input reads as it did. -/
def diskManyUptoRow : OpenClaim := { program := "ytdlbamhabenhgaa", sum := "9759cca2e1d9f72bd61e913b02758ae73a2227d54367eefb94fc26ba7e99286d", func := "satrapy/satrapylaw3.DiskMany", spec := "diskMany", inPlace := ["internal/bytealg.MakeNoZero"], unfollowed := true, recurses := true, apart := false, narrowed := true }
def DiskManyUptoSaid : Prop := diskManyUptoRow.holds Try.pinned (OpenSpec.upto diskManySpec)

/-- 'satrapylaw3.DiskNames', WHERE WHAT IT READS IS OF BULK AT MOST 1048576: true; the input reads as it did. -/
def diskNamesUptoRow : OpenClaim := { program := "ytdlbamhabenhgaa", sum := "9759cca2e1d9f72bd61e913b02758ae73a2227d54367eefb94fc26ba7e99286d", func := "satrapy/satrapylaw3.DiskNames", spec := "diskNames", inPlace := ["internal/bytealg.MakeNoZero"], unfollowed := true, recurses := true, apart := false, narrowed := true }
def DiskNamesUptoSaid : Prop := diskNamesUptoRow.holds Try.pinned (OpenSpec.upto diskNamesSpec)

/-- 'satrapylaw3.DiskPlays', WHERE WHAT IT READS IS OF BULK AT MOST 1048576: true; the input reads as it did. -/
def diskPlaysUptoRow : OpenClaim := { program := "ytdlbamhabenhgaa", sum := "9759cca2e1d9f72bd61e913b02758ae73a2227d54367eefb94fc26ba7e99286d", func := "satrapy/satrapylaw3.DiskPlays", spec := "diskPlays", inPlace := ["internal/bytealg.MakeNoZero"], unfollowed := true, recurses := true, apart := false, narrowed := true }
def DiskPlaysUptoSaid : Prop := diskPlaysUptoRow.holds Try.pinned (OpenSpec.upto diskPlaysSpec)

/-- 'satrapylaw3.DiskOfNothing', WHERE WHAT IT READS IS OF BULK AT MOST 1048576: true; the input reads as it did. -/
def diskOfNothingUptoRow : OpenClaim := { program := "ytdlbamhabenhgaa", sum := "9759cca2e1d9f72bd61e913b02758ae73a2227d54367eefb94fc26ba7e99286d", func := "satrapy/satrapylaw3.DiskOfNothing", spec := "diskOfNothing", inPlace := ["internal/bytealg.MakeNoZero"], unfollowed := true, recurses := true, apart := false, narrowed := true }
def DiskOfNothingUptoSaid : Prop := diskOfNothingUptoRow.holds Try.pinned (OpenSpec.upto diskOfNothingSpec)

/-- 'satrapylaw4.KeepOfNothing', WHERE WHAT IT READS IS OF BULK AT MOST 1048576: true; the input reads as it did. -/
def keepOfNothingUptoRow : OpenClaim := { program := "ytdlbamhabenhgaa", sum := "9759cca2e1d9f72bd61e913b02758ae73a2227d54367eefb94fc26ba7e99286d", func := "satrapy/satrapylaw4.KeepOfNothing", spec := "keepOfNothing", inPlace := ["internal/bytealg.MakeNoZero"], unfollowed := true, recurses := true, apart := false, narrowed := true }
def KeepOfNothingUptoSaid : Prop := keepOfNothingUptoRow.holds Try.pinned (OpenSpec.upto keepOfNothingSpec)

/-- 'satrapylaw4.KeepApart', WHERE WHAT IT READS IS OF BULK AT MOST 1048576: true; the input reads as it did. -/
def keepApartUptoRow : OpenClaim := { program := "ytdlbamhabenhgaa", sum := "9759cca2e1d9f72bd61e913b02758ae73a2227d54367eefb94fc26ba7e99286d", func := "satrapy/satrapylaw4.KeepApart", spec := "keepApart", inPlace := ["internal/bytealg.MakeNoZero"], unfollowed := true, recurses := true, apart := false, narrowed := true }
def KeepApartUptoSaid : Prop := keepApartUptoRow.holds Try.pinned (OpenSpec.upto keepApartSpec)

/-- 'satrapylaw4.KeepPlays', WHERE WHAT IT READS IS OF BULK AT MOST 1048576: true; the input reads as it did. -/
def keepPlaysUptoRow : OpenClaim := { program := "ytdlbamhabenhgaa", sum := "9759cca2e1d9f72bd61e913b02758ae73a2227d54367eefb94fc26ba7e99286d", func := "satrapy/satrapylaw4.KeepPlays", spec := "keepPlays", inPlace := ["internal/bytealg.MakeNoZero"], unfollowed := true, recurses := true, apart := false, narrowed := true }
def KeepPlaysUptoSaid : Prop := keepPlaysUptoRow.holds Try.pinned (OpenSpec.upto keepPlaysSpec)

end Rows
end Go.Proofs.Ytdlbamhabenhgaa
