/-
  No cell of these rows narrows 'for every input' (looked for: loops, veiled, ifaces, maps, wideKeys, modest, calm, conditions, laid).
  DERIVED. THE GIVEN ROWS OF THIS SEAT. 10 by the template 'for every input the law returns true; each argument reads behind the call as it read before'; 0 by the template 'total and deterministic' (their statements: YtapfnehdgailmaaGreatTotals.lean).
  GIVEN WITH THE SEED: the statements are not yours to turn. If you find one false, say at which input.
  Laid BY PROGRAM, IN A SANDBOX (cutbox-rows.mjs): the forced cells as the released guide's own fill.sh prints them over the translation 92cd268e27e0086c… (all of the seat's roots in one cut). By AI agents, Wed Nov 11 2026. No macro, syntax, notation, axiom, sorry.
-/
import Derived.Test.YtapfnehdgailmaaGreatChecked
import GoSem.Claim
import GoSem.ClaimJoined
import GoSem.ClaimMapViews
import Derived.JoinedTies
import Derived.KernelRfl
namespace Go.Proofs.YtapfnehdgailmaaGreat
/- THE CELL 'sum', in the pinned program and in every row, IS THE sha256 OF THE DUMP (.gsa) THAT YtapfnehdgailmaaGreatProg.lean LOADS. Nothing in Lean hashes anything: it is a label: what it is worth is what the hold of that sum in a sandbox is worth. -/
noncomputable def Tryz.pinned : Pinned := { name := "ytapfnehdgailmaagreat", sum := "92cd268e27e0086c0ef47dad659a5caf493b01befe9554342530bbc90332967f", checked := Tryz.checked }
namespace Rows
def none {H : Type} : Left H := { results := [], args := [] }

/-- 'satrapylaw5.JournalAnyBytes': WHATEVER THE INPUT: true; the input reads as it did. -/
def journalAnyBytesSpec : ChangeSpec := { name := "journalAnyBytes", fn := fun _ => fun
  | [d1, d2, d3] => { results := [.lit (.bool true)], args := [d1, d2, d3] }
  | _ => none }
def journalAnyBytesRow : OpenClaim := { program := "ytapfnehdgailmaagreat", sum := "92cd268e27e0086c0ef47dad659a5caf493b01befe9554342530bbc90332967f", func := "satrapy/satrapylaw5.JournalAnyBytes", spec := "journalAnyBytes", inPlace := ["internal/bytealg.MakeNoZero"], unfollowed := true, recurses := true, apart := false }
def JournalAnyBytesSaid : Prop := journalAnyBytesRow.holds Tryz.pinned (OpenSpec.ofChange journalAnyBytesSpec)

/-- ITS FALSE NEIGHBOUR: 'it returns false'. Refute it at one input. -/
def journalAnyBytesWrong : ChangeSpec := { name := "journalAnyBytes", fn := fun _ => fun
  | [d1, d2, d3] => { results := [.lit (.bool false)], args := [d1, d2, d3] }
  | _ => none }
def JournalAnyBytesWrongFalsely : Prop := journalAnyBytesRow.holds Tryz.pinned (OpenSpec.ofChange journalAnyBytesWrong)

/-- 'satrapylaw5.JournalGroups': WHATEVER THE INPUT: true; the input reads as it did. -/
def journalGroupsSpec : ChangeSpec := { name := "journalGroups", fn := fun _ => fun
  | [d1, d2] => { results := [.lit (.bool true)], args := [d1, d2] }
  | _ => none }
def journalGroupsRow : OpenClaim := { program := "ytapfnehdgailmaagreat", sum := "92cd268e27e0086c0ef47dad659a5caf493b01befe9554342530bbc90332967f", func := "satrapy/satrapylaw5.JournalGroups", spec := "journalGroups", inPlace := ["internal/bytealg.MakeNoZero"], unfollowed := true, recurses := true, apart := false }
def JournalGroupsSaid : Prop := journalGroupsRow.holds Tryz.pinned (OpenSpec.ofChange journalGroupsSpec)

/-- ITS FALSE NEIGHBOUR: 'it returns false'. Refute it at one input. -/
def journalGroupsWrong : ChangeSpec := { name := "journalGroups", fn := fun _ => fun
  | [d1, d2] => { results := [.lit (.bool false)], args := [d1, d2] }
  | _ => none }
def JournalGroupsWrongFalsely : Prop := journalGroupsRow.holds Tryz.pinned (OpenSpec.ofChange journalGroupsWrong)

/-- 'satrapylaw5.JournalVotes': WHATEVER THE INPUT: true; the input reads as it did. -/
def journalVotesSpec : ChangeSpec := { name := "journalVotes", fn := fun _ => fun
  | [d1, d2] => { results := [.lit (.bool true)], args := [d1, d2] }
  | _ => none }
def journalVotesRow : OpenClaim := { program := "ytapfnehdgailmaagreat", sum := "92cd268e27e0086c0ef47dad659a5caf493b01befe9554342530bbc90332967f", func := "satrapy/satrapylaw5.JournalVotes", spec := "journalVotes", inPlace := ["internal/bytealg.MakeNoZero"], unfollowed := true, recurses := true, apart := false }
def JournalVotesSaid : Prop := journalVotesRow.holds Tryz.pinned (OpenSpec.ofChange journalVotesSpec)

/-- ITS FALSE NEIGHBOUR: 'it returns false'. Refute it at one input. -/
def journalVotesWrong : ChangeSpec := { name := "journalVotes", fn := fun _ => fun
  | [d1, d2] => { results := [.lit (.bool false)], args := [d1, d2] }
  | _ => none }
def JournalVotesWrongFalsely : Prop := journalVotesRow.holds Tryz.pinned (OpenSpec.ofChange journalVotesWrong)

/-- 'satrapylaw5.JournalShrinks': WHATEVER THE INPUT: true; the input reads as it did. -/
def journalShrinksSpec : ChangeSpec := { name := "journalShrinks", fn := fun _ => fun
  | [d1, d2, d3, d4] => { results := [.lit (.bool true)], args := [d1, d2, d3, d4] }
  | _ => none }
def journalShrinksRow : OpenClaim := { program := "ytapfnehdgailmaagreat", sum := "92cd268e27e0086c0ef47dad659a5caf493b01befe9554342530bbc90332967f", func := "satrapy/satrapylaw5.JournalShrinks", spec := "journalShrinks", inPlace := ["internal/bytealg.MakeNoZero"], unfollowed := true, recurses := true, apart := false }
def JournalShrinksSaid : Prop := journalShrinksRow.holds Tryz.pinned (OpenSpec.ofChange journalShrinksSpec)

/-- ITS FALSE NEIGHBOUR: 'it returns false'. Refute it at one input. -/
def journalShrinksWrong : ChangeSpec := { name := "journalShrinks", fn := fun _ => fun
  | [d1, d2, d3, d4] => { results := [.lit (.bool false)], args := [d1, d2, d3, d4] }
  | _ => none }
def JournalShrinksWrongFalsely : Prop := journalShrinksRow.holds Tryz.pinned (OpenSpec.ofChange journalShrinksWrong)

/-- 'satrapylaw5.JournalOfNothing': WHATEVER THE INPUT: true; the input reads as it did. -/
def journalOfNothingSpec : ChangeSpec := { name := "journalOfNothing", fn := fun _ => fun
  | [d1, d2, d3] => { results := [.lit (.bool true)], args := [d1, d2, d3] }
  | _ => none }
def journalOfNothingRow : OpenClaim := { program := "ytapfnehdgailmaagreat", sum := "92cd268e27e0086c0ef47dad659a5caf493b01befe9554342530bbc90332967f", func := "satrapy/satrapylaw5.JournalOfNothing", spec := "journalOfNothing", inPlace := ["internal/bytealg.MakeNoZero"], unfollowed := true, recurses := true, apart := false }
def JournalOfNothingSaid : Prop := journalOfNothingRow.holds Tryz.pinned (OpenSpec.ofChange journalOfNothingSpec)

/-- ITS FALSE NEIGHBOUR: 'it returns false'. Refute it at one input. -/
def journalOfNothingWrong : ChangeSpec := { name := "journalOfNothing", fn := fun _ => fun
  | [d1, d2, d3] => { results := [.lit (.bool false)], args := [d1, d2, d3] }
  | _ => none }
def JournalOfNothingWrongFalsely : Prop := journalOfNothingRow.holds Tryz.pinned (OpenSpec.ofChange journalOfNothingWrong)

/-- 'satrapylaw5.JournalKept': WHATEVER THE INPUT: true; the input reads as it did. -/
def journalKeptSpec : ChangeSpec := { name := "journalKept", fn := fun _ => fun
  | [d1, d2, d3] => { results := [.lit (.bool true)], args := [d1, d2, d3] }
  | _ => none }
def journalKeptRow : OpenClaim := { program := "ytapfnehdgailmaagreat", sum := "92cd268e27e0086c0ef47dad659a5caf493b01befe9554342530bbc90332967f", func := "satrapy/satrapylaw5.JournalKept", spec := "journalKept", inPlace := ["internal/bytealg.MakeNoZero"], unfollowed := true, recurses := true, apart := false }
def JournalKeptSaid : Prop := journalKeptRow.holds Tryz.pinned (OpenSpec.ofChange journalKeptSpec)

/-- ITS FALSE NEIGHBOUR: 'it returns false'. Refute it at one input. -/
def journalKeptWrong : ChangeSpec := { name := "journalKept", fn := fun _ => fun
  | [d1, d2, d3] => { results := [.lit (.bool false)], args := [d1, d2, d3] }
  | _ => none }
def JournalKeptWrongFalsely : Prop := journalKeptRow.holds Tryz.pinned (OpenSpec.ofChange journalKeptWrong)

/-- 'satrapylaw5.JournalTwice': WHATEVER THE INPUT: true; the input reads as it did. -/
def journalTwiceSpec : ChangeSpec := { name := "journalTwice", fn := fun _ => fun
  | [d1, d2, d3, d4, d5] => { results := [.lit (.bool true)], args := [d1, d2, d3, d4, d5] }
  | _ => none }
def journalTwiceRow : OpenClaim := { program := "ytapfnehdgailmaagreat", sum := "92cd268e27e0086c0ef47dad659a5caf493b01befe9554342530bbc90332967f", func := "satrapy/satrapylaw5.JournalTwice", spec := "journalTwice", inPlace := ["internal/bytealg.MakeNoZero"], unfollowed := true, recurses := true, apart := false }
def JournalTwiceSaid : Prop := journalTwiceRow.holds Tryz.pinned (OpenSpec.ofChange journalTwiceSpec)

/-- ITS FALSE NEIGHBOUR: 'it returns false'. Refute it at one input. -/
def journalTwiceWrong : ChangeSpec := { name := "journalTwice", fn := fun _ => fun
  | [d1, d2, d3, d4, d5] => { results := [.lit (.bool false)], args := [d1, d2, d3, d4, d5] }
  | _ => none }
def JournalTwiceWrongFalsely : Prop := journalTwiceRow.holds Tryz.pinned (OpenSpec.ofChange journalTwiceWrong)

/-- 'satrapylaw14.LedgerDisks': WHATEVER THE INPUT: true; the input reads as it did. -/
def ledgerDisksSpec : ChangeSpec := { name := "ledgerDisks", fn := fun _ => fun
  | [d1, d2] => { results := [.lit (.bool true)], args := [d1, d2] }
  | _ => none }
def ledgerDisksRow : OpenClaim := { program := "ytapfnehdgailmaagreat", sum := "92cd268e27e0086c0ef47dad659a5caf493b01befe9554342530bbc90332967f", func := "satrapy/satrapylaw14.LedgerDisks", spec := "ledgerDisks", inPlace := ["internal/bytealg.MakeNoZero"], unfollowed := true, recurses := true, apart := false }
def LedgerDisksSaid : Prop := ledgerDisksRow.holds Tryz.pinned (OpenSpec.ofChange ledgerDisksSpec)

/-- ITS FALSE NEIGHBOUR: 'it returns false'. Refute it at one input. -/
def ledgerDisksWrong : ChangeSpec := { name := "ledgerDisks", fn := fun _ => fun
  | [d1, d2] => { results := [.lit (.bool false)], args := [d1, d2] }
  | _ => none }
def LedgerDisksWrongFalsely : Prop := ledgerDisksRow.holds Tryz.pinned (OpenSpec.ofChange ledgerDisksWrong)

/-- 'satrapylaw14.LedgerPlays': WHATEVER THE INPUT: true; the input reads as it did. -/
def ledgerPlaysSpec : ChangeSpec := { name := "ledgerPlays", fn := fun _ => fun
  | [d] => { results := [.lit (.bool true)], args := [d] }
  | _ => none }
def ledgerPlaysRow : OpenClaim := { program := "ytapfnehdgailmaagreat", sum := "92cd268e27e0086c0ef47dad659a5caf493b01befe9554342530bbc90332967f", func := "satrapy/satrapylaw14.LedgerPlays", spec := "ledgerPlays", inPlace := ["internal/bytealg.MakeNoZero"], unfollowed := true, recurses := true, apart := false }
def LedgerPlaysSaid : Prop := ledgerPlaysRow.holds Tryz.pinned (OpenSpec.ofChange ledgerPlaysSpec)

/-- ITS FALSE NEIGHBOUR: 'it returns false'. Refute it at one input. -/
def ledgerPlaysWrong : ChangeSpec := { name := "ledgerPlays", fn := fun _ => fun
  | [d] => { results := [.lit (.bool false)], args := [d] }
  | _ => none }
def LedgerPlaysWrongFalsely : Prop := ledgerPlaysRow.holds Tryz.pinned (OpenSpec.ofChange ledgerPlaysWrong)

/-- 'satrapylaw5.JournalPlays': WHATEVER THE INPUT: true; the input reads as it did. -/
def journalPlaysSpec : ChangeSpec := { name := "journalPlays", fn := fun _ => fun
  | [d1, d2] => { results := [.lit (.bool true)], args := [d1, d2] }
  | _ => none }
def journalPlaysRow : OpenClaim := { program := "ytapfnehdgailmaagreat", sum := "92cd268e27e0086c0ef47dad659a5caf493b01befe9554342530bbc90332967f", func := "satrapy/satrapylaw5.JournalPlays", spec := "journalPlays", inPlace := ["internal/bytealg.MakeNoZero"], unfollowed := true, recurses := true, apart := false }
def JournalPlaysSaid : Prop := journalPlaysRow.holds Tryz.pinned (OpenSpec.ofChange journalPlaysSpec)

/-- ITS FALSE NEIGHBOUR: 'it returns false'. Refute it at one input. -/
def journalPlaysWrong : ChangeSpec := { name := "journalPlays", fn := fun _ => fun
  | [d1, d2] => { results := [.lit (.bool false)], args := [d1, d2] }
  | _ => none }
def JournalPlaysWrongFalsely : Prop := journalPlaysRow.holds Tryz.pinned (OpenSpec.ofChange journalPlaysWrong)

/- THE SECOND FORM. 'bulk': how many values and letters a reading holds, each counted each time it is reached (what is shared counts as often as it is met; a slice's spare places count too). A statement '..UptoSaid' is the law's where the arguments, and the package variables that the reading takes, are together of bulk at most 1048576: NARROWER than '..Said'. Prove '..Said' where nothing that the law and all that it calls make is longer than what came in: it says more and counts as full. Else prove '..UptoSaid'. A law counts once. -/
mutual
def uptoBulk {H : Type} : DataW H → Nat
  | .lit (.string bytes) => bytes.length + 1
  | .lit _ => 1
  | .nil => 1
  | .ptr d => uptoBulk d + 1
  | .slice elems spare => uptoBulkAll elems + uptoBulkAll spare + 1
  | .agg parts => uptoBulkAll parts + 1
  | .iface _ d => uptoBulk d + 1
  | .map entries => uptoBulkEntries entries + 1
  | .held _ => 1
def uptoBulkAll {H : Type} : List (DataW H) → Nat
  | [] => 0
  | d :: r => uptoBulk d + uptoBulkAll r
def uptoBulkEntries {H : Type} : List (Lit × DataW H) → Nat
  | [] => 0
  | x :: r => uptoBulkEntry x + uptoBulkEntries r
def uptoBulkEntry {H : Type} : Lit × DataW H → Nat
  | (.string bytes, d) => bytes.length + uptoBulk d + 1
  | (_, d) => uptoBulk d + 1
 end
def uptoSmall : (H : Type) → List (DataW H) → Bool := fun _ ds => decide (uptoBulkAll ds ≤ 1048576)
def OpenSpec.upto (s : _root_.Go.ChangeSpec) : _root_.Go.OpenSpec := { _root_.Go.OpenSpec.ofChange s with cond := some uptoSmall }

/-- 'satrapylaw5.JournalAnyBytes', WHERE WHAT IT READS IS OF BULK AT MOST 1048576: true; the input reads as it did. -/
def journalAnyBytesUptoRow : OpenClaim := { program := "ytapfnehdgailmaagreat", sum := "92cd268e27e0086c0ef47dad659a5caf493b01befe9554342530bbc90332967f", func := "satrapy/satrapylaw5.JournalAnyBytes", spec := "journalAnyBytes", inPlace := ["internal/bytealg.MakeNoZero"], unfollowed := true, recurses := true, apart := false, narrowed := true }
def JournalAnyBytesUptoSaid : Prop := journalAnyBytesUptoRow.holds Tryz.pinned (OpenSpec.upto journalAnyBytesSpec)

/-- 'satrapylaw5.JournalGroups', WHERE WHAT IT READS IS OF BULK AT MOST 1048576: true; the input reads as it did. -/
def journalGroupsUptoRow : OpenClaim := { program := "ytapfnehdgailmaagreat", sum := "92cd268e27e0086c0ef47dad659a5caf493b01befe9554342530bbc90332967f", func := "satrapy/satrapylaw5.JournalGroups", spec := "journalGroups", inPlace := ["internal/bytealg.MakeNoZero"], unfollowed := true, recurses := true, apart := false, narrowed := true }
def JournalGroupsUptoSaid : Prop := journalGroupsUptoRow.holds Tryz.pinned (OpenSpec.upto journalGroupsSpec)

/-- 'satrapylaw5.JournalVotes', WHERE WHAT IT READS IS OF BULK AT MOST 1048576: true; the input reads as it did. -/
def journalVotesUptoRow : OpenClaim := { program := "ytapfnehdgailmaagreat", sum := "92cd268e27e0086c0ef47dad659a5caf493b01befe9554342530bbc90332967f", func := "satrapy/satrapylaw5.JournalVotes", spec := "journalVotes", inPlace := ["internal/bytealg.MakeNoZero"], unfollowed := true, recurses := true, apart := false, narrowed := true }
def JournalVotesUptoSaid : Prop := journalVotesUptoRow.holds Tryz.pinned (OpenSpec.upto journalVotesSpec)

/-- 'satrapylaw5.JournalShrinks', WHERE WHAT IT READS IS OF BULK AT MOST 1048576: true; the input reads as it did. -/
def journalShrinksUptoRow : OpenClaim := { program := "ytapfnehdgailmaagreat", sum := "92cd268e27e0086c0ef47dad659a5caf493b01befe9554342530bbc90332967f", func := "satrapy/satrapylaw5.JournalShrinks", spec := "journalShrinks", inPlace := ["internal/bytealg.MakeNoZero"], unfollowed := true, recurses := true, apart := false, narrowed := true }
def JournalShrinksUptoSaid : Prop := journalShrinksUptoRow.holds Tryz.pinned (OpenSpec.upto journalShrinksSpec)

/-- 'satrapylaw5.JournalOfNothing', WHERE WHAT IT READS IS OF BULK AT MOST 1048576: true; the input reads as it did. -/
def journalOfNothingUptoRow : OpenClaim := { program := "ytapfnehdgailmaagreat", sum := "92cd268e27e0086c0ef47dad659a5caf493b01befe9554342530bbc90332967f", func := "satrapy/satrapylaw5.JournalOfNothing", spec := "journalOfNothing", inPlace := ["internal/bytealg.MakeNoZero"], unfollowed := true, recurses := true, apart := false, narrowed := true }
def JournalOfNothingUptoSaid : Prop := journalOfNothingUptoRow.holds Tryz.pinned (OpenSpec.upto journalOfNothingSpec)

/-- 'satrapylaw5.JournalKept', WHERE WHAT IT READS IS OF BULK AT MOST 1048576: true; the input reads as it did. -/
def journalKeptUptoRow : OpenClaim := { program := "ytapfnehdgailmaagreat", sum := "92cd268e27e0086c0ef47dad659a5caf493b01befe9554342530bbc90332967f", func := "satrapy/satrapylaw5.JournalKept", spec := "journalKept", inPlace := ["internal/bytealg.MakeNoZero"], unfollowed := true, recurses := true, apart := false, narrowed := true }
def JournalKeptUptoSaid : Prop := journalKeptUptoRow.holds Tryz.pinned (OpenSpec.upto journalKeptSpec)

/-- 'satrapylaw5.JournalTwice', WHERE WHAT IT READS IS OF BULK AT MOST 1048576: true; the input reads as it did. -/
def journalTwiceUptoRow : OpenClaim := { program := "ytapfnehdgailmaagreat", sum := "92cd268e27e0086c0ef47dad659a5caf493b01befe9554342530bbc90332967f", func := "satrapy/satrapylaw5.JournalTwice", spec := "journalTwice", inPlace := ["internal/bytealg.MakeNoZero"], unfollowed := true, recurses := true, apart := false, narrowed := true }
def JournalTwiceUptoSaid : Prop := journalTwiceUptoRow.holds Tryz.pinned (OpenSpec.upto journalTwiceSpec)

/-- 'satrapylaw14.LedgerDisks', WHERE WHAT IT READS IS OF BULK AT MOST 1048576: true; the input reads as it did. -/
def ledgerDisksUptoRow : OpenClaim := { program := "ytapfnehdgailmaagreat", sum := "92cd268e27e0086c0ef47dad659a5caf493b01befe9554342530bbc90332967f", func := "satrapy/satrapylaw14.LedgerDisks", spec := "ledgerDisks", inPlace := ["internal/bytealg.MakeNoZero"], unfollowed := true, recurses := true, apart := false, narrowed := true }
def LedgerDisksUptoSaid : Prop := ledgerDisksUptoRow.holds Tryz.pinned (OpenSpec.upto ledgerDisksSpec)

/-- 'satrapylaw14.LedgerPlays', WHERE WHAT IT READS IS OF BULK AT MOST 1048576: true; the input reads as it did. -/
def ledgerPlaysUptoRow : OpenClaim := { program := "ytapfnehdgailmaagreat", sum := "92cd268e27e0086c0ef47dad659a5caf493b01befe9554342530bbc90332967f", func := "satrapy/satrapylaw14.LedgerPlays", spec := "ledgerPlays", inPlace := ["internal/bytealg.MakeNoZero"], unfollowed := true, recurses := true, apart := false, narrowed := true }
def LedgerPlaysUptoSaid : Prop := ledgerPlaysUptoRow.holds Tryz.pinned (OpenSpec.upto ledgerPlaysSpec)

/-- 'satrapylaw5.JournalPlays', WHERE WHAT IT READS IS OF BULK AT MOST 1048576: true; the input reads as it did. -/
def journalPlaysUptoRow : OpenClaim := { program := "ytapfnehdgailmaagreat", sum := "92cd268e27e0086c0ef47dad659a5caf493b01befe9554342530bbc90332967f", func := "satrapy/satrapylaw5.JournalPlays", spec := "journalPlays", inPlace := ["internal/bytealg.MakeNoZero"], unfollowed := true, recurses := true, apart := false, narrowed := true }
def JournalPlaysUptoSaid : Prop := journalPlaysUptoRow.holds Tryz.pinned (OpenSpec.upto journalPlaysSpec)

end Rows
end Go.Proofs.YtapfnehdgailmaaGreat
