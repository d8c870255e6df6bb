/-
  No cell of these rows narrows 'for every input' (looked for: loops, veiled, ifaces, maps, wideKeys, modest, calm, conditions, laid).
  DERIVED. THE GIVEN ROWS OF THIS SEAT. 8 by the template 'for every input the law returns true; each argument reads behind the call as it read before'; 0 by the template 'total and deterministic' (their statements: YtofbcflnkmocjaaTotals.lean).
  GIVEN WITH THE SEED: the statements are not yours to turn. If you find one false, say at which input.
  Laid BY PROGRAM, IN A SANDBOX (cutbox-rows.mjs): the forced cells as the released guide's own fill.sh prints them over the translation 8cdf6a8ef9942562… (all of the seat's roots in one cut). By AI agents, Wed Nov 11 2026. No macro, syntax, notation, axiom, sorry.
-/
import Derived.Test.YtofbcflnkmocjaaChecked
import GoSem.Claim
import GoSem.ClaimJoined
import GoSem.ClaimMapViews
import Derived.JoinedTies
import Derived.KernelRfl
namespace Go.Proofs.Ytofbcflnkmocjaa
/- THE CELL 'sum', in the pinned program and in every row, IS THE sha256 OF THE DUMP (.gsa) THAT YtofbcflnkmocjaaProg.lean LOADS. Nothing in Lean hashes anything: it is a label: what it is worth is what the hold of that sum in a sandbox is worth. -/
noncomputable def Try.pinned : Pinned := { name := "ytofbcflnkmocjaa", sum := "8cdf6a8ef9942562ecdba2281ae41749f716c80487e0e4abc4e47e0162423079", checked := Try.checked }
namespace Rows
def none {H : Type} : Left H := { results := [], args := [] }

/-- 'wharfingerlaw09.TimesLess': WHATEVER THE INPUT: true; the input reads as it did. -/
def timesLessSpec : ChangeSpec := { name := "timesLess", fn := fun _ => fun
  | [d1, d2] => { results := [.lit (.bool true)], args := [d1, d2] }
  | _ => none }
def timesLessRow : OpenClaim := { program := "ytofbcflnkmocjaa", sum := "8cdf6a8ef9942562ecdba2281ae41749f716c80487e0e4abc4e47e0162423079", func := "wharfinger/wharfingerlaw09.TimesLess", spec := "timesLess", apart := false }
def TimesLessSaid : Prop := timesLessRow.holds Try.pinned (OpenSpec.ofChange timesLessSpec)

/-- ITS FALSE NEIGHBOUR: 'it returns false'. Refute it at one input. -/
def timesLessWrong : ChangeSpec := { name := "timesLess", fn := fun _ => fun
  | [d1, d2] => { results := [.lit (.bool false)], args := [d1, d2] }
  | _ => none }
def TimesLessWrongFalsely : Prop := timesLessRow.holds Try.pinned (OpenSpec.ofChange timesLessWrong)

/-- 'wharfingerlaw09.TimesAdds': WHATEVER THE INPUT: true; the input reads as it did. -/
def timesAddsSpec : ChangeSpec := { name := "timesAdds", fn := fun _ => fun
  | [d1, d2] => { results := [.lit (.bool true)], args := [d1, d2] }
  | _ => none }
def timesAddsRow : OpenClaim := { program := "ytofbcflnkmocjaa", sum := "8cdf6a8ef9942562ecdba2281ae41749f716c80487e0e4abc4e47e0162423079", func := "wharfinger/wharfingerlaw09.TimesAdds", spec := "timesAdds", unfollowed := true, recurses := true, apart := false }
def TimesAddsSaid : Prop := timesAddsRow.holds Try.pinned (OpenSpec.ofChange timesAddsSpec)

/-- ITS FALSE NEIGHBOUR: 'it returns false'. Refute it at one input. -/
def timesAddsWrong : ChangeSpec := { name := "timesAdds", fn := fun _ => fun
  | [d1, d2] => { results := [.lit (.bool false)], args := [d1, d2] }
  | _ => none }
def TimesAddsWrongFalsely : Prop := timesAddsRow.holds Try.pinned (OpenSpec.ofChange timesAddsWrong)

/-- 'wharfingerlaw09.TimesBack': WHATEVER THE INPUT: true; the input reads as it did. -/
def timesBackSpec : ChangeSpec := { name := "timesBack", fn := fun _ => fun
  | [d1, d2, d3] => { results := [.lit (.bool true)], args := [d1, d2, d3] }
  | _ => none }
def timesBackRow : OpenClaim := { program := "ytofbcflnkmocjaa", sum := "8cdf6a8ef9942562ecdba2281ae41749f716c80487e0e4abc4e47e0162423079", func := "wharfinger/wharfingerlaw09.TimesBack", spec := "timesBack", unfollowed := true, recurses := true, apart := false }
def TimesBackSaid : Prop := timesBackRow.holds Try.pinned (OpenSpec.ofChange timesBackSpec)

/-- ITS FALSE NEIGHBOUR: 'it returns false'. Refute it at one input. -/
def timesBackWrong : ChangeSpec := { name := "timesBack", fn := fun _ => fun
  | [d1, d2, d3] => { results := [.lit (.bool false)], args := [d1, d2, d3] }
  | _ => none }
def TimesBackWrongFalsely : Prop := timesBackRow.holds Try.pinned (OpenSpec.ofChange timesBackWrong)

/-- 'wharfingerlaw09.TimesOrder': WHATEVER THE INPUT: true; the input reads as it did. -/
def timesOrderSpec : ChangeSpec := { name := "timesOrder", fn := fun _ => fun
  | [d1, d2, d3] => { results := [.lit (.bool true)], args := [d1, d2, d3] }
  | _ => none }
def timesOrderRow : OpenClaim := { program := "ytofbcflnkmocjaa", sum := "8cdf6a8ef9942562ecdba2281ae41749f716c80487e0e4abc4e47e0162423079", func := "wharfinger/wharfingerlaw09.TimesOrder", spec := "timesOrder", unfollowed := true, recurses := true, apart := false }
def TimesOrderSaid : Prop := timesOrderRow.holds Try.pinned (OpenSpec.ofChange timesOrderSpec)

/-- ITS FALSE NEIGHBOUR: 'it returns false'. Refute it at one input. -/
def timesOrderWrong : ChangeSpec := { name := "timesOrder", fn := fun _ => fun
  | [d1, d2, d3] => { results := [.lit (.bool false)], args := [d1, d2, d3] }
  | _ => none }
def TimesOrderWrongFalsely : Prop := timesOrderRow.holds Try.pinned (OpenSpec.ofChange timesOrderWrong)

/-- 'wharfingerlaw09.TimesSteps': WHATEVER THE INPUT: true; the input reads as it did. -/
def timesStepsSpec : ChangeSpec := { name := "timesSteps", fn := fun _ => fun
  | [d1, d2, d3] => { results := [.lit (.bool true)], args := [d1, d2, d3] }
  | _ => none }
def timesStepsRow : OpenClaim := { program := "ytofbcflnkmocjaa", sum := "8cdf6a8ef9942562ecdba2281ae41749f716c80487e0e4abc4e47e0162423079", func := "wharfinger/wharfingerlaw09.TimesSteps", spec := "timesSteps", unfollowed := true, recurses := true, apart := false }
def TimesStepsSaid : Prop := timesStepsRow.holds Try.pinned (OpenSpec.ofChange timesStepsSpec)

/-- ITS FALSE NEIGHBOUR: 'it returns false'. Refute it at one input. -/
def timesStepsWrong : ChangeSpec := { name := "timesSteps", fn := fun _ => fun
  | [d1, d2, d3] => { results := [.lit (.bool false)], args := [d1, d2, d3] }
  | _ => none }
def TimesStepsWrongFalsely : Prop := timesStepsRow.holds Try.pinned (OpenSpec.ofChange timesStepsWrong)

/-- 'wharfingerlaw09.TimesLater': WHATEVER THE INPUT: true; the input reads as it did. -/
def timesLaterSpec : ChangeSpec := { name := "timesLater", fn := fun _ => fun
  | [d1, d2, d3] => { results := [.lit (.bool true)], args := [d1, d2, d3] }
  | _ => none }
def timesLaterRow : OpenClaim := { program := "ytofbcflnkmocjaa", sum := "8cdf6a8ef9942562ecdba2281ae41749f716c80487e0e4abc4e47e0162423079", func := "wharfinger/wharfingerlaw09.TimesLater", spec := "timesLater", unfollowed := true, recurses := true, apart := false }
def TimesLaterSaid : Prop := timesLaterRow.holds Try.pinned (OpenSpec.ofChange timesLaterSpec)

/-- ITS FALSE NEIGHBOUR: 'it returns false'. Refute it at one input. -/
def timesLaterWrong : ChangeSpec := { name := "timesLater", fn := fun _ => fun
  | [d1, d2, d3] => { results := [.lit (.bool false)], args := [d1, d2, d3] }
  | _ => none }
def TimesLaterWrongFalsely : Prop := timesLaterRow.holds Try.pinned (OpenSpec.ofChange timesLaterWrong)

/-- 'wharfingerlaw09.TimesWhole': WHATEVER THE INPUT: true; the input reads as it did. -/
def timesWholeSpec : ChangeSpec := { name := "timesWhole", fn := fun _ => fun
  | [d1, d2, d3] => { results := [.lit (.bool true)], args := [d1, d2, d3] }
  | _ => none }
def timesWholeRow : OpenClaim := { program := "ytofbcflnkmocjaa", sum := "8cdf6a8ef9942562ecdba2281ae41749f716c80487e0e4abc4e47e0162423079", func := "wharfinger/wharfingerlaw09.TimesWhole", spec := "timesWhole", unfollowed := true, recurses := true, apart := false }
def TimesWholeSaid : Prop := timesWholeRow.holds Try.pinned (OpenSpec.ofChange timesWholeSpec)

/-- ITS FALSE NEIGHBOUR: 'it returns false'. Refute it at one input. -/
def timesWholeWrong : ChangeSpec := { name := "timesWhole", fn := fun _ => fun
  | [d1, d2, d3] => { results := [.lit (.bool false)], args := [d1, d2, d3] }
  | _ => none }
def TimesWholeWrongFalsely : Prop := timesWholeRow.holds Try.pinned (OpenSpec.ofChange timesWholeWrong)

/-- 'wharfingerlaw09.TimesBytes': WHATEVER THE INPUT: true; the input reads as it did. -/
def timesBytesSpec : ChangeSpec := { name := "timesBytes", fn := fun _ => fun
  | [d1, d2] => { results := [.lit (.bool true)], args := [d1, d2] }
  | _ => none }
def timesBytesRow : OpenClaim := { program := "ytofbcflnkmocjaa", sum := "8cdf6a8ef9942562ecdba2281ae41749f716c80487e0e4abc4e47e0162423079", func := "wharfinger/wharfingerlaw09.TimesBytes", spec := "timesBytes", unfollowed := true, recurses := true, apart := false }
def TimesBytesSaid : Prop := timesBytesRow.holds Try.pinned (OpenSpec.ofChange timesBytesSpec)

/-- ITS FALSE NEIGHBOUR: 'it returns false'. Refute it at one input. -/
def timesBytesWrong : ChangeSpec := { name := "timesBytes", fn := fun _ => fun
  | [d1, d2] => { results := [.lit (.bool false)], args := [d1, d2] }
  | _ => none }
def TimesBytesWrongFalsely : Prop := timesBytesRow.holds Try.pinned (OpenSpec.ofChange timesBytesWrong)

/- THE SECOND FORM. 'bulk': how many values and letters a reading holds, each counted each time it is reached (what is shared counts as often as it is met; a slice's spare places count too). A statement '..UptoSaid' is the law's where the arguments, and the package variables that the reading takes, are together of bulk at most 1048576: NARROWER than '..Said'. Prove '..Said' where nothing that the law and all that it calls make is longer than what came in: it says more and counts as full. Else prove '..UptoSaid'. A law counts once. -/
mutual
def uptoBulk {H : Type} : DataW H → Nat
  | .lit (.string bytes) => bytes.length + 1
  | .lit _ => 1
  | .nil => 1
  | .ptr d => uptoBulk d + 1
  | .slice elems spare => uptoBulkAll elems + uptoBulkAll spare + 1
  | .agg parts => uptoBulkAll parts + 1
  | .iface _ d => uptoBulk d + 1
  | .map entries => uptoBulkEntries entries + 1
  | .held _ => 1
def uptoBulkAll {H : Type} : List (DataW H) → Nat
  | [] => 0
  | d :: r => uptoBulk d + uptoBulkAll r
def uptoBulkEntries {H : Type} : List (Lit × DataW H) → Nat
  | [] => 0
  | x :: r => uptoBulkEntry x + uptoBulkEntries r
def uptoBulkEntry {H : Type} : Lit × DataW H → Nat
  | (.string bytes, d) => bytes.length + uptoBulk d + 1
  | (_, d) => uptoBulk d + 1
 end
def uptoSmall : (H : Type) → List (DataW H) → Bool := fun _ ds => decide (uptoBulkAll ds ≤ 1048576)
def OpenSpec.upto (s : _root_.Go.ChangeSpec) : _root_.Go.OpenSpec := { _root_.Go.OpenSpec.ofChange s with cond := some uptoSmall }

/-- 'wharfingerlaw09.TimesLess', WHERE WHAT IT READS IS OF BULK AT MOST 1048576: true; the input reads as it did. -/
def timesLessUptoRow : OpenClaim := { program := "ytofbcflnkmocjaa", sum := "8cdf6a8ef9942562ecdba2281ae41749f716c80487e0e4abc4e47e0162423079", func := "wharfinger/wharfingerlaw09.TimesLess", spec := "timesLess", apart := false, narrowed := true }
def TimesLessUptoSaid : Prop := timesLessUptoRow.holds Try.pinned (OpenSpec.upto timesLessSpec)

/-- 'wharfingerlaw09.TimesAdds', WHERE WHAT IT READS IS OF BULK AT MOST 1048576: true; the input reads as it did. -/
def timesAddsUptoRow : OpenClaim := { program := "ytofbcflnkmocjaa", sum := "8cdf6a8ef9942562ecdba2281ae41749f716c80487e0e4abc4e47e0162423079", func := "wharfinger/wharfingerlaw09.TimesAdds", spec := "timesAdds", unfollowed := true, recurses := true, apart := false, narrowed := true }
def TimesAddsUptoSaid : Prop := timesAddsUptoRow.holds Try.pinned (OpenSpec.upto timesAddsSpec)

/-- 'wharfingerlaw09.TimesBack', WHERE WHAT IT READS IS OF BULK AT MOST 1048576: true; the input reads as it did. -/
def timesBackUptoRow : OpenClaim := { program := "ytofbcflnkmocjaa", sum := "8cdf6a8ef9942562ecdba2281ae41749f716c80487e0e4abc4e47e0162423079", func := "wharfinger/wharfingerlaw09.TimesBack", spec := "timesBack", unfollowed := true, recurses := true, apart := false, narrowed := true }
def TimesBackUptoSaid : Prop := timesBackUptoRow.holds Try.pinned (OpenSpec.upto timesBackSpec)

/-- 'wharfingerlaw09.TimesOrder', WHERE WHAT IT READS IS OF BULK AT MOST 1048576: true; the input reads as it did. -/
def timesOrderUptoRow : OpenClaim := { program := "ytofbcflnkmocjaa", sum := "8cdf6a8ef9942562ecdba2281ae41749f716c80487e0e4abc4e47e0162423079", func := "wharfinger/wharfingerlaw09.TimesOrder", spec := "timesOrder", unfollowed := true, recurses := true, apart := false, narrowed := true }
def TimesOrderUptoSaid : Prop := timesOrderUptoRow.holds Try.pinned (OpenSpec.upto timesOrderSpec)

/-- 'wharfingerlaw09.TimesSteps', WHERE WHAT IT READS IS OF BULK AT MOST 1048576: true; the input reads as it did. -/
def timesStepsUptoRow : OpenClaim := { program := "ytofbcflnkmocjaa", sum := "8cdf6a8ef9942562ecdba2281ae41749f716c80487e0e4abc4e47e0162423079", func := "wharfinger/wharfingerlaw09.TimesSteps", spec := "timesSteps", unfollowed := true, recurses := true, apart := false, narrowed := true }
def TimesStepsUptoSaid : Prop := timesStepsUptoRow.holds Try.pinned (OpenSpec.upto timesStepsSpec)

/-- 'wharfingerlaw09.TimesLater', WHERE WHAT IT READS IS OF BULK AT MOST 1048576: true; the input reads as it did. -/
def timesLaterUptoRow : OpenClaim := { program := "ytofbcflnkmocjaa", sum := "8cdf6a8ef9942562ecdba2281ae41749f716c80487e0e4abc4e47e0162423079", func := "wharfinger/wharfingerlaw09.TimesLater", spec := "timesLater", unfollowed := true, recurses := true, apart := false, narrowed := true }
def TimesLaterUptoSaid : Prop := timesLaterUptoRow.holds Try.pinned (OpenSpec.upto timesLaterSpec)

/-- 'wharfingerlaw09.TimesWhole', WHERE WHAT IT READS IS OF BULK AT MOST 1048576: true; the input reads as it did. -/
def timesWholeUptoRow : OpenClaim := { program := "ytofbcflnkmocjaa", sum := "8cdf6a8ef9942562ecdba2281ae41749f716c80487e0e4abc4e47e0162423079", func := "wharfinger/wharfingerlaw09.TimesWhole", spec := "timesWhole", unfollowed := true, recurses := true, apart := false, narrowed := true }
def TimesWholeUptoSaid : Prop := timesWholeUptoRow.holds Try.pinned (OpenSpec.upto timesWholeSpec)

/-- 'wharfingerlaw09.TimesBytes', WHERE WHAT IT READS IS OF BULK AT MOST 1048576: true; the input reads as it did. -/
def timesBytesUptoRow : OpenClaim := { program := "ytofbcflnkmocjaa", sum := "8cdf6a8ef9942562ecdba2281ae41749f716c80487e0e4abc4e47e0162423079", func := "wharfinger/wharfingerlaw09.TimesBytes", spec := "timesBytes", unfollowed := true, recurses := true, apart := false, narrowed := true }
def TimesBytesUptoSaid : Prop := timesBytesUptoRow.holds Try.pinned (OpenSpec.upto timesBytesSpec)

end Rows
end Go.Proofs.Ytofbcflnkmocjaa
