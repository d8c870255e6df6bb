/-
  No cell of these rows narrows 'for every input' (looked for: loops, veiled, ifaces, maps, wideKeys, modest, calm, conditions, laid).
  DERIVED. THE GIVEN ROWS OF THIS SEAT. 7 by the template 'for every input the law returns true; each argument reads behind the call as it read before'; 0 by the template 'total and deterministic' (their statements: YtffikncbpcnflaaTotals.lean).
  GIVEN WITH THE SEED: the statements are not yours to turn. If you find one false, say at which input.
  Laid BY PROGRAM, IN A SANDBOX (cutbox-rows.mjs): the forced cells as the released guide's own fill.sh prints them over the translation fba0ca151b0ac499… (all of the seat's roots in one cut). By AI agents, Wed Nov 11 2026. No macro, syntax, notation, axiom, sorry.
-/
import Derived.Test.YtffikncbpcnflaaChecked
import GoSem.Claim
import GoSem.ClaimJoined
import GoSem.ClaimMapViews
import Derived.JoinedTies
import Derived.KernelRfl
namespace Go.Proofs.Ytffikncbpcnflaa
/- THE CELL 'sum', in the pinned program and in every row, IS THE sha256 OF THE DUMP (.gsa) THAT YtffikncbpcnflaaProg.lean LOADS. Nothing in Lean hashes anything: it is a label: what it is worth is what the hold of that sum in a sandbox is worth. -/
noncomputable def Try.pinned : Pinned := { name := "ytffikncbpcnflaa", sum := "fba0ca151b0ac49905d9e6ec5fe72498e9917b167baaa3ca2bddc69a364e6bac", checked := Try.checked }
namespace Rows
def none {H : Type} : Left H := { results := [], args := [] }

/-- 'wharfingerlaw08.HandlesGets': WHATEVER THE INPUT: true; the input reads as it did. -/
def handlesGetsSpec : ChangeSpec := { name := "handlesGets", fn := fun _ => fun
  | [d] => { results := [.lit (.bool true)], args := [d] }
  | _ => none }
def handlesGetsRow : OpenClaim := { program := "ytffikncbpcnflaa", sum := "fba0ca151b0ac49905d9e6ec5fe72498e9917b167baaa3ca2bddc69a364e6bac", func := "wharfinger/wharfingerlaw08.HandlesGets", spec := "handlesGets", unfollowed := true, recurses := true, apart := false }
def HandlesGetsSaid : Prop := handlesGetsRow.holds Try.pinned (OpenSpec.ofChange handlesGetsSpec)

/-- ITS FALSE NEIGHBOUR: 'it returns false'. Refute it at one input. -/
def handlesGetsWrong : ChangeSpec := { name := "handlesGets", fn := fun _ => fun
  | [d] => { results := [.lit (.bool false)], args := [d] }
  | _ => none }
def HandlesGetsWrongFalsely : Prop := handlesGetsRow.holds Try.pinned (OpenSpec.ofChange handlesGetsWrong)

/-- 'wharfingerlaw08.HandlesBack': WHATEVER THE INPUT: true; the input reads as it did. -/
def handlesBackSpec : ChangeSpec := { name := "handlesBack", fn := fun _ => fun
  | [d1, d2, d3] => { results := [.lit (.bool true)], args := [d1, d2, d3] }
  | _ => none }
def handlesBackRow : OpenClaim := { program := "ytffikncbpcnflaa", sum := "fba0ca151b0ac49905d9e6ec5fe72498e9917b167baaa3ca2bddc69a364e6bac", func := "wharfinger/wharfingerlaw08.HandlesBack", spec := "handlesBack", unfollowed := true, recurses := true, apart := false }
def HandlesBackSaid : Prop := handlesBackRow.holds Try.pinned (OpenSpec.ofChange handlesBackSpec)

/-- ITS FALSE NEIGHBOUR: 'it returns false'. Refute it at one input. -/
def handlesBackWrong : ChangeSpec := { name := "handlesBack", fn := fun _ => fun
  | [d1, d2, d3] => { results := [.lit (.bool false)], args := [d1, d2, d3] }
  | _ => none }
def HandlesBackWrongFalsely : Prop := handlesBackRow.holds Try.pinned (OpenSpec.ofChange handlesBackWrong)

/-- 'wharfingerlaw08.HandlesSpoils': WHATEVER THE INPUT: true; the input reads as it did. -/
def handlesSpoilsSpec : ChangeSpec := { name := "handlesSpoils", fn := fun _ => fun
  | [d1, d2, d3] => { results := [.lit (.bool true)], args := [d1, d2, d3] }
  | _ => none }
def handlesSpoilsRow : OpenClaim := { program := "ytffikncbpcnflaa", sum := "fba0ca151b0ac49905d9e6ec5fe72498e9917b167baaa3ca2bddc69a364e6bac", func := "wharfinger/wharfingerlaw08.HandlesSpoils", spec := "handlesSpoils", unfollowed := true, recurses := true, apart := false }
def HandlesSpoilsSaid : Prop := handlesSpoilsRow.holds Try.pinned (OpenSpec.ofChange handlesSpoilsSpec)

/-- ITS FALSE NEIGHBOUR: 'it returns false'. Refute it at one input. -/
def handlesSpoilsWrong : ChangeSpec := { name := "handlesSpoils", fn := fun _ => fun
  | [d1, d2, d3] => { results := [.lit (.bool false)], args := [d1, d2, d3] }
  | _ => none }
def HandlesSpoilsWrongFalsely : Prop := handlesSpoilsRow.holds Try.pinned (OpenSpec.ofChange handlesSpoilsWrong)

/-- 'wharfingerlaw08.HandlesAgain': WHATEVER THE INPUT: true; the input reads as it did. -/
def handlesAgainSpec : ChangeSpec := { name := "handlesAgain", fn := fun _ => fun
  | [d] => { results := [.lit (.bool true)], args := [d] }
  | _ => none }
def handlesAgainRow : OpenClaim := { program := "ytffikncbpcnflaa", sum := "fba0ca151b0ac49905d9e6ec5fe72498e9917b167baaa3ca2bddc69a364e6bac", func := "wharfinger/wharfingerlaw08.HandlesAgain", spec := "handlesAgain", unfollowed := true, recurses := true, apart := false }
def HandlesAgainSaid : Prop := handlesAgainRow.holds Try.pinned (OpenSpec.ofChange handlesAgainSpec)

/-- ITS FALSE NEIGHBOUR: 'it returns false'. Refute it at one input. -/
def handlesAgainWrong : ChangeSpec := { name := "handlesAgain", fn := fun _ => fun
  | [d] => { results := [.lit (.bool false)], args := [d] }
  | _ => none }
def HandlesAgainWrongFalsely : Prop := handlesAgainRow.holds Try.pinned (OpenSpec.ofChange handlesAgainWrong)

/-- 'wharfingerlaw08.HandlesParts': WHATEVER THE INPUT: true; the input reads as it did. -/
def handlesPartsSpec : ChangeSpec := { name := "handlesParts", fn := fun _ => fun
  | [d1, d2] => { results := [.lit (.bool true)], args := [d1, d2] }
  | _ => none }
def handlesPartsRow : OpenClaim := { program := "ytffikncbpcnflaa", sum := "fba0ca151b0ac49905d9e6ec5fe72498e9917b167baaa3ca2bddc69a364e6bac", func := "wharfinger/wharfingerlaw08.HandlesParts", spec := "handlesParts", unfollowed := true, recurses := true, apart := false }
def HandlesPartsSaid : Prop := handlesPartsRow.holds Try.pinned (OpenSpec.ofChange handlesPartsSpec)

/-- ITS FALSE NEIGHBOUR: 'it returns false'. Refute it at one input. -/
def handlesPartsWrong : ChangeSpec := { name := "handlesParts", fn := fun _ => fun
  | [d1, d2] => { results := [.lit (.bool false)], args := [d1, d2] }
  | _ => none }
def HandlesPartsWrongFalsely : Prop := handlesPartsRow.holds Try.pinned (OpenSpec.ofChange handlesPartsWrong)

/-- 'wharfingerlaw08.HandlesUnlike': WHATEVER THE INPUT: true; the input reads as it did. -/
def handlesUnlikeSpec : ChangeSpec := { name := "handlesUnlike", fn := fun _ => fun
  | [d1, d2, d3] => { results := [.lit (.bool true)], args := [d1, d2, d3] }
  | _ => none }
def handlesUnlikeRow : OpenClaim := { program := "ytffikncbpcnflaa", sum := "fba0ca151b0ac49905d9e6ec5fe72498e9917b167baaa3ca2bddc69a364e6bac", func := "wharfinger/wharfingerlaw08.HandlesUnlike", spec := "handlesUnlike", unfollowed := true, recurses := true, apart := false }
def HandlesUnlikeSaid : Prop := handlesUnlikeRow.holds Try.pinned (OpenSpec.ofChange handlesUnlikeSpec)

/-- ITS FALSE NEIGHBOUR: 'it returns false'. Refute it at one input. -/
def handlesUnlikeWrong : ChangeSpec := { name := "handlesUnlike", fn := fun _ => fun
  | [d1, d2, d3] => { results := [.lit (.bool false)], args := [d1, d2, d3] }
  | _ => none }
def HandlesUnlikeWrongFalsely : Prop := handlesUnlikeRow.holds Try.pinned (OpenSpec.ofChange handlesUnlikeWrong)

/-- 'wharfingerlaw08.HandlesSum': WHATEVER THE INPUT: true; the input reads as it did. -/
def handlesSumSpec : ChangeSpec := { name := "handlesSum", fn := fun _ => fun
  | [d1, d2, d3] => { results := [.lit (.bool true)], args := [d1, d2, d3] }
  | _ => none }
def handlesSumRow : OpenClaim := { program := "ytffikncbpcnflaa", sum := "fba0ca151b0ac49905d9e6ec5fe72498e9917b167baaa3ca2bddc69a364e6bac", func := "wharfinger/wharfingerlaw08.HandlesSum", spec := "handlesSum", unfollowed := true, recurses := true, apart := false }
def HandlesSumSaid : Prop := handlesSumRow.holds Try.pinned (OpenSpec.ofChange handlesSumSpec)

/-- ITS FALSE NEIGHBOUR: 'it returns false'. Refute it at one input. -/
def handlesSumWrong : ChangeSpec := { name := "handlesSum", fn := fun _ => fun
  | [d1, d2, d3] => { results := [.lit (.bool false)], args := [d1, d2, d3] }
  | _ => none }
def HandlesSumWrongFalsely : Prop := handlesSumRow.holds Try.pinned (OpenSpec.ofChange handlesSumWrong)

/- THE SECOND FORM. 'bulk': how many values and letters a reading holds, each counted each time it is reached (what is shared counts as often as it is met; a slice's spare places count too). A statement '..UptoSaid' is the law's where the arguments, and the package variables that the reading takes, are together of bulk at most 1048576: NARROWER than '..Said'. Prove '..Said' where nothing that the law and all that it calls make is longer than what came in: it says more and counts as full. Else prove '..UptoSaid'. A law counts once. -/
mutual
def uptoBulk {H : Type} : DataW H → Nat
  | .lit (.string bytes) => bytes.length + 1
  | .lit _ => 1
  | .nil => 1
  | .ptr d => uptoBulk d + 1
  | .slice elems spare => uptoBulkAll elems + uptoBulkAll spare + 1
  | .agg parts => uptoBulkAll parts + 1
  | .iface _ d => uptoBulk d + 1
  | .map entries => uptoBulkEntries entries + 1
  | .held _ => 1
def uptoBulkAll {H : Type} : List (DataW H) → Nat
  | [] => 0
  | d :: r => uptoBulk d + uptoBulkAll r
def uptoBulkEntries {H : Type} : List (Lit × DataW H) → Nat
  | [] => 0
  | x :: r => uptoBulkEntry x + uptoBulkEntries r
def uptoBulkEntry {H : Type} : Lit × DataW H → Nat
  | (.string bytes, d) => bytes.length + uptoBulk d + 1
  | (_, d) => uptoBulk d + 1
 end
def uptoSmall : (H : Type) → List (DataW H) → Bool := fun _ ds => decide (uptoBulkAll ds ≤ 1048576)
def OpenSpec.upto (s : _root_.Go.ChangeSpec) : _root_.Go.OpenSpec := { _root_.Go.OpenSpec.ofChange s with cond := some uptoSmall }

/-- 'wharfingerlaw08.HandlesGets', WHERE WHAT IT READS IS OF BULK AT MOST 1048576: true; the input reads as it did. -/
def handlesGetsUptoRow : OpenClaim := { program := "ytffikncbpcnflaa", sum := "fba0ca151b0ac49905d9e6ec5fe72498e9917b167baaa3ca2bddc69a364e6bac", func := "wharfinger/wharfingerlaw08.HandlesGets", spec := "handlesGets", unfollowed := true, recurses := true, apart := false, narrowed := true }
def HandlesGetsUptoSaid : Prop := handlesGetsUptoRow.holds Try.pinned (OpenSpec.upto handlesGetsSpec)

/-- 'wharfingerlaw08.HandlesBack', WHERE WHAT IT READS IS OF BULK AT MOST 1048576: true; the input reads as it did. -/
def handlesBackUptoRow : OpenClaim := { program := "ytffikncbpcnflaa", sum := "fba0ca151b0ac49905d9e6ec5fe72498e9917b167baaa3ca2bddc69a364e6bac", func := "wharfinger/wharfingerlaw08.HandlesBack", spec := "handlesBack", unfollowed := true, recurses := true, apart := false, narrowed := true }
def HandlesBackUptoSaid : Prop := handlesBackUptoRow.holds Try.pinned (OpenSpec.upto handlesBackSpec)

/-- 'wharfingerlaw08.HandlesSpoils', WHERE WHAT IT READS IS OF BULK AT MOST 1048576: true; the input reads as it did. -/
def handlesSpoilsUptoRow : OpenClaim := { program := "ytffikncbpcnflaa", sum := "fba0ca151b0ac49905d9e6ec5fe72498e9917b167baaa3ca2bddc69a364e6bac", func := "wharfinger/wharfingerlaw08.HandlesSpoils", spec := "handlesSpoils", unfollowed := true, recurses := true, apart := false, narrowed := true }
def HandlesSpoilsUptoSaid : Prop := handlesSpoilsUptoRow.holds Try.pinned (OpenSpec.upto handlesSpoilsSpec)

/-- 'wharfingerlaw08.HandlesAgain', WHERE WHAT IT READS IS OF BULK AT MOST 1048576: true; the input reads as it did. -/
def handlesAgainUptoRow : OpenClaim := { program := "ytffikncbpcnflaa", sum := "fba0ca151b0ac49905d9e6ec5fe72498e9917b167baaa3ca2bddc69a364e6bac", func := "wharfinger/wharfingerlaw08.HandlesAgain", spec := "handlesAgain", unfollowed := true, recurses := true, apart := false, narrowed := true }
def HandlesAgainUptoSaid : Prop := handlesAgainUptoRow.holds Try.pinned (OpenSpec.upto handlesAgainSpec)

/-- 'wharfingerlaw08.HandlesParts', WHERE WHAT IT READS IS OF BULK AT MOST 1048576: true; the input reads as it did. -/
def handlesPartsUptoRow : OpenClaim := { program := "ytffikncbpcnflaa", sum := "fba0ca151b0ac49905d9e6ec5fe72498e9917b167baaa3ca2bddc69a364e6bac", func := "wharfinger/wharfingerlaw08.HandlesParts", spec := "handlesParts", unfollowed := true, recurses := true, apart := false, narrowed := true }
def HandlesPartsUptoSaid : Prop := handlesPartsUptoRow.holds Try.pinned (OpenSpec.upto handlesPartsSpec)

/-- 'wharfingerlaw08.HandlesUnlike', WHERE WHAT IT READS IS OF BULK AT MOST 1048576: true; the input reads as it did. -/
def handlesUnlikeUptoRow : OpenClaim := { program := "ytffikncbpcnflaa", sum := "fba0ca151b0ac49905d9e6ec5fe72498e9917b167baaa3ca2bddc69a364e6bac", func := "wharfinger/wharfingerlaw08.HandlesUnlike", spec := "handlesUnlike", unfollowed := true, recurses := true, apart := false, narrowed := true }
def HandlesUnlikeUptoSaid : Prop := handlesUnlikeUptoRow.holds Try.pinned (OpenSpec.upto handlesUnlikeSpec)

/-- 'wharfingerlaw08.HandlesSum', WHERE WHAT IT READS IS OF BULK AT MOST 1048576: true; the input reads as it did. -/
def handlesSumUptoRow : OpenClaim := { program := "ytffikncbpcnflaa", sum := "fba0ca151b0ac49905d9e6ec5fe72498e9917b167baaa3ca2bddc69a364e6bac", func := "wharfinger/wharfingerlaw08.HandlesSum", spec := "handlesSum", unfollowed := true, recurses := true, apart := false, narrowed := true }
def HandlesSumUptoSaid : Prop := handlesSumUptoRow.holds Try.pinned (OpenSpec.upto handlesSumSpec)

end Rows
end Go.Proofs.Ytffikncbpcnflaa
