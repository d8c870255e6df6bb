/-
  No cell of these rows narrows 'for every input' (looked for: loops, veiled, ifaces, maps, wideKeys, modest, calm, conditions, laid).
  DERIVED. THE GIVEN ROWS OF THIS SEAT. 5 by the template 'for every input the law returns true; each argument reads behind the call as it read before'; 0 by the template 'total and deterministic' (their statements: YtikkcoidepfgmaaTotals.lean).
  GIVEN WITH THE SEED: the statements are not yours to turn. If you find one false, say at which input.
  Laid BY PROGRAM, IN A SANDBOX (cutbox-rows.mjs): the forced cells as the released guide's own fill.sh prints them over the translation 74781a6122602be7… (all of the seat's roots in one cut). By AI agents, Wed Nov 11 2026. No macro, syntax, notation, axiom, sorry.
-/
import Derived.Test.YtikkcoidepfgmaaChecked
import GoSem.Claim
import GoSem.ClaimJoined
import GoSem.ClaimMapViews
import Derived.JoinedTies
import Derived.KernelRfl
namespace Go.Proofs.Ytikkcoidepfgmaa
/- THE CELL 'sum', in the pinned program and in every row, IS THE sha256 OF THE DUMP (.gsa) THAT YtikkcoidepfgmaaProg.lean LOADS. Nothing in Lean hashes anything: it is a label: what it is worth is what the hold of that sum in a sandbox is worth. -/
noncomputable def Try.pinned : Pinned := { name := "ytikkcoidepfgmaa", sum := "74781a6122602be773acc5189d307141d6c9e2b55ac1c2544470a80bf6f55496", checked := Try.checked }
namespace Rows
def none {H : Type} : Left H := { results := [], args := [] }

/-- 'wharfingerlaw07.RepliesBack': WHATEVER THE INPUT: true; the input reads as it did. -/
def repliesBackSpec : ChangeSpec := { name := "repliesBack", fn := fun _ => fun
  | [d] => { results := [.lit (.bool true)], args := [d] }
  | _ => none }
def repliesBackRow : OpenClaim := { program := "ytikkcoidepfgmaa", sum := "74781a6122602be773acc5189d307141d6c9e2b55ac1c2544470a80bf6f55496", func := "wharfinger/wharfingerlaw07.RepliesBack", spec := "repliesBack", unfollowed := true, recurses := true, apart := false }
def RepliesBackSaid : Prop := repliesBackRow.holds Try.pinned (OpenSpec.ofChange repliesBackSpec)

/-- ITS FALSE NEIGHBOUR: 'it returns false'. Refute it at one input. -/
def repliesBackWrong : ChangeSpec := { name := "repliesBack", fn := fun _ => fun
  | [d] => { results := [.lit (.bool false)], args := [d] }
  | _ => none }
def RepliesBackWrongFalsely : Prop := repliesBackRow.holds Try.pinned (OpenSpec.ofChange repliesBackWrong)

/-- 'wharfingerlaw07.RepliesAgain': WHATEVER THE INPUT: true; the input reads as it did. -/
def repliesAgainSpec : ChangeSpec := { name := "repliesAgain", fn := fun _ => fun
  | [d] => { results := [.lit (.bool true)], args := [d] }
  | _ => none }
def repliesAgainRow : OpenClaim := { program := "ytikkcoidepfgmaa", sum := "74781a6122602be773acc5189d307141d6c9e2b55ac1c2544470a80bf6f55496", func := "wharfinger/wharfingerlaw07.RepliesAgain", spec := "repliesAgain", unfollowed := true, recurses := true, apart := false }
def RepliesAgainSaid : Prop := repliesAgainRow.holds Try.pinned (OpenSpec.ofChange repliesAgainSpec)

/-- ITS FALSE NEIGHBOUR: 'it returns false'. Refute it at one input. -/
def repliesAgainWrong : ChangeSpec := { name := "repliesAgain", fn := fun _ => fun
  | [d] => { results := [.lit (.bool false)], args := [d] }
  | _ => none }
def RepliesAgainWrongFalsely : Prop := repliesAgainRow.holds Try.pinned (OpenSpec.ofChange repliesAgainWrong)

/-- 'wharfingerlaw07.RepliesRows': WHATEVER THE INPUT: true; the input reads as it did. -/
def repliesRowsSpec : ChangeSpec := { name := "repliesRows", fn := fun _ => fun
  | [d1, d2, d3] => { results := [.lit (.bool true)], args := [d1, d2, d3] }
  | _ => none }
def repliesRowsRow : OpenClaim := { program := "ytikkcoidepfgmaa", sum := "74781a6122602be773acc5189d307141d6c9e2b55ac1c2544470a80bf6f55496", func := "wharfinger/wharfingerlaw07.RepliesRows", spec := "repliesRows", unfollowed := true, recurses := true, apart := false }
def RepliesRowsSaid : Prop := repliesRowsRow.holds Try.pinned (OpenSpec.ofChange repliesRowsSpec)

/-- ITS FALSE NEIGHBOUR: 'it returns false'. Refute it at one input. -/
def repliesRowsWrong : ChangeSpec := { name := "repliesRows", fn := fun _ => fun
  | [d1, d2, d3] => { results := [.lit (.bool false)], args := [d1, d2, d3] }
  | _ => none }
def RepliesRowsWrongFalsely : Prop := repliesRowsRow.holds Try.pinned (OpenSpec.ofChange repliesRowsWrong)

/-- 'wharfingerlaw07.RepliesOdd': WHATEVER THE INPUT: true; the input reads as it did. -/
def repliesOddSpec : ChangeSpec := { name := "repliesOdd", fn := fun _ => fun
  | [d] => { results := [.lit (.bool true)], args := [d] }
  | _ => none }
def repliesOddRow : OpenClaim := { program := "ytikkcoidepfgmaa", sum := "74781a6122602be773acc5189d307141d6c9e2b55ac1c2544470a80bf6f55496", func := "wharfinger/wharfingerlaw07.RepliesOdd", spec := "repliesOdd", unfollowed := true, recurses := true, apart := false }
def RepliesOddSaid : Prop := repliesOddRow.holds Try.pinned (OpenSpec.ofChange repliesOddSpec)

/-- ITS FALSE NEIGHBOUR: 'it returns false'. Refute it at one input. -/
def repliesOddWrong : ChangeSpec := { name := "repliesOdd", fn := fun _ => fun
  | [d] => { results := [.lit (.bool false)], args := [d] }
  | _ => none }
def RepliesOddWrongFalsely : Prop := repliesOddRow.holds Try.pinned (OpenSpec.ofChange repliesOddWrong)

/-- 'wharfingerlaw07.RepliesBody': WHATEVER THE INPUT: true; the input reads as it did. -/
def repliesBodySpec : ChangeSpec := { name := "repliesBody", fn := fun _ => fun
  | [d1, d2] => { results := [.lit (.bool true)], args := [d1, d2] }
  | _ => none }
def repliesBodyRow : OpenClaim := { program := "ytikkcoidepfgmaa", sum := "74781a6122602be773acc5189d307141d6c9e2b55ac1c2544470a80bf6f55496", func := "wharfinger/wharfingerlaw07.RepliesBody", spec := "repliesBody", unfollowed := true, recurses := true, apart := false }
def RepliesBodySaid : Prop := repliesBodyRow.holds Try.pinned (OpenSpec.ofChange repliesBodySpec)

/-- ITS FALSE NEIGHBOUR: 'it returns false'. Refute it at one input. -/
def repliesBodyWrong : ChangeSpec := { name := "repliesBody", fn := fun _ => fun
  | [d1, d2] => { results := [.lit (.bool false)], args := [d1, d2] }
  | _ => none }
def RepliesBodyWrongFalsely : Prop := repliesBodyRow.holds Try.pinned (OpenSpec.ofChange repliesBodyWrong)

/- THE SECOND FORM. 'bulk': how many values and letters a reading holds, each counted each time it is reached (what is shared counts as often as it is met; a slice's spare places count too). A statement '..UptoSaid' is the law's where the arguments, and the package variables that the reading takes, are together of bulk at most 1048576: NARROWER than '..Said'. Prove '..Said' where nothing that the law and all that it calls make is longer than what came in: it says more and counts as full. Else prove '..UptoSaid'. A law counts once. -/
mutual
def uptoBulk {H : Type} : DataW H → Nat
  | .lit (.string bytes) => bytes.length + 1
  | .lit _ => 1
  | .nil => 1
  | .ptr d => uptoBulk d + 1
  | .slice elems spare => uptoBulkAll elems + uptoBulkAll spare + 1
  | .agg parts => uptoBulkAll parts + 1
  | .iface _ d => uptoBulk d + 1
  | .map entries => uptoBulkEntries entries + 1
  | .held _ => 1
def uptoBulkAll {H : Type} : List (DataW H) → Nat
  | [] => 0
  | d :: r => uptoBulk d + uptoBulkAll r
def uptoBulkEntries {H : Type} : List (Lit × DataW H) → Nat
  | [] => 0
  | x :: r => uptoBulkEntry x + uptoBulkEntries r
def uptoBulkEntry {H : Type} : Lit × DataW H → Nat
  | (.string bytes, d) => bytes.length + uptoBulk d + 1
  | (_, d) => uptoBulk d + 1
 end
def uptoSmall : (H : Type) → List (DataW H) → Bool := fun _ ds => decide (uptoBulkAll ds ≤ 1048576)
def OpenSpec.upto (s : _root_.Go.ChangeSpec) : _root_.Go.OpenSpec := { _root_.Go.OpenSpec.ofChange s with cond := some uptoSmall }

/-- 'wharfingerlaw07.RepliesBack', WHERE WHAT IT READS IS OF BULK AT MOST 1048576: true; the input reads as it did. -/
def repliesBackUptoRow : OpenClaim := { program := "ytikkcoidepfgmaa", sum := "74781a6122602be773acc5189d307141d6c9e2b55ac1c2544470a80bf6f55496", func := "wharfinger/wharfingerlaw07.RepliesBack", spec := "repliesBack", unfollowed := true, recurses := true, apart := false, narrowed := true }
def RepliesBackUptoSaid : Prop := repliesBackUptoRow.holds Try.pinned (OpenSpec.upto repliesBackSpec)

/-- 'wharfingerlaw07.RepliesAgain', WHERE WHAT IT READS IS OF BULK AT MOST 1048576: true; the input reads as it did. -/
def repliesAgainUptoRow : OpenClaim := { program := "ytikkcoidepfgmaa", sum := "74781a6122602be773acc5189d307141d6c9e2b55ac1c2544470a80bf6f55496", func := "wharfinger/wharfingerlaw07.RepliesAgain", spec := "repliesAgain", unfollowed := true, recurses := true, apart := false, narrowed := true }
def RepliesAgainUptoSaid : Prop := repliesAgainUptoRow.holds Try.pinned (OpenSpec.upto repliesAgainSpec)

/-- 'wharfingerlaw07.RepliesRows', WHERE WHAT IT READS IS OF BULK AT MOST 1048576: true; the input reads as it did. -/
def repliesRowsUptoRow : OpenClaim := { program := "ytikkcoidepfgmaa", sum := "74781a6122602be773acc5189d307141d6c9e2b55ac1c2544470a80bf6f55496", func := "wharfinger/wharfingerlaw07.RepliesRows", spec := "repliesRows", unfollowed := true, recurses := true, apart := false, narrowed := true }
def RepliesRowsUptoSaid : Prop := repliesRowsUptoRow.holds Try.pinned (OpenSpec.upto repliesRowsSpec)

/-- 'wharfingerlaw07.RepliesOdd', WHERE WHAT IT READS IS OF BULK AT MOST 1048576: true; the input reads as it did. -/
def repliesOddUptoRow : OpenClaim := { program := "ytikkcoidepfgmaa", sum := "74781a6122602be773acc5189d307141d6c9e2b55ac1c2544470a80bf6f55496", func := "wharfinger/wharfingerlaw07.RepliesOdd", spec := "repliesOdd", unfollowed := true, recurses := true, apart := false, narrowed := true }
def RepliesOddUptoSaid : Prop := repliesOddUptoRow.holds Try.pinned (OpenSpec.upto repliesOddSpec)

/-- 'wharfingerlaw07.RepliesBody', WHERE WHAT IT READS IS OF BULK AT MOST 1048576: true; the input reads as it did. -/
def repliesBodyUptoRow : OpenClaim := { program := "ytikkcoidepfgmaa", sum := "74781a6122602be773acc5189d307141d6c9e2b55ac1c2544470a80bf6f55496", func := "wharfinger/wharfingerlaw07.RepliesBody", spec := "repliesBody", unfollowed := true, recurses := true, apart := false, narrowed := true }
def RepliesBodyUptoSaid : Prop := repliesBodyUptoRow.holds Try.pinned (OpenSpec.upto repliesBodySpec)

end Rows
end Go.Proofs.Ytikkcoidepfgmaa
