/-
  No cell of these rows narrows 'for every input' (looked for: loops, veiled, ifaces, maps, wideKeys, modest, calm, conditions, laid).
  DERIVED. THE GIVEN ROWS OF THIS SEAT. 7 by the template 'for every input the law returns true; each argument reads behind the call as it read before'; 0 by the template 'total and deterministic' (their statements: YtogkcmcekodjcaaTotals.lean).
  GIVEN WITH THE SEED: the statements are not yours to turn. If you find one false, say at which input.
  Laid BY PROGRAM, IN A SANDBOX (cutbox-rows.mjs): the forced cells as the released guide's own fill.sh prints them over the translation d0a639ed4a677b9f… (all of the seat's roots in one cut). By AI agents, Wed Nov 11 2026. No macro, syntax, notation, axiom, sorry.
-/
import Derived.Test.YtogkcmcekodjcaaChecked
import GoSem.Claim
import GoSem.ClaimJoined
import GoSem.ClaimMapViews
import Derived.JoinedTies
import Derived.KernelRfl
namespace Go.Proofs.Ytogkcmcekodjcaa
/- THE CELL 'sum', in the pinned program and in every row, IS THE sha256 OF THE DUMP (.gsa) THAT YtogkcmcekodjcaaProg.lean LOADS. Nothing in Lean hashes anything: it is a label: what it is worth is what the hold of that sum in a sandbox is worth. -/
noncomputable def Try.pinned : Pinned := { name := "ytogkcmcekodjcaa", sum := "d0a639ed4a677b9f1fcc4e799582e3abee0331e36846376df99f6ae484879e9a", checked := Try.checked }
namespace Rows
def none {H : Type} : Left H := { results := [], args := [] }

/-- 'wharfingerlaw01.WordsGets': WHATEVER THE INPUT: true; the input reads as it did. -/
def wordsGetsSpec : ChangeSpec := { name := "wordsGets", fn := fun _ => fun
  | [d] => { results := [.lit (.bool true)], args := [d] }
  | _ => none }
def wordsGetsRow : OpenClaim := { program := "ytogkcmcekodjcaa", sum := "d0a639ed4a677b9f1fcc4e799582e3abee0331e36846376df99f6ae484879e9a", func := "wharfinger/wharfingerlaw01.WordsGets", spec := "wordsGets", apart := false }
def WordsGetsSaid : Prop := wordsGetsRow.holds Try.pinned (OpenSpec.ofChange wordsGetsSpec)

/-- ITS FALSE NEIGHBOUR: 'it returns false'. Refute it at one input. -/
def wordsGetsWrong : ChangeSpec := { name := "wordsGets", fn := fun _ => fun
  | [d] => { results := [.lit (.bool false)], args := [d] }
  | _ => none }
def WordsGetsWrongFalsely : Prop := wordsGetsRow.holds Try.pinned (OpenSpec.ofChange wordsGetsWrong)

/-- 'wharfingerlaw01.WordsLongs': WHATEVER THE INPUT: true; the input reads as it did. -/
def wordsLongsSpec : ChangeSpec := { name := "wordsLongs", fn := fun _ => fun
  | [d] => { results := [.lit (.bool true)], args := [d] }
  | _ => none }
def wordsLongsRow : OpenClaim := { program := "ytogkcmcekodjcaa", sum := "d0a639ed4a677b9f1fcc4e799582e3abee0331e36846376df99f6ae484879e9a", func := "wharfinger/wharfingerlaw01.WordsLongs", spec := "wordsLongs", apart := false }
def WordsLongsSaid : Prop := wordsLongsRow.holds Try.pinned (OpenSpec.ofChange wordsLongsSpec)

/-- ITS FALSE NEIGHBOUR: 'it returns false'. Refute it at one input. -/
def wordsLongsWrong : ChangeSpec := { name := "wordsLongs", fn := fun _ => fun
  | [d] => { results := [.lit (.bool false)], args := [d] }
  | _ => none }
def WordsLongsWrongFalsely : Prop := wordsLongsRow.holds Try.pinned (OpenSpec.ofChange wordsLongsWrong)

/-- 'wharfingerlaw01.WordsYes': WHATEVER THE INPUT: true; the input reads as it did. -/
def wordsYesSpec : ChangeSpec := { name := "wordsYes", fn := fun _ => fun
  | [d] => { results := [.lit (.bool true)], args := [d] }
  | _ => none }
def wordsYesRow : OpenClaim := { program := "ytogkcmcekodjcaa", sum := "d0a639ed4a677b9f1fcc4e799582e3abee0331e36846376df99f6ae484879e9a", func := "wharfinger/wharfingerlaw01.WordsYes", spec := "wordsYes", apart := false }
def WordsYesSaid : Prop := wordsYesRow.holds Try.pinned (OpenSpec.ofChange wordsYesSpec)

/-- ITS FALSE NEIGHBOUR: 'it returns false'. Refute it at one input. -/
def wordsYesWrong : ChangeSpec := { name := "wordsYes", fn := fun _ => fun
  | [d] => { results := [.lit (.bool false)], args := [d] }
  | _ => none }
def WordsYesWrongFalsely : Prop := wordsYesRow.holds Try.pinned (OpenSpec.ofChange wordsYesWrong)

/-- 'wharfingerlaw01.WordsBack': WHATEVER THE INPUT: true; the input reads as it did. -/
def wordsBackSpec : ChangeSpec := { name := "wordsBack", fn := fun _ => fun
  | [d1, d2, d3] => { results := [.lit (.bool true)], args := [d1, d2, d3] }
  | _ => none }
def wordsBackRow : OpenClaim := { program := "ytogkcmcekodjcaa", sum := "d0a639ed4a677b9f1fcc4e799582e3abee0331e36846376df99f6ae484879e9a", func := "wharfinger/wharfingerlaw01.WordsBack", spec := "wordsBack", unfollowed := true, recurses := true, apart := false }
def WordsBackSaid : Prop := wordsBackRow.holds Try.pinned (OpenSpec.ofChange wordsBackSpec)

/-- ITS FALSE NEIGHBOUR: 'it returns false'. Refute it at one input. -/
def wordsBackWrong : ChangeSpec := { name := "wordsBack", fn := fun _ => fun
  | [d1, d2, d3] => { results := [.lit (.bool false)], args := [d1, d2, d3] }
  | _ => none }
def WordsBackWrongFalsely : Prop := wordsBackRow.holds Try.pinned (OpenSpec.ofChange wordsBackWrong)

/-- 'wharfingerlaw01.WordsLongBack': WHATEVER THE INPUT: true; the input reads as it did. -/
def wordsLongBackSpec : ChangeSpec := { name := "wordsLongBack", fn := fun _ => fun
  | [d1, d2, d3] => { results := [.lit (.bool true)], args := [d1, d2, d3] }
  | _ => none }
def wordsLongBackRow : OpenClaim := { program := "ytogkcmcekodjcaa", sum := "d0a639ed4a677b9f1fcc4e799582e3abee0331e36846376df99f6ae484879e9a", func := "wharfinger/wharfingerlaw01.WordsLongBack", spec := "wordsLongBack", unfollowed := true, recurses := true, apart := false }
def WordsLongBackSaid : Prop := wordsLongBackRow.holds Try.pinned (OpenSpec.ofChange wordsLongBackSpec)

/-- ITS FALSE NEIGHBOUR: 'it returns false'. Refute it at one input. -/
def wordsLongBackWrong : ChangeSpec := { name := "wordsLongBack", fn := fun _ => fun
  | [d1, d2, d3] => { results := [.lit (.bool false)], args := [d1, d2, d3] }
  | _ => none }
def WordsLongBackWrongFalsely : Prop := wordsLongBackRow.holds Try.pinned (OpenSpec.ofChange wordsLongBackWrong)

/-- 'wharfingerlaw01.WordsAgain': WHATEVER THE INPUT: true; the input reads as it did. -/
def wordsAgainSpec : ChangeSpec := { name := "wordsAgain", fn := fun _ => fun
  | [d] => { results := [.lit (.bool true)], args := [d] }
  | _ => none }
def wordsAgainRow : OpenClaim := { program := "ytogkcmcekodjcaa", sum := "d0a639ed4a677b9f1fcc4e799582e3abee0331e36846376df99f6ae484879e9a", func := "wharfinger/wharfingerlaw01.WordsAgain", spec := "wordsAgain", unfollowed := true, recurses := true, apart := false }
def WordsAgainSaid : Prop := wordsAgainRow.holds Try.pinned (OpenSpec.ofChange wordsAgainSpec)

/-- ITS FALSE NEIGHBOUR: 'it returns false'. Refute it at one input. -/
def wordsAgainWrong : ChangeSpec := { name := "wordsAgain", fn := fun _ => fun
  | [d] => { results := [.lit (.bool false)], args := [d] }
  | _ => none }
def WordsAgainWrongFalsely : Prop := wordsAgainRow.holds Try.pinned (OpenSpec.ofChange wordsAgainWrong)

/-- 'wharfingerlaw01.WordsOrder': WHATEVER THE INPUT: true; the input reads as it did. -/
def wordsOrderSpec : ChangeSpec := { name := "wordsOrder", fn := fun _ => fun
  | [d1, d2] => { results := [.lit (.bool true)], args := [d1, d2] }
  | _ => none }
def wordsOrderRow : OpenClaim := { program := "ytogkcmcekodjcaa", sum := "d0a639ed4a677b9f1fcc4e799582e3abee0331e36846376df99f6ae484879e9a", func := "wharfinger/wharfingerlaw01.WordsOrder", spec := "wordsOrder", unfollowed := true, recurses := true, apart := false }
def WordsOrderSaid : Prop := wordsOrderRow.holds Try.pinned (OpenSpec.ofChange wordsOrderSpec)

/-- ITS FALSE NEIGHBOUR: 'it returns false'. Refute it at one input. -/
def wordsOrderWrong : ChangeSpec := { name := "wordsOrder", fn := fun _ => fun
  | [d1, d2] => { results := [.lit (.bool false)], args := [d1, d2] }
  | _ => none }
def WordsOrderWrongFalsely : Prop := wordsOrderRow.holds Try.pinned (OpenSpec.ofChange wordsOrderWrong)

/- THE SECOND FORM. 'bulk': how many values and letters a reading holds, each counted each time it is reached (what is shared counts as often as it is met; a slice's spare places count too). A statement '..UptoSaid' is the law's where the arguments, and the package variables that the reading takes, are together of bulk at most 1048576: NARROWER than '..Said'. Prove '..Said' where nothing that the law and all that it calls make is longer than what came in: it says more and counts as full. Else prove '..UptoSaid'. A law counts once. -/
mutual
def uptoBulk {H : Type} : DataW H → Nat
  | .lit (.string bytes) => bytes.length + 1
  | .lit _ => 1
  | .nil => 1
  | .ptr d => uptoBulk d + 1
  | .slice elems spare => uptoBulkAll elems + uptoBulkAll spare + 1
  | .agg parts => uptoBulkAll parts + 1
  | .iface _ d => uptoBulk d + 1
  | .map entries => uptoBulkEntries entries + 1
  | .held _ => 1
def uptoBulkAll {H : Type} : List (DataW H) → Nat
  | [] => 0
  | d :: r => uptoBulk d + uptoBulkAll r
def uptoBulkEntries {H : Type} : List (Lit × DataW H) → Nat
  | [] => 0
  | x :: r => uptoBulkEntry x + uptoBulkEntries r
def uptoBulkEntry {H : Type} : Lit × DataW H → Nat
  | (.string bytes, d) => bytes.length + uptoBulk d + 1
  | (_, d) => uptoBulk d + 1
 end
def uptoSmall : (H : Type) → List (DataW H) → Bool := fun _ ds => decide (uptoBulkAll ds ≤ 1048576)
def OpenSpec.upto (s : _root_.Go.ChangeSpec) : _root_.Go.OpenSpec := { _root_.Go.OpenSpec.ofChange s with cond := some uptoSmall }

/-- 'wharfingerlaw01.WordsGets', WHERE WHAT IT READS IS OF BULK AT MOST 1048576: true; the input reads as it did. -/
def wordsGetsUptoRow : OpenClaim := { program := "ytogkcmcekodjcaa", sum := "d0a639ed4a677b9f1fcc4e799582e3abee0331e36846376df99f6ae484879e9a", func := "wharfinger/wharfingerlaw01.WordsGets", spec := "wordsGets", apart := false, narrowed := true }
def WordsGetsUptoSaid : Prop := wordsGetsUptoRow.holds Try.pinned (OpenSpec.upto wordsGetsSpec)

/-- 'wharfingerlaw01.WordsLongs', WHERE WHAT IT READS IS OF BULK AT MOST 1048576: true; the input reads as it did. -/
def wordsLongsUptoRow : OpenClaim := { program := "ytogkcmcekodjcaa", sum := "d0a639ed4a677b9f1fcc4e799582e3abee0331e36846376df99f6ae484879e9a", func := "wharfinger/wharfingerlaw01.WordsLongs", spec := "wordsLongs", apart := false, narrowed := true }
def WordsLongsUptoSaid : Prop := wordsLongsUptoRow.holds Try.pinned (OpenSpec.upto wordsLongsSpec)

/-- 'wharfingerlaw01.WordsYes', WHERE WHAT IT READS IS OF BULK AT MOST 1048576: true; the input reads as it did. -/
def wordsYesUptoRow : OpenClaim := { program := "ytogkcmcekodjcaa", sum := "d0a639ed4a677b9f1fcc4e799582e3abee0331e36846376df99f6ae484879e9a", func := "wharfinger/wharfingerlaw01.WordsYes", spec := "wordsYes", apart := false, narrowed := true }
def WordsYesUptoSaid : Prop := wordsYesUptoRow.holds Try.pinned (OpenSpec.upto wordsYesSpec)

/-- 'wharfingerlaw01.WordsBack', WHERE WHAT IT READS IS OF BULK AT MOST 1048576: true; the input reads as it did. -/
def wordsBackUptoRow : OpenClaim := { program := "ytogkcmcekodjcaa", sum := "d0a639ed4a677b9f1fcc4e799582e3abee0331e36846376df99f6ae484879e9a", func := "wharfinger/wharfingerlaw01.WordsBack", spec := "wordsBack", unfollowed := true, recurses := true, apart := false, narrowed := true }
def WordsBackUptoSaid : Prop := wordsBackUptoRow.holds Try.pinned (OpenSpec.upto wordsBackSpec)

/-- 'wharfingerlaw01.WordsLongBack', WHERE WHAT IT READS IS OF BULK AT MOST 1048576: true; the input reads as it did. -/
def wordsLongBackUptoRow : OpenClaim := { program := "ytogkcmcekodjcaa", sum := "d0a639ed4a677b9f1fcc4e799582e3abee0331e36846376df99f6ae484879e9a", func := "wharfinger/wharfingerlaw01.WordsLongBack", spec := "wordsLongBack", unfollowed := true, recurses := true, apart := false, narrowed := true }
def WordsLongBackUptoSaid : Prop := wordsLongBackUptoRow.holds Try.pinned (OpenSpec.upto wordsLongBackSpec)

/-- 'wharfingerlaw01.WordsAgain', WHERE WHAT IT READS IS OF BULK AT MOST 1048576: true; the input reads as it did. -/
def wordsAgainUptoRow : OpenClaim := { program := "ytogkcmcekodjcaa", sum := "d0a639ed4a677b9f1fcc4e799582e3abee0331e36846376df99f6ae484879e9a", func := "wharfinger/wharfingerlaw01.WordsAgain", spec := "wordsAgain", unfollowed := true, recurses := true, apart := false, narrowed := true }
def WordsAgainUptoSaid : Prop := wordsAgainUptoRow.holds Try.pinned (OpenSpec.upto wordsAgainSpec)

/-- 'wharfingerlaw01.WordsOrder', WHERE WHAT IT READS IS OF BULK AT MOST 1048576: true; the input reads as it did. -/
def wordsOrderUptoRow : OpenClaim := { program := "ytogkcmcekodjcaa", sum := "d0a639ed4a677b9f1fcc4e799582e3abee0331e36846376df99f6ae484879e9a", func := "wharfinger/wharfingerlaw01.WordsOrder", spec := "wordsOrder", unfollowed := true, recurses := true, apart := false, narrowed := true }
def WordsOrderUptoSaid : Prop := wordsOrderUptoRow.holds Try.pinned (OpenSpec.upto wordsOrderSpec)

end Rows
end Go.Proofs.Ytogkcmcekodjcaa
