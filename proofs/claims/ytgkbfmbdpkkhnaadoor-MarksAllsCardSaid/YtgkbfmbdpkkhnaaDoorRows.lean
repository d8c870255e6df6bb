/-
  NARROWER THAN 'FOR EVERY INPUT', by the rows' own cells (each row's printed sentence says how): WordsPuts: laid · MarksGets: laid · TimesPuts: laid · MarksAlls: laid · MarksPuts: laid · HandlesPuts: laid.
  DERIVED. THE GIVEN ROWS OF THIS SEAT. 6 by the template 'for every input the law returns true; each argument reads behind the call as it read before'; 0 by the template 'total and deterministic' (their statements: YtgkbfmbdpkkhnaaDoorTotals.lean).
  GIVEN WITH THE SEED: the statements are not yours to turn. If you find one false, say at which input.
  Laid BY PROGRAM, IN A SANDBOX (cutbox-rows.mjs): the forced cells as the released guide's own fill.sh prints them over the translation 8bf13b4e076e54f2… (all of the seat's roots in one cut). By AI agents, Wed Nov 11 2026. No macro, syntax, notation, axiom, sorry.
-/
import Derived.Test.YtgkbfmbdpkkhnaaDoorChecked
import GoSem.Claim
import GoSem.ClaimJoined
import GoSem.ClaimMapViews
import Derived.JoinedTies
import Derived.KernelRfl
namespace Go.Proofs.YtgkbfmbdpkkhnaaDoor
/- THE CELL 'sum', in the pinned program and in every row, IS THE sha256 OF THE DUMP (.gsa) THAT YtgkbfmbdpkkhnaaDoorProg.lean LOADS. Nothing in Lean hashes anything: it is a label: what it is worth is what the hold of that sum in a sandbox is worth. -/
noncomputable def Tryd.pinned : Pinned := { name := "ytgkbfmbdpkkhnaadoor", sum := "8bf13b4e076e54f29ef2b0c7831f6e4a7d2dc5e2d8ca84f1ab9b8fb34186c7de", checked := Tryd.checked }
namespace Rows
def none {H : Type} : Left H := { results := [], args := [] }

/- WHAT THE LISTED PACKAGE-LEVEL VARIABLES READ AS WHEN THE CALL BEGINS. Each datum BY PROGRAM (the guide's laid-datum.mjs) off the statement by which the dump's own 'gosem.cut.vars' lays the variable. In a bare row this is a premise. The card (YtgkbfmbdpkkhnaaDoorCards.lean) ties it to the program's text. -/
def laid_math_bits_deBruijn32tab {H : Type} : DataW H := .agg [.lit (.int .u8 0), .lit (.int .u8 1), .lit (.int .u8 28), .lit (.int .u8 2), .lit (.int .u8 29), .lit (.int .u8 14), .lit (.int .u8 24), .lit (.int .u8 3), .lit (.int .u8 30), .lit (.int .u8 22), .lit (.int .u8 20), .lit (.int .u8 15), .lit (.int .u8 25), .lit (.int .u8 17), .lit (.int .u8 4), .lit (.int .u8 8), .lit (.int .u8 31), .lit (.int .u8 27), .lit (.int .u8 13), .lit (.int .u8 23), .lit (.int .u8 21), .lit (.int .u8 19), .lit (.int .u8 16), .lit (.int .u8 7), .lit (.int .u8 26), .lit (.int .u8 12), .lit (.int .u8 18), .lit (.int .u8 6), .lit (.int .u8 11), .lit (.int .u8 5), .lit (.int .u8 10), .lit (.int .u8 9)]
def laid_math_bits_deBruijn64tab {H : Type} : DataW H := .agg [.lit (.int .u8 0), .lit (.int .u8 1), .lit (.int .u8 56), .lit (.int .u8 2), .lit (.int .u8 57), .lit (.int .u8 49), .lit (.int .u8 28), .lit (.int .u8 3), .lit (.int .u8 61), .lit (.int .u8 58), .lit (.int .u8 42), .lit (.int .u8 50), .lit (.int .u8 38), .lit (.int .u8 29), .lit (.int .u8 17), .lit (.int .u8 4), .lit (.int .u8 62), .lit (.int .u8 47), .lit (.int .u8 59), .lit (.int .u8 36), .lit (.int .u8 45), .lit (.int .u8 43), .lit (.int .u8 51), .lit (.int .u8 22), .lit (.int .u8 53), .lit (.int .u8 39), .lit (.int .u8 33), .lit (.int .u8 30), .lit (.int .u8 24), .lit (.int .u8 18), .lit (.int .u8 12), .lit (.int .u8 5), .lit (.int .u8 63), .lit (.int .u8 55), .lit (.int .u8 48), .lit (.int .u8 27), .lit (.int .u8 60), .lit (.int .u8 41), .lit (.int .u8 37), .lit (.int .u8 16), .lit (.int .u8 46), .lit (.int .u8 35), .lit (.int .u8 44), .lit (.int .u8 21), .lit (.int .u8 52), .lit (.int .u8 32), .lit (.int .u8 23), .lit (.int .u8 11), .lit (.int .u8 54), .lit (.int .u8 26), .lit (.int .u8 40), .lit (.int .u8 15), .lit (.int .u8 34), .lit (.int .u8 20), .lit (.int .u8 31), .lit (.int .u8 10), .lit (.int .u8 25), .lit (.int .u8 14), .lit (.int .u8 19), .lit (.int .u8 9), .lit (.int .u8 13), .lit (.int .u8 8), .lit (.int .u8 7), .lit (.int .u8 6)]
def laid_internal_strconv_uint64pow10 {H : Type} : DataW H := .agg [.lit (.int .u64 1), .lit (.int .u64 10), .lit (.int .u64 100), .lit (.int .u64 1000), .lit (.int .u64 10000), .lit (.int .u64 100000), .lit (.int .u64 1000000), .lit (.int .u64 10000000), .lit (.int .u64 100000000), .lit (.int .u64 1000000000), .lit (.int .u64 10000000000), .lit (.int .u64 100000000000), .lit (.int .u64 1000000000000), .lit (.int .u64 10000000000000), .lit (.int .u64 100000000000000), .lit (.int .u64 1000000000000000), .lit (.int .u64 10000000000000000), .lit (.int .u64 100000000000000000), .lit (.int .u64 1000000000000000000), .lit (.int .u64 10000000000000000000)]

/-- 'wharfingerlaw01.WordsPuts': WHATEVER THE INPUT: true; the input reads as it did. -/
def wordsPutsSpec : ChangeSpec := { name := "wordsPuts", fn := fun _ => fun
  | [d1, d2, d3] => { results := [.lit (.bool true)], args := [d1, d2, d3] }
  | _ => none }
def wordsPutsRow : OpenClaim := { program := "ytgkbfmbdpkkhnaadoor", sum := "8bf13b4e076e54f29ef2b0c7831f6e4a7d2dc5e2d8ca84f1ab9b8fb34186c7de", func := "wharfinger/wharfingerlaw01.WordsPuts", spec := "wordsPuts", unfollowed := true, recurses := true, named := ["internal/strconv.uint64pow10", "math/bits.deBruijn32tab", "math/bits.deBruijn64tab"], apart := false, laid := [("math/bits.deBruijn32tab", laid_math_bits_deBruijn32tab), ("math/bits.deBruijn64tab", laid_math_bits_deBruijn64tab), ("internal/strconv.uint64pow10", laid_internal_strconv_uint64pow10)] }
def WordsPutsSaid : Prop := wordsPutsRow.holds Tryd.pinned (OpenSpec.ofChange wordsPutsSpec)

/-- ITS FALSE NEIGHBOUR: 'it returns false'. Refute it at one input. -/
def wordsPutsWrong : ChangeSpec := { name := "wordsPuts", fn := fun _ => fun
  | [d1, d2, d3] => { results := [.lit (.bool false)], args := [d1, d2, d3] }
  | _ => none }
def WordsPutsWrongFalsely : Prop := wordsPutsRow.holds Tryd.pinned (OpenSpec.ofChange wordsPutsWrong)

/-- 'wharfingerlaw04.MarksGets': WHATEVER THE INPUT: true; the input reads as it did. -/
def marksGetsSpec : ChangeSpec := { name := "marksGets", fn := fun _ => fun
  | [d] => { results := [.lit (.bool true)], args := [d] }
  | _ => none }
def marksGetsRow : OpenClaim := { program := "ytgkbfmbdpkkhnaadoor", sum := "8bf13b4e076e54f29ef2b0c7831f6e4a7d2dc5e2d8ca84f1ab9b8fb34186c7de", func := "wharfinger/wharfingerlaw04.MarksGets", spec := "marksGets", named := ["internal/strconv.uint64pow10", "math/bits.deBruijn32tab", "math/bits.deBruijn64tab"], apart := false, laid := [("math/bits.deBruijn32tab", laid_math_bits_deBruijn32tab), ("math/bits.deBruijn64tab", laid_math_bits_deBruijn64tab), ("internal/strconv.uint64pow10", laid_internal_strconv_uint64pow10)] }
def MarksGetsSaid : Prop := marksGetsRow.holds Tryd.pinned (OpenSpec.ofChange marksGetsSpec)

/-- ITS FALSE NEIGHBOUR: 'it returns false'. Refute it at one input. -/
def marksGetsWrong : ChangeSpec := { name := "marksGets", fn := fun _ => fun
  | [d] => { results := [.lit (.bool false)], args := [d] }
  | _ => none }
def MarksGetsWrongFalsely : Prop := marksGetsRow.holds Tryd.pinned (OpenSpec.ofChange marksGetsWrong)

/-- 'wharfingerlaw09.TimesPuts': WHATEVER THE INPUT: true; the input reads as it did. -/
def timesPutsSpec : ChangeSpec := { name := "timesPuts", fn := fun _ => fun
  | [d1, d2] => { results := [.lit (.bool true)], args := [d1, d2] }
  | _ => none }
def timesPutsRow : OpenClaim := { program := "ytgkbfmbdpkkhnaadoor", sum := "8bf13b4e076e54f29ef2b0c7831f6e4a7d2dc5e2d8ca84f1ab9b8fb34186c7de", func := "wharfinger/wharfingerlaw09.TimesPuts", spec := "timesPuts", unfollowed := true, recurses := true, named := ["internal/strconv.uint64pow10", "math/bits.deBruijn32tab", "math/bits.deBruijn64tab"], apart := false, laid := [("math/bits.deBruijn32tab", laid_math_bits_deBruijn32tab), ("math/bits.deBruijn64tab", laid_math_bits_deBruijn64tab), ("internal/strconv.uint64pow10", laid_internal_strconv_uint64pow10)] }
def TimesPutsSaid : Prop := timesPutsRow.holds Tryd.pinned (OpenSpec.ofChange timesPutsSpec)

/-- ITS FALSE NEIGHBOUR: 'it returns false'. Refute it at one input. -/
def timesPutsWrong : ChangeSpec := { name := "timesPuts", fn := fun _ => fun
  | [d1, d2] => { results := [.lit (.bool false)], args := [d1, d2] }
  | _ => none }
def TimesPutsWrongFalsely : Prop := timesPutsRow.holds Tryd.pinned (OpenSpec.ofChange timesPutsWrong)

/-- 'wharfingerlaw04.MarksAlls': WHATEVER THE INPUT: true; the input reads as it did. -/
def marksAllsSpec : ChangeSpec := { name := "marksAlls", fn := fun _ => fun
  | [d] => { results := [.lit (.bool true)], args := [d] }
  | _ => none }
def marksAllsRow : OpenClaim := { program := "ytgkbfmbdpkkhnaadoor", sum := "8bf13b4e076e54f29ef2b0c7831f6e4a7d2dc5e2d8ca84f1ab9b8fb34186c7de", func := "wharfinger/wharfingerlaw04.MarksAlls", spec := "marksAlls", unfollowed := true, recurses := true, named := ["internal/strconv.uint64pow10", "math/bits.deBruijn32tab", "math/bits.deBruijn64tab"], apart := false, laid := [("math/bits.deBruijn32tab", laid_math_bits_deBruijn32tab), ("math/bits.deBruijn64tab", laid_math_bits_deBruijn64tab), ("internal/strconv.uint64pow10", laid_internal_strconv_uint64pow10)] }
def MarksAllsSaid : Prop := marksAllsRow.holds Tryd.pinned (OpenSpec.ofChange marksAllsSpec)

/-- ITS FALSE NEIGHBOUR: 'it returns false'. Refute it at one input. -/
def marksAllsWrong : ChangeSpec := { name := "marksAlls", fn := fun _ => fun
  | [d] => { results := [.lit (.bool false)], args := [d] }
  | _ => none }
def MarksAllsWrongFalsely : Prop := marksAllsRow.holds Tryd.pinned (OpenSpec.ofChange marksAllsWrong)

/-- 'wharfingerlaw04.MarksPuts': WHATEVER THE INPUT: true; the input reads as it did. -/
def marksPutsSpec : ChangeSpec := { name := "marksPuts", fn := fun _ => fun
  | [d1, d2] => { results := [.lit (.bool true)], args := [d1, d2] }
  | _ => none }
def marksPutsRow : OpenClaim := { program := "ytgkbfmbdpkkhnaadoor", sum := "8bf13b4e076e54f29ef2b0c7831f6e4a7d2dc5e2d8ca84f1ab9b8fb34186c7de", func := "wharfinger/wharfingerlaw04.MarksPuts", spec := "marksPuts", unfollowed := true, recurses := true, named := ["internal/strconv.uint64pow10", "math/bits.deBruijn32tab", "math/bits.deBruijn64tab"], apart := false, laid := [("math/bits.deBruijn32tab", laid_math_bits_deBruijn32tab), ("math/bits.deBruijn64tab", laid_math_bits_deBruijn64tab), ("internal/strconv.uint64pow10", laid_internal_strconv_uint64pow10)] }
def MarksPutsSaid : Prop := marksPutsRow.holds Tryd.pinned (OpenSpec.ofChange marksPutsSpec)

/-- ITS FALSE NEIGHBOUR: 'it returns false'. Refute it at one input. -/
def marksPutsWrong : ChangeSpec := { name := "marksPuts", fn := fun _ => fun
  | [d1, d2] => { results := [.lit (.bool false)], args := [d1, d2] }
  | _ => none }
def MarksPutsWrongFalsely : Prop := marksPutsRow.holds Tryd.pinned (OpenSpec.ofChange marksPutsWrong)

/-- 'wharfingerlaw08.HandlesPuts': WHATEVER THE INPUT: true; the input reads as it did. -/
def handlesPutsSpec : ChangeSpec := { name := "handlesPuts", fn := fun _ => fun
  | [d] => { results := [.lit (.bool true)], args := [d] }
  | _ => none }
def handlesPutsRow : OpenClaim := { program := "ytgkbfmbdpkkhnaadoor", sum := "8bf13b4e076e54f29ef2b0c7831f6e4a7d2dc5e2d8ca84f1ab9b8fb34186c7de", func := "wharfinger/wharfingerlaw08.HandlesPuts", spec := "handlesPuts", unfollowed := true, recurses := true, named := ["internal/strconv.uint64pow10", "math/bits.deBruijn32tab", "math/bits.deBruijn64tab"], apart := false, laid := [("math/bits.deBruijn32tab", laid_math_bits_deBruijn32tab), ("math/bits.deBruijn64tab", laid_math_bits_deBruijn64tab), ("internal/strconv.uint64pow10", laid_internal_strconv_uint64pow10)] }
def HandlesPutsSaid : Prop := handlesPutsRow.holds Tryd.pinned (OpenSpec.ofChange handlesPutsSpec)

/-- ITS FALSE NEIGHBOUR: 'it returns false'. Refute it at one input. -/
def handlesPutsWrong : ChangeSpec := { name := "handlesPuts", fn := fun _ => fun
  | [d] => { results := [.lit (.bool false)], args := [d] }
  | _ => none }
def HandlesPutsWrongFalsely : Prop := handlesPutsRow.holds Tryd.pinned (OpenSpec.ofChange handlesPutsWrong)

/- THE SECOND FORM. 'bulk': how many values and letters a reading holds, each counted each time it is reached (what is shared counts as often as it is met; a slice's spare places count too). A statement '..UptoSaid' is the law's where the arguments, and the package variables that the reading takes, are together of bulk at most 1048576: NARROWER than '..Said'. Prove '..Said' where nothing that the law and all that it calls make is longer than what came in: it says more and counts as full. Else prove '..UptoSaid'. A law counts once. -/
mutual
def uptoBulk {H : Type} : DataW H → Nat
  | .lit (.string bytes) => bytes.length + 1
  | .lit _ => 1
  | .nil => 1
  | .ptr d => uptoBulk d + 1
  | .slice elems spare => uptoBulkAll elems + uptoBulkAll spare + 1
  | .agg parts => uptoBulkAll parts + 1
  | .iface _ d => uptoBulk d + 1
  | .map entries => uptoBulkEntries entries + 1
  | .held _ => 1
def uptoBulkAll {H : Type} : List (DataW H) → Nat
  | [] => 0
  | d :: r => uptoBulk d + uptoBulkAll r
def uptoBulkEntries {H : Type} : List (Lit × DataW H) → Nat
  | [] => 0
  | x :: r => uptoBulkEntry x + uptoBulkEntries r
def uptoBulkEntry {H : Type} : Lit × DataW H → Nat
  | (.string bytes, d) => bytes.length + uptoBulk d + 1
  | (_, d) => uptoBulk d + 1
 end
def uptoSmall : (H : Type) → List (DataW H) → Bool := fun _ ds => decide (uptoBulkAll ds ≤ 1048576)
def OpenSpec.upto (s : _root_.Go.ChangeSpec) : _root_.Go.OpenSpec := { _root_.Go.OpenSpec.ofChange s with cond := some uptoSmall }

/-- 'wharfingerlaw01.WordsPuts', WHERE WHAT IT READS IS OF BULK AT MOST 1048576: true; the input reads as it did. -/
def wordsPutsUptoRow : OpenClaim := { program := "ytgkbfmbdpkkhnaadoor", sum := "8bf13b4e076e54f29ef2b0c7831f6e4a7d2dc5e2d8ca84f1ab9b8fb34186c7de", func := "wharfinger/wharfingerlaw01.WordsPuts", spec := "wordsPuts", unfollowed := true, recurses := true, named := ["internal/strconv.uint64pow10", "math/bits.deBruijn32tab", "math/bits.deBruijn64tab"], apart := false, laid := [("math/bits.deBruijn32tab", laid_math_bits_deBruijn32tab), ("math/bits.deBruijn64tab", laid_math_bits_deBruijn64tab), ("internal/strconv.uint64pow10", laid_internal_strconv_uint64pow10)], narrowed := true }
def WordsPutsUptoSaid : Prop := wordsPutsUptoRow.holds Tryd.pinned (OpenSpec.upto wordsPutsSpec)

/-- 'wharfingerlaw04.MarksGets', WHERE WHAT IT READS IS OF BULK AT MOST 1048576: true; the input reads as it did. -/
def marksGetsUptoRow : OpenClaim := { program := "ytgkbfmbdpkkhnaadoor", sum := "8bf13b4e076e54f29ef2b0c7831f6e4a7d2dc5e2d8ca84f1ab9b8fb34186c7de", func := "wharfinger/wharfingerlaw04.MarksGets", spec := "marksGets", named := ["internal/strconv.uint64pow10", "math/bits.deBruijn32tab", "math/bits.deBruijn64tab"], apart := false, laid := [("math/bits.deBruijn32tab", laid_math_bits_deBruijn32tab), ("math/bits.deBruijn64tab", laid_math_bits_deBruijn64tab), ("internal/strconv.uint64pow10", laid_internal_strconv_uint64pow10)], narrowed := true }
def MarksGetsUptoSaid : Prop := marksGetsUptoRow.holds Tryd.pinned (OpenSpec.upto marksGetsSpec)

/-- 'wharfingerlaw09.TimesPuts', WHERE WHAT IT READS IS OF BULK AT MOST 1048576: true; the input reads as it did. -/
def timesPutsUptoRow : OpenClaim := { program := "ytgkbfmbdpkkhnaadoor", sum := "8bf13b4e076e54f29ef2b0c7831f6e4a7d2dc5e2d8ca84f1ab9b8fb34186c7de", func := "wharfinger/wharfingerlaw09.TimesPuts", spec := "timesPuts", unfollowed := true, recurses := true, named := ["internal/strconv.uint64pow10", "math/bits.deBruijn32tab", "math/bits.deBruijn64tab"], apart := false, laid := [("math/bits.deBruijn32tab", laid_math_bits_deBruijn32tab), ("math/bits.deBruijn64tab", laid_math_bits_deBruijn64tab), ("internal/strconv.uint64pow10", laid_internal_strconv_uint64pow10)], narrowed := true }
def TimesPutsUptoSaid : Prop := timesPutsUptoRow.holds Tryd.pinned (OpenSpec.upto timesPutsSpec)

/-- 'wharfingerlaw04.MarksAlls', WHERE WHAT IT READS IS OF BULK AT MOST 1048576: true; the input reads as it did. -/
def marksAllsUptoRow : OpenClaim := { program := "ytgkbfmbdpkkhnaadoor", sum := "8bf13b4e076e54f29ef2b0c7831f6e4a7d2dc5e2d8ca84f1ab9b8fb34186c7de", func := "wharfinger/wharfingerlaw04.MarksAlls", spec := "marksAlls", unfollowed := true, recurses := true, named := ["internal/strconv.uint64pow10", "math/bits.deBruijn32tab", "math/bits.deBruijn64tab"], apart := false, laid := [("math/bits.deBruijn32tab", laid_math_bits_deBruijn32tab), ("math/bits.deBruijn64tab", laid_math_bits_deBruijn64tab), ("internal/strconv.uint64pow10", laid_internal_strconv_uint64pow10)], narrowed := true }
def MarksAllsUptoSaid : Prop := marksAllsUptoRow.holds Tryd.pinned (OpenSpec.upto marksAllsSpec)

/-- 'wharfingerlaw04.MarksPuts', WHERE WHAT IT READS IS OF BULK AT MOST 1048576: true; the input reads as it did. -/
def marksPutsUptoRow : OpenClaim := { program := "ytgkbfmbdpkkhnaadoor", sum := "8bf13b4e076e54f29ef2b0c7831f6e4a7d2dc5e2d8ca84f1ab9b8fb34186c7de", func := "wharfinger/wharfingerlaw04.MarksPuts", spec := "marksPuts", unfollowed := true, recurses := true, named := ["internal/strconv.uint64pow10", "math/bits.deBruijn32tab", "math/bits.deBruijn64tab"], apart := false, laid := [("math/bits.deBruijn32tab", laid_math_bits_deBruijn32tab), ("math/bits.deBruijn64tab", laid_math_bits_deBruijn64tab), ("internal/strconv.uint64pow10", laid_internal_strconv_uint64pow10)], narrowed := true }
def MarksPutsUptoSaid : Prop := marksPutsUptoRow.holds Tryd.pinned (OpenSpec.upto marksPutsSpec)

/-- 'wharfingerlaw08.HandlesPuts', WHERE WHAT IT READS IS OF BULK AT MOST 1048576: true; the input reads as it did. -/
def handlesPutsUptoRow : OpenClaim := { program := "ytgkbfmbdpkkhnaadoor", sum := "8bf13b4e076e54f29ef2b0c7831f6e4a7d2dc5e2d8ca84f1ab9b8fb34186c7de", func := "wharfinger/wharfingerlaw08.HandlesPuts", spec := "handlesPuts", unfollowed := true, recurses := true, named := ["internal/strconv.uint64pow10", "math/bits.deBruijn32tab", "math/bits.deBruijn64tab"], apart := false, laid := [("math/bits.deBruijn32tab", laid_math_bits_deBruijn32tab), ("math/bits.deBruijn64tab", laid_math_bits_deBruijn64tab), ("internal/strconv.uint64pow10", laid_internal_strconv_uint64pow10)], narrowed := true }
def HandlesPutsUptoSaid : Prop := handlesPutsUptoRow.holds Tryd.pinned (OpenSpec.upto handlesPutsSpec)

end Rows
end Go.Proofs.YtgkbfmbdpkkhnaaDoor
