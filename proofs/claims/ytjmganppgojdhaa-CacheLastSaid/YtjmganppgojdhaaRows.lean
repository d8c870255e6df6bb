/-
  No cell of these rows narrows 'for every input' (looked for: loops, veiled, ifaces, maps, wideKeys, modest, calm, conditions, laid).
  DERIVED. THE GIVEN ROWS OF THIS SEAT. 6 by the template 'for every input the law returns true; each argument reads behind the call as it read before'; 0 by the template 'total and deterministic' (their statements: YtjmganppgojdhaaTotals.lean).
  GIVEN WITH THE SEED: the statements are not yours to turn. If you find one false, say at which input.
  Laid BY PROGRAM, IN A SANDBOX (cutbox-rows.mjs): the forced cells as the released guide's own fill.sh prints them over the translation 6143edec2ea06e8f… (all of the seat's roots in one cut). By AI agents, Wed Nov 11 2026. No macro, syntax, notation, axiom, sorry.
-/
import Derived.Test.YtjmganppgojdhaaChecked
import GoSem.Claim
import GoSem.ClaimJoined
import GoSem.ClaimMapViews
import Derived.JoinedTies
import Derived.KernelRfl
namespace Go.Proofs.Ytjmganppgojdhaa
/- THE CELL 'sum', in the pinned program and in every row, IS THE sha256 OF THE DUMP (.gsa) THAT YtjmganppgojdhaaProg.lean LOADS. Nothing in Lean hashes anything: it is a label: what it is worth is what the hold of that sum in a sandbox is worth. -/
noncomputable def Try.pinned : Pinned := { name := "ytjmganppgojdhaa", sum := "6143edec2ea06e8fe9d5525a05827abf9823fac38a0299aed3b005b12c0c2447", checked := Try.checked }
namespace Rows
def none {H : Type} : Left H := { results := [], args := [] }

/-- 'wharfingerlaw22.CacheLast': WHATEVER THE INPUT: true; the input reads as it did. -/
def cacheLastSpec : ChangeSpec := { name := "cacheLast", fn := fun _ => fun
  | [d1, d2] => { results := [.lit (.bool true)], args := [d1, d2] }
  | _ => none }
def cacheLastRow : OpenClaim := { program := "ytjmganppgojdhaa", sum := "6143edec2ea06e8fe9d5525a05827abf9823fac38a0299aed3b005b12c0c2447", func := "wharfinger/wharfingerlaw22.CacheLast", spec := "cacheLast", plainKeys := false, apart := false }
def CacheLastSaid : Prop := cacheLastRow.holds Try.pinned (OpenSpec.ofChange cacheLastSpec)

/-- ITS FALSE NEIGHBOUR: 'it returns false'. Refute it at one input. -/
def cacheLastWrong : ChangeSpec := { name := "cacheLast", fn := fun _ => fun
  | [d1, d2] => { results := [.lit (.bool false)], args := [d1, d2] }
  | _ => none }
def CacheLastWrongFalsely : Prop := cacheLastRow.holds Try.pinned (OpenSpec.ofChange cacheLastWrong)

/-- 'wharfingerlaw04.MarksBack': WHATEVER THE INPUT: true; the input reads as it did. -/
def marksBackSpec : ChangeSpec := { name := "marksBack", fn := fun _ => fun
  | [d1, d2, d3] => { results := [.lit (.bool true)], args := [d1, d2, d3] }
  | _ => none }
def marksBackRow : OpenClaim := { program := "ytjmganppgojdhaa", sum := "6143edec2ea06e8fe9d5525a05827abf9823fac38a0299aed3b005b12c0c2447", func := "wharfinger/wharfingerlaw04.MarksBack", spec := "marksBack", unfollowed := true, recurses := true, plainKeys := false, apart := false }
def MarksBackSaid : Prop := marksBackRow.holds Try.pinned (OpenSpec.ofChange marksBackSpec)

/-- ITS FALSE NEIGHBOUR: 'it returns false'. Refute it at one input. -/
def marksBackWrong : ChangeSpec := { name := "marksBack", fn := fun _ => fun
  | [d1, d2, d3] => { results := [.lit (.bool false)], args := [d1, d2, d3] }
  | _ => none }
def MarksBackWrongFalsely : Prop := marksBackRow.holds Try.pinned (OpenSpec.ofChange marksBackWrong)

/-- 'wharfingerlaw04.MarksRow': WHATEVER THE INPUT: true; the input reads as it did. -/
def marksRowSpec : ChangeSpec := { name := "marksRow", fn := fun _ => fun
  | [d1, d2, d3] => { results := [.lit (.bool true)], args := [d1, d2, d3] }
  | _ => none }
def marksRowRow : OpenClaim := { program := "ytjmganppgojdhaa", sum := "6143edec2ea06e8fe9d5525a05827abf9823fac38a0299aed3b005b12c0c2447", func := "wharfinger/wharfingerlaw04.MarksRow", spec := "marksRow", unfollowed := true, recurses := true, plainKeys := false, apart := false }
def MarksRowSaid : Prop := marksRowRow.holds Try.pinned (OpenSpec.ofChange marksRowSpec)

/-- ITS FALSE NEIGHBOUR: 'it returns false'. Refute it at one input. -/
def marksRowWrong : ChangeSpec := { name := "marksRow", fn := fun _ => fun
  | [d1, d2, d3] => { results := [.lit (.bool false)], args := [d1, d2, d3] }
  | _ => none }
def MarksRowWrongFalsely : Prop := marksRowRow.holds Try.pinned (OpenSpec.ofChange marksRowWrong)

/-- 'wharfingerlaw04.MarksOn': WHATEVER THE INPUT: true; the input reads as it did. -/
def marksOnSpec : ChangeSpec := { name := "marksOn", fn := fun _ => fun
  | [d1, d2] => { results := [.lit (.bool true)], args := [d1, d2] }
  | _ => none }
def marksOnRow : OpenClaim := { program := "ytjmganppgojdhaa", sum := "6143edec2ea06e8fe9d5525a05827abf9823fac38a0299aed3b005b12c0c2447", func := "wharfinger/wharfingerlaw04.MarksOn", spec := "marksOn", unfollowed := true, recurses := true, plainKeys := false, apart := false }
def MarksOnSaid : Prop := marksOnRow.holds Try.pinned (OpenSpec.ofChange marksOnSpec)

/-- ITS FALSE NEIGHBOUR: 'it returns false'. Refute it at one input. -/
def marksOnWrong : ChangeSpec := { name := "marksOn", fn := fun _ => fun
  | [d1, d2] => { results := [.lit (.bool false)], args := [d1, d2] }
  | _ => none }
def MarksOnWrongFalsely : Prop := marksOnRow.holds Try.pinned (OpenSpec.ofChange marksOnWrong)

/-- 'wharfingerlaw04.MarksOne': WHATEVER THE INPUT: true; the input reads as it did. -/
def marksOneSpec : ChangeSpec := { name := "marksOne", fn := fun _ => fun
  | [d] => { results := [.lit (.bool true)], args := [d] }
  | _ => none }
def marksOneRow : OpenClaim := { program := "ytjmganppgojdhaa", sum := "6143edec2ea06e8fe9d5525a05827abf9823fac38a0299aed3b005b12c0c2447", func := "wharfinger/wharfingerlaw04.MarksOne", spec := "marksOne", unfollowed := true, recurses := true, plainKeys := false, apart := false }
def MarksOneSaid : Prop := marksOneRow.holds Try.pinned (OpenSpec.ofChange marksOneSpec)

/-- ITS FALSE NEIGHBOUR: 'it returns false'. Refute it at one input. -/
def marksOneWrong : ChangeSpec := { name := "marksOne", fn := fun _ => fun
  | [d] => { results := [.lit (.bool false)], args := [d] }
  | _ => none }
def MarksOneWrongFalsely : Prop := marksOneRow.holds Try.pinned (OpenSpec.ofChange marksOneWrong)

/-- 'wharfingerlaw04.MarksGreat': WHATEVER THE INPUT: true; the input reads as it did. -/
def marksGreatSpec : ChangeSpec := { name := "marksGreat", fn := fun _ => fun
  | [d1, d2] => { results := [.lit (.bool true)], args := [d1, d2] }
  | _ => none }
def marksGreatRow : OpenClaim := { program := "ytjmganppgojdhaa", sum := "6143edec2ea06e8fe9d5525a05827abf9823fac38a0299aed3b005b12c0c2447", func := "wharfinger/wharfingerlaw04.MarksGreat", spec := "marksGreat", unfollowed := true, recurses := true, plainKeys := false, apart := false }
def MarksGreatSaid : Prop := marksGreatRow.holds Try.pinned (OpenSpec.ofChange marksGreatSpec)

/-- ITS FALSE NEIGHBOUR: 'it returns false'. Refute it at one input. -/
def marksGreatWrong : ChangeSpec := { name := "marksGreat", fn := fun _ => fun
  | [d1, d2] => { results := [.lit (.bool false)], args := [d1, d2] }
  | _ => none }
def MarksGreatWrongFalsely : Prop := marksGreatRow.holds Try.pinned (OpenSpec.ofChange marksGreatWrong)

/- THE SECOND FORM. 'bulk': how many values and letters a reading holds, each counted each time it is reached (what is shared counts as often as it is met; a slice's spare places count too). A statement '..UptoSaid' is the law's where the arguments, and the package variables that the reading takes, are together of bulk at most 1048576: NARROWER than '..Said'. Prove '..Said' where nothing that the law and all that it calls make is longer than what came in: it says more and counts as full. Else prove '..UptoSaid'. A law counts once. -/
mutual
def uptoBulk {H : Type} : DataW H → Nat
  | .lit (.string bytes) => bytes.length + 1
  | .lit _ => 1
  | .nil => 1
  | .ptr d => uptoBulk d + 1
  | .slice elems spare => uptoBulkAll elems + uptoBulkAll spare + 1
  | .agg parts => uptoBulkAll parts + 1
  | .iface _ d => uptoBulk d + 1
  | .map entries => uptoBulkEntries entries + 1
  | .held _ => 1
def uptoBulkAll {H : Type} : List (DataW H) → Nat
  | [] => 0
  | d :: r => uptoBulk d + uptoBulkAll r
def uptoBulkEntries {H : Type} : List (Lit × DataW H) → Nat
  | [] => 0
  | x :: r => uptoBulkEntry x + uptoBulkEntries r
def uptoBulkEntry {H : Type} : Lit × DataW H → Nat
  | (.string bytes, d) => bytes.length + uptoBulk d + 1
  | (_, d) => uptoBulk d + 1
 end
def uptoSmall : (H : Type) → List (DataW H) → Bool := fun _ ds => decide (uptoBulkAll ds ≤ 1048576)
def OpenSpec.upto (s : _root_.Go.ChangeSpec) : _root_.Go.OpenSpec := { _root_.Go.OpenSpec.ofChange s with cond := some uptoSmall }

/-- 'wharfingerlaw22.CacheLast', WHERE WHAT IT READS IS OF BULK AT MOST 1048576: true; the input reads as it did. -/
def cacheLastUptoRow : OpenClaim := { program := "ytjmganppgojdhaa", sum := "6143edec2ea06e8fe9d5525a05827abf9823fac38a0299aed3b005b12c0c2447", func := "wharfinger/wharfingerlaw22.CacheLast", spec := "cacheLast", plainKeys := false, apart := false, narrowed := true }
def CacheLastUptoSaid : Prop := cacheLastUptoRow.holds Try.pinned (OpenSpec.upto cacheLastSpec)

/-- 'wharfingerlaw04.MarksBack', WHERE WHAT IT READS IS OF BULK AT MOST 1048576: true; the input reads as it did. -/
def marksBackUptoRow : OpenClaim := { program := "ytjmganppgojdhaa", sum := "6143edec2ea06e8fe9d5525a05827abf9823fac38a0299aed3b005b12c0c2447", func := "wharfinger/wharfingerlaw04.MarksBack", spec := "marksBack", unfollowed := true, recurses := true, plainKeys := false, apart := false, narrowed := true }
def MarksBackUptoSaid : Prop := marksBackUptoRow.holds Try.pinned (OpenSpec.upto marksBackSpec)

/-- 'wharfingerlaw04.MarksRow', WHERE WHAT IT READS IS OF BULK AT MOST 1048576: true; the input reads as it did. -/
def marksRowUptoRow : OpenClaim := { program := "ytjmganppgojdhaa", sum := "6143edec2ea06e8fe9d5525a05827abf9823fac38a0299aed3b005b12c0c2447", func := "wharfinger/wharfingerlaw04.MarksRow", spec := "marksRow", unfollowed := true, recurses := true, plainKeys := false, apart := false, narrowed := true }
def MarksRowUptoSaid : Prop := marksRowUptoRow.holds Try.pinned (OpenSpec.upto marksRowSpec)

/-- 'wharfingerlaw04.MarksOn', WHERE WHAT IT READS IS OF BULK AT MOST 1048576: true; the input reads as it did. -/
def marksOnUptoRow : OpenClaim := { program := "ytjmganppgojdhaa", sum := "6143edec2ea06e8fe9d5525a05827abf9823fac38a0299aed3b005b12c0c2447", func := "wharfinger/wharfingerlaw04.MarksOn", spec := "marksOn", unfollowed := true, recurses := true, plainKeys := false, apart := false, narrowed := true }
def MarksOnUptoSaid : Prop := marksOnUptoRow.holds Try.pinned (OpenSpec.upto marksOnSpec)

/-- 'wharfingerlaw04.MarksOne', WHERE WHAT IT READS IS OF BULK AT MOST 1048576: true; the input reads as it did. -/
def marksOneUptoRow : OpenClaim := { program := "ytjmganppgojdhaa", sum := "6143edec2ea06e8fe9d5525a05827abf9823fac38a0299aed3b005b12c0c2447", func := "wharfinger/wharfingerlaw04.MarksOne", spec := "marksOne", unfollowed := true, recurses := true, plainKeys := false, apart := false, narrowed := true }
def MarksOneUptoSaid : Prop := marksOneUptoRow.holds Try.pinned (OpenSpec.upto marksOneSpec)

/-- 'wharfingerlaw04.MarksGreat', WHERE WHAT IT READS IS OF BULK AT MOST 1048576: true; the input reads as it did. -/
def marksGreatUptoRow : OpenClaim := { program := "ytjmganppgojdhaa", sum := "6143edec2ea06e8fe9d5525a05827abf9823fac38a0299aed3b005b12c0c2447", func := "wharfinger/wharfingerlaw04.MarksGreat", spec := "marksGreat", unfollowed := true, recurses := true, plainKeys := false, apart := false, narrowed := true }
def MarksGreatUptoSaid : Prop := marksGreatUptoRow.holds Try.pinned (OpenSpec.upto marksGreatSpec)

end Rows
end Go.Proofs.Ytjmganppgojdhaa
