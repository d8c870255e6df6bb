/- What times.Check, Less and Add (and the reference's) hand back; nothing that lay before has turned. -/
import Derived.Laws.StructEq
import Derived.Laws.ResultCell
import Derived.Test.YtgkbfmbdpkkhnaaDoorLib
namespace Go.Proofs.YtgkbfmbdpkkhnaaDoor.Hand
open Go.RowKit

/-- Is a point of time ahead of another one? -/
def ltT (s n t m : Int) : Bool := decide (s < t) || (decide (s = t) && decide (n < m))

theorem check (s n : Int) (w : World) : Calls Tryd.prog 63 #[.agg #[.int .u32 s, .int .u32 n]] w fun e w' => e = .returned (.bool (decide (n < 1000000000))) ∧ Below w.heap.size w w' := by
  go_enter Tryd.func63, Tryd.ntmps63
  go_wp2
  go_ret
  exact ⟨rfl, (Below.refl _ _).alloc (Nat.le_refl _) _⟩
theorem rcheck (s n : Int) (w : World) : Calls Tryd.prog 64 #[.agg #[.int .u32 s, .int .u32 n]] w fun e w' => e = .returned (.bool (decide (n < 1000000000))) ∧ Below w.heap.size w w' := by
  go_enter Tryd.func64, Tryd.ntmps64
  go_wp2
  go_ret
  exact ⟨rfl, (Below.refl _ _).alloc (Nat.le_refl _) _⟩

set_option linter.unusedSimpArgs false

end Go.Proofs.YtgkbfmbdpkkhnaaDoor.Hand
