/- slices.Grow of nil, slices.Concat and slices.Clone of bytes: a slice of the call's own; nothing that lay before has turned. -/
import Derived.Lib.AppendZerosOnto
import Derived.Lib.SliceRun
import Derived.Test.YtoodmjdafifbmaaDoorApp
namespace Go.Proofs.YtoodmjdafifbmaaDoor.Hand
open Go.RowKit
set_option linter.unusedVariables false

set_option maxRecDepth 100000 in
set_option maxHeartbeats 1000000 in
theorem clone (ad : Addr) (c : Nat) (l : List Int) (w : World) (hr : Rd w (some ad) l) (hn : l.length ≤ 140737488351232) :
    Calls Tryd.prog 57 #[.slice (some ad) l.length c] w fun e w' => ∃ v, e = .returned v ∧ Own w' w.heap.size v l ∧ Below w.heap.size w w' := by
  have q22 : ∀ (w : World) (a : Option Addr) (n c n' c' : Nat), (binOp .eql 24 (.slice a n c) (.slice none n' c')).run Tryd.prog w = .ok (.bool a.isNone) w := fun w a n c n' c' => Lib.run_eql_slice_nil w _ _ a n c n' c' Tryd.underlying24
  have ho : Own (w.alloc (.cells #[] 5)) w.heap.size (.slice (some ⟨w.heap.size, 0, none⟩) 0 0) [] := ⟨Bs.nil, World.ownsRow_made w #[] 0 (Nat.le_refl _) (Nat.zero_le _) rfl⟩
  have hB : Below w.heap.size w (w.alloc (.cells #[] 5)) := (Below.refl _ w).alloc (Nat.le_refl _) _
  go_enter Tryd.func57, Tryd.ntmps57
  go_wp2_with (at_builtin; refine wpList_app rfl _ _ rfl rfl _ w.heap.size _ [] (by rfl) ho (some ad) c l rfl (hr.alloc _) ?h1 hB.size ?h2)
  case h1 => simp; omega
  case h2 =>
    intro v' w5 ho5 hg5 _
    go_wp2
    go_ret
    exact ⟨_, rfl, ho5, ho.grown hB hB.size hg5⟩
end Go.Proofs.YtoodmjdafifbmaaDoor.Hand
