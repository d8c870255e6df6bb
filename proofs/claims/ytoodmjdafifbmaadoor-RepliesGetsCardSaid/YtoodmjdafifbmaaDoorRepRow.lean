/- The statements' helpers: row, SameReply, is. -/
import Derived.Deep.LoopGhost
import Derived.Test.YtoodmjdafifbmaaDoorWLast
import Derived.Test.YtoodmjdafifbmaaDoorHelp
import Derived.Test.YtoodmjdafifbmaaDoorRepSum
namespace Go.Proofs.YtoodmjdafifbmaaDoor.Hand
open Go.RowKit Go.Proofs.YtoodmjdafifbmaaDoorW.PrintLast
set_option linter.unusedVariables false
set_option linter.unusedSimpArgs false


set_option maxRecDepth 100000 in
set_option maxHeartbeats 2000000 in
theorem sameRep (x h lo hi : Int) (A B : Option Addr) (c d : Nat) (l : List Int) (w : World) (hl : Rd w A l) (hm : Rd w B l) (hn : l.length ≤ 1048576) :
    Calls Tryd.prog 28 #[.agg #[.int .u32 x, .int .u32 h, .int .u32 lo, .int .u32 hi, .slice A l.length c], .agg #[.int .u32 x, .int .u32 h, .int .u32 lo, .int .u32 hi, .slice B l.length d]] w fun e w' => e = .returned (.bool true) ∧ Below w.heap.size w w' := by
  have b1 := (Blk.new w 26 #[.int .u32 x, .int .u32 h, .int .u32 lo, .int .u32 hi, .slice A l.length c]).alloc (.cells #[.int .u32 x, .int .u32 h, .int .u32 lo, .int .u32 hi, .slice B l.length d] 26)
  have b2 := Blk.new (w.alloc (.cells #[.int .u32 x, .int .u32 h, .int .u32 lo, .int .u32 hi, .slice A l.length c] 26)) 26 #[.int .u32 x, .int .u32 h, .int .u32 lo, .int .u32 hi, .slice B l.length d]
  have hB : Below w.heap.size w ((w.alloc (.cells #[.int .u32 x, .int .u32 h, .int .u32 lo, .int .u32 hi, .slice A l.length c] 26)).alloc (.cells #[.int .u32 x, .int .u32 h, .int .u32 lo, .int .u32 hi, .slice B l.length d] 26)) := ((Below.refl _ w).alloc (Nat.le_refl _) _).alloc (by simp) _
  rw [World.size_alloc] at b2
  have p0 := b1.cell 0 (v := .int .u32 x) rfl
  have p1 := b1.cell 1 (v := .int .u32 h) rfl
  have p2 := b1.cell 2 (v := .int .u32 lo) rfl
  have p3 := b1.cell 3 (v := .int .u32 hi) rfl
  have p4 := b1.cell 4 (v := .slice A l.length c) rfl
  have q0 := b2.cell 0 (v := .int .u32 x) rfl
  have q1 := b2.cell 1 (v := .int .u32 h) rfl
  have q2 := b2.cell 2 (v := .int .u32 lo) rfl
  have q3 := b2.cell 3 (v := .int .u32 hi) rfl
  have q4 := b2.cell 4 (v := .slice B l.length d) rfl
  have e0 : (x == x) = true := by simp
  have e1 : (h == h) = true := by simp
  have e2 : (lo == lo) = true := by simp
  have e3 : (hi == hi) = true := by simp
  have hs := same_yes (c := c) (d := d) (hl.below hB) (hm.below hB) rfl rfl rfl (by omega)
  go_enter Tryd.func28, Tryd.ntmps28
  go_wp2_with fail
  refine hs.mono ?_
  rintro e w1 ⟨rfl, hw1⟩
  have hB1 : Below w.heap.size w w1 := by first | exact below_then hB hw1 | (obtain ⟨n, hw1⟩ := hw1; exact below_then hB (below_drawn hw1))
  clear hs hw1
  go_wp2_with fail
  go_ret
  exact ⟨rfl, hB1⟩
end Go.Proofs.YtoodmjdafifbmaaDoor.Hand
