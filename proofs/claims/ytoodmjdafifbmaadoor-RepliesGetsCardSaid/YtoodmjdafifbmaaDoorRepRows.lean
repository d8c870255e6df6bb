/- The map of all replies' rows: what replies.rows answers. -/
import Derived.Maps.Own
import Derived.Test.YtoodmjdafifbmaaDoorWLast
import Derived.Test.YtoodmjdafifbmaaDoorLib
namespace Go.Proofs.YtoodmjdafifbmaaDoor.Hand
open Go.RowKit Go.Proofs.YtoodmjdafifbmaaDoorW.PrintLast
open Go.Maps (Keyed)
set_option linter.unusedVariables false

theorem keyA : Keyed Tryd.prog 23 := Go.Maps.int_keyed Tryd.underlying23
/-- A map's elements, each as itself. -/
def asSelf (v : Value) : Option (DataW Value × List MemPlace) := some (.held v, [])
/-- A row: its numbers, how many are told, whether there is a body. -/
def rowV (g n : Nat) (told : Int) (body : Bool) : Value := .agg #[.slice (some ⟨g, 0, none⟩) n n, .int .i64 told, .bool body]
/-- The rows at block b, the numbers of the row number i at the block g i. -/
def RowsAt (w : World) (b : Nat) (g : Nat → Nat) : Prop :=
  w.ownsMap Tryd.prog 23 asSelf b 7 (.map [(.int .u32 0, .held (rowV (g 0) 4 0 true)), (.int .u32 1, .held (rowV (g 1) 4 0 false)), (.int .u32 2, .held (rowV (g 2) 4 2 false)), (.int .u32 3, .held (rowV (g 3) 4 0 false)), (.int .u32 4, .held (rowV (g 4) 4 0 false)), (.int .u32 100, .held (rowV (g 5) 2 2 false)), (.int .u32 101, .held (rowV (g 6) 2 1 false))]) ∧ Blk w (g 0) 22 #[.int .u32 0, .int .u32 0, .int .u32 0, .int .u32 0] ∧ Blk w (g 1) 22 #[.int .u32 0, .int .u32 0, .int .u32 0, .int .u32 1] ∧ Blk w (g 2) 22 #[.int .u32 0, .int .u32 0, .int .u32 0, .int .u32 2] ∧ Blk w (g 3) 22 #[.int .u32 0, .int .u32 0, .int .u32 0, .int .u32 3] ∧ Blk w (g 4) 22 #[.int .u32 0, .int .u32 0, .int .u32 0, .int .u32 4] ∧ Blk w (g 5) 22 #[.int .u32 1, .int .u32 0] ∧ Blk w (g 6) 22 #[.int .u32 1, .int .u32 1]

set_option maxRecDepth 100000 in
set_option maxHeartbeats 2000000 in
theorem rows_ (w : World) : Calls Tryd.prog 29 #[] w fun e w' => ∃ b g, e = .returned (.map (some b)) ∧ w.heap.size ≤ b ∧ (∀ i, i < 7 → b < g i) ∧ RowsAt w' b g ∧ Below w.heap.size w w' := by
  go_enter Tryd.func29, Tryd.ntmps29
  go_wp2
  rw [run_makeMap]
  have m0 : (w.alloc (.map #[] 0)).ownsMap Tryd.prog 23 asSelf w.heap.size 0 (.map []) := World.ownsMap_made _ _ _ _
  have B0 : Below w.heap.size w (w.alloc (.map #[] 0)) := (Below.refl _ w).alloc (Nat.le_refl _) _
  have l0 := m0.lt
  generalize w.alloc (.map #[] 0) = x0 at *
  go_wp2
  have m0' := m0.alloc (.cells #[.int .u32 0, .int .u32 0, .int .u32 0, .int .u32 0] 22)
  have c0 := Blk.new x0 22 #[.int .u32 0, .int .u32 0, .int .u32 0, .int .u32 0]
  obtain ⟨x1, hrun, m1, hg⟩ := m0'.update keyA Tryd.underlying70 (by unfold maxLen; omega) (key := .int .u32 0) (val := rowV x0.heap.size 4 0 true) rfl rfl
  unfold rowV at hrun
  rw [hrun]
  have B1 := (B0.alloc (by have := B0.size; omega) (.cells #[.int .u32 0, .int .u32 0, .int .u32 0, .int .u32 0] 22)).grown hg (by have := B0.size; simp; omega) (fun q hq => by cases hq; omega)
  have l1 : x0.heap.size < x1.heap.size := by have := hg.size; simp at this; omega
  have c0 := c0.grown hg (by intro e; have := Option.some.inj e; omega)
  clear hrun hg m0' m0
  go_wp2
  have m1' := m1.alloc (.cells #[.int .u32 0, .int .u32 0, .int .u32 0, .int .u32 1] 22)
  have c1 := Blk.new x1 22 #[.int .u32 0, .int .u32 0, .int .u32 0, .int .u32 1]
  have c0 := c0.alloc (.cells #[.int .u32 0, .int .u32 0, .int .u32 0, .int .u32 1] 22)
  obtain ⟨x2, hrun, m2, hg⟩ := m1'.update keyA Tryd.underlying70 (by unfold maxLen; omega) (key := .int .u32 1) (val := rowV x1.heap.size 4 0 false) rfl rfl
  unfold rowV at hrun
  rw [hrun]
  have B2 := (B1.alloc (by have := B1.size; omega) (.cells #[.int .u32 0, .int .u32 0, .int .u32 0, .int .u32 1] 22)).grown hg (by have := B1.size; simp; omega) (fun q hq => by cases hq; omega)
  have l2 : x1.heap.size < x2.heap.size := by have := hg.size; simp at this; omega
  have c0 := c0.grown hg (by intro e; have := Option.some.inj e; omega)
  have c1 := c1.grown hg (by intro e; have := Option.some.inj e; omega)
  clear hrun hg m1' m1
  go_wp2
  have m2' := m2.alloc (.cells #[.int .u32 0, .int .u32 0, .int .u32 0, .int .u32 2] 22)
  have c2 := Blk.new x2 22 #[.int .u32 0, .int .u32 0, .int .u32 0, .int .u32 2]
  have c0 := c0.alloc (.cells #[.int .u32 0, .int .u32 0, .int .u32 0, .int .u32 2] 22)
  have c1 := c1.alloc (.cells #[.int .u32 0, .int .u32 0, .int .u32 0, .int .u32 2] 22)
  obtain ⟨x3, hrun, m3, hg⟩ := m2'.update keyA Tryd.underlying70 (by unfold maxLen; omega) (key := .int .u32 2) (val := rowV x2.heap.size 4 2 false) rfl rfl
  unfold rowV at hrun
  rw [hrun]
  have B3 := (B2.alloc (by have := B2.size; omega) (.cells #[.int .u32 0, .int .u32 0, .int .u32 0, .int .u32 2] 22)).grown hg (by have := B2.size; simp; omega) (fun q hq => by cases hq; omega)
  have l3 : x2.heap.size < x3.heap.size := by have := hg.size; simp at this; omega
  have c0 := c0.grown hg (by intro e; have := Option.some.inj e; omega)
  have c1 := c1.grown hg (by intro e; have := Option.some.inj e; omega)
  have c2 := c2.grown hg (by intro e; have := Option.some.inj e; omega)
  clear hrun hg m2' m2
  go_wp2
  have m3' := m3.alloc (.cells #[.int .u32 0, .int .u32 0, .int .u32 0, .int .u32 3] 22)
  have c3 := Blk.new x3 22 #[.int .u32 0, .int .u32 0, .int .u32 0, .int .u32 3]
  have c0 := c0.alloc (.cells #[.int .u32 0, .int .u32 0, .int .u32 0, .int .u32 3] 22)
  have c1 := c1.alloc (.cells #[.int .u32 0, .int .u32 0, .int .u32 0, .int .u32 3] 22)
  have c2 := c2.alloc (.cells #[.int .u32 0, .int .u32 0, .int .u32 0, .int .u32 3] 22)
  obtain ⟨x4, hrun, m4, hg⟩ := m3'.update keyA Tryd.underlying70 (by unfold maxLen; omega) (key := .int .u32 3) (val := rowV x3.heap.size 4 0 false) rfl rfl
  unfold rowV at hrun
  rw [hrun]
  have B4 := (B3.alloc (by have := B3.size; omega) (.cells #[.int .u32 0, .int .u32 0, .int .u32 0, .int .u32 3] 22)).grown hg (by have := B3.size; simp; omega) (fun q hq => by cases hq; omega)
  have l4 : x3.heap.size < x4.heap.size := by have := hg.size; simp at this; omega
  have c0 := c0.grown hg (by intro e; have := Option.some.inj e; omega)
  have c1 := c1.grown hg (by intro e; have := Option.some.inj e; omega)
  have c2 := c2.grown hg (by intro e; have := Option.some.inj e; omega)
  have c3 := c3.grown hg (by intro e; have := Option.some.inj e; omega)
  clear hrun hg m3' m3
  go_wp2
  have m4' := m4.alloc (.cells #[.int .u32 0, .int .u32 0, .int .u32 0, .int .u32 4] 22)
  have c4 := Blk.new x4 22 #[.int .u32 0, .int .u32 0, .int .u32 0, .int .u32 4]
  have c0 := c0.alloc (.cells #[.int .u32 0, .int .u32 0, .int .u32 0, .int .u32 4] 22)
  have c1 := c1.alloc (.cells #[.int .u32 0, .int .u32 0, .int .u32 0, .int .u32 4] 22)
  have c2 := c2.alloc (.cells #[.int .u32 0, .int .u32 0, .int .u32 0, .int .u32 4] 22)
  have c3 := c3.alloc (.cells #[.int .u32 0, .int .u32 0, .int .u32 0, .int .u32 4] 22)
  obtain ⟨x5, hrun, m5, hg⟩ := m4'.update keyA Tryd.underlying70 (by unfold maxLen; omega) (key := .int .u32 4) (val := rowV x4.heap.size 4 0 false) rfl rfl
  unfold rowV at hrun
  rw [hrun]
  have B5 := (B4.alloc (by have := B4.size; omega) (.cells #[.int .u32 0, .int .u32 0, .int .u32 0, .int .u32 4] 22)).grown hg (by have := B4.size; simp; omega) (fun q hq => by cases hq; omega)
  have l5 : x4.heap.size < x5.heap.size := by have := hg.size; simp at this; omega
  have c0 := c0.grown hg (by intro e; have := Option.some.inj e; omega)
  have c1 := c1.grown hg (by intro e; have := Option.some.inj e; omega)
  have c2 := c2.grown hg (by intro e; have := Option.some.inj e; omega)
  have c3 := c3.grown hg (by intro e; have := Option.some.inj e; omega)
  have c4 := c4.grown hg (by intro e; have := Option.some.inj e; omega)
  clear hrun hg m4' m4
  go_wp2
  have m5' := m5.alloc (.cells #[.int .u32 1, .int .u32 0] 22)
  have c5 := Blk.new x5 22 #[.int .u32 1, .int .u32 0]
  have c0 := c0.alloc (.cells #[.int .u32 1, .int .u32 0] 22)
  have c1 := c1.alloc (.cells #[.int .u32 1, .int .u32 0] 22)
  have c2 := c2.alloc (.cells #[.int .u32 1, .int .u32 0] 22)
  have c3 := c3.alloc (.cells #[.int .u32 1, .int .u32 0] 22)
  have c4 := c4.alloc (.cells #[.int .u32 1, .int .u32 0] 22)
  obtain ⟨x6, hrun, m6, hg⟩ := m5'.update keyA Tryd.underlying70 (by unfold maxLen; omega) (key := .int .u32 100) (val := rowV x5.heap.size 2 2 false) rfl rfl
  unfold rowV at hrun
  rw [hrun]
  have B6 := (B5.alloc (by have := B5.size; omega) (.cells #[.int .u32 1, .int .u32 0] 22)).grown hg (by have := B5.size; simp; omega) (fun q hq => by cases hq; omega)
  have l6 : x5.heap.size < x6.heap.size := by have := hg.size; simp at this; omega
  have c0 := c0.grown hg (by intro e; have := Option.some.inj e; omega)
  have c1 := c1.grown hg (by intro e; have := Option.some.inj e; omega)
  have c2 := c2.grown hg (by intro e; have := Option.some.inj e; omega)
  have c3 := c3.grown hg (by intro e; have := Option.some.inj e; omega)
  have c4 := c4.grown hg (by intro e; have := Option.some.inj e; omega)
  have c5 := c5.grown hg (by intro e; have := Option.some.inj e; omega)
  clear hrun hg m5' m5
  go_wp2
  have m6' := m6.alloc (.cells #[.int .u32 1, .int .u32 1] 22)
  have c6 := Blk.new x6 22 #[.int .u32 1, .int .u32 1]
  have c0 := c0.alloc (.cells #[.int .u32 1, .int .u32 1] 22)
  have c1 := c1.alloc (.cells #[.int .u32 1, .int .u32 1] 22)
  have c2 := c2.alloc (.cells #[.int .u32 1, .int .u32 1] 22)
  have c3 := c3.alloc (.cells #[.int .u32 1, .int .u32 1] 22)
  have c4 := c4.alloc (.cells #[.int .u32 1, .int .u32 1] 22)
  have c5 := c5.alloc (.cells #[.int .u32 1, .int .u32 1] 22)
  obtain ⟨x7, hrun, m7, hg⟩ := m6'.update keyA Tryd.underlying70 (by unfold maxLen; omega) (key := .int .u32 101) (val := rowV x6.heap.size 2 1 false) rfl rfl
  unfold rowV at hrun
  rw [hrun]
  have B7 := (B6.alloc (by have := B6.size; omega) (.cells #[.int .u32 1, .int .u32 1] 22)).grown hg (by have := B6.size; simp; omega) (fun q hq => by cases hq; omega)
  have l7 : x6.heap.size < x7.heap.size := by have := hg.size; simp at this; omega
  have c0 := c0.grown hg (by intro e; have := Option.some.inj e; omega)
  have c1 := c1.grown hg (by intro e; have := Option.some.inj e; omega)
  have c2 := c2.grown hg (by intro e; have := Option.some.inj e; omega)
  have c3 := c3.grown hg (by intro e; have := Option.some.inj e; omega)
  have c4 := c4.grown hg (by intro e; have := Option.some.inj e; omega)
  have c5 := c5.grown hg (by intro e; have := Option.some.inj e; omega)
  have c6 := c6.grown hg (by intro e; have := Option.some.inj e; omega)
  clear hrun hg m6' m6
  go_wp2
  go_ret
  refine ⟨_, fun i => match i with | 0 => x0.heap.size | 1 => x1.heap.size | 2 => x2.heap.size | 3 => x3.heap.size | 4 => x4.heap.size | 5 => x5.heap.size | _ => x6.heap.size, rfl, Nat.le_refl _, fun i hi => ?_, ⟨m7, c0, c1, c2, c3, c4, c5, c6⟩, B7⟩
  match i, hi with
  | 0, _ => show _ < x0.heap.size; omega
  | 1, _ => show _ < x1.heap.size; omega
  | 2, _ => show _ < x2.heap.size; omega
  | 3, _ => show _ < x3.heap.size; omega
  | 4, _ => show _ < x4.heap.size; omega
  | 5, _ => show _ < x5.heap.size; omega
  | 6, _ => show _ < x6.heap.size; omega
  | j + 7, hj => omega
end Go.Proofs.YtoodmjdafifbmaaDoor.Hand
