/- The statement TimesOrder, walked: of two unlike points of time one is ahead of the other one, and none of itself; of three it goes on. -/
import Derived.Test.YtofbcflnkmocjaaAlive09
namespace Go.Proofs.Ytofbcflnkmocjaa.Hand
open Go.RowKit
set_option linter.unusedVariables false

theorem lessv {s n t m : Int} {v : Bool} {w : World} (h : ltT s n t m = v) : Calls Try.prog 13 #[.agg #[.int .u32 s, .int .u32 n], .agg #[.int .u32 t, .int .u32 m]] w fun e w' => e = .returned (.bool v) ∧ Below w.heap.size w w' := by
  rw [← h]
  exact lessT s n t m w
theorem lt_iff {s n t m : Int} : ltT s n t m = true ↔ (s < t ∨ s = t ∧ n < m) := by simp [ltT]
theorem lt_self (s n : Int) : ltT s n s n = false := by simp [ltT]
theorem lt_no {s n t m : Int} (h : ¬ (s < t ∨ s = t ∧ n < m)) : ltT s n t m = false := by
  cases e : ltT s n t m with
  | false => rfl
  | true => exact absurd (lt_iff.1 e) h

set_option maxRecDepth 100000 in
set_option maxHeartbeats 4000000 in
theorem TimesOrder_lt_sec_true (s n t m u k : Int) (w : World) (hX : ltT s n t m = true) (hY : ltT t m s n = false) (hZ : ltT t m u k = true) (hU : ltT s n u k = true) (h1 : (s == t) = false) (h2 : (s != t) = true) :
    Calls Try.prog 6 #[.agg #[.int .u32 s, .int .u32 n], .agg #[.int .u32 t, .int .u32 m], .agg #[.int .u32 u, .int .u32 k]] w fun e w' => e = .returned (.bool true) ∧ Below w.heap.size w w' := by
  have Ba := ((Blk.new w 24 #[.int .u32 s, .int .u32 n]).alloc (.cells #[.int .u32 t, .int .u32 m] 24)).alloc (.cells #[.int .u32 u, .int .u32 k] 24)
  have Bb := (Blk.new (w.alloc (.cells #[.int .u32 s, .int .u32 n] 24)) 24 #[.int .u32 t, .int .u32 m]).alloc (.cells #[.int .u32 u, .int .u32 k] 24)
  have Bc := Blk.new ((w.alloc (.cells #[.int .u32 s, .int .u32 n] 24)).alloc (.cells #[.int .u32 t, .int .u32 m] 24)) 24 #[.int .u32 u, .int .u32 k]
  have hB : Below w.heap.size w (((w.alloc (.cells #[.int .u32 s, .int .u32 n] 24)).alloc (.cells #[.int .u32 t, .int .u32 m] 24)).alloc (.cells #[.int .u32 u, .int .u32 k] 24)) := (((Below.refl _ _).alloc (Nat.le_refl _) _).alloc (by simp) _).alloc (by simp; omega) _
  simp only [World.size_alloc] at Bb Bc
  go_enter Try.func6, Try.ntmps6
  go_wp2_with fail
  refine (lessv hX).mono ?_
  rintro e w1 ⟨rfl, hb⟩
  have Ba := Ba.below hb
  have ka0 := Ba.cell 0 (v := .int .u32 s) rfl
  have ka1 := Ba.cell 1 (v := .int .u32 n) rfl
  have Bb := Bb.below hb
  have kb0 := Bb.cell 0 (v := .int .u32 t) rfl
  have kb1 := Bb.cell 1 (v := .int .u32 m) rfl
  have Bc := Bc.below hb
  have kc0 := Bc.cell 0 (v := .int .u32 u) rfl
  have kc1 := Bc.cell 1 (v := .int .u32 k) rfl
  have hB := below_then hB hb
  clear hb
  go_wp2_with fail
  refine (lessv hY).mono ?_
  rintro e w1 ⟨rfl, hb⟩
  have Ba := Ba.below hb
  have ka0 := Ba.cell 0 (v := .int .u32 s) rfl
  have ka1 := Ba.cell 1 (v := .int .u32 n) rfl
  have Bb := Bb.below hb
  have kb0 := Bb.cell 0 (v := .int .u32 t) rfl
  have kb1 := Bb.cell 1 (v := .int .u32 m) rfl
  have Bc := Bc.below hb
  have kc0 := Bc.cell 0 (v := .int .u32 u) rfl
  have kc1 := Bc.cell 1 (v := .int .u32 k) rfl
  have hB := below_then hB hb
  clear hb
  go_wp2_with fail
  refine (alive09 _).mono ?_
  rintro e w1 ⟨rfl, hb⟩
  have Ba := Ba.below hb
  have ka0 := Ba.cell 0 (v := .int .u32 s) rfl
  have ka1 := Ba.cell 1 (v := .int .u32 n) rfl
  have Bb := Bb.below hb
  have kb0 := Bb.cell 0 (v := .int .u32 t) rfl
  have kb1 := Bb.cell 1 (v := .int .u32 m) rfl
  have Bc := Bc.below hb
  have kc0 := Bc.cell 0 (v := .int .u32 u) rfl
  have kc1 := Bc.cell 1 (v := .int .u32 k) rfl
  have hB := below_then hB hb
  clear hb
  go_wp2_with fail
  refine (lessv (lt_self s n)).mono ?_
  rintro e w1 ⟨rfl, hb⟩
  have Ba := Ba.below hb
  have ka0 := Ba.cell 0 (v := .int .u32 s) rfl
  have ka1 := Ba.cell 1 (v := .int .u32 n) rfl
  have Bb := Bb.below hb
  have kb0 := Bb.cell 0 (v := .int .u32 t) rfl
  have kb1 := Bb.cell 1 (v := .int .u32 m) rfl
  have Bc := Bc.below hb
  have kc0 := Bc.cell 0 (v := .int .u32 u) rfl
  have kc1 := Bc.cell 1 (v := .int .u32 k) rfl
  have hB := below_then hB hb
  clear hb
  go_wp2_with fail
  refine (lessv hZ).mono ?_
  rintro e w1 ⟨rfl, hb⟩
  have Ba := Ba.below hb
  have ka0 := Ba.cell 0 (v := .int .u32 s) rfl
  have ka1 := Ba.cell 1 (v := .int .u32 n) rfl
  have Bb := Bb.below hb
  have kb0 := Bb.cell 0 (v := .int .u32 t) rfl
  have kb1 := Bb.cell 1 (v := .int .u32 m) rfl
  have Bc := Bc.below hb
  have kc0 := Bc.cell 0 (v := .int .u32 u) rfl
  have kc1 := Bc.cell 1 (v := .int .u32 k) rfl
  have hB := below_then hB hb
  clear hb
  go_wp2_with fail
  refine (lessv hU).mono ?_
  rintro e w1 ⟨rfl, hb⟩
  have Ba := Ba.below hb
  have ka0 := Ba.cell 0 (v := .int .u32 s) rfl
  have ka1 := Ba.cell 1 (v := .int .u32 n) rfl
  have Bb := Bb.below hb
  have kb0 := Bb.cell 0 (v := .int .u32 t) rfl
  have kb1 := Bb.cell 1 (v := .int .u32 m) rfl
  have Bc := Bc.below hb
  have kc0 := Bc.cell 0 (v := .int .u32 u) rfl
  have kc1 := Bc.cell 1 (v := .int .u32 k) rfl
  have hB := below_then hB hb
  clear hb
  go_wp2
  go_ret
  exact ⟨rfl, hB⟩

set_option maxRecDepth 100000 in
set_option maxHeartbeats 4000000 in
theorem TimesOrder_lt_sec_false (s n t m u k : Int) (w : World) (hX : ltT s n t m = true) (hY : ltT t m s n = false) (hZ : ltT t m u k = false) (h1 : (s == t) = false) (h2 : (s != t) = true) :
    Calls Try.prog 6 #[.agg #[.int .u32 s, .int .u32 n], .agg #[.int .u32 t, .int .u32 m], .agg #[.int .u32 u, .int .u32 k]] w fun e w' => e = .returned (.bool true) ∧ Below w.heap.size w w' := by
  have Ba := ((Blk.new w 24 #[.int .u32 s, .int .u32 n]).alloc (.cells #[.int .u32 t, .int .u32 m] 24)).alloc (.cells #[.int .u32 u, .int .u32 k] 24)
  have Bb := (Blk.new (w.alloc (.cells #[.int .u32 s, .int .u32 n] 24)) 24 #[.int .u32 t, .int .u32 m]).alloc (.cells #[.int .u32 u, .int .u32 k] 24)
  have Bc := Blk.new ((w.alloc (.cells #[.int .u32 s, .int .u32 n] 24)).alloc (.cells #[.int .u32 t, .int .u32 m] 24)) 24 #[.int .u32 u, .int .u32 k]
  have hB : Below w.heap.size w (((w.alloc (.cells #[.int .u32 s, .int .u32 n] 24)).alloc (.cells #[.int .u32 t, .int .u32 m] 24)).alloc (.cells #[.int .u32 u, .int .u32 k] 24)) := (((Below.refl _ _).alloc (Nat.le_refl _) _).alloc (by simp) _).alloc (by simp; omega) _
  simp only [World.size_alloc] at Bb Bc
  go_enter Try.func6, Try.ntmps6
  go_wp2_with fail
  refine (lessv hX).mono ?_
  rintro e w1 ⟨rfl, hb⟩
  have Ba := Ba.below hb
  have ka0 := Ba.cell 0 (v := .int .u32 s) rfl
  have ka1 := Ba.cell 1 (v := .int .u32 n) rfl
  have Bb := Bb.below hb
  have kb0 := Bb.cell 0 (v := .int .u32 t) rfl
  have kb1 := Bb.cell 1 (v := .int .u32 m) rfl
  have Bc := Bc.below hb
  have kc0 := Bc.cell 0 (v := .int .u32 u) rfl
  have kc1 := Bc.cell 1 (v := .int .u32 k) rfl
  have hB := below_then hB hb
  clear hb
  go_wp2_with fail
  refine (lessv hY).mono ?_
  rintro e w1 ⟨rfl, hb⟩
  have Ba := Ba.below hb
  have ka0 := Ba.cell 0 (v := .int .u32 s) rfl
  have ka1 := Ba.cell 1 (v := .int .u32 n) rfl
  have Bb := Bb.below hb
  have kb0 := Bb.cell 0 (v := .int .u32 t) rfl
  have kb1 := Bb.cell 1 (v := .int .u32 m) rfl
  have Bc := Bc.below hb
  have kc0 := Bc.cell 0 (v := .int .u32 u) rfl
  have kc1 := Bc.cell 1 (v := .int .u32 k) rfl
  have hB := below_then hB hb
  clear hb
  go_wp2_with fail
  refine (alive09 _).mono ?_
  rintro e w1 ⟨rfl, hb⟩
  have Ba := Ba.below hb
  have ka0 := Ba.cell 0 (v := .int .u32 s) rfl
  have ka1 := Ba.cell 1 (v := .int .u32 n) rfl
  have Bb := Bb.below hb
  have kb0 := Bb.cell 0 (v := .int .u32 t) rfl
  have kb1 := Bb.cell 1 (v := .int .u32 m) rfl
  have Bc := Bc.below hb
  have kc0 := Bc.cell 0 (v := .int .u32 u) rfl
  have kc1 := Bc.cell 1 (v := .int .u32 k) rfl
  have hB := below_then hB hb
  clear hb
  go_wp2_with fail
  refine (lessv (lt_self s n)).mono ?_
  rintro e w1 ⟨rfl, hb⟩
  have Ba := Ba.below hb
  have ka0 := Ba.cell 0 (v := .int .u32 s) rfl
  have ka1 := Ba.cell 1 (v := .int .u32 n) rfl
  have Bb := Bb.below hb
  have kb0 := Bb.cell 0 (v := .int .u32 t) rfl
  have kb1 := Bb.cell 1 (v := .int .u32 m) rfl
  have Bc := Bc.below hb
  have kc0 := Bc.cell 0 (v := .int .u32 u) rfl
  have kc1 := Bc.cell 1 (v := .int .u32 k) rfl
  have hB := below_then hB hb
  clear hb
  go_wp2_with fail
  refine (lessv hZ).mono ?_
  rintro e w1 ⟨rfl, hb⟩
  have Ba := Ba.below hb
  have ka0 := Ba.cell 0 (v := .int .u32 s) rfl
  have ka1 := Ba.cell 1 (v := .int .u32 n) rfl
  have Bb := Bb.below hb
  have kb0 := Bb.cell 0 (v := .int .u32 t) rfl
  have kb1 := Bb.cell 1 (v := .int .u32 m) rfl
  have Bc := Bc.below hb
  have kc0 := Bc.cell 0 (v := .int .u32 u) rfl
  have kc1 := Bc.cell 1 (v := .int .u32 k) rfl
  have hB := below_then hB hb
  clear hb
  go_wp2
  go_ret
  exact ⟨rfl, hB⟩

set_option maxRecDepth 100000 in
set_option maxHeartbeats 4000000 in
theorem TimesOrder_gt_sec (s n t m u k : Int) (w : World) (hX : ltT s n t m = false) (hY : ltT t m s n = true) (h1 : (s == t) = false) (h2 : (s != t) = true) :
    Calls Try.prog 6 #[.agg #[.int .u32 s, .int .u32 n], .agg #[.int .u32 t, .int .u32 m], .agg #[.int .u32 u, .int .u32 k]] w fun e w' => e = .returned (.bool true) ∧ Below w.heap.size w w' := by
  have Ba := ((Blk.new w 24 #[.int .u32 s, .int .u32 n]).alloc (.cells #[.int .u32 t, .int .u32 m] 24)).alloc (.cells #[.int .u32 u, .int .u32 k] 24)
  have Bb := (Blk.new (w.alloc (.cells #[.int .u32 s, .int .u32 n] 24)) 24 #[.int .u32 t, .int .u32 m]).alloc (.cells #[.int .u32 u, .int .u32 k] 24)
  have Bc := Blk.new ((w.alloc (.cells #[.int .u32 s, .int .u32 n] 24)).alloc (.cells #[.int .u32 t, .int .u32 m] 24)) 24 #[.int .u32 u, .int .u32 k]
  have hB : Below w.heap.size w (((w.alloc (.cells #[.int .u32 s, .int .u32 n] 24)).alloc (.cells #[.int .u32 t, .int .u32 m] 24)).alloc (.cells #[.int .u32 u, .int .u32 k] 24)) := (((Below.refl _ _).alloc (Nat.le_refl _) _).alloc (by simp) _).alloc (by simp; omega) _
  simp only [World.size_alloc] at Bb Bc
  go_enter Try.func6, Try.ntmps6
  go_wp2_with fail
  refine (lessv hX).mono ?_
  rintro e w1 ⟨rfl, hb⟩
  have Ba := Ba.below hb
  have ka0 := Ba.cell 0 (v := .int .u32 s) rfl
  have ka1 := Ba.cell 1 (v := .int .u32 n) rfl
  have Bb := Bb.below hb
  have kb0 := Bb.cell 0 (v := .int .u32 t) rfl
  have kb1 := Bb.cell 1 (v := .int .u32 m) rfl
  have Bc := Bc.below hb
  have kc0 := Bc.cell 0 (v := .int .u32 u) rfl
  have kc1 := Bc.cell 1 (v := .int .u32 k) rfl
  have hB := below_then hB hb
  clear hb
  go_wp2_with fail
  refine (lessv hY).mono ?_
  rintro e w1 ⟨rfl, hb⟩
  have Ba := Ba.below hb
  have ka0 := Ba.cell 0 (v := .int .u32 s) rfl
  have ka1 := Ba.cell 1 (v := .int .u32 n) rfl
  have Bb := Bb.below hb
  have kb0 := Bb.cell 0 (v := .int .u32 t) rfl
  have kb1 := Bb.cell 1 (v := .int .u32 m) rfl
  have Bc := Bc.below hb
  have kc0 := Bc.cell 0 (v := .int .u32 u) rfl
  have kc1 := Bc.cell 1 (v := .int .u32 k) rfl
  have hB := below_then hB hb
  clear hb
  go_wp2_with fail
  refine (alive09 _).mono ?_
  rintro e w1 ⟨rfl, hb⟩
  have Ba := Ba.below hb
  have ka0 := Ba.cell 0 (v := .int .u32 s) rfl
  have ka1 := Ba.cell 1 (v := .int .u32 n) rfl
  have Bb := Bb.below hb
  have kb0 := Bb.cell 0 (v := .int .u32 t) rfl
  have kb1 := Bb.cell 1 (v := .int .u32 m) rfl
  have Bc := Bc.below hb
  have kc0 := Bc.cell 0 (v := .int .u32 u) rfl
  have kc1 := Bc.cell 1 (v := .int .u32 k) rfl
  have hB := below_then hB hb
  clear hb
  go_wp2_with fail
  refine (lessv (lt_self s n)).mono ?_
  rintro e w1 ⟨rfl, hb⟩
  have Ba := Ba.below hb
  have ka0 := Ba.cell 0 (v := .int .u32 s) rfl
  have ka1 := Ba.cell 1 (v := .int .u32 n) rfl
  have Bb := Bb.below hb
  have kb0 := Bb.cell 0 (v := .int .u32 t) rfl
  have kb1 := Bb.cell 1 (v := .int .u32 m) rfl
  have Bc := Bc.below hb
  have kc0 := Bc.cell 0 (v := .int .u32 u) rfl
  have kc1 := Bc.cell 1 (v := .int .u32 k) rfl
  have hB := below_then hB hb
  clear hb
  go_wp2
  go_ret
  exact ⟨rfl, hB⟩

set_option maxRecDepth 100000 in
set_option maxHeartbeats 4000000 in
theorem TimesOrder_lt_nano_true (s n m u k : Int) (w : World) (hX : ltT s n s m = true) (hY : ltT s m s n = false) (hZ : ltT s m u k = true) (hU : ltT s n u k = true) (h1 : (n == m) = false) (h2 : (n != m) = true) :
    Calls Try.prog 6 #[.agg #[.int .u32 s, .int .u32 n], .agg #[.int .u32 s, .int .u32 m], .agg #[.int .u32 u, .int .u32 k]] w fun e w' => e = .returned (.bool true) ∧ Below w.heap.size w w' := by
  have Ba := ((Blk.new w 24 #[.int .u32 s, .int .u32 n]).alloc (.cells #[.int .u32 s, .int .u32 m] 24)).alloc (.cells #[.int .u32 u, .int .u32 k] 24)
  have Bb := (Blk.new (w.alloc (.cells #[.int .u32 s, .int .u32 n] 24)) 24 #[.int .u32 s, .int .u32 m]).alloc (.cells #[.int .u32 u, .int .u32 k] 24)
  have Bc := Blk.new ((w.alloc (.cells #[.int .u32 s, .int .u32 n] 24)).alloc (.cells #[.int .u32 s, .int .u32 m] 24)) 24 #[.int .u32 u, .int .u32 k]
  have hB : Below w.heap.size w (((w.alloc (.cells #[.int .u32 s, .int .u32 n] 24)).alloc (.cells #[.int .u32 s, .int .u32 m] 24)).alloc (.cells #[.int .u32 u, .int .u32 k] 24)) := (((Below.refl _ _).alloc (Nat.le_refl _) _).alloc (by simp) _).alloc (by simp; omega) _
  simp only [World.size_alloc] at Bb Bc
  go_enter Try.func6, Try.ntmps6
  go_wp2_with fail
  refine (lessv hX).mono ?_
  rintro e w1 ⟨rfl, hb⟩
  have Ba := Ba.below hb
  have ka0 := Ba.cell 0 (v := .int .u32 s) rfl
  have ka1 := Ba.cell 1 (v := .int .u32 n) rfl
  have Bb := Bb.below hb
  have kb0 := Bb.cell 0 (v := .int .u32 s) rfl
  have kb1 := Bb.cell 1 (v := .int .u32 m) rfl
  have Bc := Bc.below hb
  have kc0 := Bc.cell 0 (v := .int .u32 u) rfl
  have kc1 := Bc.cell 1 (v := .int .u32 k) rfl
  have hB := below_then hB hb
  clear hb
  go_wp2_with fail
  refine (lessv hY).mono ?_
  rintro e w1 ⟨rfl, hb⟩
  have Ba := Ba.below hb
  have ka0 := Ba.cell 0 (v := .int .u32 s) rfl
  have ka1 := Ba.cell 1 (v := .int .u32 n) rfl
  have Bb := Bb.below hb
  have kb0 := Bb.cell 0 (v := .int .u32 s) rfl
  have kb1 := Bb.cell 1 (v := .int .u32 m) rfl
  have Bc := Bc.below hb
  have kc0 := Bc.cell 0 (v := .int .u32 u) rfl
  have kc1 := Bc.cell 1 (v := .int .u32 k) rfl
  have hB := below_then hB hb
  clear hb
  go_wp2_with fail
  refine (alive09 _).mono ?_
  rintro e w1 ⟨rfl, hb⟩
  have Ba := Ba.below hb
  have ka0 := Ba.cell 0 (v := .int .u32 s) rfl
  have ka1 := Ba.cell 1 (v := .int .u32 n) rfl
  have Bb := Bb.below hb
  have kb0 := Bb.cell 0 (v := .int .u32 s) rfl
  have kb1 := Bb.cell 1 (v := .int .u32 m) rfl
  have Bc := Bc.below hb
  have kc0 := Bc.cell 0 (v := .int .u32 u) rfl
  have kc1 := Bc.cell 1 (v := .int .u32 k) rfl
  have hB := below_then hB hb
  clear hb
  go_wp2_with fail
  refine (lessv (lt_self s n)).mono ?_
  rintro e w1 ⟨rfl, hb⟩
  have Ba := Ba.below hb
  have ka0 := Ba.cell 0 (v := .int .u32 s) rfl
  have ka1 := Ba.cell 1 (v := .int .u32 n) rfl
  have Bb := Bb.below hb
  have kb0 := Bb.cell 0 (v := .int .u32 s) rfl
  have kb1 := Bb.cell 1 (v := .int .u32 m) rfl
  have Bc := Bc.below hb
  have kc0 := Bc.cell 0 (v := .int .u32 u) rfl
  have kc1 := Bc.cell 1 (v := .int .u32 k) rfl
  have hB := below_then hB hb
  clear hb
  go_wp2_with fail
  refine (lessv hZ).mono ?_
  rintro e w1 ⟨rfl, hb⟩
  have Ba := Ba.below hb
  have ka0 := Ba.cell 0 (v := .int .u32 s) rfl
  have ka1 := Ba.cell 1 (v := .int .u32 n) rfl
  have Bb := Bb.below hb
  have kb0 := Bb.cell 0 (v := .int .u32 s) rfl
  have kb1 := Bb.cell 1 (v := .int .u32 m) rfl
  have Bc := Bc.below hb
  have kc0 := Bc.cell 0 (v := .int .u32 u) rfl
  have kc1 := Bc.cell 1 (v := .int .u32 k) rfl
  have hB := below_then hB hb
  clear hb
  go_wp2_with fail
  refine (lessv hU).mono ?_
  rintro e w1 ⟨rfl, hb⟩
  have Ba := Ba.below hb
  have ka0 := Ba.cell 0 (v := .int .u32 s) rfl
  have ka1 := Ba.cell 1 (v := .int .u32 n) rfl
  have Bb := Bb.below hb
  have kb0 := Bb.cell 0 (v := .int .u32 s) rfl
  have kb1 := Bb.cell 1 (v := .int .u32 m) rfl
  have Bc := Bc.below hb
  have kc0 := Bc.cell 0 (v := .int .u32 u) rfl
  have kc1 := Bc.cell 1 (v := .int .u32 k) rfl
  have hB := below_then hB hb
  clear hb
  go_wp2
  go_ret
  exact ⟨rfl, hB⟩

set_option maxRecDepth 100000 in
set_option maxHeartbeats 4000000 in
theorem TimesOrder_lt_nano_false (s n m u k : Int) (w : World) (hX : ltT s n s m = true) (hY : ltT s m s n = false) (hZ : ltT s m u k = false) (h1 : (n == m) = false) (h2 : (n != m) = true) :
    Calls Try.prog 6 #[.agg #[.int .u32 s, .int .u32 n], .agg #[.int .u32 s, .int .u32 m], .agg #[.int .u32 u, .int .u32 k]] w fun e w' => e = .returned (.bool true) ∧ Below w.heap.size w w' := by
  have Ba := ((Blk.new w 24 #[.int .u32 s, .int .u32 n]).alloc (.cells #[.int .u32 s, .int .u32 m] 24)).alloc (.cells #[.int .u32 u, .int .u32 k] 24)
  have Bb := (Blk.new (w.alloc (.cells #[.int .u32 s, .int .u32 n] 24)) 24 #[.int .u32 s, .int .u32 m]).alloc (.cells #[.int .u32 u, .int .u32 k] 24)
  have Bc := Blk.new ((w.alloc (.cells #[.int .u32 s, .int .u32 n] 24)).alloc (.cells #[.int .u32 s, .int .u32 m] 24)) 24 #[.int .u32 u, .int .u32 k]
  have hB : Below w.heap.size w (((w.alloc (.cells #[.int .u32 s, .int .u32 n] 24)).alloc (.cells #[.int .u32 s, .int .u32 m] 24)).alloc (.cells #[.int .u32 u, .int .u32 k] 24)) := (((Below.refl _ _).alloc (Nat.le_refl _) _).alloc (by simp) _).alloc (by simp; omega) _
  simp only [World.size_alloc] at Bb Bc
  go_enter Try.func6, Try.ntmps6
  go_wp2_with fail
  refine (lessv hX).mono ?_
  rintro e w1 ⟨rfl, hb⟩
  have Ba := Ba.below hb
  have ka0 := Ba.cell 0 (v := .int .u32 s) rfl
  have ka1 := Ba.cell 1 (v := .int .u32 n) rfl
  have Bb := Bb.below hb
  have kb0 := Bb.cell 0 (v := .int .u32 s) rfl
  have kb1 := Bb.cell 1 (v := .int .u32 m) rfl
  have Bc := Bc.below hb
  have kc0 := Bc.cell 0 (v := .int .u32 u) rfl
  have kc1 := Bc.cell 1 (v := .int .u32 k) rfl
  have hB := below_then hB hb
  clear hb
  go_wp2_with fail
  refine (lessv hY).mono ?_
  rintro e w1 ⟨rfl, hb⟩
  have Ba := Ba.below hb
  have ka0 := Ba.cell 0 (v := .int .u32 s) rfl
  have ka1 := Ba.cell 1 (v := .int .u32 n) rfl
  have Bb := Bb.below hb
  have kb0 := Bb.cell 0 (v := .int .u32 s) rfl
  have kb1 := Bb.cell 1 (v := .int .u32 m) rfl
  have Bc := Bc.below hb
  have kc0 := Bc.cell 0 (v := .int .u32 u) rfl
  have kc1 := Bc.cell 1 (v := .int .u32 k) rfl
  have hB := below_then hB hb
  clear hb
  go_wp2_with fail
  refine (alive09 _).mono ?_
  rintro e w1 ⟨rfl, hb⟩
  have Ba := Ba.below hb
  have ka0 := Ba.cell 0 (v := .int .u32 s) rfl
  have ka1 := Ba.cell 1 (v := .int .u32 n) rfl
  have Bb := Bb.below hb
  have kb0 := Bb.cell 0 (v := .int .u32 s) rfl
  have kb1 := Bb.cell 1 (v := .int .u32 m) rfl
  have Bc := Bc.below hb
  have kc0 := Bc.cell 0 (v := .int .u32 u) rfl
  have kc1 := Bc.cell 1 (v := .int .u32 k) rfl
  have hB := below_then hB hb
  clear hb
  go_wp2_with fail
  refine (lessv (lt_self s n)).mono ?_
  rintro e w1 ⟨rfl, hb⟩
  have Ba := Ba.below hb
  have ka0 := Ba.cell 0 (v := .int .u32 s) rfl
  have ka1 := Ba.cell 1 (v := .int .u32 n) rfl
  have Bb := Bb.below hb
  have kb0 := Bb.cell 0 (v := .int .u32 s) rfl
  have kb1 := Bb.cell 1 (v := .int .u32 m) rfl
  have Bc := Bc.below hb
  have kc0 := Bc.cell 0 (v := .int .u32 u) rfl
  have kc1 := Bc.cell 1 (v := .int .u32 k) rfl
  have hB := below_then hB hb
  clear hb
  go_wp2_with fail
  refine (lessv hZ).mono ?_
  rintro e w1 ⟨rfl, hb⟩
  have Ba := Ba.below hb
  have ka0 := Ba.cell 0 (v := .int .u32 s) rfl
  have ka1 := Ba.cell 1 (v := .int .u32 n) rfl
  have Bb := Bb.below hb
  have kb0 := Bb.cell 0 (v := .int .u32 s) rfl
  have kb1 := Bb.cell 1 (v := .int .u32 m) rfl
  have Bc := Bc.below hb
  have kc0 := Bc.cell 0 (v := .int .u32 u) rfl
  have kc1 := Bc.cell 1 (v := .int .u32 k) rfl
  have hB := below_then hB hb
  clear hb
  go_wp2
  go_ret
  exact ⟨rfl, hB⟩

set_option maxRecDepth 100000 in
set_option maxHeartbeats 4000000 in
theorem TimesOrder_gt_nano (s n m u k : Int) (w : World) (hX : ltT s n s m = false) (hY : ltT s m s n = true) (h1 : (n == m) = false) (h2 : (n != m) = true) :
    Calls Try.prog 6 #[.agg #[.int .u32 s, .int .u32 n], .agg #[.int .u32 s, .int .u32 m], .agg #[.int .u32 u, .int .u32 k]] w fun e w' => e = .returned (.bool true) ∧ Below w.heap.size w w' := by
  have Ba := ((Blk.new w 24 #[.int .u32 s, .int .u32 n]).alloc (.cells #[.int .u32 s, .int .u32 m] 24)).alloc (.cells #[.int .u32 u, .int .u32 k] 24)
  have Bb := (Blk.new (w.alloc (.cells #[.int .u32 s, .int .u32 n] 24)) 24 #[.int .u32 s, .int .u32 m]).alloc (.cells #[.int .u32 u, .int .u32 k] 24)
  have Bc := Blk.new ((w.alloc (.cells #[.int .u32 s, .int .u32 n] 24)).alloc (.cells #[.int .u32 s, .int .u32 m] 24)) 24 #[.int .u32 u, .int .u32 k]
  have hB : Below w.heap.size w (((w.alloc (.cells #[.int .u32 s, .int .u32 n] 24)).alloc (.cells #[.int .u32 s, .int .u32 m] 24)).alloc (.cells #[.int .u32 u, .int .u32 k] 24)) := (((Below.refl _ _).alloc (Nat.le_refl _) _).alloc (by simp) _).alloc (by simp; omega) _
  simp only [World.size_alloc] at Bb Bc
  go_enter Try.func6, Try.ntmps6
  go_wp2_with fail
  refine (lessv hX).mono ?_
  rintro e w1 ⟨rfl, hb⟩
  have Ba := Ba.below hb
  have ka0 := Ba.cell 0 (v := .int .u32 s) rfl
  have ka1 := Ba.cell 1 (v := .int .u32 n) rfl
  have Bb := Bb.below hb
  have kb0 := Bb.cell 0 (v := .int .u32 s) rfl
  have kb1 := Bb.cell 1 (v := .int .u32 m) rfl
  have Bc := Bc.below hb
  have kc0 := Bc.cell 0 (v := .int .u32 u) rfl
  have kc1 := Bc.cell 1 (v := .int .u32 k) rfl
  have hB := below_then hB hb
  clear hb
  go_wp2_with fail
  refine (lessv hY).mono ?_
  rintro e w1 ⟨rfl, hb⟩
  have Ba := Ba.below hb
  have ka0 := Ba.cell 0 (v := .int .u32 s) rfl
  have ka1 := Ba.cell 1 (v := .int .u32 n) rfl
  have Bb := Bb.below hb
  have kb0 := Bb.cell 0 (v := .int .u32 s) rfl
  have kb1 := Bb.cell 1 (v := .int .u32 m) rfl
  have Bc := Bc.below hb
  have kc0 := Bc.cell 0 (v := .int .u32 u) rfl
  have kc1 := Bc.cell 1 (v := .int .u32 k) rfl
  have hB := below_then hB hb
  clear hb
  go_wp2_with fail
  refine (alive09 _).mono ?_
  rintro e w1 ⟨rfl, hb⟩
  have Ba := Ba.below hb
  have ka0 := Ba.cell 0 (v := .int .u32 s) rfl
  have ka1 := Ba.cell 1 (v := .int .u32 n) rfl
  have Bb := Bb.below hb
  have kb0 := Bb.cell 0 (v := .int .u32 s) rfl
  have kb1 := Bb.cell 1 (v := .int .u32 m) rfl
  have Bc := Bc.below hb
  have kc0 := Bc.cell 0 (v := .int .u32 u) rfl
  have kc1 := Bc.cell 1 (v := .int .u32 k) rfl
  have hB := below_then hB hb
  clear hb
  go_wp2_with fail
  refine (lessv (lt_self s n)).mono ?_
  rintro e w1 ⟨rfl, hb⟩
  have Ba := Ba.below hb
  have ka0 := Ba.cell 0 (v := .int .u32 s) rfl
  have ka1 := Ba.cell 1 (v := .int .u32 n) rfl
  have Bb := Bb.below hb
  have kb0 := Bb.cell 0 (v := .int .u32 s) rfl
  have kb1 := Bb.cell 1 (v := .int .u32 m) rfl
  have Bc := Bc.below hb
  have kc0 := Bc.cell 0 (v := .int .u32 u) rfl
  have kc1 := Bc.cell 1 (v := .int .u32 k) rfl
  have hB := below_then hB hb
  clear hb
  go_wp2
  go_ret
  exact ⟨rfl, hB⟩

set_option maxRecDepth 100000 in
set_option maxHeartbeats 4000000 in
theorem TimesOrder_eq (s n u k : Int) (w : World) (hX : ltT s n s n = false) (hY : ltT s n s n = false) :
    Calls Try.prog 6 #[.agg #[.int .u32 s, .int .u32 n], .agg #[.int .u32 s, .int .u32 n], .agg #[.int .u32 u, .int .u32 k]] w fun e w' => e = .returned (.bool true) ∧ Below w.heap.size w w' := by
  have Ba := ((Blk.new w 24 #[.int .u32 s, .int .u32 n]).alloc (.cells #[.int .u32 s, .int .u32 n] 24)).alloc (.cells #[.int .u32 u, .int .u32 k] 24)
  have Bb := (Blk.new (w.alloc (.cells #[.int .u32 s, .int .u32 n] 24)) 24 #[.int .u32 s, .int .u32 n]).alloc (.cells #[.int .u32 u, .int .u32 k] 24)
  have Bc := Blk.new ((w.alloc (.cells #[.int .u32 s, .int .u32 n] 24)).alloc (.cells #[.int .u32 s, .int .u32 n] 24)) 24 #[.int .u32 u, .int .u32 k]
  have hB : Below w.heap.size w (((w.alloc (.cells #[.int .u32 s, .int .u32 n] 24)).alloc (.cells #[.int .u32 s, .int .u32 n] 24)).alloc (.cells #[.int .u32 u, .int .u32 k] 24)) := (((Below.refl _ _).alloc (Nat.le_refl _) _).alloc (by simp) _).alloc (by simp; omega) _
  simp only [World.size_alloc] at Bb Bc
  go_enter Try.func6, Try.ntmps6
  go_wp2_with fail
  refine (lessv hX).mono ?_
  rintro e w1 ⟨rfl, hb⟩
  have Ba := Ba.below hb
  have ka0 := Ba.cell 0 (v := .int .u32 s) rfl
  have ka1 := Ba.cell 1 (v := .int .u32 n) rfl
  have Bb := Bb.below hb
  have kb0 := Bb.cell 0 (v := .int .u32 s) rfl
  have kb1 := Bb.cell 1 (v := .int .u32 n) rfl
  have Bc := Bc.below hb
  have kc0 := Bc.cell 0 (v := .int .u32 u) rfl
  have kc1 := Bc.cell 1 (v := .int .u32 k) rfl
  have hB := below_then hB hb
  clear hb
  go_wp2_with fail
  refine (lessv hY).mono ?_
  rintro e w1 ⟨rfl, hb⟩
  have Ba := Ba.below hb
  have ka0 := Ba.cell 0 (v := .int .u32 s) rfl
  have ka1 := Ba.cell 1 (v := .int .u32 n) rfl
  have Bb := Bb.below hb
  have kb0 := Bb.cell 0 (v := .int .u32 s) rfl
  have kb1 := Bb.cell 1 (v := .int .u32 n) rfl
  have Bc := Bc.below hb
  have kc0 := Bc.cell 0 (v := .int .u32 u) rfl
  have kc1 := Bc.cell 1 (v := .int .u32 k) rfl
  have hB := below_then hB hb
  clear hb
  go_wp2_with fail
  refine (alive09 _).mono ?_
  rintro e w1 ⟨rfl, hb⟩
  have Ba := Ba.below hb
  have ka0 := Ba.cell 0 (v := .int .u32 s) rfl
  have ka1 := Ba.cell 1 (v := .int .u32 n) rfl
  have Bb := Bb.below hb
  have kb0 := Bb.cell 0 (v := .int .u32 s) rfl
  have kb1 := Bb.cell 1 (v := .int .u32 n) rfl
  have Bc := Bc.below hb
  have kc0 := Bc.cell 0 (v := .int .u32 u) rfl
  have kc1 := Bc.cell 1 (v := .int .u32 k) rfl
  have hB := below_then hB hb
  clear hb
  go_wp2_with fail
  refine (lessv (lt_self s n)).mono ?_
  rintro e w1 ⟨rfl, hb⟩
  have Ba := Ba.below hb
  have ka0 := Ba.cell 0 (v := .int .u32 s) rfl
  have ka1 := Ba.cell 1 (v := .int .u32 n) rfl
  have Bb := Bb.below hb
  have kb0 := Bb.cell 0 (v := .int .u32 s) rfl
  have kb1 := Bb.cell 1 (v := .int .u32 n) rfl
  have Bc := Bc.below hb
  have kc0 := Bc.cell 0 (v := .int .u32 u) rfl
  have kc1 := Bc.cell 1 (v := .int .u32 k) rfl
  have hB := below_then hB hb
  clear hb
  go_wp2
  go_ret
  exact ⟨rfl, hB⟩

theorem TimesOrder_walk (s n t m u k : Int) (w : World) (_ : 0 ≤ s) (_ : s < 4294967296) (_ : 0 ≤ n) (_ : n < 4294967296) (_ : 0 ≤ t) (_ : t < 4294967296) (_ : 0 ≤ m) (_ : m < 4294967296) (_ : 0 ≤ u) (_ : u < 4294967296) (_ : 0 ≤ k) (_ : k < 4294967296) :
    Calls Try.prog 6 #[.agg #[.int .u32 s, .int .u32 n], .agg #[.int .u32 t, .int .u32 m], .agg #[.int .u32 u, .int .u32 k]] w fun e w' => e = .returned (.bool true) ∧ Below w.heap.size w w' := by
  rcases Int.lt_trichotomy s t with h | h | h
  · by_cases hz : t < u ∨ t = u ∧ m < k
    · exact TimesOrder_lt_sec_true s n t m u k w (lt_iff.2 (by omega)) (lt_no (by omega)) (lt_iff.2 hz) (lt_iff.2 (by omega)) (by rw [beq_eq_false_iff_ne]; omega) (by rw [bne_iff_ne]; omega)
    · exact TimesOrder_lt_sec_false s n t m u k w (lt_iff.2 (by omega)) (lt_no (by omega)) (lt_no hz) (by rw [beq_eq_false_iff_ne]; omega) (by rw [bne_iff_ne]; omega)
  · subst h
    rcases Int.lt_trichotomy n m with h | h | h
    · by_cases hz : s < u ∨ s = u ∧ m < k
      · exact TimesOrder_lt_nano_true s n m u k w (lt_iff.2 (by omega)) (lt_no (by omega)) (lt_iff.2 hz) (lt_iff.2 (by omega)) (by rw [beq_eq_false_iff_ne]; omega) (by rw [bne_iff_ne]; omega)
      · exact TimesOrder_lt_nano_false s n m u k w (lt_iff.2 (by omega)) (lt_no (by omega)) (lt_no hz) (by rw [beq_eq_false_iff_ne]; omega) (by rw [bne_iff_ne]; omega)
    · subst h
      exact TimesOrder_eq s n u k w (lt_self _ _) (lt_self _ _)
    · exact TimesOrder_gt_nano s n m u k w (lt_no (by omega)) (lt_iff.2 (by omega)) (by rw [beq_eq_false_iff_ne]; omega) (by rw [bne_iff_ne]; omega)
  · exact TimesOrder_gt_sec s n t m u k w (lt_no (by omega)) (lt_iff.2 (by omega)) (by rw [beq_eq_false_iff_ne]; omega) (by rw [bne_iff_ne]; omega)
end Go.Proofs.Ytofbcflnkmocjaa.Hand
