/- The statement TimesSteps, walked: what is added in two steps is as if in one. -/
import Derived.Test.YtofbcflnkmocjaaAlive09
namespace Go.Proofs.Ytofbcflnkmocjaa.Hand
open Go.RowKit
set_option linter.unusedVariables false

theorem pair_eq {a b c d e : Int} (h : a = c) (h2 : b = d) : Value.tuple #[.agg #[.int .u32 a, .int .u32 b], .int .i64 e] = .tuple #[.agg #[.int .u32 c, .int .u32 d], .int .i64 e] := by rw [h, h2]

set_option maxRecDepth 100000 in
set_option maxHeartbeats 4000000 in
theorem TimesSteps_far1 (s n x y : Int) (w : World) (hs : 0 ≤ s) (hs' : s < 4294967296) (hn : 0 ≤ n) (hn' : n < 4294967296) (hx : 0 ≤ x) (hx' : x < 18446744073709551616) (hy : 0 ≤ y) (hy' : y < 18446744073709551616) (h1 : 9223372036854775808 < x) :
    Calls Try.prog 7 #[.agg #[.int .u32 s, .int .u32 n], .int .u64 x, .int .u64 y] w fun e w' => e = .returned (.bool true) ∧ Below w.heap.size w w' := by
  have Bt := Blk.new w 24 #[.int .u32 s, .int .u32 n]
  have hB : Below w.heap.size w (w.alloc (.cells #[.int .u32 s, .int .u32 n] 24)) := (Below.refl _ w).alloc (by simp) _
  have kt0 := Bt.cell 0 (v := .int .u32 s) rfl
  have kt1 := Bt.cell 1 (v := .int .u32 n) rfl
  go_enter Try.func7, Try.ntmps7
  go_wp2_with fail
  refine (alive09 _).mono ?_
  rintro e w1 ⟨rfl, hb⟩
  have Bt := Bt.below hb
  have hB := below_then hB hb
  clear hb
  have kt0 := Bt.cell 0 (v := .int .u32 s) rfl
  have kt1 := Bt.cell 1 (v := .int .u32 n) rfl
  go_wp2
  go_ret
  exact ⟨rfl, hB⟩

set_option maxRecDepth 100000 in
set_option maxHeartbeats 4000000 in
theorem TimesSteps_far2 (s n x y : Int) (w : World) (hs : 0 ≤ s) (hs' : s < 4294967296) (hn : 0 ≤ n) (hn' : n < 4294967296) (hx : 0 ≤ x) (hx' : x < 18446744073709551616) (hy : 0 ≤ y) (hy' : y < 18446744073709551616) (h1 : ¬ 9223372036854775808 < x) (h2 : 4611686018427387904 < y) :
    Calls Try.prog 7 #[.agg #[.int .u32 s, .int .u32 n], .int .u64 x, .int .u64 y] w fun e w' => e = .returned (.bool true) ∧ Below w.heap.size w w' := by
  have Bt := Blk.new w 24 #[.int .u32 s, .int .u32 n]
  have hB : Below w.heap.size w (w.alloc (.cells #[.int .u32 s, .int .u32 n] 24)) := (Below.refl _ w).alloc (by simp) _
  have kt0 := Bt.cell 0 (v := .int .u32 s) rfl
  have kt1 := Bt.cell 1 (v := .int .u32 n) rfl
  go_enter Try.func7, Try.ntmps7
  go_wp2_with fail
  refine (alive09 _).mono ?_
  rintro e w1 ⟨rfl, hb⟩
  have Bt := Bt.below hb
  have hB := below_then hB hb
  clear hb
  have kt0 := Bt.cell 0 (v := .int .u32 s) rfl
  have kt1 := Bt.cell 1 (v := .int .u32 n) rfl
  go_wp2
  go_ret
  exact ⟨rfl, hB⟩

set_option maxRecDepth 100000 in
set_option maxHeartbeats 4000000 in
theorem TimesSteps_no1 (s n x y : Int) (w : World) (hs : 0 ≤ s) (hs' : s < 4294967296) (hn : 0 ≤ n) (hn' : n < 4294967296) (hx : 0 ≤ x) (hx' : x < 18446744073709551616) (hy : 0 ≤ y) (hy' : y < 18446744073709551616) (h1 : ¬ 9223372036854775808 < x) (h2 : ¬ 4611686018427387904 < y) (q1 : addV s n x = (.tuple #[.agg #[.int .u32 0, .int .u32 0], .int .i64 1])) (q2 : addV s n (x + y) = (.tuple #[.agg #[.int .u32 0, .int .u32 0], .int .i64 1])) :
    Calls Try.prog 7 #[.agg #[.int .u32 s, .int .u32 n], .int .u64 x, .int .u64 y] w fun e w' => e = .returned (.bool true) ∧ Below w.heap.size w w' := by
  have Bt := Blk.new w 24 #[.int .u32 s, .int .u32 n]
  have hB : Below w.heap.size w (w.alloc (.cells #[.int .u32 s, .int .u32 n] 24)) := (Below.refl _ w).alloc (by simp) _
  have kt0 := Bt.cell 0 (v := .int .u32 s) rfl
  have kt1 := Bt.cell 1 (v := .int .u32 n) rfl
  go_enter Try.func7, Try.ntmps7
  go_wp2_with fail
  refine (add_n (.tuple #[.agg #[.int .u32 0, .int .u32 0], .int .i64 1]) q1 hs hs' hn hn' hx hx').mono ?_
  rintro e w1 ⟨rfl, hb⟩
  have Bt := Bt.below hb
  have hB := below_then hB hb
  clear hb
  have Bt := Bt.alloc (.cells #[.int .u32 0, .int .u32 0] 24)
  have Ba := Blk.new w1 24 #[.int .u32 0, .int .u32 0]
  have hB := hB.alloc hB.size (.cells #[.int .u32 0, .int .u32 0] 24)
  have kt0 := Bt.cell 0 (v := .int .u32 s) rfl
  have kt1 := Bt.cell 1 (v := .int .u32 n) rfl
  have ka0 := Ba.cell 0 (v := .int .u32 0) rfl
  have ka1 := Ba.cell 1 (v := .int .u32 0) rfl
  go_wp2_with fail
  refine (add_n (.tuple #[.agg #[.int .u32 0, .int .u32 0], .int .i64 1]) q2 hs hs' hn hn' (by omega) (by omega)).mono ?_
  rintro e w2 ⟨rfl, hb⟩
  have Bt := Bt.below hb
  have Ba := Ba.below hb
  have hB := below_then hB hb
  clear hb
  have Bt := Bt.alloc (.cells #[.int .u32 0, .int .u32 0] 24)
  have Ba := Ba.alloc (.cells #[.int .u32 0, .int .u32 0] 24)
  have Bb := Blk.new w2 24 #[.int .u32 0, .int .u32 0]
  have hB := hB.alloc hB.size (.cells #[.int .u32 0, .int .u32 0] 24)
  have kt0 := Bt.cell 0 (v := .int .u32 s) rfl
  have kt1 := Bt.cell 1 (v := .int .u32 n) rfl
  have ka0 := Ba.cell 0 (v := .int .u32 0) rfl
  have ka1 := Ba.cell 1 (v := .int .u32 0) rfl
  have kb0 := Bb.cell 0 (v := .int .u32 0) rfl
  have kb1 := Bb.cell 1 (v := .int .u32 0) rfl
  go_wp2_with fail
  refine (alive09 _).mono ?_
  rintro e w3 ⟨rfl, hb⟩
  have Bt := Bt.below hb
  have Ba := Ba.below hb
  have Bb := Bb.below hb
  have hB := below_then hB hb
  clear hb
  have kt0 := Bt.cell 0 (v := .int .u32 s) rfl
  have kt1 := Bt.cell 1 (v := .int .u32 n) rfl
  have ka0 := Ba.cell 0 (v := .int .u32 0) rfl
  have ka1 := Ba.cell 1 (v := .int .u32 0) rfl
  have kb0 := Bb.cell 0 (v := .int .u32 0) rfl
  have kb1 := Bb.cell 1 (v := .int .u32 0) rfl
  go_wp2
  go_ret
  exact ⟨rfl, hB⟩

set_option maxRecDepth 100000 in
set_option maxHeartbeats 4000000 in
theorem TimesSteps_no3 (s n x y : Int) (w : World) (hs : 0 ≤ s) (hs' : s < 4294967296) (hn : 0 ≤ n) (hn' : n < 4294967296) (hx : 0 ≤ x) (hx' : x < 18446744073709551616) (hy : 0 ≤ y) (hy' : y < 18446744073709551616) (h1 : ¬ 9223372036854775808 < x) (h2 : ¬ 4611686018427387904 < y) (q1 : addV s n x = (.tuple #[.agg #[.int .u32 0, .int .u32 0], .int .i64 3])) (q2 : addV s n (x + y) = (.tuple #[.agg #[.int .u32 0, .int .u32 0], .int .i64 3])) :
    Calls Try.prog 7 #[.agg #[.int .u32 s, .int .u32 n], .int .u64 x, .int .u64 y] w fun e w' => e = .returned (.bool true) ∧ Below w.heap.size w w' := by
  have Bt := Blk.new w 24 #[.int .u32 s, .int .u32 n]
  have hB : Below w.heap.size w (w.alloc (.cells #[.int .u32 s, .int .u32 n] 24)) := (Below.refl _ w).alloc (by simp) _
  have kt0 := Bt.cell 0 (v := .int .u32 s) rfl
  have kt1 := Bt.cell 1 (v := .int .u32 n) rfl
  go_enter Try.func7, Try.ntmps7
  go_wp2_with fail
  refine (add_n (.tuple #[.agg #[.int .u32 0, .int .u32 0], .int .i64 3]) q1 hs hs' hn hn' hx hx').mono ?_
  rintro e w1 ⟨rfl, hb⟩
  have Bt := Bt.below hb
  have hB := below_then hB hb
  clear hb
  have Bt := Bt.alloc (.cells #[.int .u32 0, .int .u32 0] 24)
  have Ba := Blk.new w1 24 #[.int .u32 0, .int .u32 0]
  have hB := hB.alloc hB.size (.cells #[.int .u32 0, .int .u32 0] 24)
  have kt0 := Bt.cell 0 (v := .int .u32 s) rfl
  have kt1 := Bt.cell 1 (v := .int .u32 n) rfl
  have ka0 := Ba.cell 0 (v := .int .u32 0) rfl
  have ka1 := Ba.cell 1 (v := .int .u32 0) rfl
  go_wp2_with fail
  refine (add_n (.tuple #[.agg #[.int .u32 0, .int .u32 0], .int .i64 3]) q2 hs hs' hn hn' (by omega) (by omega)).mono ?_
  rintro e w2 ⟨rfl, hb⟩
  have Bt := Bt.below hb
  have Ba := Ba.below hb
  have hB := below_then hB hb
  clear hb
  have Bt := Bt.alloc (.cells #[.int .u32 0, .int .u32 0] 24)
  have Ba := Ba.alloc (.cells #[.int .u32 0, .int .u32 0] 24)
  have Bb := Blk.new w2 24 #[.int .u32 0, .int .u32 0]
  have hB := hB.alloc hB.size (.cells #[.int .u32 0, .int .u32 0] 24)
  have kt0 := Bt.cell 0 (v := .int .u32 s) rfl
  have kt1 := Bt.cell 1 (v := .int .u32 n) rfl
  have ka0 := Ba.cell 0 (v := .int .u32 0) rfl
  have ka1 := Ba.cell 1 (v := .int .u32 0) rfl
  have kb0 := Bb.cell 0 (v := .int .u32 0) rfl
  have kb1 := Bb.cell 1 (v := .int .u32 0) rfl
  go_wp2_with fail
  refine (alive09 _).mono ?_
  rintro e w3 ⟨rfl, hb⟩
  have Bt := Bt.below hb
  have Ba := Ba.below hb
  have Bb := Bb.below hb
  have hB := below_then hB hb
  clear hb
  have kt0 := Bt.cell 0 (v := .int .u32 s) rfl
  have kt1 := Bt.cell 1 (v := .int .u32 n) rfl
  have ka0 := Ba.cell 0 (v := .int .u32 0) rfl
  have ka1 := Ba.cell 1 (v := .int .u32 0) rfl
  have kb0 := Bb.cell 0 (v := .int .u32 0) rfl
  have kb1 := Bb.cell 1 (v := .int .u32 0) rfl
  go_wp2
  go_ret
  exact ⟨rfl, hB⟩

set_option maxRecDepth 100000 in
set_option maxHeartbeats 4000000 in
theorem TimesSteps_yes0 (s n x y : Int) (w : World) (hs : 0 ≤ s) (hs' : s < 4294967296) (hn : 0 ≤ n) (hn' : n < 4294967296) (hx : 0 ≤ x) (hx' : x < 18446744073709551616) (hy : 0 ≤ y) (hy' : y < 18446744073709551616) (h1 : ¬ 9223372036854775808 < x) (h2 : ¬ 4611686018427387904 < y) (S M P Q : Int) (q1 : addV s n x = (.tuple #[.agg #[.int .u32 S, .int .u32 M], .int .i64 0])) (q2 : addV s n (x + y) = (.tuple #[.agg #[.int .u32 P, .int .u32 Q], .int .i64 0])) (q3 : addV S M y = (.tuple #[.agg #[.int .u32 P, .int .u32 Q], .int .i64 0])) (hS : 0 ≤ S) (hS' : S < 4294967296) (hM : 0 ≤ M) (hM' : M < 4294967296) :
    Calls Try.prog 7 #[.agg #[.int .u32 s, .int .u32 n], .int .u64 x, .int .u64 y] w fun e w' => e = .returned (.bool true) ∧ Below w.heap.size w w' := by
  have Bt := Blk.new w 24 #[.int .u32 s, .int .u32 n]
  have hB : Below w.heap.size w (w.alloc (.cells #[.int .u32 s, .int .u32 n] 24)) := (Below.refl _ w).alloc (by simp) _
  have kt0 := Bt.cell 0 (v := .int .u32 s) rfl
  have kt1 := Bt.cell 1 (v := .int .u32 n) rfl
  go_enter Try.func7, Try.ntmps7
  go_wp2_with fail
  refine (add_n (.tuple #[.agg #[.int .u32 S, .int .u32 M], .int .i64 0]) q1 hs hs' hn hn' hx hx').mono ?_
  rintro e w1 ⟨rfl, hb⟩
  have Bt := Bt.below hb
  have hB := below_then hB hb
  clear hb
  have Bt := Bt.alloc (.cells #[.int .u32 S, .int .u32 M] 24)
  have Ba := Blk.new w1 24 #[.int .u32 S, .int .u32 M]
  have hB := hB.alloc hB.size (.cells #[.int .u32 S, .int .u32 M] 24)
  have kt0 := Bt.cell 0 (v := .int .u32 s) rfl
  have kt1 := Bt.cell 1 (v := .int .u32 n) rfl
  have ka0 := Ba.cell 0 (v := .int .u32 S) rfl
  have ka1 := Ba.cell 1 (v := .int .u32 M) rfl
  go_wp2_with fail
  refine (add_n (.tuple #[.agg #[.int .u32 P, .int .u32 Q], .int .i64 0]) q2 hs hs' hn hn' (by omega) (by omega)).mono ?_
  rintro e w2 ⟨rfl, hb⟩
  have Bt := Bt.below hb
  have Ba := Ba.below hb
  have hB := below_then hB hb
  clear hb
  have Bt := Bt.alloc (.cells #[.int .u32 P, .int .u32 Q] 24)
  have Ba := Ba.alloc (.cells #[.int .u32 P, .int .u32 Q] 24)
  have Bb := Blk.new w2 24 #[.int .u32 P, .int .u32 Q]
  have hB := hB.alloc hB.size (.cells #[.int .u32 P, .int .u32 Q] 24)
  have kt0 := Bt.cell 0 (v := .int .u32 s) rfl
  have kt1 := Bt.cell 1 (v := .int .u32 n) rfl
  have ka0 := Ba.cell 0 (v := .int .u32 S) rfl
  have ka1 := Ba.cell 1 (v := .int .u32 M) rfl
  have kb0 := Bb.cell 0 (v := .int .u32 P) rfl
  have kb1 := Bb.cell 1 (v := .int .u32 Q) rfl
  go_wp2_with fail
  refine (add_n (.tuple #[.agg #[.int .u32 P, .int .u32 Q], .int .i64 0]) q3 hS hS' hM hM' hy hy').mono ?_
  rintro e w3 ⟨rfl, hb⟩
  have Bt := Bt.below hb
  have Ba := Ba.below hb
  have Bb := Bb.below hb
  have hB := below_then hB hb
  clear hb
  have Bt := Bt.alloc (.cells #[.int .u32 P, .int .u32 Q] 24)
  have Ba := Ba.alloc (.cells #[.int .u32 P, .int .u32 Q] 24)
  have Bb := Bb.alloc (.cells #[.int .u32 P, .int .u32 Q] 24)
  have Bc := Blk.new w3 24 #[.int .u32 P, .int .u32 Q]
  have hB := hB.alloc hB.size (.cells #[.int .u32 P, .int .u32 Q] 24)
  have kt0 := Bt.cell 0 (v := .int .u32 s) rfl
  have kt1 := Bt.cell 1 (v := .int .u32 n) rfl
  have ka0 := Ba.cell 0 (v := .int .u32 S) rfl
  have ka1 := Ba.cell 1 (v := .int .u32 M) rfl
  have kb0 := Bb.cell 0 (v := .int .u32 P) rfl
  have kb1 := Bb.cell 1 (v := .int .u32 Q) rfl
  have kc0 := Bc.cell 0 (v := .int .u32 P) rfl
  have kc1 := Bc.cell 1 (v := .int .u32 Q) rfl
  go_wp2_with fail
  refine (alive09 _).mono ?_
  rintro e w4 ⟨rfl, hb⟩
  have Bt := Bt.below hb
  have Ba := Ba.below hb
  have Bb := Bb.below hb
  have Bc := Bc.below hb
  have hB := below_then hB hb
  clear hb
  have kt0 := Bt.cell 0 (v := .int .u32 s) rfl
  have kt1 := Bt.cell 1 (v := .int .u32 n) rfl
  have ka0 := Ba.cell 0 (v := .int .u32 S) rfl
  have ka1 := Ba.cell 1 (v := .int .u32 M) rfl
  have kb0 := Bb.cell 0 (v := .int .u32 P) rfl
  have kb1 := Bb.cell 1 (v := .int .u32 Q) rfl
  have kc0 := Bc.cell 0 (v := .int .u32 P) rfl
  have kc1 := Bc.cell 1 (v := .int .u32 Q) rfl
  go_wp2
  go_ret
  exact ⟨rfl, hB⟩

set_option maxRecDepth 100000 in
set_option maxHeartbeats 4000000 in
theorem TimesSteps_yes3 (s n x y : Int) (w : World) (hs : 0 ≤ s) (hs' : s < 4294967296) (hn : 0 ≤ n) (hn' : n < 4294967296) (hx : 0 ≤ x) (hx' : x < 18446744073709551616) (hy : 0 ≤ y) (hy' : y < 18446744073709551616) (h1 : ¬ 9223372036854775808 < x) (h2 : ¬ 4611686018427387904 < y) (S M P Q : Int) (q1 : addV s n x = (.tuple #[.agg #[.int .u32 S, .int .u32 M], .int .i64 0])) (q2 : addV s n (x + y) = (.tuple #[.agg #[.int .u32 P, .int .u32 Q], .int .i64 3])) (q3 : addV S M y = (.tuple #[.agg #[.int .u32 P, .int .u32 Q], .int .i64 3])) (hS : 0 ≤ S) (hS' : S < 4294967296) (hM : 0 ≤ M) (hM' : M < 4294967296) :
    Calls Try.prog 7 #[.agg #[.int .u32 s, .int .u32 n], .int .u64 x, .int .u64 y] w fun e w' => e = .returned (.bool true) ∧ Below w.heap.size w w' := by
  have Bt := Blk.new w 24 #[.int .u32 s, .int .u32 n]
  have hB : Below w.heap.size w (w.alloc (.cells #[.int .u32 s, .int .u32 n] 24)) := (Below.refl _ w).alloc (by simp) _
  have kt0 := Bt.cell 0 (v := .int .u32 s) rfl
  have kt1 := Bt.cell 1 (v := .int .u32 n) rfl
  go_enter Try.func7, Try.ntmps7
  go_wp2_with fail
  refine (add_n (.tuple #[.agg #[.int .u32 S, .int .u32 M], .int .i64 0]) q1 hs hs' hn hn' hx hx').mono ?_
  rintro e w1 ⟨rfl, hb⟩
  have Bt := Bt.below hb
  have hB := below_then hB hb
  clear hb
  have Bt := Bt.alloc (.cells #[.int .u32 S, .int .u32 M] 24)
  have Ba := Blk.new w1 24 #[.int .u32 S, .int .u32 M]
  have hB := hB.alloc hB.size (.cells #[.int .u32 S, .int .u32 M] 24)
  have kt0 := Bt.cell 0 (v := .int .u32 s) rfl
  have kt1 := Bt.cell 1 (v := .int .u32 n) rfl
  have ka0 := Ba.cell 0 (v := .int .u32 S) rfl
  have ka1 := Ba.cell 1 (v := .int .u32 M) rfl
  go_wp2_with fail
  refine (add_n (.tuple #[.agg #[.int .u32 P, .int .u32 Q], .int .i64 3]) q2 hs hs' hn hn' (by omega) (by omega)).mono ?_
  rintro e w2 ⟨rfl, hb⟩
  have Bt := Bt.below hb
  have Ba := Ba.below hb
  have hB := below_then hB hb
  clear hb
  have Bt := Bt.alloc (.cells #[.int .u32 P, .int .u32 Q] 24)
  have Ba := Ba.alloc (.cells #[.int .u32 P, .int .u32 Q] 24)
  have Bb := Blk.new w2 24 #[.int .u32 P, .int .u32 Q]
  have hB := hB.alloc hB.size (.cells #[.int .u32 P, .int .u32 Q] 24)
  have kt0 := Bt.cell 0 (v := .int .u32 s) rfl
  have kt1 := Bt.cell 1 (v := .int .u32 n) rfl
  have ka0 := Ba.cell 0 (v := .int .u32 S) rfl
  have ka1 := Ba.cell 1 (v := .int .u32 M) rfl
  have kb0 := Bb.cell 0 (v := .int .u32 P) rfl
  have kb1 := Bb.cell 1 (v := .int .u32 Q) rfl
  go_wp2_with fail
  refine (add_n (.tuple #[.agg #[.int .u32 P, .int .u32 Q], .int .i64 3]) q3 hS hS' hM hM' hy hy').mono ?_
  rintro e w3 ⟨rfl, hb⟩
  have Bt := Bt.below hb
  have Ba := Ba.below hb
  have Bb := Bb.below hb
  have hB := below_then hB hb
  clear hb
  have Bt := Bt.alloc (.cells #[.int .u32 P, .int .u32 Q] 24)
  have Ba := Ba.alloc (.cells #[.int .u32 P, .int .u32 Q] 24)
  have Bb := Bb.alloc (.cells #[.int .u32 P, .int .u32 Q] 24)
  have Bc := Blk.new w3 24 #[.int .u32 P, .int .u32 Q]
  have hB := hB.alloc hB.size (.cells #[.int .u32 P, .int .u32 Q] 24)
  have kt0 := Bt.cell 0 (v := .int .u32 s) rfl
  have kt1 := Bt.cell 1 (v := .int .u32 n) rfl
  have ka0 := Ba.cell 0 (v := .int .u32 S) rfl
  have ka1 := Ba.cell 1 (v := .int .u32 M) rfl
  have kb0 := Bb.cell 0 (v := .int .u32 P) rfl
  have kb1 := Bb.cell 1 (v := .int .u32 Q) rfl
  have kc0 := Bc.cell 0 (v := .int .u32 P) rfl
  have kc1 := Bc.cell 1 (v := .int .u32 Q) rfl
  go_wp2_with fail
  refine (alive09 _).mono ?_
  rintro e w4 ⟨rfl, hb⟩
  have Bt := Bt.below hb
  have Ba := Ba.below hb
  have Bb := Bb.below hb
  have Bc := Bc.below hb
  have hB := below_then hB hb
  clear hb
  have kt0 := Bt.cell 0 (v := .int .u32 s) rfl
  have kt1 := Bt.cell 1 (v := .int .u32 n) rfl
  have ka0 := Ba.cell 0 (v := .int .u32 S) rfl
  have ka1 := Ba.cell 1 (v := .int .u32 M) rfl
  have kb0 := Bb.cell 0 (v := .int .u32 P) rfl
  have kb1 := Bb.cell 1 (v := .int .u32 Q) rfl
  have kc0 := Bc.cell 0 (v := .int .u32 P) rfl
  have kc1 := Bc.cell 1 (v := .int .u32 Q) rfl
  go_wp2
  go_ret
  exact ⟨rfl, hB⟩

theorem TimesSteps_walk (s n x y : Int) (w : World) (hs : 0 ≤ s) (hs' : s < 4294967296) (hn : 0 ≤ n) (hn' : n < 4294967296) (hx : 0 ≤ x) (hx' : x < 18446744073709551616) (hy : 0 ≤ y) (hy' : y < 18446744073709551616) :
    Calls Try.prog 7 #[.agg #[.int .u32 s, .int .u32 n], .int .u64 x, .int .u64 y] w fun e w' => e = .returned (.bool true) ∧ Below w.heap.size w w' := by
  by_cases h1 : 9223372036854775808 < x
  · exact TimesSteps_far1 s n x y w hs hs' hn hn' hx hx' hy hy' h1
  by_cases h2 : 4611686018427387904 < y
  · exact TimesSteps_far2 s n x y w hs hs' hn hn' hx hx' hy hy' h1 h2
  by_cases hb : n < 1000000000
  · by_cases h3 : s + x / 1000000000 + (n + x % 1000000000) / 1000000000 ≤ 4294967295
    · by_cases h4 : s + (x + y) / 1000000000 + (n + (x + y) % 1000000000) / 1000000000 ≤ 4294967295
      · refine TimesSteps_yes0 s n x y w hs hs' hn hn' hx hx' hy hy' h1 h2 _ _ _ _ (addV_ok hb h3) (addV_ok hb h4) ?_ (by omega) (by omega) (by omega) (by omega)
        rw [addV_ok (by omega) (by omega)]
        exact pair_eq (by omega) (by omega)
      · exact TimesSteps_yes3 s n x y w hs hs' hn hn' hx hx' hy hy' h1 h2 _ _ _ _ (addV_ok hb h3) (addV_far hb h4) (addV_far (by omega) (by omega)) (by omega) (by omega) (by omega) (by omega)
    · exact TimesSteps_no3 s n x y w hs hs' hn hn' hx hx' hy hy' h1 h2 (addV_far hb h3) (addV_far hb (by omega))
  · exact TimesSteps_no1 s n x y w hs hs' hn hn' hx hx' hy hy' h1 h2 (addV_bad hb) (addV_bad hb)
end Go.Proofs.Ytofbcflnkmocjaa.Hand
