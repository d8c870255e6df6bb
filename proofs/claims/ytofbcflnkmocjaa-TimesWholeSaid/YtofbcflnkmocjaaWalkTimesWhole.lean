/- The statement TimesWhole, walked: a whole second later has the same Nano; less than one later is in the same second, or in the next one. -/
import Derived.Test.YtofbcflnkmocjaaWalkTimesSteps
import Derived.Test.YtofbcflnkmocjaaWalkTimesLater
namespace Go.Proofs.Ytofbcflnkmocjaa.Hand
open Go.RowKit
set_option linter.unusedVariables false

theorem add_w {s n x : Int} {w : World} (v : Value) (hv : addV s n x = v) (hs : 0 ≤ s ∧ s < 4294967296) (hn : 0 ≤ n ∧ n < 4294967296) (hx : 0 ≤ x ∧ x < 18446744073709551616) :
    Calls Try.prog 15 #[.agg #[.int .u32 s, .int .u32 n], .int .u64 x] w fun e w' => e = .returned v ∧ Below w.heap.size w w' := by
  rw [← hv]
  exact add_ s n x w hs.1 hs.2 hn.1 hn.2 hx.1 hx.2

set_option maxRecDepth 100000 in
set_option maxHeartbeats 4000000 in
theorem TimesWhole_bad (s n x y : Int) (w : World) (hs : 0 ≤ s) (hs' : s < 4294967296) (hn : 0 ≤ n) (hn' : n < 4294967296) (hx : 0 ≤ x) (hx' : x < 4294967296) (hy : 0 ≤ y) (hy' : y < 4294967296) (q1 : addV s n (x * 1000000000) = (.tuple #[.agg #[.int .u32 0, .int .u32 0], .int .i64 1])) (q2 : addV s n (y % 1000000000) = (.tuple #[.agg #[.int .u32 0, .int .u32 0], .int .i64 1])) (c1 : decide (n < 1000000000) = false) :
    Calls Try.prog 9 #[.agg #[.int .u32 s, .int .u32 n], .int .u32 x, .int .u32 y] w fun e w' => e = .returned (.bool true) ∧ Below w.heap.size w w' := by
  have Bt := Blk.new w 24 #[.int .u32 s, .int .u32 n]
  have hB : Below w.heap.size w (w.alloc (.cells #[.int .u32 s, .int .u32 n] 24)) := (Below.refl _ w).alloc (by simp) _
  have kt0 := Bt.cell 0 (v := .int .u32 s) rfl
  have kt1 := Bt.cell 1 (v := .int .u32 n) rfl
  go_enter Try.func9, Try.ntmps9
  go_wp2_with fail
  refine (add_w (.tuple #[.agg #[.int .u32 0, .int .u32 0], .int .i64 1]) q1 ⟨by omega, by omega⟩ ⟨by omega, by omega⟩ ⟨by omega, by omega⟩).mono ?_
  rintro e w1 ⟨rfl, hb⟩
  have Bt := Bt.below hb
  have hB := below_then hB hb
  clear hb
  have Bt := Bt.alloc (.cells #[.int .u32 0, .int .u32 0] 24)
  have Ba := Blk.new w1 24 #[.int .u32 0, .int .u32 0]
  have hB := hB.alloc hB.size (.cells #[.int .u32 0, .int .u32 0] 24)
  have kt0 := Bt.cell 0 (v := .int .u32 s) rfl
  have kt1 := Bt.cell 1 (v := .int .u32 n) rfl
  have ka0 := Ba.cell 0 (v := .int .u32 0) rfl
  have ka1 := Ba.cell 1 (v := .int .u32 0) rfl
  go_wp2_with fail
  refine (add_w (.tuple #[.agg #[.int .u32 0, .int .u32 0], .int .i64 1]) q2 ⟨by omega, by omega⟩ ⟨by omega, by omega⟩ ⟨by omega, by omega⟩).mono ?_
  rintro e w2 ⟨rfl, hb⟩
  have Bt := Bt.below hb
  have Ba := Ba.below hb
  have hB := below_then hB hb
  clear hb
  have Bt := Bt.alloc (.cells #[.int .u32 0, .int .u32 0] 24)
  have Ba := Ba.alloc (.cells #[.int .u32 0, .int .u32 0] 24)
  have Bb := Blk.new w2 24 #[.int .u32 0, .int .u32 0]
  have hB := hB.alloc hB.size (.cells #[.int .u32 0, .int .u32 0] 24)
  have kt0 := Bt.cell 0 (v := .int .u32 s) rfl
  have kt1 := Bt.cell 1 (v := .int .u32 n) rfl
  have ka0 := Ba.cell 0 (v := .int .u32 0) rfl
  have ka1 := Ba.cell 1 (v := .int .u32 0) rfl
  have kb0 := Bb.cell 0 (v := .int .u32 0) rfl
  have kb1 := Bb.cell 1 (v := .int .u32 0) rfl
  go_wp2_with fail
  refine (checkv c1).mono ?_
  rintro e w3 ⟨rfl, hb⟩
  have Bt := Bt.below hb
  have Ba := Ba.below hb
  have Bb := Bb.below hb
  have hB := below_then hB hb
  clear hb
  have kt0 := Bt.cell 0 (v := .int .u32 s) rfl
  have kt1 := Bt.cell 1 (v := .int .u32 n) rfl
  have ka0 := Ba.cell 0 (v := .int .u32 0) rfl
  have ka1 := Ba.cell 1 (v := .int .u32 0) rfl
  have kb0 := Bb.cell 0 (v := .int .u32 0) rfl
  have kb1 := Bb.cell 1 (v := .int .u32 0) rfl
  go_wp2_with fail
  refine (alive09 _).mono ?_
  rintro e w4 ⟨rfl, hb⟩
  have Bt := Bt.below hb
  have Ba := Ba.below hb
  have Bb := Bb.below hb
  have hB := below_then hB hb
  clear hb
  have kt0 := Bt.cell 0 (v := .int .u32 s) rfl
  have kt1 := Bt.cell 1 (v := .int .u32 n) rfl
  have ka0 := Ba.cell 0 (v := .int .u32 0) rfl
  have ka1 := Ba.cell 1 (v := .int .u32 0) rfl
  have kb0 := Bb.cell 0 (v := .int .u32 0) rfl
  have kb1 := Bb.cell 1 (v := .int .u32 0) rfl
  go_wp2
  go_ret
  exact ⟨rfl, hB⟩

set_option maxRecDepth 100000 in
set_option maxHeartbeats 4000000 in
theorem TimesWhole_far (s n x y P Q E : Int) (w : World) (hs : 0 ≤ s) (hs' : s < 4294967296) (hn : 0 ≤ n) (hn' : n < 4294967296) (hx : 0 ≤ x) (hx' : x < 4294967296) (hy : 0 ≤ y) (hy' : y < 4294967296) (q1 : addV s n (x * 1000000000) = (.tuple #[.agg #[.int .u32 0, .int .u32 0], .int .i64 3])) (q2 : addV s n (y % 1000000000) = (.tuple #[.agg #[.int .u32 P, .int .u32 Q], .int .i64 E])) (c1 : decide (n < 1000000000) = true) (h1 : 4294967295 < s + x) :
    Calls Try.prog 9 #[.agg #[.int .u32 s, .int .u32 n], .int .u32 x, .int .u32 y] w fun e w' => e = .returned (.bool true) ∧ Below w.heap.size w w' := by
  have Bt := Blk.new w 24 #[.int .u32 s, .int .u32 n]
  have hB : Below w.heap.size w (w.alloc (.cells #[.int .u32 s, .int .u32 n] 24)) := (Below.refl _ w).alloc (by simp) _
  have kt0 := Bt.cell 0 (v := .int .u32 s) rfl
  have kt1 := Bt.cell 1 (v := .int .u32 n) rfl
  go_enter Try.func9, Try.ntmps9
  go_wp2_with fail
  refine (add_w (.tuple #[.agg #[.int .u32 0, .int .u32 0], .int .i64 3]) q1 ⟨by omega, by omega⟩ ⟨by omega, by omega⟩ ⟨by omega, by omega⟩).mono ?_
  rintro e w1 ⟨rfl, hb⟩
  have Bt := Bt.below hb
  have hB := below_then hB hb
  clear hb
  have Bt := Bt.alloc (.cells #[.int .u32 0, .int .u32 0] 24)
  have Ba := Blk.new w1 24 #[.int .u32 0, .int .u32 0]
  have hB := hB.alloc hB.size (.cells #[.int .u32 0, .int .u32 0] 24)
  have kt0 := Bt.cell 0 (v := .int .u32 s) rfl
  have kt1 := Bt.cell 1 (v := .int .u32 n) rfl
  have ka0 := Ba.cell 0 (v := .int .u32 0) rfl
  have ka1 := Ba.cell 1 (v := .int .u32 0) rfl
  go_wp2_with fail
  refine (add_w (.tuple #[.agg #[.int .u32 P, .int .u32 Q], .int .i64 E]) q2 ⟨by omega, by omega⟩ ⟨by omega, by omega⟩ ⟨by omega, by omega⟩).mono ?_
  rintro e w2 ⟨rfl, hb⟩
  have Bt := Bt.below hb
  have Ba := Ba.below hb
  have hB := below_then hB hb
  clear hb
  have Bt := Bt.alloc (.cells #[.int .u32 P, .int .u32 Q] 24)
  have Ba := Ba.alloc (.cells #[.int .u32 P, .int .u32 Q] 24)
  have Bb := Blk.new w2 24 #[.int .u32 P, .int .u32 Q]
  have hB := hB.alloc hB.size (.cells #[.int .u32 P, .int .u32 Q] 24)
  have kt0 := Bt.cell 0 (v := .int .u32 s) rfl
  have kt1 := Bt.cell 1 (v := .int .u32 n) rfl
  have ka0 := Ba.cell 0 (v := .int .u32 0) rfl
  have ka1 := Ba.cell 1 (v := .int .u32 0) rfl
  have kb0 := Bb.cell 0 (v := .int .u32 P) rfl
  have kb1 := Bb.cell 1 (v := .int .u32 Q) rfl
  go_wp2_with fail
  refine (checkv c1).mono ?_
  rintro e w3 ⟨rfl, hb⟩
  have Bt := Bt.below hb
  have Ba := Ba.below hb
  have Bb := Bb.below hb
  have hB := below_then hB hb
  clear hb
  have kt0 := Bt.cell 0 (v := .int .u32 s) rfl
  have kt1 := Bt.cell 1 (v := .int .u32 n) rfl
  have ka0 := Ba.cell 0 (v := .int .u32 0) rfl
  have ka1 := Ba.cell 1 (v := .int .u32 0) rfl
  have kb0 := Bb.cell 0 (v := .int .u32 P) rfl
  have kb1 := Bb.cell 1 (v := .int .u32 Q) rfl
  go_wp2_with fail
  refine (alive09 _).mono ?_
  rintro e w4 ⟨rfl, hb⟩
  have Bt := Bt.below hb
  have Ba := Ba.below hb
  have Bb := Bb.below hb
  have hB := below_then hB hb
  clear hb
  have kt0 := Bt.cell 0 (v := .int .u32 s) rfl
  have kt1 := Bt.cell 1 (v := .int .u32 n) rfl
  have ka0 := Ba.cell 0 (v := .int .u32 0) rfl
  have ka1 := Ba.cell 1 (v := .int .u32 0) rfl
  have kb0 := Bb.cell 0 (v := .int .u32 P) rfl
  have kb1 := Bb.cell 1 (v := .int .u32 Q) rfl
  go_wp2
  go_ret
  exact ⟨rfl, hB⟩

set_option maxRecDepth 100000 in
set_option maxHeartbeats 4000000 in
theorem TimesWhole_same (s n x y : Int) (w : World) (hs : 0 ≤ s) (hs' : s < 4294967296) (hn : 0 ≤ n) (hn' : n < 4294967296) (hx : 0 ≤ x) (hx' : x < 4294967296) (hy : 0 ≤ y) (hy' : y < 4294967296) (q1 : addV s n (x * 1000000000) = (.tuple #[.agg #[.int .u32 (s + x), .int .u32 n], .int .i64 0])) (q2 : addV s n (y % 1000000000) = (.tuple #[.agg #[.int .u32 s, .int .u32 (n + y % 1000000000)], .int .i64 0])) (c1 : decide (n < 1000000000) = true) (h1 : ¬ 4294967295 < s + x) (h2 : n + y % 1000000000 < 1000000000) :
    Calls Try.prog 9 #[.agg #[.int .u32 s, .int .u32 n], .int .u32 x, .int .u32 y] w fun e w' => e = .returned (.bool true) ∧ Below w.heap.size w w' := by
  have Bt := Blk.new w 24 #[.int .u32 s, .int .u32 n]
  have hB : Below w.heap.size w (w.alloc (.cells #[.int .u32 s, .int .u32 n] 24)) := (Below.refl _ w).alloc (by simp) _
  have kt0 := Bt.cell 0 (v := .int .u32 s) rfl
  have kt1 := Bt.cell 1 (v := .int .u32 n) rfl
  go_enter Try.func9, Try.ntmps9
  go_wp2_with fail
  refine (add_w (.tuple #[.agg #[.int .u32 (s + x), .int .u32 n], .int .i64 0]) q1 ⟨by omega, by omega⟩ ⟨by omega, by omega⟩ ⟨by omega, by omega⟩).mono ?_
  rintro e w1 ⟨rfl, hb⟩
  have Bt := Bt.below hb
  have hB := below_then hB hb
  clear hb
  have Bt := Bt.alloc (.cells #[.int .u32 (s + x), .int .u32 n] 24)
  have Ba := Blk.new w1 24 #[.int .u32 (s + x), .int .u32 n]
  have hB := hB.alloc hB.size (.cells #[.int .u32 (s + x), .int .u32 n] 24)
  have kt0 := Bt.cell 0 (v := .int .u32 s) rfl
  have kt1 := Bt.cell 1 (v := .int .u32 n) rfl
  have ka0 := Ba.cell 0 (v := .int .u32 (s + x)) rfl
  have ka1 := Ba.cell 1 (v := .int .u32 n) rfl
  go_wp2_with fail
  refine (add_w (.tuple #[.agg #[.int .u32 s, .int .u32 (n + y % 1000000000)], .int .i64 0]) q2 ⟨by omega, by omega⟩ ⟨by omega, by omega⟩ ⟨by omega, by omega⟩).mono ?_
  rintro e w2 ⟨rfl, hb⟩
  have Bt := Bt.below hb
  have Ba := Ba.below hb
  have hB := below_then hB hb
  clear hb
  have Bt := Bt.alloc (.cells #[.int .u32 s, .int .u32 (n + y % 1000000000)] 24)
  have Ba := Ba.alloc (.cells #[.int .u32 s, .int .u32 (n + y % 1000000000)] 24)
  have Bb := Blk.new w2 24 #[.int .u32 s, .int .u32 (n + y % 1000000000)]
  have hB := hB.alloc hB.size (.cells #[.int .u32 s, .int .u32 (n + y % 1000000000)] 24)
  have kt0 := Bt.cell 0 (v := .int .u32 s) rfl
  have kt1 := Bt.cell 1 (v := .int .u32 n) rfl
  have ka0 := Ba.cell 0 (v := .int .u32 (s + x)) rfl
  have ka1 := Ba.cell 1 (v := .int .u32 n) rfl
  have kb0 := Bb.cell 0 (v := .int .u32 s) rfl
  have kb1 := Bb.cell 1 (v := .int .u32 (n + y % 1000000000)) rfl
  go_wp2_with fail
  refine (checkv c1).mono ?_
  rintro e w3 ⟨rfl, hb⟩
  have Bt := Bt.below hb
  have Ba := Ba.below hb
  have Bb := Bb.below hb
  have hB := below_then hB hb
  clear hb
  have kt0 := Bt.cell 0 (v := .int .u32 s) rfl
  have kt1 := Bt.cell 1 (v := .int .u32 n) rfl
  have ka0 := Ba.cell 0 (v := .int .u32 (s + x)) rfl
  have ka1 := Ba.cell 1 (v := .int .u32 n) rfl
  have kb0 := Bb.cell 0 (v := .int .u32 s) rfl
  have kb1 := Bb.cell 1 (v := .int .u32 (n + y % 1000000000)) rfl
  go_wp2_with fail
  refine (alive09 _).mono ?_
  rintro e w4 ⟨rfl, hb⟩
  have Bt := Bt.below hb
  have Ba := Ba.below hb
  have Bb := Bb.below hb
  have hB := below_then hB hb
  clear hb
  have kt0 := Bt.cell 0 (v := .int .u32 s) rfl
  have kt1 := Bt.cell 1 (v := .int .u32 n) rfl
  have ka0 := Ba.cell 0 (v := .int .u32 (s + x)) rfl
  have ka1 := Ba.cell 1 (v := .int .u32 n) rfl
  have kb0 := Bb.cell 0 (v := .int .u32 s) rfl
  have kb1 := Bb.cell 1 (v := .int .u32 (n + y % 1000000000)) rfl
  go_wp2
  go_ret
  exact ⟨rfl, hB⟩

set_option maxRecDepth 100000 in
set_option maxHeartbeats 4000000 in
theorem TimesWhole_next (s n x y : Int) (w : World) (hs : 0 ≤ s) (hs' : s < 4294967296) (hn : 0 ≤ n) (hn' : n < 4294967296) (hx : 0 ≤ x) (hx' : x < 4294967296) (hy : 0 ≤ y) (hy' : y < 4294967296) (q1 : addV s n (x * 1000000000) = (.tuple #[.agg #[.int .u32 (s + x), .int .u32 n], .int .i64 0])) (q2 : addV s n (y % 1000000000) = (.tuple #[.agg #[.int .u32 (s + 1), .int .u32 (n + y % 1000000000 - 1000000000)], .int .i64 0])) (c1 : decide (n < 1000000000) = true) (h1 : ¬ 4294967295 < s + x) (h2 : ¬ n + y % 1000000000 < 1000000000) (h3 : s + 1 < 4294967296) (h4 : (s + 1 == s) = false) :
    Calls Try.prog 9 #[.agg #[.int .u32 s, .int .u32 n], .int .u32 x, .int .u32 y] w fun e w' => e = .returned (.bool true) ∧ Below w.heap.size w w' := by
  have Bt := Blk.new w 24 #[.int .u32 s, .int .u32 n]
  have hB : Below w.heap.size w (w.alloc (.cells #[.int .u32 s, .int .u32 n] 24)) := (Below.refl _ w).alloc (by simp) _
  have kt0 := Bt.cell 0 (v := .int .u32 s) rfl
  have kt1 := Bt.cell 1 (v := .int .u32 n) rfl
  go_enter Try.func9, Try.ntmps9
  go_wp2_with fail
  refine (add_w (.tuple #[.agg #[.int .u32 (s + x), .int .u32 n], .int .i64 0]) q1 ⟨by omega, by omega⟩ ⟨by omega, by omega⟩ ⟨by omega, by omega⟩).mono ?_
  rintro e w1 ⟨rfl, hb⟩
  have Bt := Bt.below hb
  have hB := below_then hB hb
  clear hb
  have Bt := Bt.alloc (.cells #[.int .u32 (s + x), .int .u32 n] 24)
  have Ba := Blk.new w1 24 #[.int .u32 (s + x), .int .u32 n]
  have hB := hB.alloc hB.size (.cells #[.int .u32 (s + x), .int .u32 n] 24)
  have kt0 := Bt.cell 0 (v := .int .u32 s) rfl
  have kt1 := Bt.cell 1 (v := .int .u32 n) rfl
  have ka0 := Ba.cell 0 (v := .int .u32 (s + x)) rfl
  have ka1 := Ba.cell 1 (v := .int .u32 n) rfl
  go_wp2_with fail
  refine (add_w (.tuple #[.agg #[.int .u32 (s + 1), .int .u32 (n + y % 1000000000 - 1000000000)], .int .i64 0]) q2 ⟨by omega, by omega⟩ ⟨by omega, by omega⟩ ⟨by omega, by omega⟩).mono ?_
  rintro e w2 ⟨rfl, hb⟩
  have Bt := Bt.below hb
  have Ba := Ba.below hb
  have hB := below_then hB hb
  clear hb
  have Bt := Bt.alloc (.cells #[.int .u32 (s + 1), .int .u32 (n + y % 1000000000 - 1000000000)] 24)
  have Ba := Ba.alloc (.cells #[.int .u32 (s + 1), .int .u32 (n + y % 1000000000 - 1000000000)] 24)
  have Bb := Blk.new w2 24 #[.int .u32 (s + 1), .int .u32 (n + y % 1000000000 - 1000000000)]
  have hB := hB.alloc hB.size (.cells #[.int .u32 (s + 1), .int .u32 (n + y % 1000000000 - 1000000000)] 24)
  have kt0 := Bt.cell 0 (v := .int .u32 s) rfl
  have kt1 := Bt.cell 1 (v := .int .u32 n) rfl
  have ka0 := Ba.cell 0 (v := .int .u32 (s + x)) rfl
  have ka1 := Ba.cell 1 (v := .int .u32 n) rfl
  have kb0 := Bb.cell 0 (v := .int .u32 (s + 1)) rfl
  have kb1 := Bb.cell 1 (v := .int .u32 (n + y % 1000000000 - 1000000000)) rfl
  go_wp2_with fail
  refine (checkv c1).mono ?_
  rintro e w3 ⟨rfl, hb⟩
  have Bt := Bt.below hb
  have Ba := Ba.below hb
  have Bb := Bb.below hb
  have hB := below_then hB hb
  clear hb
  have kt0 := Bt.cell 0 (v := .int .u32 s) rfl
  have kt1 := Bt.cell 1 (v := .int .u32 n) rfl
  have ka0 := Ba.cell 0 (v := .int .u32 (s + x)) rfl
  have ka1 := Ba.cell 1 (v := .int .u32 n) rfl
  have kb0 := Bb.cell 0 (v := .int .u32 (s + 1)) rfl
  have kb1 := Bb.cell 1 (v := .int .u32 (n + y % 1000000000 - 1000000000)) rfl
  go_wp2_with fail
  refine (alive09 _).mono ?_
  rintro e w4 ⟨rfl, hb⟩
  have Bt := Bt.below hb
  have Ba := Ba.below hb
  have Bb := Bb.below hb
  have hB := below_then hB hb
  clear hb
  have kt0 := Bt.cell 0 (v := .int .u32 s) rfl
  have kt1 := Bt.cell 1 (v := .int .u32 n) rfl
  have ka0 := Ba.cell 0 (v := .int .u32 (s + x)) rfl
  have ka1 := Ba.cell 1 (v := .int .u32 n) rfl
  have kb0 := Bb.cell 0 (v := .int .u32 (s + 1)) rfl
  have kb1 := Bb.cell 1 (v := .int .u32 (n + y % 1000000000 - 1000000000)) rfl
  go_wp2
  go_ret
  exact ⟨rfl, hB⟩

set_option maxRecDepth 100000 in
set_option maxHeartbeats 4000000 in
theorem TimesWhole_over (n x y : Int) (w : World) (hn : 0 ≤ n) (hn' : n < 4294967296) (hx : 0 ≤ x) (hx' : x < 4294967296) (hy : 0 ≤ y) (hy' : y < 4294967296) (q1 : addV 4294967295 n (x * 1000000000) = (.tuple #[.agg #[.int .u32 (4294967295 + x), .int .u32 n], .int .i64 0])) (q2 : addV 4294967295 n (y % 1000000000) = (.tuple #[.agg #[.int .u32 0, .int .u32 0], .int .i64 3])) (c1 : decide (n < 1000000000) = true) (h1 : ¬ 4294967295 < 4294967295 + x) :
    Calls Try.prog 9 #[.agg #[.int .u32 4294967295, .int .u32 n], .int .u32 x, .int .u32 y] w fun e w' => e = .returned (.bool true) ∧ Below w.heap.size w w' := by
  have Bt := Blk.new w 24 #[.int .u32 4294967295, .int .u32 n]
  have hB : Below w.heap.size w (w.alloc (.cells #[.int .u32 4294967295, .int .u32 n] 24)) := (Below.refl _ w).alloc (by simp) _
  have kt0 := Bt.cell 0 (v := .int .u32 4294967295) rfl
  have kt1 := Bt.cell 1 (v := .int .u32 n) rfl
  go_enter Try.func9, Try.ntmps9
  go_wp2_with fail
  refine (add_w (.tuple #[.agg #[.int .u32 (4294967295 + x), .int .u32 n], .int .i64 0]) q1 ⟨by omega, by omega⟩ ⟨by omega, by omega⟩ ⟨by omega, by omega⟩).mono ?_
  rintro e w1 ⟨rfl, hb⟩
  have Bt := Bt.below hb
  have hB := below_then hB hb
  clear hb
  have Bt := Bt.alloc (.cells #[.int .u32 (4294967295 + x), .int .u32 n] 24)
  have Ba := Blk.new w1 24 #[.int .u32 (4294967295 + x), .int .u32 n]
  have hB := hB.alloc hB.size (.cells #[.int .u32 (4294967295 + x), .int .u32 n] 24)
  have kt0 := Bt.cell 0 (v := .int .u32 4294967295) rfl
  have kt1 := Bt.cell 1 (v := .int .u32 n) rfl
  have ka0 := Ba.cell 0 (v := .int .u32 (4294967295 + x)) rfl
  have ka1 := Ba.cell 1 (v := .int .u32 n) rfl
  go_wp2_with fail
  refine (add_w (.tuple #[.agg #[.int .u32 0, .int .u32 0], .int .i64 3]) q2 ⟨by omega, by omega⟩ ⟨by omega, by omega⟩ ⟨by omega, by omega⟩).mono ?_
  rintro e w2 ⟨rfl, hb⟩
  have Bt := Bt.below hb
  have Ba := Ba.below hb
  have hB := below_then hB hb
  clear hb
  have Bt := Bt.alloc (.cells #[.int .u32 0, .int .u32 0] 24)
  have Ba := Ba.alloc (.cells #[.int .u32 0, .int .u32 0] 24)
  have Bb := Blk.new w2 24 #[.int .u32 0, .int .u32 0]
  have hB := hB.alloc hB.size (.cells #[.int .u32 0, .int .u32 0] 24)
  have kt0 := Bt.cell 0 (v := .int .u32 4294967295) rfl
  have kt1 := Bt.cell 1 (v := .int .u32 n) rfl
  have ka0 := Ba.cell 0 (v := .int .u32 (4294967295 + x)) rfl
  have ka1 := Ba.cell 1 (v := .int .u32 n) rfl
  have kb0 := Bb.cell 0 (v := .int .u32 0) rfl
  have kb1 := Bb.cell 1 (v := .int .u32 0) rfl
  go_wp2_with fail
  refine (checkv c1).mono ?_
  rintro e w3 ⟨rfl, hb⟩
  have Bt := Bt.below hb
  have Ba := Ba.below hb
  have Bb := Bb.below hb
  have hB := below_then hB hb
  clear hb
  have kt0 := Bt.cell 0 (v := .int .u32 4294967295) rfl
  have kt1 := Bt.cell 1 (v := .int .u32 n) rfl
  have ka0 := Ba.cell 0 (v := .int .u32 (4294967295 + x)) rfl
  have ka1 := Ba.cell 1 (v := .int .u32 n) rfl
  have kb0 := Bb.cell 0 (v := .int .u32 0) rfl
  have kb1 := Bb.cell 1 (v := .int .u32 0) rfl
  go_wp2_with fail
  refine (alive09 _).mono ?_
  rintro e w4 ⟨rfl, hb⟩
  have Bt := Bt.below hb
  have Ba := Ba.below hb
  have Bb := Bb.below hb
  have hB := below_then hB hb
  clear hb
  have kt0 := Bt.cell 0 (v := .int .u32 4294967295) rfl
  have kt1 := Bt.cell 1 (v := .int .u32 n) rfl
  have ka0 := Ba.cell 0 (v := .int .u32 (4294967295 + x)) rfl
  have ka1 := Ba.cell 1 (v := .int .u32 n) rfl
  have kb0 := Bb.cell 0 (v := .int .u32 0) rfl
  have kb1 := Bb.cell 1 (v := .int .u32 0) rfl
  go_wp2
  go_ret
  exact ⟨rfl, hB⟩

theorem TimesWhole_walk (s n x y : Int) (w : World) (hs : 0 ≤ s) (hs' : s < 4294967296) (hn : 0 ≤ n) (hn' : n < 4294967296) (hx : 0 ≤ x) (hx' : x < 4294967296) (hy : 0 ≤ y) (hy' : y < 4294967296) :
    Calls Try.prog 9 #[.agg #[.int .u32 s, .int .u32 n], .int .u32 x, .int .u32 y] w fun e w' => e = .returned (.bool true) ∧ Below w.heap.size w w' := by
  by_cases hb : n < 1000000000
  · have C1 := decide_eq_true hb
    by_cases h1 : 4294967295 < s + x
    · exact TimesWhole_far s n x y _ _ _ w hs hs' hn hn' hx hx' hy hy' (addV_far hb (by omega)) rfl C1 h1
    · have q1 : addV s n (x * 1000000000) = .tuple #[.agg #[.int .u32 (s + x), .int .u32 n], .int .i64 0] := (addV_ok hb (by omega)).trans (pair_eq (by omega) (by omega))
      by_cases h2 : n + y % 1000000000 < 1000000000
      · exact TimesWhole_same s n x y w hs hs' hn hn' hx hx' hy hy' q1 ((addV_ok hb (by omega)).trans (pair_eq (by omega) (by omega))) C1 h1 h2
      · by_cases h3 : s + 1 < 4294967296
        · exact TimesWhole_next s n x y w hs hs' hn hn' hx hx' hy hy' q1 ((addV_ok hb (by omega)).trans (pair_eq (by omega) (by omega))) C1 h1 h2 h3 (by rw [beq_eq_false_iff_ne]; omega)
        · obtain rfl : s = 4294967295 := by omega
          exact TimesWhole_over n x y w hn hn' hx hx' hy hy' q1 (addV_far hb (by omega)) C1 h1
  · exact TimesWhole_bad s n x y w hs hs' hn hn' hx hx' hy hy' (addV_bad hb) (addV_bad hb) (decide_eq_false hb)
end Go.Proofs.Ytofbcflnkmocjaa.Hand
