/- The statement TimesLater, walked: what is later by a number above 0 is later; what is ahead stays ahead. -/
import Derived.Test.YtofbcflnkmocjaaWalkTimesOrder
namespace Go.Proofs.Ytofbcflnkmocjaa.Hand
open Go.RowKit
set_option linter.unusedVariables false

theorem checkv {s n : Int} {v : Bool} {w : World} (h : decide (n < 1000000000) = v) : Calls Try.prog 11 #[.agg #[.int .u32 s, .int .u32 n]] w fun e w' => e = .returned (.bool v) ∧ Below w.heap.size w w' := by
  rw [← h]
  exact check s n w

set_option maxRecDepth 100000 in
set_option maxHeartbeats 4000000 in
theorem TimesLater_A (s n t m x : Int) (w : World) (hs : 0 ≤ s) (hs' : s < 4294967296) (hn : 0 ≤ n) (hn' : n < 4294967296) (ht : 0 ≤ t) (ht' : t < 4294967296) (hm : 0 ≤ m) (hm' : m < 4294967296) (hx : 0 ≤ x) (hx' : x < 18446744073709551616) (S M P Q : Int) (E : Int) (q1 : addV s n x = (.tuple #[.agg #[.int .u32 S, .int .u32 M], .int .i64 1])) (q2 : addV t m x = (.tuple #[.agg #[.int .u32 P, .int .u32 Q], .int .i64 E])) (c2 : decide (n < 1000000000) = false) :
    Calls Try.prog 8 #[.agg #[.int .u32 s, .int .u32 n], .agg #[.int .u32 t, .int .u32 m], .int .u64 x] w fun e w' => e = .returned (.bool true) ∧ Below w.heap.size w w' := by
  have Bs := (Blk.new w 24 #[.int .u32 s, .int .u32 n]).alloc (.cells #[.int .u32 t, .int .u32 m] 24)
  have Bt := Blk.new (w.alloc (.cells #[.int .u32 s, .int .u32 n] 24)) 24 #[.int .u32 t, .int .u32 m]
  simp only [World.size_alloc] at Bt
  have hB : Below w.heap.size w ((w.alloc (.cells #[.int .u32 s, .int .u32 n] 24)).alloc (.cells #[.int .u32 t, .int .u32 m] 24)) := ((Below.refl _ w).alloc (by simp) _).alloc (by simp) _
  have ks0 := Bs.cell 0 (v := .int .u32 s) rfl
  have ks1 := Bs.cell 1 (v := .int .u32 n) rfl
  have kt0 := Bt.cell 0 (v := .int .u32 t) rfl
  have kt1 := Bt.cell 1 (v := .int .u32 m) rfl
  go_enter Try.func8, Try.ntmps8
  go_wp2_with fail
  refine (add_n (.tuple #[.agg #[.int .u32 S, .int .u32 M], .int .i64 1]) q1 hs hs' hn hn' hx hx').mono ?_
  rintro e w1 ⟨rfl, hb⟩
  have Bs := Bs.below hb
  have Bt := Bt.below hb
  have hB := below_then hB hb
  clear hb
  have Bs := Bs.alloc (.cells #[.int .u32 S, .int .u32 M] 24)
  have Bt := Bt.alloc (.cells #[.int .u32 S, .int .u32 M] 24)
  have Ba := Blk.new w1 24 #[.int .u32 S, .int .u32 M]
  have hB := hB.alloc hB.size (.cells #[.int .u32 S, .int .u32 M] 24)
  have ks0 := Bs.cell 0 (v := .int .u32 s) rfl
  have ks1 := Bs.cell 1 (v := .int .u32 n) rfl
  have kt0 := Bt.cell 0 (v := .int .u32 t) rfl
  have kt1 := Bt.cell 1 (v := .int .u32 m) rfl
  have ka0 := Ba.cell 0 (v := .int .u32 S) rfl
  have ka1 := Ba.cell 1 (v := .int .u32 M) rfl
  go_wp2_with fail
  refine (add_n (.tuple #[.agg #[.int .u32 P, .int .u32 Q], .int .i64 E]) q2 ht ht' hm hm' hx hx').mono ?_
  rintro e w2 ⟨rfl, hb⟩
  have Bs := Bs.below hb
  have Bt := Bt.below hb
  have Ba := Ba.below hb
  have hB := below_then hB hb
  clear hb
  have Bs := Bs.alloc (.cells #[.int .u32 P, .int .u32 Q] 24)
  have Bt := Bt.alloc (.cells #[.int .u32 P, .int .u32 Q] 24)
  have Ba := Ba.alloc (.cells #[.int .u32 P, .int .u32 Q] 24)
  have Bb := Blk.new w2 24 #[.int .u32 P, .int .u32 Q]
  have hB := hB.alloc hB.size (.cells #[.int .u32 P, .int .u32 Q] 24)
  have ks0 := Bs.cell 0 (v := .int .u32 s) rfl
  have ks1 := Bs.cell 1 (v := .int .u32 n) rfl
  have kt0 := Bt.cell 0 (v := .int .u32 t) rfl
  have kt1 := Bt.cell 1 (v := .int .u32 m) rfl
  have ka0 := Ba.cell 0 (v := .int .u32 S) rfl
  have ka1 := Ba.cell 1 (v := .int .u32 M) rfl
  have kb0 := Bb.cell 0 (v := .int .u32 P) rfl
  have kb1 := Bb.cell 1 (v := .int .u32 Q) rfl
  go_wp2_with fail
  refine (checkv c2).mono ?_
  rintro e w3 ⟨rfl, hb⟩
  have Bs := Bs.below hb
  have Bt := Bt.below hb
  have Ba := Ba.below hb
  have Bb := Bb.below hb
  have hB := below_then hB hb
  clear hb
  have ks0 := Bs.cell 0 (v := .int .u32 s) rfl
  have ks1 := Bs.cell 1 (v := .int .u32 n) rfl
  have kt0 := Bt.cell 0 (v := .int .u32 t) rfl
  have kt1 := Bt.cell 1 (v := .int .u32 m) rfl
  have ka0 := Ba.cell 0 (v := .int .u32 S) rfl
  have ka1 := Ba.cell 1 (v := .int .u32 M) rfl
  have kb0 := Bb.cell 0 (v := .int .u32 P) rfl
  have kb1 := Bb.cell 1 (v := .int .u32 Q) rfl
  go_wp2_with fail
  refine (alive09 _).mono ?_
  rintro e w4 ⟨rfl, hb⟩
  have Bs := Bs.below hb
  have Bt := Bt.below hb
  have Ba := Ba.below hb
  have Bb := Bb.below hb
  have hB := below_then hB hb
  clear hb
  have ks0 := Bs.cell 0 (v := .int .u32 s) rfl
  have ks1 := Bs.cell 1 (v := .int .u32 n) rfl
  have kt0 := Bt.cell 0 (v := .int .u32 t) rfl
  have kt1 := Bt.cell 1 (v := .int .u32 m) rfl
  have ka0 := Ba.cell 0 (v := .int .u32 S) rfl
  have ka1 := Ba.cell 1 (v := .int .u32 M) rfl
  have kb0 := Bb.cell 0 (v := .int .u32 P) rfl
  have kb1 := Bb.cell 1 (v := .int .u32 Q) rfl
  go_wp2
  go_ret
  exact ⟨rfl, hB⟩

set_option maxRecDepth 100000 in
set_option maxHeartbeats 4000000 in
theorem TimesLater_B1 (s n t m x : Int) (w : World) (hs : 0 ≤ s) (hs' : s < 4294967296) (hn : 0 ≤ n) (hn' : n < 4294967296) (ht : 0 ≤ t) (ht' : t < 4294967296) (hm : 0 ≤ m) (hm' : m < 4294967296) (hx : 0 ≤ x) (hx' : x < 18446744073709551616) (S M P Q : Int) (q1 : addV s n x = (.tuple #[.agg #[.int .u32 S, .int .u32 M], .int .i64 0])) (q2 : addV t m x = (.tuple #[.agg #[.int .u32 P, .int .u32 Q], .int .i64 1])) (l1 : ltT s n S M = decide (0 < x)) (c1 : decide (M < 1000000000) = true) (c2 : decide (n < 1000000000) = true) (c3 : decide (m < 1000000000) = false) :
    Calls Try.prog 8 #[.agg #[.int .u32 s, .int .u32 n], .agg #[.int .u32 t, .int .u32 m], .int .u64 x] w fun e w' => e = .returned (.bool true) ∧ Below w.heap.size w w' := by
  have Bs := (Blk.new w 24 #[.int .u32 s, .int .u32 n]).alloc (.cells #[.int .u32 t, .int .u32 m] 24)
  have Bt := Blk.new (w.alloc (.cells #[.int .u32 s, .int .u32 n] 24)) 24 #[.int .u32 t, .int .u32 m]
  simp only [World.size_alloc] at Bt
  have hB : Below w.heap.size w ((w.alloc (.cells #[.int .u32 s, .int .u32 n] 24)).alloc (.cells #[.int .u32 t, .int .u32 m] 24)) := ((Below.refl _ w).alloc (by simp) _).alloc (by simp) _
  have ks0 := Bs.cell 0 (v := .int .u32 s) rfl
  have ks1 := Bs.cell 1 (v := .int .u32 n) rfl
  have kt0 := Bt.cell 0 (v := .int .u32 t) rfl
  have kt1 := Bt.cell 1 (v := .int .u32 m) rfl
  go_enter Try.func8, Try.ntmps8
  go_wp2_with fail
  refine (add_n (.tuple #[.agg #[.int .u32 S, .int .u32 M], .int .i64 0]) q1 hs hs' hn hn' hx hx').mono ?_
  rintro e w1 ⟨rfl, hb⟩
  have Bs := Bs.below hb
  have Bt := Bt.below hb
  have hB := below_then hB hb
  clear hb
  have Bs := Bs.alloc (.cells #[.int .u32 S, .int .u32 M] 24)
  have Bt := Bt.alloc (.cells #[.int .u32 S, .int .u32 M] 24)
  have Ba := Blk.new w1 24 #[.int .u32 S, .int .u32 M]
  have hB := hB.alloc hB.size (.cells #[.int .u32 S, .int .u32 M] 24)
  have ks0 := Bs.cell 0 (v := .int .u32 s) rfl
  have ks1 := Bs.cell 1 (v := .int .u32 n) rfl
  have kt0 := Bt.cell 0 (v := .int .u32 t) rfl
  have kt1 := Bt.cell 1 (v := .int .u32 m) rfl
  have ka0 := Ba.cell 0 (v := .int .u32 S) rfl
  have ka1 := Ba.cell 1 (v := .int .u32 M) rfl
  go_wp2_with fail
  refine (add_n (.tuple #[.agg #[.int .u32 P, .int .u32 Q], .int .i64 1]) q2 ht ht' hm hm' hx hx').mono ?_
  rintro e w2 ⟨rfl, hb⟩
  have Bs := Bs.below hb
  have Bt := Bt.below hb
  have Ba := Ba.below hb
  have hB := below_then hB hb
  clear hb
  have Bs := Bs.alloc (.cells #[.int .u32 P, .int .u32 Q] 24)
  have Bt := Bt.alloc (.cells #[.int .u32 P, .int .u32 Q] 24)
  have Ba := Ba.alloc (.cells #[.int .u32 P, .int .u32 Q] 24)
  have Bb := Blk.new w2 24 #[.int .u32 P, .int .u32 Q]
  have hB := hB.alloc hB.size (.cells #[.int .u32 P, .int .u32 Q] 24)
  have ks0 := Bs.cell 0 (v := .int .u32 s) rfl
  have ks1 := Bs.cell 1 (v := .int .u32 n) rfl
  have kt0 := Bt.cell 0 (v := .int .u32 t) rfl
  have kt1 := Bt.cell 1 (v := .int .u32 m) rfl
  have ka0 := Ba.cell 0 (v := .int .u32 S) rfl
  have ka1 := Ba.cell 1 (v := .int .u32 M) rfl
  have kb0 := Bb.cell 0 (v := .int .u32 P) rfl
  have kb1 := Bb.cell 1 (v := .int .u32 Q) rfl
  go_wp2_with fail
  refine (lessv l1).mono ?_
  rintro e w3 ⟨rfl, hb⟩
  have Bs := Bs.below hb
  have Bt := Bt.below hb
  have Ba := Ba.below hb
  have Bb := Bb.below hb
  have hB := below_then hB hb
  clear hb
  have ks0 := Bs.cell 0 (v := .int .u32 s) rfl
  have ks1 := Bs.cell 1 (v := .int .u32 n) rfl
  have kt0 := Bt.cell 0 (v := .int .u32 t) rfl
  have kt1 := Bt.cell 1 (v := .int .u32 m) rfl
  have ka0 := Ba.cell 0 (v := .int .u32 S) rfl
  have ka1 := Ba.cell 1 (v := .int .u32 M) rfl
  have kb0 := Bb.cell 0 (v := .int .u32 P) rfl
  have kb1 := Bb.cell 1 (v := .int .u32 Q) rfl
  go_wp2_with fail
  refine (checkv c1).mono ?_
  rintro e w4 ⟨rfl, hb⟩
  have Bs := Bs.below hb
  have Bt := Bt.below hb
  have Ba := Ba.below hb
  have Bb := Bb.below hb
  have hB := below_then hB hb
  clear hb
  have ks0 := Bs.cell 0 (v := .int .u32 s) rfl
  have ks1 := Bs.cell 1 (v := .int .u32 n) rfl
  have kt0 := Bt.cell 0 (v := .int .u32 t) rfl
  have kt1 := Bt.cell 1 (v := .int .u32 m) rfl
  have ka0 := Ba.cell 0 (v := .int .u32 S) rfl
  have ka1 := Ba.cell 1 (v := .int .u32 M) rfl
  have kb0 := Bb.cell 0 (v := .int .u32 P) rfl
  have kb1 := Bb.cell 1 (v := .int .u32 Q) rfl
  go_wp2_with fail
  refine (checkv c2).mono ?_
  rintro e w5 ⟨rfl, hb⟩
  have Bs := Bs.below hb
  have Bt := Bt.below hb
  have Ba := Ba.below hb
  have Bb := Bb.below hb
  have hB := below_then hB hb
  clear hb
  have ks0 := Bs.cell 0 (v := .int .u32 s) rfl
  have ks1 := Bs.cell 1 (v := .int .u32 n) rfl
  have kt0 := Bt.cell 0 (v := .int .u32 t) rfl
  have kt1 := Bt.cell 1 (v := .int .u32 m) rfl
  have ka0 := Ba.cell 0 (v := .int .u32 S) rfl
  have ka1 := Ba.cell 1 (v := .int .u32 M) rfl
  have kb0 := Bb.cell 0 (v := .int .u32 P) rfl
  have kb1 := Bb.cell 1 (v := .int .u32 Q) rfl
  go_wp2_with fail
  refine (checkv c3).mono ?_
  rintro e w6 ⟨rfl, hb⟩
  have Bs := Bs.below hb
  have Bt := Bt.below hb
  have Ba := Ba.below hb
  have Bb := Bb.below hb
  have hB := below_then hB hb
  clear hb
  have ks0 := Bs.cell 0 (v := .int .u32 s) rfl
  have ks1 := Bs.cell 1 (v := .int .u32 n) rfl
  have kt0 := Bt.cell 0 (v := .int .u32 t) rfl
  have kt1 := Bt.cell 1 (v := .int .u32 m) rfl
  have ka0 := Ba.cell 0 (v := .int .u32 S) rfl
  have ka1 := Ba.cell 1 (v := .int .u32 M) rfl
  have kb0 := Bb.cell 0 (v := .int .u32 P) rfl
  have kb1 := Bb.cell 1 (v := .int .u32 Q) rfl
  go_wp2_with fail
  refine (alive09 _).mono ?_
  rintro e w7 ⟨rfl, hb⟩
  have Bs := Bs.below hb
  have Bt := Bt.below hb
  have Ba := Ba.below hb
  have Bb := Bb.below hb
  have hB := below_then hB hb
  clear hb
  have ks0 := Bs.cell 0 (v := .int .u32 s) rfl
  have ks1 := Bs.cell 1 (v := .int .u32 n) rfl
  have kt0 := Bt.cell 0 (v := .int .u32 t) rfl
  have kt1 := Bt.cell 1 (v := .int .u32 m) rfl
  have ka0 := Ba.cell 0 (v := .int .u32 S) rfl
  have ka1 := Ba.cell 1 (v := .int .u32 M) rfl
  have kb0 := Bb.cell 0 (v := .int .u32 P) rfl
  have kb1 := Bb.cell 1 (v := .int .u32 Q) rfl
  go_wp2
  go_ret
  exact ⟨rfl, hB⟩

set_option maxRecDepth 100000 in
set_option maxHeartbeats 4000000 in
theorem TimesLater_B2 (s n t m x : Int) (w : World) (hs : 0 ≤ s) (hs' : s < 4294967296) (hn : 0 ≤ n) (hn' : n < 4294967296) (ht : 0 ≤ t) (ht' : t < 4294967296) (hm : 0 ≤ m) (hm' : m < 4294967296) (hx : 0 ≤ x) (hx' : x < 18446744073709551616) (S M P Q : Int) (E : Int) (q1 : addV s n x = (.tuple #[.agg #[.int .u32 S, .int .u32 M], .int .i64 0])) (q2 : addV t m x = (.tuple #[.agg #[.int .u32 P, .int .u32 Q], .int .i64 E])) (l1 : ltT s n S M = decide (0 < x)) (c1 : decide (M < 1000000000) = true) (c2 : decide (n < 1000000000) = true) (c3 : decide (m < 1000000000) = true) (l2 : ltT s n t m = false) :
    Calls Try.prog 8 #[.agg #[.int .u32 s, .int .u32 n], .agg #[.int .u32 t, .int .u32 m], .int .u64 x] w fun e w' => e = .returned (.bool true) ∧ Below w.heap.size w w' := by
  have Bs := (Blk.new w 24 #[.int .u32 s, .int .u32 n]).alloc (.cells #[.int .u32 t, .int .u32 m] 24)
  have Bt := Blk.new (w.alloc (.cells #[.int .u32 s, .int .u32 n] 24)) 24 #[.int .u32 t, .int .u32 m]
  simp only [World.size_alloc] at Bt
  have hB : Below w.heap.size w ((w.alloc (.cells #[.int .u32 s, .int .u32 n] 24)).alloc (.cells #[.int .u32 t, .int .u32 m] 24)) := ((Below.refl _ w).alloc (by simp) _).alloc (by simp) _
  have ks0 := Bs.cell 0 (v := .int .u32 s) rfl
  have ks1 := Bs.cell 1 (v := .int .u32 n) rfl
  have kt0 := Bt.cell 0 (v := .int .u32 t) rfl
  have kt1 := Bt.cell 1 (v := .int .u32 m) rfl
  go_enter Try.func8, Try.ntmps8
  go_wp2_with fail
  refine (add_n (.tuple #[.agg #[.int .u32 S, .int .u32 M], .int .i64 0]) q1 hs hs' hn hn' hx hx').mono ?_
  rintro e w1 ⟨rfl, hb⟩
  have Bs := Bs.below hb
  have Bt := Bt.below hb
  have hB := below_then hB hb
  clear hb
  have Bs := Bs.alloc (.cells #[.int .u32 S, .int .u32 M] 24)
  have Bt := Bt.alloc (.cells #[.int .u32 S, .int .u32 M] 24)
  have Ba := Blk.new w1 24 #[.int .u32 S, .int .u32 M]
  have hB := hB.alloc hB.size (.cells #[.int .u32 S, .int .u32 M] 24)
  have ks0 := Bs.cell 0 (v := .int .u32 s) rfl
  have ks1 := Bs.cell 1 (v := .int .u32 n) rfl
  have kt0 := Bt.cell 0 (v := .int .u32 t) rfl
  have kt1 := Bt.cell 1 (v := .int .u32 m) rfl
  have ka0 := Ba.cell 0 (v := .int .u32 S) rfl
  have ka1 := Ba.cell 1 (v := .int .u32 M) rfl
  go_wp2_with fail
  refine (add_n (.tuple #[.agg #[.int .u32 P, .int .u32 Q], .int .i64 E]) q2 ht ht' hm hm' hx hx').mono ?_
  rintro e w2 ⟨rfl, hb⟩
  have Bs := Bs.below hb
  have Bt := Bt.below hb
  have Ba := Ba.below hb
  have hB := below_then hB hb
  clear hb
  have Bs := Bs.alloc (.cells #[.int .u32 P, .int .u32 Q] 24)
  have Bt := Bt.alloc (.cells #[.int .u32 P, .int .u32 Q] 24)
  have Ba := Ba.alloc (.cells #[.int .u32 P, .int .u32 Q] 24)
  have Bb := Blk.new w2 24 #[.int .u32 P, .int .u32 Q]
  have hB := hB.alloc hB.size (.cells #[.int .u32 P, .int .u32 Q] 24)
  have ks0 := Bs.cell 0 (v := .int .u32 s) rfl
  have ks1 := Bs.cell 1 (v := .int .u32 n) rfl
  have kt0 := Bt.cell 0 (v := .int .u32 t) rfl
  have kt1 := Bt.cell 1 (v := .int .u32 m) rfl
  have ka0 := Ba.cell 0 (v := .int .u32 S) rfl
  have ka1 := Ba.cell 1 (v := .int .u32 M) rfl
  have kb0 := Bb.cell 0 (v := .int .u32 P) rfl
  have kb1 := Bb.cell 1 (v := .int .u32 Q) rfl
  go_wp2_with fail
  refine (lessv l1).mono ?_
  rintro e w3 ⟨rfl, hb⟩
  have Bs := Bs.below hb
  have Bt := Bt.below hb
  have Ba := Ba.below hb
  have Bb := Bb.below hb
  have hB := below_then hB hb
  clear hb
  have ks0 := Bs.cell 0 (v := .int .u32 s) rfl
  have ks1 := Bs.cell 1 (v := .int .u32 n) rfl
  have kt0 := Bt.cell 0 (v := .int .u32 t) rfl
  have kt1 := Bt.cell 1 (v := .int .u32 m) rfl
  have ka0 := Ba.cell 0 (v := .int .u32 S) rfl
  have ka1 := Ba.cell 1 (v := .int .u32 M) rfl
  have kb0 := Bb.cell 0 (v := .int .u32 P) rfl
  have kb1 := Bb.cell 1 (v := .int .u32 Q) rfl
  go_wp2_with fail
  refine (checkv c1).mono ?_
  rintro e w4 ⟨rfl, hb⟩
  have Bs := Bs.below hb
  have Bt := Bt.below hb
  have Ba := Ba.below hb
  have Bb := Bb.below hb
  have hB := below_then hB hb
  clear hb
  have ks0 := Bs.cell 0 (v := .int .u32 s) rfl
  have ks1 := Bs.cell 1 (v := .int .u32 n) rfl
  have kt0 := Bt.cell 0 (v := .int .u32 t) rfl
  have kt1 := Bt.cell 1 (v := .int .u32 m) rfl
  have ka0 := Ba.cell 0 (v := .int .u32 S) rfl
  have ka1 := Ba.cell 1 (v := .int .u32 M) rfl
  have kb0 := Bb.cell 0 (v := .int .u32 P) rfl
  have kb1 := Bb.cell 1 (v := .int .u32 Q) rfl
  go_wp2_with fail
  refine (checkv c2).mono ?_
  rintro e w5 ⟨rfl, hb⟩
  have Bs := Bs.below hb
  have Bt := Bt.below hb
  have Ba := Ba.below hb
  have Bb := Bb.below hb
  have hB := below_then hB hb
  clear hb
  have ks0 := Bs.cell 0 (v := .int .u32 s) rfl
  have ks1 := Bs.cell 1 (v := .int .u32 n) rfl
  have kt0 := Bt.cell 0 (v := .int .u32 t) rfl
  have kt1 := Bt.cell 1 (v := .int .u32 m) rfl
  have ka0 := Ba.cell 0 (v := .int .u32 S) rfl
  have ka1 := Ba.cell 1 (v := .int .u32 M) rfl
  have kb0 := Bb.cell 0 (v := .int .u32 P) rfl
  have kb1 := Bb.cell 1 (v := .int .u32 Q) rfl
  go_wp2_with fail
  refine (checkv c3).mono ?_
  rintro e w6 ⟨rfl, hb⟩
  have Bs := Bs.below hb
  have Bt := Bt.below hb
  have Ba := Ba.below hb
  have Bb := Bb.below hb
  have hB := below_then hB hb
  clear hb
  have ks0 := Bs.cell 0 (v := .int .u32 s) rfl
  have ks1 := Bs.cell 1 (v := .int .u32 n) rfl
  have kt0 := Bt.cell 0 (v := .int .u32 t) rfl
  have kt1 := Bt.cell 1 (v := .int .u32 m) rfl
  have ka0 := Ba.cell 0 (v := .int .u32 S) rfl
  have ka1 := Ba.cell 1 (v := .int .u32 M) rfl
  have kb0 := Bb.cell 0 (v := .int .u32 P) rfl
  have kb1 := Bb.cell 1 (v := .int .u32 Q) rfl
  go_wp2_with fail
  refine (lessv l2).mono ?_
  rintro e w7 ⟨rfl, hb⟩
  have Bs := Bs.below hb
  have Bt := Bt.below hb
  have Ba := Ba.below hb
  have Bb := Bb.below hb
  have hB := below_then hB hb
  clear hb
  have ks0 := Bs.cell 0 (v := .int .u32 s) rfl
  have ks1 := Bs.cell 1 (v := .int .u32 n) rfl
  have kt0 := Bt.cell 0 (v := .int .u32 t) rfl
  have kt1 := Bt.cell 1 (v := .int .u32 m) rfl
  have ka0 := Ba.cell 0 (v := .int .u32 S) rfl
  have ka1 := Ba.cell 1 (v := .int .u32 M) rfl
  have kb0 := Bb.cell 0 (v := .int .u32 P) rfl
  have kb1 := Bb.cell 1 (v := .int .u32 Q) rfl
  go_wp2_with fail
  refine (alive09 _).mono ?_
  rintro e w8 ⟨rfl, hb⟩
  have Bs := Bs.below hb
  have Bt := Bt.below hb
  have Ba := Ba.below hb
  have Bb := Bb.below hb
  have hB := below_then hB hb
  clear hb
  have ks0 := Bs.cell 0 (v := .int .u32 s) rfl
  have ks1 := Bs.cell 1 (v := .int .u32 n) rfl
  have kt0 := Bt.cell 0 (v := .int .u32 t) rfl
  have kt1 := Bt.cell 1 (v := .int .u32 m) rfl
  have ka0 := Ba.cell 0 (v := .int .u32 S) rfl
  have ka1 := Ba.cell 1 (v := .int .u32 M) rfl
  have kb0 := Bb.cell 0 (v := .int .u32 P) rfl
  have kb1 := Bb.cell 1 (v := .int .u32 Q) rfl
  go_wp2
  go_ret
  exact ⟨rfl, hB⟩

set_option maxRecDepth 100000 in
set_option maxHeartbeats 4000000 in
theorem TimesLater_B3 (s n t m x : Int) (w : World) (hs : 0 ≤ s) (hs' : s < 4294967296) (hn : 0 ≤ n) (hn' : n < 4294967296) (ht : 0 ≤ t) (ht' : t < 4294967296) (hm : 0 ≤ m) (hm' : m < 4294967296) (hx : 0 ≤ x) (hx' : x < 18446744073709551616) (S M P Q : Int) (q1 : addV s n x = (.tuple #[.agg #[.int .u32 S, .int .u32 M], .int .i64 0])) (q2 : addV t m x = (.tuple #[.agg #[.int .u32 P, .int .u32 Q], .int .i64 3])) (l1 : ltT s n S M = decide (0 < x)) (c1 : decide (M < 1000000000) = true) (c2 : decide (n < 1000000000) = true) (c3 : decide (m < 1000000000) = true) (l2 : ltT s n t m = true) :
    Calls Try.prog 8 #[.agg #[.int .u32 s, .int .u32 n], .agg #[.int .u32 t, .int .u32 m], .int .u64 x] w fun e w' => e = .returned (.bool true) ∧ Below w.heap.size w w' := by
  have Bs := (Blk.new w 24 #[.int .u32 s, .int .u32 n]).alloc (.cells #[.int .u32 t, .int .u32 m] 24)
  have Bt := Blk.new (w.alloc (.cells #[.int .u32 s, .int .u32 n] 24)) 24 #[.int .u32 t, .int .u32 m]
  simp only [World.size_alloc] at Bt
  have hB : Below w.heap.size w ((w.alloc (.cells #[.int .u32 s, .int .u32 n] 24)).alloc (.cells #[.int .u32 t, .int .u32 m] 24)) := ((Below.refl _ w).alloc (by simp) _).alloc (by simp) _
  have ks0 := Bs.cell 0 (v := .int .u32 s) rfl
  have ks1 := Bs.cell 1 (v := .int .u32 n) rfl
  have kt0 := Bt.cell 0 (v := .int .u32 t) rfl
  have kt1 := Bt.cell 1 (v := .int .u32 m) rfl
  go_enter Try.func8, Try.ntmps8
  go_wp2_with fail
  refine (add_n (.tuple #[.agg #[.int .u32 S, .int .u32 M], .int .i64 0]) q1 hs hs' hn hn' hx hx').mono ?_
  rintro e w1 ⟨rfl, hb⟩
  have Bs := Bs.below hb
  have Bt := Bt.below hb
  have hB := below_then hB hb
  clear hb
  have Bs := Bs.alloc (.cells #[.int .u32 S, .int .u32 M] 24)
  have Bt := Bt.alloc (.cells #[.int .u32 S, .int .u32 M] 24)
  have Ba := Blk.new w1 24 #[.int .u32 S, .int .u32 M]
  have hB := hB.alloc hB.size (.cells #[.int .u32 S, .int .u32 M] 24)
  have ks0 := Bs.cell 0 (v := .int .u32 s) rfl
  have ks1 := Bs.cell 1 (v := .int .u32 n) rfl
  have kt0 := Bt.cell 0 (v := .int .u32 t) rfl
  have kt1 := Bt.cell 1 (v := .int .u32 m) rfl
  have ka0 := Ba.cell 0 (v := .int .u32 S) rfl
  have ka1 := Ba.cell 1 (v := .int .u32 M) rfl
  go_wp2_with fail
  refine (add_n (.tuple #[.agg #[.int .u32 P, .int .u32 Q], .int .i64 3]) q2 ht ht' hm hm' hx hx').mono ?_
  rintro e w2 ⟨rfl, hb⟩
  have Bs := Bs.below hb
  have Bt := Bt.below hb
  have Ba := Ba.below hb
  have hB := below_then hB hb
  clear hb
  have Bs := Bs.alloc (.cells #[.int .u32 P, .int .u32 Q] 24)
  have Bt := Bt.alloc (.cells #[.int .u32 P, .int .u32 Q] 24)
  have Ba := Ba.alloc (.cells #[.int .u32 P, .int .u32 Q] 24)
  have Bb := Blk.new w2 24 #[.int .u32 P, .int .u32 Q]
  have hB := hB.alloc hB.size (.cells #[.int .u32 P, .int .u32 Q] 24)
  have ks0 := Bs.cell 0 (v := .int .u32 s) rfl
  have ks1 := Bs.cell 1 (v := .int .u32 n) rfl
  have kt0 := Bt.cell 0 (v := .int .u32 t) rfl
  have kt1 := Bt.cell 1 (v := .int .u32 m) rfl
  have ka0 := Ba.cell 0 (v := .int .u32 S) rfl
  have ka1 := Ba.cell 1 (v := .int .u32 M) rfl
  have kb0 := Bb.cell 0 (v := .int .u32 P) rfl
  have kb1 := Bb.cell 1 (v := .int .u32 Q) rfl
  go_wp2_with fail
  refine (lessv l1).mono ?_
  rintro e w3 ⟨rfl, hb⟩
  have Bs := Bs.below hb
  have Bt := Bt.below hb
  have Ba := Ba.below hb
  have Bb := Bb.below hb
  have hB := below_then hB hb
  clear hb
  have ks0 := Bs.cell 0 (v := .int .u32 s) rfl
  have ks1 := Bs.cell 1 (v := .int .u32 n) rfl
  have kt0 := Bt.cell 0 (v := .int .u32 t) rfl
  have kt1 := Bt.cell 1 (v := .int .u32 m) rfl
  have ka0 := Ba.cell 0 (v := .int .u32 S) rfl
  have ka1 := Ba.cell 1 (v := .int .u32 M) rfl
  have kb0 := Bb.cell 0 (v := .int .u32 P) rfl
  have kb1 := Bb.cell 1 (v := .int .u32 Q) rfl
  go_wp2_with fail
  refine (checkv c1).mono ?_
  rintro e w4 ⟨rfl, hb⟩
  have Bs := Bs.below hb
  have Bt := Bt.below hb
  have Ba := Ba.below hb
  have Bb := Bb.below hb
  have hB := below_then hB hb
  clear hb
  have ks0 := Bs.cell 0 (v := .int .u32 s) rfl
  have ks1 := Bs.cell 1 (v := .int .u32 n) rfl
  have kt0 := Bt.cell 0 (v := .int .u32 t) rfl
  have kt1 := Bt.cell 1 (v := .int .u32 m) rfl
  have ka0 := Ba.cell 0 (v := .int .u32 S) rfl
  have ka1 := Ba.cell 1 (v := .int .u32 M) rfl
  have kb0 := Bb.cell 0 (v := .int .u32 P) rfl
  have kb1 := Bb.cell 1 (v := .int .u32 Q) rfl
  go_wp2_with fail
  refine (checkv c2).mono ?_
  rintro e w5 ⟨rfl, hb⟩
  have Bs := Bs.below hb
  have Bt := Bt.below hb
  have Ba := Ba.below hb
  have Bb := Bb.below hb
  have hB := below_then hB hb
  clear hb
  have ks0 := Bs.cell 0 (v := .int .u32 s) rfl
  have ks1 := Bs.cell 1 (v := .int .u32 n) rfl
  have kt0 := Bt.cell 0 (v := .int .u32 t) rfl
  have kt1 := Bt.cell 1 (v := .int .u32 m) rfl
  have ka0 := Ba.cell 0 (v := .int .u32 S) rfl
  have ka1 := Ba.cell 1 (v := .int .u32 M) rfl
  have kb0 := Bb.cell 0 (v := .int .u32 P) rfl
  have kb1 := Bb.cell 1 (v := .int .u32 Q) rfl
  go_wp2_with fail
  refine (checkv c3).mono ?_
  rintro e w6 ⟨rfl, hb⟩
  have Bs := Bs.below hb
  have Bt := Bt.below hb
  have Ba := Ba.below hb
  have Bb := Bb.below hb
  have hB := below_then hB hb
  clear hb
  have ks0 := Bs.cell 0 (v := .int .u32 s) rfl
  have ks1 := Bs.cell 1 (v := .int .u32 n) rfl
  have kt0 := Bt.cell 0 (v := .int .u32 t) rfl
  have kt1 := Bt.cell 1 (v := .int .u32 m) rfl
  have ka0 := Ba.cell 0 (v := .int .u32 S) rfl
  have ka1 := Ba.cell 1 (v := .int .u32 M) rfl
  have kb0 := Bb.cell 0 (v := .int .u32 P) rfl
  have kb1 := Bb.cell 1 (v := .int .u32 Q) rfl
  go_wp2_with fail
  refine (lessv l2).mono ?_
  rintro e w7 ⟨rfl, hb⟩
  have Bs := Bs.below hb
  have Bt := Bt.below hb
  have Ba := Ba.below hb
  have Bb := Bb.below hb
  have hB := below_then hB hb
  clear hb
  have ks0 := Bs.cell 0 (v := .int .u32 s) rfl
  have ks1 := Bs.cell 1 (v := .int .u32 n) rfl
  have kt0 := Bt.cell 0 (v := .int .u32 t) rfl
  have kt1 := Bt.cell 1 (v := .int .u32 m) rfl
  have ka0 := Ba.cell 0 (v := .int .u32 S) rfl
  have ka1 := Ba.cell 1 (v := .int .u32 M) rfl
  have kb0 := Bb.cell 0 (v := .int .u32 P) rfl
  have kb1 := Bb.cell 1 (v := .int .u32 Q) rfl
  go_wp2_with fail
  refine (alive09 _).mono ?_
  rintro e w8 ⟨rfl, hb⟩
  have Bs := Bs.below hb
  have Bt := Bt.below hb
  have Ba := Ba.below hb
  have Bb := Bb.below hb
  have hB := below_then hB hb
  clear hb
  have ks0 := Bs.cell 0 (v := .int .u32 s) rfl
  have ks1 := Bs.cell 1 (v := .int .u32 n) rfl
  have kt0 := Bt.cell 0 (v := .int .u32 t) rfl
  have kt1 := Bt.cell 1 (v := .int .u32 m) rfl
  have ka0 := Ba.cell 0 (v := .int .u32 S) rfl
  have ka1 := Ba.cell 1 (v := .int .u32 M) rfl
  have kb0 := Bb.cell 0 (v := .int .u32 P) rfl
  have kb1 := Bb.cell 1 (v := .int .u32 Q) rfl
  go_wp2
  go_ret
  exact ⟨rfl, hB⟩

set_option maxRecDepth 100000 in
set_option maxHeartbeats 4000000 in
theorem TimesLater_B4 (s n t m x : Int) (w : World) (hs : 0 ≤ s) (hs' : s < 4294967296) (hn : 0 ≤ n) (hn' : n < 4294967296) (ht : 0 ≤ t) (ht' : t < 4294967296) (hm : 0 ≤ m) (hm' : m < 4294967296) (hx : 0 ≤ x) (hx' : x < 18446744073709551616) (S M P Q : Int) (q1 : addV s n x = (.tuple #[.agg #[.int .u32 S, .int .u32 M], .int .i64 0])) (q2 : addV t m x = (.tuple #[.agg #[.int .u32 P, .int .u32 Q], .int .i64 0])) (l1 : ltT s n S M = decide (0 < x)) (c1 : decide (M < 1000000000) = true) (c2 : decide (n < 1000000000) = true) (c3 : decide (m < 1000000000) = true) (l2 : ltT s n t m = true) (l3 : ltT S M P Q = true) :
    Calls Try.prog 8 #[.agg #[.int .u32 s, .int .u32 n], .agg #[.int .u32 t, .int .u32 m], .int .u64 x] w fun e w' => e = .returned (.bool true) ∧ Below w.heap.size w w' := by
  have Bs := (Blk.new w 24 #[.int .u32 s, .int .u32 n]).alloc (.cells #[.int .u32 t, .int .u32 m] 24)
  have Bt := Blk.new (w.alloc (.cells #[.int .u32 s, .int .u32 n] 24)) 24 #[.int .u32 t, .int .u32 m]
  simp only [World.size_alloc] at Bt
  have hB : Below w.heap.size w ((w.alloc (.cells #[.int .u32 s, .int .u32 n] 24)).alloc (.cells #[.int .u32 t, .int .u32 m] 24)) := ((Below.refl _ w).alloc (by simp) _).alloc (by simp) _
  have ks0 := Bs.cell 0 (v := .int .u32 s) rfl
  have ks1 := Bs.cell 1 (v := .int .u32 n) rfl
  have kt0 := Bt.cell 0 (v := .int .u32 t) rfl
  have kt1 := Bt.cell 1 (v := .int .u32 m) rfl
  go_enter Try.func8, Try.ntmps8
  go_wp2_with fail
  refine (add_n (.tuple #[.agg #[.int .u32 S, .int .u32 M], .int .i64 0]) q1 hs hs' hn hn' hx hx').mono ?_
  rintro e w1 ⟨rfl, hb⟩
  have Bs := Bs.below hb
  have Bt := Bt.below hb
  have hB := below_then hB hb
  clear hb
  have Bs := Bs.alloc (.cells #[.int .u32 S, .int .u32 M] 24)
  have Bt := Bt.alloc (.cells #[.int .u32 S, .int .u32 M] 24)
  have Ba := Blk.new w1 24 #[.int .u32 S, .int .u32 M]
  have hB := hB.alloc hB.size (.cells #[.int .u32 S, .int .u32 M] 24)
  have ks0 := Bs.cell 0 (v := .int .u32 s) rfl
  have ks1 := Bs.cell 1 (v := .int .u32 n) rfl
  have kt0 := Bt.cell 0 (v := .int .u32 t) rfl
  have kt1 := Bt.cell 1 (v := .int .u32 m) rfl
  have ka0 := Ba.cell 0 (v := .int .u32 S) rfl
  have ka1 := Ba.cell 1 (v := .int .u32 M) rfl
  go_wp2_with fail
  refine (add_n (.tuple #[.agg #[.int .u32 P, .int .u32 Q], .int .i64 0]) q2 ht ht' hm hm' hx hx').mono ?_
  rintro e w2 ⟨rfl, hb⟩
  have Bs := Bs.below hb
  have Bt := Bt.below hb
  have Ba := Ba.below hb
  have hB := below_then hB hb
  clear hb
  have Bs := Bs.alloc (.cells #[.int .u32 P, .int .u32 Q] 24)
  have Bt := Bt.alloc (.cells #[.int .u32 P, .int .u32 Q] 24)
  have Ba := Ba.alloc (.cells #[.int .u32 P, .int .u32 Q] 24)
  have Bb := Blk.new w2 24 #[.int .u32 P, .int .u32 Q]
  have hB := hB.alloc hB.size (.cells #[.int .u32 P, .int .u32 Q] 24)
  have ks0 := Bs.cell 0 (v := .int .u32 s) rfl
  have ks1 := Bs.cell 1 (v := .int .u32 n) rfl
  have kt0 := Bt.cell 0 (v := .int .u32 t) rfl
  have kt1 := Bt.cell 1 (v := .int .u32 m) rfl
  have ka0 := Ba.cell 0 (v := .int .u32 S) rfl
  have ka1 := Ba.cell 1 (v := .int .u32 M) rfl
  have kb0 := Bb.cell 0 (v := .int .u32 P) rfl
  have kb1 := Bb.cell 1 (v := .int .u32 Q) rfl
  go_wp2_with fail
  refine (lessv l1).mono ?_
  rintro e w3 ⟨rfl, hb⟩
  have Bs := Bs.below hb
  have Bt := Bt.below hb
  have Ba := Ba.below hb
  have Bb := Bb.below hb
  have hB := below_then hB hb
  clear hb
  have ks0 := Bs.cell 0 (v := .int .u32 s) rfl
  have ks1 := Bs.cell 1 (v := .int .u32 n) rfl
  have kt0 := Bt.cell 0 (v := .int .u32 t) rfl
  have kt1 := Bt.cell 1 (v := .int .u32 m) rfl
  have ka0 := Ba.cell 0 (v := .int .u32 S) rfl
  have ka1 := Ba.cell 1 (v := .int .u32 M) rfl
  have kb0 := Bb.cell 0 (v := .int .u32 P) rfl
  have kb1 := Bb.cell 1 (v := .int .u32 Q) rfl
  go_wp2_with fail
  refine (checkv c1).mono ?_
  rintro e w4 ⟨rfl, hb⟩
  have Bs := Bs.below hb
  have Bt := Bt.below hb
  have Ba := Ba.below hb
  have Bb := Bb.below hb
  have hB := below_then hB hb
  clear hb
  have ks0 := Bs.cell 0 (v := .int .u32 s) rfl
  have ks1 := Bs.cell 1 (v := .int .u32 n) rfl
  have kt0 := Bt.cell 0 (v := .int .u32 t) rfl
  have kt1 := Bt.cell 1 (v := .int .u32 m) rfl
  have ka0 := Ba.cell 0 (v := .int .u32 S) rfl
  have ka1 := Ba.cell 1 (v := .int .u32 M) rfl
  have kb0 := Bb.cell 0 (v := .int .u32 P) rfl
  have kb1 := Bb.cell 1 (v := .int .u32 Q) rfl
  go_wp2_with fail
  refine (checkv c2).mono ?_
  rintro e w5 ⟨rfl, hb⟩
  have Bs := Bs.below hb
  have Bt := Bt.below hb
  have Ba := Ba.below hb
  have Bb := Bb.below hb
  have hB := below_then hB hb
  clear hb
  have ks0 := Bs.cell 0 (v := .int .u32 s) rfl
  have ks1 := Bs.cell 1 (v := .int .u32 n) rfl
  have kt0 := Bt.cell 0 (v := .int .u32 t) rfl
  have kt1 := Bt.cell 1 (v := .int .u32 m) rfl
  have ka0 := Ba.cell 0 (v := .int .u32 S) rfl
  have ka1 := Ba.cell 1 (v := .int .u32 M) rfl
  have kb0 := Bb.cell 0 (v := .int .u32 P) rfl
  have kb1 := Bb.cell 1 (v := .int .u32 Q) rfl
  go_wp2_with fail
  refine (checkv c3).mono ?_
  rintro e w6 ⟨rfl, hb⟩
  have Bs := Bs.below hb
  have Bt := Bt.below hb
  have Ba := Ba.below hb
  have Bb := Bb.below hb
  have hB := below_then hB hb
  clear hb
  have ks0 := Bs.cell 0 (v := .int .u32 s) rfl
  have ks1 := Bs.cell 1 (v := .int .u32 n) rfl
  have kt0 := Bt.cell 0 (v := .int .u32 t) rfl
  have kt1 := Bt.cell 1 (v := .int .u32 m) rfl
  have ka0 := Ba.cell 0 (v := .int .u32 S) rfl
  have ka1 := Ba.cell 1 (v := .int .u32 M) rfl
  have kb0 := Bb.cell 0 (v := .int .u32 P) rfl
  have kb1 := Bb.cell 1 (v := .int .u32 Q) rfl
  go_wp2_with fail
  refine (lessv l2).mono ?_
  rintro e w7 ⟨rfl, hb⟩
  have Bs := Bs.below hb
  have Bt := Bt.below hb
  have Ba := Ba.below hb
  have Bb := Bb.below hb
  have hB := below_then hB hb
  clear hb
  have ks0 := Bs.cell 0 (v := .int .u32 s) rfl
  have ks1 := Bs.cell 1 (v := .int .u32 n) rfl
  have kt0 := Bt.cell 0 (v := .int .u32 t) rfl
  have kt1 := Bt.cell 1 (v := .int .u32 m) rfl
  have ka0 := Ba.cell 0 (v := .int .u32 S) rfl
  have ka1 := Ba.cell 1 (v := .int .u32 M) rfl
  have kb0 := Bb.cell 0 (v := .int .u32 P) rfl
  have kb1 := Bb.cell 1 (v := .int .u32 Q) rfl
  go_wp2_with fail
  refine (alive09 _).mono ?_
  rintro e w8 ⟨rfl, hb⟩
  have Bs := Bs.below hb
  have Bt := Bt.below hb
  have Ba := Ba.below hb
  have Bb := Bb.below hb
  have hB := below_then hB hb
  clear hb
  have ks0 := Bs.cell 0 (v := .int .u32 s) rfl
  have ks1 := Bs.cell 1 (v := .int .u32 n) rfl
  have kt0 := Bt.cell 0 (v := .int .u32 t) rfl
  have kt1 := Bt.cell 1 (v := .int .u32 m) rfl
  have ka0 := Ba.cell 0 (v := .int .u32 S) rfl
  have ka1 := Ba.cell 1 (v := .int .u32 M) rfl
  have kb0 := Bb.cell 0 (v := .int .u32 P) rfl
  have kb1 := Bb.cell 1 (v := .int .u32 Q) rfl
  go_wp2_with fail
  refine (lessv l3).mono ?_
  rintro e w9 ⟨rfl, hb⟩
  have Bs := Bs.below hb
  have Bt := Bt.below hb
  have Ba := Ba.below hb
  have Bb := Bb.below hb
  have hB := below_then hB hb
  clear hb
  have ks0 := Bs.cell 0 (v := .int .u32 s) rfl
  have ks1 := Bs.cell 1 (v := .int .u32 n) rfl
  have kt0 := Bt.cell 0 (v := .int .u32 t) rfl
  have kt1 := Bt.cell 1 (v := .int .u32 m) rfl
  have ka0 := Ba.cell 0 (v := .int .u32 S) rfl
  have ka1 := Ba.cell 1 (v := .int .u32 M) rfl
  have kb0 := Bb.cell 0 (v := .int .u32 P) rfl
  have kb1 := Bb.cell 1 (v := .int .u32 Q) rfl
  go_wp2
  go_ret
  exact ⟨rfl, hB⟩

set_option maxRecDepth 100000 in
set_option maxHeartbeats 4000000 in
theorem TimesLater_C1 (s n t m x : Int) (w : World) (hs : 0 ≤ s) (hs' : s < 4294967296) (hn : 0 ≤ n) (hn' : n < 4294967296) (ht : 0 ≤ t) (ht' : t < 4294967296) (hm : 0 ≤ m) (hm' : m < 4294967296) (hx : 0 ≤ x) (hx' : x < 18446744073709551616) (S M P Q : Int) (q1 : addV s n x = (.tuple #[.agg #[.int .u32 S, .int .u32 M], .int .i64 3])) (q2 : addV t m x = (.tuple #[.agg #[.int .u32 P, .int .u32 Q], .int .i64 1])) (c2 : decide (n < 1000000000) = true) (c3 : decide (m < 1000000000) = false) :
    Calls Try.prog 8 #[.agg #[.int .u32 s, .int .u32 n], .agg #[.int .u32 t, .int .u32 m], .int .u64 x] w fun e w' => e = .returned (.bool true) ∧ Below w.heap.size w w' := by
  have Bs := (Blk.new w 24 #[.int .u32 s, .int .u32 n]).alloc (.cells #[.int .u32 t, .int .u32 m] 24)
  have Bt := Blk.new (w.alloc (.cells #[.int .u32 s, .int .u32 n] 24)) 24 #[.int .u32 t, .int .u32 m]
  simp only [World.size_alloc] at Bt
  have hB : Below w.heap.size w ((w.alloc (.cells #[.int .u32 s, .int .u32 n] 24)).alloc (.cells #[.int .u32 t, .int .u32 m] 24)) := ((Below.refl _ w).alloc (by simp) _).alloc (by simp) _
  have ks0 := Bs.cell 0 (v := .int .u32 s) rfl
  have ks1 := Bs.cell 1 (v := .int .u32 n) rfl
  have kt0 := Bt.cell 0 (v := .int .u32 t) rfl
  have kt1 := Bt.cell 1 (v := .int .u32 m) rfl
  go_enter Try.func8, Try.ntmps8
  go_wp2_with fail
  refine (add_n (.tuple #[.agg #[.int .u32 S, .int .u32 M], .int .i64 3]) q1 hs hs' hn hn' hx hx').mono ?_
  rintro e w1 ⟨rfl, hb⟩
  have Bs := Bs.below hb
  have Bt := Bt.below hb
  have hB := below_then hB hb
  clear hb
  have Bs := Bs.alloc (.cells #[.int .u32 S, .int .u32 M] 24)
  have Bt := Bt.alloc (.cells #[.int .u32 S, .int .u32 M] 24)
  have Ba := Blk.new w1 24 #[.int .u32 S, .int .u32 M]
  have hB := hB.alloc hB.size (.cells #[.int .u32 S, .int .u32 M] 24)
  have ks0 := Bs.cell 0 (v := .int .u32 s) rfl
  have ks1 := Bs.cell 1 (v := .int .u32 n) rfl
  have kt0 := Bt.cell 0 (v := .int .u32 t) rfl
  have kt1 := Bt.cell 1 (v := .int .u32 m) rfl
  have ka0 := Ba.cell 0 (v := .int .u32 S) rfl
  have ka1 := Ba.cell 1 (v := .int .u32 M) rfl
  go_wp2_with fail
  refine (add_n (.tuple #[.agg #[.int .u32 P, .int .u32 Q], .int .i64 1]) q2 ht ht' hm hm' hx hx').mono ?_
  rintro e w2 ⟨rfl, hb⟩
  have Bs := Bs.below hb
  have Bt := Bt.below hb
  have Ba := Ba.below hb
  have hB := below_then hB hb
  clear hb
  have Bs := Bs.alloc (.cells #[.int .u32 P, .int .u32 Q] 24)
  have Bt := Bt.alloc (.cells #[.int .u32 P, .int .u32 Q] 24)
  have Ba := Ba.alloc (.cells #[.int .u32 P, .int .u32 Q] 24)
  have Bb := Blk.new w2 24 #[.int .u32 P, .int .u32 Q]
  have hB := hB.alloc hB.size (.cells #[.int .u32 P, .int .u32 Q] 24)
  have ks0 := Bs.cell 0 (v := .int .u32 s) rfl
  have ks1 := Bs.cell 1 (v := .int .u32 n) rfl
  have kt0 := Bt.cell 0 (v := .int .u32 t) rfl
  have kt1 := Bt.cell 1 (v := .int .u32 m) rfl
  have ka0 := Ba.cell 0 (v := .int .u32 S) rfl
  have ka1 := Ba.cell 1 (v := .int .u32 M) rfl
  have kb0 := Bb.cell 0 (v := .int .u32 P) rfl
  have kb1 := Bb.cell 1 (v := .int .u32 Q) rfl
  go_wp2_with fail
  refine (checkv c2).mono ?_
  rintro e w3 ⟨rfl, hb⟩
  have Bs := Bs.below hb
  have Bt := Bt.below hb
  have Ba := Ba.below hb
  have Bb := Bb.below hb
  have hB := below_then hB hb
  clear hb
  have ks0 := Bs.cell 0 (v := .int .u32 s) rfl
  have ks1 := Bs.cell 1 (v := .int .u32 n) rfl
  have kt0 := Bt.cell 0 (v := .int .u32 t) rfl
  have kt1 := Bt.cell 1 (v := .int .u32 m) rfl
  have ka0 := Ba.cell 0 (v := .int .u32 S) rfl
  have ka1 := Ba.cell 1 (v := .int .u32 M) rfl
  have kb0 := Bb.cell 0 (v := .int .u32 P) rfl
  have kb1 := Bb.cell 1 (v := .int .u32 Q) rfl
  go_wp2_with fail
  refine (checkv c3).mono ?_
  rintro e w4 ⟨rfl, hb⟩
  have Bs := Bs.below hb
  have Bt := Bt.below hb
  have Ba := Ba.below hb
  have Bb := Bb.below hb
  have hB := below_then hB hb
  clear hb
  have ks0 := Bs.cell 0 (v := .int .u32 s) rfl
  have ks1 := Bs.cell 1 (v := .int .u32 n) rfl
  have kt0 := Bt.cell 0 (v := .int .u32 t) rfl
  have kt1 := Bt.cell 1 (v := .int .u32 m) rfl
  have ka0 := Ba.cell 0 (v := .int .u32 S) rfl
  have ka1 := Ba.cell 1 (v := .int .u32 M) rfl
  have kb0 := Bb.cell 0 (v := .int .u32 P) rfl
  have kb1 := Bb.cell 1 (v := .int .u32 Q) rfl
  go_wp2_with fail
  refine (alive09 _).mono ?_
  rintro e w5 ⟨rfl, hb⟩
  have Bs := Bs.below hb
  have Bt := Bt.below hb
  have Ba := Ba.below hb
  have Bb := Bb.below hb
  have hB := below_then hB hb
  clear hb
  have ks0 := Bs.cell 0 (v := .int .u32 s) rfl
  have ks1 := Bs.cell 1 (v := .int .u32 n) rfl
  have kt0 := Bt.cell 0 (v := .int .u32 t) rfl
  have kt1 := Bt.cell 1 (v := .int .u32 m) rfl
  have ka0 := Ba.cell 0 (v := .int .u32 S) rfl
  have ka1 := Ba.cell 1 (v := .int .u32 M) rfl
  have kb0 := Bb.cell 0 (v := .int .u32 P) rfl
  have kb1 := Bb.cell 1 (v := .int .u32 Q) rfl
  go_wp2
  go_ret
  exact ⟨rfl, hB⟩

set_option maxRecDepth 100000 in
set_option maxHeartbeats 4000000 in
theorem TimesLater_C2 (s n t m x : Int) (w : World) (hs : 0 ≤ s) (hs' : s < 4294967296) (hn : 0 ≤ n) (hn' : n < 4294967296) (ht : 0 ≤ t) (ht' : t < 4294967296) (hm : 0 ≤ m) (hm' : m < 4294967296) (hx : 0 ≤ x) (hx' : x < 18446744073709551616) (S M P Q : Int) (E : Int) (q1 : addV s n x = (.tuple #[.agg #[.int .u32 S, .int .u32 M], .int .i64 3])) (q2 : addV t m x = (.tuple #[.agg #[.int .u32 P, .int .u32 Q], .int .i64 E])) (c2 : decide (n < 1000000000) = true) (c3 : decide (m < 1000000000) = true) (l2 : ltT s n t m = false) :
    Calls Try.prog 8 #[.agg #[.int .u32 s, .int .u32 n], .agg #[.int .u32 t, .int .u32 m], .int .u64 x] w fun e w' => e = .returned (.bool true) ∧ Below w.heap.size w w' := by
  have Bs := (Blk.new w 24 #[.int .u32 s, .int .u32 n]).alloc (.cells #[.int .u32 t, .int .u32 m] 24)
  have Bt := Blk.new (w.alloc (.cells #[.int .u32 s, .int .u32 n] 24)) 24 #[.int .u32 t, .int .u32 m]
  simp only [World.size_alloc] at Bt
  have hB : Below w.heap.size w ((w.alloc (.cells #[.int .u32 s, .int .u32 n] 24)).alloc (.cells #[.int .u32 t, .int .u32 m] 24)) := ((Below.refl _ w).alloc (by simp) _).alloc (by simp) _
  have ks0 := Bs.cell 0 (v := .int .u32 s) rfl
  have ks1 := Bs.cell 1 (v := .int .u32 n) rfl
  have kt0 := Bt.cell 0 (v := .int .u32 t) rfl
  have kt1 := Bt.cell 1 (v := .int .u32 m) rfl
  go_enter Try.func8, Try.ntmps8
  go_wp2_with fail
  refine (add_n (.tuple #[.agg #[.int .u32 S, .int .u32 M], .int .i64 3]) q1 hs hs' hn hn' hx hx').mono ?_
  rintro e w1 ⟨rfl, hb⟩
  have Bs := Bs.below hb
  have Bt := Bt.below hb
  have hB := below_then hB hb
  clear hb
  have Bs := Bs.alloc (.cells #[.int .u32 S, .int .u32 M] 24)
  have Bt := Bt.alloc (.cells #[.int .u32 S, .int .u32 M] 24)
  have Ba := Blk.new w1 24 #[.int .u32 S, .int .u32 M]
  have hB := hB.alloc hB.size (.cells #[.int .u32 S, .int .u32 M] 24)
  have ks0 := Bs.cell 0 (v := .int .u32 s) rfl
  have ks1 := Bs.cell 1 (v := .int .u32 n) rfl
  have kt0 := Bt.cell 0 (v := .int .u32 t) rfl
  have kt1 := Bt.cell 1 (v := .int .u32 m) rfl
  have ka0 := Ba.cell 0 (v := .int .u32 S) rfl
  have ka1 := Ba.cell 1 (v := .int .u32 M) rfl
  go_wp2_with fail
  refine (add_n (.tuple #[.agg #[.int .u32 P, .int .u32 Q], .int .i64 E]) q2 ht ht' hm hm' hx hx').mono ?_
  rintro e w2 ⟨rfl, hb⟩
  have Bs := Bs.below hb
  have Bt := Bt.below hb
  have Ba := Ba.below hb
  have hB := below_then hB hb
  clear hb
  have Bs := Bs.alloc (.cells #[.int .u32 P, .int .u32 Q] 24)
  have Bt := Bt.alloc (.cells #[.int .u32 P, .int .u32 Q] 24)
  have Ba := Ba.alloc (.cells #[.int .u32 P, .int .u32 Q] 24)
  have Bb := Blk.new w2 24 #[.int .u32 P, .int .u32 Q]
  have hB := hB.alloc hB.size (.cells #[.int .u32 P, .int .u32 Q] 24)
  have ks0 := Bs.cell 0 (v := .int .u32 s) rfl
  have ks1 := Bs.cell 1 (v := .int .u32 n) rfl
  have kt0 := Bt.cell 0 (v := .int .u32 t) rfl
  have kt1 := Bt.cell 1 (v := .int .u32 m) rfl
  have ka0 := Ba.cell 0 (v := .int .u32 S) rfl
  have ka1 := Ba.cell 1 (v := .int .u32 M) rfl
  have kb0 := Bb.cell 0 (v := .int .u32 P) rfl
  have kb1 := Bb.cell 1 (v := .int .u32 Q) rfl
  go_wp2_with fail
  refine (checkv c2).mono ?_
  rintro e w3 ⟨rfl, hb⟩
  have Bs := Bs.below hb
  have Bt := Bt.below hb
  have Ba := Ba.below hb
  have Bb := Bb.below hb
  have hB := below_then hB hb
  clear hb
  have ks0 := Bs.cell 0 (v := .int .u32 s) rfl
  have ks1 := Bs.cell 1 (v := .int .u32 n) rfl
  have kt0 := Bt.cell 0 (v := .int .u32 t) rfl
  have kt1 := Bt.cell 1 (v := .int .u32 m) rfl
  have ka0 := Ba.cell 0 (v := .int .u32 S) rfl
  have ka1 := Ba.cell 1 (v := .int .u32 M) rfl
  have kb0 := Bb.cell 0 (v := .int .u32 P) rfl
  have kb1 := Bb.cell 1 (v := .int .u32 Q) rfl
  go_wp2_with fail
  refine (checkv c3).mono ?_
  rintro e w4 ⟨rfl, hb⟩
  have Bs := Bs.below hb
  have Bt := Bt.below hb
  have Ba := Ba.below hb
  have Bb := Bb.below hb
  have hB := below_then hB hb
  clear hb
  have ks0 := Bs.cell 0 (v := .int .u32 s) rfl
  have ks1 := Bs.cell 1 (v := .int .u32 n) rfl
  have kt0 := Bt.cell 0 (v := .int .u32 t) rfl
  have kt1 := Bt.cell 1 (v := .int .u32 m) rfl
  have ka0 := Ba.cell 0 (v := .int .u32 S) rfl
  have ka1 := Ba.cell 1 (v := .int .u32 M) rfl
  have kb0 := Bb.cell 0 (v := .int .u32 P) rfl
  have kb1 := Bb.cell 1 (v := .int .u32 Q) rfl
  go_wp2_with fail
  refine (lessv l2).mono ?_
  rintro e w5 ⟨rfl, hb⟩
  have Bs := Bs.below hb
  have Bt := Bt.below hb
  have Ba := Ba.below hb
  have Bb := Bb.below hb
  have hB := below_then hB hb
  clear hb
  have ks0 := Bs.cell 0 (v := .int .u32 s) rfl
  have ks1 := Bs.cell 1 (v := .int .u32 n) rfl
  have kt0 := Bt.cell 0 (v := .int .u32 t) rfl
  have kt1 := Bt.cell 1 (v := .int .u32 m) rfl
  have ka0 := Ba.cell 0 (v := .int .u32 S) rfl
  have ka1 := Ba.cell 1 (v := .int .u32 M) rfl
  have kb0 := Bb.cell 0 (v := .int .u32 P) rfl
  have kb1 := Bb.cell 1 (v := .int .u32 Q) rfl
  go_wp2_with fail
  refine (alive09 _).mono ?_
  rintro e w6 ⟨rfl, hb⟩
  have Bs := Bs.below hb
  have Bt := Bt.below hb
  have Ba := Ba.below hb
  have Bb := Bb.below hb
  have hB := below_then hB hb
  clear hb
  have ks0 := Bs.cell 0 (v := .int .u32 s) rfl
  have ks1 := Bs.cell 1 (v := .int .u32 n) rfl
  have kt0 := Bt.cell 0 (v := .int .u32 t) rfl
  have kt1 := Bt.cell 1 (v := .int .u32 m) rfl
  have ka0 := Ba.cell 0 (v := .int .u32 S) rfl
  have ka1 := Ba.cell 1 (v := .int .u32 M) rfl
  have kb0 := Bb.cell 0 (v := .int .u32 P) rfl
  have kb1 := Bb.cell 1 (v := .int .u32 Q) rfl
  go_wp2
  go_ret
  exact ⟨rfl, hB⟩

set_option maxRecDepth 100000 in
set_option maxHeartbeats 4000000 in
theorem TimesLater_C3 (s n t m x : Int) (w : World) (hs : 0 ≤ s) (hs' : s < 4294967296) (hn : 0 ≤ n) (hn' : n < 4294967296) (ht : 0 ≤ t) (ht' : t < 4294967296) (hm : 0 ≤ m) (hm' : m < 4294967296) (hx : 0 ≤ x) (hx' : x < 18446744073709551616) (S M P Q : Int) (q1 : addV s n x = (.tuple #[.agg #[.int .u32 S, .int .u32 M], .int .i64 3])) (q2 : addV t m x = (.tuple #[.agg #[.int .u32 P, .int .u32 Q], .int .i64 3])) (c2 : decide (n < 1000000000) = true) (c3 : decide (m < 1000000000) = true) (l2 : ltT s n t m = true) :
    Calls Try.prog 8 #[.agg #[.int .u32 s, .int .u32 n], .agg #[.int .u32 t, .int .u32 m], .int .u64 x] w fun e w' => e = .returned (.bool true) ∧ Below w.heap.size w w' := by
  have Bs := (Blk.new w 24 #[.int .u32 s, .int .u32 n]).alloc (.cells #[.int .u32 t, .int .u32 m] 24)
  have Bt := Blk.new (w.alloc (.cells #[.int .u32 s, .int .u32 n] 24)) 24 #[.int .u32 t, .int .u32 m]
  simp only [World.size_alloc] at Bt
  have hB : Below w.heap.size w ((w.alloc (.cells #[.int .u32 s, .int .u32 n] 24)).alloc (.cells #[.int .u32 t, .int .u32 m] 24)) := ((Below.refl _ w).alloc (by simp) _).alloc (by simp) _
  have ks0 := Bs.cell 0 (v := .int .u32 s) rfl
  have ks1 := Bs.cell 1 (v := .int .u32 n) rfl
  have kt0 := Bt.cell 0 (v := .int .u32 t) rfl
  have kt1 := Bt.cell 1 (v := .int .u32 m) rfl
  go_enter Try.func8, Try.ntmps8
  go_wp2_with fail
  refine (add_n (.tuple #[.agg #[.int .u32 S, .int .u32 M], .int .i64 3]) q1 hs hs' hn hn' hx hx').mono ?_
  rintro e w1 ⟨rfl, hb⟩
  have Bs := Bs.below hb
  have Bt := Bt.below hb
  have hB := below_then hB hb
  clear hb
  have Bs := Bs.alloc (.cells #[.int .u32 S, .int .u32 M] 24)
  have Bt := Bt.alloc (.cells #[.int .u32 S, .int .u32 M] 24)
  have Ba := Blk.new w1 24 #[.int .u32 S, .int .u32 M]
  have hB := hB.alloc hB.size (.cells #[.int .u32 S, .int .u32 M] 24)
  have ks0 := Bs.cell 0 (v := .int .u32 s) rfl
  have ks1 := Bs.cell 1 (v := .int .u32 n) rfl
  have kt0 := Bt.cell 0 (v := .int .u32 t) rfl
  have kt1 := Bt.cell 1 (v := .int .u32 m) rfl
  have ka0 := Ba.cell 0 (v := .int .u32 S) rfl
  have ka1 := Ba.cell 1 (v := .int .u32 M) rfl
  go_wp2_with fail
  refine (add_n (.tuple #[.agg #[.int .u32 P, .int .u32 Q], .int .i64 3]) q2 ht ht' hm hm' hx hx').mono ?_
  rintro e w2 ⟨rfl, hb⟩
  have Bs := Bs.below hb
  have Bt := Bt.below hb
  have Ba := Ba.below hb
  have hB := below_then hB hb
  clear hb
  have Bs := Bs.alloc (.cells #[.int .u32 P, .int .u32 Q] 24)
  have Bt := Bt.alloc (.cells #[.int .u32 P, .int .u32 Q] 24)
  have Ba := Ba.alloc (.cells #[.int .u32 P, .int .u32 Q] 24)
  have Bb := Blk.new w2 24 #[.int .u32 P, .int .u32 Q]
  have hB := hB.alloc hB.size (.cells #[.int .u32 P, .int .u32 Q] 24)
  have ks0 := Bs.cell 0 (v := .int .u32 s) rfl
  have ks1 := Bs.cell 1 (v := .int .u32 n) rfl
  have kt0 := Bt.cell 0 (v := .int .u32 t) rfl
  have kt1 := Bt.cell 1 (v := .int .u32 m) rfl
  have ka0 := Ba.cell 0 (v := .int .u32 S) rfl
  have ka1 := Ba.cell 1 (v := .int .u32 M) rfl
  have kb0 := Bb.cell 0 (v := .int .u32 P) rfl
  have kb1 := Bb.cell 1 (v := .int .u32 Q) rfl
  go_wp2_with fail
  refine (checkv c2).mono ?_
  rintro e w3 ⟨rfl, hb⟩
  have Bs := Bs.below hb
  have Bt := Bt.below hb
  have Ba := Ba.below hb
  have Bb := Bb.below hb
  have hB := below_then hB hb
  clear hb
  have ks0 := Bs.cell 0 (v := .int .u32 s) rfl
  have ks1 := Bs.cell 1 (v := .int .u32 n) rfl
  have kt0 := Bt.cell 0 (v := .int .u32 t) rfl
  have kt1 := Bt.cell 1 (v := .int .u32 m) rfl
  have ka0 := Ba.cell 0 (v := .int .u32 S) rfl
  have ka1 := Ba.cell 1 (v := .int .u32 M) rfl
  have kb0 := Bb.cell 0 (v := .int .u32 P) rfl
  have kb1 := Bb.cell 1 (v := .int .u32 Q) rfl
  go_wp2_with fail
  refine (checkv c3).mono ?_
  rintro e w4 ⟨rfl, hb⟩
  have Bs := Bs.below hb
  have Bt := Bt.below hb
  have Ba := Ba.below hb
  have Bb := Bb.below hb
  have hB := below_then hB hb
  clear hb
  have ks0 := Bs.cell 0 (v := .int .u32 s) rfl
  have ks1 := Bs.cell 1 (v := .int .u32 n) rfl
  have kt0 := Bt.cell 0 (v := .int .u32 t) rfl
  have kt1 := Bt.cell 1 (v := .int .u32 m) rfl
  have ka0 := Ba.cell 0 (v := .int .u32 S) rfl
  have ka1 := Ba.cell 1 (v := .int .u32 M) rfl
  have kb0 := Bb.cell 0 (v := .int .u32 P) rfl
  have kb1 := Bb.cell 1 (v := .int .u32 Q) rfl
  go_wp2_with fail
  refine (lessv l2).mono ?_
  rintro e w5 ⟨rfl, hb⟩
  have Bs := Bs.below hb
  have Bt := Bt.below hb
  have Ba := Ba.below hb
  have Bb := Bb.below hb
  have hB := below_then hB hb
  clear hb
  have ks0 := Bs.cell 0 (v := .int .u32 s) rfl
  have ks1 := Bs.cell 1 (v := .int .u32 n) rfl
  have kt0 := Bt.cell 0 (v := .int .u32 t) rfl
  have kt1 := Bt.cell 1 (v := .int .u32 m) rfl
  have ka0 := Ba.cell 0 (v := .int .u32 S) rfl
  have ka1 := Ba.cell 1 (v := .int .u32 M) rfl
  have kb0 := Bb.cell 0 (v := .int .u32 P) rfl
  have kb1 := Bb.cell 1 (v := .int .u32 Q) rfl
  go_wp2_with fail
  refine (alive09 _).mono ?_
  rintro e w6 ⟨rfl, hb⟩
  have Bs := Bs.below hb
  have Bt := Bt.below hb
  have Ba := Ba.below hb
  have Bb := Bb.below hb
  have hB := below_then hB hb
  clear hb
  have ks0 := Bs.cell 0 (v := .int .u32 s) rfl
  have ks1 := Bs.cell 1 (v := .int .u32 n) rfl
  have kt0 := Bt.cell 0 (v := .int .u32 t) rfl
  have kt1 := Bt.cell 1 (v := .int .u32 m) rfl
  have ka0 := Ba.cell 0 (v := .int .u32 S) rfl
  have ka1 := Ba.cell 1 (v := .int .u32 M) rfl
  have kb0 := Bb.cell 0 (v := .int .u32 P) rfl
  have kb1 := Bb.cell 1 (v := .int .u32 Q) rfl
  go_wp2
  go_ret
  exact ⟨rfl, hB⟩

theorem TimesLater_lt {s n x : Int} (hx : 0 ≤ x) (hn : 0 ≤ n) (hb : n < 1000000000) : ltT s n (s + x / 1000000000 + (n + x % 1000000000) / 1000000000) ((n + x % 1000000000) % 1000000000) = decide (0 < x) := by
  by_cases h : 0 < x
  · rw [decide_eq_true h]
    exact lt_iff.2 (by omega)
  · rw [decide_eq_false h]
    exact lt_no (by omega)
theorem TimesLater_walk (s n t m x : Int) (w : World) (hs : 0 ≤ s) (hs' : s < 4294967296) (hn : 0 ≤ n) (hn' : n < 4294967296) (ht : 0 ≤ t) (ht' : t < 4294967296) (hm : 0 ≤ m) (hm' : m < 4294967296) (hx : 0 ≤ x) (hx' : x < 18446744073709551616) :
    Calls Try.prog 8 #[.agg #[.int .u32 s, .int .u32 n], .agg #[.int .u32 t, .int .u32 m], .int .u64 x] w fun e w' => e = .returned (.bool true) ∧ Below w.heap.size w w' := by
  by_cases hb : n < 1000000000
  · have C2 := decide_eq_true hb
    by_cases h3 : s + x / 1000000000 + (n + x % 1000000000) / 1000000000 ≤ 4294967295
    · have q1 := addV_ok hb h3
      have c1 : decide ((n + x % 1000000000) % 1000000000 < 1000000000) = true := decide_eq_true (by omega)
      by_cases hd : m < 1000000000
      · have C3 := decide_eq_true hd
        by_cases hl : s < t ∨ s = t ∧ n < m
        · by_cases h4 : t + x / 1000000000 + (m + x % 1000000000) / 1000000000 ≤ 4294967295
          · exact TimesLater_B4 s n t m x w hs hs' hn hn' ht ht' hm hm' hx hx' _ _ _ _  q1 (addV_ok hd h4) (TimesLater_lt hx hn hb) c1 C2 C3 (lt_iff.2 hl) (lt_iff.2 (by omega))
          · exact TimesLater_B3 s n t m x w hs hs' hn hn' ht ht' hm hm' hx hx' _ _ _ _  q1 (addV_far hd h4) (TimesLater_lt hx hn hb) c1 C2 C3 (lt_iff.2 hl)
        · exact TimesLater_B2 s n t m x w hs hs' hn hn' ht ht' hm hm' hx hx' _ _ _ _  _ q1 rfl (TimesLater_lt hx hn hb) c1 C2 C3 (lt_no hl)
      · exact TimesLater_B1 s n t m x w hs hs' hn hn' ht ht' hm hm' hx hx' _ _ _ _  q1 (addV_bad hd) (TimesLater_lt hx hn hb) c1 C2 (decide_eq_false hd)
    · have q1 := addV_far hb h3
      by_cases hd : m < 1000000000
      · have C3 := decide_eq_true hd
        by_cases hl : s < t ∨ s = t ∧ n < m
        · exact TimesLater_C3 s n t m x w hs hs' hn hn' ht ht' hm hm' hx hx' _ _ _ _  q1 (addV_far hd (by omega)) C2 C3 (lt_iff.2 hl)
        · exact TimesLater_C2 s n t m x w hs hs' hn hn' ht ht' hm hm' hx hx' _ _ _ _  _ q1 rfl C2 C3 (lt_no hl)
      · exact TimesLater_C1 s n t m x w hs hs' hn hn' ht ht' hm hm' hx hx' _ _ _ _  q1 (addV_bad hd) C2 (decide_eq_false hd)
  · exact TimesLater_A s n t m x w hs hs' hn hn' ht ht' hm hm' hx hx' _ _ _ _  _ (addV_bad hb) rfl (decide_eq_false hb)
end Go.Proofs.Ytofbcflnkmocjaa.Hand
