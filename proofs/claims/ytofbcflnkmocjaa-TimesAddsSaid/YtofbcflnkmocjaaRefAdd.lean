/- What the reference's Add of chapter 9 hands back: the same as times.Add. -/
import Derived.Test.YtofbcflnkmocjaaAdd
namespace Go.Proofs.Ytofbcflnkmocjaa.Hand
open Go.RowKit

set_option maxRecDepth 100000 in
set_option maxHeartbeats 2000000 in
theorem radd (s n x : Int) (w : World) (hs : 0 ≤ s) (hs' : s < 4294967296) (hn : 0 ≤ n) (_ : n < 4294967296) (hx : 0 ≤ x) (hx' : x < 18446744073709551616) :
    Calls Try.prog 16 #[.agg #[.int .u32 s, .int .u32 n], .int .u64 x] w fun e w' => e = .returned (addV s n x) ∧ Below w.heap.size w w' := by
  have b2 := (Blk.new w 24 #[.int .u32 s, .int .u32 n]).alloc (.cells #[.int .u32 0, .int .u32 0] 24)
  have b4 := Blk.new (w.alloc (.cells #[.int .u32 s, .int .u32 n] 24)) 24 #[.int .u32 0, .int .u32 0]
  have kb : Below w.heap.size w ((w.alloc (.cells #[.int .u32 s, .int .u32 n] 24)).alloc (.cells #[.int .u32 0, .int .u32 0] 24)) := ((Below.refl _ _).alloc (Nat.le_refl _) _).alloc (by simp) _
  rw [World.size_alloc] at b4
  have kc := rcheck s n ((w.alloc (.cells #[.int .u32 s, .int .u32 n] 24)).alloc (.cells #[.int .u32 0, .int .u32 0] 24))
  by_cases h1 : n < 1000000000
  · rw [decide_eq_true h1] at kc
    have x0 : 0 ≤ x / 1000000000 := by omega
    have x1 : x / 1000000000 < 18446744074 := by omega
    have x2 : 0 ≤ x % 1000000000 := by omega
    have x3 : x % 1000000000 < 1000000000 := by omega
    have hv : addV s n x = if 1000000000 ≤ n + x % 1000000000 then (if 4294967295 < s + x / 1000000000 + 1 then .tuple #[.agg #[.int .u32 0, .int .u32 0], .int .i64 3] else .tuple #[.agg #[.int .u32 (s + x / 1000000000 + 1), .int .u32 (n + x % 1000000000 - 1000000000)], .int .i64 0])
        else (if 4294967295 < s + x / 1000000000 then .tuple #[.agg #[.int .u32 0, .int .u32 0], .int .i64 3] else .tuple #[.agg #[.int .u32 (s + x / 1000000000), .int .u32 (n + x % 1000000000)], .int .i64 0]) := by
      by_cases h2 : s + x / 1000000000 + (n + x % 1000000000) / 1000000000 ≤ 4294967295
      · rw [addV_ok h1 h2]
        by_cases h3 : 1000000000 ≤ n + x % 1000000000
        · rw [if_pos h3, if_neg (by omega), show s + x / 1000000000 + (n + x % 1000000000) / 1000000000 = s + x / 1000000000 + 1 from by omega, show (n + x % 1000000000) % 1000000000 = n + x % 1000000000 - 1000000000 from by omega]
        · rw [if_neg h3, if_neg (by omega), show s + x / 1000000000 + (n + x % 1000000000) / 1000000000 = s + x / 1000000000 from by omega, show (n + x % 1000000000) % 1000000000 = n + x % 1000000000 from by omega]
      · rw [addV_far h1 h2]
        by_cases h3 : 1000000000 ≤ n + x % 1000000000
        · rw [if_pos h3, if_pos (by omega)]
        · rw [if_neg h3, if_pos (by omega)]
    rw [hv]
    clear hv
    by_cases h3 : 1000000000 ≤ n + x % 1000000000
    · rw [if_pos h3]
      by_cases h4 : 4294967295 < s + x / 1000000000 + 1
      · rw [if_pos h4]
        go_enter Try.func16, Try.ntmps16
        go_wp2_with fail
        refine kc.mono ?_
        rintro e w1 ⟨rfl, hb⟩
        have b2 := b2.below hb
        have b4 := b4.below hb
        have hB := below_then kb hb
        have k0 := b2.cell 0 (v := .int .u32 s) rfl
        have k1 := b2.cell 1 (v := .int .u32 n) rfl
        have k2 := b4.cell 0 (v := .int .u32 0) rfl
        have k3 := b4.cell 1 (v := .int .u32 0) rfl
        have f2 := b4.frozen 0
        have f3 := b4.frozen 1
        clear hb kc kb
        go_wp2
        have c0 := ((b4.set_ 0 (.int .u32 0)).set_ 1 (.int .u32 0)).cell 0 (v := (.int .u32 0)) rfl
        have c1 := ((b4.set_ 0 (.int .u32 0)).set_ 1 (.int .u32 0)).cell 1 (v := (.int .u32 0)) rfl
        have hB2 := (hB.setCell (p := ⟨w.heap.size + 1, 0, none⟩) (by simp) (.int .u32 0)).setCell (p := ⟨w.heap.size + 1, 1, none⟩) (by simp) (.int .u32 0)
        exact bodyPost_ret (v := .tuple #[.agg #[.int .u32 0, .int .u32 0], .int .i64 3]) (by simp [results, Try.f16, go_sem, c0, c1]) rfl ⟨rfl, hB2⟩
      · rw [if_neg h4]
        go_enter Try.func16, Try.ntmps16
        go_wp2_with fail
        refine kc.mono ?_
        rintro e w1 ⟨rfl, hb⟩
        have b2 := b2.below hb
        have b4 := b4.below hb
        have hB := below_then kb hb
        have k0 := b2.cell 0 (v := .int .u32 s) rfl
        have k1 := b2.cell 1 (v := .int .u32 n) rfl
        have k2 := b4.cell 0 (v := .int .u32 0) rfl
        have k3 := b4.cell 1 (v := .int .u32 0) rfl
        have f2 := b4.frozen 0
        have f3 := b4.frozen 1
        clear hb kc kb
        go_wp2
        have c0 := ((b4.set_ 0 (.int .u32 (s + x / 1000000000 + 1))).set_ 1 (.int .u32 (n + x % 1000000000 - 1000000000))).cell 0 (v := (.int .u32 (s + x / 1000000000 + 1))) rfl
        have c1 := ((b4.set_ 0 (.int .u32 (s + x / 1000000000 + 1))).set_ 1 (.int .u32 (n + x % 1000000000 - 1000000000))).cell 1 (v := (.int .u32 (n + x % 1000000000 - 1000000000))) rfl
        have hB2 := (hB.setCell (p := ⟨w.heap.size + 1, 0, none⟩) (by simp) (.int .u32 (s + x / 1000000000 + 1))).setCell (p := ⟨w.heap.size + 1, 1, none⟩) (by simp) (.int .u32 (n + x % 1000000000 - 1000000000))
        exact bodyPost_ret (v := .tuple #[.agg #[.int .u32 (s + x / 1000000000 + 1), .int .u32 (n + x % 1000000000 - 1000000000)], .int .i64 0]) (by simp [results, Try.f16, go_sem, c0, c1]) rfl ⟨rfl, hB2⟩
    · rw [if_neg h3]
      by_cases h4 : 4294967295 < s + x / 1000000000
      · rw [if_pos h4]
        go_enter Try.func16, Try.ntmps16
        go_wp2_with fail
        refine kc.mono ?_
        rintro e w1 ⟨rfl, hb⟩
        have b2 := b2.below hb
        have b4 := b4.below hb
        have hB := below_then kb hb
        have k0 := b2.cell 0 (v := .int .u32 s) rfl
        have k1 := b2.cell 1 (v := .int .u32 n) rfl
        have k2 := b4.cell 0 (v := .int .u32 0) rfl
        have k3 := b4.cell 1 (v := .int .u32 0) rfl
        have f2 := b4.frozen 0
        have f3 := b4.frozen 1
        clear hb kc kb
        go_wp2
        have c0 := ((b4.set_ 0 (.int .u32 0)).set_ 1 (.int .u32 0)).cell 0 (v := (.int .u32 0)) rfl
        have c1 := ((b4.set_ 0 (.int .u32 0)).set_ 1 (.int .u32 0)).cell 1 (v := (.int .u32 0)) rfl
        have hB2 := (hB.setCell (p := ⟨w.heap.size + 1, 0, none⟩) (by simp) (.int .u32 0)).setCell (p := ⟨w.heap.size + 1, 1, none⟩) (by simp) (.int .u32 0)
        exact bodyPost_ret (v := .tuple #[.agg #[.int .u32 0, .int .u32 0], .int .i64 3]) (by simp [results, Try.f16, go_sem, c0, c1]) rfl ⟨rfl, hB2⟩
      · rw [if_neg h4]
        go_enter Try.func16, Try.ntmps16
        go_wp2_with fail
        refine kc.mono ?_
        rintro e w1 ⟨rfl, hb⟩
        have b2 := b2.below hb
        have b4 := b4.below hb
        have hB := below_then kb hb
        have k0 := b2.cell 0 (v := .int .u32 s) rfl
        have k1 := b2.cell 1 (v := .int .u32 n) rfl
        have k2 := b4.cell 0 (v := .int .u32 0) rfl
        have k3 := b4.cell 1 (v := .int .u32 0) rfl
        have f2 := b4.frozen 0
        have f3 := b4.frozen 1
        clear hb kc kb
        go_wp2
        have c0 := ((b4.set_ 0 (.int .u32 (s + x / 1000000000))).set_ 1 (.int .u32 (n + x % 1000000000))).cell 0 (v := (.int .u32 (s + x / 1000000000))) rfl
        have c1 := ((b4.set_ 0 (.int .u32 (s + x / 1000000000))).set_ 1 (.int .u32 (n + x % 1000000000))).cell 1 (v := (.int .u32 (n + x % 1000000000))) rfl
        have hB2 := (hB.setCell (p := ⟨w.heap.size + 1, 0, none⟩) (by simp) (.int .u32 (s + x / 1000000000))).setCell (p := ⟨w.heap.size + 1, 1, none⟩) (by simp) (.int .u32 (n + x % 1000000000))
        exact bodyPost_ret (v := .tuple #[.agg #[.int .u32 (s + x / 1000000000), .int .u32 (n + x % 1000000000)], .int .i64 0]) (by simp [results, Try.f16, go_sem, c0, c1]) rfl ⟨rfl, hB2⟩
  · rw [decide_eq_false h1] at kc
    rw [addV_bad h1]
    go_enter Try.func16, Try.ntmps16
    go_wp2_with fail
    refine kc.mono ?_
    rintro e w1 ⟨rfl, hb⟩
    have b4 := b4.below hb
    have k2 := b4.cell 0 (v := .int .u32 0) rfl
    have k3 := b4.cell 1 (v := .int .u32 0) rfl
    have f2 := b4.frozen 0
    have f3 := b4.frozen 1
    have hB := below_then kb hb
    clear hb kc
    go_wp2
    have c0 := ((b4.set_ 0 (.int .u32 0)).set_ 1 (.int .u32 0)).cell 0 (v := (.int .u32 0)) rfl
    have c1 := ((b4.set_ 0 (.int .u32 0)).set_ 1 (.int .u32 0)).cell 1 (v := (.int .u32 0)) rfl
    have hB2 := (hB.setCell (p := ⟨w.heap.size + 1, 0, none⟩) (by simp) (.int .u32 0)).setCell (p := ⟨w.heap.size + 1, 1, none⟩) (by simp) (.int .u32 0)
    exact bodyPost_ret (v := .tuple #[.agg #[.int .u32 0, .int .u32 0], .int .i64 1]) (by simp [results, Try.f16, go_sem, c0, c1]) rfl ⟨rfl, hB2⟩
end Go.Proofs.Ytofbcflnkmocjaa.Hand
