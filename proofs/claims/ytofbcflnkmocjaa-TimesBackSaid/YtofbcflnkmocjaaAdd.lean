/- What times.Add hands back: the point of time so many nanoseconds later, or the error; nothing that lay before has turned. -/
import Derived.Test.YtofbcflnkmocjaaTimes
namespace Go.Proofs.Ytofbcflnkmocjaa.Hand
open Go.RowKit

/-- A point of time, so many nanoseconds later; and the error. -/
def addS (s n x : Int) : Int := if n < 1000000000 then (if s + x / 1000000000 + (n + x % 1000000000) / 1000000000 ≤ 4294967295 then s + x / 1000000000 + (n + x % 1000000000) / 1000000000 else 0) else 0
def addN (s n x : Int) : Int := if n < 1000000000 then (if s + x / 1000000000 + (n + x % 1000000000) / 1000000000 ≤ 4294967295 then (n + x % 1000000000) % 1000000000 else 0) else 0
def addE (s n x : Int) : Int := if n < 1000000000 then (if s + x / 1000000000 + (n + x % 1000000000) / 1000000000 ≤ 4294967295 then 0 else 3) else 1
def addV (s n x : Int) : Value := .tuple #[.agg #[.int .u32 (addS s n x), .int .u32 (addN s n x)], .int .i64 (addE s n x)]
theorem addV_bad {s n x : Int} (h : ¬ n < 1000000000) : addV s n x = .tuple #[.agg #[.int .u32 0, .int .u32 0], .int .i64 1] := by
  unfold addV addS addN addE
  rw [if_neg h, if_neg h, if_neg h]
theorem addV_far {s n x : Int} (h : n < 1000000000) (h2 : ¬ s + x / 1000000000 + (n + x % 1000000000) / 1000000000 ≤ 4294967295) : addV s n x = .tuple #[.agg #[.int .u32 0, .int .u32 0], .int .i64 3] := by
  unfold addV addS addN addE
  rw [if_pos h, if_pos h, if_pos h, if_neg h2, if_neg h2, if_neg h2]
theorem addV_ok {s n x : Int} (h : n < 1000000000) (h2 : s + x / 1000000000 + (n + x % 1000000000) / 1000000000 ≤ 4294967295) : addV s n x = .tuple #[.agg #[.int .u32 (s + x / 1000000000 + (n + x % 1000000000) / 1000000000), .int .u32 ((n + x % 1000000000) % 1000000000)], .int .i64 0] := by
  unfold addV addS addN addE
  rw [if_pos h, if_pos h, if_pos h, if_pos h2, if_pos h2, if_pos h2]

set_option maxRecDepth 100000 in
set_option maxHeartbeats 1000000 in
theorem and_ (a b c d : Int) (w : World) (ha : 0 ≤ a) (ha' : a < 4294967296) (hb : 0 ≤ b) (hb' : b < 1000000000) (hc : 0 ≤ c) (hc' : c < 18446744074) (hd : 0 ≤ d) (hd' : d < 1000000000) :
    Calls Try.prog 21 #[.agg #[.int .u64 a, .int .u64 b], .agg #[.int .u64 c, .int .u64 d]] w fun e w' => e = .returned (.agg #[.int .u64 (a + c + (b + d) / 1000000000), .int .u64 ((b + d) % 1000000000)]) ∧ Below w.heap.size w w' := by
  go_enter Try.func21, Try.ntmps21
  go_wp2
  exact bodyPost_ret (v := .agg #[.int .u64 (a + c + (b + d) / 1000000000), .int .u64 ((b + d) % 1000000000)]) (by simp [results, Try.f21, go_sem]) rfl ⟨rfl, (((Below.refl _ _).alloc (Nat.le_refl _) _).alloc (by simp) _).alloc (by simp; omega) _⟩

set_option maxRecDepth 100000 in
set_option maxHeartbeats 1000000 in
theorem add_ (s n x : Int) (w : World) (hs : 0 ≤ s) (hs' : s < 4294967296) (hn : 0 ≤ n) (_ : n < 4294967296) (hx : 0 ≤ x) (hx' : x < 18446744073709551616) :
    Calls Try.prog 15 #[.agg #[.int .u32 s, .int .u32 n], .int .u64 x] w fun e w' => e = .returned (addV s n x) ∧ Below w.heap.size w w' := by
  have b2 := (Blk.new w 24 #[.int .u32 s, .int .u32 n]).alloc (.cells #[.int .u32 0, .int .u32 0] 24)
  have b4 := Blk.new (w.alloc (.cells #[.int .u32 s, .int .u32 n] 24)) 24 #[.int .u32 0, .int .u32 0]
  have kb : Below w.heap.size w ((w.alloc (.cells #[.int .u32 s, .int .u32 n] 24)).alloc (.cells #[.int .u32 0, .int .u32 0] 24)) := ((Below.refl _ _).alloc (Nat.le_refl _) _).alloc (by simp) _
  rw [World.size_alloc] at b4
  have kc := check s n ((w.alloc (.cells #[.int .u32 s, .int .u32 n] 24)).alloc (.cells #[.int .u32 0, .int .u32 0] 24))
  by_cases h1 : n < 1000000000
  · rw [decide_eq_true h1] at kc
    have g0 : 0 ≤ (n + x % 1000000000) % 1000000000 := by omega
    have g1 : (n + x % 1000000000) % 1000000000 < 1000000000 := by omega
    have g2 : 0 ≤ s + x / 1000000000 + (n + x % 1000000000) / 1000000000 := by omega
    by_cases h2 : s + x / 1000000000 + (n + x % 1000000000) / 1000000000 ≤ 4294967295
    · rw [addV_ok h1 h2]
      go_enter Try.func15, Try.ntmps15
      go_wp2_with fail
      refine kc.mono ?_
      rintro e w1 ⟨rfl, hb⟩
      have b2 := b2.below hb
      have b4 := b4.below hb
      have hB := below_then kb hb
      have k0 := b2.cell 0 (v := .int .u32 s) rfl
      have k1 := b2.cell 1 (v := .int .u32 n) rfl
      clear hb kc kb
      go_wp2_with fail
      refine (and_ s n (x / 1000000000) (x % 1000000000) w1 hs hs' hn h1 (by omega) (by omega) (by omega) (by omega)).mono ?_
      rintro e w2 ⟨rfl, hb⟩
      have b4 := b4.below hb
      have hB := below_then hB hb
      clear hb b2 k0 k1
      generalize hS : s + x / 1000000000 + (n + x % 1000000000) / 1000000000 = S at *
      generalize hM : (n + x % 1000000000) % 1000000000 = M at *
      have HS := Lib.hid hS
      have HM := Lib.hid hM
      clear hS hM
      have b4 := b4.alloc (.cells #[.int .u64 S, .int .u64 M] 45)
      have hB := hB.alloc hB.size (.cells #[.int .u64 S, .int .u64 M] 45)
      have k2 := b4.cell 0 (v := .int .u32 0) rfl
      have k3 := b4.cell 1 (v := .int .u32 0) rfl
      have f2 := b4.frozen 0
      have f3 := b4.frozen 1
      have h3 : ¬ 4294967295 < S := by omega
      go_wp2
      have c0 := ((b4.set_ 0 (.int .u32 S)).set_ 1 (.int .u32 M)).cell 0 (v := (.int .u32 S)) rfl
      have c1 := ((b4.set_ 0 (.int .u32 S)).set_ 1 (.int .u32 M)).cell 1 (v := (.int .u32 M)) rfl
      have hB2 := (hB.setCell (p := ⟨w.heap.size + 1, 0, none⟩) (by simp) (.int .u32 S)).setCell (p := ⟨w.heap.size + 1, 1, none⟩) (by simp) (.int .u32 M)
      exact bodyPost_ret (v := .tuple #[.agg #[.int .u32 S, .int .u32 M], .int .i64 0]) (by simp [results, Try.f15, go_sem, c0, c1]) rfl ⟨by rw [HS.out, HM.out], hB2⟩
    · rw [addV_far h1 h2]
      go_enter Try.func15, Try.ntmps15
      go_wp2_with fail
      refine kc.mono ?_
      rintro e w1 ⟨rfl, hb⟩
      have b2 := b2.below hb
      have b4 := b4.below hb
      have hB := below_then kb hb
      have k0 := b2.cell 0 (v := .int .u32 s) rfl
      have k1 := b2.cell 1 (v := .int .u32 n) rfl
      clear hb kc kb
      go_wp2_with fail
      refine (and_ s n (x / 1000000000) (x % 1000000000) w1 hs hs' hn h1 (by omega) (by omega) (by omega) (by omega)).mono ?_
      rintro e w2 ⟨rfl, hb⟩
      have b4 := b4.below hb
      have hB := below_then hB hb
      clear hb b2 k0 k1
      generalize hS : s + x / 1000000000 + (n + x % 1000000000) / 1000000000 = S at *
      generalize hM : (n + x % 1000000000) % 1000000000 = M at *
      have HS := Lib.hid hS
      have HM := Lib.hid hM
      clear hS hM
      have b4 := b4.alloc (.cells #[.int .u64 S, .int .u64 M] 45)
      have hB := hB.alloc hB.size (.cells #[.int .u64 S, .int .u64 M] 45)
      have k2 := b4.cell 0 (v := .int .u32 0) rfl
      have k3 := b4.cell 1 (v := .int .u32 0) rfl
      have f2 := b4.frozen 0
      have f3 := b4.frozen 1
      have h3 : 4294967295 < S := by omega
      go_wp2
      have c0 := ((b4.set_ 0 (.int .u32 0)).set_ 1 (.int .u32 0)).cell 0 (v := (.int .u32 0)) rfl
      have c1 := ((b4.set_ 0 (.int .u32 0)).set_ 1 (.int .u32 0)).cell 1 (v := (.int .u32 0)) rfl
      have hB2 := (hB.setCell (p := ⟨w.heap.size + 1, 0, none⟩) (by simp) (.int .u32 0)).setCell (p := ⟨w.heap.size + 1, 1, none⟩) (by simp) (.int .u32 0)
      exact bodyPost_ret (v := .tuple #[.agg #[.int .u32 0, .int .u32 0], .int .i64 3]) (by simp [results, Try.f15, go_sem, c0, c1]) rfl ⟨rfl, hB2⟩
  · rw [decide_eq_false h1] at kc
    rw [addV_bad h1]
    go_enter Try.func15, Try.ntmps15
    go_wp2_with fail
    refine kc.mono ?_
    rintro e w1 ⟨rfl, hb⟩
    have b4 := b4.below hb
    have k2 := b4.cell 0 (v := .int .u32 0) rfl
    have k3 := b4.cell 1 (v := .int .u32 0) rfl
    have f2 := b4.frozen 0
    have f3 := b4.frozen 1
    have hB := below_then kb hb
    clear hb kc
    go_wp2
    have c0 := ((b4.set_ 0 (.int .u32 0)).set_ 1 (.int .u32 0)).cell 0 (v := (.int .u32 0)) rfl
    have c1 := ((b4.set_ 0 (.int .u32 0)).set_ 1 (.int .u32 0)).cell 1 (v := (.int .u32 0)) rfl
    have hB2 := (hB.setCell (p := ⟨w.heap.size + 1, 0, none⟩) (by simp) (.int .u32 0)).setCell (p := ⟨w.heap.size + 1, 1, none⟩) (by simp) (.int .u32 0)
    exact bodyPost_ret (v := .tuple #[.agg #[.int .u32 0, .int .u32 0], .int .i64 1]) (by simp [results, Try.f15, go_sem, c0, c1]) rfl ⟨rfl, hB2⟩
end Go.Proofs.Ytofbcflnkmocjaa.Hand
