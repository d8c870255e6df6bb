/- What times.Check, Less and Add (and the reference's) hand back; nothing that lay before has turned. -/
import Derived.Laws.StructEq
import Derived.Laws.ResultCell
import Derived.Test.YtofbcflnkmocjaaLib
namespace Go.Proofs.Ytofbcflnkmocjaa.Hand
open Go.RowKit

/-- Is a point of time ahead of another one? -/
def ltT (s n t m : Int) : Bool := decide (s < t) || (decide (s = t) && decide (n < m))

theorem check (s n : Int) (w : World) : Calls Try.prog 11 #[.agg #[.int .u32 s, .int .u32 n]] w fun e w' => e = .returned (.bool (decide (n < 1000000000))) ∧ Below w.heap.size w w' := by
  go_enter Try.func11, Try.ntmps11
  go_wp2
  go_ret
  exact ⟨rfl, (Below.refl _ _).alloc (Nat.le_refl _) _⟩
theorem rcheck (s n : Int) (w : World) : Calls Try.prog 12 #[.agg #[.int .u32 s, .int .u32 n]] w fun e w' => e = .returned (.bool (decide (n < 1000000000))) ∧ Below w.heap.size w w' := by
  go_enter Try.func12, Try.ntmps12
  go_wp2
  go_ret
  exact ⟨rfl, (Below.refl _ _).alloc (Nat.le_refl _) _⟩

set_option linter.unusedSimpArgs false

set_option maxHeartbeats 2000000 in
theorem lessT (s n t m : Int) (w : World) : Calls Try.prog 13 #[.agg #[.int .u32 s, .int .u32 n], .agg #[.int .u32 t, .int .u32 m]] w fun e w' => e = .returned (.bool (ltT s n t m)) ∧ Below w.heap.size w w' := by
  unfold ltT
  rcases Int.lt_trichotomy t s with h | h | h
  · have d1 : decide (t < s) = true := decide_eq_true h
    have d2 : decide (s < t) = false := decide_eq_false (by omega)
    have d3 : (s == t) = false := by rw [beq_eq_false_iff_ne]; omega
    have d4 : (t == s) = false := by rw [beq_eq_false_iff_ne]; omega
    have d5 : decide (s = t) = false := decide_eq_false (by omega)
    have d6 : (s != t) = true := by rw [bne_iff_ne]; omega
    have d7 : (t != s) = true := by rw [bne_iff_ne]; omega
    go_enter Try.func13, Try.ntmps13
    go_wp2
    go_ret
    exact ⟨ret_bool (by simp [*]), (((Below.refl _ _).alloc (Nat.le_refl _) _).alloc (by simp) _).alloc (by simp; omega) _⟩
  · subst h
    rcases Int.lt_trichotomy m n with h | h | h
    · have d1 : decide (m < n) = true := decide_eq_true h
      have d2 : decide (n < m) = false := decide_eq_false (by omega)
      have d3 : (n == m) = false := by rw [beq_eq_false_iff_ne]; omega
      have d4 : (m == n) = false := by rw [beq_eq_false_iff_ne]; omega
      have d6 : (n != m) = true := by rw [bne_iff_ne]; omega
      have d7 : (m != n) = true := by rw [bne_iff_ne]; omega
      go_enter Try.func13, Try.ntmps13
      go_wp2
      go_ret
      exact ⟨ret_bool (by simp [*]), (((Below.refl _ _).alloc (Nat.le_refl _) _).alloc (by simp) _).alloc (by simp; omega) _⟩
    · subst h
      go_enter Try.func13, Try.ntmps13
      go_wp2
      go_ret
      exact ⟨ret_bool (by simp [*]), (((Below.refl _ _).alloc (Nat.le_refl _) _).alloc (by simp) _).alloc (by simp; omega) _⟩
    · have d1 : decide (m < n) = false := decide_eq_false (by omega)
      have d2 : decide (n < m) = true := decide_eq_true h
      have d3 : (n == m) = false := by rw [beq_eq_false_iff_ne]; omega
      have d4 : (m == n) = false := by rw [beq_eq_false_iff_ne]; omega
      have d6 : (n != m) = true := by rw [bne_iff_ne]; omega
      have d7 : (m != n) = true := by rw [bne_iff_ne]; omega
      go_enter Try.func13, Try.ntmps13
      go_wp2
      go_ret
      exact ⟨ret_bool (by simp [*]), (((Below.refl _ _).alloc (Nat.le_refl _) _).alloc (by simp) _).alloc (by simp; omega) _⟩
  · have d1 : decide (t < s) = false := decide_eq_false (by omega)
    have d2 : decide (s < t) = true := decide_eq_true h
    have d3 : (s == t) = false := by rw [beq_eq_false_iff_ne]; omega
    have d4 : (t == s) = false := by rw [beq_eq_false_iff_ne]; omega
    have d5 : decide (s = t) = false := decide_eq_false (by omega)
    have d6 : (s != t) = true := by rw [bne_iff_ne]; omega
    have d7 : (t != s) = true := by rw [bne_iff_ne]; omega
    go_enter Try.func13, Try.ntmps13
    go_wp2
    go_ret
    exact ⟨ret_bool (by simp [*]), (((Below.refl _ _).alloc (Nat.le_refl _) _).alloc (by simp) _).alloc (by simp; omega) _⟩

set_option maxHeartbeats 2000000 in
theorem rlessT (s n t m : Int) (w : World) : Calls Try.prog 14 #[.agg #[.int .u32 s, .int .u32 n], .agg #[.int .u32 t, .int .u32 m]] w fun e w' => e = .returned (.bool (ltT s n t m)) ∧ Below w.heap.size w w' := by
  unfold ltT
  rcases Int.lt_trichotomy t s with h | h | h
  · have d1 : decide (t < s) = true := decide_eq_true h
    have d2 : decide (s < t) = false := decide_eq_false (by omega)
    have d3 : (s == t) = false := by rw [beq_eq_false_iff_ne]; omega
    have d4 : (t == s) = false := by rw [beq_eq_false_iff_ne]; omega
    have d5 : decide (s = t) = false := decide_eq_false (by omega)
    have d6 : (s != t) = true := by rw [bne_iff_ne]; omega
    have d7 : (t != s) = true := by rw [bne_iff_ne]; omega
    go_enter Try.func14, Try.ntmps14
    go_wp2
    go_ret
    exact ⟨ret_bool (by simp [*]), ((Below.refl _ _).alloc (Nat.le_refl _) _).alloc (by simp) _⟩
  · subst h
    rcases Int.lt_trichotomy m n with h | h | h
    · have d1 : decide (m < n) = true := decide_eq_true h
      have d2 : decide (n < m) = false := decide_eq_false (by omega)
      have d3 : (n == m) = false := by rw [beq_eq_false_iff_ne]; omega
      have d4 : (m == n) = false := by rw [beq_eq_false_iff_ne]; omega
      have d6 : (n != m) = true := by rw [bne_iff_ne]; omega
      have d7 : (m != n) = true := by rw [bne_iff_ne]; omega
      go_enter Try.func14, Try.ntmps14
      go_wp2
      go_ret
      exact ⟨ret_bool (by simp [*]), ((Below.refl _ _).alloc (Nat.le_refl _) _).alloc (by simp) _⟩
    · subst h
      go_enter Try.func14, Try.ntmps14
      go_wp2
      go_ret
      exact ⟨ret_bool (by simp [*]), ((Below.refl _ _).alloc (Nat.le_refl _) _).alloc (by simp) _⟩
    · have d1 : decide (m < n) = false := decide_eq_false (by omega)
      have d2 : decide (n < m) = true := decide_eq_true h
      have d3 : (n == m) = false := by rw [beq_eq_false_iff_ne]; omega
      have d4 : (m == n) = false := by rw [beq_eq_false_iff_ne]; omega
      have d6 : (n != m) = true := by rw [bne_iff_ne]; omega
      have d7 : (m != n) = true := by rw [bne_iff_ne]; omega
      go_enter Try.func14, Try.ntmps14
      go_wp2
      go_ret
      exact ⟨ret_bool (by simp [*]), ((Below.refl _ _).alloc (Nat.le_refl _) _).alloc (by simp) _⟩
  · have d1 : decide (t < s) = false := decide_eq_false (by omega)
    have d2 : decide (s < t) = true := decide_eq_true h
    have d3 : (s == t) = false := by rw [beq_eq_false_iff_ne]; omega
    have d4 : (t == s) = false := by rw [beq_eq_false_iff_ne]; omega
    have d5 : decide (s = t) = false := decide_eq_false (by omega)
    have d6 : (s != t) = true := by rw [bne_iff_ne]; omega
    have d7 : (t != s) = true := by rw [bne_iff_ne]; omega
    go_enter Try.func14, Try.ntmps14
    go_wp2
    go_ret
    exact ⟨ret_bool (by simp [*]), ((Below.refl _ _).alloc (Nat.le_refl _) _).alloc (by simp) _⟩
end Go.Proofs.Ytofbcflnkmocjaa.Hand
