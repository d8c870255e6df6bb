/- What the reference's GetLong and GetYes hand back: the same as words.GetLong and GetYes. -/
import Derived.Test.YtogkcmcekodjcaaRef
namespace Go.Proofs.Ytogkcmcekodjcaa.Hand
open Go.RowKit

set_option maxRecDepth 100000 in
theorem rget64 (A : Option Addr) (c : Nat) (l : List Int) (w : World) (hr : Rd w A l) :
    Calls Try.prog 16 #[.slice A l.length c] w fun e w' => e = .returned (.tuple #[.int .u64 (get64F l).1, .int .i64 (get64F l).2]) ∧ w = w' := by
  by_cases h4 : l.length < 8
  · have h4' : (l.length : Int) < 8 := by omega
    rw [get64_short h4]
    go_enter Try.func16, Try.ntmps16
    go_wp2
    go_ret2
    exact ⟨rfl, rfl⟩
  · have h4' : 8 ≤ (l.length : Int) := by omega
    have hn4 : ¬ (l.length : Int) < 8 := by omega
    rw [get64_ok (by omega)]
    obtain ⟨ad, rfl, hcell⟩ : ∃ ad, A = some ad ∧ ∀ k : Nat, k < 8 → w.cell? (ad.add k) = some (.int .u8 (nth l k)) := by
      obtain ⟨ad, e, h⟩ := hr.2 (by omega)
      exact ⟨ad, e, fun k hk => h k (by omega)⟩
    go_enter Try.func16, Try.ntmps16
    go_wp2
    go_loop [4, 5] (fun n i => ∃ k : Nat, k ≤ 8 ∧ i = .int .i64 k ∧ n = .int .u64 (num l k)) (fun _ i => 8 - (intOf i).toNat)
    case atStart => exact ⟨0, by omega, rfl, rfl⟩
    case round =>
      obtain ⟨k, hk, rfl, rfl⟩ := hrel
      by_cases hlt : k < 8
      · have hcell' := hcell k hlt
        have hlt' : (k : Int) < 8 := by omega
        have hkl : (k : Int) < (l.length : Int) := by omega
        have hb := num_bound hr.1 k
        have hnb := num_bound hr.1 (k + 1)
        have hp : (256 : Int) ^ (k + 1) ≤ 18446744073709551616 := by
          have h2 : (256 : Nat) ^ (k + 1) ≤ 256 ^ 8 := Nat.pow_le_pow_right (by omega) (by omega)
          have h3 : ((256 ^ (k + 1) : Nat) : Int) ≤ ((256 ^ 8 : Nat) : Int) := by exact_mod_cast h2
          simpa using h3
        have hg := hr.1.get k
        rw [num_succ] at hnb
        have b1 : 256 * num l k < 18446744073709551616 := by omega
        have b2 : 256 * num l k + nth l k < 18446744073709551616 := by omega
        clear hp hnb
        go_wp2
        go_round
        case rel => exact ⟨k + 1, by omega, by go_num, by rw [num_succ]; first | rfl | (rw [Int.mul_comm]) | skip⟩
        case measure => simp [intOf]; omega
      · have hge : ¬ (k : Int) < 8 := by omega
        obtain rfl : k = 8 := by omega
        go_wp2
        go_ret2
        exact ⟨rfl, rfl⟩

theorem rgetYes (A : Option Addr) (c : Nat) (l : List Int) (w : World) (hr : Rd w A l) :
    Calls Try.prog 18 #[.slice A l.length c] w fun e w' => e = .returned (.tuple #[.bool (getYesF l).1, .int .i64 (getYesF l).2]) ∧ w = w' := by
  have H := rget32 A c l w hr
  unfold getYesF
  by_cases h4 : l.length < 4
  · rw [if_pos h4]
    rw [get32_short h4] at H
    go_enter Try.func18, Try.ntmps18
    go_wp2_with fail
    refine H.mono ?_
    rintro e w' ⟨rfl, rfl⟩
    go_wp2
    go_ret2
    exact ⟨rfl, rfl⟩
  · rw [if_neg h4]
    rw [get32_ok (by omega)] at H
    generalize num l 4 = x at H ⊢
    by_cases h1 : 1 < x
    · rw [if_pos h1]
      have d1 : decide (1 < x) = true := decide_eq_true h1
      go_enter Try.func18, Try.ntmps18
      go_wp2_with fail
      refine H.mono ?_
      rintro e w' ⟨rfl, rfl⟩
      go_wp2
      go_ret2
      exact ⟨rfl, rfl⟩
    · rw [if_neg h1]
      have d1 : decide (1 < x) = false := decide_eq_false h1
      go_enter Try.func18, Try.ntmps18
      go_wp2_with fail
      refine H.mono ?_
      rintro e w' ⟨rfl, rfl⟩
      go_wp2
      go_ret2
      exact ⟨rfl, rfl⟩
end Go.Proofs.Ytogkcmcekodjcaa.Hand
