/- What words.Get, GetLong and GetYes hand back: the number that the first four (or eight) bytes tell, or the error for too few; nothing is written. -/
import Derived.Laws.BitsAllLaws
import Derived.Test.YtoodmjdafifbmaaDoorLib
namespace Go.Proofs.YtoodmjdafifbmaaDoor.Hand
open Go.RowKit

theorem or32 {a b : Int} (h0 : 0 ≤ a) (h1 : a * 256 < 4294967296) (h2 : 0 ≤ b) (h3 : b < 256) : Go.bits .or .u32 (a * 256 % 4294967296) (b % 4294967296) = a * 256 + b := by
  rw [Int.emod_eq_of_lt (by omega) h1, Int.emod_eq_of_lt h2 (by omega), u32_or _ _ (by omega) h1 h2 (by omega), Nat.or_comm, nat_join8' _ _ (by omega) (by omega)]
  omega
theorem or64 {a b : Int} (h0 : 0 ≤ a) (h1 : a * 256 < 18446744073709551616) (h2 : 0 ≤ b) (h3 : b < 256) : Go.bits .or .u64 (IntKind.u64.wrap (a * 256)) (IntKind.u64.wrap b) = a * 256 + b := by
  rw [show IntKind.u64.wrap (a * 256) = a * 256 from by rw [IntKind.wrap_u64]; omega, show IntKind.u64.wrap b = b from by rw [IntKind.wrap_u64]; omega, u64_or _ _ (by omega) h1 h2 (by omega), Nat.or_comm, nat_join8' _ _ (by omega) (by omega)]
  omega

set_option maxRecDepth 100000 in
theorem get32 (A : Option Addr) (c : Nat) (l : List Int) (w : World) (hr : Rd w A l) (hc : l.length ≤ c) :
    Calls Tryd.prog 81 #[.slice A l.length c, .int .i64 4] w fun e w' => e = .returned (.tuple #[.int .u32 (get32F l).1, .int .i64 (get32F l).2]) ∧ w = w' := by
  by_cases h4 : l.length < 4
  · have h4' : (l.length : Int) < 4 := by omega
    rw [get32_short h4]
    go_enter Tryd.func81, Tryd.ntmps81
    go_wp2
    go_ret2
    exact ⟨rfl, rfl⟩
  · have h4' : 4 ≤ (l.length : Int) := by omega
    have hn4 : ¬ (l.length : Int) < 4 := by omega
    rw [get32_ok (by omega)]
    obtain ⟨ad, rfl, hcell⟩ : ∃ ad, A = some ad ∧ ∀ k : Nat, k < 4 → w.cell? (ad.add k) = some (.int .u8 (nth l k)) := by
      obtain ⟨ad, e, h⟩ := hr.2 (by omega)
      exact ⟨ad, e, fun k hk => h k (by omega)⟩
    have hc4 : (4 : Int) ≤ c := by omega
    go_enter Tryd.func81, Tryd.ntmps81
    go_wp2
    go_loop [4, 16] (fun n i => ∃ k : Nat, k ≤ 4 ∧ i = .int .i64 k ∧ n = .int .u32 (num l k)) (fun _ i => 4 - (intOf i).toNat)
    case atStart => exact ⟨0, by omega, rfl, rfl⟩
    case round =>
      obtain ⟨k, hk, rfl, rfl⟩ := hrel
      by_cases hlt : k < 4
      · have hcell' := hcell k hlt
        have hlt' : (k : Int) < 4 := by omega
        go_wp2
        go_round
        case rel =>
          refine ⟨k + 1, by omega, by go_num, ?_⟩
          have hb := num_bound hr.1 k
          have hnb := num_bound hr.1 (k + 1)
          have hg := hr.1.get k
          have hp : (256 : Int) ^ (k + 1) ≤ 4294967296 := by
            have : k ≤ 3 := by omega
            have h2 : (256 : Nat) ^ (k + 1) ≤ 256 ^ 4 := Nat.pow_le_pow_right (by omega) (by omega)
            have h3 : ((256 ^ (k + 1) : Nat) : Int) ≤ ((256 ^ 4 : Nat) : Int) := by exact_mod_cast h2
            simpa using h3
          rw [num_succ] at hnb
          show Value.int .u32 _ = Value.int .u32 _
          rw [num_succ, ← or32 hb.1 (by omega) hg.1 hg.2]
        case measure => simp [intOf]; omega
      · have hge : ¬ (k : Int) < 4 := by omega
        obtain rfl : k = 4 := by omega
        go_wp2
        go_ret2
        exact ⟨rfl, rfl⟩


theorem Get (A : Option Addr) (c : Nat) (l : List Int) (w : World) (hr : Rd w A l) (hc : l.length ≤ c) :
    Calls Tryd.prog 76 #[.slice A l.length c] w fun e w' => e = .returned (.tuple #[.int .u32 (get32F l).1, .int .i64 (get32F l).2]) ∧ w = w' := by
  have H := get32 A c l w hr hc
  generalize get32F l = r at H ⊢
  go_enter Tryd.func76, Tryd.ntmps76
  go_wp2_with fail
  refine H.mono ?_
  rintro e w' ⟨rfl, rfl⟩
  go_wp2
  go_ret2
  exact ⟨rfl, rfl⟩



end Go.Proofs.YtoodmjdafifbmaaDoor.Hand
