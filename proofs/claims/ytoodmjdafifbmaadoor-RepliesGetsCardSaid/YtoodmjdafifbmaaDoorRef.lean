/- What the reference's Get, GetLong and GetYes hand back: the same as words.Get, GetLong and GetYes. -/
import Derived.Test.YtoodmjdafifbmaaDoorLib
namespace Go.Proofs.YtoodmjdafifbmaaDoor.Hand
open Go.RowKit

set_option maxRecDepth 100000 in
theorem rget32 (A : Option Addr) (c : Nat) (l : List Int) (w : World) (hr : Rd w A l) :
    Calls Tryd.prog 58 #[.slice A l.length c] w fun e w' => e = .returned (.tuple #[.int .u32 (get32F l).1, .int .i64 (get32F l).2]) ∧ w = w' := by
  by_cases h4 : l.length < 4
  · have h4' : (l.length : Int) < 4 := by omega
    rw [get32_short h4]
    go_enter Tryd.func58, Tryd.ntmps58
    go_wp2
    go_ret2
    exact ⟨rfl, rfl⟩
  · have h4' : 4 ≤ (l.length : Int) := by omega
    have hn4 : ¬ (l.length : Int) < 4 := by omega
    rw [get32_ok (by omega)]
    obtain ⟨ad, rfl, hcell⟩ : ∃ ad, A = some ad ∧ ∀ k : Nat, k < 4 → w.cell? (ad.add k) = some (.int .u8 (nth l k)) := by
      obtain ⟨ad, e, h⟩ := hr.2 (by omega)
      exact ⟨ad, e, fun k hk => h k (by omega)⟩
    go_enter Tryd.func58, Tryd.ntmps58
    go_wp2
    go_loop [4, 5] (fun n i => ∃ k : Nat, k ≤ 4 ∧ i = .int .i64 k ∧ n = .int .u32 (num l k)) (fun _ i => 4 - (intOf i).toNat)
    case atStart => exact ⟨0, by omega, rfl, rfl⟩
    case round =>
      obtain ⟨k, hk, rfl, rfl⟩ := hrel
      by_cases hlt : k < 4
      · have hcell' := hcell k hlt
        have hlt' : (k : Int) < 4 := by omega
        have hkl : (k : Int) < (l.length : Int) := by omega
        have hb := num_bound hr.1 k
        have hnb := num_bound hr.1 (k + 1)
        have hp : (256 : Int) ^ (k + 1) ≤ 4294967296 := by
          have h2 : (256 : Nat) ^ (k + 1) ≤ 256 ^ 4 := Nat.pow_le_pow_right (by omega) (by omega)
          have h3 : ((256 ^ (k + 1) : Nat) : Int) ≤ ((256 ^ 4 : Nat) : Int) := by exact_mod_cast h2
          simpa using h3
        have hg := hr.1.get k
        rw [num_succ] at hnb
        have b1 : 256 * num l k < 4294967296 := by omega
        have b2 : 256 * num l k + nth l k < 4294967296 := by omega
        clear hp hnb
        go_wp2
        go_round
        case rel => exact ⟨k + 1, by omega, by go_num, by rw [num_succ]; first | rfl | (rw [Int.mul_comm]) | skip⟩
        case measure => simp [intOf]; omega
      · have hge : ¬ (k : Int) < 4 := by omega
        obtain rfl : k = 4 := by omega
        go_wp2
        go_ret2
        exact ⟨rfl, rfl⟩
end Go.Proofs.YtoodmjdafifbmaaDoor.Hand
