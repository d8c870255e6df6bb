/- What the reference's Sum hands back: the same sum. -/
import Derived.Test.YtgkbfmbdpkkhnaaDoorCrc
namespace Go.Proofs.YtgkbfmbdpkkhnaaDoor.Hand
open Go.RowKit
set_option linter.unusedVariables false

set_option maxRecDepth 100000 in
set_option maxHeartbeats 1000000 in
theorem rsum (A : Option Addr) (c : Nat) (l : List Int) (w : World) (hr : Rd w A l) (hlc : l.length ≤ 140737488351232) :
    Calls Tryd.prog 92 #[.slice A l.length c] w fun e w' => e = .returned (.int .u32 (crc l)) ∧ w = w' := by
  go_enter Tryd.func92, Tryd.ntmps92
  go_wp2
  go_loop [3, 4] (fun y i => ∃ k : Nat, k ≤ l.length ∧ i = .int .i64 k ∧ y = .int .u32 (crcS 4294967295 (l.take k) : Nat)) (fun _ i => l.length - (intOf i).toNat)
  case atStart => exact ⟨0, by omega, rfl, rfl⟩
  case round =>
    obtain ⟨k, hk, rfl, rfl⟩ := hrel
    by_cases hlt : k < l.length
    · obtain ⟨a, rfl, ha⟩ := hr.at_ hlt
      have hkl : (k : Int) < (l.length : Int) := by omega
      have hb := hr.1.get k
      have hy := crcS_lt (hr.1.take k) (x := 4294967295) (by decide)
      have E := Lib.hid (crcS_take hlt 4294967295)
      generalize crcS 4294967295 (l.take k) = y at *
      have hx := Go.u32_xor (y : Int) (nth l k) (by omega) (by omega) (by omega) (by omega)
      rw [Int.toNat_natCast] at hx
      have hz : y ^^^ (nth l k).toNat < 4294967296 := Nat.xor_lt_two_pow (n := 32) hy (by omega)
      generalize y ^^^ (nth l k).toNat = z at *
      go_wp2
      go_loop [3, 5] (fun y i => ∃ j : Nat, j ≤ 8 ∧ i = .int .i64 j ∧ y = .int .u32 (crcN z j : Nat)) (fun _ i => 8 - (intOf i).toNat)
      case atStart => exact ⟨0, by omega, rfl, rfl⟩
      case round =>
        obtain ⟨j, hj, rfl, rfl⟩ := hrel
        by_cases hlt8 : j < 8
        · have hj' : (j : Int) < 8 := by omega
          have hv := crcN_lt hz j
          have e1 : crcN z (j + 1) = crc1 (crcN z j) := rfl
          have E1 := Lib.hid e1
          clear e1
          generalize crcN z j = v at *
          have E2 := Lib.hid (show crc1 v = (v / 2) ^^^ (if v % 2 = 1 then 3988292384 else 0) from rfl)
          have ed : (v : Int) / 2 = ((v / 2 : Nat) : Int) := by omega
          have hx2 := Go.u32_xor_nat (v / 2) 3988292384 (by omega) (by decide)
          rw [← ed] at hx2
          have hx2' : Go.bits .xor .u32 ((v : Int) / 2) 3988292384 = (((v / 2) ^^^ 3988292384 : Nat) : Int) := hx2
          clear hx2 ed
          by_cases ho : v % 2 = 1
          · have h1 : (v : Int) % 2 = 1 := by omega
            have h2 : ((v : Int) % 2 == 1) = true := by rw [beq_iff_eq]; exact h1
            go_wp2
            go_round
            case rel => exact ⟨j + 1, by omega, by go_num, by rw [E1.out, E2.out, if_pos ho]⟩
            case measure => simp [intOf]; omega
          · have h1 : (v : Int) % 2 = 0 := by omega
            have h2 : ((v : Int) % 2 == 1) = false := by rw [beq_eq_false_iff_ne]; omega
            go_wp2
            go_round
            case rel => exact ⟨j + 1, by omega, by go_num, by rw [E1.out, E2.out, if_neg ho, Nat.xor_zero]; go_num⟩
            case measure => simp [intOf]; omega
        · have hge : ¬ (j : Int) < 8 := by omega
          obtain rfl : j = 8 := by omega
          go_wp2
          go_round
          case rel => exact ⟨k + 1, by omega, by go_num, by rw [E.out]⟩
          case measure => simp [intOf]; omega
    · have hge : ¬ (k : Int) < (l.length : Int) := by omega
      obtain rfl : k = l.length := by omega
      have hy := crcS_lt hr.1 (x := 4294967295) (by decide)
      rw [List.take_of_length_le (Nat.le_refl _)]
      have hm := crc_not hy
      have E := Lib.hid (show crc l = ((4294967295 - crcS 4294967295 l : Nat) : Int) from rfl)
      go_wp2
      go_ret
      exact ⟨by rw [E.out]; rfl, rfl⟩
end Go.Proofs.YtgkbfmbdpkkhnaaDoor.Hand
