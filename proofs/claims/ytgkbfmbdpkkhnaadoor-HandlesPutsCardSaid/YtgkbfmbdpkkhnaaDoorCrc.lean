/- The sum of bytes, plainly, and what handles.sum hands back. -/
import Derived.Laws.BitsAll
import Derived.Laws.BitsAllLaws
import Derived.Test.YtgkbfmbdpkkhnaaDoorLib
namespace Go.Proofs.YtgkbfmbdpkkhnaaDoor.Hand
open Go.RowKit
set_option linter.unusedVariables false

/-- One bit further. -/
def crc1 (x : Nat) : Nat := (x / 2) ^^^ (if x % 2 = 1 then 3988292384 else 0)
/-- So many bits further. -/
def crcN (x : Nat) : Nat → Nat
  | 0 => x
  | n + 1 => crc1 (crcN x n)
theorem crc1_lt {x : Nat} (h : x < 4294967296) : crc1 x < 4294967296 := by
  unfold crc1
  refine Nat.xor_lt_two_pow (n := 32) (by omega) ?_
  split <;> omega
theorem crcN_lt {x : Nat} (h : x < 4294967296) (n : Nat) : crcN x n < 4294967296 := by
  induction n with
  | zero => exact h
  | succ n ih => exact crc1_lt ih
/-- The sum of bytes, from a state. -/
def crcS : Nat → List Int → Nat
  | x, [] => x
  | x, c :: l => crcS (crcN (x ^^^ c.toNat) 8) l

theorem crc1_bits {y : Nat} (hy : y < 4294967296) : Go.bits .xor .u32 ((y : Int) / 2) (Go.bits .and .u32 (-Go.bits .and .u32 (y : Int) 1 % 4294967296) 3988292384) = ((crc1 y : Nat) : Int) := by
  have e1 := Go.u32_and_nat y 1 hy (by decide)
  rw [Nat.and_one_is_mod] at e1
  rw [show ((1 : Nat) : Int) = 1 from rfl] at e1
  rw [e1]
  unfold crc1
  have e2 : (y : Int) / 2 = ((y / 2 : Nat) : Int) := by omega
  rcases Nat.mod_two_eq_zero_or_one y with h | h
  · rw [h, if_neg (by decide), e2]
    have e3 := Go.u32_and_nat 0 3988292384 (by decide) (by decide)
    rw [show (-((0 : Nat) : Int) % 4294967296) = ((0 : Nat) : Int) from by decide, show (3988292384 : Int) = ((3988292384 : Nat) : Int) from rfl, e3]
    exact Go.u32_xor_nat _ _ (by omega) (by decide)
  · rw [h, if_pos rfl, e2]
    have e3 := Go.u32_and_nat 4294967295 3988292384 (by decide) (by decide)
    rw [show (-((1 : Nat) : Int) % 4294967296) = ((4294967295 : Nat) : Int) from by decide, show (3988292384 : Int) = ((3988292384 : Nat) : Int) from rfl, e3, show (4294967295 &&& 3988292384 : Nat) = 3988292384 from by decide]
    exact Go.u32_xor_nat _ _ (by omega) (by decide)

set_option maxRecDepth 100000 in
theorem further (x : Nat) (hx : x < 4294967296) (w : World) : Calls Tryd.prog 96 #[.int .u32 (x : Nat)] w fun e w' => e = .returned (.int .u32 (crcN x 8 : Nat)) ∧ w = w' := by
  go_enter Tryd.func96, Tryd.ntmps96
  go_wp2
  go_loop [0, 3] (fun y i => ∃ k : Nat, k ≤ 8 ∧ i = .int .i64 k ∧ y = .int .u32 (crcN x k : Nat)) (fun _ i => 8 - (intOf i).toNat)
  case atStart => exact ⟨0, by omega, rfl, rfl⟩
  case round =>
    obtain ⟨k, hk, rfl, rfl⟩ := hrel
    by_cases hlt : k < 8
    · have hlt' : (k : Int) < 8 := by omega
      have hy := crcN_lt hx k
      have e1 : crcN x (k + 1) = crc1 (crcN x k) := rfl
      have E := Lib.hid e1
      clear e1
      generalize crcN x k = y at *
      go_wp2
      go_round
      case rel => exact ⟨k + 1, by omega, by go_num, by rw [E.out, crc1_bits hy]⟩
      case measure => simp [intOf]; omega
    · have hge : ¬ (k : Int) < 8 := by omega
      obtain rfl : k = 8 := by omega
      go_wp2
      go_ret
      exact ⟨rfl, rfl⟩

theorem crcS_lt {l : List Int} (hl : Bs l) {x : Nat} (hx : x < 4294967296) : crcS x l < 4294967296 := by
  induction l generalizing x with
  | nil => exact hx
  | cons c l ih =>
    have hc := hl c (by simp)
    exact ih (fun z hz => hl z (List.mem_cons_of_mem _ hz)) (crcN_lt (Nat.xor_lt_two_pow (n := 32) hx (by omega)) 8)
theorem crcS_append (l m : List Int) (x : Nat) : crcS x (l ++ m) = crcS (crcS x l) m := by
  induction l generalizing x with
  | nil => rfl
  | cons c l ih => exact ih _
/-- The sum of bytes. -/
def crc (l : List Int) : Int := ((4294967295 - crcS 4294967295 l : Nat) : Int)
theorem crc_bound {l : List Int} (hl : Bs l) : 0 ≤ crc l ∧ crc l < 4294967296 := by unfold crc; omega
theorem crcS_take {l : List Int} {k : Nat} (h : k < l.length) (x : Nat) : crcS x (l.take (k + 1)) = crcN (crcS x (l.take k) ^^^ (nth l k).toNat) 8 := by
  rw [List.take_succ_eq_append_getElem h, crcS_append, ← gd l k h]
  rfl

theorem xor_all {y : Nat} (hy : y < 4294967296) : 4294967295 ^^^ y = 4294967295 - y := by
  have h1 : (BitVec.allOnes 32 ^^^ BitVec.ofNat 32 y).toNat = (~~~(BitVec.ofNat 32 y)).toNat := by rw [BitVec.allOnes_xor]
  rw [BitVec.toNat_xor, BitVec.toNat_not, BitVec.toNat_allOnes, BitVec.toNat_ofNat, Nat.mod_eq_of_lt hy] at h1
  exact h1
theorem crc_not {y : Nat} (hy : y < 4294967296) : Go.bits .xor .u32 IntKind.u32.max (y : Int) = ((4294967295 - y : Nat) : Int) := by
  rw [← xor_all hy]
  exact Go.u32_xor_nat 4294967295 y (by decide) hy

set_option maxRecDepth 100000 in
set_option maxHeartbeats 1000000 in
theorem sum (A : Option Addr) (c : Nat) (l : List Int) (w : World) (hr : Rd w A l) (hlc : l.length ≤ 140737488351232) :
    Calls Tryd.prog 91 #[.slice A l.length c] w fun e w' => e = .returned (.int .u32 (crc l)) ∧ w = w' := by
  go_enter Tryd.func91, Tryd.ntmps91
  go_wp2
  go_loop [4, 9] (fun y i => ∃ k : Nat, k ≤ l.length ∧ i = .int .i64 k ∧ y = .int .u32 (crcS 4294967295 (l.take k) : Nat)) (fun _ i => l.length - (intOf i).toNat)
  case atStart => exact ⟨0, by omega, rfl, rfl⟩
  case round =>
    obtain ⟨k, hk, rfl, rfl⟩ := hrel
    by_cases hlt : k < l.length
    · obtain ⟨a, rfl, ha⟩ := hr.at_ hlt
      have hkl : (k : Int) < (l.length : Int) := by omega
      have hb := hr.1.get k
      have hy := crcS_lt (hr.1.take k) (x := 4294967295) (by decide)
      have E := Lib.hid (crcS_take hlt 4294967295)
      generalize crcS 4294967295 (l.take k) = y at *
      have hx := Go.u32_xor (y : Int) (nth l k) (by omega) (by omega) (by omega) (by omega)
      rw [Int.toNat_natCast] at hx
      have hz : y ^^^ (nth l k).toNat < 4294967296 := Nat.xor_lt_two_pow (n := 32) hy (by omega)
      go_wp2_with fail
      refine (further _ hz _).mono ?_
      rintro e w' ⟨rfl, rfl⟩
      go_wp2
      go_round
      case rel => exact ⟨k + 1, by omega, by go_num, by rw [E.out]⟩
      case measure => simp [intOf]; omega
    · have hge : ¬ (k : Int) < (l.length : Int) := by omega
      obtain rfl : k = l.length := by omega
      have hy := crcS_lt hr.1 (x := 4294967295) (by decide)
      rw [List.take_of_length_le (Nat.le_refl _)]
      have hm := crc_not hy
      have E := Lib.hid (show crc l = ((4294967295 - crcS 4294967295 l : Nat) : Int) from rfl)
      go_wp2
      go_ret
      exact ⟨by rw [E.out]; rfl, rfl⟩
end Go.Proofs.YtgkbfmbdpkkhnaaDoor.Hand
