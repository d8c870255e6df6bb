/- Plain laws of the sum of bytes: it is linear over 'xor', and four bytes side by side that change make another sum. -/
import Derived.Test.YtffikncbpcnflaaHandle
namespace Go.Proofs.Ytffikncbpcnflaa.Hand
open Go.RowKit
set_option linter.unusedVariables false

theorem xor_zero_eq {a b : Nat} (h : a ^^^ b = 0) : a = b := by
  have h2 := congrArg (· ^^^ b) h
  simp only [Nat.xor_assoc, Nat.xor_self, Nat.xor_zero, Nat.zero_xor] at h2
  exact h2
theorem crc1_xor (x y : Nat) : crc1 (x ^^^ y) = crc1 x ^^^ crc1 y := by
  unfold crc1
  rw [Nat.xor_div_two]
  have hp := Nat.xor_mod_two_eq_one (a := x) (b := y)
  have e : ∀ a b c d : Nat, (a ^^^ b) ^^^ (c ^^^ d) = (a ^^^ c) ^^^ (b ^^^ d) := fun a b c d => by
    rw [Nat.xor_assoc, ← Nat.xor_assoc b c d, Nat.xor_comm b c, Nat.xor_assoc c b d, ← Nat.xor_assoc]
  rcases Nat.mod_two_eq_zero_or_one x with hx | hx <;> rcases Nat.mod_two_eq_zero_or_one y with hy | hy
  · rw [if_neg (by omega), if_neg (by omega), if_neg (by omega)]
    simp
  · rw [if_pos (by omega), if_neg (by omega), if_pos (by omega)]
    simp [Nat.xor_assoc]
  · rw [if_pos (by omega), if_pos (by omega), if_neg (by omega), e]
    simp
  · rw [if_neg (by omega), if_pos (by omega), if_pos (by omega), e]
    simp
theorem crcN_xor (x y n : Nat) : crcN (x ^^^ y) n = crcN x n ^^^ crcN y n := by
  induction n with
  | zero => rfl
  | succ n ih => rw [show ∀ z, crcN z (n + 1) = crc1 (crcN z n) from fun _ => rfl, ih, crc1_xor]; rfl
theorem xor_big {z : Nat} (hz : z < 2147483648) : 2147483648 ≤ z ^^^ 3988292384 := by
  by_cases h : z ^^^ 3988292384 < 2147483648
  · have h2 : z ^^^ (z ^^^ 3988292384) < 2 ^ 31 := Nat.xor_lt_two_pow hz h
    rw [← Nat.xor_assoc, Nat.xor_self, Nat.zero_xor] at h2
    omega
  · omega
theorem crc1_small {y z : Nat} (hy : y < 4294967296) (hz : z < 2147483648) (h : crc1 y = z) : y = 2 * z := by
  unfold crc1 at h
  rcases Nat.mod_two_eq_zero_or_one y with hp | hp
  · rw [if_neg (by omega), Nat.xor_zero] at h
    omega
  · rw [if_pos hp] at h
    have h2 : y / 2 = z ^^^ 3988292384 := by rw [← h, Nat.xor_assoc, Nat.xor_self, Nat.xor_zero]
    have h3 := xor_big hz
    omega
theorem crcN_small {y z : Nat} (n : Nat) (hy : y < 4294967296) (hz : z * 2 ^ n < 4294967296) (h : crcN y n = z) : y = z * 2 ^ n := by
  induction n generalizing z with
  | zero => rw [Nat.pow_zero, Nat.mul_one]; exact h
  | succ n ih =>
    rw [show z * 2 ^ (n + 1) = 2 * z * 2 ^ n from by rw [Nat.pow_succ]; ac_rfl] at hz ⊢
    have hp : 0 < 2 ^ n := Nat.pow_pos (by decide)
    have h2 : 2 * z ≤ 2 * z * 2 ^ n := Nat.le_mul_of_pos_right _ hp
    exact ih hz (crc1_small (crcN_lt hy n) (by omega) h)
theorem crcN_inj {x y : Nat} (n : Nat) (hx : x < 4294967296) (hy : y < 4294967296) (h : crcN x n = crcN y n) : x = y := by
  have h2 : crcN (x ^^^ y) n = 0 := by rw [crcN_xor, h, Nat.xor_self]
  have h3 := crcN_small n (Nat.xor_lt_two_pow (n := 32) hx hy) (by simp) h2
  rw [Nat.zero_mul] at h3
  exact xor_zero_eq h3

/-- The state behind bytes, as whole numbers. -/
def crcT : Nat → List Nat → Nat
  | x, [] => x
  | x, c :: l => crcT (crcN (x ^^^ c) 8) l
theorem crcS_T (x : Nat) (l : List Int) : crcS x l = crcT x (l.map Int.toNat) := by
  induction l generalizing x with
  | nil => rfl
  | cons c l ih => exact ih _
theorem crcT_append (x : Nat) (l m : List Nat) : crcT x (l ++ m) = crcT (crcT x l) m := by
  induction l generalizing x with
  | nil => rfl
  | cons c l ih => exact ih _
theorem crcT_lt {l : List Nat} (hl : ∀ c ∈ l, c < 256) {x : Nat} (hx : x < 4294967296) : crcT x l < 4294967296 := by
  induction l generalizing x with
  | nil => exact hx
  | cons c l ih =>
    have hc := hl c (by simp)
    exact ih (fun z hz => hl z (List.mem_cons_of_mem _ hz)) (crcN_lt (Nat.xor_lt_two_pow (n := 32) hx (by omega)) 8)
theorem xor_four (a b c d : Nat) : (a ^^^ b) ^^^ (c ^^^ d) = (a ^^^ c) ^^^ (b ^^^ d) := by
  rw [Nat.xor_assoc, ← Nat.xor_assoc b c d, Nat.xor_comm b c, Nat.xor_assoc c b d, ← Nat.xor_assoc]
theorem crcT_xor (x y : Nat) (l m : List Nat) (h : l.length = m.length) : crcT (x ^^^ y) (List.zipWith (· ^^^ ·) l m) = crcT x l ^^^ crcT y m := by
  induction l generalizing x y m with
  | nil => cases m with
    | nil => rfl
    | cons => simp at h
  | cons a l ih => cases m with
    | nil => simp at h
    | cons b m =>
      simp only [List.zipWith_cons_cons, crcT]
      rw [xor_four, crcN_xor]
      exact ih _ _ _ (by simpa using h)
theorem crcT_inj {l : List Nat} (hl : ∀ c ∈ l, c < 256) {x y : Nat} (hx : x < 4294967296) (hy : y < 4294967296) (h : crcT x l = crcT y l) : x = y := by
  induction l generalizing x y with
  | nil => exact h
  | cons c l ih =>
    have hc := hl c (by simp)
    have hx' : x ^^^ c < 4294967296 := Nat.xor_lt_two_pow (n := 32) hx (by omega)
    have hy' : y ^^^ c < 4294967296 := Nat.xor_lt_two_pow (n := 32) hy (by omega)
    have h2 := crcN_inj 8 hx' hy' (ih (fun z hz => hl z (List.mem_cons_of_mem _ hz)) (crcN_lt hx' 8) (crcN_lt hy' 8) h)
    have h3 := congrArg (· ^^^ c) h2
    simp only [Nat.xor_assoc, Nat.xor_self, Nat.xor_zero] at h3
    exact h3
theorem byte_xor {a b : Nat} (ha : a < 256) (hb : b < 256) : a ^^^ b < 256 := Nat.xor_lt_two_pow (n := 8) ha hb
set_option maxRecDepth 100000 in
/-- Four bytes side by side: no change of them keeps the state. -/
theorem burst {x a b c d a' b' c' d' : Nat} (hx : x < 4294967296) (ha : a < 256) (hb : b < 256) (hc : c < 256) (hd : d < 256) (ha' : a' < 256) (hb' : b' < 256) (hc' : c' < 256) (hd' : d' < 256)
    (h : crcT x [a, b, c, d] = crcT x [a', b', c', d']) : a = a' ∧ b = b' ∧ c = c' ∧ d = d' := by
  have h0 := crcT_xor x x [a, b, c, d] [a', b', c', d'] rfl
  rw [h, Nat.xor_self, Nat.xor_self] at h0
  simp only [List.zipWith_cons_cons, List.zipWith_nil_left, crcT, Nat.zero_xor] at h0
  have e0 := byte_xor ha ha'
  have e1 := byte_xor hb hb'
  have e2 := byte_xor hc hc'
  have e3 := byte_xor hd hd'
  have p0 : a ^^^ a' = 0 → a = a' := xor_zero_eq
  have p1 : b ^^^ b' = 0 → b = b' := xor_zero_eq
  have p2 : c ^^^ c' = 0 → c = c' := xor_zero_eq
  have p3 : d ^^^ d' = 0 → d = d' := xor_zero_eq
  generalize a ^^^ a' = A at *
  generalize b ^^^ b' = B at *
  generalize c ^^^ c' = C at *
  generalize d ^^^ d' = D at *
  have l1 : crcN A 8 ^^^ B < 4294967296 := Nat.xor_lt_two_pow (n := 32) (crcN_lt (by omega) 8) (by omega)
  have l2 : crcN (crcN A 8 ^^^ B) 8 ^^^ C < 4294967296 := Nat.xor_lt_two_pow (n := 32) (crcN_lt l1 8) (by omega)
  have l3 : crcN (crcN (crcN A 8 ^^^ B) 8 ^^^ C) 8 ^^^ D < 4294967296 := Nat.xor_lt_two_pow (n := 32) (crcN_lt l2 8) (by omega)
  have s3 := crcN_small 8 l3 (by simp) h0
  rw [Nat.zero_mul] at s3
  have s3 := xor_zero_eq s3
  have s2 := crcN_small 8 l2 (by omega) s3
  have t2 : crcN (crcN A 8 ^^^ B) 8 = (D * 2 ^ 8) ^^^ C := by rw [← s2, Nat.xor_assoc, Nat.xor_self, Nat.xor_zero]
  have b2 : (D * 2 ^ 8) ^^^ C < 2 ^ 16 := Nat.xor_lt_two_pow (n := 16) (by omega) (by omega)
  have s1 := crcN_small 8 l1 (by omega) t2
  have t1 : crcN A 8 = (((D * 2 ^ 8) ^^^ C) * 2 ^ 8) ^^^ B := by rw [← s1, Nat.xor_assoc, Nat.xor_self, Nat.xor_zero]
  have b1 : (((D * 2 ^ 8) ^^^ C) * 2 ^ 8) ^^^ B < 2 ^ 24 := Nat.xor_lt_two_pow (n := 24) (by omega) (by omega)
  have s0 := crcN_small 8 (by omega) (by omega) t1
  have z0 : (((D * 2 ^ 8) ^^^ C) * 2 ^ 8) ^^^ B = 0 := by omega
  have z1 := xor_zero_eq z0
  have z2 : (D * 2 ^ 8) ^^^ C = 0 := by omega
  have z3 := xor_zero_eq z2
  exact ⟨p0 (by omega), p1 (by omega), p2 (by omega), p3 (by omega)⟩
end Go.Proofs.Ytffikncbpcnflaa.Hand
