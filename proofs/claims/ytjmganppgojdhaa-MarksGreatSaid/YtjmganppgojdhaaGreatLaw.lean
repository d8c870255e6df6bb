/- The plain law of MarksGreat: what marks.Get answers to two fragments, the first of zeros, the second without its bytes. -/
import Derived.Test.YtjmganppgojdhaaMarksGet
namespace Go.Proofs.Ytjmganppgojdhaa.Hand
open Go.RowKit

theorem num_of4 (a b c d : Int) (r : List Int) : num (a :: b :: c :: d :: r) 4 = ((a * 256 + b) * 256 + c) * 256 + d := by
  simp [num, nth]

theorem great_law (k : Nat) (y : Int) (hk : k < 70000) (hy0 : 0 ≤ y) (hy : y < 4294967296) (L : List Int)
    (hL : L = ([0, (k : Int) / 65536, (k : Int) / 256 % 256, (k : Int) % 256] ++ List.replicate k (0 : Int)) ++ [y / 16777216, y / 65536 % 256, y / 256 % 256, y % 256]) :
    (mget (L.length + 1) L [] 0).2.2 = if k = 0 then 5 else if 65536 < k ∨ (65536 < (k : Int) + y % 2147483648 ∧ y ≠ 0) then 3 else if y = 0 then 5 else if y % 2147483648 = 0 then 0 else 4 := by
  have hl : L.length = k + 8 := by rw [hL]; simp
  have hn : num L 4 = k := by
    rw [hL]
    simp only [List.cons_append, List.nil_append]
    rw [num_of4]
    omega
  have hd : L.drop (4 + k) = [y / 16777216, y / 65536 % 256, y / 256 % 256, y % 256] := by
    rw [hL]
    exact List.drop_left' (by simp; omega)
  have hkm : ((k : Int) % 2147483648).toNat = k := by omega
  rw [hl, mget, if_neg (by omega), hn]
  by_cases h0 : k = 0
  · subst h0
    simp
  · rw [if_neg (by omega), if_neg h0]
    simp only [hkm, List.length_nil, Nat.zero_add]
    by_cases h1 : 65536 < k
    · rw [if_pos h1, if_pos (Or.inl h1)]
    · rw [if_neg h1, if_neg (by omega), if_pos (by omega), hd]
      have hm : ([] ++ (L.drop 4).take k).length = k := by
        rw [List.nil_append, List.length_take, List.length_drop]
        omega
      generalize [] ++ (L.drop 4).take k = m at *
      rw [show k + 8 = (k + 7) + 1 from rfl, mget, if_neg (by simp), num_of4]
      have hy4 : ((y / 16777216 * 256 + y / 65536 % 256) * 256 + y / 256 % 256) * 256 + y % 256 = y := by omega
      rw [hy4, hm]
      by_cases hy5 : y = 0
      · rw [if_pos hy5, if_neg (by omega), if_pos hy5]
      · rw [if_neg hy5]
        by_cases h6 : 65536 < (k : Int) + y % 2147483648
        · rw [if_pos (by omega), if_pos (Or.inr ⟨h6, hy5⟩)]
        · rw [if_neg (by omega)]
          have hc : ¬ (65536 < k ∨ (65536 < (k : Int) + y % 2147483648 ∧ y ≠ 0)) := by omega
          by_cases h7 : y % 2147483648 = 0
          · rw [if_neg (by simp; omega), if_neg (by omega), if_neg hc, if_neg hy5, if_pos h7]
          · rw [if_pos (by simp; omega), if_neg hc, if_neg hy5, if_neg h7]
end Go.Proofs.Ytjmganppgojdhaa.Hand
