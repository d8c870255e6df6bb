/- A plain law of marks.Get: a message that is got is not too long. -/
import Derived.Test.YtgkbfmbdpkkhnaaDoorMarksGet
namespace Go.Proofs.YtgkbfmbdpkkhnaaDoor.Hand
open Go.RowKit

theorem mget_len : ∀ (f : Nat) (r m : List Int) (at_ : Nat), (mget f r m at_).2.2 = 0 → m.length ≤ 65536 → (mget f r m at_).1.length ≤ 65536
  | 0, _, _, _ => fun h => by simp [mget] at h
  | f + 1, r, m, at_ => fun h hm => by
    rw [mget] at h ⊢
    split at h
    · simp at h
    split at h
    · simp at h
    split at h
    · simp at h
    split at h
    · simp at h
    rename_i h1 h2 h3 h4
    rw [if_neg h1, if_neg h2, if_neg h3, if_neg h4]
    have hk : ((r.drop 4).take (num r 4 % 2147483648).toNat).length ≤ (num r 4 % 2147483648).toNat := by rw [List.length_take]; omega
    split at h
    · rename_i h5
      rw [if_pos h5]
      exact mget_len f _ _ _ h (by rw [List.length_append]; omega)
    · rename_i h5
      rw [if_neg h5]
      simp only [List.length_append]
      omega
end Go.Proofs.YtgkbfmbdpkkhnaaDoor.Hand
