/- Plain law: more bytes only make more messages. -/
import Derived.Test.YtjmganppgojdhaaMarksLaws
namespace Go.Proofs.Ytjmganppgojdhaa.Hand
open Go.RowKit

theorem num_append4 {r x : List Int} (h : 4 ≤ r.length) : num (r ++ x) 4 = num r 4 :=
  num_congr 4 fun j hj => by rw [gd _ _ (by rw [List.length_append]; omega), gd _ _ (by omega), List.getElem_append_left]
theorem mget_more : ∀ (f g : Nat) (r m x : List Int) (at_ : Nat), (mget f r m at_).2.2 ≠ 4 → f ≤ g → mget g (r ++ x) m at_ = mget f r m at_
  | 0, _, _, _, _, _ => fun h => by simp [mget] at h
  | f + 1, 0, _, _, _, _ => fun _ h => by omega
  | f + 1, g + 1, r, m, x, at_ => fun h hfg => by
    rw [mget] at h
    rw [mget, mget]
    by_cases h1 : r.length < 4
    · rw [if_pos h1] at h
      exact absurd rfl h
    rw [if_neg h1] at h ⊢
    rw [if_neg (by rw [List.length_append]; omega), num_append4 (by omega)]
    by_cases h2 : num r 4 = 0
    · rw [if_pos h2, if_pos h2]
    rw [if_neg h2] at h ⊢
    rw [if_neg h2]
    by_cases h3 : 65536 < m.length + (num r 4 % 2147483648).toNat
    · rw [if_pos h3, if_pos h3]
    rw [if_neg h3] at h ⊢
    rw [if_neg h3]
    by_cases h4 : r.length - 4 < (num r 4 % 2147483648).toNat
    · rw [if_pos h4] at h
      exact absurd rfl h
    rw [if_neg h4] at h ⊢
    rw [if_neg (by rw [List.length_append]; omega)]
    have e1 : ((r ++ x).drop 4).take (num r 4 % 2147483648).toNat = (r.drop 4).take (num r 4 % 2147483648).toNat := by
      rw [List.drop_append_of_le_length (by omega), List.take_append_of_le_length (by rw [List.length_drop]; omega)]
    have e2 : (r ++ x).drop (4 + (num r 4 % 2147483648).toNat) = r.drop (4 + (num r 4 % 2147483648).toNat) ++ x := List.drop_append_of_le_length (by omega)
    rw [e1, e2]
    by_cases h5 : num r 4 < 2147483648
    · rw [if_pos h5] at h ⊢
      rw [if_pos h5]
      exact mget_more f g _ _ _ _ h (by omega)
    · rw [if_neg h5, if_neg h5]

theorem get1_more {r : List Int} (x : List Int) (h : (get1 r).2.2 ≠ 4) : get1 (r ++ x) = get1 r := by
  unfold get1 at h ⊢
  exact mget_more _ _ _ _ _ _ h (by rw [List.length_append]; omega)

theorem msgs_more : ∀ (f g : Nat) (r x : List Int), r.length < f → f ≤ g → (msgs f r).1 <+: (msgs g (r ++ x)).1 ∧ ((msgs f r).2 ≠ 4 → msgs g (r ++ x) = msgs f r)
  | 0, _, _, _, h, _ => by omega
  | f + 1, 0, _, _, _, h => by omega
  | f + 1, g + 1, r, x, hf, hg => by
    by_cases h4 : (get1 r).2.2 = 4
    · rw [msgs_no (by rw [h4]; decide)]
      exact ⟨List.nil_prefix, fun h => absurd h4 h⟩
    have hm := get1_more x h4
    by_cases h : (get1 r).2.2 = 0
    · have hfit := get1_fits h
      have e : (r ++ x).drop (get1 r).2.1 = r.drop (get1 r).2.1 ++ x := List.drop_append_of_le_length (by omega)
      have ih := msgs_more f g (r.drop (get1 r).2.1) x (by rw [List.length_drop]; omega) (by omega)
      rw [msgs_ok h, msgs_ok (by rw [hm]; exact h), hm, e]
      refine ⟨?_, fun h' => ?_⟩
      · obtain ⟨t, ht⟩ := ih.1
        exact ⟨t, by rw [← ht]; rfl⟩
      · rw [ih.2 h']
    · rw [msgs_no h, msgs_no (by rw [hm]; exact h), hm]
      exact ⟨List.nil_prefix, fun _ => rfl⟩

theorem mall_more (r x : List Int) : (mall r).1 <+: (mall (r ++ x)).1 ∧ (mall r).2.1 ≤ (mall (r ++ x)).2.1 ∧ ((mall r).2.2 ≠ 0 → mall (r ++ x) = mall r) := by
  have h := msgs_more (r.length + 1) ((r ++ x).length + 1) r x (by omega) (by rw [List.length_append]; omega)
  unfold mall
  obtain ⟨⟨t, ht⟩, h2⟩ := h
  refine ⟨⟨t.map (·.1), by rw [← ht, List.map_append]⟩, ?_, fun h3 => ?_⟩
  · have e : ((msgs ((r ++ x).length + 1) (r ++ x)).1.map (·.2)).sum = ((msgs (r.length + 1) r).1.map (·.2)).sum + (t.map (·.2)).sum := by rw [← ht, List.map_append, List.sum_append]
    simp only
    omega
  · have h4 : (msgs (r.length + 1) r).2 ≠ 4 := fun e => h3 (by simp [e])
    rw [h2 h4]
end Go.Proofs.Ytjmganppgojdhaa.Hand
