/- Plain laws of marks.Get and marks.All: an error comes with nothing; all messages are the first one and those behind it; more bytes only make more messages. -/
import Derived.Test.YtjmganppgojdhaaMarksAll
namespace Go.Proofs.Ytjmganppgojdhaa.Hand
open Go.RowKit

theorem mget_err : ∀ (f : Nat) (r m : List Int) (at_ : Nat), (mget f r m at_).2.2 ≠ 0 → (mget f r m at_).1 = [] ∧ (mget f r m at_).2.1 = 0
  | 0, _, _, _ => fun _ => ⟨rfl, rfl⟩
  | f + 1, r, m, at_ => fun h => by
    rw [mget] at h ⊢
    split
    · exact ⟨rfl, rfl⟩
    rename_i h1
    rw [if_neg h1] at h
    split
    · exact ⟨rfl, rfl⟩
    rename_i h2
    rw [if_neg h2] at h
    split
    · exact ⟨rfl, rfl⟩
    rename_i h3
    rw [if_neg h3] at h
    split
    · exact ⟨rfl, rfl⟩
    rename_i h4
    rw [if_neg h4] at h
    split
    · rename_i h5
      rw [if_pos h5] at h
      exact mget_err f _ _ _ h
    · rename_i h5
      rw [if_neg h5] at h
      exact absurd rfl h

theorem mget_len : ∀ (f : Nat) (r m : List Int) (at_ : Nat), (mget f r m at_).2.2 = 0 → m.length ≤ 65536 → (mget f r m at_).1.length ≤ 65536
  | 0, _, _, _ => fun h => by simp [mget] at h
  | f + 1, r, m, at_ => fun h hm => by
    rw [mget] at h ⊢
    split at h
    · simp at h
    split at h
    · simp at h
    split at h
    · simp at h
    split at h
    · simp at h
    rename_i h1 h2 h3 h4
    rw [if_neg h1, if_neg h2, if_neg h3, if_neg h4]
    have hk : ((r.drop 4).take (num r 4 % 2147483648).toNat).length ≤ (num r 4 % 2147483648).toNat := by rw [List.length_take]; omega
    split at h
    · rename_i h5
      rw [if_pos h5]
      exact mget_len f _ _ _ h (by rw [List.length_append]; omega)
    · rename_i h5
      rw [if_neg h5]
      simp only [List.length_append]
      omega
/-- The first message of bytes. -/
def get1 (r : List Int) : List Int × Nat × Int := mget (r.length + 1) r [] 0
theorem get1_fits {r : List Int} (h : (get1 r).2.2 = 0) : 4 ≤ (get1 r).2.1 ∧ (get1 r).2.1 ≤ r.length := by
  have := mget_fits (r.length + 1) r [] 0 h
  unfold get1
  omega
theorem msgs_ok {f : Nat} {r : List Int} (h : (get1 r).2.2 = 0) : msgs (f + 1) r = (((get1 r).1, (get1 r).2.1) :: (msgs f (r.drop (get1 r).2.1)).1, (msgs f (r.drop (get1 r).2.1)).2) := by
  rw [msgs]
  exact if_pos h
theorem msgs_no {f : Nat} {r : List Int} (h : (get1 r).2.2 ≠ 0) : msgs (f + 1) r = ([], (get1 r).2.2) := by
  rw [msgs]
  exact if_neg h
theorem msgs_fuel : ∀ (f g : Nat) (r : List Int), r.length < f → r.length < g → msgs f r = msgs g r
  | 0, _, _, h, _ => by omega
  | _ + 1, 0, _, _, h => by omega
  | f + 1, g + 1, r, hf, hg => by
    by_cases h : (get1 r).2.2 = 0
    · have := get1_fits h
      have hl : (r.drop (get1 r).2.1).length < f := by rw [List.length_drop]; omega
      have hl2 : (r.drop (get1 r).2.1).length < g := by rw [List.length_drop]; omega
      rw [msgs_ok h, msgs_ok h, msgs_fuel f g _ hl hl2]
    · rw [msgs_no h, msgs_no h]
theorem mall_ok {r : List Int} (h : (get1 r).2.2 = 0) : mall r = ((get1 r).1 :: (mall (r.drop (get1 r).2.1)).1, (get1 r).2.1 + (mall (r.drop (get1 r).2.1)).2.1, (mall (r.drop (get1 r).2.1)).2.2) := by
  have := get1_fits h
  unfold mall
  rw [msgs_ok h, msgs_fuel r.length ((r.drop (get1 r).2.1).length + 1) (r.drop (get1 r).2.1) (by rw [List.length_drop]; omega) (by omega)]
  simp
theorem mall_no {r : List Int} (h : (get1 r).2.2 ≠ 0) : mall r = ([], 0, if (get1 r).2.2 = 4 then 0 else (get1 r).2.2) := by
  unfold mall
  rw [msgs_no h]
  rfl
theorem msgs_fits : ∀ (f : Nat) (r : List Int), ((msgs f r).1.map (·.2)).sum ≤ r.length
  | 0, _ => by simp [msgs]
  | f + 1, r => by
    by_cases h : (get1 r).2.2 = 0
    · have := get1_fits h
      have ih := msgs_fits f (r.drop (get1 r).2.1)
      rw [List.length_drop] at ih
      rw [msgs_ok h]
      simp only [List.map_cons, List.sum_cons]
      omega
    · rw [msgs_no h]
      simp
theorem mall_fits (r : List Int) : (mall r).2.1 ≤ r.length := msgs_fits _ _
theorem msgs_each : ∀ (f : Nat) (r : List Int), ∀ x ∈ (msgs f r).1, x.1.length ≤ 65536
  | 0, _ => by simp [msgs]
  | f + 1, r => by
    by_cases h : (get1 r).2.2 = 0
    · rw [msgs_ok h]
      intro x hx
      rcases List.mem_cons.1 hx with rfl | hx
      · exact mget_len _ _ _ _ h (by simp)
      · exact msgs_each f _ x hx
    · rw [msgs_no h]
      simp
theorem mall_each (r : List Int) : ∀ x ∈ (mall r).1, x.length ≤ 65536 := by
  intro x hx
  obtain ⟨y, hy, rfl⟩ := List.mem_map.1 hx
  exact msgs_each _ _ y hy
theorem msgs_count : ∀ (f : Nat) (r : List Int), (msgs f r).1.length ≤ r.length
  | 0, _ => by simp [msgs]
  | f + 1, r => by
    by_cases h : (get1 r).2.2 = 0
    · have := get1_fits h
      have ih := msgs_count f (r.drop (get1 r).2.1)
      rw [List.length_drop] at ih
      rw [msgs_ok h]
      simp only [List.length_cons]
      omega
    · rw [msgs_no h]
      simp
theorem mall_count (r : List Int) : (mall r).1.length ≤ r.length := by
  unfold mall
  rw [List.length_map]
  exact msgs_count _ _
end Go.Proofs.Ytjmganppgojdhaa.Hand
