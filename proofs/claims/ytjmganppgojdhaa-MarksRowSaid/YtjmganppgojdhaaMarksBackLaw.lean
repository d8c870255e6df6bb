/- Plain laws: a message that was cut is got, as many bytes, whatever stands behind it; of fewer bytes none is; so are messages that were cut and stand one behind the other. -/
import Derived.Test.YtjmganppgojdhaaMarksMore
import Derived.Test.YtjmganppgojdhaaMarksCut
namespace Go.Proofs.Ytjmganppgojdhaa.Hand
open Go.RowKit


/-- One fragment, the first of bytes. -/
theorem mget_frag (f : Nat) (k mark : Nat) (p x m : List Int) (at_ : Nat) (hk : k = p.length) (hp : p.length ≤ 65536) (hm : mark = 0 ∧ 1 ≤ k ∨ mark = 2147483648) (hacc : m.length + p.length ≤ 65536) :
    mget (f + 1) (be ((k : Int) + (mark : Int)) 4 ++ p ++ x) m at_ = if mark = 0 then mget f x (m ++ p) (at_ + 4 + k) else (m ++ p, at_ + 4 + k, 0) := by
  have hb : (be ((k : Int) + (mark : Int)) 4).length = 4 := be_length _ _
  have hnum : num (be ((k : Int) + (mark : Int)) 4 ++ p ++ x) 4 = (k : Int) + (mark : Int) := by rw [List.append_assoc]; exact num_be4 (by omega) (by omega) _
  have hmod : (((k : Int) + (mark : Int)) % 2147483648).toNat = k := by omega
  have hd : (be ((k : Int) + (mark : Int)) 4 ++ p ++ x).drop 4 = p ++ x := by rw [List.append_assoc]; exact List.drop_left' hb
  have hd2 : (be ((k : Int) + (mark : Int)) 4 ++ p ++ x).drop (4 + k) = x := List.drop_left' (by rw [List.length_append, hb, hk])
  have hl : (be ((k : Int) + (mark : Int)) 4 ++ p ++ x).length = 4 + k + x.length := by rw [List.length_append, List.length_append, hb, hk]
  rw [mget, hnum, hmod, hd, hd2, hl, if_neg (by omega), if_neg (by omega), if_neg (by omega), if_neg (by omega), List.take_left' hk.symm]
  by_cases h : mark = 0
  · rw [if_pos h, if_pos (by omega)]
  · rw [if_neg h, if_neg (by omega)]

theorem mcut_length_ge : ∀ (f z : Nat) (m : List Int), 1 ≤ z → m.length < f → 4 + m.length ≤ (mcut f z m).length
  | 0, _, _, _, h => by omega
  | f + 1, z, m, hz, h => by
    rw [mcut]
    split
    · have := mcut_length_ge f z (m.drop z) hz (by rw [List.length_drop]; omega)
      simp only [List.length_append, be_length, List.length_take]
      rw [List.length_drop] at this
      omega
    · simp [be_length]

theorem mget_cut : ∀ (f g z : Nat) (m x acc : List Int) (at_ : Nat), 1 ≤ z → z ≤ 65536 → m.length < f → m.length < g → acc.length + m.length ≤ 65536 →
    mget g (mcut f z m ++ x) acc at_ = (acc ++ m, at_ + (mcut f z m).length, 0)
  | 0, _, _, _, _, _, _, _, _, h, _, _ => by omega
  | f + 1, 0, _, _, _, _, _, _, _, _, h, _ => by omega
  | f + 1, g + 1, z, m, x, acc, at_, hz, hz', hf, hg, hacc => by
    rw [mcut]
    by_cases h : z < m.length
    · rw [if_pos h]
      have ht : (m.take z).length = z := by rw [List.length_take]; omega
      have hfr := mget_frag g z 0 (m.take z) (mcut f z (m.drop z) ++ x) acc at_ ht.symm (by omega) (Or.inl ⟨rfl, hz⟩) (by omega)
      rw [Int.natCast_zero, Int.add_zero] at hfr
      rw [List.append_assoc, hfr, if_pos rfl, mget_cut f g z (m.drop z) x _ _ hz hz' (by rw [List.length_drop]; omega) (by rw [List.length_drop]; omega) (by rw [List.length_append, List.length_drop]; omega)]
      rw [List.append_assoc, List.take_append_drop]
      simp only [List.length_append, be_length, ht]
      congr 2
      omega
    · rw [if_neg h]
      have hfr := mget_frag g m.length 2147483648 m x acc at_ rfl (by omega) (Or.inr rfl) (by omega)
      rw [show (((2147483648 : Nat)) : Int) = 2147483648 from rfl] at hfr
      rw [hfr, if_neg (by decide)]
      simp only [List.length_append, be_length]
      congr 2
      omega

theorem get1_cut (z : Nat) (m x : List Int) (hz : 1 ≤ z) (hz' : z ≤ 65536) (hm : m.length ≤ 65536) : get1 (mcut (m.length + 1) z m ++ x) = (m, (mcut (m.length + 1) z m).length, 0) := by
  have hl := mcut_length_ge (m.length + 1) z m hz (by omega)
  unfold get1
  rw [mget_cut (m.length + 1) _ z m x [] 0 hz hz' (by omega) (by rw [List.length_append]; omega) (by simp; omega)]
  simp

theorem mput_cut (m : List Int) : be ((m.length : Int) + 2147483648) 4 ++ m = mcut (m.length + 1) (m.length + 1) m := by
  rw [mcut, if_neg (by omega)]

/-- Of fewer bytes none is got. -/
theorem mget_fewer : ∀ (f g z : Nat) (m acc : List Int) (at_ j : Nat), 1 ≤ z → z ≤ 65536 → m.length < f → acc.length + m.length ≤ 65536 → j < (mcut f z m).length →
    (mget g ((mcut f z m).take j) acc at_).2.2 = 4
  | 0, _, _, _, _, _, _, _, _, h, _, _ => by omega
  | _ + 1, 0, _, _, _, _, _, _, _, _, _, _ => by simp [mget]
  | f + 1, g + 1, z, m, acc, at_, j, hz, hz', hf, hacc, hj => by
    rw [mcut] at hj ⊢
    by_cases h4 : j < 4
    · rw [mget, if_pos (by rw [List.length_take]; omega)]
    by_cases h : z < m.length
    · rw [if_pos h] at hj ⊢
      have ht : (m.take z).length = z := by rw [List.length_take]; omega
      have hb : (be (z : Int) 4 ++ m.take z).length = 4 + z := by rw [List.length_append, be_length, ht]
      by_cases hjz : j < 4 + z
      · rw [List.take_append_of_le_length (by rw [hb]; omega)]
        have hsp : (be (z : Int) 4 ++ m.take z).take j = be (z : Int) 4 ++ (m.take z).take (j - 4) := by
          rw [List.take_append, List.take_of_length_le (by rw [be_length]; omega), be_length]
        have hl : (be (z : Int) 4 ++ (m.take z).take (j - 4)).length = j := by
          rw [List.length_append, be_length, List.length_take, ht]
          omega
        rw [hsp, mget, num_be4 (by omega) (by omega), hl, if_neg (by omega), if_neg (by omega), if_neg (by omega), if_pos (by omega)]
      · have hsp : (be (z : Int) 4 ++ m.take z ++ mcut f z (m.drop z)).take j = be (z : Int) 4 ++ m.take z ++ (mcut f z (m.drop z)).take (j - (4 + z)) := by
          rw [List.take_append, List.take_of_length_le (by rw [hb]; omega), hb]
        have hfr := mget_frag g z 0 (m.take z) ((mcut f z (m.drop z)).take (j - (4 + z))) acc at_ ht.symm (by omega) (Or.inl ⟨rfl, hz⟩) (by omega)
        rw [Int.natCast_zero, Int.add_zero] at hfr
        rw [hsp, hfr, if_pos rfl]
        rw [List.length_append, hb] at hj
        exact mget_fewer f g z (m.drop z) _ _ _ hz hz' (by rw [List.length_drop]; omega) (by rw [List.length_append, List.length_drop, ht]; omega) (by omega)
    · rw [if_neg h] at hj ⊢
      have hsp : (be ((m.length : Int) + 2147483648) 4 ++ m).take j = be ((m.length : Int) + 2147483648) 4 ++ m.take (j - 4) := by
        rw [List.take_append, List.take_of_length_le (by rw [be_length]; omega), be_length]
      rw [List.length_append, be_length] at hj
      have hl : (be ((m.length : Int) + 2147483648) 4 ++ m.take (j - 4)).length = j := by
        rw [List.length_append, be_length, List.length_take]
        omega
      rw [hsp, mget, num_be4 (by omega) (by omega), hl, if_neg (by omega), if_neg (by omega), if_neg (by omega), if_pos (by omega)]

theorem mcut_length_le : ∀ (f z : Nat) (m : List Int), 1 ≤ z → (mcut f z m).length ≤ 4 + 5 * m.length
  | 0, _, _, _ => by simp [mcut]
  | f + 1, z, m, hz => by
    rw [mcut]
    split
    · have := mcut_length_le f z (m.drop z) hz
      simp only [List.length_append, be_length, List.length_take]
      rw [List.length_drop] at this
      omega
    · simp [be_length]
      omega
/-- Messages that were cut, one behind the other. -/
def cuts (z : Nat) (ms : List (List Int)) : List Int := (ms.map fun m => mcut (m.length + 1) z m).flatten

theorem mall_cuts (z : Nat) (hz : 1 ≤ z) (hz' : z ≤ 65536) (y : List Int) (hy : (get1 y).2.2 = 4) : ∀ (ms : List (List Int)), (∀ m ∈ ms, m.length ≤ 65536) → mall (cuts z ms ++ y) = (ms, (cuts z ms).length, 0)
  | [], _ => by
    rw [mall_no (by show (get1 y).2.2 ≠ 0; rw [hy]; decide)]
    show ([], 0, if (get1 y).2.2 = 4 then 0 else (get1 y).2.2) = _
    rw [if_pos hy]
    rfl
  | m :: ms, h => by
    have hg := get1_cut z m (cuts z ms ++ y) hz hz' (h m (by simp))
    have e : cuts z (m :: ms) ++ y = mcut (m.length + 1) z m ++ (cuts z ms ++ y) := by
      simp [cuts]
    have ih := mall_cuts z hz hz' y hy ms (fun x hx => h x (by simp [hx]))
    rw [e, mall_ok (by rw [hg]), hg]
    simp only
    rw [List.drop_left, ih]
    simp [cuts]
end Go.Proofs.Ytjmganppgojdhaa.Hand
