/- Plain laws on replies: what Get tells of the bytes that Put makes, and back. -/
import Derived.Test.YtoodmjdafifbmaaDoorRepFit
namespace Go.Proofs.YtoodmjdafifbmaaDoor.Hand
open Go.RowKit
set_option linter.unusedVariables false
set_option linter.unusedSimpArgs false

theorem runG_fuel : ∀ (f f' : Nat) (l r : List Int), r.length < f → r.length < f' → runG f l r = runG f' l r
  | 0, _, _, _, h, _ => absurd h (by omega)
  | _ + 1, 0, _, _, _, h => absurd h (by omega)
  | f + 1, f' + 1, l, r, h, h' => by
    rw [runG, runG]
    cases doneKey l with
    | some x => rfl
    | none =>
      simp only []
      by_cases hr : r.length < 4
      · rw [if_pos hr, if_pos hr]
      · rw [if_neg hr, if_neg hr]
        have e := runG_fuel f f' (l ++ [num r 4]) (r.drop 4) (by rw [List.length_drop]; omega) (by rw [List.length_drop]; omega)
        rw [e]

/-- One number more, of bytes of which the first i are there. -/
theorem runG_step {f : Nat} {l : List Int} {n : Int} {r : List Int} (i : Nat) (h0 : 0 ≤ n) (h1 : n < 4294967296) (hd : doneKey l = none) (h2 : ¬ (l.length = 1 ∧ n ≠ 1))
    (h3 : ¬ (keysOf (l ++ [n]) = [] ∨ (keysOf (l ++ [n]) = [101] ∧ l.length = 4 ∧ ¬ (1 ≤ n ∧ n ≤ 7)))) (hi : 4 ≤ i) :
    runG (f + 1) l ((be n 4 ++ r).take i) = runG f (l ++ [n]) (r.take (i - 4)) := by
  have e1 : (be n 4 ++ r).take i = be n 4 ++ r.take (i - 4) := by rw [List.take_append, List.take_of_length_le (by rw [be_length]; omega), be_length]
  rw [e1]
  have e2 : num (be n 4 ++ r.take (i - 4)) 4 = n := num_be4 h0 h1 _
  rw [runG_on hd (by rw [List.length_append, be_length]; omega) (by rw [e2]; exact h2) (by rw [e2]; exact h3), e2]
  rw [List.drop_append_of_le_length (by rw [be_length]; omega), List.drop_of_length_le (by rw [be_length]; omega), List.nil_append]
theorem runG_less {f : Nat} {l r : List Int} {i : Nat} (hd : doneKey l = none) (hi : i < 4) : runG (f + 1) l (r.take i) = .no 4 := runG_short hd (by rw [List.length_take]; omega)

/-- Numbers that are read one behind the other, the last one at least of a row. -/
def goes : List Int → List Int → Prop
  | _, [] => True
  | l, n :: s => doneKey l = none ∧ ¬ (l.length = 1 ∧ n ≠ 1) ∧ ¬ (keysOf (l ++ [n]) = [] ∨ (keysOf (l ++ [n]) = [101] ∧ l.length = 4 ∧ ¬ (1 ≤ n ∧ n ≤ 7))) ∧ (0 ≤ n ∧ n < 4294967296) ∧ goes (l ++ [n]) s
theorem runG_goes {how : Int} (body : List Int) : ∀ (s l : List Int) (f i : Nat), goes l s → doneKey (l ++ s) = some how → s.length < f →
    runG f l ((rw4 s ++ body).take i) = if i < 4 * s.length then .no 4 else .ok how (l ++ s)
  | [], l, f, i, _, hd, hf => by
    obtain ⟨f, rfl⟩ : ∃ g, f = g + 1 := ⟨f - 1, by omega⟩
    rw [List.append_nil] at hd ⊢
    rw [runG_done hd, if_neg (by simp)]
  | n :: s, l, f, i, hg, hd, hf => by
    obtain ⟨f, rfl⟩ : ∃ g, f = g + 1 := ⟨f - 1, by omega⟩
    obtain ⟨h1, h2, h3, h4, h5⟩ := hg
    rw [List.length_cons] at hf ⊢
    by_cases hi : i < 4
    · rw [runG_less h1 hi, if_pos (by omega)]
    · have e : rw4 (n :: s) ++ body = be n 4 ++ (rw4 s ++ body) := by rw [rw4, List.append_assoc]
      have e2 : l ++ [n] ++ s = l ++ n :: s := by simp
      rw [e, runG_step i h4.1 h4.2 h1 h2 h3 (by omega), runG_goes body s (l ++ [n]) f (i - 4) h5 (by rw [e2]; exact hd) (by omega), e2]
      by_cases hq : i < 4 * (s.length + 1)
      · rw [if_pos hq, if_pos (by omega)]
      · rw [if_neg hq, if_neg (by omega)]

/-- The numbers of a reply. -/
def goodL (xid how low high : Int) : List Int := [xid, 1] ++ fixedOf how ++ [low, high].take (toldOf how).toNat
theorem goes_0 {xid low high : Int} (hx : 0 ≤ xid ∧ xid < 4294967296) (hl : 0 ≤ low ∧ low < 4294967296) (hh : 0 ≤ high ∧ high < 4294967296) : goes [] [xid, 1, 0, 0, 0, 0] := by
  refine ⟨(rfl : doneKey ([] : List Int) = none), by simp, ?_, hx, ?_⟩
  · have e : keysOf [xid] = [0, 1, 2, 3, 4, 100, 101] := rfl
    rintro (h | ⟨h, h2, h3⟩)
    · exact absurd (e.symm.trans h) (by decide)
    · exact absurd (e.symm.trans h) (by decide)
  refine ⟨(rfl : doneKey ([xid] : List Int) = none), by simp, ?_, by decide, ?_⟩
  · have e : keysOf [xid, 1] = [0, 1, 2, 3, 4, 100, 101] := rfl
    rintro (h | ⟨h, h2, h3⟩)
    · exact absurd (e.symm.trans h) (by decide)
    · exact absurd (e.symm.trans h) (by decide)
  refine ⟨(rfl : doneKey ([xid, 1] : List Int) = none), by simp, ?_, by decide, ?_⟩
  · have e : keysOf [xid, 1, 0] = [0, 1, 2, 3, 4] := rfl
    rintro (h | ⟨h, h2, h3⟩)
    · exact absurd (e.symm.trans h) (by decide)
    · exact absurd (e.symm.trans h) (by decide)
  refine ⟨(rfl : doneKey ([xid, 1, 0] : List Int) = none), by simp, ?_, by decide, ?_⟩
  · have e : keysOf [xid, 1, 0, 0] = [0, 1, 2, 3, 4] := rfl
    rintro (h | ⟨h, h2, h3⟩)
    · exact absurd (e.symm.trans h) (by decide)
    · exact absurd (e.symm.trans h) (by decide)
  refine ⟨(rfl : doneKey ([xid, 1, 0, 0] : List Int) = none), by simp, ?_, by decide, ?_⟩
  · have e : keysOf [xid, 1, 0, 0, 0] = [0, 1, 2, 3, 4] := rfl
    rintro (h | ⟨h, h2, h3⟩)
    · exact absurd (e.symm.trans h) (by decide)
    · exact absurd (e.symm.trans h) (by decide)
  refine ⟨(rfl : doneKey ([xid, 1, 0, 0, 0] : List Int) = none), by simp, ?_, by decide, ?_⟩
  · have e : keysOf [xid, 1, 0, 0, 0, 0] = [0] := rfl
    rintro (h | ⟨h, h2, h3⟩)
    · exact absurd (e.symm.trans h) (by decide)
    · exact absurd (e.symm.trans h) (by decide)
  exact trivial
theorem goes_1 {xid low high : Int} (hx : 0 ≤ xid ∧ xid < 4294967296) (hl : 0 ≤ low ∧ low < 4294967296) (hh : 0 ≤ high ∧ high < 4294967296) : goes [] [xid, 1, 0, 0, 0, 1] := by
  refine ⟨(rfl : doneKey ([] : List Int) = none), by simp, ?_, hx, ?_⟩
  · have e : keysOf [xid] = [0, 1, 2, 3, 4, 100, 101] := rfl
    rintro (h | ⟨h, h2, h3⟩)
    · exact absurd (e.symm.trans h) (by decide)
    · exact absurd (e.symm.trans h) (by decide)
  refine ⟨(rfl : doneKey ([xid] : List Int) = none), by simp, ?_, by decide, ?_⟩
  · have e : keysOf [xid, 1] = [0, 1, 2, 3, 4, 100, 101] := rfl
    rintro (h | ⟨h, h2, h3⟩)
    · exact absurd (e.symm.trans h) (by decide)
    · exact absurd (e.symm.trans h) (by decide)
  refine ⟨(rfl : doneKey ([xid, 1] : List Int) = none), by simp, ?_, by decide, ?_⟩
  · have e : keysOf [xid, 1, 0] = [0, 1, 2, 3, 4] := rfl
    rintro (h | ⟨h, h2, h3⟩)
    · exact absurd (e.symm.trans h) (by decide)
    · exact absurd (e.symm.trans h) (by decide)
  refine ⟨(rfl : doneKey ([xid, 1, 0] : List Int) = none), by simp, ?_, by decide, ?_⟩
  · have e : keysOf [xid, 1, 0, 0] = [0, 1, 2, 3, 4] := rfl
    rintro (h | ⟨h, h2, h3⟩)
    · exact absurd (e.symm.trans h) (by decide)
    · exact absurd (e.symm.trans h) (by decide)
  refine ⟨(rfl : doneKey ([xid, 1, 0, 0] : List Int) = none), by simp, ?_, by decide, ?_⟩
  · have e : keysOf [xid, 1, 0, 0, 0] = [0, 1, 2, 3, 4] := rfl
    rintro (h | ⟨h, h2, h3⟩)
    · exact absurd (e.symm.trans h) (by decide)
    · exact absurd (e.symm.trans h) (by decide)
  refine ⟨(rfl : doneKey ([xid, 1, 0, 0, 0] : List Int) = none), by simp, ?_, by decide, ?_⟩
  · have e : keysOf [xid, 1, 0, 0, 0, 1] = [1] := rfl
    rintro (h | ⟨h, h2, h3⟩)
    · exact absurd (e.symm.trans h) (by decide)
    · exact absurd (e.symm.trans h) (by decide)
  exact trivial
theorem goes_2 {xid low high : Int} (hx : 0 ≤ xid ∧ xid < 4294967296) (hl : 0 ≤ low ∧ low < 4294967296) (hh : 0 ≤ high ∧ high < 4294967296) : goes [] [xid, 1, 0, 0, 0, 2, low, high] := by
  refine ⟨(rfl : doneKey ([] : List Int) = none), by simp, ?_, hx, ?_⟩
  · have e : keysOf [xid] = [0, 1, 2, 3, 4, 100, 101] := rfl
    rintro (h | ⟨h, h2, h3⟩)
    · exact absurd (e.symm.trans h) (by decide)
    · exact absurd (e.symm.trans h) (by decide)
  refine ⟨(rfl : doneKey ([xid] : List Int) = none), by simp, ?_, by decide, ?_⟩
  · have e : keysOf [xid, 1] = [0, 1, 2, 3, 4, 100, 101] := rfl
    rintro (h | ⟨h, h2, h3⟩)
    · exact absurd (e.symm.trans h) (by decide)
    · exact absurd (e.symm.trans h) (by decide)
  refine ⟨(rfl : doneKey ([xid, 1] : List Int) = none), by simp, ?_, by decide, ?_⟩
  · have e : keysOf [xid, 1, 0] = [0, 1, 2, 3, 4] := rfl
    rintro (h | ⟨h, h2, h3⟩)
    · exact absurd (e.symm.trans h) (by decide)
    · exact absurd (e.symm.trans h) (by decide)
  refine ⟨(rfl : doneKey ([xid, 1, 0] : List Int) = none), by simp, ?_, by decide, ?_⟩
  · have e : keysOf [xid, 1, 0, 0] = [0, 1, 2, 3, 4] := rfl
    rintro (h | ⟨h, h2, h3⟩)
    · exact absurd (e.symm.trans h) (by decide)
    · exact absurd (e.symm.trans h) (by decide)
  refine ⟨(rfl : doneKey ([xid, 1, 0, 0] : List Int) = none), by simp, ?_, by decide, ?_⟩
  · have e : keysOf [xid, 1, 0, 0, 0] = [0, 1, 2, 3, 4] := rfl
    rintro (h | ⟨h, h2, h3⟩)
    · exact absurd (e.symm.trans h) (by decide)
    · exact absurd (e.symm.trans h) (by decide)
  refine ⟨(rfl : doneKey ([xid, 1, 0, 0, 0] : List Int) = none), by simp, ?_, by decide, ?_⟩
  · have e : keysOf [xid, 1, 0, 0, 0, 2] = [2] := rfl
    rintro (h | ⟨h, h2, h3⟩)
    · exact absurd (e.symm.trans h) (by decide)
    · exact absurd (e.symm.trans h) (by decide)
  refine ⟨(rfl : doneKey ([xid, 1, 0, 0, 0, 2] : List Int) = none), by simp, ?_, hl, ?_⟩
  · have e : keysOf [xid, 1, 0, 0, 0, 2, low] = [2] := rfl
    rintro (h | ⟨h, h2, h3⟩)
    · exact absurd (e.symm.trans h) (by decide)
    · exact absurd (e.symm.trans h) (by decide)
  refine ⟨(rfl : doneKey ([xid, 1, 0, 0, 0, 2, low] : List Int) = none), by simp, ?_, hh, ?_⟩
  · have e : keysOf [xid, 1, 0, 0, 0, 2, low, high] = [2] := rfl
    rintro (h | ⟨h, h2, h3⟩)
    · exact absurd (e.symm.trans h) (by decide)
    · exact absurd (e.symm.trans h) (by decide)
  exact trivial
theorem goes_3 {xid low high : Int} (hx : 0 ≤ xid ∧ xid < 4294967296) (hl : 0 ≤ low ∧ low < 4294967296) (hh : 0 ≤ high ∧ high < 4294967296) : goes [] [xid, 1, 0, 0, 0, 3] := by
  refine ⟨(rfl : doneKey ([] : List Int) = none), by simp, ?_, hx, ?_⟩
  · have e : keysOf [xid] = [0, 1, 2, 3, 4, 100, 101] := rfl
    rintro (h | ⟨h, h2, h3⟩)
    · exact absurd (e.symm.trans h) (by decide)
    · exact absurd (e.symm.trans h) (by decide)
  refine ⟨(rfl : doneKey ([xid] : List Int) = none), by simp, ?_, by decide, ?_⟩
  · have e : keysOf [xid, 1] = [0, 1, 2, 3, 4, 100, 101] := rfl
    rintro (h | ⟨h, h2, h3⟩)
    · exact absurd (e.symm.trans h) (by decide)
    · exact absurd (e.symm.trans h) (by decide)
  refine ⟨(rfl : doneKey ([xid, 1] : List Int) = none), by simp, ?_, by decide, ?_⟩
  · have e : keysOf [xid, 1, 0] = [0, 1, 2, 3, 4] := rfl
    rintro (h | ⟨h, h2, h3⟩)
    · exact absurd (e.symm.trans h) (by decide)
    · exact absurd (e.symm.trans h) (by decide)
  refine ⟨(rfl : doneKey ([xid, 1, 0] : List Int) = none), by simp, ?_, by decide, ?_⟩
  · have e : keysOf [xid, 1, 0, 0] = [0, 1, 2, 3, 4] := rfl
    rintro (h | ⟨h, h2, h3⟩)
    · exact absurd (e.symm.trans h) (by decide)
    · exact absurd (e.symm.trans h) (by decide)
  refine ⟨(rfl : doneKey ([xid, 1, 0, 0] : List Int) = none), by simp, ?_, by decide, ?_⟩
  · have e : keysOf [xid, 1, 0, 0, 0] = [0, 1, 2, 3, 4] := rfl
    rintro (h | ⟨h, h2, h3⟩)
    · exact absurd (e.symm.trans h) (by decide)
    · exact absurd (e.symm.trans h) (by decide)
  refine ⟨(rfl : doneKey ([xid, 1, 0, 0, 0] : List Int) = none), by simp, ?_, by decide, ?_⟩
  · have e : keysOf [xid, 1, 0, 0, 0, 3] = [3] := rfl
    rintro (h | ⟨h, h2, h3⟩)
    · exact absurd (e.symm.trans h) (by decide)
    · exact absurd (e.symm.trans h) (by decide)
  exact trivial
theorem goes_4 {xid low high : Int} (hx : 0 ≤ xid ∧ xid < 4294967296) (hl : 0 ≤ low ∧ low < 4294967296) (hh : 0 ≤ high ∧ high < 4294967296) : goes [] [xid, 1, 0, 0, 0, 4] := by
  refine ⟨(rfl : doneKey ([] : List Int) = none), by simp, ?_, hx, ?_⟩
  · have e : keysOf [xid] = [0, 1, 2, 3, 4, 100, 101] := rfl
    rintro (h | ⟨h, h2, h3⟩)
    · exact absurd (e.symm.trans h) (by decide)
    · exact absurd (e.symm.trans h) (by decide)
  refine ⟨(rfl : doneKey ([xid] : List Int) = none), by simp, ?_, by decide, ?_⟩
  · have e : keysOf [xid, 1] = [0, 1, 2, 3, 4, 100, 101] := rfl
    rintro (h | ⟨h, h2, h3⟩)
    · exact absurd (e.symm.trans h) (by decide)
    · exact absurd (e.symm.trans h) (by decide)
  refine ⟨(rfl : doneKey ([xid, 1] : List Int) = none), by simp, ?_, by decide, ?_⟩
  · have e : keysOf [xid, 1, 0] = [0, 1, 2, 3, 4] := rfl
    rintro (h | ⟨h, h2, h3⟩)
    · exact absurd (e.symm.trans h) (by decide)
    · exact absurd (e.symm.trans h) (by decide)
  refine ⟨(rfl : doneKey ([xid, 1, 0] : List Int) = none), by simp, ?_, by decide, ?_⟩
  · have e : keysOf [xid, 1, 0, 0] = [0, 1, 2, 3, 4] := rfl
    rintro (h | ⟨h, h2, h3⟩)
    · exact absurd (e.symm.trans h) (by decide)
    · exact absurd (e.symm.trans h) (by decide)
  refine ⟨(rfl : doneKey ([xid, 1, 0, 0] : List Int) = none), by simp, ?_, by decide, ?_⟩
  · have e : keysOf [xid, 1, 0, 0, 0] = [0, 1, 2, 3, 4] := rfl
    rintro (h | ⟨h, h2, h3⟩)
    · exact absurd (e.symm.trans h) (by decide)
    · exact absurd (e.symm.trans h) (by decide)
  refine ⟨(rfl : doneKey ([xid, 1, 0, 0, 0] : List Int) = none), by simp, ?_, by decide, ?_⟩
  · have e : keysOf [xid, 1, 0, 0, 0, 4] = [4] := rfl
    rintro (h | ⟨h, h2, h3⟩)
    · exact absurd (e.symm.trans h) (by decide)
    · exact absurd (e.symm.trans h) (by decide)
  exact trivial
theorem goes_100 {xid low high : Int} (hx : 0 ≤ xid ∧ xid < 4294967296) (hl : 0 ≤ low ∧ low < 4294967296) (hh : 0 ≤ high ∧ high < 4294967296) : goes [] [xid, 1, 1, 0, low, high] := by
  refine ⟨(rfl : doneKey ([] : List Int) = none), by simp, ?_, hx, ?_⟩
  · have e : keysOf [xid] = [0, 1, 2, 3, 4, 100, 101] := rfl
    rintro (h | ⟨h, h2, h3⟩)
    · exact absurd (e.symm.trans h) (by decide)
    · exact absurd (e.symm.trans h) (by decide)
  refine ⟨(rfl : doneKey ([xid] : List Int) = none), by simp, ?_, by decide, ?_⟩
  · have e : keysOf [xid, 1] = [0, 1, 2, 3, 4, 100, 101] := rfl
    rintro (h | ⟨h, h2, h3⟩)
    · exact absurd (e.symm.trans h) (by decide)
    · exact absurd (e.symm.trans h) (by decide)
  refine ⟨(rfl : doneKey ([xid, 1] : List Int) = none), by simp, ?_, by decide, ?_⟩
  · have e : keysOf [xid, 1, 1] = [100, 101] := rfl
    rintro (h | ⟨h, h2, h3⟩)
    · exact absurd (e.symm.trans h) (by decide)
    · exact absurd (e.symm.trans h) (by decide)
  refine ⟨(rfl : doneKey ([xid, 1, 1] : List Int) = none), by simp, ?_, by decide, ?_⟩
  · have e : keysOf [xid, 1, 1, 0] = [100] := rfl
    rintro (h | ⟨h, h2, h3⟩)
    · exact absurd (e.symm.trans h) (by decide)
    · exact absurd (e.symm.trans h) (by decide)
  refine ⟨(rfl : doneKey ([xid, 1, 1, 0] : List Int) = none), by simp, ?_, hl, ?_⟩
  · have e : keysOf [xid, 1, 1, 0, low] = [100] := rfl
    rintro (h | ⟨h, h2, h3⟩)
    · exact absurd (e.symm.trans h) (by decide)
    · exact absurd (e.symm.trans h) (by decide)
  refine ⟨(rfl : doneKey ([xid, 1, 1, 0, low] : List Int) = none), by simp, ?_, hh, ?_⟩
  · have e : keysOf [xid, 1, 1, 0, low, high] = [100] := rfl
    rintro (h | ⟨h, h2, h3⟩)
    · exact absurd (e.symm.trans h) (by decide)
    · exact absurd (e.symm.trans h) (by decide)
  exact trivial
theorem goes_101 {xid low high : Int} (hx : 0 ≤ xid ∧ xid < 4294967296) (hl : 0 ≤ low ∧ low < 4294967296) (hh : 0 ≤ high ∧ high < 4294967296) (hw : 1 ≤ low ∧ low ≤ 7) : goes [] [xid, 1, 1, 1, low] := by
  refine ⟨(rfl : doneKey ([] : List Int) = none), by simp, ?_, hx, ?_⟩
  · have e : keysOf [xid] = [0, 1, 2, 3, 4, 100, 101] := rfl
    rintro (h | ⟨h, h2, h3⟩)
    · exact absurd (e.symm.trans h) (by decide)
    · exact absurd (e.symm.trans h) (by decide)
  refine ⟨(rfl : doneKey ([xid] : List Int) = none), by simp, ?_, by decide, ?_⟩
  · have e : keysOf [xid, 1] = [0, 1, 2, 3, 4, 100, 101] := rfl
    rintro (h | ⟨h, h2, h3⟩)
    · exact absurd (e.symm.trans h) (by decide)
    · exact absurd (e.symm.trans h) (by decide)
  refine ⟨(rfl : doneKey ([xid, 1] : List Int) = none), by simp, ?_, by decide, ?_⟩
  · have e : keysOf [xid, 1, 1] = [100, 101] := rfl
    rintro (h | ⟨h, h2, h3⟩)
    · exact absurd (e.symm.trans h) (by decide)
    · exact absurd (e.symm.trans h) (by decide)
  refine ⟨(rfl : doneKey ([xid, 1, 1] : List Int) = none), by simp, ?_, by decide, ?_⟩
  · have e : keysOf [xid, 1, 1, 1] = [101] := rfl
    rintro (h | ⟨h, h2, h3⟩)
    · exact absurd (e.symm.trans h) (by decide)
    · exact absurd h2 (by simp)
  refine ⟨(rfl : doneKey ([xid, 1, 1, 1] : List Int) = none), by simp, ?_, hl, ?_⟩
  · have e : keysOf [xid, 1, 1, 1, low] = [101] := rfl
    rintro (h | ⟨h, h2, h3⟩)
    · exact absurd (e.symm.trans h) (by decide)
    · exact h3 hw
  exact trivial
theorem goes_good {xid how low high : Int} (hk : how ∈ keysL) (hx : 0 ≤ xid ∧ xid < 4294967296) (hl : 0 ≤ low ∧ low < 4294967296) (hh : 0 ≤ high ∧ high < 4294967296) (hw : how = 101 → 1 ≤ low ∧ low ≤ 7) : goes [] (goodL xid how low high) ∧ doneKey (goodL xid how low high) = some how := by
  simp only [keysL, List.mem_cons, List.not_mem_nil, or_false] at hk
  rcases hk with h | h | h | h | h | h | h <;> subst h
  · exact ⟨goes_0 hx hl hh, rfl⟩
  · exact ⟨goes_1 hx hl hh, rfl⟩
  · exact ⟨goes_2 hx hl hh, rfl⟩
  · exact ⟨goes_3 hx hl hh, rfl⟩
  · exact ⟨goes_4 hx hl hh, rfl⟩
  · exact ⟨goes_100 hx hl hh, rfl⟩
  · exact ⟨goes_101 hx hl hh (hw rfl), rfl⟩
theorem got_back {xid how low high : Int} (hk : how ∈ keysL) (hx : 0 ≤ xid ∧ xid < 4294967296) (hl : 0 ≤ low ∧ low < 4294967296) (hh : 0 ≤ high ∧ high < 4294967296) (hw : how = 101 → 1 ≤ low ∧ low ≤ 7) (body : List Int) (i : Nat) :
    runG (((rw4 (goodL xid how low high) ++ body).take i).length + 1) [] ((rw4 (goodL xid how low high) ++ body).take i) = if i < 4 * (goodL xid how low high).length then .no 4 else .ok how (goodL xid how low high) := by
  obtain ⟨h1, h2⟩ := goes_good hk hx hl hh hw
  rw [runG_fuel _ (((rw4 (goodL xid how low high) ++ body).take i).length + (goodL xid how low high).length + 1) _ _ (by omega) (by omega)]
  have h := runG_goes body (goodL xid how low high) [] (((rw4 (goodL xid how low high) ++ body).take i).length + (goodL xid how low high).length + 1) i h1 (by rw [List.nil_append]; exact h2) (by omega)
  rw [List.nil_append] at h
  exact h

/-! ### what is got -/
/-- What holds of the numbers that have been read. -/
def seen (l : List Int) : Prop := U4 l ∧ (2 ≤ l.length → nth l 1 = 1) ∧ (l.length = 5 → keysOf l = [101] → 1 ≤ nth l 4 ∧ nth l 4 ≤ 7)
theorem seen_nil : seen [] := ⟨fun x hx => (by cases hx), fun h => absurd h (by simp), fun h => absurd h (by simp)⟩
theorem nth_snoc (l : List Int) (n : Int) : nth (l ++ [n]) l.length = n := by rw [nth_append_right _ _ _ (Nat.le_refl _), Nat.sub_self]; rfl
theorem seen_snoc {l : List Int} {n : Int} (h : seen l) (hn : 0 ≤ n ∧ n < 4294967296) (h2 : ¬ (l.length = 1 ∧ n ≠ 1)) (h3 : ¬ (keysOf (l ++ [n]) = [] ∨ (keysOf (l ++ [n]) = [101] ∧ l.length = 4 ∧ ¬ (1 ≤ n ∧ n ≤ 7)))) : seen (l ++ [n]) := by
  refine ⟨fun x hx => ?_, fun hl => ?_, fun hl hk => ?_⟩
  · rcases List.mem_append.1 hx with hx | hx
    · exact h.1 x hx
    · obtain rfl : x = n := by simpa using hx
      exact hn
  · rw [List.length_append, List.length_singleton] at hl
    by_cases h1 : l.length = 1
    · have hn1 : n = 1 := Classical.byContradiction fun hh => h2 ⟨h1, hh⟩
      have := nth_snoc l n
      rw [h1] at this
      rw [this, hn1]
    · rw [nth_append_left _ _ _ (by omega)]
      exact h.2.1 (by omega)
  · rw [List.length_append, List.length_singleton] at hl
    have h4 : l.length = 4 := by omega
    have hw : 1 ≤ n ∧ n ≤ 7 := Classical.byContradiction fun hh => h3 (.inr ⟨hk, h4, hh⟩)
    have := nth_snoc l n
    rw [h4] at this
    rw [this]
    exact hw
theorem runG_ok : ∀ (f : Nat) (l r : List Int) (how : Int) (l' : List Int), Bs r → seen l → runG f l r = .ok how l' →
    seen l' ∧ doneKey l' = some how ∧ ∃ s, l' = l ++ s ∧ rw4 s = r.take (4 * s.length) ∧ 4 * s.length ≤ r.length
  | 0, _, _, _, _, _, _, h => by cases h
  | f + 1, l, r, how, l', hb, hs, h => by
    cases hd : doneKey l with
    | some x =>
      rw [runG_done hd] at h
      cases h
      exact ⟨hs, hd, [], by simp, rfl, by simp⟩
    | none =>
      by_cases hr : r.length < 4
      · rw [runG_short hd hr] at h; cases h
      · by_cases h2 : l.length = 1 ∧ num r 4 ≠ 1
        · rw [runG_two hd hr h2] at h; cases h
        · by_cases h3 : keysOf (l ++ [num r 4]) = [] ∨ (keysOf (l ++ [num r 4]) = [101] ∧ l.length = 4 ∧ ¬ (1 ≤ num r 4 ∧ num r 4 ≤ 7))
          · rw [runG_none hd hr h2 h3] at h; cases h
          · rw [runG_on hd hr h2 h3] at h
            obtain ⟨g1, g2, s, g3, g4, g5⟩ := runG_ok f _ _ how l' (hb.drop 4) (seen_snoc hs (num4 hb) h2 h3) h
            refine ⟨g1, g2, num r 4 :: s, by rw [g3]; simp, ?_, ?_⟩
            · rw [rw4, g4, be_num4 hb (by omega), List.length_cons, Nat.mul_add, Nat.add_comm (4 * s.length) (4 * 1), Nat.mul_one, List.take_add]
            · rw [List.length_cons]; rw [List.length_drop] at g5; omega
theorem runG_no : ∀ (f : Nat) (l r : List Int) (k : Int), runG f l r = .no k → k = 4 ∨ k = 5
  | 0, _, _, k, h => by cases h; exact .inl rfl
  | f + 1, l, r, k, h => by
    cases hd : doneKey l with
    | some x => rw [runG_done hd] at h; cases h
    | none =>
      by_cases hr : r.length < 4
      · rw [runG_short hd hr] at h; cases h; exact .inl rfl
      · by_cases h2 : l.length = 1 ∧ num r 4 ≠ 1
        · rw [runG_two hd hr h2] at h; cases h; exact .inr rfl
        · by_cases h3 : keysOf (l ++ [num r 4]) = [] ∨ (keysOf (l ++ [num r 4]) = [101] ∧ l.length = 4 ∧ ¬ (1 ≤ num r 4 ∧ num r 4 ≤ 7))
          · rw [runG_none hd hr h2 h3] at h; cases h; exact .inr rfl
          · rw [runG_on hd hr h2 h3] at h
            exact runG_no f _ _ k h
end Go.Proofs.YtoodmjdafifbmaaDoor.Hand
