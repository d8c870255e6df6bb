/- What marks.fragment (behind nothing) and marks.Put hand back. -/
import Derived.Test.YtgkbfmbdpkkhnaaDoorCat
import Derived.Test.YtgkbfmbdpkkhnaaDoorPuts
namespace Go.Proofs.YtgkbfmbdpkkhnaaDoor.Hand
open Go.RowKit
set_option linter.unusedVariables false
set_option linter.unusedSimpArgs false

theorem orMark {n : Nat} {k : Int} (hn : n ≤ 65536) (hk : k = 0 ∨ k = 2147483648) : Go.bits .or .u32 (n : Int) k = (n : Int) + k := by
  rcases hk with rfl | rfl
  · have e := Go.u32_or_nat n 0 (by omega) (by decide)
    rw [show ((0 : Nat) : Int) = 0 from rfl] at e
    rw [e, Nat.or_zero]
    omega
  · have e := Go.u32_or_nat n 2147483648 (by omega) (by decide)
    rw [show ((2147483648 : Nat) : Int) = 2147483648 from rfl] at e
    have h : n ||| 2147483648 = 2147483648 + n := by
      rw [Nat.or_comm]
      exact (Nat.two_pow_add_eq_or_of_lt (i := 31) (by omega) 1).symm
    rw [e, h]
    omega

set_option maxRecDepth 100000 in
set_option maxHeartbeats 2000000 in
theorem fragment (A : Option Addr) (c : Nat) (l : List Int) (k : Int) (w : World) (hr : Rd w A l) (hc : l.length ≤ c) (hn : l.length ≤ 65536) (hk : k = 0 ∨ k = 2147483648) :
    Calls Tryd.prog 67 #[.slice none 0 0, .slice A l.length c, .int .u32 k] w fun e w' => ∃ v, e = .returned v ∧ Own w' w.heap.size v (be ((l.length : Int) + k) 4 ++ l) ∧ Below w.heap.size w w' := by
  have ho := orMark hn hk
  have b0 : 0 ≤ (l.length : Int) + k := by omega
  have b1 : (l.length : Int) + k < 4294967296 := by omega
  go_enter Tryd.func67, Tryd.ntmps67
  go_wp2_with fail
  refine (Put _ b0 b1 w).mono ?_
  rintro e w1 ⟨v1, rfl, o1, hB⟩
  have hr := hr.below hB
  obtain ⟨A1, d1, rfl, _, _, r1⟩ := o1.form
  clear o1
  rw [be_length]
  have hcat := concat [(none, 0, []), (A1, d1, be ((l.length : Int) + k) 4), (A, c, l)] ⟨w1.heap.size, 0, none⟩ 3 (w1.alloc (.cells #[.slice none 0 0, .slice A1 4 d1, .slice A l.length c] 24))
    (by
      intro k hk
      rw [add_plain, cell_of_row _ _ _ _ _ _ (heap_alloc_new w1 _)]
      match k, hk with
      | 0, _ => rfl
      | 1, _ => simp [pv, be_length]
      | 2, _ => rfl)
    (by
      intro k hk
      match k, hk with
      | 0, _ => exact Rd.nil _ _
      | 1, _ => exact r1.alloc _
      | 2, _ => exact hr.alloc _)
    (by simp [flat, be_length]; omega) (by simp)
  rw [show flat [(none, 0, []), (A1, d1, be ((l.length : Int) + k) 4), (A, c, l)] = be ((l.length : Int) + k) 4 ++ l from by simp [flat]] at hcat
  have hB := hB.alloc hB.size (.cells #[.slice none 0 0, .slice A1 4 d1, .slice A l.length c] 24)
  clear r1 hr
  go_wp2_with fail
  refine hcat.mono ?_
  rintro e w2 ⟨v2, rfl, o2, hx⟩
  have o2 := o2.lower hB.size
  have hB := below_then hB hx
  clear hx hcat
  go_wp2
  go_ret
  exact ⟨_, rfl, o2, hB⟩

set_option maxRecDepth 100000 in
set_option maxHeartbeats 2000000 in
theorem marksPut (A : Option Addr) (c : Nat) (l : List Int) (w : World) (hr : Rd w A l) (hc : l.length ≤ c) (hn : l.length ≤ 65536) :
    Calls Tryd.prog 31 #[.slice A l.length c] w fun e w' => ∃ v, e = .returned (.tuple #[v, .int .i64 0]) ∧ Own w' w.heap.size v (be ((l.length : Int) + 2147483648) 4 ++ l) ∧ Below w.heap.size w w' := by
  have t1 : ¬ 65536 < (l.length : Int) := by omega
  go_enter Tryd.func31, Tryd.ntmps31
  go_wp2_with fail
  refine (fragment A c l 2147483648 w hr hc hn (Or.inr rfl)).mono ?_
  rintro e w1 ⟨v, rfl, ho, hB⟩
  go_wp2
  go_ret2
  exact ⟨v, rfl, ho, hB⟩
end Go.Proofs.YtgkbfmbdpkkhnaaDoor.Hand
