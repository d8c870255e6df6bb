/- The statement MarksOne, walked: the first of all messages is the one that is got, and the others those of the bytes behind it. -/
import Derived.Test.YtjmganppgojdhaaMsgs
import Derived.Test.YtjmganppgojdhaaMarksLaws
import Derived.Test.YtjmganppgojdhaaAlive04
namespace Go.Proofs.Ytjmganppgojdhaa.Hand
open Go.RowKit
set_option linter.unusedVariables false
set_option linter.unusedSimpArgs false

set_option maxRecDepth 100000 in
set_option maxHeartbeats 4000000 in
theorem MarksOne_walk (A : Option Addr) (c : Nat) (l : List Int) (w : World) (hr : Rd w A l) (hc : l.length ≤ c) (hsz : l.length ≤ 140737488351232) :
    Calls Try.prog 7 #[.slice A l.length c] w fun e w' => e = .returned (.bool true) ∧ Below w.heap.size w w' := by
  go_enter Try.func7, Try.ntmps7
  go_wp2_with fail
  refine (alive04 w).mono ?_
  rintro e w1 ⟨rfl, hB⟩
  have HZ := Lib.hid hsz
  clear hsz
  by_cases hm : 100000 < (l.length : Int)
  · go_wp2_with fail
    refine (alive04 w1).mono ?_
    rintro e w2 ⟨rfl, hB2⟩
    have hB := below_then hB hB2
    clear hB2
    go_wp2
    go_ret
    exact ⟨rfl, hB⟩
  · have hl : l.length ≤ 100000 := by omega
    have HL := Lib.hid hl
    clear hl
    have hrw := hr.below hB
    by_cases he : (get1 l).2.2 = 0
    · have hf := get1_fits he
      have hall := mall_ok he
      obtain ⟨m, n, hmn⟩ : ∃ m n, get1 l = (m, n, 0) := ⟨(get1 l).1, (get1 l).2.1, by rw [← he]⟩
      have hj := mall_fits (l.drop n)
      have hcnt := mall_count (l.drop n)
      have heach := mall_each (l.drop n)
      rw [List.length_drop] at hj hcnt
      rw [hmn] at hf hall
      obtain ⟨xs, j, f, hx⟩ : ∃ xs j f, mall (l.drop n) = (xs, j, f) := ⟨_, _, _, rfl⟩
      simp only at hf hall
      have hx0 := hx
      rw [hx] at hall hj hcnt heach
      simp only at hall hj hcnt heach
      have hml : m.length ≤ 65536 := by
        have := mget_len (l.length + 1) l [] 0 he (by simp)
        rw [show mget (l.length + 1) l [] 0 = (m, n, 0) from hmn] at this
        exact this
      have g1 := mget_v (N := (n : Int)) hrw rfl hc HZ.out hmn rfl
      have hB0 := hB
      have hn4 : ¬ (n : Int) < 4 := by omega
      have hnl : (n : Int) ≤ (l.length : Int) := by omega
      have hnl2 : ¬ (l.length : Int) < (n : Int) := by omega
      have hlc : (l.length : Int) ≤ (c : Int) := by omega
      have hwn : wrap64 ((n : Int) + (j : Int)) = (n : Int) + (j : Int) := by have := HL.out; unfold wrap64; omega
      have HX := Lib.hid hx
      have HJ := Lib.hid hj
      have HF := Lib.hid hf
      have HE := Lib.hid heach
      have HC := Lib.hid hcnt
      have HM := Lib.hid hml
      have HA := Lib.hid hall
      clear hx hj hf heach hcnt hml hall hx0 hmn he
      go_wp2_with fail
      refine g1.mono ?_
      rintro e w2 ⟨v2, rfl, o2, hx⟩
      have hB := below_then hB hx
      have g2 := mall_v (N := (n : Int) + (j : Int)) (hr.below hB) rfl hc (by have := HL.out; omega) HA.out (by simp)
      clear hx g1 hrw
      go_wp2_with fail
      refine g2.mono ?_
      rintro e w3 ⟨v3, rfl, o3, hx⟩
      have o2 := o2.below hx
      have hB := below_then hB hx
      clear hx g2
      obtain ⟨b3, c3, rfl, hc3, _, r3⟩ := o3.form0 (by simp)
      obtain ⟨A2, c2, rfl, hc2, _, r2⟩ := o2.form
      obtain ⟨B4, c4, k4, hc4, r4⟩ := r3.first
      rw [List.length_cons]
      rw [List.length_cons] at hc3
      clear o2 o3
      have sm := same_yes (c := c4) (d := c2) r4 r2 rfl rfl rfl (by have := HM.out; omega)
      have hq : (((xs.length : Nat) : Int) + 1 == 0) = false := by rw [beq_eq_false_iff_ne]; omega
      have hq1 : ¬ ((xs.length : Nat) : Int) + 1 = 0 := by omega
      have hq3 : ¬ l.length < n := by omega
      have hq4 : ¬ n < 4 := by omega
      have hq2 : (0 : Int) < ((xs.length + 1 : Nat) : Int) := by omega
      go_wp2_with fail
      refine sm.mono ?_
      rintro e w4 ⟨rfl, nx, hx0⟩
      have hx := below_drawn hx0
      clear hx0
      have hB := below_then hB hx
      have r3 := r3.below hx
      clear hx sm k4 r4 r2
      by_cases hcn : c = n
      · subst hcn
        have g3 := mall_v (c := 0) (k := 0) (N := (j : Int)) (by have := (hr.below hB).drop c c hc; rw [if_pos rfl] at this; exact this) (by rw [List.length_drop]; omega) (by omega) (by have := HL.out; omega) HX.out rfl
        go_wp2_with fail
        refine g3.mono ?_
        rintro e w5 ⟨v5, rfl, o5, hx⟩
        have hB := below_then hB hx
        have r3 := r3.below hx
        clear hx g3
        obtain ⟨A5, c5, rfl, hc5, _, r5⟩ := o5.formL
        clear o5 hB0 hr
        have r3 := r3.drop 1 c3 (by rw [List.length_cons]; exact hc3)
        rw [List.drop_succ_cons, List.drop_zero] at r3
        have sm := fun (ad : Option Addr) (d : Nat) (h : RdL w5 ad xs) => sameMsgs ad A5 d c5 xs xs w5 h r5 (by have := HC.out; have := HL.out; omega) (fun x hx => by have := HE.out x hx; omega)
        rw [decide_eq_true rfl] at sm
        have SM := Lib.hid sm
        have R3 := Lib.hid r3
        clear sm r3 r5
        go_wp2_with fail
        all_goals
          refine (SM.out _ _ (by have := R3.out; split at this <;> first | exact this | omega | (exfalso; simp_all; done))).mono ?_
          rintro e w6 ⟨rfl, hx⟩
          have hB := below_then hB hx
          clear hx SM R3
          go_wp2
          go_ret
          exact ⟨rfl, hB⟩
      · have g3 := mall_v (c := c - n) (k := l.length - n) (N := (j : Int)) (by have := (hr.below hB).drop n c hc; rw [if_neg hcn] at this; exact this) List.length_drop (by omega) (by have := HL.out; omega) HX.out rfl
        go_wp2_with fail
        refine g3.mono ?_
        rintro e w5 ⟨v5, rfl, o5, hx⟩
        have hB := below_then hB hx
        have r3 := r3.below hx
        clear hx g3
        obtain ⟨A5, c5, rfl, hc5, _, r5⟩ := o5.formL
        clear o5 hB0 hr
        have r3 := r3.drop 1 c3 (by rw [List.length_cons]; exact hc3)
        rw [List.drop_succ_cons, List.drop_zero] at r3
        have sm := fun (ad : Option Addr) (d : Nat) (h : RdL w5 ad xs) => sameMsgs ad A5 d c5 xs xs w5 h r5 (by have := HC.out; have := HL.out; omega) (fun x hx => by have := HE.out x hx; omega)
        rw [decide_eq_true rfl] at sm
        have SM := Lib.hid sm
        have R3 := Lib.hid r3
        clear sm r3 r5
        go_wp2_with fail
        all_goals
          refine (SM.out _ _ (by have := R3.out; split at this <;> first | exact this | omega | (exfalso; simp_all; done))).mono ?_
          rintro e w6 ⟨rfl, hx⟩
          have hB := below_then hB hx
          clear hx SM R3
          go_wp2
          go_ret
          exact ⟨rfl, hB⟩
    · have hall := mall_no he
      have her := mget_err (l.length + 1) l [] 0 he
      obtain ⟨er, hmn⟩ : ∃ er, get1 l = ([], 0, er) := ⟨(get1 l).2.2, by
        have h1 : (get1 l).1 = [] := her.1
        have h2 : (get1 l).2.1 = 0 := her.2
        rw [← h1, ← h2]⟩
      rw [hmn] at hall he
      simp only at hall he
      have g1 := mget_v (N := 0) hrw rfl hc HZ.out hmn rfl
      have hq : (er != 0) = true := by rw [bne_iff_ne]; exact he
      clear her hmn
      go_wp2_with fail
      refine g1.mono ?_
      rintro e w2 ⟨v2, rfl, o2, hx⟩
      have hB := below_then hB hx
      have g2 := mall_v (N := 0) (hr.below hB) rfl hc (by have := HL.out; omega) hall rfl
      clear hx g1 hrw hall
      by_cases h4 : er = 4
      · rw [if_pos h4] at g2
        subst h4
        go_wp2_with fail
        refine g2.mono ?_
        rintro e w3 ⟨v3, rfl, o3, hx⟩
        have o2 := o2.below hx
        have hB := below_then hB hx
        clear hx g2
        obtain ⟨A3, c3, rfl, hc3, _, r3⟩ := o3.formL
        obtain ⟨A2, c2, rfl, hc2, _, r2⟩ := o2.form
        clear o2 o3 r2 r3
        go_wp2
        go_ret
        exact ⟨rfl, hB⟩
      · rw [if_neg h4] at g2
        go_wp2_with fail
        refine g2.mono ?_
        rintro e w3 ⟨v3, rfl, o3, hx⟩
        have o2 := o2.below hx
        have hB := below_then hB hx
        clear hx g2
        obtain ⟨A3, c3, rfl, hc3, _, r3⟩ := o3.formL
        obtain ⟨A2, c2, rfl, hc2, _, r2⟩ := o2.form
        clear o2 o3 r2 r3
        go_wp2
        go_ret
        exact ⟨rfl, hB⟩
end Go.Proofs.Ytjmganppgojdhaa.Hand
