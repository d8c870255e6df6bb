/- The statement MarksOn, walked: more bytes only make more messages: those that were got stay, in order; an error stays, too. -/
import Derived.Test.YtjmganppgojdhaaMsgs
import Derived.Test.YtjmganppgojdhaaMarksMore
import Derived.Test.YtjmganppgojdhaaAlive04
namespace Go.Proofs.Ytjmganppgojdhaa.Hand
open Go.RowKit
set_option linter.unusedVariables false
set_option linter.unusedSimpArgs false

set_option maxRecDepth 100000 in
set_option maxHeartbeats 4000000 in
theorem MarksOn_walk (A : Option Addr) (c : Nat) (l : List Int) (B : Option Addr) (d : Nat) (x : List Int) (w : World) (hr : Rd w A l) (hc : l.length ≤ c) (hsz : l.length ≤ 140737488351232) (hs : Rd w B x) (hd : x.length ≤ d) (hsx : x.length ≤ 140737488351232) :
    Calls Try.prog 6 #[.slice A l.length c, .slice B x.length d] w fun e w' => e = .returned (.bool true) ∧ Below w.heap.size w w' := by
  go_enter Try.func6, Try.ntmps6
  go_wp2_with fail
  refine (alive04 w).mono ?_
  rintro e w1 ⟨rfl, hB⟩
  have HZ := Lib.hid hsz
  have HX := Lib.hid hsx
  clear hsz hsx
  by_cases hm : 100000 < (l.length : Int) ∨ 100000 < (x.length : Int)
  · by_cases hm1 : 100000 < (l.length : Int)
    · clear hm
      go_wp2_with fail
      refine (alive04 w1).mono ?_
      rintro e w2 ⟨rfl, hB2⟩
      have hB := below_then hB hB2
      clear hB2
      go_wp2
      go_ret
      exact ⟨rfl, hB⟩
    · have hm2 : 100000 < (x.length : Int) := by omega
      clear hm
      go_wp2_with fail
      refine (alive04 w1).mono ?_
      rintro e w2 ⟨rfl, hB2⟩
      have hB := below_then hB hB2
      clear hB2
      go_wp2
      go_ret
      exact ⟨rfl, hB⟩
  · have hm1 : ¬ 100000 < (l.length : Int) := by omega
    have hm2 : ¬ 100000 < (x.length : Int) := by omega
    clear hm
    have hl : l.length ≤ 100000 := by omega
    have hxl : x.length ≤ 100000 := by omega
    obtain ⟨h1, h2, h3⟩ := mall_more l x
    have hn := mall_fits l
    have hcx := mall_count l
    have hcy := mall_count (l ++ x)
    have hex := mall_each l
    obtain ⟨xs, n, er, hxs⟩ : ∃ xs n er, mall l = (xs, n, er) := ⟨_, _, _, rfl⟩
    obtain ⟨ys, k, f, hys⟩ : ∃ ys k f, mall (l ++ x) = (ys, k, f) := ⟨_, _, _, rfl⟩
    have g1 := mall_v (N := (n : Int)) (hr.below hB) rfl hc (by omega) hxs rfl
    rw [hxs] at h1 h2 h3 hn hcx hex
    rw [hys] at h1 h2 h3 hcy
    rw [List.length_append] at hcy
    simp only at h1 h2 h3 hn hcx hcy hex
    have HL := Lib.hid hl
    have HXL := Lib.hid hxl
    have HN := Lib.hid hn
    have H1 := Lib.hid h1
    have H3 := Lib.hid h3
    have HCX := Lib.hid hcx
    have HCY := Lib.hid hcy
    have HEX := Lib.hid hex
    have HYS := Lib.hid hys
    have hpl : xs.length ≤ ys.length := h1.length_le
    clear hl hxl hn h1 h3 hcx hcy hex hxs hys
    go_wp2_with fail
    refine g1.mono ?_
    rintro e w2 ⟨v2, rfl, o2, hx⟩
    have hB := below_then hB hx
    clear hx g1
    have hrl := hr.below hB
    have hrx := hs.below hB
    have hBs := hB.size
    go_wp2_with (at_builtin; refine wpList_app rfl _ _ rfl rfl _ w2.heap.size (.slice none 0 0) [] rfl (Own.nil _ _) A c l rfl hrl ?h1 (Nat.le_refl _) ?h2)
    case h1 => have := HL.out; simp; omega
    case h2 =>
      intro v3 w3 o3 hg3 _
      have hB3 := (Own.nil w2 w2.heap.size).grown (Below.refl _ w2) (Nat.le_refl _) hg3
      have hrx := hrx.below hB3
      clear hg3
      go_wp2_with (at_builtin; refine wpList_app rfl _ _ rfl rfl _ w2.heap.size v3 l rfl o3 B d x rfl hrx ?h3 hB3.size ?h4)
      case h3 => have := HL.out; have := HXL.out; omega
      case h4 =>
        intro v4 w4 o4 hg4 _
        have hB4 := o3.grown hB3 hB3.size hg4
        have hB := below_then hB hB4
        have o2 := o2.below hB4
        obtain ⟨A4, c4, rfl, hc4, _, r4⟩ := o4.form
        rw [List.length_append] at hc4 ⊢
        clear hg4 o3 hB3 hB4 hrx hrl o4
        have g2 := mall_v (N := (k : Int)) (k := l.length + x.length) r4 (List.length_append) hc4 (by have := HL.out; have := HXL.out; omega) HYS.out rfl
        go_wp2_with fail
        refine g2.mono ?_
        rintro e w5 ⟨v5, rfl, o5, hx⟩
        have hB := below_then hB hx
        have o2 := o2.below hx
        clear hx g2 r4
        obtain ⟨A5, c5, rfl, hc5, _, r5⟩ := o5.formL
        obtain ⟨A2, c2, rfl, hc2, _, r2⟩ := o2.formL
        have r5 := r5.take xs.length
        rw [← (List.prefix_iff_eq_take.1 H1.out)] at r5
        have sm := sameMsgs A5 A2 c5 c2 xs xs w5 r5 r2 (by have := HCX.out; have := HL.out; omega) (fun z hz => by have := HEX.out z hz; omega)
        rw [decide_eq_true rfl] at sm
        clear o2 o5 r5 r2 hr hs
        have hq1 : (xs.length : Int) ≤ (ys.length : Int) := by omega
        have hq2 : ¬ (ys.length : Int) < (xs.length : Int) := by omega
        have hq3 : (xs.length : Int) ≤ (c5 : Int) := by omega
        have hq4 : ¬ (k : Int) < (n : Int) := by omega
        have hq5 : ¬ (l.length : Int) < (n : Int) := by have := HN.out; omega
        have hq6 : ¬ k < n := by omega
        have hq7 : ¬ l.length < n := by have := HN.out; omega
        have hq8 : ¬ ys.length < xs.length := by omega
        go_wp2_with fail
        refine sm.mono ?_
        rintro e w6 ⟨rfl, hx⟩
        have hB := below_then hB hx
        clear hx sm
        by_cases he : er = 0
        · subst he
          go_wp2
          go_ret
          exact ⟨rfl, hB⟩
        · have h3 := H3.out he
          have hq9 : (er == 0) = false := by rw [beq_eq_false_iff_ne]; exact he
          injection h3 with e1 e2
          injection e2 with e2 e3
          have E1 := Lib.hid e1
          subst e2 e3
          have e4 : ys.length = xs.length := by rw [e1]
          subst e1
          clear E1
          go_wp2
          go_ret
          exact ⟨rfl, hB⟩
end Go.Proofs.Ytjmganppgojdhaa.Hand
