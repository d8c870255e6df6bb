/- The statement MarksBack, walked: however a message is cut, it is got, as many bytes, whatever stands behind it; of fewer bytes none is. -/
import Derived.Test.YtjmganppgojdhaaHelp
import Derived.Test.YtjmganppgojdhaaMarksBackLaw
import Derived.Test.YtjmganppgojdhaaAlive04
namespace Go.Proofs.Ytjmganppgojdhaa.Hand
open Go.RowKit
set_option linter.unusedVariables false
set_option linter.unusedSimpArgs false

set_option maxRecDepth 100000 in
set_option maxHeartbeats 4000000 in
theorem MarksBack_walk (A : Option Addr) (c : Nat) (l : List Int) (x0 x1 : Int) (B : Option Addr) (d : Nat) (r : List Int) (w : World) (hr : Rd w A l) (hc : l.length ≤ c) (hsz : l.length ≤ 140737488351232)
    (h0 : 0 ≤ x0) (h0' : x0 < 65536) (h1 : 0 ≤ x1) (h1' : x1 < 65536) (hs : Rd w B r) (hd : r.length ≤ d) (hsr : r.length ≤ 140737488351232) :
    Calls Try.prog 4 #[.slice A l.length c, .agg #[.int .u16 x0, .int .u16 x1], .slice B r.length d] w fun e w' => e = .returned (.bool true) ∧ Below w.heap.size w w' := by
  have Bx := Blk.new w 35 #[.int .u16 x0, .int .u16 x1]
  have hB : Below w.heap.size w (w.alloc (.cells #[.int .u16 x0, .int .u16 x1] 35)) := (Below.refl _ _).alloc (Nat.le_refl _) _
  have HZ := Lib.hid hsz
  have HR := Lib.hid hsr
  clear hsz hsr
  go_enter Try.func4, Try.ntmps4
  go_wp2_with fail
  refine (alive04 _).mono ?_
  rintro e w1 ⟨rfl, hx⟩
  have Bx := Bx.below hx
  have hB := below_then hB hx
  clear hx
  by_cases hm1 : 65536 < (l.length : Int)
  · go_wp2_with fail
    refine (alive04 w1).mono ?_
    rintro e w2 ⟨rfl, hx⟩
    have hB := below_then hB hx
    clear hx
    go_wp2
    go_ret
    exact ⟨rfl, hB⟩
  · have H1 := beyond1 r.length 1 (w1.alloc (.cells #[.int .i64 r.length] 3)) w1.heap.size (by rw [cell_of_row _ _ _ _ _ _ (heap_alloc_new w1 _)]; rfl) HR.out
    have Bx := Bx.alloc (.cells #[.int .i64 r.length] 3)
    by_cases hm : 1048576 < (r.length : Int)
    · rw [decide_eq_true hm] at H1
      go_wp2_with fail
      refine H1.mono ?_
      rintro e w2 ⟨rfl, hw⟩
      have hB : Below w.heap.size w w2 := by rw [← hw]; exact hB.alloc hB.size _
      clear hw H1 hm
      go_wp2_with fail
      refine (alive04 w2).mono ?_
      rintro e w3 ⟨rfl, hx⟩
      have hB := below_then hB hx
      clear hx
      go_wp2
      go_ret
      exact ⟨rfl, hB⟩
    · rw [decide_eq_false hm] at H1
      go_wp2_with fail
      refine H1.mono ?_
      rintro e w2 ⟨rfl, hw⟩
      have hB : Below w.heap.size w w2 := by rw [← hw]; exact hB.alloc hB.size _
      have Bx : Blk w2 w.heap.size 35 #[.int .u16 x0, .int .u16 x1] := by rw [← hw]; exact Bx
      clear hw H1
      have hl : l.length ≤ 65536 := by omega
      have hrl : r.length ≤ 1048576 := by omega
      obtain ⟨z, hz⟩ : ∃ z : Nat, x0 + 1 = z := ⟨(x0 + 1).toNat, by omega⟩
      have hz1 : 1 ≤ z := by omega
      have hz2 : z ≤ 65536 := by omega
      obtain ⟨b, hb⟩ : ∃ b, b = mcut (l.length + 1) z l := ⟨_, rfl⟩
      obtain ⟨o, ho⟩ : ∃ o, o = be ((l.length : Int) + 2147483648) 4 ++ l := ⟨_, rfl⟩
      have hbl1 := mcut_length_ge (l.length + 1) z l hz1 (by omega)
      have hbl2 := mcut_length_le (l.length + 1) z l hz1
      rw [← hb] at hbl1 hbl2
      have hol : o.length = 4 + l.length := by rw [ho, List.length_append, be_length]
      have e1 : get1 (b ++ r) = (l, b.length, 0) := by rw [hb]; exact get1_cut z l r hz1 hz2 hl
      have e2 : get1 (o ++ r) = (l, o.length, 0) := by
        rw [ho, mput_cut]
        by_cases h65 : l.length + 1 ≤ 65536
        · exact get1_cut (l.length + 1) l r (by omega) h65 hl
        · have := get1_cut 65536 l r (by omega) (by omega) hl
          rw [mcut, if_neg (by omega)] at this ⊢
          exact this
      obtain ⟨j, hj⟩ : ∃ j : Nat, x1 % (b.length : Int) = j := ⟨(x1 % (b.length : Int)).toNat, by have := Int.emod_nonneg x1 (show (b.length : Int) ≠ 0 by omega); omega⟩
      have hjb : j < b.length := by have := Int.emod_lt_of_pos x1 (show 0 < (b.length : Int) by omega); omega
      have e3 : (get1 (b.take j)).2.2 = 4 := by rw [hb]; exact mget_fewer _ _ z l [] 0 j hz1 hz2 (by omega) (by simp; omega) (by rw [← hb]; exact hjb)
      have g1 := mcut_v (Z := x0 + 1) (hr.below hB) rfl hc hl hz1 hz2 hz.symm hb.symm
      have k0 := Bx.cell 0 (v := .int .u16 x0) rfl
      have HL := Lib.hid hl
      have HRL := Lib.hid hrl
      have HO := Lib.hid ho
      have E1 := Lib.hid e1
      have E2 := Lib.hid e2
      have E3 := Lib.hid e3
      have HJ := Lib.hid hj
      have HJB := Lib.hid hjb
      have HB1 := Lib.hid hbl1
      have HB2 := Lib.hid hbl2
      have HOL := Lib.hid hol
      clear hl hrl hb ho hz hz1 hz2 e1 e2 e3 hj hjb hbl1 hbl2 hol
      go_wp2_with fail
      refine g1.mono ?_
      rintro e w3 ⟨v3, rfl, o3, hx⟩
      have Bx := Bx.below hx
      have o3 := o3.lower hB.size
      have hB := below_then hB hx
      clear hx g1 k0
      have g2 := mput_v (hr.below hB) rfl hc HL.out HO.out.symm
      go_wp2_with fail
      refine g2.mono ?_
      rintro e w4 ⟨v4, rfl, o4, hx⟩
      have Bx := Bx.below hx
      have l3 : ∀ k, v3.ownBlock = some k → k < w3.heap.size := fun k hk => (o3.2.lt k hk).2
      have o3 := o3.below hx
      have hB3 := hB.size
      have hB := below_then hB hx
      clear hx g2
      obtain ⟨A3, c3, rfl, hc3, _, r3⟩ := o3.form
      obtain ⟨A4, c4, rfl, hc4, _, r4⟩ := o4.form
      have k1 := Bx.cell 1 (v := .int .u16 x1) rfl
      have q1 : ¬ (b.length : Int) < 4 + (l.length : Int) := by have := HB1.out; omega
      have q2 : ((o.length : Int) != 4 + (l.length : Int)) = false := by rw [bne_eq_false_iff_eq]; have := HOL.out; omega
      have q3 : ¬ (b.length : Int) = 0 := by have := HB1.out; omega
      have q4 : (x1 % (b.length : Int)) = (j : Int) := HJ.out
      have q5 : (j : Int) ≤ (b.length : Int) := by have := HJB.out; omega
      have q6 : (b.length : Int) ≤ (c3 : Int) := by omega
      have q7 : x1.tmod (b.length : Int) = (j : Int) := by rw [Int.tmod_eq_emod_of_nonneg h1]; exact HJ.out
      go_wp2_with fail
      have g3 := mget_v (N := 0) (k := j) (c := c3) (r3.take j) (by rw [List.length_take]; have := HJB.out; omega) (by omega) (by have := HB2.out; have := HL.out; omega) (show mget (j + 1) (b.take j) [] 0 = ([], 0, 4) by
        have hlt : (b.take j).length = j := by rw [List.length_take]; have := HJB.out; omega
        have e3 := E3.out
        have e4 := mget_err ((b.take j).length + 1) (b.take j) [] 0 (by show (get1 (b.take j)).2.2 ≠ 0; rw [e3]; decide)
        unfold get1 at e3
        rw [hlt] at e3 e4
        generalize mget (j + 1) (b.take j) [] 0 = M at e3 e4 ⊢
        obtain ⟨x, y, q⟩ := M
        simp only at e3 e4
        rw [e3, e4.1, e4.2]) rfl
      refine g3.mono ?_
      rintro e w5 ⟨v5, rfl, _, hx⟩
      have o3 := o3.below hx
      have o4 := o4.below hx
      have hB := below_then hB hx
      clear hx g3 r3 r4 k1 q4 q7 Bx
      have hrB := hs.below hB
      have hB5 := hB.size
      go_wp2_with (at_builtin; refine wpList_app rfl _ _ rfl rfl _ w.heap.size _ b (by rfl) o3 B d r rfl hrB ?h1 hB5 ?h2)
      case h1 => have := HB2.out; have := HL.out; have := HRL.out; omega
      case h2 =>
        intro v6 w6 o6 hg6 _
        have hB6 := o3.grown hB hB5 hg6
        have o4 : Own w6 w3.heap.size (.slice A4 o.length c4) o := ⟨o4.1, row_rests o4.2 hg6 fun q hq => .inl (l3 q hq)⟩
        have l4 : ∀ k, (Value.slice A4 o.length c4).ownBlock = some k → k < w6.heap.size := fun k hk => (o4.2.lt k hk).2
        have hB6s := hB6.size
        have o4 := o4.lower hB3
        obtain ⟨A6, c6, rfl, hc6, _, r6⟩ := o6.form
        rw [List.length_append] at hc6 ⊢
        clear o3 hg6 l3 hrB hB5 hB3
        have g4 := mget_v (N := (b.length : Int)) (k := b.length + r.length) r6 List.length_append hc6 (by have := HB2.out; have := HL.out; have := HRL.out; omega) (by rw [← List.length_append]; exact E1.out) rfl
        go_wp2_with fail
        refine g4.mono ?_
        rintro e w7 ⟨v7, rfl, o7, hx⟩
        have o4 := o4.below hx
        have hB := below_then hB6 hx
        clear hx g4 r6 o6 hB6
        have hrB := hs.below hB
        have hB7 := hB.size
        go_wp2_with (at_builtin; refine wpList_app rfl _ _ rfl rfl _ w.heap.size _ o (by rfl) o4 B d r rfl hrB ?h3 hB7 ?h4)
        case h3 => have := HOL.out; have := HL.out; have := HRL.out; omega
        case h4 =>
          intro v8 w8 o8 hg8 _
          have hB8 := o4.grown hB hB7 hg8
          have o7 : Own w8 w6.heap.size v7 l := ⟨o7.1, row_rests o7.2 hg8 fun q hq => .inl (l4 q hq)⟩
          obtain ⟨A8, c8, rfl, hc8, _, r8⟩ := o8.form
          rw [List.length_append] at hc8 ⊢
          clear o4 hg8 l4 hrB hB7 hB
          have g5 := mget_v (N := (o.length : Int)) (k := o.length + r.length) r8 List.length_append hc8 (by have := HOL.out; have := HL.out; have := HRL.out; omega) (by rw [← List.length_append]; exact E2.out) rfl
          go_wp2_with fail
          refine g5.mono ?_
          rintro e w9 ⟨v9, rfl, o9, hx⟩
          have o7 := o7.below hx
          have hB := below_then hB8 hx
          clear hx g5 r8 o8 hB8
          obtain ⟨A7, c7, rfl, hc7, _, r7⟩ := o7.form
          obtain ⟨A9, c9, rfl, hc9, _, r9⟩ := o9.form
          have hrl := hr.below hB
          have s1 := same_yes (c := c7) (d := c) r7 hrl rfl rfl rfl (by have := HL.out; omega)
          clear o7 o9 r7
          have q2 : ((o.length : Int) == 4 + (l.length : Int)) = true := by rw [beq_iff_eq]; have := HOL.out; omega
          have q8 : (o.length : Int) = 4 + (l.length : Int) := by have := HOL.out; omega
          have Q8 := Lib.hid q8
          clear q8
          go_wp2_with fail
          refine s1.mono ?_
          rintro e w10 ⟨rfl, nx, hx0⟩
          have hx := below_drawn hx0
          have s2 := same_yes (c := c9) (d := c) (r9.below hx) (hrl.below hx) rfl rfl rfl (by have := HL.out; omega)
          have hB := below_then hB hx
          clear hx0 hx s1 r9 hrl
          go_wp2_with fail
          refine s2.mono ?_
          rintro e w11 ⟨rfl, nx, hx0⟩
          have hB := below_then hB (below_drawn hx0)
          clear hx0 s2
          go_wp2
          go_ret
          exact ⟨rfl, hB⟩
end Go.Proofs.Ytjmganppgojdhaa.Hand
