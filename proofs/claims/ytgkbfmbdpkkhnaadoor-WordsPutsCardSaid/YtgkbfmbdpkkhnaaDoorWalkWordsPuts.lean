/- The statement WordsPuts, walked: every number, and yes and no, is put as exactly the documented bytes; the answers are memory of their own. -/
import Derived.Test.YtgkbfmbdpkkhnaaDoorHelp
import Derived.Test.YtgkbfmbdpkkhnaaDoorRefPut
import Derived.Test.YtgkbfmbdpkkhnaaDoorApartOf
namespace Go.Proofs.YtgkbfmbdpkkhnaaDoor.Hand
open Go.RowKit
set_option linter.unusedVariables false
set_option linter.unusedSimpArgs false

theorem be_small (a : Int) (m : Nat) (h : m ≤ 8) : (be a m).length ≤ 140737488351232 := by rw [be_length]; omega

set_option maxRecDepth 100000 in
set_option maxHeartbeats 4000000 in
theorem WordsPuts_walk (x y : Int) (b : Bool) (w : World) (hx0 : 0 ≤ x) (hx : x < 4294967296) (hy0 : 0 ≤ y) (hy : y < 18446744073709551616) :
    Calls Tryd.prog 3 #[.int .u32 x, .int .u64 y, .bool b] w fun e w' => e = .returned (.bool true) ∧ Below w.heap.size w w' := by
  go_enter Tryd.func3, Tryd.ntmps3
  go_wp2_with fail
  refine (Put x hx0 hx w).mono ?_
  rintro e w1 ⟨v1, rfl, o1, hB⟩
  have W1 := Lib.hid o1.within
  have s1 := Lib.hid hB.size
  go_wp2_with fail
  refine (Put x hx0 hx w1).mono ?_
  rintro e w2 ⟨v2, rfl, o2, hz⟩
  have W2 := Lib.hid o2.within
  have s2 := Lib.hid hz.size
  have o1 := o1.below hz
  have hB := below_then hB hz
  clear hz
  go_wp2_with fail
  refine (PutLong y hy0 hy w2).mono ?_
  rintro e w3 ⟨v3, rfl, o3, hz⟩
  have W3 := Lib.hid o3.within
  have s3 := Lib.hid hz.size
  have o1 := o1.below hz
  have o2 := o2.below hz
  have hB := below_then hB hz
  clear hz
  go_wp2_with fail
  refine (PutYes b w3).mono ?_
  rintro e w4 ⟨v4, rfl, o4, hz⟩
  have W4 := Lib.hid o4.within
  have s4 := Lib.hid hz.size
  have o1 := o1.below hz
  have o2 := o2.below hz
  have o3 := o3.below hz
  have hB := below_then hB hz
  clear hz
  obtain ⟨A1, c1, e1, _, _, _⟩ := o1.form
  obtain ⟨A2, c2, e2, _, _, _⟩ := o2.form
  obtain ⟨A3, c3, e3, _, _, _⟩ := o3.form
  obtain ⟨A4, c4, e4, _, _, _⟩ := o4.form
  rw [be_length] at e1 e2 e3 e4
  subst e1 e2 e3 e4
  go_wp2_with fail
  refine (rput x w4 hx0 hx).mono ?_
  rintro e w5 ⟨v5, rfl, o5, hz⟩
  obtain ⟨A5, c5, rfl, _, _, r5⟩ := o5.form
  rw [be_length]
  have o1 := o1.below hz
  have o2 := o2.below hz
  have o3 := o3.below hz
  have o4 := o4.below hz
  have hB := below_then hB hz
  clear hz o5
  go_wp2_with fail
  refine (same_yes (own_rd o1) r5 rfl (be_length _ _) (be_length _ _) (by decide)).mono ?_
  rintro e w6 ⟨rfl, nx, hz0⟩
  have hz := below_drawn hz0
  clear hz0 r5
  have o1 := o1.below hz
  have o2 := o2.below hz
  have o3 := o3.below hz
  have o4 := o4.below hz
  have hB := below_then hB hz
  clear hz
  go_wp2_with fail
  refine (same_yes (own_rd o2) (own_rd o1) rfl (be_length _ _) (be_length _ _) (by decide)).mono ?_
  rintro e w7 ⟨rfl, nx, hz0⟩
  have hz := below_drawn hz0
  clear hz0
  have o1 := o1.below hz
  have o2 := o2.below hz
  have o3 := o3.below hz
  have o4 := o4.below hz
  have hB := below_then hB hz
  clear hz
  go_wp2_with fail
  refine (rputLong y w7 hy0 hy).mono ?_
  rintro e w8 ⟨v8, rfl, o8, hz⟩
  obtain ⟨A8, c8, rfl, _, _, r8⟩ := o8.form
  rw [be_length]
  have o1 := o1.below hz
  have o2 := o2.below hz
  have o3 := o3.below hz
  have o4 := o4.below hz
  have hB := below_then hB hz
  clear hz o8
  go_wp2_with fail
  refine (same_yes (own_rd o3) r8 rfl (be_length _ _) (be_length _ _) (by decide)).mono ?_
  rintro e w9 ⟨rfl, nx, hz0⟩
  have hz := below_drawn hz0
  clear hz0 r8
  have o1 := o1.below hz
  have o2 := o2.below hz
  have o3 := o3.below hz
  have o4 := o4.below hz
  have hB := below_then hB hz
  clear hz
  go_wp2_with fail
  refine (rputYes b w9).mono ?_
  rintro e w10 ⟨v10, rfl, o10, hz⟩
  obtain ⟨A10, c10, rfl, _, _, r10⟩ := o10.form
  rw [be_length]
  have o1 := o1.below hz
  have o2 := o2.below hz
  have o3 := o3.below hz
  have o4 := o4.below hz
  have hB := below_then hB hz
  clear hz o10
  go_wp2_with fail
  refine (same_yes (own_rd o4) r10 rfl (be_length _ _) (be_length _ _) (by decide)).mono ?_
  rintro e w11 ⟨rfl, nx, hz0⟩
  have hz := below_drawn hz0
  clear hz0 r10
  have o1 := o1.below hz
  have o2 := o2.below hz
  have o3 := o3.below hz
  have o4 := o4.below hz
  have hB := below_then hB hz
  clear hz
  have hb := book_new w11
  have hz : Below w11.heap.size w11 (w11.alloc (.cells #[.int .i64 0, .slice none 0 0, .slice none 0 0, .slice none 0 0, .slice none 0 0, .slice none 0 0, .slice none 0 0, .slice none 0 0] 37)) := (Below.refl _ w11).alloc (Nat.le_refl _) _
  have hKB := Lib.hid (show w.heap.size ≤ w11.heap.size from hB.size)
  have o1 := (o1.below hz).lower (base' := w.heap.size) (Nat.le_refl _)
  have o2 := (o2.below hz).lower (base' := w.heap.size) s1.out
  have o3 := (o3.below hz).lower (base' := w.heap.size) (Nat.le_trans s1.out s2.out)
  have o4 := (o4.below hz).lower (base' := w.heap.size) (Nat.le_trans s1.out (Nat.le_trans s2.out s3.out))
  have hB := below_then hB hz
  have g1 := bookBytes w11.heap.size w.heap.size _ [] A1 4 c1 _ hb (World.ownsRow_nil _ _ _ _) hKB.out (by decide)
  clear hz hb
  go_wp2_with fail
  refine g1.mono ?_
  rintro e w12 ⟨⟨v, rfl⟩, V1, hb, hrow, hz, hown⟩
  have o1 := hown _ _ _ o1
  have o2 := hown _ _ _ o2
  have o3 := hown _ _ _ o3
  have o4 := hown _ _ _ o4
  have hB := hB.trans hz
  have g1 := bookBytes w11.heap.size w.heap.size _ [.slice A1 4 c1] A2 4 c2 _ hb hrow hKB.out (by simp)
  clear hz hb hown hrow
  go_wp2_with fail
  refine g1.mono ?_
  rintro e w13 ⟨⟨v, rfl⟩, V2, hb, hrow, hz, hown⟩
  have o1 := hown _ _ _ o1
  have o2 := hown _ _ _ o2
  have o3 := hown _ _ _ o3
  have o4 := hown _ _ _ o4
  have hB := hB.trans hz
  have g1 := bookBytes w11.heap.size w.heap.size _ [.slice A1 4 c1, .slice A2 4 c2] A3 8 c3 _ hb hrow hKB.out (by simp)
  clear hz hb hown hrow
  go_wp2_with fail
  refine g1.mono ?_
  rintro e w14 ⟨⟨v, rfl⟩, V3, hb, hrow, hz, hown⟩
  have o1 := hown _ _ _ o1
  have o2 := hown _ _ _ o2
  have o3 := hown _ _ _ o3
  have o4 := hown _ _ _ o4
  have hB := hB.trans hz
  have g1 := bookBytes w11.heap.size w.heap.size _ [.slice A1 4 c1, .slice A2 4 c2, .slice A3 8 c3] A4 4 c4 _ hb hrow hKB.out (by simp)
  clear hz hb hown hrow
  go_wp2_with fail
  refine g1.mono ?_
  rintro e w15 ⟨⟨v, rfl⟩, V4, hb, hrow, hz, hown⟩
  have o1 := hown _ _ _ o1
  have o2 := hown _ _ _ o2
  have o3 := hown _ _ _ o3
  have o4 := hown _ _ _ o4
  have hB := hB.trans hz
  have g1 := apart w11.heap.size w.heap.size V4 [.slice A1 4 c1, .slice A2 4 c2, .slice A3 8 c3, .slice A4 4 c4] (fun j => match j with | 0 => be x 4 | 1 => be x 4 | 2 => be y 8 | _ => be (yesN b) 4) w15 hb hrow (by simp) (by simp) hB.size
    (fun j hj => match j, hj with | 0, _ => o1 | 1, _ => o2 | 2, _ => o3 | 3, _ => o4 | j + 4, hj => absurd hj (by simp))
    (fun j hj => match j, hj with | 0, _ => be_small _ _ (by decide) | 1, _ => be_small _ _ (by decide) | 2, _ => be_small _ _ (by decide) | 3, _ => be_small _ _ (by decide) | j + 4, hj => absurd hj (by simp))
    (distinct_of _ (fun j => match j with | 0 => w.heap.size | 1 => w1.heap.size | 2 => w2.heap.size | 3 => w3.heap.size | _ => w4.heap.size)
      (fun j => match j with | 0 => s1.out | 1 => s2.out | 2 => s3.out | 3 => s4.out | j + 4 => Nat.le_refl _)
      (fun j hj => match j, hj with | 0, _ => W1.out | 1, _ => W2.out | 2, _ => W3.out | 3, _ => W4.out | j + 4, hj => absurd hj (by simp)))
  clear hz hb hown hrow o1 o2 o3 o4
  go_wp2_with fail
  refine g1.mono ?_
  rintro e w16 ⟨rfl, hz⟩
  have hB := hB.trans hz
  go_wp2
  go_ret
  exact ⟨rfl, hB⟩
end Go.Proofs.YtgkbfmbdpkkhnaaDoor.Hand
