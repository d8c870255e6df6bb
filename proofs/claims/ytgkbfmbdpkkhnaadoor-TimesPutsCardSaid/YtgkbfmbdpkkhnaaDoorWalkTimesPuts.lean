/- The statement TimesPuts, walked: any point of time is put as exactly the documented bytes; the one that any bytes begin with is exactly the documented one, or they are refused; the answers are memory of their own. -/
import Derived.Test.YtgkbfmbdpkkhnaaDoorHelp
import Derived.Test.YtgkbfmbdpkkhnaaDoorRefTimes
import Derived.Test.YtgkbfmbdpkkhnaaDoorApartOf
namespace Go.Proofs.YtgkbfmbdpkkhnaaDoor.Hand
open Go.RowKit
set_option linter.unusedVariables false
set_option linter.unusedSimpArgs false

theorem tb_small (s n : Int) : (tb s n).length ≤ 140737488351232 := by rw [tb_length]; decide
theorem tgetV_form (l : List Int) : ∃ p q r, tgetV l = .tuple #[.agg #[.int .u32 p, .int .u32 q], .int .i64 r] := by
  unfold tgetV
  split
  · exact ⟨_, _, _, rfl⟩
  · split
    · exact ⟨_, _, _, rfl⟩
    · exact ⟨_, _, _, rfl⟩

set_option maxRecDepth 100000 in
set_option maxHeartbeats 4000000 in
theorem TimesPuts_walk (s n : Int) (A : Option Addr) (c : Nat) (l : List Int) (w : World) (hs : 0 ≤ s) (hs' : s < 4294967296) (hn : 0 ≤ n) (hn' : n < 4294967296) (hr : Rd w A l) (hc : l.length ≤ c) (hsz : l.length ≤ 140737488351232) :
    Calls Tryd.prog 5 #[.agg #[.int .u32 s, .int .u32 n], .slice A l.length c] w fun e w' => e = .returned (.bool true) ∧ Below w.heap.size w w' := by
  obtain ⟨w0, hw0⟩ : ∃ w0, w0 = w.alloc (.cells #[.int .u32 s, .int .u32 n] 47) := ⟨_, rfl⟩
  have b1 : Blk w0 w.heap.size 47 #[.int .u32 s, .int .u32 n] := by rw [hw0]; exact Blk.new w _ _
  have hB : Below w.heap.size w w0 := by rw [hw0]; exact (Below.refl _ _).alloc (Nat.le_refl _) _
  have hsw : w0.heap.size = w.heap.size + 1 := by rw [hw0]; simp
  have rA := hr.below hB
  have H1 := beyond1 l.length 1 (w0.alloc (.cells #[.int .i64 l.length] 3)) w0.heap.size (by rw [cell_of_row _ _ _ _ _ _ (heap_alloc_new w0 _)]; rfl) hsz
  have hB1 : Below w0.heap.size w0 (w0.alloc (.cells #[.int .i64 l.length] 3)) := (Below.refl _ w0).alloc (Nat.le_refl _) _
  go_enter Tryd.func5, Tryd.ntmps5
  by_cases hm : 1048576 < (l.length : Int)
  · rw [decide_eq_true hm] at H1
    go_wp2_with fail
    rw [← hsw, ← hw0]
    refine H1.mono ?_
    rintro e w1 ⟨rfl, hw⟩
    have hB : Below w.heap.size w w1 := by rw [← hw]; exact below_then hB hB1
    clear hw H1 hm hw0 hsw
    go_wp2
    go_ret
    exact ⟨rfl, hB⟩
  · rw [decide_eq_false hm] at H1
    go_wp2_with fail
    rw [← hsw, ← hw0]
    refine H1.mono ?_
    rintro e w1 ⟨rfl, hw⟩
    have hz : Below w0.heap.size w0 w1 := by rw [← hw]; exact hB1
    have b1 := b1.below hz
    have rA := rA.below hz
    have hB := below_then hB hz
    have HSZ := Lib.hid hsz
    clear hw H1 hw0 hsw hB1 hz hsz
    go_wp2_with fail
    refine (twin A c l _ rA HSZ.out).mono ?_
    rintro e w2 ⟨g, cap, rfl, ot, hz⟩
    have b1 := b1.below hz
    have rA := rA.below hz
    have hB := below_then hB hz
    obtain ⟨A', c', e1, hc1, _, hrt⟩ := ot.form
    have SW := Lib.hid hB.size
    injection e1 with e1 e2 e3
    subst e1 e3
    rw [List.length_append] at hc1
    simp only [List.length_cons, List.length_nil] at hc1
    clear e2 ot hz
    have k0 := b1.cell 0 (v := .int .u32 s) rfl
    have k1 := b1.cell 1 (v := .int .u32 n) rfl
    go_wp2_with fail
    refine (tput s n w2 hs hs' hn hn').mono ?_
    rintro e w3 ⟨v1, rfl, o1, hz⟩
    have b1 := b1.below hz
    have rA := rA.below hz
    have hrt := hrt.below hz
    have hB := below_then hB hz
    have W1 := Lib.hid o1.within
    have s1 := Lib.hid hz.size
    clear hz k0 k1
    have k0 := b1.cell 0 (v := .int .u32 s) rfl
    have k1 := b1.cell 1 (v := .int .u32 n) rfl
    go_wp2_with fail
    refine (tput s n w3 hs hs' hn hn').mono ?_
    rintro e w4 ⟨v2, rfl, o2, hz⟩
    have b1 := b1.below hz
    have rA := rA.below hz
    have hrt := hrt.below hz
    have o1 := o1.below hz
    have hB := below_then hB hz
    have W2 := Lib.hid o2.within
    have s2 := Lib.hid hz.size
    clear hz k0 k1
    obtain ⟨A1, c1, e1, _, _, _⟩ := o1.form
    obtain ⟨A2, c2, e2, _, _, _⟩ := o2.form
    rw [tb_length] at e1 e2
    subst e1 e2
    obtain ⟨p, q, r, hV⟩ := tgetV_form l
    have hrl : Rd w4 (some ⟨g, 0, none⟩) l := by have := hrt.take l.length; rwa [List.take_left] at this
    have g1 := tget _ cap l w4 hrl (by omega)
    rw [hV] at g1
    go_wp2_with fail
    refine g1.mono ?_
    rintro e w5 ⟨rfl, hz⟩
    have b1 := b1.below hz
    have rA := rA.below hz
    have hrt := hrt.below hz
    have o1 := o1.below hz
    have o2 := o2.below hz
    have hB := below_then hB hz
    clear hz g1 hrl
    have ba := Blk.new w5 47 #[.int .u32 p, .int .u32 q]
    have b1 := b1.alloc (.cells #[.int .u32 p, .int .u32 q] 47)
    have o1 := o1.alloc (.cells #[.int .u32 p, .int .u32 q] 47)
    have o2 := o2.alloc (.cells #[.int .u32 p, .int .u32 q] 47)
    have rA := rA.alloc (.cells #[.int .u32 p, .int .u32 q] 47)
    have hrt := hrt.alloc (.cells #[.int .u32 p, .int .u32 q] 47)
    have hB := hB.alloc hB.size (.cells #[.int .u32 p, .int .u32 q] 47)
    have g2 := rtget A c l _ rA hc
    rw [hV] at g2
    clear hV
    go_wp2_with fail
    refine g2.mono ?_
    rintro e w6 ⟨rfl, hz⟩
    have b1 := b1.below hz
    have rA := rA.below hz
    have hrt := hrt.below hz
    have o1 := o1.below hz
    have o2 := o2.below hz
    have ba := ba.below hz
    have hB := below_then hB hz
    clear hz g2
    have bw := Blk.new w6 47 #[.int .u32 p, .int .u32 q]
    have b1 := b1.alloc (.cells #[.int .u32 p, .int .u32 q] 47)
    have o1 := o1.alloc (.cells #[.int .u32 p, .int .u32 q] 47)
    have o2 := o2.alloc (.cells #[.int .u32 p, .int .u32 q] 47)
    have ba := ba.alloc (.cells #[.int .u32 p, .int .u32 q] 47)
    have rA := rA.alloc (.cells #[.int .u32 p, .int .u32 q] 47)
    have hrt := hrt.alloc (.cells #[.int .u32 p, .int .u32 q] 47)
    have hB := hB.alloc hB.size (.cells #[.int .u32 p, .int .u32 q] 47)
    have k0 := b1.cell 0 (v := .int .u32 s) rfl
    have k1 := b1.cell 1 (v := .int .u32 n) rfl
    go_wp2_with fail
    refine (rtput s n _ hs hs' hn hn').mono ?_
    rintro e w7 ⟨v7, rfl, o7, hz⟩
    have rA := rA.below hz
    have hrt := hrt.below hz
    have o1 := o1.below hz
    have o2 := o2.below hz
    have ba := ba.below hz
    have bw := bw.below hz
    have hB := below_then hB hz
    obtain ⟨A7, c7, rfl, _, _, r7⟩ := o7.form
    rw [tb_length]
    clear hz o7 b1 k0 k1
    go_wp2_with fail
    refine (same_yes (own_rd o1) r7 rfl (tb_length _ _) (tb_length _ _) (by decide)).mono ?_
    rintro e w8 ⟨rfl, nx, hz0⟩
    have hz := below_drawn hz0
    clear hz0 r7
    have rA := rA.below hz
    have hrt := hrt.below hz
    have o1 := o1.below hz
    have o2 := o2.below hz
    have ba := ba.below hz
    have bw := bw.below hz
    have hB := below_then hB hz
    clear hz
    go_wp2_with fail
    refine (same_yes (own_rd o2) (own_rd o1) rfl (tb_length _ _) (tb_length _ _) (by decide)).mono ?_
    rintro e w9 ⟨rfl, nx, hz0⟩
    have hz := below_drawn hz0
    clear hz0
    have rA := rA.below hz
    have hrt := hrt.below hz
    have o1 := o1.below hz
    have o2 := o2.below hz
    have ba := ba.below hz
    have bw := bw.below hz
    have hB := below_then hB hz
    clear hz
    have ka0 := ba.cell 0 (v := .int .u32 p) rfl
    have ka1 := ba.cell 1 (v := .int .u32 q) rfl
    have kw0 := bw.cell 0 (v := .int .u32 p) rfl
    have kw1 := bw.cell 1 (v := .int .u32 q) rfl
    have lf := left g cap A c l w9 hrt (by omega) rA HSZ.out
    clear ba bw
    go_wp2_with fail
    refine lf.mono ?_
    rintro e w10 ⟨rfl, nx, hz0⟩
    have hz := below_drawn hz0
    clear hz0 lf
    have o1 := o1.below hz
    have o2 := o2.below hz
    have hB := below_then hB hz
    clear hz ka0 ka1 kw0 kw1 rA hrt
    have hbk := book_new w10
    have hz : Below w10.heap.size w10 (w10.alloc (.cells #[.int .i64 0, .slice none 0 0, .slice none 0 0, .slice none 0 0, .slice none 0 0, .slice none 0 0, .slice none 0 0, .slice none 0 0] 37)) := (Below.refl _ w10).alloc (Nat.le_refl _) _
    have hKB := Lib.hid (show w.heap.size ≤ w10.heap.size from hB.size)
    have o1 := (o1.below hz).lower (base' := w.heap.size) SW.out
    have o2 := (o2.below hz).lower (base' := w.heap.size) (Nat.le_trans SW.out s1.out)
    have hB := below_then hB hz
    have gB := bookBytes w10.heap.size w.heap.size _ [] A1 8 c1 _ hbk (World.ownsRow_nil _ _ _ _) hKB.out (by simp)
    clear hz hbk
    go_wp2_with fail
    refine gB.mono ?_
    rintro e wb0 ⟨⟨vb, rfl⟩, Vb0, hbk, hrow, hz, hown⟩
    have o1 := hown _ _ _ o1
    have o2 := hown _ _ _ o2
    have hB := hB.trans hz
    clear gB
    have gB := bookBytes w10.heap.size w.heap.size _ [.slice A1 8 c1] A2 8 c2 _ hbk hrow hKB.out (by simp)
    clear hz hbk hown hrow
    go_wp2_with fail
    refine gB.mono ?_
    rintro e wb1 ⟨⟨vb, rfl⟩, Vb1, hbk, hrow, hz, hown⟩
    have o1 := hown _ _ _ o1
    have o2 := hown _ _ _ o2
    have hB := hB.trans hz
    clear gB
    have gA := apart w10.heap.size w.heap.size _ [.slice A1 8 c1, .slice A2 8 c2] (fun j => match j with | 0 => tb s n | _ => tb s n) wb1 hbk hrow (by simp) (by simp) hB.size
      (fun j hj => match j, hj with | 0, _ => o1 | 1, _ => o2 | j + 2, hj => absurd hj (by simp))
      (fun j hj => match j, hj with | 0, _ => tb_small _ _ | 1, _ => tb_small _ _ | j + 2, hj => absurd hj (by simp))
      (distinct_of _ (fun j => match j with | 0 => w2.heap.size | 1 => w3.heap.size | _ => w4.heap.size)
        (fun j => match j with | 0 => s1.out | 1 => s2.out | j + 2 => Nat.le_refl _)
        (fun j hj => match j, hj with | 0, _ => W1.out | 1, _ => W2.out | j + 2, hj => absurd hj (by simp)))
    clear hz hbk hown hrow o1 o2
    go_wp2_with fail
    refine gA.mono ?_
    rintro e wz ⟨rfl, hz⟩
    have hB := hB.trans hz
    clear gA
    go_wp2
    go_ret
    exact ⟨rfl, hB⟩
end Go.Proofs.YtgkbfmbdpkkhnaaDoor.Hand
