/- The statement RepliesGets, walked: the reply that any bytes are is exactly the documented one, or they are refused; they stay as they were, and the answers are memory of their own. -/
import Derived.Test.YtoodmjdafifbmaaDoorWalkRepliesPuts
import Derived.Test.YtoodmjdafifbmaaDoorBookReply
namespace Go.Proofs.YtoodmjdafifbmaaDoor.Hand
open Go.RowKit
set_option linter.unusedVariables false
set_option linter.unusedSimpArgs false

set_option maxRecDepth 100000 in
set_option maxHeartbeats 4000000 in
theorem RepliesGets_walk (A : Option Addr) (c : Nat) (l : List Int) (w : World) (hr : Rd w A l) (hc : l.length ≤ c) (hsz : l.length ≤ 140737488351232) :
    Calls Tryd.prog 5 #[.slice A l.length c] w fun e w' => e = .returned (.bool true) ∧ Below w.heap.size w w' := by
  obtain ⟨X, hX⟩ : ∃ X, X = (got l).x := ⟨_, rfl⟩
  obtain ⟨H, hH⟩ : ∃ H, H = (got l).h := ⟨_, rfl⟩
  obtain ⟨LO, hLO⟩ : ∃ LO, LO = (got l).lo := ⟨_, rfl⟩
  obtain ⟨HI, hHI⟩ : ∃ HI, HI = (got l).hi := ⟨_, rfl⟩
  obtain ⟨M, hM⟩ : ∃ M, M = (got l).m := ⟨_, rfl⟩
  obtain ⟨E, hE⟩ : ∃ E, E = (got l).e := ⟨_, rfl⟩
  have G1 := fun A c w => get_uni A c l w
  have G2 := fun A c w => rget_uni A c l w
  rw [← hX, ← hH, ← hLO, ← hHI, ← hM, ← hE] at G1 G2
  have HG1 := Lib.hid G1
  have HG2 := Lib.hid G2
  have HML := Lib.hid (show M.length ≤ l.length by rw [hM]; exact got_m_len l)
  clear hX hH hLO hHI hM hE G1 G2
  go_enter Tryd.func5, Tryd.ntmps5
  by_cases hlim : 200000 < (l.length : Int)
  · go_wp2
    go_ret
    exact ⟨rfl, Below.refl _ _⟩
  · have HN := Lib.hid (show l.length ≤ 200000 by omega)
    go_wp2_with fail
    refine (twin A c l w hr hsz).mono ?_
    rintro e w1 ⟨g, cap, rfl, ot, hB⟩
    have W1 := Lib.hid (show Within (.slice (some ⟨g, 0, none⟩) l.length cap) w.heap.size w1.heap.size from within_same ot.within)
    have s1 := Lib.hid hB.size
    obtain ⟨A', c', e1, hc1, _, _⟩ := ot.form
    injection e1 with e1 e2 e3
    subst e1 e3
    rw [List.length_append] at hc1
    simp only [List.length_cons, List.length_nil] at hc1
    have Hcap := Lib.hid (show l.length + 1 ≤ cap from hc1)
    clear e2 hc1
    have hrl : Rd w1 (some ⟨g, 0, none⟩) l := by have := (own_rd ot).take l.length; rwa [List.take_left] at this
    have HP := Lib.hid (HG1.out (some ⟨g, 0, none⟩) cap w1 hrl (by have := Hcap.out; omega))
    clear hrl
    go_wp2_with fail
    refine HP.out.mono ?_
    rintro e w2 ⟨⟨v2, rfl, o2⟩, hz⟩
    have ot := ot.below hz
    have hB := below_then hB hz
    have W2 := Lib.hid o2.within
    have s2 := Lib.hid hz.size
    obtain ⟨A2, c2, rfl, _, _, r2⟩ := o2.form
    have hzz := Blk.new w2 26 #[.int .u32 0, .int .u32 0, .int .u32 0, .int .u32 0, .slice none 0 0]
    have z0 := hzz.cell 0 (v := .int .u32 0) rfl
    have z1 := hzz.cell 1 (v := .int .u32 0) rfl
    have z2 := hzz.cell 2 (v := .int .u32 0) rfl
    have z3 := hzz.cell 3 (v := .int .u32 0) rfl
    have z4 := hzz.cell 4 (v := .slice none 0 0) rfl
    have y0 := hzz.frozen 0
    have y1 := hzz.frozen 1
    have y2 := hzz.frozen 2
    have y3 := hzz.frozen 3
    have y4 := hzz.frozen 4
    have hal := (Below.refl w2.heap.size w2).alloc (Nat.le_refl _) (.cells #[.int .u32 X, .int .u32 H, .int .u32 LO, .int .u32 HI, .slice A2 M.length c2] 26)
    have x2 := Blk.new w2 26 #[.int .u32 X, .int .u32 H, .int .u32 LO, .int .u32 HI, .slice A2 M.length c2]
    have ot := ot.below hal
    have o2 := o2.below hal
    have hB := below_then hB hal
    have HA2 := Lib.hid hal.size
    clear hal hz HP r2
    go_upto_region 5 with fail
    clear z0 z1 z2 z3 z4 y0 y1 y2 y3 y4 hzz
    obtain ⟨w2x, hwx⟩ : ∃ wx, wx = w2.alloc (.cells #[.int .u32 X, .int .u32 H, .int .u32 LO, .int .u32 HI, .slice A2 M.length c2] 26) := ⟨_, rfl⟩
    rw [← hwx] at ot
    rw [← hwx] at o2
    rw [← hwx] at x2
    rw [← hwx] at hB
    rw [← hwx] at HA2
    rw [← hwx]
    clear hwx
    have hrl : Rd w2x (some ⟨g, 0, none⟩) l := by have := (own_rd ot).take l.length; rwa [List.take_left] at this
    have HP := Lib.hid (HG1.out (some ⟨g, 0, none⟩) cap w2x hrl (by have := Hcap.out; omega))
    clear hrl
    go_wp2_with fail
    refine HP.out.mono ?_
    rintro e w3 ⟨⟨v3, rfl, o3⟩, hz⟩
    have ot := ot.below hz
    have o2 := o2.below hz
    have x2 := x2.below hz
    have hB := below_then hB hz
    have o3 := o3.lower (base' := w2.heap.size) HA2.out
    have W3 := Lib.hid o3.within
    have s3 := Lib.hid (Nat.le_trans HA2.out hz.size)
    obtain ⟨A3, c3, rfl, _, _, r3⟩ := o3.form
    have hzz := Blk.new w3 26 #[.int .u32 0, .int .u32 0, .int .u32 0, .int .u32 0, .slice none 0 0]
    have z0 := hzz.cell 0 (v := .int .u32 0) rfl
    have z1 := hzz.cell 1 (v := .int .u32 0) rfl
    have z2 := hzz.cell 2 (v := .int .u32 0) rfl
    have z3 := hzz.cell 3 (v := .int .u32 0) rfl
    have z4 := hzz.cell 4 (v := .slice none 0 0) rfl
    have y0 := hzz.frozen 0
    have y1 := hzz.frozen 1
    have y2 := hzz.frozen 2
    have y3 := hzz.frozen 3
    have y4 := hzz.frozen 4
    have hal := (Below.refl w3.heap.size w3).alloc (Nat.le_refl _) (.cells #[.int .u32 X, .int .u32 H, .int .u32 LO, .int .u32 HI, .slice A3 M.length c3] 26)
    have x3 := Blk.new w3 26 #[.int .u32 X, .int .u32 H, .int .u32 LO, .int .u32 HI, .slice A3 M.length c3]
    have ot := ot.below hal
    have o2 := o2.below hal
    have x2 := x2.below hal
    have o3 := o3.below hal
    have hB := below_then hB hal
    have HA3 := Lib.hid hal.size
    clear hal hz HP r3
    go_upto_region 6 with fail
    clear z0 z1 z2 z3 z4 y0 y1 y2 y3 y4 hzz
    obtain ⟨w3x, hwx⟩ : ∃ wx, wx = w3.alloc (.cells #[.int .u32 X, .int .u32 H, .int .u32 LO, .int .u32 HI, .slice A3 M.length c3] 26) := ⟨_, rfl⟩
    rw [← hwx] at ot
    rw [← hwx] at o2
    rw [← hwx] at x2
    rw [← hwx] at o3
    rw [← hwx] at x3
    rw [← hwx] at hB
    rw [← hwx] at HA3
    rw [← hwx]
    clear hwx
    have HP := Lib.hid (HG2.out A c w3x (hr.below hB) hc (by have := HN.out; omega))
    go_wp2_with fail
    refine HP.out.mono ?_
    rintro e w4 ⟨⟨v4, rfl, o4⟩, hz⟩
    have ot := ot.below hz
    have o2 := o2.below hz
    have x2 := x2.below hz
    have o3 := o3.below hz
    have x3 := x3.below hz
    have hB := below_then hB hz
    obtain ⟨A4, c4, rfl, _, _, r4⟩ := o4.form
    clear o4
    have hzz := Blk.new w4 26 #[.int .u32 0, .int .u32 0, .int .u32 0, .int .u32 0, .slice none 0 0]
    have z0 := hzz.cell 0 (v := .int .u32 0) rfl
    have z1 := hzz.cell 1 (v := .int .u32 0) rfl
    have z2 := hzz.cell 2 (v := .int .u32 0) rfl
    have z3 := hzz.cell 3 (v := .int .u32 0) rfl
    have z4 := hzz.cell 4 (v := .slice none 0 0) rfl
    have y0 := hzz.frozen 0
    have y1 := hzz.frozen 1
    have y2 := hzz.frozen 2
    have y3 := hzz.frozen 3
    have y4 := hzz.frozen 4
    have hal := (Below.refl w4.heap.size w4).alloc (Nat.le_refl _) (.cells #[.int .u32 X, .int .u32 H, .int .u32 LO, .int .u32 HI, .slice A4 M.length c4] 26)
    have x4 := Blk.new w4 26 #[.int .u32 X, .int .u32 H, .int .u32 LO, .int .u32 HI, .slice A4 M.length c4]
    have ot := ot.below hal
    have o2 := o2.below hal
    have x2 := x2.below hal
    have o3 := o3.below hal
    have x3 := x3.below hal
    have r4 := r4.below hal
    have hB := below_then hB hal
    have HA4 := Lib.hid hal.size
    clear hal hz HP
    go_upto_region 7 with fail
    clear z0 z1 z2 z3 z4 y0 y1 y2 y3 y4 hzz
    obtain ⟨w4x, hwx⟩ : ∃ wx, wx = w4.alloc (.cells #[.int .u32 X, .int .u32 H, .int .u32 LO, .int .u32 HI, .slice A4 M.length c4] 26) := ⟨_, rfl⟩
    rw [← hwx] at ot
    rw [← hwx] at o2
    rw [← hwx] at x2
    rw [← hwx] at o3
    rw [← hwx] at x3
    rw [← hwx] at r4
    rw [← hwx] at x4
    rw [← hwx] at hB
    rw [← hwx] at HA4
    rw [← hwx]
    clear hwx
    have e0 : (E != E) = false := by simp
    have p0 := x2.cell 0 (v := .int .u32 X) rfl
    have p1 := x2.cell 1 (v := .int .u32 H) rfl
    have p2 := x2.cell 2 (v := .int .u32 LO) rfl
    have p3 := x2.cell 3 (v := .int .u32 HI) rfl
    have p4 := x2.cell 4 (v := .slice A2 M.length c2) rfl
    have q0 := x4.cell 0 (v := .int .u32 X) rfl
    have q1 := x4.cell 1 (v := .int .u32 H) rfl
    have q2 := x4.cell 2 (v := .int .u32 LO) rfl
    have q3 := x4.cell 3 (v := .int .u32 HI) rfl
    have q4 := x4.cell 4 (v := .slice A4 M.length c4) rfl
    have HS := Lib.hid (sameRep X H LO HI A2 A4 c2 c4 M w4x (own_rd o2) r4 (by have := HML.out; have := HN.out; omega))
    go_wp2_with fail
    refine HS.out.mono ?_
    rintro e w5 ⟨rfl, hz⟩
    have ot := ot.below hz
    have o2 := o2.below hz
    have x2 := x2.below hz
    have o3 := o3.below hz
    have x3 := x3.below hz
    have r4 := r4.below hz
    have x4 := x4.below hz
    have hB := below_then hB hz
    clear hz HS p0 p1 p2 p3 p4 q0 q1 q2 q3 q4
    have p0 := x3.cell 0 (v := .int .u32 X) rfl
    have p1 := x3.cell 1 (v := .int .u32 H) rfl
    have p2 := x3.cell 2 (v := .int .u32 LO) rfl
    have p3 := x3.cell 3 (v := .int .u32 HI) rfl
    have p4 := x3.cell 4 (v := .slice A3 M.length c3) rfl
    have q0 := x4.cell 0 (v := .int .u32 X) rfl
    have q1 := x4.cell 1 (v := .int .u32 H) rfl
    have q2 := x4.cell 2 (v := .int .u32 LO) rfl
    have q3 := x4.cell 3 (v := .int .u32 HI) rfl
    have q4 := x4.cell 4 (v := .slice A4 M.length c4) rfl
    have HS := Lib.hid (sameRep X H LO HI A3 A4 c3 c4 M w5 (own_rd o3) r4 (by have := HML.out; have := HN.out; omega))
    go_wp2_with fail
    refine HS.out.mono ?_
    rintro e w6 ⟨rfl, hz⟩
    have ot := ot.below hz
    have o2 := o2.below hz
    have x2 := x2.below hz
    have o3 := o3.below hz
    have x3 := x3.below hz
    have r4 := r4.below hz
    have x4 := x4.below hz
    have hB := below_then hB hz
    clear hz HS p0 p1 p2 p3 p4 q0 q1 q2 q3 q4 r4 x4
    have lf := Lib.hid (left g cap A c l w6 (own_rd ot) Hcap.out (hr.below hB) hsz)
    go_wp2_with fail
    refine lf.out.mono ?_
    rintro e w7 ⟨rfl, nx, hz0⟩
    have hz := below_drawn hz0
    clear hz0 lf
    have ot := ot.below hz
    have o2 := o2.below hz
    have x2 := x2.below hz
    have o3 := o3.below hz
    have x3 := x3.below hz
    have hB := below_then hB hz
    clear hz
    have o1 : Own w7 w.heap.size (.slice (some ⟨g, 0, none⟩) l.length cap) l := own_prefix (m := [77]) ot (by simp) rfl
    clear ot
    have hbk := book_new w7
    have hz : Below w7.heap.size w7 (w7.alloc (.cells #[.int .i64 0, .slice none 0 0, .slice none 0 0, .slice none 0 0, .slice none 0 0, .slice none 0 0, .slice none 0 0, .slice none 0 0] 41)) := (Below.refl _ w7).alloc (Nat.le_refl _) _
    have hKB := Lib.hid (show w.heap.size ≤ w7.heap.size from hB.size)
    have o1 := (o1.below hz).lower (base' := w.heap.size) (Nat.le_refl _)
    have o2 := (o2.below hz).lower (base' := w.heap.size) s1.out
    have o3 := (o3.below hz).lower (base' := w.heap.size) (Nat.le_trans s1.out s2.out)
    have hB := below_then hB hz
    have x2 := x2.alloc (.cells #[.int .i64 0, .slice none 0 0, .slice none 0 0, .slice none 0 0, .slice none 0 0, .slice none 0 0, .slice none 0 0, .slice none 0 0] 41)
    have x3 := x3.alloc (.cells #[.int .i64 0, .slice none 0 0, .slice none 0 0, .slice none 0 0, .slice none 0 0, .slice none 0 0, .slice none 0 0, .slice none 0 0] 41)
    have gB := bookBytes' w7.heap.size w.heap.size _ [] (some ⟨g, 0, none⟩) l.length cap _ hbk (World.ownsRow_nil _ _ _ _) hKB.out (by simp)
    clear hz hbk
    go_wp2_with fail
    refine gB.mono ?_
    rintro e wb0 ⟨⟨vb, rfl⟩, Vb0, hbk, hrow, hz, hoth⟩
    have hown := fun base v l (ho : Own _ base v l) => hoth.own ho
    have x2 := hoth _ _ _ (by decide) (by decide) x2
    have x3 := hoth _ _ _ (by decide) (by decide) x3
    clear hoth
    have o1 := hown _ _ _ o1
    have o2 := hown _ _ _ o2
    have o3 := hown _ _ _ o3
    have hB := hB.trans hz
    clear gB
    have p0 := x2.cell 0 (v := .int .u32 X) rfl
    have p1 := x2.cell 1 (v := .int .u32 H) rfl
    have p2 := x2.cell 2 (v := .int .u32 LO) rfl
    have p3 := x2.cell 3 (v := .int .u32 HI) rfl
    have p4 := x2.cell 4 (v := .slice A2 M.length c2) rfl
    have gB := bookReply' w7.heap.size w.heap.size _ [.slice (some ⟨g, 0, none⟩) l.length cap] X H LO HI A2 M.length c2 _ hbk hrow hKB.out (by simp)
    clear hz hbk hown hrow
    go_wp2_with fail
    refine gB.mono ?_
    rintro e wb1 ⟨⟨vb, rfl⟩, Vb1, hbk, hrow, hz, hoth⟩
    have hown := fun base v l (ho : Own _ base v l) => hoth.own ho
    have x2 := hoth _ _ _ (by decide) (by decide) x2
    have x3 := hoth _ _ _ (by decide) (by decide) x3
    clear hoth
    have o1 := hown _ _ _ o1
    have o2 := hown _ _ _ o2
    have o3 := hown _ _ _ o3
    have hB := hB.trans hz
    clear gB
    have p0 := x3.cell 0 (v := .int .u32 X) rfl
    have p1 := x3.cell 1 (v := .int .u32 H) rfl
    have p2 := x3.cell 2 (v := .int .u32 LO) rfl
    have p3 := x3.cell 3 (v := .int .u32 HI) rfl
    have p4 := x3.cell 4 (v := .slice A3 M.length c3) rfl
    have gB := bookReply' w7.heap.size w.heap.size _ [.slice (some ⟨g, 0, none⟩) l.length cap, .slice A2 M.length c2] X H LO HI A3 M.length c3 _ hbk hrow hKB.out (by simp)
    clear hz hbk hown hrow
    go_wp2_with fail
    refine gB.mono ?_
    rintro e wb2 ⟨⟨vb, rfl⟩, Vb2, hbk, hrow, hz, hoth⟩
    have hown := fun base v l (ho : Own _ base v l) => hoth.own ho
    have x2 := hoth _ _ _ (by decide) (by decide) x2
    have x3 := hoth _ _ _ (by decide) (by decide) x3
    clear hoth
    have o1 := hown _ _ _ o1
    have o2 := hown _ _ _ o2
    have o3 := hown _ _ _ o3
    have hB := hB.trans hz
    clear gB
    have gA := apart w7.heap.size w.heap.size _ [.slice (some ⟨g, 0, none⟩) l.length cap, .slice A2 M.length c2, .slice A3 M.length c3] (fun j => match j with | 0 => l | 1 => M | _ => M) wb2 hbk hrow (by simp) (by simp) hB.size
      (fun j hj => match j, hj with | 0, _ => o1 | 1, _ => o2 | 2, _ => o3 | j + 3, hj => absurd hj (by simp))
      (fun j hj => match j, hj with | 0, _ => (show l.length ≤ 140737488351232 by have := HN.out; omega) | 1, _ => (show M.length ≤ 140737488351232 by have := HML.out; have := HN.out; omega) | 2, _ => (show M.length ≤ 140737488351232 by have := HML.out; have := HN.out; omega) | j + 3, hj => absurd hj (by simp))
      (distinct_of _ (fun j => match j with | 0 => w.heap.size | 1 => w1.heap.size | 2 => w2.heap.size | _ => w3.heap.size)
        (fun j => match j with | 0 => s1.out | 1 => s2.out | 2 => s3.out | j + 3 => Nat.le_refl _)
        (fun j hj => match j, hj with | 0, _ => W1.out | 1, _ => W2.out | 2, _ => W3.out | j + 3, hj => absurd hj (by simp)))
    clear hz hbk hown hrow o1 o2 o3
    go_wp2_with fail
    refine gA.mono ?_
    rintro e wz ⟨rfl, hz⟩
    have hB := hB.trans hz
    clear gA
    go_wp2
    go_ret
    exact ⟨rfl, hB⟩
end Go.Proofs.YtoodmjdafifbmaaDoor.Hand
