/- The bytes of a handle, and what handles.bytes hands back. -/
import Derived.Lib.SmallJoins
import Derived.Laws.Cover3
import Derived.Test.YtgkbfmbdpkkhnaaDoorWLast
import Derived.Test.YtgkbfmbdpkkhnaaDoorCrc
import Derived.Test.YtgkbfmbdpkkhnaaDoorCat
import Derived.Test.YtgkbfmbdpkkhnaaDoorPuts
namespace Go.Proofs.YtgkbfmbdpkkhnaaDoor.Hand
open Go.RowKit Go.Proofs.YtgkbfmbdpkkhnaaDoorW.PrintLast
set_option linter.unusedVariables false
set_option linter.unusedSimpArgs false

/-- The first twelve bytes of a handle; all of them. -/
def h12 (a g : Int) : List Int := [119, 104, 114, 102] ++ be a 4 ++ be g 4
def hb (a g : Int) : List Int := h12 a g ++ be (crc (h12 a g)) 4
theorem h12_length (a g : Int) : (h12 a g).length = 12 := by unfold h12; simp [be_length]
theorem hb_length (a g : Int) : (hb a g).length = 16 := by unfold hb; rw [List.length_append, h12_length, be_length]
theorem h12_bs (a g : Int) : Bs (h12 a g) := ((show Bs [119, 104, 114, 102] from by intro x hx; simp at hx; omega).append (be_bs _ _)).append (be_bs _ _)
theorem hb_bs (a g : Int) : Bs (hb a g) := (h12_bs a g).append (be_bs _ _)

theorem Own.form0 {w : World} {base : Nat} {v : Value} {l : List Int} (h : Own w base v l) (h0 : 0 < l.length) : ∃ b c, v = .slice (some ⟨b, 0, none⟩) l.length c ∧ l.length ≤ c ∧ Rd w (some ⟨b, 0, none⟩) l := by
  obtain ⟨A, c, hv, hc, _, hr⟩ := h.form
  obtain ⟨b, cap, hw⟩ := Go.Joins.ownsRow_form h.2 h0
  rw [hv] at hw
  injection hw with e1 _ e3
  subst e1
  exact ⟨b, c, hv, hc, hr⟩
def zero16 : Array Value := #[.int .u8 0, .int .u8 0, .int .u8 0, .int .u8 0, .int .u8 0, .int .u8 0, .int .u8 0, .int .u8 0, .int .u8 0, .int .u8 0, .int .u8 0, .int .u8 0, .int .u8 0, .int .u8 0, .int .u8 0, .int .u8 0]
def whrf : Array Value := #[.int .u8 119, .int .u8 104, .int .u8 114, .int .u8 102]
set_option maxRecDepth 100000 in
set_option maxHeartbeats 2000000 in
theorem hbytes (a g : Int) (w : World) (ha : 0 ≤ a) (ha' : a < 4294967296) (hg : 0 ≤ g) (hg' : g < 4294967296) :
    Calls Tryd.prog 69 #[.int .u32 a, .int .u32 g] w fun e w' => e = .returned (.agg ((hb a g).map (Value.int .u8)).toArray) ∧ Below w.heap.size w w' := by
  have hB : Below w.heap.size w ((w.alloc (.cells zero16 80)).alloc (.cells whrf 5 (4, 5))) := ((Below.refl _ w).alloc (Nat.le_refl _) _).alloc (by simp) _
  have cv := Go.Joins.run_convert_bytes_const_at (P := Tryd.prog) (w.alloc (.cells zero16 80)) 24 5 whrf 4 4 (w.heap.size + 1) (by simp) Tryd.underlying24 Tryd.underlying5
  have B0 := (Blk.new w 80 zero16).alloc (.cells whrf 5 (4, 5))
  have r1 : Rd ((w.alloc (.cells zero16 80)).alloc (.cells whrf 5 (4, 5))) (some ⟨w.heap.size + 1, 0, none⟩) [119, 104, 114, 102] := ⟨by intro x hx; simp at hx; omega, fun _ => ⟨_, rfl, fun k hk => by
    rw [add_plain, Go.Joins.cell_alloc_mark_at _ _ _ _ _ _ (by simp)]
    match k, hk with
    | 0, _ => rfl
    | 1, _ => rfl
    | 2, _ => rfl
    | 3, _ => rfl⟩⟩
  unfold zero16 whrf at *
  go_enter Tryd.func69, Tryd.ntmps69
  go_wp2_with fail
  refine (Put a ha ha' _).mono ?_
  rintro e w1 ⟨v1, rfl, o1, hx⟩
  have B0 := B0.below hx
  have r1 := r1.below hx
  have hB := below_then hB hx
  clear hx cv
  obtain ⟨A1, d1, rfl, _, _, r2⟩ := o1.form
  clear o1
  rw [be_length] at *
  go_wp2_with fail
  refine (Put g hg hg' _).mono ?_
  rintro e w2 ⟨v2, rfl, o2, hx⟩
  have B0 := B0.below hx
  have r1 := r1.below hx
  have r2 := r2.below hx
  have hB := below_then hB hx
  clear hx
  obtain ⟨A2, d2, rfl, _, _, r3⟩ := o2.form
  clear o2
  rw [be_length] at *
  have hcat := concat [(some ⟨w.heap.size + 1, 0, none⟩, 4, [119, 104, 114, 102]), (A1, d1, be a 4), (A2, d2, be g 4)] ⟨w2.heap.size, 0, none⟩ 3 (w2.alloc (.cells #[.slice (some ⟨w.heap.size + 1, 0, none⟩) 4 4, .slice A1 4 d1, .slice A2 4 d2] 24))
    (by
      intro k hk
      rw [add_plain, cell_of_row _ _ _ _ _ _ (heap_alloc_new w2 _)]
      match k, hk with
      | 0, _ => rfl
      | 1, _ => simp [pv, be_length]
      | 2, _ => simp [pv, be_length])
    (by
      intro k hk
      match k, hk with
      | 0, _ => exact r1.alloc _
      | 1, _ => exact r2.alloc _
      | 2, _ => exact r3.alloc _)
    (by simp [flat, be_length]) (by simp)
  rw [show flat [(some ⟨w.heap.size + 1, 0, none⟩, 4, [119, 104, 114, 102]), (A1, d1, be a 4), (A2, d2, be g 4)] = h12 a g from by simp [flat, h12]] at hcat
  have B0 := B0.alloc (.cells #[.slice (some ⟨w.heap.size + 1, 0, none⟩) 4 4, .slice A1 4 d1, .slice A2 4 d2] 24)
  have hB := hB.alloc hB.size (.cells #[.slice (some ⟨w.heap.size + 1, 0, none⟩) 4 4, .slice A1 4 d1, .slice A2 4 d2] 24)
  clear r1 r2 r3
  go_wp2_with fail
  refine hcat.mono ?_
  rintro e w3 ⟨v3, rfl, o3, hx⟩
  have B0 := B0.below hx
  have hB := below_then hB hx
  clear hx hcat
  obtain ⟨A3, d3, rfl, _, _, r3⟩ := o3.form
  clear o3
  have hl := h12_length a g
  have hsum := sum A3 d3 (h12 a g) w3 r3 (by omega)
  rw [hl] at hsum
  rw [hl]
  have hcb := crc_bound (h12_bs a g)
  go_wp2_with fail
  refine hsum.mono ?_
  rintro e w3' ⟨rfl, rfl⟩
  clear hsum
  go_wp2_with fail
  refine (Put (crc (h12 a g)) hcb.1 hcb.2 _).mono ?_
  rintro e w4 ⟨v4, rfl, o4, hx⟩
  have B0 := B0.below hx
  have r3 := r3.below hx
  have hB := below_then hB hx
  clear hx
  obtain ⟨A4, d4, rfl, _, _, r4⟩ := o4.form
  clear o4
  rw [be_length] at *
  have hcat := concat [(A3, d3, h12 a g), (A4, d4, be (crc (h12 a g)) 4)] ⟨w4.heap.size, 0, none⟩ 2 (w4.alloc (.cells #[.slice A3 12 d3, .slice A4 4 d4] 24))
    (by
      intro k hk
      rw [add_plain, cell_of_row _ _ _ _ _ _ (heap_alloc_new w4 _)]
      match k, hk with
      | 0, _ => simp [pv, hl]
      | 1, _ => simp [pv, be_length])
    (by
      intro k hk
      match k, hk with
      | 0, _ => exact r3.alloc _
      | 1, _ => exact r4.alloc _)
    (by simp [flat, be_length, hl]) (by simp)
  rw [show flat [(A3, d3, h12 a g), (A4, d4, be (crc (h12 a g)) 4)] = hb a g from by simp [flat, hb]] at hcat
  have B0 := B0.alloc (.cells #[.slice A3 12 d3, .slice A4 4 d4] 24)
  have hB := hB.alloc hB.size (.cells #[.slice A3 12 d3, .slice A4 4 d4] 24)
  clear r3 r4
  go_wp2_with fail
  refine hcat.mono ?_
  rintro e w5 ⟨v5, rfl, o5, hx⟩
  have B0 := B0.below hx
  have hB := below_then hB hx
  clear hx hcat
  obtain ⟨b5, d5, rfl, _, r5⟩ := o5.form0 (by rw [hb_length]; decide)
  clear o5
  have hL := hb_length a g
  obtain ⟨L, e⟩ : ∃ L, L = hb a g := ⟨_, rfl⟩
  rw [← e] at hL r5 ⊢
  have E := Lib.hid e
  clear e
  match L, hL, r5, E with
  | [x0, x1, x2, x3, x4, x5, x6, x7, x8, x9, x10, x11, x12, x13, x14, x15], hL, r5, E =>
    obtain ⟨ad, e5, hk⟩ := r5.2 (by simp)
    injection e5 with e5
    subst e5
    simp only [add_plain] at hk
    have k0 := hk 0 (by simp)
    have k1 := hk 1 (by simp)
    have k2 := hk 2 (by simp)
    have k3 := hk 3 (by simp)
    have k4 := hk 4 (by simp)
    have k5 := hk 5 (by simp)
    have k6 := hk 6 (by simp)
    have k7 := hk 7 (by simp)
    have k8 := hk 8 (by simp)
    have k9 := hk 9 (by simp)
    have k10 := hk 10 (by simp)
    have k11 := hk 11 (by simp)
    have k12 := hk 12 (by simp)
    have k13 := hk 13 (by simp)
    have k14 := hk 14 (by simp)
    have k15 := hk 15 (by simp)
    simp only [nth, List.getD_cons_zero, List.getD_cons_succ] at k0 k1 k2 k3 k4 k5 k6 k7 k8 k9 k10 k11 k12 k13 k14 k15
    clear hk r5 hL
    have hat := Go.run_arrayAt (P := Tryd.prog) (w := w5) 80 5 16 (some ⟨b5, 0, none⟩) 16 d5 Tryd.underlying80 (by decide)
    have q0 := B0.cell 0 (v := .int .u8 0) rfl
    have f0 := B0.frozen 0
    have q1 := B0.cell 1 (v := .int .u8 0) rfl
    have f1 := B0.frozen 1
    have q2 := B0.cell 2 (v := .int .u8 0) rfl
    have f2 := B0.frozen 2
    have q3 := B0.cell 3 (v := .int .u8 0) rfl
    have f3 := B0.frozen 3
    have q4 := B0.cell 4 (v := .int .u8 0) rfl
    have f4 := B0.frozen 4
    have q5 := B0.cell 5 (v := .int .u8 0) rfl
    have f5 := B0.frozen 5
    have q6 := B0.cell 6 (v := .int .u8 0) rfl
    have f6 := B0.frozen 6
    have q7 := B0.cell 7 (v := .int .u8 0) rfl
    have f7 := B0.frozen 7
    have q8 := B0.cell 8 (v := .int .u8 0) rfl
    have f8 := B0.frozen 8
    have q9 := B0.cell 9 (v := .int .u8 0) rfl
    have f9 := B0.frozen 9
    have q10 := B0.cell 10 (v := .int .u8 0) rfl
    have f10 := B0.frozen 10
    have q11 := B0.cell 11 (v := .int .u8 0) rfl
    have f11 := B0.frozen 11
    have q12 := B0.cell 12 (v := .int .u8 0) rfl
    have f12 := B0.frozen 12
    have q13 := B0.cell 13 (v := .int .u8 0) rfl
    have f13 := B0.frozen 13
    have q14 := B0.cell 14 (v := .int .u8 0) rfl
    have f14 := B0.frozen 14
    have q15 := B0.cell 15 (v := .int .u8 0) rfl
    have f15 := B0.frozen 15
    go_wp2
    have B0 : Blk _ w.heap.size 80 #[.int .u8 x0, .int .u8 0, .int .u8 0, .int .u8 0, .int .u8 0, .int .u8 0, .int .u8 0, .int .u8 0, .int .u8 0, .int .u8 0, .int .u8 0, .int .u8 0, .int .u8 0, .int .u8 0, .int .u8 0, .int .u8 0] := B0.set_ 0 (.int .u8 x0)
    have hB := hB.setCell (p := ⟨w.heap.size, 0, none⟩) (by simp) (.int .u8 x0)
    have B0 : Blk _ w.heap.size 80 #[.int .u8 x0, .int .u8 x1, .int .u8 0, .int .u8 0, .int .u8 0, .int .u8 0, .int .u8 0, .int .u8 0, .int .u8 0, .int .u8 0, .int .u8 0, .int .u8 0, .int .u8 0, .int .u8 0, .int .u8 0, .int .u8 0] := B0.set_ 1 (.int .u8 x1)
    have hB := hB.setCell (p := ⟨w.heap.size, 1, none⟩) (by simp) (.int .u8 x1)
    have B0 : Blk _ w.heap.size 80 #[.int .u8 x0, .int .u8 x1, .int .u8 x2, .int .u8 0, .int .u8 0, .int .u8 0, .int .u8 0, .int .u8 0, .int .u8 0, .int .u8 0, .int .u8 0, .int .u8 0, .int .u8 0, .int .u8 0, .int .u8 0, .int .u8 0] := B0.set_ 2 (.int .u8 x2)
    have hB := hB.setCell (p := ⟨w.heap.size, 2, none⟩) (by simp) (.int .u8 x2)
    have B0 : Blk _ w.heap.size 80 #[.int .u8 x0, .int .u8 x1, .int .u8 x2, .int .u8 x3, .int .u8 0, .int .u8 0, .int .u8 0, .int .u8 0, .int .u8 0, .int .u8 0, .int .u8 0, .int .u8 0, .int .u8 0, .int .u8 0, .int .u8 0, .int .u8 0] := B0.set_ 3 (.int .u8 x3)
    have hB := hB.setCell (p := ⟨w.heap.size, 3, none⟩) (by simp) (.int .u8 x3)
    have B0 : Blk _ w.heap.size 80 #[.int .u8 x0, .int .u8 x1, .int .u8 x2, .int .u8 x3, .int .u8 x4, .int .u8 0, .int .u8 0, .int .u8 0, .int .u8 0, .int .u8 0, .int .u8 0, .int .u8 0, .int .u8 0, .int .u8 0, .int .u8 0, .int .u8 0] := B0.set_ 4 (.int .u8 x4)
    have hB := hB.setCell (p := ⟨w.heap.size, 4, none⟩) (by simp) (.int .u8 x4)
    have B0 : Blk _ w.heap.size 80 #[.int .u8 x0, .int .u8 x1, .int .u8 x2, .int .u8 x3, .int .u8 x4, .int .u8 x5, .int .u8 0, .int .u8 0, .int .u8 0, .int .u8 0, .int .u8 0, .int .u8 0, .int .u8 0, .int .u8 0, .int .u8 0, .int .u8 0] := B0.set_ 5 (.int .u8 x5)
    have hB := hB.setCell (p := ⟨w.heap.size, 5, none⟩) (by simp) (.int .u8 x5)
    have B0 : Blk _ w.heap.size 80 #[.int .u8 x0, .int .u8 x1, .int .u8 x2, .int .u8 x3, .int .u8 x4, .int .u8 x5, .int .u8 x6, .int .u8 0, .int .u8 0, .int .u8 0, .int .u8 0, .int .u8 0, .int .u8 0, .int .u8 0, .int .u8 0, .int .u8 0] := B0.set_ 6 (.int .u8 x6)
    have hB := hB.setCell (p := ⟨w.heap.size, 6, none⟩) (by simp) (.int .u8 x6)
    have B0 : Blk _ w.heap.size 80 #[.int .u8 x0, .int .u8 x1, .int .u8 x2, .int .u8 x3, .int .u8 x4, .int .u8 x5, .int .u8 x6, .int .u8 x7, .int .u8 0, .int .u8 0, .int .u8 0, .int .u8 0, .int .u8 0, .int .u8 0, .int .u8 0, .int .u8 0] := B0.set_ 7 (.int .u8 x7)
    have hB := hB.setCell (p := ⟨w.heap.size, 7, none⟩) (by simp) (.int .u8 x7)
    have B0 : Blk _ w.heap.size 80 #[.int .u8 x0, .int .u8 x1, .int .u8 x2, .int .u8 x3, .int .u8 x4, .int .u8 x5, .int .u8 x6, .int .u8 x7, .int .u8 x8, .int .u8 0, .int .u8 0, .int .u8 0, .int .u8 0, .int .u8 0, .int .u8 0, .int .u8 0] := B0.set_ 8 (.int .u8 x8)
    have hB := hB.setCell (p := ⟨w.heap.size, 8, none⟩) (by simp) (.int .u8 x8)
    have B0 : Blk _ w.heap.size 80 #[.int .u8 x0, .int .u8 x1, .int .u8 x2, .int .u8 x3, .int .u8 x4, .int .u8 x5, .int .u8 x6, .int .u8 x7, .int .u8 x8, .int .u8 x9, .int .u8 0, .int .u8 0, .int .u8 0, .int .u8 0, .int .u8 0, .int .u8 0] := B0.set_ 9 (.int .u8 x9)
    have hB := hB.setCell (p := ⟨w.heap.size, 9, none⟩) (by simp) (.int .u8 x9)
    have B0 : Blk _ w.heap.size 80 #[.int .u8 x0, .int .u8 x1, .int .u8 x2, .int .u8 x3, .int .u8 x4, .int .u8 x5, .int .u8 x6, .int .u8 x7, .int .u8 x8, .int .u8 x9, .int .u8 x10, .int .u8 0, .int .u8 0, .int .u8 0, .int .u8 0, .int .u8 0] := B0.set_ 10 (.int .u8 x10)
    have hB := hB.setCell (p := ⟨w.heap.size, 10, none⟩) (by simp) (.int .u8 x10)
    have B0 : Blk _ w.heap.size 80 #[.int .u8 x0, .int .u8 x1, .int .u8 x2, .int .u8 x3, .int .u8 x4, .int .u8 x5, .int .u8 x6, .int .u8 x7, .int .u8 x8, .int .u8 x9, .int .u8 x10, .int .u8 x11, .int .u8 0, .int .u8 0, .int .u8 0, .int .u8 0] := B0.set_ 11 (.int .u8 x11)
    have hB := hB.setCell (p := ⟨w.heap.size, 11, none⟩) (by simp) (.int .u8 x11)
    have B0 : Blk _ w.heap.size 80 #[.int .u8 x0, .int .u8 x1, .int .u8 x2, .int .u8 x3, .int .u8 x4, .int .u8 x5, .int .u8 x6, .int .u8 x7, .int .u8 x8, .int .u8 x9, .int .u8 x10, .int .u8 x11, .int .u8 x12, .int .u8 0, .int .u8 0, .int .u8 0] := B0.set_ 12 (.int .u8 x12)
    have hB := hB.setCell (p := ⟨w.heap.size, 12, none⟩) (by simp) (.int .u8 x12)
    have B0 : Blk _ w.heap.size 80 #[.int .u8 x0, .int .u8 x1, .int .u8 x2, .int .u8 x3, .int .u8 x4, .int .u8 x5, .int .u8 x6, .int .u8 x7, .int .u8 x8, .int .u8 x9, .int .u8 x10, .int .u8 x11, .int .u8 x12, .int .u8 x13, .int .u8 0, .int .u8 0] := B0.set_ 13 (.int .u8 x13)
    have hB := hB.setCell (p := ⟨w.heap.size, 13, none⟩) (by simp) (.int .u8 x13)
    have B0 : Blk _ w.heap.size 80 #[.int .u8 x0, .int .u8 x1, .int .u8 x2, .int .u8 x3, .int .u8 x4, .int .u8 x5, .int .u8 x6, .int .u8 x7, .int .u8 x8, .int .u8 x9, .int .u8 x10, .int .u8 x11, .int .u8 x12, .int .u8 x13, .int .u8 x14, .int .u8 0] := B0.set_ 14 (.int .u8 x14)
    have hB := hB.setCell (p := ⟨w.heap.size, 14, none⟩) (by simp) (.int .u8 x14)
    have B0 : Blk _ w.heap.size 80 #[.int .u8 x0, .int .u8 x1, .int .u8 x2, .int .u8 x3, .int .u8 x4, .int .u8 x5, .int .u8 x6, .int .u8 x7, .int .u8 x8, .int .u8 x9, .int .u8 x10, .int .u8 x11, .int .u8 x12, .int .u8 x13, .int .u8 x14, .int .u8 x15] := B0.set_ 15 (.int .u8 x15)
    have hB := hB.setCell (p := ⟨w.heap.size, 15, none⟩) (by simp) (.int .u8 x15)
    have c0 := B0.cell 0 (v := .int .u8 x0) rfl
    have c1 := B0.cell 1 (v := .int .u8 x1) rfl
    have c2 := B0.cell 2 (v := .int .u8 x2) rfl
    have c3 := B0.cell 3 (v := .int .u8 x3) rfl
    have c4 := B0.cell 4 (v := .int .u8 x4) rfl
    have c5 := B0.cell 5 (v := .int .u8 x5) rfl
    have c6 := B0.cell 6 (v := .int .u8 x6) rfl
    have c7 := B0.cell 7 (v := .int .u8 x7) rfl
    have c8 := B0.cell 8 (v := .int .u8 x8) rfl
    have c9 := B0.cell 9 (v := .int .u8 x9) rfl
    have c10 := B0.cell 10 (v := .int .u8 x10) rfl
    have c11 := B0.cell 11 (v := .int .u8 x11) rfl
    have c12 := B0.cell 12 (v := .int .u8 x12) rfl
    have c13 := B0.cell 13 (v := .int .u8 x13) rfl
    have c14 := B0.cell 14 (v := .int .u8 x14) rfl
    have c15 := B0.cell 15 (v := .int .u8 x15) rfl
    exact bodyPost_ret (v := .agg #[.int .u8 x0, .int .u8 x1, .int .u8 x2, .int .u8 x3, .int .u8 x4, .int .u8 x5, .int .u8 x6, .int .u8 x7, .int .u8 x8, .int .u8 x9, .int .u8 x10, .int .u8 x11, .int .u8 x12, .int .u8 x13, .int .u8 x14, .int .u8 x15]) (by simp [results, Tryd.f69, go_sem, c0, c1, c2, c3, c4, c5, c6, c7, c8, c9, c10, c11, c12, c13, c14, c15]) rfl ⟨by rw [← E.out]; rfl, hB⟩
end Go.Proofs.YtgkbfmbdpkkhnaaDoor.Hand
