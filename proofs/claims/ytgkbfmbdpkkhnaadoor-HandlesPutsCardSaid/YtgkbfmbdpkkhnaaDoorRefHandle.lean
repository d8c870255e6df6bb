/- What the reference's Put (a number) and bytes (of a handle) hand back. -/
import Derived.Test.YtgkbfmbdpkkhnaaDoorRefPut
import Derived.Test.YtgkbfmbdpkkhnaaDoorRefCrc
import Derived.Test.YtgkbfmbdpkkhnaaDoorFull
import Derived.Test.YtgkbfmbdpkkhnaaDoorHandle
namespace Go.Proofs.YtgkbfmbdpkkhnaaDoor.Hand
open Go.RowKit
set_option linter.unusedVariables false

set_option maxRecDepth 100000 in
set_option maxHeartbeats 2000000 in
theorem rhbytes (a g : Int) (w : World) (ha : 0 ≤ a) (ha' : a < 4294967296) (hg : 0 ≤ g) (hg' : g < 4294967296) :
    Calls Tryd.prog 71 #[.int .u32 a, .int .u32 g] w fun e w' => ∃ v, e = .returned v ∧ Own w' w.heap.size v (hb a g) ∧ Below w.heap.size w w' := by
  have cv := Go.Joins.run_convert_bytes_const_at (P := Tryd.prog) w 24 5 whrf 4 4 w.heap.size rfl Tryd.underlying24 Tryd.underlying5
  have hB : Below w.heap.size w (w.alloc (.cells whrf 5 (4, 5))) := (Below.refl _ _).alloc (Nat.le_refl _) _
  have r1 : Rd (w.alloc (.cells whrf 5 (4, 5))) (some ⟨w.heap.size, 0, none⟩) [119, 104, 114, 102] := ⟨by intro x hx; simp at hx; omega, fun _ => ⟨_, rfl, fun k hk => by
    rw [add_plain, Go.Joins.cell_alloc_mark_at _ _ _ _ _ _ rfl]
    match k, hk with
    | 0, _ => rfl
    | 1, _ => rfl
    | 2, _ => rfl
    | 3, _ => rfl⟩⟩
  unfold whrf at *
  go_enter Tryd.func71, Tryd.ntmps71
  go_wp2_with fail
  refine (rput a _ ha ha').mono ?_
  rintro e w1 ⟨v1, rfl, o1, hx⟩
  have r1 := r1.below hx
  have hB := below_then hB hx
  clear hx cv
  obtain ⟨A1, c1, rfl, _, _, r2⟩ := o1.form
  clear o1
  rw [be_length]
  go_wp2_with (at_builtin; refine wpList_full rfl _ _ rfl rfl _ ⟨w.heap.size, 0, none⟩ [119, 104, 114, 102] rfl r1 A1 c1 (be a 4) rfl r2 (by rw [be_length]; decide) ?h1 ?h2)
  case h1 => simp [be_length]
  case h2 =>
    intro v2 w2 o2 hx
    have o2 := o2.lower hB.size
    have hB := below_then hB hx
    clear hx r1 r2
    go_wp2_with fail
    refine (rput g _ hg hg').mono ?_
    rintro e w3 ⟨v3, rfl, o3, hx⟩
    have o2 := o2.below hx
    have hB := below_then hB hx
    clear hx
    obtain ⟨A3, c3, rfl, _, _, r3⟩ := o3.form
    clear o3
    rw [be_length]
    go_wp2_with (at_builtin; refine wpList_app rfl _ _ rfl rfl _ w.heap.size v2 ([119, 104, 114, 102] ++ be a 4) rfl o2 A3 c3 (be g 4) rfl r3 ?h3 hB.size ?h4)
    case h3 => simp [be_length]
    case h4 =>
      intro v4 w4 o4 hg4 _
      have hB := o2.grown hB hB.size hg4
      clear o2 hg4 r3
      have o4 : Own w4 w.heap.size v4 (h12 a g) := o4
      obtain ⟨A4, c4, rfl, _, _, r4⟩ := o4.form
      have hsum := rsum A4 c4 (h12 a g) w4 r4 (by rw [h12_length]; decide)
      have hcb := crc_bound (h12_bs a g)
      rw [h12_length] at hsum o4 ⊢
      go_wp2_with fail
      refine hsum.mono ?_
      rintro e w5 ⟨rfl, rfl⟩
      clear hsum r4
      go_wp2_with fail
      refine (rput (crc (h12 a g)) _ hcb.1 hcb.2).mono ?_
      rintro e w6 ⟨v6, rfl, o6, hx⟩
      have o4 := o4.below hx
      have hB := below_then hB hx
      clear hx
      obtain ⟨A6, c6, rfl, _, _, r6⟩ := o6.form
      clear o6
      rw [be_length]
      go_wp2_with (at_builtin; refine wpList_app rfl _ _ rfl rfl _ w.heap.size (.slice A4 12 c4) (h12 a g) rfl o4 A6 c6 (be (crc (h12 a g)) 4) rfl r6 ?h5 hB.size ?h6)
      case h5 => simp [be_length, h12_length]
      case h6 =>
        intro v7 w7 o7 hg7 _
        have hB := o4.grown hB hB.size hg7
        clear o4 hg7 r6
        have o7 : Own w7 w.heap.size v7 (hb a g) := o7
        go_wp2
        go_ret
        exact ⟨_, rfl, o7, hB⟩
end Go.Proofs.YtgkbfmbdpkkhnaaDoor.Hand
