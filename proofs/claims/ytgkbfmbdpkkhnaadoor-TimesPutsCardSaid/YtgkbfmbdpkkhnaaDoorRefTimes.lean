/- What the reference of chapter 09 hands back for Put and Get. -/
import Derived.Test.YtgkbfmbdpkkhnaaDoorWLast
import Derived.Test.YtgkbfmbdpkkhnaaDoorRefPut
import Derived.Test.YtgkbfmbdpkkhnaaDoorRef
import Derived.Test.YtgkbfmbdpkkhnaaDoorTimesPut
namespace Go.Proofs.YtgkbfmbdpkkhnaaDoor.Hand
open Go.RowKit Go.Proofs.YtgkbfmbdpkkhnaaDoorW.PrintLast
set_option linter.unusedVariables false
set_option linter.unusedSimpArgs false

set_option maxRecDepth 100000 in
set_option maxHeartbeats 2000000 in
theorem rtput (s n : Int) (w : World) (hs : 0 ≤ s) (hs' : s < 4294967296) (hn : 0 ≤ n) (hn' : n < 4294967296) :
    Calls Tryd.prog 26 #[.agg #[.int .u32 s, .int .u32 n]] w fun e w' => ∃ v, e = .returned v ∧ Own w' w.heap.size v (tb s n) ∧ Below w.heap.size w w' := by
  have b1 := Blk.new w 47 #[.int .u32 s, .int .u32 n]
  have hB : Below w.heap.size w (w.alloc (.cells #[.int .u32 s, .int .u32 n] 47)) := (Below.refl _ _).alloc (Nat.le_refl _) _
  go_enter Tryd.func26, Tryd.ntmps26
  go_wp2_with fail
  generalize w.alloc (.cells #[.int .u32 s, .int .u32 n] 47) = W at *
  have hB := below_then hB (below_drawn (w1 := W.drew) (n := 1) rfl)
  have b1 := b1.drew
  have k0 := b1.cell 0 (v := .int .u32 s) rfl
  have k1 := b1.cell 1 (v := .int .u32 n) rfl
  refine start_ (n := 8) (S := fun w' => w'.cell? ⟨w.heap.size, 0, none⟩ = some (.int .u32 s) ∧ w'.cell? ⟨w.heap.size, 1, none⟩ = some (.int .u32 n)) (ds := []) #[false, false, false, false, false, false, false, false] (by kernel_rfl) rfl rfl ⟨k0, k1⟩ (fun hHeld => ?_)
  refine pure_ (i := 0) (N := some 3) (v := ?_) (a' := ?_) #[true, false, false, false, false, false, false, false] rfl rfl (by kernel_rfl) (fun _ _ _ h => h) (Or.inl ⟨by rfl, ?_⟩) ?_ ?_
  rotate_left
  · intro w'
    go_simp
    with_reducible rfl
  rotate_left
  · simp only [Act.put, List.setIfInBounds_toArray, List.set_cons_zero, List.set_cons_succ, i64_w, i32_w]
    rfl
  refine pure_ (i := 3) (N := some 6) (v := ?_) (a' := ?_) #[true, false, false, true, false, false, false, false] rfl rfl (by kernel_rfl) (fun _ _ _ h => h) (Or.inl ⟨by rfl, ?_⟩) ?_ ?_
  rotate_left
  · intro w'
    go_simp
    with_reducible rfl
  rotate_left
  · simp only [Act.put, List.setIfInBounds_toArray, List.set_cons_zero, List.set_cons_succ, i64_w, i32_w]
    rfl
  refine take_ (i := 1) (N := some 4) (v := ?_) (a' := ?_) #[true, true, false, true, false, false, false, false] rfl rfl (by kernel_rfl) (fun _ _ _ h => h) (Or.inl ⟨by rfl, ?_⟩) hHeld ?_ ?_
  rotate_left
  · rintro w' ⟨s0, s1⟩
    go_simp
    with_reducible rfl
  rotate_left
  · simp only [Act.put, List.setIfInBounds_toArray, List.set_cons_zero, List.set_cons_succ, i64_w, i32_w]
    rfl
  refine take_ (i := 4) (N := some 7) (v := ?_) (a' := ?_) #[true, true, false, true, true, false, false, false] rfl rfl (by kernel_rfl) (fun _ _ _ h => h) (Or.inl ⟨by rfl, ?_⟩) hHeld ?_ ?_
  rotate_left
  · rintro w' ⟨s0, s1⟩
    go_simp
    with_reducible rfl
  rotate_left
  · simp only [Act.put, List.setIfInBounds_toArray, List.set_cons_zero, List.set_cons_succ, i64_w, i32_w]
    rfl
  refine one_ (i := 2) (N := some 5) #[true, true, true, true, true, false, false, false] rfl rfl (by kernel_rfl) (by decide) (fun K hK => ?_)
  refine goes_ Tryd.func13 (by kernel_rfl) rfl #[.int .u32 s] (by rfl) rfl rfl (by simp only [List.map_toArray, List.map_cons, List.map_nil]; rfl) ?_
  with_reducible refine (rput _ _ hs hs').mono ?_
  rintro e w1 ⟨v1, rfl, ho1, hbx⟩
  refine ⟨_, rfl, ?_⟩
  have b1 := b1.below hbx
  have k0 := b1.cell 0 (v := .int .u32 s) rfl
  have k1 := b1.cell 1 (v := .int .u32 n) rfl
  have ho1 := ho1.lower hB.size
  have hB := below_then hB hbx
  clear hbx
  refine hK.out _ _ ⟨k0, k1⟩ (fun hHeld => ?_)
  clear hK K
  refine norm_ (a' := ?_) ?_ ?_
  rotate_left
  · show Act.put _ (some 5) _ = _
    simp only [Act.put, List.setIfInBounds_toArray, List.set_cons_zero, List.set_cons_succ, i64_w, i32_w]
    rfl
  refine one_ (i := 5) (N := some 8) #[true, true, true, true, true, true, false, false] rfl rfl (by kernel_rfl) (by decide) (fun K hK => ?_)
  refine goes_ Tryd.func13 (by kernel_rfl) rfl #[.int .u32 n] (by rfl) rfl rfl (by simp only [List.map_toArray, List.map_cons, List.map_nil]; rfl) ?_
  with_reducible refine (rput _ _ hn hn').mono ?_
  rintro e w2 ⟨v2, rfl, ho2, hbx⟩
  refine ⟨_, rfl, ?_⟩
  have b1 := b1.below hbx
  have k0 := b1.cell 0 (v := .int .u32 s) rfl
  have k1 := b1.cell 1 (v := .int .u32 n) rfl
  have ho1 := ho1.below hbx
  have ho2 := ho2.lower hB.size
  have hB := below_then hB hbx
  clear hbx
  obtain ⟨A2, c2, rfl, _, _, hr2⟩ := ho2.form
  rw [be_length]
  refine hK.out _ _ ⟨k0, k1⟩ (fun hHeld => ?_)
  clear hK K
  refine norm_ (a' := ?_) ?_ ?_
  rotate_left
  · show Act.put _ (some 8) _ = _
    simp only [Act.put, List.setIfInBounds_toArray, List.set_cons_zero, List.set_cons_succ, i64_w, i32_w]
    rfl
  refine one_ (i := 6) (N := some 9) #[true, true, true, true, true, true, true, false] rfl rfl (by kernel_rfl) (by decide) (fun K hK => ?_)
  rw [if_pos (by rfl)]
  refine wp_app _ _ rfl rfl _ w.heap.size v1 (be s 4) rfl ho1 A2 c2 (be n 4) (by rw [be_length]; rfl) hr2 (by rw [be_length, be_length]; decide) hB.size ?_
  intro v3 w3 ho3 hg3 _
  have hB3 := ho1.grown hB hB.size hg3
  have b1 := b1.grown hg3 (ho1.blk_ne b1 (by decide))
  have k0 := b1.cell 0 (v := .int .u32 s) rfl
  have k1 := b1.cell 1 (v := .int .u32 n) rfl
  refine hK.out _ _ ⟨k0, k1⟩ (fun hHeld => ?_)
  clear hK K
  refine norm_ (a' := ?_) ?_ ?_
  rotate_left
  · show Act.put _ (some 9) _ = _
    simp only [Act.put, List.setIfInBounds_toArray, List.set_cons_zero, List.set_cons_succ, i64_w, i32_w]
    rfl
  refine pure_ (i := 7) (N := some 2) (v := ?_) (a' := ?_) #[true, true, true, true, true, true, true, true] rfl rfl (by kernel_rfl) (fun _ _ _ h => h) (Or.inl ⟨by rfl, ?_⟩) ?_ ?_
  rotate_left
  · intro w'
    go_simp
    with_reducible rfl
  rotate_left
  · simp only [Act.put, List.setIfInBounds_toArray, List.set_cons_zero, List.set_cons_succ, i64_w, i32_w]
    rfl
  refine done_ (by kernel_rfl) ?_
  go_wp2
  go_ret
  exact ⟨v3, rfl, ho3, hB3⟩

theorem num_halves (l : List Int) : num l 8 = num l 4 * 4294967296 + num (l.drop 4) 4 := by
  simp only [num, nth_drop, Nat.reduceAdd]
  omega

set_option maxRecDepth 100000 in
set_option maxHeartbeats 2000000 in
theorem rtget (A : Option Addr) (c : Nat) (l : List Int) (w : World) (hr : Rd w A l) (hc : l.length ≤ c) :
    Calls Tryd.prog 25 #[.slice A l.length c] w fun e w' => e = .returned (tgetV l) ∧ Below w.heap.size w w' := by
  have b2 := Blk.new w 47 #[.int .u32 0, .int .u32 0]
  have hB : Below w.heap.size w (w.alloc (.cells #[.int .u32 0, .int .u32 0] 47)) := (Below.refl _ _).alloc (Nat.le_refl _) _
  unfold tgetV
  by_cases h8 : l.length < 8
  · rw [if_pos h8]
    have h8i : (l.length : Int) < 8 := by omega
    have k0 := b2.cell 0 (v := .int .u32 0) rfl
    have k1 := b2.cell 1 (v := .int .u32 0) rfl
    have f0 := b2.frozen 0
    have f1 := b2.frozen 1
    go_enter Tryd.func25, Tryd.ntmps25
    go_wp2
    have c0 := ((b2.set_ 0 (.int .u32 0)).set_ 1 (.int .u32 0)).cell 0 (v := .int .u32 0) rfl
    have c1 := ((b2.set_ 0 (.int .u32 0)).set_ 1 (.int .u32 0)).cell 1 (v := .int .u32 0) rfl
    have hB2 := (hB.setCell (p := ⟨w.heap.size, 0, none⟩) (by simp) (.int .u32 0)).setCell (p := ⟨w.heap.size, 1, none⟩) (by simp) (.int .u32 0)
    first
      | exact bodyPost_ret (v := .tuple #[.agg #[.int .u32 0, .int .u32 0], .int .i64 4]) (by simp [results, Tryd.f25, go_sem, c0, c1]) rfl ⟨rfl, hB2⟩
      | exact bodyPost_ret (v := .tuple #[.agg #[.int .u32 0, .int .u32 0], .int .i64 4]) (by simp [results, Tryd.f25, go_sem]) rfl ⟨rfl, hB⟩
  · rw [if_neg h8]
    have h8i : ¬ (l.length : Int) < 8 := by omega
    have hn := num8 hr.1
    have hn4 := num4 hr.1
    have hn5 := num4 (hr.1.drop 4)
    have g1 := rget32 A c l _ (hr.alloc (.cells #[.int .u32 0, .int .u32 0] 47))
    have hc4 : ¬ c = 4 := by omega
    have g2 := rget32 (A.map (·.add 4)) (c - 4) (l.drop 4) (w.alloc (.cells #[.int .u32 0, .int .u32 0] 47)) (by have := (hr.alloc (.cells #[.int .u32 0, .int .u32 0] 47)).drop 4 c hc; rwa [if_neg hc4] at this)
    rw [get32_ok (by omega)] at g1
    rw [get32_ok (by rw [List.length_drop]; omega), List.length_drop] at g2
    have e8 := num_halves l
    have d1 : num l 8 / 4294967296 = num l 4 := by omega
    have d2 : num l 8 % 4294967296 = num (l.drop 4) 4 := by omega
    rw [d1, d2]
    clear d1 d2 e8 hn
    generalize num l 4 = x at *
    generalize num (l.drop 4) 4 = y at *
    have b6 := Blk.new (w.alloc (.cells #[.int .u32 0, .int .u32 0] 47)) 47 #[.int .u32 x, .int .u32 y]
    have b2 := b2.alloc (.cells #[.int .u32 x, .int .u32 y] 47)
    have hB := hB.alloc hB.size (.cells #[.int .u32 x, .int .u32 y] 47)
    rw [World.size_alloc] at b6
    have hck := rcheck x y ((w.alloc (.cells #[.int .u32 0, .int .u32 0] 47)).alloc (.cells #[.int .u32 x, .int .u32 y] 47))
    have q4 : (4 : Int) ≤ (l.length : Int) := by omega
    have q5 : (l.length : Int) ≤ (c : Int) := by omega
    have q6 : 4 ≤ l.length := by omega
    by_cases h9 : y < 1000000000
    · rw [if_pos h9]
      rw [decide_eq_true h9] at hck
      go_enter Tryd.func25, Tryd.ntmps25
      go_wp2_with fail
      refine g1.mono ?_
      rintro e w1 ⟨rfl, rfl⟩
      go_wp2_with fail
      refine g2.mono ?_
      rintro e w1 ⟨rfl, rfl⟩
      go_wp2_with fail
      refine hck.mono ?_
      rintro e w1 ⟨rfl, hb⟩
      have b2 := b2.below hb
      have b6 := b6.below hb
      have hB := below_then hB hb
      clear hb hck g1 g2
      have k0 := b2.cell 0 (v := .int .u32 0) rfl
      have k1 := b2.cell 1 (v := .int .u32 0) rfl
      have f0 := b2.frozen 0
      have f1 := b2.frozen 1
      have k2 := b6.cell 0 (v := .int .u32 x) rfl
      have k3 := b6.cell 1 (v := .int .u32 y) rfl
      go_wp2
      have c0 := ((b2.set_ 0 (.int .u32 x)).set_ 1 (.int .u32 y)).cell 0 (v := .int .u32 x) rfl
      have c1 := ((b2.set_ 0 (.int .u32 x)).set_ 1 (.int .u32 y)).cell 1 (v := .int .u32 y) rfl
      have hB2 := (hB.setCell (p := ⟨w.heap.size, 0, none⟩) (by simp) (.int .u32 x)).setCell (p := ⟨w.heap.size, 1, none⟩) (by simp) (.int .u32 y)
      exact bodyPost_ret (v := .tuple #[.agg #[.int .u32 x, .int .u32 y], .int .i64 0]) (by simp [results, Tryd.f25, go_sem, c0, c1]) rfl ⟨rfl, hB2⟩
    · rw [if_neg h9]
      rw [decide_eq_false h9] at hck
      go_enter Tryd.func25, Tryd.ntmps25
      go_wp2_with fail
      refine g1.mono ?_
      rintro e w1 ⟨rfl, rfl⟩
      go_wp2_with fail
      refine g2.mono ?_
      rintro e w1 ⟨rfl, rfl⟩
      go_wp2_with fail
      refine hck.mono ?_
      rintro e w1 ⟨rfl, hb⟩
      have b2 := b2.below hb
      have hB := below_then hB hb
      clear hb hck g1 g2 b6
      have k0 := b2.cell 0 (v := .int .u32 0) rfl
      have k1 := b2.cell 1 (v := .int .u32 0) rfl
      have f0 := b2.frozen 0
      have f1 := b2.frozen 1
      go_wp2
      have c0 := ((b2.set_ 0 (.int .u32 0)).set_ 1 (.int .u32 0)).cell 0 (v := .int .u32 0) rfl
      have c1 := ((b2.set_ 0 (.int .u32 0)).set_ 1 (.int .u32 0)).cell 1 (v := .int .u32 0) rfl
      have hB2 := (hB.setCell (p := ⟨w.heap.size, 0, none⟩) (by simp) (.int .u32 0)).setCell (p := ⟨w.heap.size, 1, none⟩) (by simp) (.int .u32 0)
      exact bodyPost_ret (v := .tuple #[.agg #[.int .u32 0, .int .u32 0], .int .i64 5]) (by simp [results, Tryd.f25, go_sem, c0, c1]) rfl ⟨rfl, hB2⟩
end Go.Proofs.YtgkbfmbdpkkhnaaDoor.Hand
