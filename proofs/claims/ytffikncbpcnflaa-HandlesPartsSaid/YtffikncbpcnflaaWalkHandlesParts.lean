/- The statement HandlesParts, walked: a handle's bytes begin with the text whrf, and its two numbers. -/
import Derived.Test.YtffikncbpcnflaaAlive08
import Derived.Test.YtffikncbpcnflaaFull
import Derived.Test.YtffikncbpcnflaaHelp
namespace Go.Proofs.Ytffikncbpcnflaa.Hand
open Go.RowKit Go.Proofs.YtffikncbpcnflaaW.PrintLast
set_option linter.unusedSimpArgs false
set_option linter.unusedVariables false

theorem take12 (a g : Int) : (hb a g).take 12 = [119, 104, 114, 102] ++ be a 4 ++ be g 4 := List.take_left' (h12_length a g)

set_option maxRecDepth 100000 in
set_option maxHeartbeats 4000000 in
theorem HandlesParts_walk (n g : Int) (w : World) (hn : 0 ≤ n) (hn' : n < 65536) (hg : 0 ≤ g) (hg' : g < 4294967296) :
    Calls Try.prog 7 #[.int .u16 n, .int .u32 g] w fun e w' => e = .returned (.bool true) ∧ Below w.heap.size w w' := by
  go_enter Try.func7, Try.ntmps7
  go_wp2_with fail
  refine (of_ n g w hn hn' hg hg').mono ?_
  have hN1 : 1 ≤ 1 + n % 1024 := by omega
  have hN2 : 1 + n % 1024 ≤ 1024 := by omega
  generalize 1 + n % 1024 = N at *
  rintro e w1 ⟨v, rfl, ho, hB⟩
  have Bh := Blk.new w1 27 #[.int .i64 N, .int .u32 g]
  have hB := hB.alloc hB.size (.cells #[.int .i64 N, .int .u32 g] 27)
  obtain ⟨A, d, rfl, hd, hd2, hr⟩ := ho.form
  rw [hb_length] at hd
  rw [hb_length]
  have hr := (hr.alloc (.cells #[.int .i64 N, .int .u32 g] 27)).alloc (.cells whrf 5 (4, 5))
  clear ho
  have cv := Go.Joins.run_convert_bytes_const_at (P := Try.prog) (w1.alloc (.cells #[.int .i64 N, .int .u32 g] 27)) 22 5 whrf 4 4 (w1.heap.size + 1) (by simp) Try.underlying22 Try.underlying5
  have Bh := Bh.alloc (.cells whrf 5 (4, 5))
  have hB := hB.alloc hB.size (.cells whrf 5 (4, 5))
  have r1 : Rd ((w1.alloc (.cells #[.int .i64 N, .int .u32 g] 27)).alloc (.cells whrf 5 (4, 5))) (some ⟨w1.heap.size + 1, 0, none⟩) [119, 104, 114, 102] := ⟨by intro x hx; simp at hx; omega, fun _ => ⟨_, rfl, fun k hk => by
    rw [add_plain, Go.Joins.cell_alloc_mark_at _ _ _ _ _ _ (by simp)]
    match k, hk with
    | 0, _ => rfl
    | 1, _ => rfl
    | 2, _ => rfl
    | 3, _ => rfl⟩⟩
  unfold whrf at *
  have k0 := Bh.cell 0 (v := .int .i64 N) rfl
  have k1 := Bh.cell 1 (v := .int .u32 g) rfl
  have hN3 : 0 ≤ N := by omega
  have hN4 : N < 4294967296 := by omega
  go_wp2_with fail
  refine (Put N hN3 hN4 _).mono ?_
  rintro e w2 ⟨v2, rfl, o2, hx⟩
  have hr := hr.below hx
  have r1 := r1.below hx
  have hB := below_then hB hx
  clear hx cv k0 k1 Bh
  obtain ⟨A2, c2, rfl, _, _, r2⟩ := o2.form
  clear o2
  rw [be_length]
  go_wp2_with (at_builtin; refine wpList_full rfl _ _ rfl rfl _ ⟨w1.heap.size + 1, 0, none⟩ [119, 104, 114, 102] rfl r1 A2 c2 (be N 4) rfl r2 (by rw [be_length]; decide) ?h1 ?h2)
  case h1 => simp [be_length]
  case h2 =>
    intro v3 w3 o3 hx
    have hbw := hx
    have hBs := hB.size
    have hB := below_then hB hx
    clear hx r1 r2
    have hw2 : w.heap.size ≤ w2.heap.size := by
      have h5 := hBs
      omega
    have hd12 : (12 : Int) ≤ (d : Int) := by omega
    go_wp2_with fail
    have hd0 : Below w3.heap.size w3 w3.drew := below_drawn (n := 1) rfl
    have hB := below_then hB hd0
    have hbw := below_then hbw hd0
    have o3 := o3.below hd0
    clear hd0
    refine start_ (n := 11) (S := fun w' => True) (ds := []) #[false, false, false, false, false, false, false, false, false, false, false] (by kernel_rfl) rfl rfl trivial (fun hHeld => ?_)
    refine one_ (i := 0) (N := some 25) #[true, false, false, false, false, false, false, false, false, false, false] rfl rfl (by kernel_rfl) (by decide) (fun K hK => ?_)
    refine goes_ Try.func16 (by kernel_rfl) rfl #[] (by rfl) rfl rfl (by simp only [List.map_toArray, List.map_cons, List.map_nil]) ?_
    with_reducible refine (alive08 _).mono ?_
    rintro e w4 ⟨rfl, hbx⟩
    refine ⟨_, rfl, ?_⟩
    have hbw := below_then hbw hbx
    have o3 := o3.below hbx
    have hB := below_then hB hbx
    clear hbx
    refine hK.out _ _ trivial (fun hHeld => ?_)
    clear hK K
    refine norm_ (a' := ?_) ?_ ?_
    rotate_left
    · show Act.put _ (some 25) _ = _
      simp only [Act.put, List.setIfInBounds_toArray, List.set_cons_zero, List.set_cons_succ, i64_w, i32_w]
      rfl
    refine pure_ (i := 1) (N := some 26) (v := ?_) (a' := ?_) #[true, true, false, false, false, false, false, false, false, false, false] rfl rfl (by kernel_rfl) (fun _ _ _ h => h) (Or.inl ⟨by rfl, ?_⟩) ?_ ?_
    rotate_left
    · intro w'
      go_simp
      with_reducible rfl
    rotate_left
    · simp only [Act.put, List.setIfInBounds_toArray, List.set_cons_zero, List.set_cons_succ, i64_w, i32_w]
      rfl
    refine pure_ (i := 2) (N := some 27) (v := ?_) (a' := ?_) #[true, true, true, false, false, false, false, false, false, false, false] rfl rfl (by kernel_rfl) (fun _ _ _ h => h) (Or.inl ⟨by rfl, ?_⟩) ?_ ?_
    rotate_left
    · intro w'
      go_simp
      with_reducible rfl
    rotate_left
    · simp only [Act.put, List.setIfInBounds_toArray, List.set_cons_zero, List.set_cons_succ, i64_w, i32_w]
      rfl
    refine pure_ (i := 3) (N := some 28) (v := ?_) (a' := ?_) #[true, true, true, true, false, false, false, false, false, false, false] rfl rfl (by kernel_rfl) (fun _ _ _ h => h) (Or.inl ⟨by rfl, ?_⟩) ?_ ?_
    rotate_left
    · intro w'
      go_simp
      with_reducible rfl
    rotate_left
    · simp only [Act.put, List.setIfInBounds_toArray, List.set_cons_zero, List.set_cons_succ, i64_w, i32_w]
      rfl
    refine pure_ (i := 4) (N := some 29) (v := ?_) (a' := ?_) #[true, true, true, true, true, false, false, false, false, false, false] rfl rfl (by kernel_rfl) (fun _ _ _ h => h) (Or.inl ⟨by rfl, ?_⟩) ?_ ?_
    rotate_left
    · intro w'
      go_simp
      with_reducible rfl
    rotate_left
    · simp only [Act.put, List.setIfInBounds_toArray, List.set_cons_zero, List.set_cons_succ, i64_w, i32_w]
      rfl
    refine pure_ (i := 5) (N := some 30) (v := ?_) (a' := ?_) #[true, true, true, true, true, true, false, false, false, false, false] rfl rfl (by kernel_rfl) (fun _ _ _ h => h) (Or.inl ⟨by rfl, ?_⟩) ?_ ?_
    rotate_left
    · intro w'
      go_simp
      with_reducible rfl
    rotate_left
    · simp only [Act.put, List.setIfInBounds_toArray, List.set_cons_zero, List.set_cons_succ, i64_w, i32_w]
      rfl
    refine one_ (i := 6) (N := some 31) #[true, true, true, true, true, true, true, false, false, false, false] rfl rfl (by kernel_rfl) (by decide) (fun K hK => ?_)
    refine goes_ Try.func19 (by kernel_rfl) rfl #[.int .u32 g] (by rfl) rfl rfl (by simp only [List.map_toArray, List.map_cons, List.map_nil]; rfl) ?_
    with_reducible refine (Put g hg hg' _).mono ?_
    rintro e w5 ⟨v5, rfl, o5, hbx⟩
    refine ⟨_, rfl, ?_⟩
    have hbw := below_then hbw hbx
    have o3 := o3.below hbx
    have hB := below_then hB hbx
    clear hbx
    obtain ⟨A5, c5, rfl, _, _, r5⟩ := o5.form
    clear o5
    rw [be_length]
    refine hK.out _ _ trivial (fun hHeld => ?_)
    clear hK K
    refine norm_ (a' := ?_) ?_ ?_
    rotate_left
    · show Act.put _ (some 31) _ = _
      simp only [Act.put, List.setIfInBounds_toArray, List.set_cons_zero, List.set_cons_succ, i64_w, i32_w]
      rfl
    refine one_ (i := 7) (N := some 32) #[true, true, true, true, true, true, true, true, false, false, false] rfl rfl (by kernel_rfl) (by decide) (fun K hK => ?_)
    rw [if_pos (by rfl)]
    refine wp_app _ _ rfl rfl _ w2.heap.size v3 ([119, 104, 114, 102] ++ be N 4) rfl o3 A5 c5 (be g 4) (by rw [be_length]; rfl) r5 (by simp [be_length]) hbw.size ?_
    intro v6 w6 o6 hg6 _
    have hbw := o3.grown hbw hbw.size hg6
    have hB := o3.grown_to hB hw2 hB.size hg6
    obtain ⟨A6, c6, rfl, _, _, r6⟩ := o6.form
    have hl6 : ([119, 104, 114, 102] ++ be N 4 ++ be g 4).length = 12 := by simp [be_length]
    rw [hl6]
    refine hK.out _ _ trivial (fun hHeld => ?_)
    clear hK K
    refine norm_ (a' := ?_) ?_ ?_
    rotate_left
    · show Act.put _ (some 32) _ = _
      simp only [Act.put, List.setIfInBounds_toArray, List.set_cons_zero, List.set_cons_succ, i64_w, i32_w]
      rfl
    refine one_ (i := 8) (N := some 33) #[true, true, true, true, true, true, true, true, true, false, false] rfl rfl (by kernel_rfl) (by decide) (fun K hK => ?_)
    refine goes_ Try.func18 (by kernel_rfl) rfl #[.slice A 12 d, .slice A6 12 c6] (by rfl) rfl rfl (by simp only [List.map_toArray, List.map_cons, List.map_nil]; rfl) ?_
    with_reducible refine (same_yes ((hr.below hbw).take 12) r6 (take12 N g) (by simp [hb_length]) hl6 (by decide)).mono ?_
    rintro e w7 ⟨rfl, m, rfl⟩
    refine ⟨_, rfl, ?_⟩
    have hB := below_drewN hB m
    refine hK.out _ _ trivial (fun hHeld => ?_)
    clear hK K
    refine norm_ (a' := ?_) ?_ ?_
    rotate_left
    · show Act.put _ (some 33) _ = _
      simp only [Act.put, List.setIfInBounds_toArray, List.set_cons_zero, List.set_cons_succ, i64_w, i32_w]
      rfl
    refine pure_ (i := 9) (N := some 34) (v := ?_) (a' := ?_) #[true, true, true, true, true, true, true, true, true, true, false] rfl rfl (by kernel_rfl) (fun _ _ _ h => h) (Or.inl ⟨by rfl, ?_⟩) ?_ ?_
    rotate_left
    · intro w'
      go_simp
      with_reducible rfl
    rotate_left
    · simp only [Act.put, List.setIfInBounds_toArray, List.set_cons_zero, List.set_cons_succ, i64_w, i32_w]
      rfl
    refine pure_ (i := 10) (N := some 4) (v := ?_) (a' := ?_) #[true, true, true, true, true, true, true, true, true, true, true] rfl rfl (by kernel_rfl) (fun _ _ _ h => h) (Or.inl ⟨by rfl, ?_⟩) ?_ ?_
    rotate_left
    · intro w'
      go_simp
      with_reducible rfl
    rotate_left
    · simp only [Act.put, List.setIfInBounds_toArray, List.set_cons_zero, List.set_cons_succ, i64_w, i32_w]
      rfl
    refine done_ (by kernel_rfl) ?_
    go_wp2
    go_ret
    exact ⟨rfl, hB⟩
end Go.Proofs.Ytffikncbpcnflaa.Hand
