/- What the reference's Get of a handle hands back: the same. -/
import Derived.Test.YtffikncbpcnflaaRefHandle
import Derived.Test.YtffikncbpcnflaaHandleGet
import Derived.Test.YtffikncbpcnflaaRef
namespace Go.Proofs.Ytffikncbpcnflaa.Hand
open Go.RowKit Go.Proofs.YtffikncbpcnflaaW.PrintLast
set_option linter.unusedVariables false
set_option linter.unusedSimpArgs false

theorem str_eq {l m : List Int} (hl : Bs l) (hm : Bs m) : ((strOf l).toList == (strOf m).toList) = decide (l = m) := by
  rw [strOf_list, strOf_list, Bool.eq_iff_iff, beq_iff_eq, decide_eq_true_eq]
  exact ⟨u8s_inj hl hm, fun h => by rw [h]⟩
theorem rget_at (A : Option Addr) (c : Nat) (l : List Int) (w : World) (hr : Rd w A l) (hc : l.length ≤ c) :
    Calls Try.prog 22 #[.slice A l.length c] w fun e w' => e = .returned (.tuple #[.int .u32 (get32F l).1, .int .i64 (get32F l).2]) ∧ w = w' := rget32 A c l w hr

set_option maxRecDepth 100000 in
set_option maxHeartbeats 2000000 in
theorem rhget_short (A : Option Addr) (c : Nat) (l : List Int) (w : World) (h : l.length ≠ 16) :
    Calls Try.prog 13 #[.slice A l.length c] w fun e w' => e = .returned hvNo ∧ Below w.heap.size w w' := by
  have h1 : ((l.length : Int) != 16) = true := by rw [bne_iff_ne]; omega
  go_enter Try.func13, Try.ntmps13
  go_wp2
  exact bodyPost_ret (v := hvNo) (by simp [results, Try.f13, go_sem, hvNo]) rfl ⟨rfl, (Below.refl _ _).alloc (Nat.le_refl _) _⟩

set_option maxRecDepth 100000 in
set_option maxHeartbeats 4000000 in
theorem rhget_lt (A : Option Addr) (c : Nat) (l : List Int) (w : World) (hr : Rd w A l) (hc : l.length ≤ c) (h : l.length = 16) (h1 : hNode l < 1) :
    Calls Try.prog 13 #[.slice A l.length c] w fun e w' => e = .returned (hvNo) ∧ Below w.heap.size w w' := by
  have b2 := Blk.new w 27 #[.int .i64 0, .int .u32 0]
  have hB : Below w.heap.size w (w.alloc (.cells #[.int .i64 0, .int .u32 0] 27)) := (Below.refl _ _).alloc (Nat.le_refl _) _
  have hr := hr.alloc (.cells #[.int .i64 0, .int .u32 0] 27)
  obtain ⟨ad, rfl, hk⟩ := hr.2 (by omega)
  have g4 := rget_at _ (c - 4) (l.drop 4) _ (hr.drop 4 c (by omega)) (by rw [List.length_drop]; omega)
  have g8 := rget_at _ (c - 8) (l.drop 8) _ (hr.drop 8 c (by omega)) (by rw [List.length_drop]; omega)
  rw [get32_ok (by rw [List.length_drop]; omega), List.length_drop, h, if_neg (by omega)] at g4 g8
  have hb4 := num4 (hr.drop 4 c (by omega)).1
  have hb8 := num4 (hr.drop 8 c (by omega)).1
  have hbs := hr.1
  obtain ⟨N, hN⟩ : ∃ N, N = hNode l := ⟨_, rfl⟩
  obtain ⟨G, hG⟩ : ∃ G, G = hGen l := ⟨_, rfl⟩
  have hN' : num (l.drop 4) 4 = N := hN.symm
  have hG' : num (l.drop 8) 4 = G := hG.symm
  rw [hN'] at g4 hb4
  rw [hG'] at g8 hb8
  have g4 : Calls Try.prog 22 #[.slice (some (ad.add 4)) 12 (c - 4)] _ _ := g4
  have g8 : Calls Try.prog 22 #[.slice (some (ad.add 8)) 8 (c - 8)] _ _ := g8
  rw [← hN] at h1
  rw [h] at hc ⊢
  clear hN' hG' hN hG
  clear hk hbs
  have d1 : decide (N < 1) = true := decide_eq_true (by omega)
  go_enter Try.func13, Try.ntmps13
  go_wp2_with fail
  refine g4.mono ?_
  rintro e w' ⟨rfl, rfl⟩
  go_wp2_with fail
  refine g8.mono ?_
  rintro e w' ⟨rfl, rfl⟩
  clear g4 g8
  go_wp2_with fail
  generalize (w.alloc (.cells #[.int .i64 0, .int .u32 0] 27)) = W at *
  have hB := below_then hB (below_drawn (w1 := W.drew) (n := 1) rfl)
  have bW := b2
  have b2 := b2.drew
  refine start_ (n := 15) (S := fun w' => True) (ds := []) #[false, false, false, false, false, false, false, false, false, false, false, false, false, false, false] (by kernel_rfl) rfl rfl trivial (fun hHeld => ?_)
  refine pure_ (i := 0) (N := some 24) (v := ?_) (a' := ?_) #[true, false, false, false, false, false, false, false, false, false, false, false, false, false, false] rfl rfl (by kernel_rfl) (fun _ _ _ h => h) (Or.inl ⟨by rfl, ?_⟩) ?_ ?_
  rotate_left
  · intro w'
    go_simp
    with_reducible rfl
  rotate_left
  · simp only [Act.put, List.setIfInBounds_toArray, List.set_cons_zero, List.set_cons_succ, i64_w, i32_w]
    rfl
  refine pure_ (i := 1) (N := some 25) (v := ?_) (a' := ?_) #[true, true, false, false, false, false, false, false, false, false, false, false, false, false, false] rfl rfl (by kernel_rfl) (fun _ _ _ h => h) (Or.inl ⟨by rfl, ?_⟩) ?_ ?_
  rotate_left
  · intro w'
    go_simp
    with_reducible rfl
  rotate_left
  · simp only [Act.put, List.setIfInBounds_toArray, List.set_cons_zero, List.set_cons_succ, i64_w, i32_w]
    rfl
  refine pure_ (i := 2) (N := some 26) (v := ?_) (a' := ?_) #[true, true, true, false, false, false, false, false, false, false, false, false, false, false, false] rfl rfl (by kernel_rfl) (fun _ _ _ h => h) (Or.inl ⟨by rfl, ?_⟩) ?_ ?_
  rotate_left
  · intro w'
    go_simp
    with_reducible rfl
  rotate_left
  · simp only [Act.put, List.setIfInBounds_toArray, List.set_cons_zero, List.set_cons_succ, i64_w, i32_w]
    rfl
  refine pure_ (i := 3) (N := some 27) (v := undef) (a' := ?_) #[true, true, true, true, false, false, false, false, false, false, false, false, false, false, false] rfl rfl (by kernel_rfl) (fun _ _ _ h => h) (Or.inr ⟨by rfl, rfl⟩) ?_ ?_
  rotate_left
  · simp only [Act.put, List.setIfInBounds_toArray, List.set_cons_zero, List.set_cons_succ, i64_w, i32_w]
    rfl
  refine pure_ (i := 4) (N := some 28) (v := undef) (a' := ?_) #[true, true, true, true, true, false, false, false, false, false, false, false, false, false, false] rfl rfl (by kernel_rfl) (fun _ _ _ h => h) (Or.inr ⟨by rfl, rfl⟩) ?_ ?_
  rotate_left
  · simp only [Act.put, List.setIfInBounds_toArray, List.set_cons_zero, List.set_cons_succ, i64_w, i32_w]
    rfl
  refine pure_ (i := 5) (N := some 29) (v := ?_) (a' := ?_) #[true, true, true, true, true, true, false, false, false, false, false, false, false, false, false] rfl rfl (by kernel_rfl) (fun _ _ _ h => h) (Or.inl ⟨by rfl, ?_⟩) ?_ ?_
  rotate_left
  · intro w'
    go_simp
    with_reducible rfl
  rotate_left
  · simp only [Act.put, List.setIfInBounds_toArray, List.set_cons_zero, List.set_cons_succ, i64_w, i32_w]
    rfl
  refine pure_ (i := 6) (N := some 30) (v := ?_) (a' := ?_) #[true, true, true, true, true, true, true, false, false, false, false, false, false, false, false] rfl rfl (by kernel_rfl) (fun _ _ _ h => h) (Or.inl ⟨by rfl, ?_⟩) ?_ ?_
  rotate_left
  · intro w'
    go_simp
    with_reducible rfl
  rotate_left
  · simp only [Act.put, List.setIfInBounds_toArray, List.set_cons_zero, List.set_cons_succ, i64_w, i32_w]
    rfl
  refine pure_ (i := 7) (N := some 31) (v := undef) (a' := ?_) #[true, true, true, true, true, true, true, true, false, false, false, false, false, false, false] rfl rfl (by kernel_rfl) (fun _ _ _ h => h) (Or.inr ⟨by rfl, rfl⟩) ?_ ?_
  rotate_left
  · simp only [Act.put, List.setIfInBounds_toArray, List.set_cons_zero, List.set_cons_succ, i64_w, i32_w]
    rfl
  refine pure_ (i := 8) (N := some 32) (v := undef) (a' := ?_) #[true, true, true, true, true, true, true, true, true, false, false, false, false, false, false] rfl rfl (by kernel_rfl) (fun _ _ _ h => h) (Or.inr ⟨by rfl, rfl⟩) ?_ ?_
  rotate_left
  · simp only [Act.put, List.setIfInBounds_toArray, List.set_cons_zero, List.set_cons_succ, i64_w, i32_w]
    rfl
  refine pure_ (i := 9) (N := some 33) (v := undef) (a' := ?_) #[true, true, true, true, true, true, true, true, true, true, false, false, false, false, false] rfl rfl (by kernel_rfl) (fun _ _ _ h => h) (Or.inr ⟨by rfl, rfl⟩) ?_ ?_
  rotate_left
  · simp only [Act.put, List.setIfInBounds_toArray, List.set_cons_zero, List.set_cons_succ, i64_w, i32_w]
    rfl
  refine pure_ (i := 10) (N := some 34) (v := undef) (a' := ?_) #[true, true, true, true, true, true, true, true, true, true, true, false, false, false, false] rfl rfl (by kernel_rfl) (fun _ _ _ h => h) (Or.inr ⟨by rfl, rfl⟩) ?_ ?_
  rotate_left
  · simp only [Act.put, List.setIfInBounds_toArray, List.set_cons_zero, List.set_cons_succ, i64_w, i32_w]
    rfl
  refine pure_ (i := 11) (N := some 35) (v := undef) (a' := ?_) #[true, true, true, true, true, true, true, true, true, true, true, true, false, false, false] rfl rfl (by kernel_rfl) (fun _ _ _ h => h) (Or.inr ⟨by rfl, rfl⟩) ?_ ?_
  rotate_left
  · simp only [Act.put, List.setIfInBounds_toArray, List.set_cons_zero, List.set_cons_succ, i64_w, i32_w]
    rfl
  refine pure_ (i := 12) (N := some 36) (v := undef) (a' := ?_) #[true, true, true, true, true, true, true, true, true, true, true, true, true, false, false] rfl rfl (by kernel_rfl) (fun _ _ _ h => h) (Or.inr ⟨by rfl, rfl⟩) ?_ ?_
  rotate_left
  · simp only [Act.put, List.setIfInBounds_toArray, List.set_cons_zero, List.set_cons_succ, i64_w, i32_w]
    rfl
  refine pure_ (i := 13) (N := some 37) (v := undef) (a' := ?_) #[true, true, true, true, true, true, true, true, true, true, true, true, true, true, false] rfl rfl (by kernel_rfl) (fun _ _ _ h => h) (Or.inr ⟨by rfl, rfl⟩) ?_ ?_
  rotate_left
  · simp only [Act.put, List.setIfInBounds_toArray, List.set_cons_zero, List.set_cons_succ, i64_w, i32_w]
    rfl
  refine pure_ (i := 14) (N := some 38) (v := ?_) (a' := ?_) #[true, true, true, true, true, true, true, true, true, true, true, true, true, true, true] rfl rfl (by kernel_rfl) (fun _ _ _ h => h) (Or.inl ⟨by rfl, ?_⟩) ?_ ?_
  rotate_left
  · intro w'
    go_simp
    with_reducible rfl
  rotate_left
  · simp only [Act.put, List.setIfInBounds_toArray, List.set_cons_zero, List.set_cons_succ, i64_w, i32_w]
    rfl
  refine done_ (by kernel_rfl) ?_
  have q0 := b2.cell 0 (v := .int .i64 0) rfl
  have q1 := b2.cell 1 (v := .int .u32 0) rfl
  have f0 := b2.frozen 0
  have f1 := b2.frozen 1
  have q0 : W.cell? _ = _ := q0
  have q1 : W.cell? _ = _ := q1
  have f0 : W.frozen? _ = _ := f0
  have f1 : W.frozen? _ = _ := f1
  go_wp2
  have e0 := (bW.set_ 0 (.int .i64 0)).cell 0 (v := .int .i64 0) rfl
  have e1 := ((bW.set_ 0 (.int .i64 0)).set_ 1 (.int .u32 0)).cell 1 (v := .int .u32 0) rfl
  have c0 := ((b2.set_ 0 (.int .i64 0)).set_ 1 (.int .u32 0)).cell 0 (v := .int .i64 0) rfl
  have c1 := ((b2.set_ 0 (.int .i64 0)).set_ 1 (.int .u32 0)).cell 1 (v := .int .u32 0) rfl
  have hB2 := (hB.setCell (p := ⟨w.heap.size, 0, none⟩) (by simp) (.int .i64 0)).setCell (p := ⟨w.heap.size, 1, none⟩) (by simp) (.int .u32 0)
  exact bodyPost_ret (v := .tuple #[.agg #[.int .i64 0, .int .u32 0], .int .i64 5]) (by simp [results, Try.f13, go_sem, c0, c1, e0, e1]) rfl ⟨rfl, hB2⟩
  
set_option maxRecDepth 100000 in
set_option maxHeartbeats 4000000 in
theorem rhget_gt (A : Option Addr) (c : Nat) (l : List Int) (w : World) (hr : Rd w A l) (hc : l.length ≤ c) (h : l.length = 16) (h1 : ¬ hNode l < 1) (h2 : 1024 < hNode l) :
    Calls Try.prog 13 #[.slice A l.length c] w fun e w' => e = .returned (hvNo) ∧ Below w.heap.size w w' := by
  have b2 := Blk.new w 27 #[.int .i64 0, .int .u32 0]
  have hB : Below w.heap.size w (w.alloc (.cells #[.int .i64 0, .int .u32 0] 27)) := (Below.refl _ _).alloc (Nat.le_refl _) _
  have hr := hr.alloc (.cells #[.int .i64 0, .int .u32 0] 27)
  obtain ⟨ad, rfl, hk⟩ := hr.2 (by omega)
  have g4 := rget_at _ (c - 4) (l.drop 4) _ (hr.drop 4 c (by omega)) (by rw [List.length_drop]; omega)
  have g8 := rget_at _ (c - 8) (l.drop 8) _ (hr.drop 8 c (by omega)) (by rw [List.length_drop]; omega)
  rw [get32_ok (by rw [List.length_drop]; omega), List.length_drop, h, if_neg (by omega)] at g4 g8
  have hb4 := num4 (hr.drop 4 c (by omega)).1
  have hb8 := num4 (hr.drop 8 c (by omega)).1
  have hbs := hr.1
  obtain ⟨N, hN⟩ : ∃ N, N = hNode l := ⟨_, rfl⟩
  obtain ⟨G, hG⟩ : ∃ G, G = hGen l := ⟨_, rfl⟩
  have hN' : num (l.drop 4) 4 = N := hN.symm
  have hG' : num (l.drop 8) 4 = G := hG.symm
  rw [hN'] at g4 hb4
  rw [hG'] at g8 hb8
  have g4 : Calls Try.prog 22 #[.slice (some (ad.add 4)) 12 (c - 4)] _ _ := g4
  have g8 : Calls Try.prog 22 #[.slice (some (ad.add 8)) 8 (c - 8)] _ _ := g8
  rw [← hN] at h1 h2
  rw [h] at hc ⊢
  clear hN' hG' hN hG
  clear hk hbs
  have d1 : decide (N < 1) = false := decide_eq_false (by omega)
  have d2 : decide (1024 < N) = true := decide_eq_true (by omega)
  go_enter Try.func13, Try.ntmps13
  go_wp2_with fail
  refine g4.mono ?_
  rintro e w' ⟨rfl, rfl⟩
  go_wp2_with fail
  refine g8.mono ?_
  rintro e w' ⟨rfl, rfl⟩
  clear g4 g8
  go_wp2_with fail
  generalize (w.alloc (.cells #[.int .i64 0, .int .u32 0] 27)) = W at *
  have hB := below_then hB (below_drawn (w1 := W.drew) (n := 1) rfl)
  have bW := b2
  have b2 := b2.drew
  refine start_ (n := 15) (S := fun w' => True) (ds := []) #[false, false, false, false, false, false, false, false, false, false, false, false, false, false, false] (by kernel_rfl) rfl rfl trivial (fun hHeld => ?_)
  refine pure_ (i := 0) (N := some 24) (v := ?_) (a' := ?_) #[true, false, false, false, false, false, false, false, false, false, false, false, false, false, false] rfl rfl (by kernel_rfl) (fun _ _ _ h => h) (Or.inl ⟨by rfl, ?_⟩) ?_ ?_
  rotate_left
  · intro w'
    go_simp
    with_reducible rfl
  rotate_left
  · simp only [Act.put, List.setIfInBounds_toArray, List.set_cons_zero, List.set_cons_succ, i64_w, i32_w]
    rfl
  refine pure_ (i := 1) (N := some 25) (v := ?_) (a' := ?_) #[true, true, false, false, false, false, false, false, false, false, false, false, false, false, false] rfl rfl (by kernel_rfl) (fun _ _ _ h => h) (Or.inl ⟨by rfl, ?_⟩) ?_ ?_
  rotate_left
  · intro w'
    go_simp
    with_reducible rfl
  rotate_left
  · simp only [Act.put, List.setIfInBounds_toArray, List.set_cons_zero, List.set_cons_succ, i64_w, i32_w]
    rfl
  refine pure_ (i := 2) (N := some 26) (v := ?_) (a' := ?_) #[true, true, true, false, false, false, false, false, false, false, false, false, false, false, false] rfl rfl (by kernel_rfl) (fun _ _ _ h => h) (Or.inl ⟨by rfl, ?_⟩) ?_ ?_
  rotate_left
  · intro w'
    go_simp
    with_reducible rfl
  rotate_left
  · simp only [Act.put, List.setIfInBounds_toArray, List.set_cons_zero, List.set_cons_succ, i64_w, i32_w]
    rfl
  refine pure_ (i := 3) (N := some 27) (v := ?_) (a' := ?_) #[true, true, true, true, false, false, false, false, false, false, false, false, false, false, false] rfl rfl (by kernel_rfl) (fun _ _ _ h => h) (Or.inl ⟨by rfl, ?_⟩) ?_ ?_
  rotate_left
  · intro w'
    go_simp
    with_reducible rfl
  rotate_left
  · simp only [Act.put, List.setIfInBounds_toArray, List.set_cons_zero, List.set_cons_succ, i64_w, i32_w]
    rfl
  refine pure_ (i := 4) (N := some 28) (v := ?_) (a' := ?_) #[true, true, true, true, true, false, false, false, false, false, false, false, false, false, false] rfl rfl (by kernel_rfl) (fun _ _ _ h => h) (Or.inl ⟨by rfl, ?_⟩) ?_ ?_
  rotate_left
  · intro w'
    go_simp
    with_reducible rfl
  rotate_left
  · simp only [Act.put, List.setIfInBounds_toArray, List.set_cons_zero, List.set_cons_succ, i64_w, i32_w]
    rfl
  refine pure_ (i := 5) (N := some 29) (v := ?_) (a' := ?_) #[true, true, true, true, true, true, false, false, false, false, false, false, false, false, false] rfl rfl (by kernel_rfl) (fun _ _ _ h => h) (Or.inl ⟨by rfl, ?_⟩) ?_ ?_
  rotate_left
  · intro w'
    go_simp
    with_reducible rfl
  rotate_left
  · simp only [Act.put, List.setIfInBounds_toArray, List.set_cons_zero, List.set_cons_succ, i64_w, i32_w]
    rfl
  refine pure_ (i := 6) (N := some 30) (v := ?_) (a' := ?_) #[true, true, true, true, true, true, true, false, false, false, false, false, false, false, false] rfl rfl (by kernel_rfl) (fun _ _ _ h => h) (Or.inl ⟨by rfl, ?_⟩) ?_ ?_
  rotate_left
  · intro w'
    go_simp
    with_reducible rfl
  rotate_left
  · simp only [Act.put, List.setIfInBounds_toArray, List.set_cons_zero, List.set_cons_succ, i64_w, i32_w]
    rfl
  refine pure_ (i := 7) (N := some 31) (v := undef) (a' := ?_) #[true, true, true, true, true, true, true, true, false, false, false, false, false, false, false] rfl rfl (by kernel_rfl) (fun _ _ _ h => h) (Or.inr ⟨by rfl, rfl⟩) ?_ ?_
  rotate_left
  · simp only [Act.put, List.setIfInBounds_toArray, List.set_cons_zero, List.set_cons_succ, i64_w, i32_w]
    rfl
  refine pure_ (i := 8) (N := some 32) (v := undef) (a' := ?_) #[true, true, true, true, true, true, true, true, true, false, false, false, false, false, false] rfl rfl (by kernel_rfl) (fun _ _ _ h => h) (Or.inr ⟨by rfl, rfl⟩) ?_ ?_
  rotate_left
  · simp only [Act.put, List.setIfInBounds_toArray, List.set_cons_zero, List.set_cons_succ, i64_w, i32_w]
    rfl
  refine pure_ (i := 9) (N := some 33) (v := undef) (a' := ?_) #[true, true, true, true, true, true, true, true, true, true, false, false, false, false, false] rfl rfl (by kernel_rfl) (fun _ _ _ h => h) (Or.inr ⟨by rfl, rfl⟩) ?_ ?_
  rotate_left
  · simp only [Act.put, List.setIfInBounds_toArray, List.set_cons_zero, List.set_cons_succ, i64_w, i32_w]
    rfl
  refine pure_ (i := 10) (N := some 34) (v := undef) (a' := ?_) #[true, true, true, true, true, true, true, true, true, true, true, false, false, false, false] rfl rfl (by kernel_rfl) (fun _ _ _ h => h) (Or.inr ⟨by rfl, rfl⟩) ?_ ?_
  rotate_left
  · simp only [Act.put, List.setIfInBounds_toArray, List.set_cons_zero, List.set_cons_succ, i64_w, i32_w]
    rfl
  refine pure_ (i := 11) (N := some 35) (v := undef) (a' := ?_) #[true, true, true, true, true, true, true, true, true, true, true, true, false, false, false] rfl rfl (by kernel_rfl) (fun _ _ _ h => h) (Or.inr ⟨by rfl, rfl⟩) ?_ ?_
  rotate_left
  · simp only [Act.put, List.setIfInBounds_toArray, List.set_cons_zero, List.set_cons_succ, i64_w, i32_w]
    rfl
  refine pure_ (i := 12) (N := some 36) (v := undef) (a' := ?_) #[true, true, true, true, true, true, true, true, true, true, true, true, true, false, false] rfl rfl (by kernel_rfl) (fun _ _ _ h => h) (Or.inr ⟨by rfl, rfl⟩) ?_ ?_
  rotate_left
  · simp only [Act.put, List.setIfInBounds_toArray, List.set_cons_zero, List.set_cons_succ, i64_w, i32_w]
    rfl
  refine pure_ (i := 13) (N := some 37) (v := undef) (a' := ?_) #[true, true, true, true, true, true, true, true, true, true, true, true, true, true, false] rfl rfl (by kernel_rfl) (fun _ _ _ h => h) (Or.inr ⟨by rfl, rfl⟩) ?_ ?_
  rotate_left
  · simp only [Act.put, List.setIfInBounds_toArray, List.set_cons_zero, List.set_cons_succ, i64_w, i32_w]
    rfl
  refine pure_ (i := 14) (N := some 38) (v := ?_) (a' := ?_) #[true, true, true, true, true, true, true, true, true, true, true, true, true, true, true] rfl rfl (by kernel_rfl) (fun _ _ _ h => h) (Or.inl ⟨by rfl, ?_⟩) ?_ ?_
  rotate_left
  · intro w'
    go_simp
    with_reducible rfl
  rotate_left
  · simp only [Act.put, List.setIfInBounds_toArray, List.set_cons_zero, List.set_cons_succ, i64_w, i32_w]
    rfl
  refine done_ (by kernel_rfl) ?_
  have q0 := b2.cell 0 (v := .int .i64 0) rfl
  have q1 := b2.cell 1 (v := .int .u32 0) rfl
  have f0 := b2.frozen 0
  have f1 := b2.frozen 1
  have q0 : W.cell? _ = _ := q0
  have q1 : W.cell? _ = _ := q1
  have f0 : W.frozen? _ = _ := f0
  have f1 : W.frozen? _ = _ := f1
  go_wp2
  have e0 := (bW.set_ 0 (.int .i64 0)).cell 0 (v := .int .i64 0) rfl
  have e1 := ((bW.set_ 0 (.int .i64 0)).set_ 1 (.int .u32 0)).cell 1 (v := .int .u32 0) rfl
  have c0 := ((b2.set_ 0 (.int .i64 0)).set_ 1 (.int .u32 0)).cell 0 (v := .int .i64 0) rfl
  have c1 := ((b2.set_ 0 (.int .i64 0)).set_ 1 (.int .u32 0)).cell 1 (v := .int .u32 0) rfl
  have hB2 := (hB.setCell (p := ⟨w.heap.size, 0, none⟩) (by simp) (.int .i64 0)).setCell (p := ⟨w.heap.size, 1, none⟩) (by simp) (.int .u32 0)
  exact bodyPost_ret (v := .tuple #[.agg #[.int .i64 0, .int .u32 0], .int .i64 5]) (by simp [results, Try.f13, go_sem, c0, c1, e0, e1]) rfl ⟨rfl, hB2⟩
  
set_option maxRecDepth 100000 in
set_option maxHeartbeats 4000000 in
theorem rhget_ne (A : Option Addr) (c : Nat) (l : List Int) (w : World) (hr : Rd w A l) (hc : l.length ≤ c) (h : l.length = 16) (h1 : ¬ hNode l < 1) (h2 : ¬ 1024 < hNode l) (h3 : hb (hNode l) (hGen l) ≠ l) :
    Calls Try.prog 13 #[.slice A l.length c] w fun e w' => e = .returned (hvNo) ∧ Below w.heap.size w w' := by
  have b2 := Blk.new w 27 #[.int .i64 0, .int .u32 0]
  have hB : Below w.heap.size w (w.alloc (.cells #[.int .i64 0, .int .u32 0] 27)) := (Below.refl _ _).alloc (Nat.le_refl _) _
  have hr := hr.alloc (.cells #[.int .i64 0, .int .u32 0] 27)
  obtain ⟨ad, rfl, hk⟩ := hr.2 (by omega)
  have g4 := rget_at _ (c - 4) (l.drop 4) _ (hr.drop 4 c (by omega)) (by rw [List.length_drop]; omega)
  have g8 := rget_at _ (c - 8) (l.drop 8) _ (hr.drop 8 c (by omega)) (by rw [List.length_drop]; omega)
  rw [get32_ok (by rw [List.length_drop]; omega), List.length_drop, h, if_neg (by omega)] at g4 g8
  have hb4 := num4 (hr.drop 4 c (by omega)).1
  have hb8 := num4 (hr.drop 8 c (by omega)).1
  have hbs := hr.1
  obtain ⟨N, hN⟩ : ∃ N, N = hNode l := ⟨_, rfl⟩
  obtain ⟨G, hG⟩ : ∃ G, G = hGen l := ⟨_, rfl⟩
  have hN' : num (l.drop 4) 4 = N := hN.symm
  have hG' : num (l.drop 8) 4 = G := hG.symm
  rw [hN'] at g4 hb4
  rw [hG'] at g8 hb8
  have g4 : Calls Try.prog 22 #[.slice (some (ad.add 4)) 12 (c - 4)] _ _ := g4
  have g8 : Calls Try.prog 22 #[.slice (some (ad.add 8)) 8 (c - 8)] _ _ := g8
  rw [← hN] at h1 h2
  rw [← hN, ← hG] at h3
  have heq := str_eq (hb_bs N G) hbs
  rw [decide_eq_false h3] at heq
  clear h3
  rw [h] at hc ⊢
  clear hN' hG' hN hG
  clear hk hbs
  have d1 : decide (N < 1) = false := decide_eq_false (by omega)
  have d2 : decide (1024 < N) = false := decide_eq_false (by omega)
  go_enter Try.func13, Try.ntmps13
  go_wp2_with fail
  refine g4.mono ?_
  rintro e w' ⟨rfl, rfl⟩
  go_wp2_with fail
  refine g8.mono ?_
  rintro e w' ⟨rfl, rfl⟩
  clear g4 g8
  go_wp2_with fail
  generalize (w.alloc (.cells #[.int .i64 0, .int .u32 0] 27)) = W at *
  have hB := below_then hB (below_drawn (w1 := W.drew) (n := 1) rfl)
  have bW := b2
  have b2 := b2.drew
  have hr : Rd W.drew (some ad) l := hr.drewN 1
  refine start_ (n := 15) (S := fun w' => (convert 22 9 (.slice (some ad) 16 c)).run Try.prog w' = .ok (.string (strOf l)) w') (ds := []) #[false, false, false, false, false, false, false, false, false, false, false, false, false, false, false] (by kernel_rfl) rfl rfl (run_str_n hr h) (fun hHeld => ?_)
  refine pure_ (i := 0) (N := some 24) (v := ?_) (a' := ?_) #[true, false, false, false, false, false, false, false, false, false, false, false, false, false, false] rfl rfl (by kernel_rfl) (fun _ _ _ h => h) (Or.inl ⟨by rfl, ?_⟩) ?_ ?_
  rotate_left
  · intro w'
    go_simp
    with_reducible rfl
  rotate_left
  · simp only [Act.put, List.setIfInBounds_toArray, List.set_cons_zero, List.set_cons_succ, i64_w, i32_w]
    rfl
  refine pure_ (i := 1) (N := some 25) (v := ?_) (a' := ?_) #[true, true, false, false, false, false, false, false, false, false, false, false, false, false, false] rfl rfl (by kernel_rfl) (fun _ _ _ h => h) (Or.inl ⟨by rfl, ?_⟩) ?_ ?_
  rotate_left
  · intro w'
    go_simp
    with_reducible rfl
  rotate_left
  · simp only [Act.put, List.setIfInBounds_toArray, List.set_cons_zero, List.set_cons_succ, i64_w, i32_w]
    rfl
  refine pure_ (i := 2) (N := some 26) (v := ?_) (a' := ?_) #[true, true, true, false, false, false, false, false, false, false, false, false, false, false, false] rfl rfl (by kernel_rfl) (fun _ _ _ h => h) (Or.inl ⟨by rfl, ?_⟩) ?_ ?_
  rotate_left
  · intro w'
    go_simp
    with_reducible rfl
  rotate_left
  · simp only [Act.put, List.setIfInBounds_toArray, List.set_cons_zero, List.set_cons_succ, i64_w, i32_w]
    rfl
  refine pure_ (i := 3) (N := some 27) (v := ?_) (a' := ?_) #[true, true, true, true, false, false, false, false, false, false, false, false, false, false, false] rfl rfl (by kernel_rfl) (fun _ _ _ h => h) (Or.inl ⟨by rfl, ?_⟩) ?_ ?_
  rotate_left
  · intro w'
    go_simp
    with_reducible rfl
  rotate_left
  · simp only [Act.put, List.setIfInBounds_toArray, List.set_cons_zero, List.set_cons_succ, i64_w, i32_w]
    rfl
  refine pure_ (i := 4) (N := some 28) (v := ?_) (a' := ?_) #[true, true, true, true, true, false, false, false, false, false, false, false, false, false, false] rfl rfl (by kernel_rfl) (fun _ _ _ h => h) (Or.inl ⟨by rfl, ?_⟩) ?_ ?_
  rotate_left
  · intro w'
    go_simp
    with_reducible rfl
  rotate_left
  · simp only [Act.put, List.setIfInBounds_toArray, List.set_cons_zero, List.set_cons_succ, i64_w, i32_w]
    rfl
  refine pure_ (i := 5) (N := some 29) (v := ?_) (a' := ?_) #[true, true, true, true, true, true, false, false, false, false, false, false, false, false, false] rfl rfl (by kernel_rfl) (fun _ _ _ h => h) (Or.inl ⟨by rfl, ?_⟩) ?_ ?_
  rotate_left
  · intro w'
    go_simp
    with_reducible rfl
  rotate_left
  · simp only [Act.put, List.setIfInBounds_toArray, List.set_cons_zero, List.set_cons_succ, i64_w, i32_w]
    rfl
  refine pure_ (i := 6) (N := some 30) (v := ?_) (a' := ?_) #[true, true, true, true, true, true, true, false, false, false, false, false, false, false, false] rfl rfl (by kernel_rfl) (fun _ _ _ h => h) (Or.inl ⟨by rfl, ?_⟩) ?_ ?_
  rotate_left
  · intro w'
    go_simp
    with_reducible rfl
  rotate_left
  · simp only [Act.put, List.setIfInBounds_toArray, List.set_cons_zero, List.set_cons_succ, i64_w, i32_w]
    rfl
  refine pure_ (i := 7) (N := some 31) (v := ?_) (a' := ?_) #[true, true, true, true, true, true, true, true, false, false, false, false, false, false, false] rfl rfl (by kernel_rfl) (fun _ _ _ h => h) (Or.inl ⟨by rfl, ?_⟩) ?_ ?_
  rotate_left
  · intro w'
    go_simp
    with_reducible rfl
  rotate_left
  · simp only [Act.put, List.setIfInBounds_toArray, List.set_cons_zero, List.set_cons_succ, i64_w, i32_w]
    rfl
  refine pure_ (i := 8) (N := some 32) (v := ?_) (a' := ?_) #[true, true, true, true, true, true, true, true, true, false, false, false, false, false, false] rfl rfl (by kernel_rfl) (fun _ _ _ h => h) (Or.inl ⟨by rfl, ?_⟩) ?_ ?_
  rotate_left
  · intro w'
    go_simp
    with_reducible rfl
  rotate_left
  · simp only [Act.put, List.setIfInBounds_toArray, List.set_cons_zero, List.set_cons_succ, i64_w, i32_w]
    rfl
  refine pure_ (i := 11) (N := some 35) (v := ?_) (a' := ?_) #[true, true, true, true, true, true, true, true, true, false, false, true, false, false, false] rfl rfl (by kernel_rfl) (fun _ _ _ h => h) (Or.inl ⟨by rfl, ?_⟩) ?_ ?_
  rotate_left
  · intro w'
    go_simp
    with_reducible rfl
  rotate_left
  · simp only [Act.put, List.setIfInBounds_toArray, List.set_cons_zero, List.set_cons_succ, i64_w, i32_w]
    rfl
  refine take_ (i := 12) (N := some 36) (v := ?_) (a' := ?_) #[true, true, true, true, true, true, true, true, true, false, false, true, true, false, false] rfl rfl (by kernel_rfl) (fun _ _ _ h => h) (Or.inl ⟨by rfl, ?_⟩) hHeld ?_ ?_
  rotate_left
  · intro w' s0
    go_simp
    with_reducible rfl
  rotate_left
  · simp only [Act.put, List.setIfInBounds_toArray, List.set_cons_zero, List.set_cons_succ, i64_w, i32_w]
    rfl
  refine one_ (i := 9) (N := some 33) #[true, true, true, true, true, true, true, true, true, true, false, true, true, false, false] rfl rfl (by kernel_rfl) (by decide) (fun K hK => ?_)
  refine goes_ Try.func23 (by kernel_rfl) rfl #[.int .u32 N, .int .u32 G] (by rfl) rfl rfl (by simp only [List.map_toArray, List.map_cons, List.map_nil]; rfl) ?_
  with_reducible refine (rhbytes N G _ (by omega) (by omega) (by omega) (by omega)).mono ?_
  rintro e w3 ⟨v7, rfl, o7, hbx⟩
  refine ⟨_, rfl, ?_⟩
  have hr := hr.below hbx
  have b2 := b2.below hbx
  have hB := below_then hB hbx
  clear hbx
  obtain ⟨A7, c7, rfl, _, _, r7⟩ := o7.form
  rw [hb_length]
  have s7 := run_str_n (c := c7) r7 (hb_length _ _)
  refine hK.out _ _ (run_str_n hr h) (fun hHeld => ?_)
  clear hK K
  refine norm_ (a' := ?_) ?_ ?_
  rotate_left
  · show Act.put _ (some 33) _ = _
    simp only [Act.put, List.setIfInBounds_toArray, List.set_cons_zero, List.set_cons_succ, i64_w, i32_w]
    rfl
  refine one_ (i := 10) (N := some 34) #[true, true, true, true, true, true, true, true, true, true, true, true, true, false, false] rfl rfl (by kernel_rfl) (by decide) (fun K hK => ?_)
  refine value_ (w1 := ?_) (v := ?_) (by rfl) rfl ?_ ?_
  rotate_left 2
  · go_simp
    constructor
    · rfl
    · rfl
  refine hK.out _ _ (run_str_n hr h) (fun hHeld => ?_)
  clear hK K
  refine norm_ (a' := ?_) ?_ ?_
  rotate_left
  · show Act.put _ (some 34) _ = _
    simp only [Act.put, List.setIfInBounds_toArray, List.set_cons_zero, List.set_cons_succ, i64_w, i32_w]
    rfl
  refine pure_ (i := 13) (N := some 37) (v := ?_) (a' := ?_) #[true, true, true, true, true, true, true, true, true, true, true, true, true, true, false] rfl rfl (by kernel_rfl) (fun _ _ _ h => h) (Or.inl ⟨by rfl, ?_⟩) ?_ ?_
  rotate_left
  · intro w'
    go_simp
    with_reducible rfl
  rotate_left
  · simp only [Act.put, List.setIfInBounds_toArray, List.set_cons_zero, List.set_cons_succ, i64_w, i32_w]
    rfl
  refine pure_ (i := 14) (N := some 38) (v := ?_) (a' := ?_) #[true, true, true, true, true, true, true, true, true, true, true, true, true, true, true] rfl rfl (by kernel_rfl) (fun _ _ _ h => h) (Or.inl ⟨by rfl, ?_⟩) ?_ ?_
  rotate_left
  · intro w'
    go_simp
    with_reducible rfl
  rotate_left
  · simp only [Act.put, List.setIfInBounds_toArray, List.set_cons_zero, List.set_cons_succ, i64_w, i32_w]
    rfl
  refine done_ (by kernel_rfl) ?_
  have q0 := b2.cell 0 (v := .int .i64 0) rfl
  have q1 := b2.cell 1 (v := .int .u32 0) rfl
  have f0 := b2.frozen 0
  have f1 := b2.frozen 1
  go_wp2
  have c0 := ((b2.set_ 0 (.int .i64 0)).set_ 1 (.int .u32 0)).cell 0 (v := .int .i64 0) rfl
  have c1 := ((b2.set_ 0 (.int .i64 0)).set_ 1 (.int .u32 0)).cell 1 (v := .int .u32 0) rfl
  have hB2 := (hB.setCell (p := ⟨w.heap.size, 0, none⟩) (by simp) (.int .i64 0)).setCell (p := ⟨w.heap.size, 1, none⟩) (by simp) (.int .u32 0)
  exact bodyPost_ret (v := .tuple #[.agg #[.int .i64 0, .int .u32 0], .int .i64 5]) (by simp [results, Try.f13, go_sem, c0, c1]) rfl ⟨rfl, hB2⟩
  
set_option maxRecDepth 100000 in
set_option maxHeartbeats 4000000 in
theorem rhget_eq (A : Option Addr) (c : Nat) (l : List Int) (w : World) (hr : Rd w A l) (hc : l.length ≤ c) (h : l.length = 16) (h1 : ¬ hNode l < 1) (h2 : ¬ 1024 < hNode l) (h3 : hb (hNode l) (hGen l) = l) :
    Calls Try.prog 13 #[.slice A l.length c] w fun e w' => e = .returned (hvOK l) ∧ Below w.heap.size w w' := by
  have b2 := Blk.new w 27 #[.int .i64 0, .int .u32 0]
  have hB : Below w.heap.size w (w.alloc (.cells #[.int .i64 0, .int .u32 0] 27)) := (Below.refl _ _).alloc (Nat.le_refl _) _
  have hr := hr.alloc (.cells #[.int .i64 0, .int .u32 0] 27)
  obtain ⟨ad, rfl, hk⟩ := hr.2 (by omega)
  have g4 := rget_at _ (c - 4) (l.drop 4) _ (hr.drop 4 c (by omega)) (by rw [List.length_drop]; omega)
  have g8 := rget_at _ (c - 8) (l.drop 8) _ (hr.drop 8 c (by omega)) (by rw [List.length_drop]; omega)
  rw [get32_ok (by rw [List.length_drop]; omega), List.length_drop, h, if_neg (by omega)] at g4 g8
  have hb4 := num4 (hr.drop 4 c (by omega)).1
  have hb8 := num4 (hr.drop 8 c (by omega)).1
  have hbs := hr.1
  obtain ⟨N, hN⟩ : ∃ N, N = hNode l := ⟨_, rfl⟩
  obtain ⟨G, hG⟩ : ∃ G, G = hGen l := ⟨_, rfl⟩
  have hN' : num (l.drop 4) 4 = N := hN.symm
  have hG' : num (l.drop 8) 4 = G := hG.symm
  rw [hN'] at g4 hb4
  rw [hG'] at g8 hb8
  have g4 : Calls Try.prog 22 #[.slice (some (ad.add 4)) 12 (c - 4)] _ _ := g4
  have g8 : Calls Try.prog 22 #[.slice (some (ad.add 8)) 8 (c - 8)] _ _ := g8
  have hv : hvOK l = .tuple #[.agg #[.int .i64 N, .int .u32 G], .int .i64 0] := by rw [hN, hG]; rfl
  rw [hv]
  clear hv
  rw [← hN] at h1 h2
  rw [← hN, ← hG] at h3
  have heq := str_eq (hb_bs N G) hbs
  rw [decide_eq_true h3] at heq
  clear h3
  rw [h] at hc ⊢
  clear hN' hG' hN hG
  clear hk hbs
  have d1 : decide (N < 1) = false := decide_eq_false (by omega)
  have d2 : decide (1024 < N) = false := decide_eq_false (by omega)
  go_enter Try.func13, Try.ntmps13
  go_wp2_with fail
  refine g4.mono ?_
  rintro e w' ⟨rfl, rfl⟩
  go_wp2_with fail
  refine g8.mono ?_
  rintro e w' ⟨rfl, rfl⟩
  clear g4 g8
  go_wp2_with fail
  generalize (w.alloc (.cells #[.int .i64 0, .int .u32 0] 27)) = W at *
  have hB := below_then hB (below_drawn (w1 := W.drew) (n := 1) rfl)
  have bW := b2
  have b2 := b2.drew
  have hr : Rd W.drew (some ad) l := hr.drewN 1
  refine start_ (n := 15) (S := fun w' => (convert 22 9 (.slice (some ad) 16 c)).run Try.prog w' = .ok (.string (strOf l)) w') (ds := []) #[false, false, false, false, false, false, false, false, false, false, false, false, false, false, false] (by kernel_rfl) rfl rfl (run_str_n hr h) (fun hHeld => ?_)
  refine pure_ (i := 0) (N := some 24) (v := ?_) (a' := ?_) #[true, false, false, false, false, false, false, false, false, false, false, false, false, false, false] rfl rfl (by kernel_rfl) (fun _ _ _ h => h) (Or.inl ⟨by rfl, ?_⟩) ?_ ?_
  rotate_left
  · intro w'
    go_simp
    with_reducible rfl
  rotate_left
  · simp only [Act.put, List.setIfInBounds_toArray, List.set_cons_zero, List.set_cons_succ, i64_w, i32_w]
    rfl
  refine pure_ (i := 1) (N := some 25) (v := ?_) (a' := ?_) #[true, true, false, false, false, false, false, false, false, false, false, false, false, false, false] rfl rfl (by kernel_rfl) (fun _ _ _ h => h) (Or.inl ⟨by rfl, ?_⟩) ?_ ?_
  rotate_left
  · intro w'
    go_simp
    with_reducible rfl
  rotate_left
  · simp only [Act.put, List.setIfInBounds_toArray, List.set_cons_zero, List.set_cons_succ, i64_w, i32_w]
    rfl
  refine pure_ (i := 2) (N := some 26) (v := ?_) (a' := ?_) #[true, true, true, false, false, false, false, false, false, false, false, false, false, false, false] rfl rfl (by kernel_rfl) (fun _ _ _ h => h) (Or.inl ⟨by rfl, ?_⟩) ?_ ?_
  rotate_left
  · intro w'
    go_simp
    with_reducible rfl
  rotate_left
  · simp only [Act.put, List.setIfInBounds_toArray, List.set_cons_zero, List.set_cons_succ, i64_w, i32_w]
    rfl
  refine pure_ (i := 3) (N := some 27) (v := ?_) (a' := ?_) #[true, true, true, true, false, false, false, false, false, false, false, false, false, false, false] rfl rfl (by kernel_rfl) (fun _ _ _ h => h) (Or.inl ⟨by rfl, ?_⟩) ?_ ?_
  rotate_left
  · intro w'
    go_simp
    with_reducible rfl
  rotate_left
  · simp only [Act.put, List.setIfInBounds_toArray, List.set_cons_zero, List.set_cons_succ, i64_w, i32_w]
    rfl
  refine pure_ (i := 4) (N := some 28) (v := ?_) (a' := ?_) #[true, true, true, true, true, false, false, false, false, false, false, false, false, false, false] rfl rfl (by kernel_rfl) (fun _ _ _ h => h) (Or.inl ⟨by rfl, ?_⟩) ?_ ?_
  rotate_left
  · intro w'
    go_simp
    with_reducible rfl
  rotate_left
  · simp only [Act.put, List.setIfInBounds_toArray, List.set_cons_zero, List.set_cons_succ, i64_w, i32_w]
    rfl
  refine pure_ (i := 5) (N := some 29) (v := ?_) (a' := ?_) #[true, true, true, true, true, true, false, false, false, false, false, false, false, false, false] rfl rfl (by kernel_rfl) (fun _ _ _ h => h) (Or.inl ⟨by rfl, ?_⟩) ?_ ?_
  rotate_left
  · intro w'
    go_simp
    with_reducible rfl
  rotate_left
  · simp only [Act.put, List.setIfInBounds_toArray, List.set_cons_zero, List.set_cons_succ, i64_w, i32_w]
    rfl
  refine pure_ (i := 6) (N := some 30) (v := ?_) (a' := ?_) #[true, true, true, true, true, true, true, false, false, false, false, false, false, false, false] rfl rfl (by kernel_rfl) (fun _ _ _ h => h) (Or.inl ⟨by rfl, ?_⟩) ?_ ?_
  rotate_left
  · intro w'
    go_simp
    with_reducible rfl
  rotate_left
  · simp only [Act.put, List.setIfInBounds_toArray, List.set_cons_zero, List.set_cons_succ, i64_w, i32_w]
    rfl
  refine pure_ (i := 7) (N := some 31) (v := ?_) (a' := ?_) #[true, true, true, true, true, true, true, true, false, false, false, false, false, false, false] rfl rfl (by kernel_rfl) (fun _ _ _ h => h) (Or.inl ⟨by rfl, ?_⟩) ?_ ?_
  rotate_left
  · intro w'
    go_simp
    with_reducible rfl
  rotate_left
  · simp only [Act.put, List.setIfInBounds_toArray, List.set_cons_zero, List.set_cons_succ, i64_w, i32_w]
    rfl
  refine pure_ (i := 8) (N := some 32) (v := ?_) (a' := ?_) #[true, true, true, true, true, true, true, true, true, false, false, false, false, false, false] rfl rfl (by kernel_rfl) (fun _ _ _ h => h) (Or.inl ⟨by rfl, ?_⟩) ?_ ?_
  rotate_left
  · intro w'
    go_simp
    with_reducible rfl
  rotate_left
  · simp only [Act.put, List.setIfInBounds_toArray, List.set_cons_zero, List.set_cons_succ, i64_w, i32_w]
    rfl
  refine pure_ (i := 11) (N := some 35) (v := ?_) (a' := ?_) #[true, true, true, true, true, true, true, true, true, false, false, true, false, false, false] rfl rfl (by kernel_rfl) (fun _ _ _ h => h) (Or.inl ⟨by rfl, ?_⟩) ?_ ?_
  rotate_left
  · intro w'
    go_simp
    with_reducible rfl
  rotate_left
  · simp only [Act.put, List.setIfInBounds_toArray, List.set_cons_zero, List.set_cons_succ, i64_w, i32_w]
    rfl
  refine take_ (i := 12) (N := some 36) (v := ?_) (a' := ?_) #[true, true, true, true, true, true, true, true, true, false, false, true, true, false, false] rfl rfl (by kernel_rfl) (fun _ _ _ h => h) (Or.inl ⟨by rfl, ?_⟩) hHeld ?_ ?_
  rotate_left
  · intro w' s0
    go_simp
    with_reducible rfl
  rotate_left
  · simp only [Act.put, List.setIfInBounds_toArray, List.set_cons_zero, List.set_cons_succ, i64_w, i32_w]
    rfl
  refine one_ (i := 9) (N := some 33) #[true, true, true, true, true, true, true, true, true, true, false, true, true, false, false] rfl rfl (by kernel_rfl) (by decide) (fun K hK => ?_)
  refine goes_ Try.func23 (by kernel_rfl) rfl #[.int .u32 N, .int .u32 G] (by rfl) rfl rfl (by simp only [List.map_toArray, List.map_cons, List.map_nil]; rfl) ?_
  with_reducible refine (rhbytes N G _ (by omega) (by omega) (by omega) (by omega)).mono ?_
  rintro e w3 ⟨v7, rfl, o7, hbx⟩
  refine ⟨_, rfl, ?_⟩
  have hr := hr.below hbx
  have b2 := b2.below hbx
  have hB := below_then hB hbx
  clear hbx
  obtain ⟨A7, c7, rfl, _, _, r7⟩ := o7.form
  rw [hb_length]
  have s7 := run_str_n (c := c7) r7 (hb_length _ _)
  refine hK.out _ _ (run_str_n hr h) (fun hHeld => ?_)
  clear hK K
  refine norm_ (a' := ?_) ?_ ?_
  rotate_left
  · show Act.put _ (some 33) _ = _
    simp only [Act.put, List.setIfInBounds_toArray, List.set_cons_zero, List.set_cons_succ, i64_w, i32_w]
    rfl
  refine one_ (i := 10) (N := some 34) #[true, true, true, true, true, true, true, true, true, true, true, true, true, false, false] rfl rfl (by kernel_rfl) (by decide) (fun K hK => ?_)
  refine value_ (w1 := ?_) (v := ?_) (by rfl) rfl ?_ ?_
  rotate_left 2
  · go_simp
    constructor
    · rfl
    · rfl
  refine hK.out _ _ (run_str_n hr h) (fun hHeld => ?_)
  clear hK K
  refine norm_ (a' := ?_) ?_ ?_
  rotate_left
  · show Act.put _ (some 34) _ = _
    simp only [Act.put, List.setIfInBounds_toArray, List.set_cons_zero, List.set_cons_succ, i64_w, i32_w]
    rfl
  refine pure_ (i := 13) (N := some 37) (v := ?_) (a' := ?_) #[true, true, true, true, true, true, true, true, true, true, true, true, true, true, false] rfl rfl (by kernel_rfl) (fun _ _ _ h => h) (Or.inl ⟨by rfl, ?_⟩) ?_ ?_
  rotate_left
  · intro w'
    go_simp
    with_reducible rfl
  rotate_left
  · simp only [Act.put, List.setIfInBounds_toArray, List.set_cons_zero, List.set_cons_succ, i64_w, i32_w]
    rfl
  refine pure_ (i := 14) (N := some 38) (v := ?_) (a' := ?_) #[true, true, true, true, true, true, true, true, true, true, true, true, true, true, true] rfl rfl (by kernel_rfl) (fun _ _ _ h => h) (Or.inl ⟨by rfl, ?_⟩) ?_ ?_
  rotate_left
  · intro w'
    go_simp
    with_reducible rfl
  rotate_left
  · simp only [Act.put, List.setIfInBounds_toArray, List.set_cons_zero, List.set_cons_succ, i64_w, i32_w]
    rfl
  refine done_ (by kernel_rfl) ?_
  have q0 := b2.cell 0 (v := .int .i64 0) rfl
  have q1 := b2.cell 1 (v := .int .u32 0) rfl
  have f0 := b2.frozen 0
  have f1 := b2.frozen 1
  go_wp2
  have c0 := ((b2.set_ 0 (.int .i64 N)).set_ 1 (.int .u32 G)).cell 0 (v := .int .i64 N) rfl
  have c1 := ((b2.set_ 0 (.int .i64 N)).set_ 1 (.int .u32 G)).cell 1 (v := .int .u32 G) rfl
  have hB2 := (hB.setCell (p := ⟨w.heap.size, 0, none⟩) (by simp) (.int .i64 N)).setCell (p := ⟨w.heap.size, 1, none⟩) (by simp) (.int .u32 G)
  exact bodyPost_ret (v := .tuple #[.agg #[.int .i64 N, .int .u32 G], .int .i64 0]) (by simp [results, Try.f13, go_sem, c0, c1]) rfl ⟨rfl, hB2⟩
  
theorem rhget_ok (A : Option Addr) (c : Nat) (l : List Int) (w : World) (hr : Rd w A l) (hc : l.length ≤ c) (h : hOK l) :
    Calls Try.prog 13 #[.slice A l.length c] w fun e w' => e = .returned (hvOK l) ∧ Below w.heap.size w w' :=
  rhget_eq A c l w hr hc h.1 (by have := h.2.1; omega) (by have := h.2.2.1; omega) h.2.2.2
theorem rhget_no (A : Option Addr) (c : Nat) (l : List Int) (w : World) (hr : Rd w A l) (hc : l.length ≤ c) (h : ¬ hOK l) :
    Calls Try.prog 13 #[.slice A l.length c] w fun e w' => e = .returned hvNo ∧ Below w.heap.size w w' := by
  by_cases h16 : l.length = 16
  · by_cases h1 : hNode l < 1
    · exact rhget_lt A c l w hr hc h16 h1
    by_cases h2 : 1024 < hNode l
    · exact rhget_gt A c l w hr hc h16 h1 h2
    exact rhget_ne A c l w hr hc h16 h1 h2 fun h3 => h ⟨h16, by omega, by omega, h3⟩
  · exact rhget_short A c l w h16
end Go.Proofs.Ytffikncbpcnflaa.Hand
