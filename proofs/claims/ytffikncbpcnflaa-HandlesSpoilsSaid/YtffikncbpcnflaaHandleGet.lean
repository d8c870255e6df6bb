/- What handles.Get hands back: the handle that bytes are, or the error. -/
import Derived.Stop.BytesEq
import Derived.Test.YtffikncbpcnflaaHandlePut
import Derived.Test.YtffikncbpcnflaaGet
import Derived.Test.YtffikncbpcnflaaStr
namespace Go.Proofs.Ytffikncbpcnflaa.Hand
open Go.RowKit Go.Proofs.YtffikncbpcnflaaW.PrintLast
set_option linter.unusedVariables false
set_option linter.unusedSimpArgs false

theorem map_cell {l : List Int} (h : Bs l) : l.map (Value.int .u8) = (u8s l).map Go.Extern.Stop.cell := by
  unfold u8s
  rw [List.map_map]
  refine List.map_congr_left fun x hx => ?_
  have hb := h x hx
  simp only [Function.comp, Go.Extern.Stop.cell, UInt8.toNat_ofNat']
  congr 1
  rw [Nat.mod_eq_of_lt (by omega)]
  simp
  omega
theorem arr_eq {l m : List Int} (hl : Bs l) (hm : Bs m) (h1 : l.length = 16) (h2 : m.length = 16) (w : World) :
    (Op.equalIn 10000 50 (.agg (l.map (Value.int .u8)).toArray) (.agg (m.map (Value.int .u8)).toArray)).run Try.prog w = .ok (decide (l = m)) w := by
  obtain ⟨i, hi, hz0, hz1, hz2⟩ := info_parts info8
  have hsz : ∀ w, (sizeOf 5).run Try.prog w = .ok 1 w := fun w => by simp [sizeOf, typeInfo, hi, hz1]
  rw [map_cell hl, map_cell hm]
  rw [Go.run_equalIn_bytes w 9998 50 5 16 Try.underlying50 Try.underlying5 hsz (u8s l) (u8s m) (by simp [u8s, h1]) (by simp [u8s, h2])]
  congr 1
  rw [Bool.eq_iff_iff, beq_iff_eq, decide_eq_true_eq]
  exact ⟨u8s_inj hl hm, fun h => by rw [h]⟩

/-- The two numbers in bytes of a handle. -/
def hNode (l : List Int) : Int := num (l.drop 4) 4
def hGen (l : List Int) : Int := num (l.drop 8) 4
def hOK (l : List Int) : Prop := l.length = 16 ∧ 1 ≤ hNode l ∧ hNode l ≤ 1024 ∧ hb (hNode l) (hGen l) = l
def hvOK (l : List Int) : Value := .tuple #[.agg #[.int .i64 (hNode l), .int .u32 (hGen l)], .int .i64 0]
def hvNo : Value := .tuple #[.agg #[.int .i64 0, .int .u32 0], .int .i64 5]

set_option maxRecDepth 100000 in
set_option maxHeartbeats 2000000 in
theorem hget_short (A : Option Addr) (c : Nat) (l : List Int) (w : World) (h : l.length ≠ 16) :
    Calls Try.prog 12 #[.slice A l.length c] w fun e w' => e = .returned hvNo ∧ Below w.heap.size w w' := by
  have h1 : ((l.length : Int) != 16) = true := by rw [bne_iff_ne]; omega
  go_enter Try.func12, Try.ntmps12
  go_wp2
  exact bodyPost_ret (v := hvNo) (by simp [results, Try.f12, go_sem, hvNo]) rfl ⟨rfl, (Below.refl _ _).alloc (Nat.le_refl _) _⟩

theorem list16 {l : List Int} (h : l.length = 16) : ∃ x0 x1 x2 x3 x4 x5 x6 x7 x8 x9 x10 x11 x12 x13 x14 x15, l = [x0, x1, x2, x3, x4, x5, x6, x7, x8, x9, x10, x11, x12, x13, x14, x15] := by
  match l, h with
  | [x0, x1, x2, x3, x4, x5, x6, x7, x8, x9, x10, x11, x12, x13, x14, x15], _ => exact ⟨_, _, _, _, _, _, _, _, _, _, _, _, _, _, _, _, rfl⟩

set_option maxRecDepth 100000 in
set_option maxHeartbeats 4000000 in
theorem hget_lt (A : Option Addr) (c : Nat) (l : List Int) (w : World) (hr : Rd w A l) (hc : l.length ≤ c) (h : l.length = 16) (h1 : hNode l < 1) :
    Calls Try.prog 12 #[.slice A l.length c] w fun e w' => e = .returned (hvNo) ∧ Below w.heap.size w w' := by
  have b2 := Blk.new w 27 #[.int .i64 0, .int .u32 0]
  have hB : Below w.heap.size w (w.alloc (.cells #[.int .i64 0, .int .u32 0] 27)) := (Below.refl _ _).alloc (Nat.le_refl _) _
  have hr := hr.alloc (.cells #[.int .i64 0, .int .u32 0] 27)
  obtain ⟨ad, rfl, hk⟩ := hr.2 (by omega)
  have g4 := Get _ (c - 4) (l.drop 4) _ (hr.drop 4 c (by omega)) (by rw [List.length_drop]; omega)
  have g8 := Get _ (c - 8) (l.drop 8) _ (hr.drop 8 c (by omega)) (by rw [List.length_drop]; omega)
  rw [get32_ok (by rw [List.length_drop]; omega), List.length_drop, h, if_neg (by omega)] at g4 g8
  have hb4 := num4 (hr.drop 4 c (by omega)).1
  have hb8 := num4 (hr.drop 8 c (by omega)).1
  have hbs := hr.1
  obtain ⟨N, hN⟩ : ∃ N, N = hNode l := ⟨_, rfl⟩
  obtain ⟨G, hG⟩ : ∃ G, G = hGen l := ⟨_, rfl⟩
  have hN' : num (l.drop 4) 4 = N := hN.symm
  have hG' : num (l.drop 8) 4 = G := hG.symm
  rw [hN'] at g4 hb4
  rw [hG'] at g8 hb8
  obtain ⟨ab, ao, asp⟩ := ad
  have k0 : (w.alloc (.cells #[.int .i64 0, .int .u32 0] 27)).cell? ⟨ab, ao, asp⟩ = some (.int .u8 (nth l 0)) := hk 0 (by omega)
  have k1 : (w.alloc (.cells #[.int .i64 0, .int .u32 0] 27)).cell? ⟨ab, ao + 1, none⟩ = some (.int .u8 (nth l 1)) := hk 1 (by omega)
  have k2 : (w.alloc (.cells #[.int .i64 0, .int .u32 0] 27)).cell? ⟨ab, ao + 2, none⟩ = some (.int .u8 (nth l 2)) := hk 2 (by omega)
  have k3 : (w.alloc (.cells #[.int .i64 0, .int .u32 0] 27)).cell? ⟨ab, ao + 3, none⟩ = some (.int .u8 (nth l 3)) := hk 3 (by omega)
  have k4 : (w.alloc (.cells #[.int .i64 0, .int .u32 0] 27)).cell? ⟨ab, ao + 4, none⟩ = some (.int .u8 (nth l 4)) := hk 4 (by omega)
  have k5 : (w.alloc (.cells #[.int .i64 0, .int .u32 0] 27)).cell? ⟨ab, ao + 5, none⟩ = some (.int .u8 (nth l 5)) := hk 5 (by omega)
  have k6 : (w.alloc (.cells #[.int .i64 0, .int .u32 0] 27)).cell? ⟨ab, ao + 6, none⟩ = some (.int .u8 (nth l 6)) := hk 6 (by omega)
  have k7 : (w.alloc (.cells #[.int .i64 0, .int .u32 0] 27)).cell? ⟨ab, ao + 7, none⟩ = some (.int .u8 (nth l 7)) := hk 7 (by omega)
  have k8 : (w.alloc (.cells #[.int .i64 0, .int .u32 0] 27)).cell? ⟨ab, ao + 8, none⟩ = some (.int .u8 (nth l 8)) := hk 8 (by omega)
  have k9 : (w.alloc (.cells #[.int .i64 0, .int .u32 0] 27)).cell? ⟨ab, ao + 9, none⟩ = some (.int .u8 (nth l 9)) := hk 9 (by omega)
  have k10 : (w.alloc (.cells #[.int .i64 0, .int .u32 0] 27)).cell? ⟨ab, ao + 10, none⟩ = some (.int .u8 (nth l 10)) := hk 10 (by omega)
  have k11 : (w.alloc (.cells #[.int .i64 0, .int .u32 0] 27)).cell? ⟨ab, ao + 11, none⟩ = some (.int .u8 (nth l 11)) := hk 11 (by omega)
  have k12 : (w.alloc (.cells #[.int .i64 0, .int .u32 0] 27)).cell? ⟨ab, ao + 12, none⟩ = some (.int .u8 (nth l 12)) := hk 12 (by omega)
  have k13 : (w.alloc (.cells #[.int .i64 0, .int .u32 0] 27)).cell? ⟨ab, ao + 13, none⟩ = some (.int .u8 (nth l 13)) := hk 13 (by omega)
  have k14 : (w.alloc (.cells #[.int .i64 0, .int .u32 0] 27)).cell? ⟨ab, ao + 14, none⟩ = some (.int .u8 (nth l 14)) := hk 14 (by omega)
  have k15 : (w.alloc (.cells #[.int .i64 0, .int .u32 0] 27)).cell? ⟨ab, ao + 15, none⟩ = some (.int .u8 (nth l 15)) := hk 15 (by omega)
  have g4 : Calls Try.prog 20 #[.slice (some ⟨ab, ao + 4, none⟩) 12 (c - 4)] _ _ := g4
  have g8 : Calls Try.prog 20 #[.slice (some ⟨ab, ao + 8, none⟩) 8 (c - 8)] _ _ := g8
  rw [← hN] at h1
  rw [h] at hc ⊢
  clear hN' hG' hN hG
  clear hk h hr hbs
  have d1 : decide (N < 1) = true := decide_eq_true (by omega)
  go_enter Try.func12, Try.ntmps12
  go_wp2_with fail
  refine g4.mono ?_
  rintro e w' ⟨rfl, rfl⟩
  go_wp2_with fail
  refine g8.mono ?_
  rintro e w' ⟨rfl, rfl⟩
  clear g4 g8
  go_wp2_with fail
  generalize (w.alloc (.cells #[.int .i64 0, .int .u32 0] 27)) = W at *
  have hB := below_then hB (below_drawn (w1 := W.drew) (n := 1) rfl)
  have bW := b2
  have b2 := b2.drew
  refine start_ (n := 15) (S := fun w' => True) (ds := []) #[false, false, false, false, false, false, false, false, false, false, false, false, false, false, false] (by kernel_rfl) rfl rfl trivial (fun hHeld => ?_)
  refine pure_ (i := 0) (N := some 24) (v := ?_) (a' := ?_) #[true, false, false, false, false, false, false, false, false, false, false, false, false, false, false] rfl rfl (by kernel_rfl) (fun _ _ _ h => h) (Or.inl ⟨by rfl, ?_⟩) ?_ ?_
  rotate_left
  · intro w'
    go_simp
    with_reducible rfl
  rotate_left
  · simp only [Act.put, List.setIfInBounds_toArray, List.set_cons_zero, List.set_cons_succ, i64_w, i32_w]
    rfl
  refine pure_ (i := 1) (N := some 25) (v := ?_) (a' := ?_) #[true, true, false, false, false, false, false, false, false, false, false, false, false, false, false] rfl rfl (by kernel_rfl) (fun _ _ _ h => h) (Or.inl ⟨by rfl, ?_⟩) ?_ ?_
  rotate_left
  · intro w'
    go_simp
    with_reducible rfl
  rotate_left
  · simp only [Act.put, List.setIfInBounds_toArray, List.set_cons_zero, List.set_cons_succ, i64_w, i32_w]
    rfl
  refine pure_ (i := 2) (N := some 26) (v := ?_) (a' := ?_) #[true, true, true, false, false, false, false, false, false, false, false, false, false, false, false] rfl rfl (by kernel_rfl) (fun _ _ _ h => h) (Or.inl ⟨by rfl, ?_⟩) ?_ ?_
  rotate_left
  · intro w'
    go_simp
    with_reducible rfl
  rotate_left
  · simp only [Act.put, List.setIfInBounds_toArray, List.set_cons_zero, List.set_cons_succ, i64_w, i32_w]
    rfl
  refine pure_ (i := 3) (N := some 27) (v := undef) (a' := ?_) #[true, true, true, true, false, false, false, false, false, false, false, false, false, false, false] rfl rfl (by kernel_rfl) (fun _ _ _ h => h) (Or.inr ⟨by rfl, rfl⟩) ?_ ?_
  rotate_left
  · simp only [Act.put, List.setIfInBounds_toArray, List.set_cons_zero, List.set_cons_succ, i64_w, i32_w]
    rfl
  refine pure_ (i := 4) (N := some 28) (v := undef) (a' := ?_) #[true, true, true, true, true, false, false, false, false, false, false, false, false, false, false] rfl rfl (by kernel_rfl) (fun _ _ _ h => h) (Or.inr ⟨by rfl, rfl⟩) ?_ ?_
  rotate_left
  · simp only [Act.put, List.setIfInBounds_toArray, List.set_cons_zero, List.set_cons_succ, i64_w, i32_w]
    rfl
  refine pure_ (i := 5) (N := some 29) (v := ?_) (a' := ?_) #[true, true, true, true, true, true, false, false, false, false, false, false, false, false, false] rfl rfl (by kernel_rfl) (fun _ _ _ h => h) (Or.inl ⟨by rfl, ?_⟩) ?_ ?_
  rotate_left
  · intro w'
    go_simp
    with_reducible rfl
  rotate_left
  · simp only [Act.put, List.setIfInBounds_toArray, List.set_cons_zero, List.set_cons_succ, i64_w, i32_w]
    rfl
  refine pure_ (i := 6) (N := some 30) (v := ?_) (a' := ?_) #[true, true, true, true, true, true, true, false, false, false, false, false, false, false, false] rfl rfl (by kernel_rfl) (fun _ _ _ h => h) (Or.inl ⟨by rfl, ?_⟩) ?_ ?_
  rotate_left
  · intro w'
    go_simp
    with_reducible rfl
  rotate_left
  · simp only [Act.put, List.setIfInBounds_toArray, List.set_cons_zero, List.set_cons_succ, i64_w, i32_w]
    rfl
  refine pure_ (i := 7) (N := some 31) (v := undef) (a' := ?_) #[true, true, true, true, true, true, true, true, false, false, false, false, false, false, false] rfl rfl (by kernel_rfl) (fun _ _ _ h => h) (Or.inr ⟨by rfl, rfl⟩) ?_ ?_
  rotate_left
  · simp only [Act.put, List.setIfInBounds_toArray, List.set_cons_zero, List.set_cons_succ, i64_w, i32_w]
    rfl
  refine pure_ (i := 8) (N := some 32) (v := undef) (a' := ?_) #[true, true, true, true, true, true, true, true, true, false, false, false, false, false, false] rfl rfl (by kernel_rfl) (fun _ _ _ h => h) (Or.inr ⟨by rfl, rfl⟩) ?_ ?_
  rotate_left
  · simp only [Act.put, List.setIfInBounds_toArray, List.set_cons_zero, List.set_cons_succ, i64_w, i32_w]
    rfl
  refine pure_ (i := 9) (N := some 33) (v := undef) (a' := ?_) #[true, true, true, true, true, true, true, true, true, true, false, false, false, false, false] rfl rfl (by kernel_rfl) (fun _ _ _ h => h) (Or.inr ⟨by rfl, rfl⟩) ?_ ?_
  rotate_left
  · simp only [Act.put, List.setIfInBounds_toArray, List.set_cons_zero, List.set_cons_succ, i64_w, i32_w]
    rfl
  refine pure_ (i := 10) (N := some 34) (v := undef) (a' := ?_) #[true, true, true, true, true, true, true, true, true, true, true, false, false, false, false] rfl rfl (by kernel_rfl) (fun _ _ _ h => h) (Or.inr ⟨by rfl, rfl⟩) ?_ ?_
  rotate_left
  · simp only [Act.put, List.setIfInBounds_toArray, List.set_cons_zero, List.set_cons_succ, i64_w, i32_w]
    rfl
  refine pure_ (i := 11) (N := some 35) (v := undef) (a' := ?_) #[true, true, true, true, true, true, true, true, true, true, true, true, false, false, false] rfl rfl (by kernel_rfl) (fun _ _ _ h => h) (Or.inr ⟨by rfl, rfl⟩) ?_ ?_
  rotate_left
  · simp only [Act.put, List.setIfInBounds_toArray, List.set_cons_zero, List.set_cons_succ, i64_w, i32_w]
    rfl
  refine pure_ (i := 12) (N := some 36) (v := undef) (a' := ?_) #[true, true, true, true, true, true, true, true, true, true, true, true, true, false, false] rfl rfl (by kernel_rfl) (fun _ _ _ h => h) (Or.inr ⟨by rfl, rfl⟩) ?_ ?_
  rotate_left
  · simp only [Act.put, List.setIfInBounds_toArray, List.set_cons_zero, List.set_cons_succ, i64_w, i32_w]
    rfl
  refine pure_ (i := 13) (N := some 37) (v := undef) (a' := ?_) #[true, true, true, true, true, true, true, true, true, true, true, true, true, true, false] rfl rfl (by kernel_rfl) (fun _ _ _ h => h) (Or.inr ⟨by rfl, rfl⟩) ?_ ?_
  rotate_left
  · simp only [Act.put, List.setIfInBounds_toArray, List.set_cons_zero, List.set_cons_succ, i64_w, i32_w]
    rfl
  refine pure_ (i := 14) (N := some 38) (v := ?_) (a' := ?_) #[true, true, true, true, true, true, true, true, true, true, true, true, true, true, true] rfl rfl (by kernel_rfl) (fun _ _ _ h => h) (Or.inl ⟨by rfl, ?_⟩) ?_ ?_
  rotate_left
  · intro w'
    go_simp
    with_reducible rfl
  rotate_left
  · simp only [Act.put, List.setIfInBounds_toArray, List.set_cons_zero, List.set_cons_succ, i64_w, i32_w]
    rfl
  refine done_ (by kernel_rfl) ?_
  have q0 := b2.cell 0 (v := .int .i64 0) rfl
  have q1 := b2.cell 1 (v := .int .u32 0) rfl
  have f0 := b2.frozen 0
  have f1 := b2.frozen 1
  have q0 : W.cell? _ = _ := q0
  have q1 : W.cell? _ = _ := q1
  have f0 : W.frozen? _ = _ := f0
  have f1 : W.frozen? _ = _ := f1
  go_wp2
  have e0 := (bW.set_ 0 (.int .i64 0)).cell 0 (v := .int .i64 0) rfl
  have e1 := ((bW.set_ 0 (.int .i64 0)).set_ 1 (.int .u32 0)).cell 1 (v := .int .u32 0) rfl
  have c0 := ((b2.set_ 0 (.int .i64 0)).set_ 1 (.int .u32 0)).cell 0 (v := .int .i64 0) rfl
  have c1 := ((b2.set_ 0 (.int .i64 0)).set_ 1 (.int .u32 0)).cell 1 (v := .int .u32 0) rfl
  have hB2 := (hB.setCell (p := ⟨w.heap.size, 0, none⟩) (by simp) (.int .i64 0)).setCell (p := ⟨w.heap.size, 1, none⟩) (by simp) (.int .u32 0)
  exact bodyPost_ret (v := .tuple #[.agg #[.int .i64 0, .int .u32 0], .int .i64 5]) (by simp [results, Try.f12, go_sem, c0, c1, e0, e1]) rfl ⟨rfl, hB2⟩
  
set_option maxRecDepth 100000 in
set_option maxHeartbeats 4000000 in
theorem hget_gt (A : Option Addr) (c : Nat) (l : List Int) (w : World) (hr : Rd w A l) (hc : l.length ≤ c) (h : l.length = 16) (h1 : ¬ hNode l < 1) (h2 : 1024 < hNode l) :
    Calls Try.prog 12 #[.slice A l.length c] w fun e w' => e = .returned (hvNo) ∧ Below w.heap.size w w' := by
  have b2 := Blk.new w 27 #[.int .i64 0, .int .u32 0]
  have hB : Below w.heap.size w (w.alloc (.cells #[.int .i64 0, .int .u32 0] 27)) := (Below.refl _ _).alloc (Nat.le_refl _) _
  have hr := hr.alloc (.cells #[.int .i64 0, .int .u32 0] 27)
  obtain ⟨ad, rfl, hk⟩ := hr.2 (by omega)
  have g4 := Get _ (c - 4) (l.drop 4) _ (hr.drop 4 c (by omega)) (by rw [List.length_drop]; omega)
  have g8 := Get _ (c - 8) (l.drop 8) _ (hr.drop 8 c (by omega)) (by rw [List.length_drop]; omega)
  rw [get32_ok (by rw [List.length_drop]; omega), List.length_drop, h, if_neg (by omega)] at g4 g8
  have hb4 := num4 (hr.drop 4 c (by omega)).1
  have hb8 := num4 (hr.drop 8 c (by omega)).1
  have hbs := hr.1
  obtain ⟨N, hN⟩ : ∃ N, N = hNode l := ⟨_, rfl⟩
  obtain ⟨G, hG⟩ : ∃ G, G = hGen l := ⟨_, rfl⟩
  have hN' : num (l.drop 4) 4 = N := hN.symm
  have hG' : num (l.drop 8) 4 = G := hG.symm
  rw [hN'] at g4 hb4
  rw [hG'] at g8 hb8
  obtain ⟨ab, ao, asp⟩ := ad
  have k0 : (w.alloc (.cells #[.int .i64 0, .int .u32 0] 27)).cell? ⟨ab, ao, asp⟩ = some (.int .u8 (nth l 0)) := hk 0 (by omega)
  have k1 : (w.alloc (.cells #[.int .i64 0, .int .u32 0] 27)).cell? ⟨ab, ao + 1, none⟩ = some (.int .u8 (nth l 1)) := hk 1 (by omega)
  have k2 : (w.alloc (.cells #[.int .i64 0, .int .u32 0] 27)).cell? ⟨ab, ao + 2, none⟩ = some (.int .u8 (nth l 2)) := hk 2 (by omega)
  have k3 : (w.alloc (.cells #[.int .i64 0, .int .u32 0] 27)).cell? ⟨ab, ao + 3, none⟩ = some (.int .u8 (nth l 3)) := hk 3 (by omega)
  have k4 : (w.alloc (.cells #[.int .i64 0, .int .u32 0] 27)).cell? ⟨ab, ao + 4, none⟩ = some (.int .u8 (nth l 4)) := hk 4 (by omega)
  have k5 : (w.alloc (.cells #[.int .i64 0, .int .u32 0] 27)).cell? ⟨ab, ao + 5, none⟩ = some (.int .u8 (nth l 5)) := hk 5 (by omega)
  have k6 : (w.alloc (.cells #[.int .i64 0, .int .u32 0] 27)).cell? ⟨ab, ao + 6, none⟩ = some (.int .u8 (nth l 6)) := hk 6 (by omega)
  have k7 : (w.alloc (.cells #[.int .i64 0, .int .u32 0] 27)).cell? ⟨ab, ao + 7, none⟩ = some (.int .u8 (nth l 7)) := hk 7 (by omega)
  have k8 : (w.alloc (.cells #[.int .i64 0, .int .u32 0] 27)).cell? ⟨ab, ao + 8, none⟩ = some (.int .u8 (nth l 8)) := hk 8 (by omega)
  have k9 : (w.alloc (.cells #[.int .i64 0, .int .u32 0] 27)).cell? ⟨ab, ao + 9, none⟩ = some (.int .u8 (nth l 9)) := hk 9 (by omega)
  have k10 : (w.alloc (.cells #[.int .i64 0, .int .u32 0] 27)).cell? ⟨ab, ao + 10, none⟩ = some (.int .u8 (nth l 10)) := hk 10 (by omega)
  have k11 : (w.alloc (.cells #[.int .i64 0, .int .u32 0] 27)).cell? ⟨ab, ao + 11, none⟩ = some (.int .u8 (nth l 11)) := hk 11 (by omega)
  have k12 : (w.alloc (.cells #[.int .i64 0, .int .u32 0] 27)).cell? ⟨ab, ao + 12, none⟩ = some (.int .u8 (nth l 12)) := hk 12 (by omega)
  have k13 : (w.alloc (.cells #[.int .i64 0, .int .u32 0] 27)).cell? ⟨ab, ao + 13, none⟩ = some (.int .u8 (nth l 13)) := hk 13 (by omega)
  have k14 : (w.alloc (.cells #[.int .i64 0, .int .u32 0] 27)).cell? ⟨ab, ao + 14, none⟩ = some (.int .u8 (nth l 14)) := hk 14 (by omega)
  have k15 : (w.alloc (.cells #[.int .i64 0, .int .u32 0] 27)).cell? ⟨ab, ao + 15, none⟩ = some (.int .u8 (nth l 15)) := hk 15 (by omega)
  have g4 : Calls Try.prog 20 #[.slice (some ⟨ab, ao + 4, none⟩) 12 (c - 4)] _ _ := g4
  have g8 : Calls Try.prog 20 #[.slice (some ⟨ab, ao + 8, none⟩) 8 (c - 8)] _ _ := g8
  rw [← hN] at h1 h2
  rw [h] at hc ⊢
  clear hN' hG' hN hG
  clear hk h hr hbs
  have d1 : decide (N < 1) = false := decide_eq_false (by omega)
  have d2 : decide (1024 < N) = true := decide_eq_true (by omega)
  go_enter Try.func12, Try.ntmps12
  go_wp2_with fail
  refine g4.mono ?_
  rintro e w' ⟨rfl, rfl⟩
  go_wp2_with fail
  refine g8.mono ?_
  rintro e w' ⟨rfl, rfl⟩
  clear g4 g8
  go_wp2_with fail
  generalize (w.alloc (.cells #[.int .i64 0, .int .u32 0] 27)) = W at *
  have hB := below_then hB (below_drawn (w1 := W.drew) (n := 1) rfl)
  have bW := b2
  have b2 := b2.drew
  refine start_ (n := 15) (S := fun w' => True) (ds := []) #[false, false, false, false, false, false, false, false, false, false, false, false, false, false, false] (by kernel_rfl) rfl rfl trivial (fun hHeld => ?_)
  refine pure_ (i := 0) (N := some 24) (v := ?_) (a' := ?_) #[true, false, false, false, false, false, false, false, false, false, false, false, false, false, false] rfl rfl (by kernel_rfl) (fun _ _ _ h => h) (Or.inl ⟨by rfl, ?_⟩) ?_ ?_
  rotate_left
  · intro w'
    go_simp
    with_reducible rfl
  rotate_left
  · simp only [Act.put, List.setIfInBounds_toArray, List.set_cons_zero, List.set_cons_succ, i64_w, i32_w]
    rfl
  refine pure_ (i := 1) (N := some 25) (v := ?_) (a' := ?_) #[true, true, false, false, false, false, false, false, false, false, false, false, false, false, false] rfl rfl (by kernel_rfl) (fun _ _ _ h => h) (Or.inl ⟨by rfl, ?_⟩) ?_ ?_
  rotate_left
  · intro w'
    go_simp
    with_reducible rfl
  rotate_left
  · simp only [Act.put, List.setIfInBounds_toArray, List.set_cons_zero, List.set_cons_succ, i64_w, i32_w]
    rfl
  refine pure_ (i := 2) (N := some 26) (v := ?_) (a' := ?_) #[true, true, true, false, false, false, false, false, false, false, false, false, false, false, false] rfl rfl (by kernel_rfl) (fun _ _ _ h => h) (Or.inl ⟨by rfl, ?_⟩) ?_ ?_
  rotate_left
  · intro w'
    go_simp
    with_reducible rfl
  rotate_left
  · simp only [Act.put, List.setIfInBounds_toArray, List.set_cons_zero, List.set_cons_succ, i64_w, i32_w]
    rfl
  refine pure_ (i := 3) (N := some 27) (v := ?_) (a' := ?_) #[true, true, true, true, false, false, false, false, false, false, false, false, false, false, false] rfl rfl (by kernel_rfl) (fun _ _ _ h => h) (Or.inl ⟨by rfl, ?_⟩) ?_ ?_
  rotate_left
  · intro w'
    go_simp
    with_reducible rfl
  rotate_left
  · simp only [Act.put, List.setIfInBounds_toArray, List.set_cons_zero, List.set_cons_succ, i64_w, i32_w]
    rfl
  refine pure_ (i := 4) (N := some 28) (v := ?_) (a' := ?_) #[true, true, true, true, true, false, false, false, false, false, false, false, false, false, false] rfl rfl (by kernel_rfl) (fun _ _ _ h => h) (Or.inl ⟨by rfl, ?_⟩) ?_ ?_
  rotate_left
  · intro w'
    go_simp
    with_reducible rfl
  rotate_left
  · simp only [Act.put, List.setIfInBounds_toArray, List.set_cons_zero, List.set_cons_succ, i64_w, i32_w]
    rfl
  refine pure_ (i := 5) (N := some 29) (v := ?_) (a' := ?_) #[true, true, true, true, true, true, false, false, false, false, false, false, false, false, false] rfl rfl (by kernel_rfl) (fun _ _ _ h => h) (Or.inl ⟨by rfl, ?_⟩) ?_ ?_
  rotate_left
  · intro w'
    go_simp
    with_reducible rfl
  rotate_left
  · simp only [Act.put, List.setIfInBounds_toArray, List.set_cons_zero, List.set_cons_succ, i64_w, i32_w]
    rfl
  refine pure_ (i := 6) (N := some 30) (v := ?_) (a' := ?_) #[true, true, true, true, true, true, true, false, false, false, false, false, false, false, false] rfl rfl (by kernel_rfl) (fun _ _ _ h => h) (Or.inl ⟨by rfl, ?_⟩) ?_ ?_
  rotate_left
  · intro w'
    go_simp
    with_reducible rfl
  rotate_left
  · simp only [Act.put, List.setIfInBounds_toArray, List.set_cons_zero, List.set_cons_succ, i64_w, i32_w]
    rfl
  refine pure_ (i := 7) (N := some 31) (v := undef) (a' := ?_) #[true, true, true, true, true, true, true, true, false, false, false, false, false, false, false] rfl rfl (by kernel_rfl) (fun _ _ _ h => h) (Or.inr ⟨by rfl, rfl⟩) ?_ ?_
  rotate_left
  · simp only [Act.put, List.setIfInBounds_toArray, List.set_cons_zero, List.set_cons_succ, i64_w, i32_w]
    rfl
  refine pure_ (i := 8) (N := some 32) (v := undef) (a' := ?_) #[true, true, true, true, true, true, true, true, true, false, false, false, false, false, false] rfl rfl (by kernel_rfl) (fun _ _ _ h => h) (Or.inr ⟨by rfl, rfl⟩) ?_ ?_
  rotate_left
  · simp only [Act.put, List.setIfInBounds_toArray, List.set_cons_zero, List.set_cons_succ, i64_w, i32_w]
    rfl
  refine pure_ (i := 9) (N := some 33) (v := undef) (a' := ?_) #[true, true, true, true, true, true, true, true, true, true, false, false, false, false, false] rfl rfl (by kernel_rfl) (fun _ _ _ h => h) (Or.inr ⟨by rfl, rfl⟩) ?_ ?_
  rotate_left
  · simp only [Act.put, List.setIfInBounds_toArray, List.set_cons_zero, List.set_cons_succ, i64_w, i32_w]
    rfl
  refine pure_ (i := 10) (N := some 34) (v := undef) (a' := ?_) #[true, true, true, true, true, true, true, true, true, true, true, false, false, false, false] rfl rfl (by kernel_rfl) (fun _ _ _ h => h) (Or.inr ⟨by rfl, rfl⟩) ?_ ?_
  rotate_left
  · simp only [Act.put, List.setIfInBounds_toArray, List.set_cons_zero, List.set_cons_succ, i64_w, i32_w]
    rfl
  refine pure_ (i := 11) (N := some 35) (v := undef) (a' := ?_) #[true, true, true, true, true, true, true, true, true, true, true, true, false, false, false] rfl rfl (by kernel_rfl) (fun _ _ _ h => h) (Or.inr ⟨by rfl, rfl⟩) ?_ ?_
  rotate_left
  · simp only [Act.put, List.setIfInBounds_toArray, List.set_cons_zero, List.set_cons_succ, i64_w, i32_w]
    rfl
  refine pure_ (i := 12) (N := some 36) (v := undef) (a' := ?_) #[true, true, true, true, true, true, true, true, true, true, true, true, true, false, false] rfl rfl (by kernel_rfl) (fun _ _ _ h => h) (Or.inr ⟨by rfl, rfl⟩) ?_ ?_
  rotate_left
  · simp only [Act.put, List.setIfInBounds_toArray, List.set_cons_zero, List.set_cons_succ, i64_w, i32_w]
    rfl
  refine pure_ (i := 13) (N := some 37) (v := undef) (a' := ?_) #[true, true, true, true, true, true, true, true, true, true, true, true, true, true, false] rfl rfl (by kernel_rfl) (fun _ _ _ h => h) (Or.inr ⟨by rfl, rfl⟩) ?_ ?_
  rotate_left
  · simp only [Act.put, List.setIfInBounds_toArray, List.set_cons_zero, List.set_cons_succ, i64_w, i32_w]
    rfl
  refine pure_ (i := 14) (N := some 38) (v := ?_) (a' := ?_) #[true, true, true, true, true, true, true, true, true, true, true, true, true, true, true] rfl rfl (by kernel_rfl) (fun _ _ _ h => h) (Or.inl ⟨by rfl, ?_⟩) ?_ ?_
  rotate_left
  · intro w'
    go_simp
    with_reducible rfl
  rotate_left
  · simp only [Act.put, List.setIfInBounds_toArray, List.set_cons_zero, List.set_cons_succ, i64_w, i32_w]
    rfl
  refine done_ (by kernel_rfl) ?_
  have q0 := b2.cell 0 (v := .int .i64 0) rfl
  have q1 := b2.cell 1 (v := .int .u32 0) rfl
  have f0 := b2.frozen 0
  have f1 := b2.frozen 1
  have q0 : W.cell? _ = _ := q0
  have q1 : W.cell? _ = _ := q1
  have f0 : W.frozen? _ = _ := f0
  have f1 : W.frozen? _ = _ := f1
  go_wp2
  have e0 := (bW.set_ 0 (.int .i64 0)).cell 0 (v := .int .i64 0) rfl
  have e1 := ((bW.set_ 0 (.int .i64 0)).set_ 1 (.int .u32 0)).cell 1 (v := .int .u32 0) rfl
  have c0 := ((b2.set_ 0 (.int .i64 0)).set_ 1 (.int .u32 0)).cell 0 (v := .int .i64 0) rfl
  have c1 := ((b2.set_ 0 (.int .i64 0)).set_ 1 (.int .u32 0)).cell 1 (v := .int .u32 0) rfl
  have hB2 := (hB.setCell (p := ⟨w.heap.size, 0, none⟩) (by simp) (.int .i64 0)).setCell (p := ⟨w.heap.size, 1, none⟩) (by simp) (.int .u32 0)
  exact bodyPost_ret (v := .tuple #[.agg #[.int .i64 0, .int .u32 0], .int .i64 5]) (by simp [results, Try.f12, go_sem, c0, c1, e0, e1]) rfl ⟨rfl, hB2⟩
  
set_option maxRecDepth 100000 in
set_option maxHeartbeats 4000000 in
theorem hget_ne (A : Option Addr) (c : Nat) (l : List Int) (w : World) (hr : Rd w A l) (hc : l.length ≤ c) (h : l.length = 16) (h1 : ¬ hNode l < 1) (h2 : ¬ 1024 < hNode l) (h3 : hb (hNode l) (hGen l) ≠ l) :
    Calls Try.prog 12 #[.slice A l.length c] w fun e w' => e = .returned (hvNo) ∧ Below w.heap.size w w' := by
  have b2 := Blk.new w 27 #[.int .i64 0, .int .u32 0]
  have hB : Below w.heap.size w (w.alloc (.cells #[.int .i64 0, .int .u32 0] 27)) := (Below.refl _ _).alloc (Nat.le_refl _) _
  have hr := hr.alloc (.cells #[.int .i64 0, .int .u32 0] 27)
  obtain ⟨ad, rfl, hk⟩ := hr.2 (by omega)
  have g4 := Get _ (c - 4) (l.drop 4) _ (hr.drop 4 c (by omega)) (by rw [List.length_drop]; omega)
  have g8 := Get _ (c - 8) (l.drop 8) _ (hr.drop 8 c (by omega)) (by rw [List.length_drop]; omega)
  rw [get32_ok (by rw [List.length_drop]; omega), List.length_drop, h, if_neg (by omega)] at g4 g8
  have hb4 := num4 (hr.drop 4 c (by omega)).1
  have hb8 := num4 (hr.drop 8 c (by omega)).1
  have hbs := hr.1
  obtain ⟨N, hN⟩ : ∃ N, N = hNode l := ⟨_, rfl⟩
  obtain ⟨G, hG⟩ : ∃ G, G = hGen l := ⟨_, rfl⟩
  have hN' : num (l.drop 4) 4 = N := hN.symm
  have hG' : num (l.drop 8) 4 = G := hG.symm
  rw [hN'] at g4 hb4
  rw [hG'] at g8 hb8
  obtain ⟨ab, ao, asp⟩ := ad
  have k0 : (w.alloc (.cells #[.int .i64 0, .int .u32 0] 27)).cell? ⟨ab, ao, asp⟩ = some (.int .u8 (nth l 0)) := hk 0 (by omega)
  have k1 : (w.alloc (.cells #[.int .i64 0, .int .u32 0] 27)).cell? ⟨ab, ao + 1, none⟩ = some (.int .u8 (nth l 1)) := hk 1 (by omega)
  have k2 : (w.alloc (.cells #[.int .i64 0, .int .u32 0] 27)).cell? ⟨ab, ao + 2, none⟩ = some (.int .u8 (nth l 2)) := hk 2 (by omega)
  have k3 : (w.alloc (.cells #[.int .i64 0, .int .u32 0] 27)).cell? ⟨ab, ao + 3, none⟩ = some (.int .u8 (nth l 3)) := hk 3 (by omega)
  have k4 : (w.alloc (.cells #[.int .i64 0, .int .u32 0] 27)).cell? ⟨ab, ao + 4, none⟩ = some (.int .u8 (nth l 4)) := hk 4 (by omega)
  have k5 : (w.alloc (.cells #[.int .i64 0, .int .u32 0] 27)).cell? ⟨ab, ao + 5, none⟩ = some (.int .u8 (nth l 5)) := hk 5 (by omega)
  have k6 : (w.alloc (.cells #[.int .i64 0, .int .u32 0] 27)).cell? ⟨ab, ao + 6, none⟩ = some (.int .u8 (nth l 6)) := hk 6 (by omega)
  have k7 : (w.alloc (.cells #[.int .i64 0, .int .u32 0] 27)).cell? ⟨ab, ao + 7, none⟩ = some (.int .u8 (nth l 7)) := hk 7 (by omega)
  have k8 : (w.alloc (.cells #[.int .i64 0, .int .u32 0] 27)).cell? ⟨ab, ao + 8, none⟩ = some (.int .u8 (nth l 8)) := hk 8 (by omega)
  have k9 : (w.alloc (.cells #[.int .i64 0, .int .u32 0] 27)).cell? ⟨ab, ao + 9, none⟩ = some (.int .u8 (nth l 9)) := hk 9 (by omega)
  have k10 : (w.alloc (.cells #[.int .i64 0, .int .u32 0] 27)).cell? ⟨ab, ao + 10, none⟩ = some (.int .u8 (nth l 10)) := hk 10 (by omega)
  have k11 : (w.alloc (.cells #[.int .i64 0, .int .u32 0] 27)).cell? ⟨ab, ao + 11, none⟩ = some (.int .u8 (nth l 11)) := hk 11 (by omega)
  have k12 : (w.alloc (.cells #[.int .i64 0, .int .u32 0] 27)).cell? ⟨ab, ao + 12, none⟩ = some (.int .u8 (nth l 12)) := hk 12 (by omega)
  have k13 : (w.alloc (.cells #[.int .i64 0, .int .u32 0] 27)).cell? ⟨ab, ao + 13, none⟩ = some (.int .u8 (nth l 13)) := hk 13 (by omega)
  have k14 : (w.alloc (.cells #[.int .i64 0, .int .u32 0] 27)).cell? ⟨ab, ao + 14, none⟩ = some (.int .u8 (nth l 14)) := hk 14 (by omega)
  have k15 : (w.alloc (.cells #[.int .i64 0, .int .u32 0] 27)).cell? ⟨ab, ao + 15, none⟩ = some (.int .u8 (nth l 15)) := hk 15 (by omega)
  have g4 : Calls Try.prog 20 #[.slice (some ⟨ab, ao + 4, none⟩) 12 (c - 4)] _ _ := g4
  have g8 : Calls Try.prog 20 #[.slice (some ⟨ab, ao + 8, none⟩) 8 (c - 8)] _ _ := g8
  rw [← hN] at h1 h2
  rw [← hN, ← hG] at h3
  have hat : ∀ w, (Instr.arrayAt 50 (.slice (some ⟨ab, ao, asp⟩) 16 c)).run Try.prog w = .ok (.pointer (some ⟨ab, ao, asp⟩)) w := fun w => Go.run_arrayAt (P := Try.prog) (w := w) 50 5 16 (some ⟨ab, ao, asp⟩) 16 c Try.underlying50 (by decide)
  have heq := fun w => arr_eq (hb_bs N G) hbs (hb_length N G) h w
  rw [decide_eq_false h3] at heq
  clear h3
  rw [h] at hc ⊢
  clear hN' hG' hN hG
  obtain ⟨y0, y1, y2, y3, y4, y5, y6, y7, y8, y9, y10, y11, y12, y13, y14, y15, rfl⟩ := list16 h
  rw [show nth [y0, y1, y2, y3, y4, y5, y6, y7, y8, y9, y10, y11, y12, y13, y14, y15] 0 = y0 from rfl] at k0
  rw [show nth [y0, y1, y2, y3, y4, y5, y6, y7, y8, y9, y10, y11, y12, y13, y14, y15] 1 = y1 from rfl] at k1
  rw [show nth [y0, y1, y2, y3, y4, y5, y6, y7, y8, y9, y10, y11, y12, y13, y14, y15] 2 = y2 from rfl] at k2
  rw [show nth [y0, y1, y2, y3, y4, y5, y6, y7, y8, y9, y10, y11, y12, y13, y14, y15] 3 = y3 from rfl] at k3
  rw [show nth [y0, y1, y2, y3, y4, y5, y6, y7, y8, y9, y10, y11, y12, y13, y14, y15] 4 = y4 from rfl] at k4
  rw [show nth [y0, y1, y2, y3, y4, y5, y6, y7, y8, y9, y10, y11, y12, y13, y14, y15] 5 = y5 from rfl] at k5
  rw [show nth [y0, y1, y2, y3, y4, y5, y6, y7, y8, y9, y10, y11, y12, y13, y14, y15] 6 = y6 from rfl] at k6
  rw [show nth [y0, y1, y2, y3, y4, y5, y6, y7, y8, y9, y10, y11, y12, y13, y14, y15] 7 = y7 from rfl] at k7
  rw [show nth [y0, y1, y2, y3, y4, y5, y6, y7, y8, y9, y10, y11, y12, y13, y14, y15] 8 = y8 from rfl] at k8
  rw [show nth [y0, y1, y2, y3, y4, y5, y6, y7, y8, y9, y10, y11, y12, y13, y14, y15] 9 = y9 from rfl] at k9
  rw [show nth [y0, y1, y2, y3, y4, y5, y6, y7, y8, y9, y10, y11, y12, y13, y14, y15] 10 = y10 from rfl] at k10
  rw [show nth [y0, y1, y2, y3, y4, y5, y6, y7, y8, y9, y10, y11, y12, y13, y14, y15] 11 = y11 from rfl] at k11
  rw [show nth [y0, y1, y2, y3, y4, y5, y6, y7, y8, y9, y10, y11, y12, y13, y14, y15] 12 = y12 from rfl] at k12
  rw [show nth [y0, y1, y2, y3, y4, y5, y6, y7, y8, y9, y10, y11, y12, y13, y14, y15] 13 = y13 from rfl] at k13
  rw [show nth [y0, y1, y2, y3, y4, y5, y6, y7, y8, y9, y10, y11, y12, y13, y14, y15] 14 = y14 from rfl] at k14
  rw [show nth [y0, y1, y2, y3, y4, y5, y6, y7, y8, y9, y10, y11, y12, y13, y14, y15] 15 = y15 from rfl] at k15
  obtain ⟨x0, x1, x2, x3, x4, x5, x6, x7, x8, x9, x10, x11, x12, x13, x14, x15, hq⟩ := hb_exp N G
  rw [hq] at heq
  simp only [List.map_cons, List.map_nil] at heq
  clear hk h hr hbs
  have d1 : decide (N < 1) = false := decide_eq_false (by omega)
  have d2 : decide (1024 < N) = false := decide_eq_false (by omega)
  go_enter Try.func12, Try.ntmps12
  go_wp2_with fail
  refine g4.mono ?_
  rintro e w' ⟨rfl, rfl⟩
  go_wp2_with fail
  refine g8.mono ?_
  rintro e w' ⟨rfl, rfl⟩
  clear g4 g8
  go_wp2_with fail
  generalize (w.alloc (.cells #[.int .i64 0, .int .u32 0] 27)) = W at *
  have hB := below_then hB (below_drawn (w1 := W.drew) (n := 1) rfl)
  have bW := b2
  have b2 := b2.drew
  have k0 : W.drew.cell? _ = _ := k0
  have k1 : W.drew.cell? _ = _ := k1
  have k2 : W.drew.cell? _ = _ := k2
  have k3 : W.drew.cell? _ = _ := k3
  have k4 : W.drew.cell? _ = _ := k4
  have k5 : W.drew.cell? _ = _ := k5
  have k6 : W.drew.cell? _ = _ := k6
  have k7 : W.drew.cell? _ = _ := k7
  have k8 : W.drew.cell? _ = _ := k8
  have k9 : W.drew.cell? _ = _ := k9
  have k10 : W.drew.cell? _ = _ := k10
  have k11 : W.drew.cell? _ = _ := k11
  have k12 : W.drew.cell? _ = _ := k12
  have k13 : W.drew.cell? _ = _ := k13
  have k14 : W.drew.cell? _ = _ := k14
  have k15 : W.drew.cell? _ = _ := k15
  refine start_ (n := 15) (S := fun w' => w'.cell? ⟨ab, ao, asp⟩ = some (.int .u8 y0) ∧ w'.cell? ⟨ab, ao + 1, none⟩ = some (.int .u8 y1) ∧ w'.cell? ⟨ab, ao + 2, none⟩ = some (.int .u8 y2) ∧ w'.cell? ⟨ab, ao + 3, none⟩ = some (.int .u8 y3) ∧ w'.cell? ⟨ab, ao + 4, none⟩ = some (.int .u8 y4) ∧ w'.cell? ⟨ab, ao + 5, none⟩ = some (.int .u8 y5) ∧ w'.cell? ⟨ab, ao + 6, none⟩ = some (.int .u8 y6) ∧ w'.cell? ⟨ab, ao + 7, none⟩ = some (.int .u8 y7) ∧ w'.cell? ⟨ab, ao + 8, none⟩ = some (.int .u8 y8) ∧ w'.cell? ⟨ab, ao + 9, none⟩ = some (.int .u8 y9) ∧ w'.cell? ⟨ab, ao + 10, none⟩ = some (.int .u8 y10) ∧ w'.cell? ⟨ab, ao + 11, none⟩ = some (.int .u8 y11) ∧ w'.cell? ⟨ab, ao + 12, none⟩ = some (.int .u8 y12) ∧ w'.cell? ⟨ab, ao + 13, none⟩ = some (.int .u8 y13) ∧ w'.cell? ⟨ab, ao + 14, none⟩ = some (.int .u8 y14) ∧ w'.cell? ⟨ab, ao + 15, none⟩ = some (.int .u8 y15)) (ds := []) #[false, false, false, false, false, false, false, false, false, false, false, false, false, false, false] (by kernel_rfl) rfl rfl ⟨k0, k1, k2, k3, k4, k5, k6, k7, k8, k9, k10, k11, k12, k13, k14, k15⟩ (fun hHeld => ?_)
  refine pure_ (i := 0) (N := some 24) (v := ?_) (a' := ?_) #[true, false, false, false, false, false, false, false, false, false, false, false, false, false, false] rfl rfl (by kernel_rfl) (fun _ _ _ h => h) (Or.inl ⟨by rfl, ?_⟩) ?_ ?_
  rotate_left
  · intro w'
    go_simp
    with_reducible rfl
  rotate_left
  · simp only [Act.put, List.setIfInBounds_toArray, List.set_cons_zero, List.set_cons_succ, i64_w, i32_w]
    rfl
  refine pure_ (i := 1) (N := some 25) (v := ?_) (a' := ?_) #[true, true, false, false, false, false, false, false, false, false, false, false, false, false, false] rfl rfl (by kernel_rfl) (fun _ _ _ h => h) (Or.inl ⟨by rfl, ?_⟩) ?_ ?_
  rotate_left
  · intro w'
    go_simp
    with_reducible rfl
  rotate_left
  · simp only [Act.put, List.setIfInBounds_toArray, List.set_cons_zero, List.set_cons_succ, i64_w, i32_w]
    rfl
  refine pure_ (i := 2) (N := some 26) (v := ?_) (a' := ?_) #[true, true, true, false, false, false, false, false, false, false, false, false, false, false, false] rfl rfl (by kernel_rfl) (fun _ _ _ h => h) (Or.inl ⟨by rfl, ?_⟩) ?_ ?_
  rotate_left
  · intro w'
    go_simp
    with_reducible rfl
  rotate_left
  · simp only [Act.put, List.setIfInBounds_toArray, List.set_cons_zero, List.set_cons_succ, i64_w, i32_w]
    rfl
  refine pure_ (i := 3) (N := some 27) (v := ?_) (a' := ?_) #[true, true, true, true, false, false, false, false, false, false, false, false, false, false, false] rfl rfl (by kernel_rfl) (fun _ _ _ h => h) (Or.inl ⟨by rfl, ?_⟩) ?_ ?_
  rotate_left
  · intro w'
    go_simp
    with_reducible rfl
  rotate_left
  · simp only [Act.put, List.setIfInBounds_toArray, List.set_cons_zero, List.set_cons_succ, i64_w, i32_w]
    rfl
  refine pure_ (i := 4) (N := some 28) (v := ?_) (a' := ?_) #[true, true, true, true, true, false, false, false, false, false, false, false, false, false, false] rfl rfl (by kernel_rfl) (fun _ _ _ h => h) (Or.inl ⟨by rfl, ?_⟩) ?_ ?_
  rotate_left
  · intro w'
    go_simp
    with_reducible rfl
  rotate_left
  · simp only [Act.put, List.setIfInBounds_toArray, List.set_cons_zero, List.set_cons_succ, i64_w, i32_w]
    rfl
  refine pure_ (i := 5) (N := some 29) (v := ?_) (a' := ?_) #[true, true, true, true, true, true, false, false, false, false, false, false, false, false, false] rfl rfl (by kernel_rfl) (fun _ _ _ h => h) (Or.inl ⟨by rfl, ?_⟩) ?_ ?_
  rotate_left
  · intro w'
    go_simp
    with_reducible rfl
  rotate_left
  · simp only [Act.put, List.setIfInBounds_toArray, List.set_cons_zero, List.set_cons_succ, i64_w, i32_w]
    rfl
  refine pure_ (i := 6) (N := some 30) (v := ?_) (a' := ?_) #[true, true, true, true, true, true, true, false, false, false, false, false, false, false, false] rfl rfl (by kernel_rfl) (fun _ _ _ h => h) (Or.inl ⟨by rfl, ?_⟩) ?_ ?_
  rotate_left
  · intro w'
    go_simp
    with_reducible rfl
  rotate_left
  · simp only [Act.put, List.setIfInBounds_toArray, List.set_cons_zero, List.set_cons_succ, i64_w, i32_w]
    rfl
  refine pure_ (i := 7) (N := some 31) (v := ?_) (a' := ?_) #[true, true, true, true, true, true, true, true, false, false, false, false, false, false, false] rfl rfl (by kernel_rfl) (fun _ _ _ h => h) (Or.inl ⟨by rfl, ?_⟩) ?_ ?_
  rotate_left
  · intro w'
    go_simp
    with_reducible rfl
  rotate_left
  · simp only [Act.put, List.setIfInBounds_toArray, List.set_cons_zero, List.set_cons_succ, i64_w, i32_w]
    rfl
  refine pure_ (i := 8) (N := some 32) (v := ?_) (a' := ?_) #[true, true, true, true, true, true, true, true, true, false, false, false, false, false, false] rfl rfl (by kernel_rfl) (fun _ _ _ h => h) (Or.inl ⟨by rfl, ?_⟩) ?_ ?_
  rotate_left
  · intro w'
    go_simp
    with_reducible rfl
  rotate_left
  · simp only [Act.put, List.setIfInBounds_toArray, List.set_cons_zero, List.set_cons_succ, i64_w, i32_w]
    rfl
  refine pure_ (i := 10) (N := some 34) (v := ?_) (a' := ?_) #[true, true, true, true, true, true, true, true, true, false, true, false, false, false, false] rfl rfl (by kernel_rfl) (fun _ _ _ h => h) (Or.inl ⟨by rfl, ?_⟩) ?_ ?_
  rotate_left
  · intro w'
    go_simp
    with_reducible rfl
  rotate_left
  · simp only [Act.put, List.setIfInBounds_toArray, List.set_cons_zero, List.set_cons_succ, i64_w, i32_w]
    rfl
  refine pure_ (i := 11) (N := some 35) (v := ?_) (a' := ?_) #[true, true, true, true, true, true, true, true, true, false, true, true, false, false, false] rfl rfl (by kernel_rfl) (fun _ _ _ h => h) (Or.inl ⟨by rfl, ?_⟩) ?_ ?_
  rotate_left
  · intro w'
    go_simp
    with_reducible rfl
  rotate_left
  · simp only [Act.put, List.setIfInBounds_toArray, List.set_cons_zero, List.set_cons_succ, i64_w, i32_w]
    rfl
  refine take_ (i := 12) (N := some 36) (v := ?_) (a' := ?_) #[true, true, true, true, true, true, true, true, true, false, true, true, true, false, false] rfl rfl (by kernel_rfl) (fun _ _ _ h => h) (Or.inl ⟨by rfl, ?_⟩) hHeld ?_ ?_
  rotate_left
  · rintro w' ⟨s0, s1, s2, s3, s4, s5, s6, s7, s8, s9, s10, s11, s12, s13, s14, s15⟩
    go_simp
    with_reducible rfl
  rotate_left
  · simp only [Act.put, List.setIfInBounds_toArray, List.set_cons_zero, List.set_cons_succ, i64_w, i32_w]
    rfl
  refine one_ (i := 9) (N := some 33) #[true, true, true, true, true, true, true, true, true, true, true, true, true, false, false] rfl rfl (by kernel_rfl) (by decide) (fun K hK => ?_)
  refine goes_ Try.func21 (by kernel_rfl) rfl #[.int .u32 N, .int .u32 G] (by rfl) rfl rfl (by simp only [List.map_toArray, List.map_cons, List.map_nil]; rfl) ?_
  with_reducible refine (hbytes N G _ (by omega) (by omega) (by omega) (by omega)).mono ?_
  rintro e w3 ⟨rfl, hbx⟩
  refine ⟨_, rfl, ?_⟩
  have k0 := cell_later hbx k0
  have k1 := cell_later hbx k1
  have k2 := cell_later hbx k2
  have k3 := cell_later hbx k3
  have k4 := cell_later hbx k4
  have k5 := cell_later hbx k5
  have k6 := cell_later hbx k6
  have k7 := cell_later hbx k7
  have k8 := cell_later hbx k8
  have k9 := cell_later hbx k9
  have k10 := cell_later hbx k10
  have k11 := cell_later hbx k11
  have k12 := cell_later hbx k12
  have k13 := cell_later hbx k13
  have k14 := cell_later hbx k14
  have k15 := cell_later hbx k15
  have b2 := b2.below hbx
  have hB := below_then hB hbx
  clear hbx
  rw [hq]
  simp only [List.map_cons, List.map_nil]
  refine hK.out _ _ ⟨k0, k1, k2, k3, k4, k5, k6, k7, k8, k9, k10, k11, k12, k13, k14, k15⟩ (fun hHeld => ?_)
  clear hK K
  refine norm_ (a' := ?_) ?_ ?_
  rotate_left
  · show Act.put _ (some 33) _ = _
    simp only [Act.put, List.setIfInBounds_toArray, List.set_cons_zero, List.set_cons_succ, i64_w, i32_w]
    rfl
  refine pure_ (i := 13) (N := some 37) (v := ?_) (a' := ?_) #[true, true, true, true, true, true, true, true, true, true, true, true, true, true, false] rfl rfl (by kernel_rfl) (fun _ _ _ h => h) (Or.inl ⟨by rfl, ?_⟩) ?_ ?_
  rotate_left
  · intro w'
    go_simp
    with_reducible rfl
  rotate_left
  · simp only [Act.put, List.setIfInBounds_toArray, List.set_cons_zero, List.set_cons_succ, i64_w, i32_w]
    rfl
  refine pure_ (i := 14) (N := some 38) (v := ?_) (a' := ?_) #[true, true, true, true, true, true, true, true, true, true, true, true, true, true, true] rfl rfl (by kernel_rfl) (fun _ _ _ h => h) (Or.inl ⟨by rfl, ?_⟩) ?_ ?_
  rotate_left
  · intro w'
    go_simp
    with_reducible rfl
  rotate_left
  · simp only [Act.put, List.setIfInBounds_toArray, List.set_cons_zero, List.set_cons_succ, i64_w, i32_w]
    rfl
  refine done_ (by kernel_rfl) ?_
  have q0 := b2.cell 0 (v := .int .i64 0) rfl
  have q1 := b2.cell 1 (v := .int .u32 0) rfl
  have f0 := b2.frozen 0
  have f1 := b2.frozen 1
  go_wp2
  have c0 := ((b2.set_ 0 (.int .i64 0)).set_ 1 (.int .u32 0)).cell 0 (v := .int .i64 0) rfl
  have c1 := ((b2.set_ 0 (.int .i64 0)).set_ 1 (.int .u32 0)).cell 1 (v := .int .u32 0) rfl
  have hB2 := (hB.setCell (p := ⟨w.heap.size, 0, none⟩) (by simp) (.int .i64 0)).setCell (p := ⟨w.heap.size, 1, none⟩) (by simp) (.int .u32 0)
  exact bodyPost_ret (v := .tuple #[.agg #[.int .i64 0, .int .u32 0], .int .i64 5]) (by simp [results, Try.f12, go_sem, c0, c1]) rfl ⟨rfl, hB2⟩
  
set_option maxRecDepth 100000 in
set_option maxHeartbeats 4000000 in
theorem hget_eq (A : Option Addr) (c : Nat) (l : List Int) (w : World) (hr : Rd w A l) (hc : l.length ≤ c) (h : l.length = 16) (h1 : ¬ hNode l < 1) (h2 : ¬ 1024 < hNode l) (h3 : hb (hNode l) (hGen l) = l) :
    Calls Try.prog 12 #[.slice A l.length c] w fun e w' => e = .returned (hvOK l) ∧ Below w.heap.size w w' := by
  have b2 := Blk.new w 27 #[.int .i64 0, .int .u32 0]
  have hB : Below w.heap.size w (w.alloc (.cells #[.int .i64 0, .int .u32 0] 27)) := (Below.refl _ _).alloc (Nat.le_refl _) _
  have hr := hr.alloc (.cells #[.int .i64 0, .int .u32 0] 27)
  obtain ⟨ad, rfl, hk⟩ := hr.2 (by omega)
  have g4 := Get _ (c - 4) (l.drop 4) _ (hr.drop 4 c (by omega)) (by rw [List.length_drop]; omega)
  have g8 := Get _ (c - 8) (l.drop 8) _ (hr.drop 8 c (by omega)) (by rw [List.length_drop]; omega)
  rw [get32_ok (by rw [List.length_drop]; omega), List.length_drop, h, if_neg (by omega)] at g4 g8
  have hb4 := num4 (hr.drop 4 c (by omega)).1
  have hb8 := num4 (hr.drop 8 c (by omega)).1
  have hbs := hr.1
  obtain ⟨N, hN⟩ : ∃ N, N = hNode l := ⟨_, rfl⟩
  obtain ⟨G, hG⟩ : ∃ G, G = hGen l := ⟨_, rfl⟩
  have hN' : num (l.drop 4) 4 = N := hN.symm
  have hG' : num (l.drop 8) 4 = G := hG.symm
  rw [hN'] at g4 hb4
  rw [hG'] at g8 hb8
  obtain ⟨ab, ao, asp⟩ := ad
  have k0 : (w.alloc (.cells #[.int .i64 0, .int .u32 0] 27)).cell? ⟨ab, ao, asp⟩ = some (.int .u8 (nth l 0)) := hk 0 (by omega)
  have k1 : (w.alloc (.cells #[.int .i64 0, .int .u32 0] 27)).cell? ⟨ab, ao + 1, none⟩ = some (.int .u8 (nth l 1)) := hk 1 (by omega)
  have k2 : (w.alloc (.cells #[.int .i64 0, .int .u32 0] 27)).cell? ⟨ab, ao + 2, none⟩ = some (.int .u8 (nth l 2)) := hk 2 (by omega)
  have k3 : (w.alloc (.cells #[.int .i64 0, .int .u32 0] 27)).cell? ⟨ab, ao + 3, none⟩ = some (.int .u8 (nth l 3)) := hk 3 (by omega)
  have k4 : (w.alloc (.cells #[.int .i64 0, .int .u32 0] 27)).cell? ⟨ab, ao + 4, none⟩ = some (.int .u8 (nth l 4)) := hk 4 (by omega)
  have k5 : (w.alloc (.cells #[.int .i64 0, .int .u32 0] 27)).cell? ⟨ab, ao + 5, none⟩ = some (.int .u8 (nth l 5)) := hk 5 (by omega)
  have k6 : (w.alloc (.cells #[.int .i64 0, .int .u32 0] 27)).cell? ⟨ab, ao + 6, none⟩ = some (.int .u8 (nth l 6)) := hk 6 (by omega)
  have k7 : (w.alloc (.cells #[.int .i64 0, .int .u32 0] 27)).cell? ⟨ab, ao + 7, none⟩ = some (.int .u8 (nth l 7)) := hk 7 (by omega)
  have k8 : (w.alloc (.cells #[.int .i64 0, .int .u32 0] 27)).cell? ⟨ab, ao + 8, none⟩ = some (.int .u8 (nth l 8)) := hk 8 (by omega)
  have k9 : (w.alloc (.cells #[.int .i64 0, .int .u32 0] 27)).cell? ⟨ab, ao + 9, none⟩ = some (.int .u8 (nth l 9)) := hk 9 (by omega)
  have k10 : (w.alloc (.cells #[.int .i64 0, .int .u32 0] 27)).cell? ⟨ab, ao + 10, none⟩ = some (.int .u8 (nth l 10)) := hk 10 (by omega)
  have k11 : (w.alloc (.cells #[.int .i64 0, .int .u32 0] 27)).cell? ⟨ab, ao + 11, none⟩ = some (.int .u8 (nth l 11)) := hk 11 (by omega)
  have k12 : (w.alloc (.cells #[.int .i64 0, .int .u32 0] 27)).cell? ⟨ab, ao + 12, none⟩ = some (.int .u8 (nth l 12)) := hk 12 (by omega)
  have k13 : (w.alloc (.cells #[.int .i64 0, .int .u32 0] 27)).cell? ⟨ab, ao + 13, none⟩ = some (.int .u8 (nth l 13)) := hk 13 (by omega)
  have k14 : (w.alloc (.cells #[.int .i64 0, .int .u32 0] 27)).cell? ⟨ab, ao + 14, none⟩ = some (.int .u8 (nth l 14)) := hk 14 (by omega)
  have k15 : (w.alloc (.cells #[.int .i64 0, .int .u32 0] 27)).cell? ⟨ab, ao + 15, none⟩ = some (.int .u8 (nth l 15)) := hk 15 (by omega)
  have g4 : Calls Try.prog 20 #[.slice (some ⟨ab, ao + 4, none⟩) 12 (c - 4)] _ _ := g4
  have g8 : Calls Try.prog 20 #[.slice (some ⟨ab, ao + 8, none⟩) 8 (c - 8)] _ _ := g8
  have hv : hvOK l = .tuple #[.agg #[.int .i64 N, .int .u32 G], .int .i64 0] := by rw [hN, hG]; rfl
  rw [hv]
  clear hv
  rw [← hN] at h1 h2
  rw [← hN, ← hG] at h3
  have hat : ∀ w, (Instr.arrayAt 50 (.slice (some ⟨ab, ao, asp⟩) 16 c)).run Try.prog w = .ok (.pointer (some ⟨ab, ao, asp⟩)) w := fun w => Go.run_arrayAt (P := Try.prog) (w := w) 50 5 16 (some ⟨ab, ao, asp⟩) 16 c Try.underlying50 (by decide)
  have heq := fun w => arr_eq (hb_bs N G) hbs (hb_length N G) h w
  rw [decide_eq_true h3] at heq
  clear h3
  rw [h] at hc ⊢
  clear hN' hG' hN hG
  obtain ⟨y0, y1, y2, y3, y4, y5, y6, y7, y8, y9, y10, y11, y12, y13, y14, y15, rfl⟩ := list16 h
  rw [show nth [y0, y1, y2, y3, y4, y5, y6, y7, y8, y9, y10, y11, y12, y13, y14, y15] 0 = y0 from rfl] at k0
  rw [show nth [y0, y1, y2, y3, y4, y5, y6, y7, y8, y9, y10, y11, y12, y13, y14, y15] 1 = y1 from rfl] at k1
  rw [show nth [y0, y1, y2, y3, y4, y5, y6, y7, y8, y9, y10, y11, y12, y13, y14, y15] 2 = y2 from rfl] at k2
  rw [show nth [y0, y1, y2, y3, y4, y5, y6, y7, y8, y9, y10, y11, y12, y13, y14, y15] 3 = y3 from rfl] at k3
  rw [show nth [y0, y1, y2, y3, y4, y5, y6, y7, y8, y9, y10, y11, y12, y13, y14, y15] 4 = y4 from rfl] at k4
  rw [show nth [y0, y1, y2, y3, y4, y5, y6, y7, y8, y9, y10, y11, y12, y13, y14, y15] 5 = y5 from rfl] at k5
  rw [show nth [y0, y1, y2, y3, y4, y5, y6, y7, y8, y9, y10, y11, y12, y13, y14, y15] 6 = y6 from rfl] at k6
  rw [show nth [y0, y1, y2, y3, y4, y5, y6, y7, y8, y9, y10, y11, y12, y13, y14, y15] 7 = y7 from rfl] at k7
  rw [show nth [y0, y1, y2, y3, y4, y5, y6, y7, y8, y9, y10, y11, y12, y13, y14, y15] 8 = y8 from rfl] at k8
  rw [show nth [y0, y1, y2, y3, y4, y5, y6, y7, y8, y9, y10, y11, y12, y13, y14, y15] 9 = y9 from rfl] at k9
  rw [show nth [y0, y1, y2, y3, y4, y5, y6, y7, y8, y9, y10, y11, y12, y13, y14, y15] 10 = y10 from rfl] at k10
  rw [show nth [y0, y1, y2, y3, y4, y5, y6, y7, y8, y9, y10, y11, y12, y13, y14, y15] 11 = y11 from rfl] at k11
  rw [show nth [y0, y1, y2, y3, y4, y5, y6, y7, y8, y9, y10, y11, y12, y13, y14, y15] 12 = y12 from rfl] at k12
  rw [show nth [y0, y1, y2, y3, y4, y5, y6, y7, y8, y9, y10, y11, y12, y13, y14, y15] 13 = y13 from rfl] at k13
  rw [show nth [y0, y1, y2, y3, y4, y5, y6, y7, y8, y9, y10, y11, y12, y13, y14, y15] 14 = y14 from rfl] at k14
  rw [show nth [y0, y1, y2, y3, y4, y5, y6, y7, y8, y9, y10, y11, y12, y13, y14, y15] 15 = y15 from rfl] at k15
  obtain ⟨x0, x1, x2, x3, x4, x5, x6, x7, x8, x9, x10, x11, x12, x13, x14, x15, hq⟩ := hb_exp N G
  rw [hq] at heq
  simp only [List.map_cons, List.map_nil] at heq
  clear hk h hr hbs
  have d1 : decide (N < 1) = false := decide_eq_false (by omega)
  have d2 : decide (1024 < N) = false := decide_eq_false (by omega)
  go_enter Try.func12, Try.ntmps12
  go_wp2_with fail
  refine g4.mono ?_
  rintro e w' ⟨rfl, rfl⟩
  go_wp2_with fail
  refine g8.mono ?_
  rintro e w' ⟨rfl, rfl⟩
  clear g4 g8
  go_wp2_with fail
  generalize (w.alloc (.cells #[.int .i64 0, .int .u32 0] 27)) = W at *
  have hB := below_then hB (below_drawn (w1 := W.drew) (n := 1) rfl)
  have bW := b2
  have b2 := b2.drew
  have k0 : W.drew.cell? _ = _ := k0
  have k1 : W.drew.cell? _ = _ := k1
  have k2 : W.drew.cell? _ = _ := k2
  have k3 : W.drew.cell? _ = _ := k3
  have k4 : W.drew.cell? _ = _ := k4
  have k5 : W.drew.cell? _ = _ := k5
  have k6 : W.drew.cell? _ = _ := k6
  have k7 : W.drew.cell? _ = _ := k7
  have k8 : W.drew.cell? _ = _ := k8
  have k9 : W.drew.cell? _ = _ := k9
  have k10 : W.drew.cell? _ = _ := k10
  have k11 : W.drew.cell? _ = _ := k11
  have k12 : W.drew.cell? _ = _ := k12
  have k13 : W.drew.cell? _ = _ := k13
  have k14 : W.drew.cell? _ = _ := k14
  have k15 : W.drew.cell? _ = _ := k15
  refine start_ (n := 15) (S := fun w' => w'.cell? ⟨ab, ao, asp⟩ = some (.int .u8 y0) ∧ w'.cell? ⟨ab, ao + 1, none⟩ = some (.int .u8 y1) ∧ w'.cell? ⟨ab, ao + 2, none⟩ = some (.int .u8 y2) ∧ w'.cell? ⟨ab, ao + 3, none⟩ = some (.int .u8 y3) ∧ w'.cell? ⟨ab, ao + 4, none⟩ = some (.int .u8 y4) ∧ w'.cell? ⟨ab, ao + 5, none⟩ = some (.int .u8 y5) ∧ w'.cell? ⟨ab, ao + 6, none⟩ = some (.int .u8 y6) ∧ w'.cell? ⟨ab, ao + 7, none⟩ = some (.int .u8 y7) ∧ w'.cell? ⟨ab, ao + 8, none⟩ = some (.int .u8 y8) ∧ w'.cell? ⟨ab, ao + 9, none⟩ = some (.int .u8 y9) ∧ w'.cell? ⟨ab, ao + 10, none⟩ = some (.int .u8 y10) ∧ w'.cell? ⟨ab, ao + 11, none⟩ = some (.int .u8 y11) ∧ w'.cell? ⟨ab, ao + 12, none⟩ = some (.int .u8 y12) ∧ w'.cell? ⟨ab, ao + 13, none⟩ = some (.int .u8 y13) ∧ w'.cell? ⟨ab, ao + 14, none⟩ = some (.int .u8 y14) ∧ w'.cell? ⟨ab, ao + 15, none⟩ = some (.int .u8 y15)) (ds := []) #[false, false, false, false, false, false, false, false, false, false, false, false, false, false, false] (by kernel_rfl) rfl rfl ⟨k0, k1, k2, k3, k4, k5, k6, k7, k8, k9, k10, k11, k12, k13, k14, k15⟩ (fun hHeld => ?_)
  refine pure_ (i := 0) (N := some 24) (v := ?_) (a' := ?_) #[true, false, false, false, false, false, false, false, false, false, false, false, false, false, false] rfl rfl (by kernel_rfl) (fun _ _ _ h => h) (Or.inl ⟨by rfl, ?_⟩) ?_ ?_
  rotate_left
  · intro w'
    go_simp
    with_reducible rfl
  rotate_left
  · simp only [Act.put, List.setIfInBounds_toArray, List.set_cons_zero, List.set_cons_succ, i64_w, i32_w]
    rfl
  refine pure_ (i := 1) (N := some 25) (v := ?_) (a' := ?_) #[true, true, false, false, false, false, false, false, false, false, false, false, false, false, false] rfl rfl (by kernel_rfl) (fun _ _ _ h => h) (Or.inl ⟨by rfl, ?_⟩) ?_ ?_
  rotate_left
  · intro w'
    go_simp
    with_reducible rfl
  rotate_left
  · simp only [Act.put, List.setIfInBounds_toArray, List.set_cons_zero, List.set_cons_succ, i64_w, i32_w]
    rfl
  refine pure_ (i := 2) (N := some 26) (v := ?_) (a' := ?_) #[true, true, true, false, false, false, false, false, false, false, false, false, false, false, false] rfl rfl (by kernel_rfl) (fun _ _ _ h => h) (Or.inl ⟨by rfl, ?_⟩) ?_ ?_
  rotate_left
  · intro w'
    go_simp
    with_reducible rfl
  rotate_left
  · simp only [Act.put, List.setIfInBounds_toArray, List.set_cons_zero, List.set_cons_succ, i64_w, i32_w]
    rfl
  refine pure_ (i := 3) (N := some 27) (v := ?_) (a' := ?_) #[true, true, true, true, false, false, false, false, false, false, false, false, false, false, false] rfl rfl (by kernel_rfl) (fun _ _ _ h => h) (Or.inl ⟨by rfl, ?_⟩) ?_ ?_
  rotate_left
  · intro w'
    go_simp
    with_reducible rfl
  rotate_left
  · simp only [Act.put, List.setIfInBounds_toArray, List.set_cons_zero, List.set_cons_succ, i64_w, i32_w]
    rfl
  refine pure_ (i := 4) (N := some 28) (v := ?_) (a' := ?_) #[true, true, true, true, true, false, false, false, false, false, false, false, false, false, false] rfl rfl (by kernel_rfl) (fun _ _ _ h => h) (Or.inl ⟨by rfl, ?_⟩) ?_ ?_
  rotate_left
  · intro w'
    go_simp
    with_reducible rfl
  rotate_left
  · simp only [Act.put, List.setIfInBounds_toArray, List.set_cons_zero, List.set_cons_succ, i64_w, i32_w]
    rfl
  refine pure_ (i := 5) (N := some 29) (v := ?_) (a' := ?_) #[true, true, true, true, true, true, false, false, false, false, false, false, false, false, false] rfl rfl (by kernel_rfl) (fun _ _ _ h => h) (Or.inl ⟨by rfl, ?_⟩) ?_ ?_
  rotate_left
  · intro w'
    go_simp
    with_reducible rfl
  rotate_left
  · simp only [Act.put, List.setIfInBounds_toArray, List.set_cons_zero, List.set_cons_succ, i64_w, i32_w]
    rfl
  refine pure_ (i := 6) (N := some 30) (v := ?_) (a' := ?_) #[true, true, true, true, true, true, true, false, false, false, false, false, false, false, false] rfl rfl (by kernel_rfl) (fun _ _ _ h => h) (Or.inl ⟨by rfl, ?_⟩) ?_ ?_
  rotate_left
  · intro w'
    go_simp
    with_reducible rfl
  rotate_left
  · simp only [Act.put, List.setIfInBounds_toArray, List.set_cons_zero, List.set_cons_succ, i64_w, i32_w]
    rfl
  refine pure_ (i := 7) (N := some 31) (v := ?_) (a' := ?_) #[true, true, true, true, true, true, true, true, false, false, false, false, false, false, false] rfl rfl (by kernel_rfl) (fun _ _ _ h => h) (Or.inl ⟨by rfl, ?_⟩) ?_ ?_
  rotate_left
  · intro w'
    go_simp
    with_reducible rfl
  rotate_left
  · simp only [Act.put, List.setIfInBounds_toArray, List.set_cons_zero, List.set_cons_succ, i64_w, i32_w]
    rfl
  refine pure_ (i := 8) (N := some 32) (v := ?_) (a' := ?_) #[true, true, true, true, true, true, true, true, true, false, false, false, false, false, false] rfl rfl (by kernel_rfl) (fun _ _ _ h => h) (Or.inl ⟨by rfl, ?_⟩) ?_ ?_
  rotate_left
  · intro w'
    go_simp
    with_reducible rfl
  rotate_left
  · simp only [Act.put, List.setIfInBounds_toArray, List.set_cons_zero, List.set_cons_succ, i64_w, i32_w]
    rfl
  refine pure_ (i := 10) (N := some 34) (v := ?_) (a' := ?_) #[true, true, true, true, true, true, true, true, true, false, true, false, false, false, false] rfl rfl (by kernel_rfl) (fun _ _ _ h => h) (Or.inl ⟨by rfl, ?_⟩) ?_ ?_
  rotate_left
  · intro w'
    go_simp
    with_reducible rfl
  rotate_left
  · simp only [Act.put, List.setIfInBounds_toArray, List.set_cons_zero, List.set_cons_succ, i64_w, i32_w]
    rfl
  refine pure_ (i := 11) (N := some 35) (v := ?_) (a' := ?_) #[true, true, true, true, true, true, true, true, true, false, true, true, false, false, false] rfl rfl (by kernel_rfl) (fun _ _ _ h => h) (Or.inl ⟨by rfl, ?_⟩) ?_ ?_
  rotate_left
  · intro w'
    go_simp
    with_reducible rfl
  rotate_left
  · simp only [Act.put, List.setIfInBounds_toArray, List.set_cons_zero, List.set_cons_succ, i64_w, i32_w]
    rfl
  refine take_ (i := 12) (N := some 36) (v := ?_) (a' := ?_) #[true, true, true, true, true, true, true, true, true, false, true, true, true, false, false] rfl rfl (by kernel_rfl) (fun _ _ _ h => h) (Or.inl ⟨by rfl, ?_⟩) hHeld ?_ ?_
  rotate_left
  · rintro w' ⟨s0, s1, s2, s3, s4, s5, s6, s7, s8, s9, s10, s11, s12, s13, s14, s15⟩
    go_simp
    with_reducible rfl
  rotate_left
  · simp only [Act.put, List.setIfInBounds_toArray, List.set_cons_zero, List.set_cons_succ, i64_w, i32_w]
    rfl
  refine one_ (i := 9) (N := some 33) #[true, true, true, true, true, true, true, true, true, true, true, true, true, false, false] rfl rfl (by kernel_rfl) (by decide) (fun K hK => ?_)
  refine goes_ Try.func21 (by kernel_rfl) rfl #[.int .u32 N, .int .u32 G] (by rfl) rfl rfl (by simp only [List.map_toArray, List.map_cons, List.map_nil]; rfl) ?_
  with_reducible refine (hbytes N G _ (by omega) (by omega) (by omega) (by omega)).mono ?_
  rintro e w3 ⟨rfl, hbx⟩
  refine ⟨_, rfl, ?_⟩
  have k0 := cell_later hbx k0
  have k1 := cell_later hbx k1
  have k2 := cell_later hbx k2
  have k3 := cell_later hbx k3
  have k4 := cell_later hbx k4
  have k5 := cell_later hbx k5
  have k6 := cell_later hbx k6
  have k7 := cell_later hbx k7
  have k8 := cell_later hbx k8
  have k9 := cell_later hbx k9
  have k10 := cell_later hbx k10
  have k11 := cell_later hbx k11
  have k12 := cell_later hbx k12
  have k13 := cell_later hbx k13
  have k14 := cell_later hbx k14
  have k15 := cell_later hbx k15
  have b2 := b2.below hbx
  have hB := below_then hB hbx
  clear hbx
  rw [hq]
  simp only [List.map_cons, List.map_nil]
  refine hK.out _ _ ⟨k0, k1, k2, k3, k4, k5, k6, k7, k8, k9, k10, k11, k12, k13, k14, k15⟩ (fun hHeld => ?_)
  clear hK K
  refine norm_ (a' := ?_) ?_ ?_
  rotate_left
  · show Act.put _ (some 33) _ = _
    simp only [Act.put, List.setIfInBounds_toArray, List.set_cons_zero, List.set_cons_succ, i64_w, i32_w]
    rfl
  refine pure_ (i := 13) (N := some 37) (v := ?_) (a' := ?_) #[true, true, true, true, true, true, true, true, true, true, true, true, true, true, false] rfl rfl (by kernel_rfl) (fun _ _ _ h => h) (Or.inl ⟨by rfl, ?_⟩) ?_ ?_
  rotate_left
  · intro w'
    go_simp
    with_reducible rfl
  rotate_left
  · simp only [Act.put, List.setIfInBounds_toArray, List.set_cons_zero, List.set_cons_succ, i64_w, i32_w]
    rfl
  refine pure_ (i := 14) (N := some 38) (v := ?_) (a' := ?_) #[true, true, true, true, true, true, true, true, true, true, true, true, true, true, true] rfl rfl (by kernel_rfl) (fun _ _ _ h => h) (Or.inl ⟨by rfl, ?_⟩) ?_ ?_
  rotate_left
  · intro w'
    go_simp
    with_reducible rfl
  rotate_left
  · simp only [Act.put, List.setIfInBounds_toArray, List.set_cons_zero, List.set_cons_succ, i64_w, i32_w]
    rfl
  refine done_ (by kernel_rfl) ?_
  have q0 := b2.cell 0 (v := .int .i64 0) rfl
  have q1 := b2.cell 1 (v := .int .u32 0) rfl
  have f0 := b2.frozen 0
  have f1 := b2.frozen 1
  go_wp2
  have c0 := ((b2.set_ 0 (.int .i64 N)).set_ 1 (.int .u32 G)).cell 0 (v := .int .i64 N) rfl
  have c1 := ((b2.set_ 0 (.int .i64 N)).set_ 1 (.int .u32 G)).cell 1 (v := .int .u32 G) rfl
  have hB2 := (hB.setCell (p := ⟨w.heap.size, 0, none⟩) (by simp) (.int .i64 N)).setCell (p := ⟨w.heap.size, 1, none⟩) (by simp) (.int .u32 G)
  exact bodyPost_ret (v := .tuple #[.agg #[.int .i64 N, .int .u32 G], .int .i64 0]) (by simp [results, Try.f12, go_sem, c0, c1]) rfl ⟨rfl, hB2⟩
  
theorem hget_ok (A : Option Addr) (c : Nat) (l : List Int) (w : World) (hr : Rd w A l) (hc : l.length ≤ c) (h : hOK l) :
    Calls Try.prog 12 #[.slice A l.length c] w fun e w' => e = .returned (hvOK l) ∧ Below w.heap.size w w' :=
  hget_eq A c l w hr hc h.1 (by have := h.2.1; omega) (by have := h.2.2.1; omega) h.2.2.2
theorem hget_no (A : Option Addr) (c : Nat) (l : List Int) (w : World) (hr : Rd w A l) (hc : l.length ≤ c) (h : ¬ hOK l) :
    Calls Try.prog 12 #[.slice A l.length c] w fun e w' => e = .returned hvNo ∧ Below w.heap.size w w' := by
  by_cases h16 : l.length = 16
  · by_cases h1 : hNode l < 1
    · exact hget_lt A c l w hr hc h16 h1
    by_cases h2 : 1024 < hNode l
    · exact hget_gt A c l w hr hc h16 h1 h2
    exact hget_ne A c l w hr hc h16 h1 h2 fun h3 => h ⟨h16, by omega, by omega, h3⟩
  · exact hget_short A c l w h16
end Go.Proofs.Ytffikncbpcnflaa.Hand
