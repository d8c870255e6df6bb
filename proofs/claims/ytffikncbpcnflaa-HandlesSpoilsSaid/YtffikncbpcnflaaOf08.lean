/- The helper of of the eighth chapter's statements: the bytes of a handle that may be, and the handle. -/
import Derived.Test.YtffikncbpcnflaaHandleGet
namespace Go.Proofs.Ytffikncbpcnflaa.Hand
open Go.RowKit Go.Proofs.YtffikncbpcnflaaW.PrintLast
set_option linter.unusedVariables false
set_option linter.unusedSimpArgs false

theorem hNode_hb {a g : Int} (ha : 0 ≤ a) (ha' : a < 4294967296) (l : List Int) : hNode (hb a g ++ l) = a := by
  unfold hNode hb h12
  rw [List.append_assoc, List.append_assoc, List.append_assoc]
  exact num_be4 ha ha' _
theorem hGen_hb {a g : Int} (hg : 0 ≤ g) (hg' : g < 4294967296) (l : List Int) : hGen (hb a g ++ l) = g := by
  unfold hGen hb h12
  rw [List.append_assoc, List.append_assoc, be4 a]
  exact num_be4 hg hg' _
theorem hOK_hb {a g : Int} (ha : 1 ≤ a) (ha' : a ≤ 1024) (hg : 0 ≤ g) (hg' : g < 4294967296) : hOK (hb a g) := by
  have h1 := hNode_hb (g := g) (show 0 ≤ a by omega) (show a < 4294967296 by omega) []
  have h2 := hGen_hb (a := a) hg hg' []
  rw [List.append_nil] at h1 h2
  exact ⟨hb_length a g, by rw [h1]; exact ha, by rw [h1]; exact ha', by rw [h1, h2]⟩
theorem hvOK_hb {a g : Int} (ha : 1 ≤ a) (ha' : a ≤ 1024) (hg : 0 ≤ g) (hg' : g < 4294967296) : hvOK (hb a g) = .tuple #[.agg #[.int .i64 a, .int .u32 g], .int .i64 0] := by
  have h1 := hNode_hb (g := g) (show 0 ≤ a by omega) (show a < 4294967296 by omega) []
  have h2 := hGen_hb (a := a) hg hg' []
  rw [List.append_nil] at h1 h2
  unfold hvOK
  rw [h1, h2]

theorem Own.set_far {w : World} {base : Nat} {v : Value} {l : List Int} (h : Own w base v l) (p : Addr) (hp : p.block < base) (u : Value) : Own (w.setCell p u) base v l := ⟨h.1, ownsRow_setCell_below h.2 hp u⟩

set_option maxRecDepth 100000 in
set_option maxHeartbeats 2000000 in
theorem of_ (n g : Int) (w : World) (hn : 0 ≤ n) (hn' : n < 65536) (hg : 0 ≤ g) (hg' : g < 4294967296) :
    Calls Try.prog 15 #[.int .u16 n, .int .u32 g] w fun e w' => ∃ v, e = .returned (.tuple #[v, .agg #[.int .i64 (1 + n % 1024), .int .u32 g], .bool true]) ∧ Own w' w.heap.size v (hb (1 + n % 1024) g) ∧ Below w.heap.size w w' := by
  have b5 := (Blk.new w 27 #[.int .i64 0, .int .u32 0]).alloc (.cells #[.int .i64 (1 + n % 1024), .int .u32 g] 27)
  have b7 := Blk.new (w.alloc (.cells #[.int .i64 0, .int .u32 0] 27)) 27 #[.int .i64 (1 + n % 1024), .int .u32 g]
  have hB : Below w.heap.size w ((w.alloc (.cells #[.int .i64 0, .int .u32 0] 27)).alloc (.cells #[.int .i64 (1 + n % 1024), .int .u32 g] 27)) := ((Below.refl _ _).alloc (Nat.le_refl _) _).alloc (by simp) _
  rw [World.size_alloc] at b7
  go_enter Try.func15, Try.ntmps15
  go_wp2_with fail
  refine (hput (1 + n % 1024) g _ (by omega) (by omega) hg hg').mono ?_
  rintro e w1 ⟨v, rfl, ho, hx⟩
  have b5 := b5.below hx
  have b7 := b7.below hx
  have hB := below_then hB hx
  clear hx
  obtain ⟨A, d, rfl, hd, hd', hr⟩ := ho.form
  rw [hb_length] at *
  go_wp2_with fail
  have q0 : w1.cell? _ = _ := b5.cell 0 (v := .int .i64 0) rfl
  have q1 : w1.cell? _ = _ := b5.cell 1 (v := .int .u32 0) rfl
  have f0 : w1.frozen? _ = _ := b5.frozen 0
  have f1 : w1.frozen? _ = _ := b5.frozen 1
  have k0 : w1.cell? _ = _ := b7.cell 0 (v := .int .i64 (1 + n % 1024)) rfl
  have k1 : w1.cell? _ = _ := b7.cell 1 (v := .int .u32 g) rfl
  refine start_ (n := 12) (S := fun w' => w'.cell? ⟨w.heap.size + 1, 0, none⟩ = some (.int .i64 (1 + n % 1024)) ∧ w'.cell? ⟨w.heap.size + 1, 1, none⟩ = some (.int .u32 g)) (ds := [10]) #[false, false, false, false, false, false, false, false, false, false, false, false] (by kernel_rfl) rfl rfl ⟨k0, k1⟩ (fun hHeld => ?_)
  refine pure_ (i := 0) (N := some 21) (v := ?_) (a' := ?_) #[true, false, false, false, false, false, false, false, false, false, false, false] rfl rfl (by kernel_rfl) (fun _ _ _ h => h) (Or.inl ⟨by rfl, ?_⟩) ?_ ?_
  rotate_left
  · intro w'
    go_simp
    with_reducible rfl
  rotate_left
  · simp only [Act.put, List.setIfInBounds_toArray, List.set_cons_zero, List.set_cons_succ, i64_w, i32_w]
    rfl
  refine pure_ (i := 2) (N := some 23) (v := ?_) (a' := ?_) #[true, false, true, false, false, false, false, false, false, false, false, false] rfl rfl (by kernel_rfl) (fun _ _ _ h => h) (Or.inl ⟨by rfl, ?_⟩) ?_ ?_
  rotate_left
  · intro w'
    go_simp
    with_reducible rfl
  rotate_left
  · simp only [Act.put, List.setIfInBounds_toArray, List.set_cons_zero, List.set_cons_succ, i64_w, i32_w]
    rfl
  refine pure_ (i := 3) (N := some 24) (v := ?_) (a' := ?_) #[true, false, true, true, false, false, false, false, false, false, false, false] rfl rfl (by kernel_rfl) (fun _ _ _ h => h) (Or.inl ⟨by rfl, ?_⟩) ?_ ?_
  rotate_left
  · intro w'
    go_simp
    with_reducible rfl
  rotate_left
  · simp only [Act.put, List.setIfInBounds_toArray, List.set_cons_zero, List.set_cons_succ, i64_w, i32_w]
    rfl
  refine pure_ (i := 4) (N := some 25) (v := ?_) (a' := ?_) #[true, false, true, true, true, false, false, false, false, false, false, false] rfl rfl (by kernel_rfl) (fun _ _ _ h => h) (Or.inl ⟨by rfl, ?_⟩) ?_ ?_
  rotate_left
  · intro w'
    go_simp
    with_reducible rfl
  rotate_left
  · simp only [Act.put, List.setIfInBounds_toArray, List.set_cons_zero, List.set_cons_succ, i64_w, i32_w]
    rfl
  refine pure_ (i := 5) (N := some 26) (v := ?_) (a' := ?_) #[true, false, true, true, true, true, false, false, false, false, false, false] rfl rfl (by kernel_rfl) (fun _ _ _ h => h) (Or.inl ⟨by rfl, ?_⟩) ?_ ?_
  rotate_left
  · intro w'
    go_simp
    with_reducible rfl
  rotate_left
  · simp only [Act.put, List.setIfInBounds_toArray, List.set_cons_zero, List.set_cons_succ, i64_w, i32_w]
    rfl
  refine pure_ (i := 6) (N := some 27) (v := ?_) (a' := ?_) #[true, false, true, true, true, true, true, false, false, false, false, false] rfl rfl (by kernel_rfl) (fun _ _ _ h => h) (Or.inl ⟨by rfl, ?_⟩) ?_ ?_
  rotate_left
  · intro w'
    go_simp
    with_reducible rfl
  rotate_left
  · simp only [Act.put, List.setIfInBounds_toArray, List.set_cons_zero, List.set_cons_succ, i64_w, i32_w]
    rfl
  refine pure_ (i := 7) (N := some 28) (v := ?_) (a' := ?_) #[true, false, true, true, true, true, true, true, false, false, false, false] rfl rfl (by kernel_rfl) (fun _ _ _ h => h) (Or.inl ⟨by rfl, ?_⟩) ?_ ?_
  rotate_left
  · intro w'
    go_simp
    with_reducible rfl
  rotate_left
  · simp only [Act.put, List.setIfInBounds_toArray, List.set_cons_zero, List.set_cons_succ, i64_w, i32_w]
    rfl
  refine pure_ (i := 8) (N := some 29) (v := ?_) (a' := ?_) #[true, false, true, true, true, true, true, true, true, false, false, false] rfl rfl (by kernel_rfl) (fun _ _ _ h => h) (Or.inl ⟨by rfl, ?_⟩) ?_ ?_
  rotate_left
  · intro w'
    go_simp
    with_reducible rfl
  rotate_left
  · simp only [Act.put, List.setIfInBounds_toArray, List.set_cons_zero, List.set_cons_succ, i64_w, i32_w]
    rfl
  refine pure_ (i := 9) (N := some 4) (v := ?_) (a' := ?_) #[true, false, true, true, true, true, true, true, true, true, false, false] rfl rfl (by kernel_rfl) (fun _ _ _ h => h) (Or.inl ⟨by rfl, ?_⟩) ?_ ?_
  rotate_left
  · intro w'
    go_simp
    with_reducible rfl
  rotate_left
  · simp only [Act.put, List.setIfInBounds_toArray, List.set_cons_zero, List.set_cons_succ, i64_w, i32_w]
    rfl
  refine take_ (i := 1) (N := some 22) (v := ?_) (a' := ?_) #[true, true, true, true, true, true, true, true, true, true, false, false] rfl rfl (by kernel_rfl) (fun _ _ _ h => h) (Or.inl ⟨by rfl, ?_⟩) hHeld ?_ ?_
  rotate_left
  · rintro w' ⟨s0, s1⟩
    go_simp
    with_reducible rfl
  rotate_left
  · simp only [Act.put, List.setIfInBounds_toArray, List.set_cons_zero, List.set_cons_succ, i64_w, i32_w]
    rfl
  refine last_ (i := 10) (N := none) #[true, true, true, true, true, true, true, true, true, true, true, false] rfl rfl (by kernel_rfl) (by decide) (fun K hK => ?_)
  refine skip_ (w1 := ?_) (by rfl) rfl ?_ ?_
  rotate_left
  · go_simp
    rfl
  refine hK.out _ _ ?_
  clear hK K
  refine pure_ (i := 11) (N := some 6) (v := ?_) (a' := ?_) #[true, true, true, true, true, true, true, true, true, true, true, true] rfl rfl (by kernel_rfl) (fun _ _ _ h => h) (Or.inl ⟨by rfl, ?_⟩) ?_ ?_
  rotate_left
  · intro w'
    go_simp
    with_reducible rfl
  rotate_left
  · simp only [Act.put, List.setIfInBounds_toArray, List.set_cons_zero, List.set_cons_succ, i64_w, i32_w]
    rfl
  refine done_ (by kernel_rfl) ?_
  go_wp2
  have c0 := ((b5.set_ 0 (.int .i64 (1 + n % 1024))).set_ 1 (.int .u32 g)).cell 0 (v := .int .i64 (1 + n % 1024)) rfl
  have c0' := (b5.set_ 0 (.int .i64 (1 + n % 1024))).cell 0 (v := .int .i64 (1 + n % 1024)) rfl
  have c1 := ((b5.set_ 0 (.int .i64 (1 + n % 1024))).set_ 1 (.int .u32 g)).cell 1 (v := .int .u32 g) rfl
  have hB2 := (hB.setCell (p := ⟨w.heap.size, 0, none⟩) (by simp) (.int .i64 (1 + n % 1024))).setCell (p := ⟨w.heap.size, 1, none⟩) (by simp) (.int .u32 g)
  have ho2 := ((ho.set_far ⟨w.heap.size, 0, none⟩ (by simp; omega) (.int .i64 (1 + n % 1024))).set_far ⟨w.heap.size, 1, none⟩ (by simp; omega) (.int .u32 g)).lower (base' := w.heap.size) (by simp; omega)
  exact bodyPost_ret (v := .tuple #[.slice A 16 d, .agg #[.int .i64 (1 + n % 1024), .int .u32 g], .bool true]) (by simp [results, Try.f15, go_sem, c0, c0', c1]) rfl ⟨_, rfl, ho2, below_drewN hB2 1⟩
end Go.Proofs.Ytffikncbpcnflaa.Hand
