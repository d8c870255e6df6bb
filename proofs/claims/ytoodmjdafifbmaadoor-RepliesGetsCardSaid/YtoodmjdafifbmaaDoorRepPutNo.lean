/- What replies.Put hands back where there is no reply: the error. -/
import Derived.Test.YtoodmjdafifbmaaDoorRepPut
namespace Go.Proofs.YtoodmjdafifbmaaDoor.Hand
open Go.RowKit Go.Proofs.YtoodmjdafifbmaaDoorW.PrintLast
set_option linter.unusedVariables false
set_option linter.unusedSimpArgs false

set_option maxRecDepth 100000 in
set_option maxHeartbeats 4000000 in
theorem put_none (xid how low high : Int) (A : Option Addr) (c : Nat) (body : List Int) (w : World) (hx0 : 0 ≤ xid) (hx1 : xid < 4294967296) (hh0 : 0 ≤ how) (hh1 : how < 4294967296) (hl0 : 0 ≤ low) (hl1 : low < 4294967296) (hi0 : 0 ≤ high) (hi1 : high < 4294967296)
    (hr : Rd w A body) (hc : body.length ≤ c) (hn : body.length ≤ 1048000) (hk : ¬ how ∈ keysL) :
    Calls Tryd.prog 7 #[.agg #[.int .u32 xid, .int .u32 how, .int .u32 low, .int .u32 high, .slice A body.length c]] w fun e w' => e = .returned (.tuple #[.slice none 0 0, .int .i64 1]) ∧ Below w.heap.size w w' := by
  have b1 := Blk.new w 26 #[.int .u32 xid, .int .u32 how, .int .u32 low, .int .u32 high, .slice A body.length c]
  have hB : Below w.heap.size w (w.alloc (.cells #[.int .u32 xid, .int .u32 how, .int .u32 low, .int .u32 high, .slice A body.length c] 26)) := (Below.refl _ _).alloc (Nat.le_refl _) _
  have HK := Lib.hid hk
  clear hk
  go_enter Tryd.func7, Tryd.ntmps7
  go_wp2_with fail
  generalize w.alloc (.cells #[.int .u32 xid, .int .u32 how, .int .u32 low, .int .u32 high, .slice A body.length c] 26) = W at *
  have hB := below_then hB (below_drawn (w1 := W.drew) (n := 1) rfl)
  have b1 := b1.drew
  have k1 := b1.cell 1 (v := .int .u32 how) rfl
  refine start_ (n := 10) (S := fun w' => w'.cell? ⟨w.heap.size, 1, none⟩ = some (.int .u32 how)) (ds := []) #[false, false, false, false, false, false, false, false, false, false] (by kernel_rfl) rfl rfl (k1) (fun hHeld => ?_)
  refine pure_ (i := 1) (N := some 9) (v := ?_) (a' := ?_) #[false, true, false, false, false, false, false, false, false, false] rfl rfl (by kernel_rfl) (fun _ _ _ h => h) (Or.inl ⟨by rfl, ?_⟩) ?_ ?_
  rotate_left
  · intro w'
    go_simp
    with_reducible rfl
  rotate_left
  · simp only [Act.put, List.setIfInBounds_toArray, List.set_cons_zero, List.set_cons_succ, i64_w, i32_w]
    rfl
  refine take_ (i := 2) (N := some 10) (v := ?_) (a' := ?_) #[false, true, true, false, false, false, false, false, false, false] rfl rfl (by kernel_rfl) (fun _ _ _ h => h) (Or.inl ⟨by rfl, ?_⟩) hHeld ?_ ?_
  rotate_left
  · intro w' s0
    go_simp
    with_reducible rfl
  rotate_left
  · simp only [Act.put, List.setIfInBounds_toArray, List.set_cons_zero, List.set_cons_succ, i64_w, i32_w]
    rfl
  refine join_ (σ := Nat × (Nat → Nat) × Nat) 2 #[true, true, true, true, true, true, true, true, false, false] (fun s' => [(8, .map (some s'.1)), (11, .tuple #[.agg #[.slice (rowP s'.2.1 how) (rowN how) (rowN how), .int .i64 (toldOf how), .bool (decide (how = 0))], .bool (decide (how ∈ keysL))]), (7, .tuple #[.agg #[.slice (rowP s'.2.1 how) (rowN how) (rowN how), .int .i64 (toldOf how), .bool (decide (how = 0))], .bool (decide (how ∈ keysL))]), (12, .agg #[.slice (rowP s'.2.1 how) (rowN how) (rowN how), .int .i64 (toldOf how), .bool (decide (how = 0))]), (13, .bool (decide (how ∈ keysL))), (4, .pointer (some ⟨s'.2.2, 0, none⟩))]) (fun s' w' => w'.cell? ⟨w.heap.size, 1, none⟩ = some (.int .u32 how) ∧ Below w.heap.size w w' ∧ Blk w' w.heap.size 26 #[.int .u32 xid, .int .u32 how, .int .u32 low, .int .u32 high, .slice A body.length c] ∧ Blk w' s'.2.2 68 #[.slice none 0 0, .int .i64 0, .bool false] ∧ w.heap.size < s'.2.2 ∧ NumsAt w' s'.2.1 ∧ (∀ k ∈ keysL, s'.2.1 (ixOf k) ≠ s'.2.2)) ?_ ?_
  rotate_left
  · intro hCont
    refine two_ (i := 0) (j := 7) (Ni := some 8) (Nj := some 4) #[true, true, true, false, false, false, false, false, false, false] #[false, true, true, false, false, false, false, true, false, false] rfl rfl rfl rfl (by kernel_rfl) (by decide) (by decide) (fun K hK => ?_) (fun K hK => ?_)
    · skip
      refine goes_ Tryd.func29 (by kernel_rfl) rfl #[] (by rfl) rfl rfl (by simp only [List.map_toArray, List.map_cons, List.map_nil]) ?_
      with_reducible refine (rows_all _).mono ?_
      rintro e w3 ⟨b, g, rfl, hbb, hgk, hM, hN, hbx⟩
      refine ⟨_, rfl, ?_⟩
      have k1 := cell_later hbx k1
      have b1 := b1.below hbx
      have hB := below_then hB hbx
      refine hK.out _ _ (k1) (fun hHeld => ?_)
      clear hK K
      refine norm_ (a' := ?_) ?_ ?_
      rotate_left
      · show Act.put _ (some 8) _ = _
        simp only [Act.put, List.setIfInBounds_toArray, List.set_cons_zero, List.set_cons_succ, i64_w, i32_w]
        rfl
      refine two_ (i := 3) (j := 7) (Ni := some 11) (Nj := some 4) #[true, true, true, true, false, false, false, false, false, false] #[true, true, true, false, false, false, false, true, false, false] rfl rfl rfl rfl (by kernel_rfl) (by decide) (by decide) (fun K hK => ?_) (fun K hK => ?_)
      · skip
        have hq := look2 hM hh0 hh1
        rw [rowK_or, in_keys] at hq
        refine value_ (w1 := ?_) (v := ?_) (by rfl) rfl ?_ ?_
        rotate_left 2
        · go_simp
          constructor
          · rfl
          · rfl
        clear hq
        refine hK.out _ _ (k1) (fun hHeld => ?_)
        clear hK K
        refine norm_ (a' := ?_) ?_ ?_
        rotate_left
        · show Act.put _ (some 11) _ = _
          simp only [Act.put, List.setIfInBounds_toArray, List.set_cons_zero, List.set_cons_succ, i64_w, i32_w]
          rfl
        refine pure_ (i := 4) (N := some 7) (v := ?_) (a' := ?_) #[true, true, true, true, true, false, false, false, false, false] rfl rfl (by kernel_rfl) (fun _ _ _ h => h) (Or.inl ⟨by rfl, ?_⟩) ?_ ?_
        rotate_left
        · intro w'
          go_simp
          with_reducible rfl
        rotate_left
        · simp only [Act.put, List.setIfInBounds_toArray, List.set_cons_zero, List.set_cons_succ, i64_w, i32_w]
          rfl
        refine pure_ (i := 5) (N := some 12) (v := ?_) (a' := ?_) #[true, true, true, true, true, true, false, false, false, false] rfl rfl (by kernel_rfl) (fun _ _ _ h => h) (Or.inl ⟨by rfl, ?_⟩) ?_ ?_
        rotate_left
        · intro w'
          go_simp
          with_reducible rfl
        rotate_left
        · simp only [Act.put, List.setIfInBounds_toArray, List.set_cons_zero, List.set_cons_succ, i64_w, i32_w]
          rfl
        refine pure_ (i := 6) (N := some 13) (v := ?_) (a' := ?_) #[true, true, true, true, true, true, true, false, false, false] rfl rfl (by kernel_rfl) (fun _ _ _ h => h) (Or.inl ⟨by rfl, ?_⟩) ?_ ?_
        rotate_left
        · intro w'
          go_simp
          with_reducible rfl
        rotate_left
        · simp only [Act.put, List.setIfInBounds_toArray, List.set_cons_zero, List.set_cons_succ, i64_w, i32_w]
          rfl
        refine one_ (i := 7) (N := some 4) #[true, true, true, true, true, true, true, true, false, false] rfl rfl (by kernel_rfl) (by decide) (fun K hK => ?_)
        refine value_ (w1 := ?_) (v := ?_) (by rfl) rfl ?_ ?_
        rotate_left 2
        · go_simp
          constructor
          · rfl
          · rfl
        have hlt : w.heap.size < w3.heap.size := b1.lt
        have bx := Blk.new w3 68 #[.slice none 0 0, .int .i64 0, .bool false]
        have b1 := b1.alloc (.cells #[.slice none 0 0, .int .i64 0, .bool false] 68)
        have k1 := cell_old k1 (.cells #[.slice none 0 0, .int .i64 0, .bool false] 68)
        have hB := hB.alloc hB.size (.cells #[.slice none 0 0, .int .i64 0, .bool false] 68)
        have hpg : ∀ k ∈ keysL, g (ixOf k) ≠ w3.heap.size := fun k hk => by have := (hN k hk).lt; omega
        have hM := hM.below ((Below.refl _ w3).alloc (Nat.le_refl _) (.cells #[.slice none 0 0, .int .i64 0, .bool false] 68))
        have hN := hN.below ((Below.refl _ w3).alloc (Nat.le_refl _) (.cells #[.slice none 0 0, .int .i64 0, .bool false] 68))
        refine hK.out _ _ (k1) (fun hHeld => ?_)
        clear hK K
        refine norm_ (a' := ?_) ?_ ?_
        rotate_left
        · show Act.put _ (some 4) _ = _
          simp only [Act.put, List.setIfInBounds_toArray, List.set_cons_zero, List.set_cons_succ, i64_w, i32_w]
          rfl
        exact norm_ (by simp only [putAll, Act.put, List.setIfInBounds_toArray, List.set_cons_zero, List.set_cons_succ]) (hCont (b, g, w3.heap.size) _ ⟨k1, hB, b1, bx, hlt, hN, hpg⟩)
      · skip
        refine value_ (w1 := ?_) (v := ?_) (by rfl) rfl ?_ ?_
        rotate_left 2
        · go_simp
          constructor
          · rfl
          · rfl
        have hlt : w.heap.size < w3.heap.size := b1.lt
        have bx := Blk.new w3 68 #[.slice none 0 0, .int .i64 0, .bool false]
        have b1 := b1.alloc (.cells #[.slice none 0 0, .int .i64 0, .bool false] 68)
        have k1 := cell_old k1 (.cells #[.slice none 0 0, .int .i64 0, .bool false] 68)
        have hB := hB.alloc hB.size (.cells #[.slice none 0 0, .int .i64 0, .bool false] 68)
        have hpg : ∀ k ∈ keysL, g (ixOf k) ≠ w3.heap.size := fun k hk => by have := (hN k hk).lt; omega
        have hM := hM.below ((Below.refl _ w3).alloc (Nat.le_refl _) (.cells #[.slice none 0 0, .int .i64 0, .bool false] 68))
        have hN := hN.below ((Below.refl _ w3).alloc (Nat.le_refl _) (.cells #[.slice none 0 0, .int .i64 0, .bool false] 68))
        refine hK.out _ _ (k1) (fun hHeld => ?_)
        clear hK K
        refine norm_ (a' := ?_) ?_ ?_
        rotate_left
        · show Act.put _ (some 4) _ = _
          simp only [Act.put, List.setIfInBounds_toArray, List.set_cons_zero, List.set_cons_succ, i64_w, i32_w]
          rfl
        refine one_ (i := 3) (N := some 11) #[true, true, true, true, false, false, false, true, false, false] rfl rfl (by kernel_rfl) (by decide) (fun K hK => ?_)
        have hq := look2 hM hh0 hh1
        rw [rowK_or, in_keys] at hq
        refine value_ (w1 := ?_) (v := ?_) (by rfl) rfl ?_ ?_
        rotate_left 2
        · go_simp
          constructor
          · rfl
          · rfl
        clear hq
        refine hK.out _ _ (k1) (fun hHeld => ?_)
        clear hK K
        refine norm_ (a' := ?_) ?_ ?_
        rotate_left
        · show Act.put _ (some 11) _ = _
          simp only [Act.put, List.setIfInBounds_toArray, List.set_cons_zero, List.set_cons_succ, i64_w, i32_w]
          rfl
        refine pure_ (i := 4) (N := some 7) (v := ?_) (a' := ?_) #[true, true, true, true, true, false, false, true, false, false] rfl rfl (by kernel_rfl) (fun _ _ _ h => h) (Or.inl ⟨by rfl, ?_⟩) ?_ ?_
        rotate_left
        · intro w'
          go_simp
          with_reducible rfl
        rotate_left
        · simp only [Act.put, List.setIfInBounds_toArray, List.set_cons_zero, List.set_cons_succ, i64_w, i32_w]
          rfl
        refine pure_ (i := 5) (N := some 12) (v := ?_) (a' := ?_) #[true, true, true, true, true, true, false, true, false, false] rfl rfl (by kernel_rfl) (fun _ _ _ h => h) (Or.inl ⟨by rfl, ?_⟩) ?_ ?_
        rotate_left
        · intro w'
          go_simp
          with_reducible rfl
        rotate_left
        · simp only [Act.put, List.setIfInBounds_toArray, List.set_cons_zero, List.set_cons_succ, i64_w, i32_w]
          rfl
        refine pure_ (i := 6) (N := some 13) (v := ?_) (a' := ?_) #[true, true, true, true, true, true, true, true, false, false] rfl rfl (by kernel_rfl) (fun _ _ _ h => h) (Or.inl ⟨by rfl, ?_⟩) ?_ ?_
        rotate_left
        · intro w'
          go_simp
          with_reducible rfl
        rotate_left
        · simp only [Act.put, List.setIfInBounds_toArray, List.set_cons_zero, List.set_cons_succ, i64_w, i32_w]
          rfl
        exact norm_ (by simp only [putAll, Act.put, List.setIfInBounds_toArray, List.set_cons_zero, List.set_cons_succ]) (hCont (b, g, w3.heap.size) _ ⟨k1, hB, b1, bx, hlt, hN, hpg⟩)
    · skip
      refine value_ (w1 := ?_) (v := ?_) (by rfl) rfl ?_ ?_
      rotate_left 2
      · go_simp
        constructor
        · rfl
        · rfl
      have hlt : w.heap.size < W.heap.size := b1.lt
      have bx := Blk.new W.drew 68 #[.slice none 0 0, .int .i64 0, .bool false]
      have b1 := b1.alloc (.cells #[.slice none 0 0, .int .i64 0, .bool false] 68)
      have k1 := cell_old k1 (.cells #[.slice none 0 0, .int .i64 0, .bool false] 68)
      have hB := hB.alloc hB.size (.cells #[.slice none 0 0, .int .i64 0, .bool false] 68)
      refine hK.out _ _ (k1) (fun hHeld => ?_)
      clear hK K
      refine norm_ (a' := ?_) ?_ ?_
      rotate_left
      · show Act.put _ (some 4) _ = _
        simp only [Act.put, List.setIfInBounds_toArray, List.set_cons_zero, List.set_cons_succ, i64_w, i32_w]
        rfl
      refine one_ (i := 0) (N := some 8) #[true, true, true, false, false, false, false, true, false, false] rfl rfl (by kernel_rfl) (by decide) (fun K hK => ?_)
      refine goes_ Tryd.func29 (by kernel_rfl) rfl #[] (by rfl) rfl rfl (by simp only [List.map_toArray, List.map_cons, List.map_nil]) ?_
      with_reducible refine (rows_all _).mono ?_
      rintro e w3 ⟨b, g, rfl, hbb, hgk, hM, hN, hbx⟩
      refine ⟨_, rfl, ?_⟩
      have k1 := cell_later hbx k1
      have b1 := b1.below hbx
      have bx := bx.below hbx
      have hpg : ∀ k ∈ keysL, g (ixOf k) ≠ W.drew.heap.size := fun k hk => by have := hgk k hk; simp at hbb ⊢; omega
      have hB := below_then hB hbx
      refine hK.out _ _ (k1) (fun hHeld => ?_)
      clear hK K
      refine norm_ (a' := ?_) ?_ ?_
      rotate_left
      · show Act.put _ (some 8) _ = _
        simp only [Act.put, List.setIfInBounds_toArray, List.set_cons_zero, List.set_cons_succ, i64_w, i32_w]
        rfl
      refine one_ (i := 3) (N := some 11) #[true, true, true, true, false, false, false, true, false, false] rfl rfl (by kernel_rfl) (by decide) (fun K hK => ?_)
      have hq := look2 hM hh0 hh1
      rw [rowK_or, in_keys] at hq
      refine value_ (w1 := ?_) (v := ?_) (by rfl) rfl ?_ ?_
      rotate_left 2
      · go_simp
        constructor
        · rfl
        · rfl
      clear hq
      refine hK.out _ _ (k1) (fun hHeld => ?_)
      clear hK K
      refine norm_ (a' := ?_) ?_ ?_
      rotate_left
      · show Act.put _ (some 11) _ = _
        simp only [Act.put, List.setIfInBounds_toArray, List.set_cons_zero, List.set_cons_succ, i64_w, i32_w]
        rfl
      refine pure_ (i := 4) (N := some 7) (v := ?_) (a' := ?_) #[true, true, true, true, true, false, false, true, false, false] rfl rfl (by kernel_rfl) (fun _ _ _ h => h) (Or.inl ⟨by rfl, ?_⟩) ?_ ?_
      rotate_left
      · intro w'
        go_simp
        with_reducible rfl
      rotate_left
      · simp only [Act.put, List.setIfInBounds_toArray, List.set_cons_zero, List.set_cons_succ, i64_w, i32_w]
        rfl
      refine pure_ (i := 5) (N := some 12) (v := ?_) (a' := ?_) #[true, true, true, true, true, true, false, true, false, false] rfl rfl (by kernel_rfl) (fun _ _ _ h => h) (Or.inl ⟨by rfl, ?_⟩) ?_ ?_
      rotate_left
      · intro w'
        go_simp
        with_reducible rfl
      rotate_left
      · simp only [Act.put, List.setIfInBounds_toArray, List.set_cons_zero, List.set_cons_succ, i64_w, i32_w]
        rfl
      refine pure_ (i := 6) (N := some 13) (v := ?_) (a' := ?_) #[true, true, true, true, true, true, true, true, false, false] rfl rfl (by kernel_rfl) (fun _ _ _ h => h) (Or.inl ⟨by rfl, ?_⟩) ?_ ?_
      rotate_left
      · intro w'
        go_simp
        with_reducible rfl
      rotate_left
      · simp only [Act.put, List.setIfInBounds_toArray, List.set_cons_zero, List.set_cons_succ, i64_w, i32_w]
        rfl
      exact norm_ (by simp only [putAll, Act.put, List.setIfInBounds_toArray, List.set_cons_zero, List.set_cons_succ]) (hCont (b, g, W.heap.size) _ ⟨k1, hB, b1, bx, hlt, hN, hpg⟩)
  clear hB b1
  rintro ⟨b, g, px⟩ w' ⟨k1, hB, b1, bx, hpx, hN, hpg⟩
  have hHeld : w'.cell? ⟨w.heap.size, 1, none⟩ = some (.int .u32 how) := k1
  refine norm_ (a' := ?_) ?_ ?_
  rotate_left
  · simp only [putAll, Act.put, List.setIfInBounds_toArray, List.set_cons_zero, List.set_cons_succ]
    rfl
  refine one_ (i := 8) (N := none) #[true, true, true, true, true, true, true, true, true, false] rfl rfl (by kernel_rfl) (by decide) (fun K hK => ?_)
  have c0 := bx.cell 0 (v := .slice none 0 0) rfl
  have c1 := bx.cell 1 (v := .int .i64 0) rfl
  have c2 := bx.cell 2 (v := .bool false) rfl
  have f0 := bx.frozen 0
  have f1 := bx.frozen 1
  have f2 := bx.frozen 2
  refine skip_ (w1 := ?_) (by rfl) rfl ?_ ?_
  rotate_left
  · go_simp
    rfl
  have bx := ((bx.set_ 0 (.slice (rowP g how) (rowN how) (rowN how))).set_ 1 (.int .i64 (toldOf how))).set_ 2 (.bool (decide (how = 0)))
  have b1 := ((b1.far (p := ⟨px, 0, none⟩) (Nat.ne_of_lt hpx) (.slice (rowP g how) (rowN how) (rowN how))).far (p := ⟨px, 1, none⟩) (Nat.ne_of_lt hpx) (.int .i64 (toldOf how))).far (p := ⟨px, 2, none⟩) (Nat.ne_of_lt hpx) (.bool (decide (how = 0)))
  have hN := hN.set3 px (.slice (rowP g how) (rowN how) (rowN how)) (.int .i64 (toldOf how)) (.bool (decide (how = 0))) hpg
  have hB := ((hB.setCell (p := ⟨px, 0, none⟩) (Nat.le_of_lt hpx) (.slice (rowP g how) (rowN how) (rowN how))).setCell (p := ⟨px, 1, none⟩) (Nat.le_of_lt hpx) (.int .i64 (toldOf how))).setCell (p := ⟨px, 2, none⟩) (Nat.le_of_lt hpx) (.bool (decide (how = 0)))
  have k1 := b1.cell 1 (v := .int .u32 how) rfl
  clear c0 c1 c2 f0 f1 f2
  refine hK.out _ _ (k1) (fun hHeld => ?_)
  clear hK K
  refine pure_ (i := 9) (N := some 5) (v := ?_) (a' := ?_) #[true, true, true, true, true, true, true, true, true, true] rfl rfl (by kernel_rfl) (fun _ _ _ h => h) (Or.inl ⟨by rfl, ?_⟩) ?_ ?_
  rotate_left
  · intro w'
    go_simp
    with_reducible rfl
  rotate_left
  · simp only [Act.put, List.setIfInBounds_toArray, List.set_cons_zero, List.set_cons_succ, i64_w, i32_w]
    rfl
  refine done_ (by kernel_rfl) ?_
  have bx : Blk _ px 68 #[.slice (rowP g how) (rowN how) (rowN how), .int .i64 (toldOf how), .bool (decide (how = 0))] := bx
  generalize ((w'.setCell ⟨px, 0, none⟩ (.slice (rowP g how) (rowN how) (rowN how))).setCell ⟨px, 1, none⟩ (.int .i64 (toldOf how))).setCell ⟨px, 2, none⟩ (.bool (decide (how = 0))) = W2 at *
  clear hHeld
  rw [decide_eq_false HK.out]
  have k0 := b1.cell 0 (v := .int .u32 xid) rfl
  have k2 := b1.cell 2 (v := .int .u32 low) rfl
  have k3 := b1.cell 3 (v := .int .u32 high) rfl
  have k4 := b1.cell 4 (v := .slice A body.length c) rfl
  have c0 := bx.cell 0 (v := .slice (rowP g how) (rowN how) (rowN how)) rfl
  have c1 := bx.cell 1 (v := .int .i64 (toldOf how)) rfl
  have c2 := bx.cell 2 (v := .bool (decide (how = 0))) rfl
  go_wp2
  go_ret2
  exact ⟨rfl, hB⟩


set_option maxRecDepth 100000 in
set_option maxHeartbeats 4000000 in
theorem put_body (xid how low high : Int) (A : Option Addr) (c : Nat) (body : List Int) (w : World) (hx0 : 0 ≤ xid) (hx1 : xid < 4294967296) (hh0 : 0 ≤ how) (hh1 : how < 4294967296) (hl0 : 0 ≤ low) (hl1 : low < 4294967296) (hi0 : 0 ≤ high) (hi1 : high < 4294967296)
    (hr : Rd w A body) (hc : body.length ≤ c) (hn : body.length ≤ 1048000) (hk : how ∈ keysL) (h0 : ¬ how = 0) (hb : ¬ body.length = 0) :
    Calls Tryd.prog 7 #[.agg #[.int .u32 xid, .int .u32 how, .int .u32 low, .int .u32 high, .slice A body.length c]] w fun e w' => e = .returned (.tuple #[.slice none 0 0, .int .i64 1]) ∧ Below w.heap.size w w' := by
  have b1 := Blk.new w 26 #[.int .u32 xid, .int .u32 how, .int .u32 low, .int .u32 high, .slice A body.length c]
  have hB : Below w.heap.size w (w.alloc (.cells #[.int .u32 xid, .int .u32 how, .int .u32 low, .int .u32 high, .slice A body.length c] 26)) := (Below.refl _ _).alloc (Nat.le_refl _) _
  have HK := Lib.hid hk
  have H0 := Lib.hid h0
  have HB := Lib.hid hb
  clear hk h0 hb
  go_enter Tryd.func7, Tryd.ntmps7
  go_wp2_with fail
  generalize w.alloc (.cells #[.int .u32 xid, .int .u32 how, .int .u32 low, .int .u32 high, .slice A body.length c] 26) = W at *
  have hB := below_then hB (below_drawn (w1 := W.drew) (n := 1) rfl)
  have b1 := b1.drew
  have k1 := b1.cell 1 (v := .int .u32 how) rfl
  refine start_ (n := 10) (S := fun w' => w'.cell? ⟨w.heap.size, 1, none⟩ = some (.int .u32 how)) (ds := []) #[false, false, false, false, false, false, false, false, false, false] (by kernel_rfl) rfl rfl (k1) (fun hHeld => ?_)
  refine pure_ (i := 1) (N := some 9) (v := ?_) (a' := ?_) #[false, true, false, false, false, false, false, false, false, false] rfl rfl (by kernel_rfl) (fun _ _ _ h => h) (Or.inl ⟨by rfl, ?_⟩) ?_ ?_
  rotate_left
  · intro w'
    go_simp
    with_reducible rfl
  rotate_left
  · simp only [Act.put, List.setIfInBounds_toArray, List.set_cons_zero, List.set_cons_succ, i64_w, i32_w]
    rfl
  refine take_ (i := 2) (N := some 10) (v := ?_) (a' := ?_) #[false, true, true, false, false, false, false, false, false, false] rfl rfl (by kernel_rfl) (fun _ _ _ h => h) (Or.inl ⟨by rfl, ?_⟩) hHeld ?_ ?_
  rotate_left
  · intro w' s0
    go_simp
    with_reducible rfl
  rotate_left
  · simp only [Act.put, List.setIfInBounds_toArray, List.set_cons_zero, List.set_cons_succ, i64_w, i32_w]
    rfl
  refine join_ (σ := Nat × (Nat → Nat) × Nat) 2 #[true, true, true, true, true, true, true, true, false, false] (fun s' => [(8, .map (some s'.1)), (11, .tuple #[.agg #[.slice (rowP s'.2.1 how) (rowN how) (rowN how), .int .i64 (toldOf how), .bool (decide (how = 0))], .bool (decide (how ∈ keysL))]), (7, .tuple #[.agg #[.slice (rowP s'.2.1 how) (rowN how) (rowN how), .int .i64 (toldOf how), .bool (decide (how = 0))], .bool (decide (how ∈ keysL))]), (12, .agg #[.slice (rowP s'.2.1 how) (rowN how) (rowN how), .int .i64 (toldOf how), .bool (decide (how = 0))]), (13, .bool (decide (how ∈ keysL))), (4, .pointer (some ⟨s'.2.2, 0, none⟩))]) (fun s' w' => w'.cell? ⟨w.heap.size, 1, none⟩ = some (.int .u32 how) ∧ Below w.heap.size w w' ∧ Blk w' w.heap.size 26 #[.int .u32 xid, .int .u32 how, .int .u32 low, .int .u32 high, .slice A body.length c] ∧ Blk w' s'.2.2 68 #[.slice none 0 0, .int .i64 0, .bool false] ∧ w.heap.size < s'.2.2 ∧ NumsAt w' s'.2.1 ∧ (∀ k ∈ keysL, s'.2.1 (ixOf k) ≠ s'.2.2)) ?_ ?_
  rotate_left
  · intro hCont
    refine two_ (i := 0) (j := 7) (Ni := some 8) (Nj := some 4) #[true, true, true, false, false, false, false, false, false, false] #[false, true, true, false, false, false, false, true, false, false] rfl rfl rfl rfl (by kernel_rfl) (by decide) (by decide) (fun K hK => ?_) (fun K hK => ?_)
    · skip
      refine goes_ Tryd.func29 (by kernel_rfl) rfl #[] (by rfl) rfl rfl (by simp only [List.map_toArray, List.map_cons, List.map_nil]) ?_
      with_reducible refine (rows_all _).mono ?_
      rintro e w3 ⟨b, g, rfl, hbb, hgk, hM, hN, hbx⟩
      refine ⟨_, rfl, ?_⟩
      have k1 := cell_later hbx k1
      have b1 := b1.below hbx
      have hB := below_then hB hbx
      refine hK.out _ _ (k1) (fun hHeld => ?_)
      clear hK K
      refine norm_ (a' := ?_) ?_ ?_
      rotate_left
      · show Act.put _ (some 8) _ = _
        simp only [Act.put, List.setIfInBounds_toArray, List.set_cons_zero, List.set_cons_succ, i64_w, i32_w]
        rfl
      refine two_ (i := 3) (j := 7) (Ni := some 11) (Nj := some 4) #[true, true, true, true, false, false, false, false, false, false] #[true, true, true, false, false, false, false, true, false, false] rfl rfl rfl rfl (by kernel_rfl) (by decide) (by decide) (fun K hK => ?_) (fun K hK => ?_)
      · skip
        have hq := look2 hM hh0 hh1
        rw [rowK_or, in_keys] at hq
        refine value_ (w1 := ?_) (v := ?_) (by rfl) rfl ?_ ?_
        rotate_left 2
        · go_simp
          constructor
          · rfl
          · rfl
        clear hq
        refine hK.out _ _ (k1) (fun hHeld => ?_)
        clear hK K
        refine norm_ (a' := ?_) ?_ ?_
        rotate_left
        · show Act.put _ (some 11) _ = _
          simp only [Act.put, List.setIfInBounds_toArray, List.set_cons_zero, List.set_cons_succ, i64_w, i32_w]
          rfl
        refine pure_ (i := 4) (N := some 7) (v := ?_) (a' := ?_) #[true, true, true, true, true, false, false, false, false, false] rfl rfl (by kernel_rfl) (fun _ _ _ h => h) (Or.inl ⟨by rfl, ?_⟩) ?_ ?_
        rotate_left
        · intro w'
          go_simp
          with_reducible rfl
        rotate_left
        · simp only [Act.put, List.setIfInBounds_toArray, List.set_cons_zero, List.set_cons_succ, i64_w, i32_w]
          rfl
        refine pure_ (i := 5) (N := some 12) (v := ?_) (a' := ?_) #[true, true, true, true, true, true, false, false, false, false] rfl rfl (by kernel_rfl) (fun _ _ _ h => h) (Or.inl ⟨by rfl, ?_⟩) ?_ ?_
        rotate_left
        · intro w'
          go_simp
          with_reducible rfl
        rotate_left
        · simp only [Act.put, List.setIfInBounds_toArray, List.set_cons_zero, List.set_cons_succ, i64_w, i32_w]
          rfl
        refine pure_ (i := 6) (N := some 13) (v := ?_) (a' := ?_) #[true, true, true, true, true, true, true, false, false, false] rfl rfl (by kernel_rfl) (fun _ _ _ h => h) (Or.inl ⟨by rfl, ?_⟩) ?_ ?_
        rotate_left
        · intro w'
          go_simp
          with_reducible rfl
        rotate_left
        · simp only [Act.put, List.setIfInBounds_toArray, List.set_cons_zero, List.set_cons_succ, i64_w, i32_w]
          rfl
        refine one_ (i := 7) (N := some 4) #[true, true, true, true, true, true, true, true, false, false] rfl rfl (by kernel_rfl) (by decide) (fun K hK => ?_)
        refine value_ (w1 := ?_) (v := ?_) (by rfl) rfl ?_ ?_
        rotate_left 2
        · go_simp
          constructor
          · rfl
          · rfl
        have hlt : w.heap.size < w3.heap.size := b1.lt
        have bx := Blk.new w3 68 #[.slice none 0 0, .int .i64 0, .bool false]
        have b1 := b1.alloc (.cells #[.slice none 0 0, .int .i64 0, .bool false] 68)
        have k1 := cell_old k1 (.cells #[.slice none 0 0, .int .i64 0, .bool false] 68)
        have hB := hB.alloc hB.size (.cells #[.slice none 0 0, .int .i64 0, .bool false] 68)
        have hpg : ∀ k ∈ keysL, g (ixOf k) ≠ w3.heap.size := fun k hk => by have := (hN k hk).lt; omega
        have hM := hM.below ((Below.refl _ w3).alloc (Nat.le_refl _) (.cells #[.slice none 0 0, .int .i64 0, .bool false] 68))
        have hN := hN.below ((Below.refl _ w3).alloc (Nat.le_refl _) (.cells #[.slice none 0 0, .int .i64 0, .bool false] 68))
        refine hK.out _ _ (k1) (fun hHeld => ?_)
        clear hK K
        refine norm_ (a' := ?_) ?_ ?_
        rotate_left
        · show Act.put _ (some 4) _ = _
          simp only [Act.put, List.setIfInBounds_toArray, List.set_cons_zero, List.set_cons_succ, i64_w, i32_w]
          rfl
        exact norm_ (by simp only [putAll, Act.put, List.setIfInBounds_toArray, List.set_cons_zero, List.set_cons_succ]) (hCont (b, g, w3.heap.size) _ ⟨k1, hB, b1, bx, hlt, hN, hpg⟩)
      · skip
        refine value_ (w1 := ?_) (v := ?_) (by rfl) rfl ?_ ?_
        rotate_left 2
        · go_simp
          constructor
          · rfl
          · rfl
        have hlt : w.heap.size < w3.heap.size := b1.lt
        have bx := Blk.new w3 68 #[.slice none 0 0, .int .i64 0, .bool false]
        have b1 := b1.alloc (.cells #[.slice none 0 0, .int .i64 0, .bool false] 68)
        have k1 := cell_old k1 (.cells #[.slice none 0 0, .int .i64 0, .bool false] 68)
        have hB := hB.alloc hB.size (.cells #[.slice none 0 0, .int .i64 0, .bool false] 68)
        have hpg : ∀ k ∈ keysL, g (ixOf k) ≠ w3.heap.size := fun k hk => by have := (hN k hk).lt; omega
        have hM := hM.below ((Below.refl _ w3).alloc (Nat.le_refl _) (.cells #[.slice none 0 0, .int .i64 0, .bool false] 68))
        have hN := hN.below ((Below.refl _ w3).alloc (Nat.le_refl _) (.cells #[.slice none 0 0, .int .i64 0, .bool false] 68))
        refine hK.out _ _ (k1) (fun hHeld => ?_)
        clear hK K
        refine norm_ (a' := ?_) ?_ ?_
        rotate_left
        · show Act.put _ (some 4) _ = _
          simp only [Act.put, List.setIfInBounds_toArray, List.set_cons_zero, List.set_cons_succ, i64_w, i32_w]
          rfl
        refine one_ (i := 3) (N := some 11) #[true, true, true, true, false, false, false, true, false, false] rfl rfl (by kernel_rfl) (by decide) (fun K hK => ?_)
        have hq := look2 hM hh0 hh1
        rw [rowK_or, in_keys] at hq
        refine value_ (w1 := ?_) (v := ?_) (by rfl) rfl ?_ ?_
        rotate_left 2
        · go_simp
          constructor
          · rfl
          · rfl
        clear hq
        refine hK.out _ _ (k1) (fun hHeld => ?_)
        clear hK K
        refine norm_ (a' := ?_) ?_ ?_
        rotate_left
        · show Act.put _ (some 11) _ = _
          simp only [Act.put, List.setIfInBounds_toArray, List.set_cons_zero, List.set_cons_succ, i64_w, i32_w]
          rfl
        refine pure_ (i := 4) (N := some 7) (v := ?_) (a' := ?_) #[true, true, true, true, true, false, false, true, false, false] rfl rfl (by kernel_rfl) (fun _ _ _ h => h) (Or.inl ⟨by rfl, ?_⟩) ?_ ?_
        rotate_left
        · intro w'
          go_simp
          with_reducible rfl
        rotate_left
        · simp only [Act.put, List.setIfInBounds_toArray, List.set_cons_zero, List.set_cons_succ, i64_w, i32_w]
          rfl
        refine pure_ (i := 5) (N := some 12) (v := ?_) (a' := ?_) #[true, true, true, true, true, true, false, true, false, false] rfl rfl (by kernel_rfl) (fun _ _ _ h => h) (Or.inl ⟨by rfl, ?_⟩) ?_ ?_
        rotate_left
        · intro w'
          go_simp
          with_reducible rfl
        rotate_left
        · simp only [Act.put, List.setIfInBounds_toArray, List.set_cons_zero, List.set_cons_succ, i64_w, i32_w]
          rfl
        refine pure_ (i := 6) (N := some 13) (v := ?_) (a' := ?_) #[true, true, true, true, true, true, true, true, false, false] rfl rfl (by kernel_rfl) (fun _ _ _ h => h) (Or.inl ⟨by rfl, ?_⟩) ?_ ?_
        rotate_left
        · intro w'
          go_simp
          with_reducible rfl
        rotate_left
        · simp only [Act.put, List.setIfInBounds_toArray, List.set_cons_zero, List.set_cons_succ, i64_w, i32_w]
          rfl
        exact norm_ (by simp only [putAll, Act.put, List.setIfInBounds_toArray, List.set_cons_zero, List.set_cons_succ]) (hCont (b, g, w3.heap.size) _ ⟨k1, hB, b1, bx, hlt, hN, hpg⟩)
    · skip
      refine value_ (w1 := ?_) (v := ?_) (by rfl) rfl ?_ ?_
      rotate_left 2
      · go_simp
        constructor
        · rfl
        · rfl
      have hlt : w.heap.size < W.heap.size := b1.lt
      have bx := Blk.new W.drew 68 #[.slice none 0 0, .int .i64 0, .bool false]
      have b1 := b1.alloc (.cells #[.slice none 0 0, .int .i64 0, .bool false] 68)
      have k1 := cell_old k1 (.cells #[.slice none 0 0, .int .i64 0, .bool false] 68)
      have hB := hB.alloc hB.size (.cells #[.slice none 0 0, .int .i64 0, .bool false] 68)
      refine hK.out _ _ (k1) (fun hHeld => ?_)
      clear hK K
      refine norm_ (a' := ?_) ?_ ?_
      rotate_left
      · show Act.put _ (some 4) _ = _
        simp only [Act.put, List.setIfInBounds_toArray, List.set_cons_zero, List.set_cons_succ, i64_w, i32_w]
        rfl
      refine one_ (i := 0) (N := some 8) #[true, true, true, false, false, false, false, true, false, false] rfl rfl (by kernel_rfl) (by decide) (fun K hK => ?_)
      refine goes_ Tryd.func29 (by kernel_rfl) rfl #[] (by rfl) rfl rfl (by simp only [List.map_toArray, List.map_cons, List.map_nil]) ?_
      with_reducible refine (rows_all _).mono ?_
      rintro e w3 ⟨b, g, rfl, hbb, hgk, hM, hN, hbx⟩
      refine ⟨_, rfl, ?_⟩
      have k1 := cell_later hbx k1
      have b1 := b1.below hbx
      have bx := bx.below hbx
      have hpg : ∀ k ∈ keysL, g (ixOf k) ≠ W.drew.heap.size := fun k hk => by have := hgk k hk; simp at hbb ⊢; omega
      have hB := below_then hB hbx
      refine hK.out _ _ (k1) (fun hHeld => ?_)
      clear hK K
      refine norm_ (a' := ?_) ?_ ?_
      rotate_left
      · show Act.put _ (some 8) _ = _
        simp only [Act.put, List.setIfInBounds_toArray, List.set_cons_zero, List.set_cons_succ, i64_w, i32_w]
        rfl
      refine one_ (i := 3) (N := some 11) #[true, true, true, true, false, false, false, true, false, false] rfl rfl (by kernel_rfl) (by decide) (fun K hK => ?_)
      have hq := look2 hM hh0 hh1
      rw [rowK_or, in_keys] at hq
      refine value_ (w1 := ?_) (v := ?_) (by rfl) rfl ?_ ?_
      rotate_left 2
      · go_simp
        constructor
        · rfl
        · rfl
      clear hq
      refine hK.out _ _ (k1) (fun hHeld => ?_)
      clear hK K
      refine norm_ (a' := ?_) ?_ ?_
      rotate_left
      · show Act.put _ (some 11) _ = _
        simp only [Act.put, List.setIfInBounds_toArray, List.set_cons_zero, List.set_cons_succ, i64_w, i32_w]
        rfl
      refine pure_ (i := 4) (N := some 7) (v := ?_) (a' := ?_) #[true, true, true, true, true, false, false, true, false, false] rfl rfl (by kernel_rfl) (fun _ _ _ h => h) (Or.inl ⟨by rfl, ?_⟩) ?_ ?_
      rotate_left
      · intro w'
        go_simp
        with_reducible rfl
      rotate_left
      · simp only [Act.put, List.setIfInBounds_toArray, List.set_cons_zero, List.set_cons_succ, i64_w, i32_w]
        rfl
      refine pure_ (i := 5) (N := some 12) (v := ?_) (a' := ?_) #[true, true, true, true, true, true, false, true, false, false] rfl rfl (by kernel_rfl) (fun _ _ _ h => h) (Or.inl ⟨by rfl, ?_⟩) ?_ ?_
      rotate_left
      · intro w'
        go_simp
        with_reducible rfl
      rotate_left
      · simp only [Act.put, List.setIfInBounds_toArray, List.set_cons_zero, List.set_cons_succ, i64_w, i32_w]
        rfl
      refine pure_ (i := 6) (N := some 13) (v := ?_) (a' := ?_) #[true, true, true, true, true, true, true, true, false, false] rfl rfl (by kernel_rfl) (fun _ _ _ h => h) (Or.inl ⟨by rfl, ?_⟩) ?_ ?_
      rotate_left
      · intro w'
        go_simp
        with_reducible rfl
      rotate_left
      · simp only [Act.put, List.setIfInBounds_toArray, List.set_cons_zero, List.set_cons_succ, i64_w, i32_w]
        rfl
      exact norm_ (by simp only [putAll, Act.put, List.setIfInBounds_toArray, List.set_cons_zero, List.set_cons_succ]) (hCont (b, g, W.heap.size) _ ⟨k1, hB, b1, bx, hlt, hN, hpg⟩)
  clear hB b1
  rintro ⟨b, g, px⟩ w' ⟨k1, hB, b1, bx, hpx, hN, hpg⟩
  have hHeld : w'.cell? ⟨w.heap.size, 1, none⟩ = some (.int .u32 how) := k1
  refine norm_ (a' := ?_) ?_ ?_
  rotate_left
  · simp only [putAll, Act.put, List.setIfInBounds_toArray, List.set_cons_zero, List.set_cons_succ]
    rfl
  refine one_ (i := 8) (N := none) #[true, true, true, true, true, true, true, true, true, false] rfl rfl (by kernel_rfl) (by decide) (fun K hK => ?_)
  have c0 := bx.cell 0 (v := .slice none 0 0) rfl
  have c1 := bx.cell 1 (v := .int .i64 0) rfl
  have c2 := bx.cell 2 (v := .bool false) rfl
  have f0 := bx.frozen 0
  have f1 := bx.frozen 1
  have f2 := bx.frozen 2
  refine skip_ (w1 := ?_) (by rfl) rfl ?_ ?_
  rotate_left
  · go_simp
    rfl
  have bx := ((bx.set_ 0 (.slice (rowP g how) (rowN how) (rowN how))).set_ 1 (.int .i64 (toldOf how))).set_ 2 (.bool (decide (how = 0)))
  have b1 := ((b1.far (p := ⟨px, 0, none⟩) (Nat.ne_of_lt hpx) (.slice (rowP g how) (rowN how) (rowN how))).far (p := ⟨px, 1, none⟩) (Nat.ne_of_lt hpx) (.int .i64 (toldOf how))).far (p := ⟨px, 2, none⟩) (Nat.ne_of_lt hpx) (.bool (decide (how = 0)))
  have hN := hN.set3 px (.slice (rowP g how) (rowN how) (rowN how)) (.int .i64 (toldOf how)) (.bool (decide (how = 0))) hpg
  have hB := ((hB.setCell (p := ⟨px, 0, none⟩) (Nat.le_of_lt hpx) (.slice (rowP g how) (rowN how) (rowN how))).setCell (p := ⟨px, 1, none⟩) (Nat.le_of_lt hpx) (.int .i64 (toldOf how))).setCell (p := ⟨px, 2, none⟩) (Nat.le_of_lt hpx) (.bool (decide (how = 0)))
  have k1 := b1.cell 1 (v := .int .u32 how) rfl
  clear c0 c1 c2 f0 f1 f2
  refine hK.out _ _ (k1) (fun hHeld => ?_)
  clear hK K
  refine pure_ (i := 9) (N := some 5) (v := ?_) (a' := ?_) #[true, true, true, true, true, true, true, true, true, true] rfl rfl (by kernel_rfl) (fun _ _ _ h => h) (Or.inl ⟨by rfl, ?_⟩) ?_ ?_
  rotate_left
  · intro w'
    go_simp
    with_reducible rfl
  rotate_left
  · simp only [Act.put, List.setIfInBounds_toArray, List.set_cons_zero, List.set_cons_succ, i64_w, i32_w]
    rfl
  refine done_ (by kernel_rfl) ?_
  have bx : Blk _ px 68 #[.slice (rowP g how) (rowN how) (rowN how), .int .i64 (toldOf how), .bool (decide (how = 0))] := bx
  generalize ((w'.setCell ⟨px, 0, none⟩ (.slice (rowP g how) (rowN how) (rowN how))).setCell ⟨px, 1, none⟩ (.int .i64 (toldOf how))).setCell ⟨px, 2, none⟩ (.bool (decide (how = 0))) = W2 at *
  clear hHeld
  rw [decide_eq_true HK.out, decide_eq_false H0.out]
  rw [decide_eq_false H0.out] at bx
  have t0 : 0 < body.length := by have := HB.out; omega
  have k0 := b1.cell 0 (v := .int .u32 xid) rfl
  have k2 := b1.cell 2 (v := .int .u32 low) rfl
  have k3 := b1.cell 3 (v := .int .u32 high) rfl
  have k4 := b1.cell 4 (v := .slice A body.length c) rfl
  have c0 := bx.cell 0 (v := .slice (rowP g how) (rowN how) (rowN how)) rfl
  have c1 := bx.cell 1 (v := .int .i64 (toldOf how)) rfl
  have c2 := bx.cell 2 (v := .bool false) rfl
  go_wp2
  go_ret2
  exact ⟨rfl, hB⟩


set_option maxRecDepth 100000 in
set_option maxHeartbeats 4000000 in
theorem put_low0 (xid how low high : Int) (A : Option Addr) (c : Nat) (body : List Int) (w : World) (hx0 : 0 ≤ xid) (hx1 : xid < 4294967296) (hh0 : 0 ≤ how) (hh1 : how < 4294967296) (hl0 : 0 ≤ low) (hl1 : low < 4294967296) (hi0 : 0 ≤ high) (hi1 : high < 4294967296)
    (hr : Rd w A body) (hc : body.length ≤ c) (hn : body.length ≤ 1048000) (hk : how ∈ keysL) (h0 : how = 0) (ht : toldOf how = 0) (hlo : ¬ low = 0) :
    Calls Tryd.prog 7 #[.agg #[.int .u32 xid, .int .u32 how, .int .u32 low, .int .u32 high, .slice A body.length c]] w fun e w' => e = .returned (.tuple #[.slice none 0 0, .int .i64 1]) ∧ Below w.heap.size w w' := by
  have b1 := Blk.new w 26 #[.int .u32 xid, .int .u32 how, .int .u32 low, .int .u32 high, .slice A body.length c]
  have hB : Below w.heap.size w (w.alloc (.cells #[.int .u32 xid, .int .u32 how, .int .u32 low, .int .u32 high, .slice A body.length c] 26)) := (Below.refl _ _).alloc (Nat.le_refl _) _
  have HK := Lib.hid hk
  have H0 := Lib.hid h0
  have HT := Lib.hid ht
  have HLO := Lib.hid hlo
  clear hk h0 ht hlo
  go_enter Tryd.func7, Tryd.ntmps7
  go_wp2_with fail
  generalize w.alloc (.cells #[.int .u32 xid, .int .u32 how, .int .u32 low, .int .u32 high, .slice A body.length c] 26) = W at *
  have hB := below_then hB (below_drawn (w1 := W.drew) (n := 1) rfl)
  have b1 := b1.drew
  have k1 := b1.cell 1 (v := .int .u32 how) rfl
  refine start_ (n := 10) (S := fun w' => w'.cell? ⟨w.heap.size, 1, none⟩ = some (.int .u32 how)) (ds := []) #[false, false, false, false, false, false, false, false, false, false] (by kernel_rfl) rfl rfl (k1) (fun hHeld => ?_)
  refine pure_ (i := 1) (N := some 9) (v := ?_) (a' := ?_) #[false, true, false, false, false, false, false, false, false, false] rfl rfl (by kernel_rfl) (fun _ _ _ h => h) (Or.inl ⟨by rfl, ?_⟩) ?_ ?_
  rotate_left
  · intro w'
    go_simp
    with_reducible rfl
  rotate_left
  · simp only [Act.put, List.setIfInBounds_toArray, List.set_cons_zero, List.set_cons_succ, i64_w, i32_w]
    rfl
  refine take_ (i := 2) (N := some 10) (v := ?_) (a' := ?_) #[false, true, true, false, false, false, false, false, false, false] rfl rfl (by kernel_rfl) (fun _ _ _ h => h) (Or.inl ⟨by rfl, ?_⟩) hHeld ?_ ?_
  rotate_left
  · intro w' s0
    go_simp
    with_reducible rfl
  rotate_left
  · simp only [Act.put, List.setIfInBounds_toArray, List.set_cons_zero, List.set_cons_succ, i64_w, i32_w]
    rfl
  refine join_ (σ := Nat × (Nat → Nat) × Nat) 2 #[true, true, true, true, true, true, true, true, false, false] (fun s' => [(8, .map (some s'.1)), (11, .tuple #[.agg #[.slice (rowP s'.2.1 how) (rowN how) (rowN how), .int .i64 (toldOf how), .bool (decide (how = 0))], .bool (decide (how ∈ keysL))]), (7, .tuple #[.agg #[.slice (rowP s'.2.1 how) (rowN how) (rowN how), .int .i64 (toldOf how), .bool (decide (how = 0))], .bool (decide (how ∈ keysL))]), (12, .agg #[.slice (rowP s'.2.1 how) (rowN how) (rowN how), .int .i64 (toldOf how), .bool (decide (how = 0))]), (13, .bool (decide (how ∈ keysL))), (4, .pointer (some ⟨s'.2.2, 0, none⟩))]) (fun s' w' => w'.cell? ⟨w.heap.size, 1, none⟩ = some (.int .u32 how) ∧ Below w.heap.size w w' ∧ Blk w' w.heap.size 26 #[.int .u32 xid, .int .u32 how, .int .u32 low, .int .u32 high, .slice A body.length c] ∧ Blk w' s'.2.2 68 #[.slice none 0 0, .int .i64 0, .bool false] ∧ w.heap.size < s'.2.2 ∧ NumsAt w' s'.2.1 ∧ (∀ k ∈ keysL, s'.2.1 (ixOf k) ≠ s'.2.2)) ?_ ?_
  rotate_left
  · intro hCont
    refine two_ (i := 0) (j := 7) (Ni := some 8) (Nj := some 4) #[true, true, true, false, false, false, false, false, false, false] #[false, true, true, false, false, false, false, true, false, false] rfl rfl rfl rfl (by kernel_rfl) (by decide) (by decide) (fun K hK => ?_) (fun K hK => ?_)
    · skip
      refine goes_ Tryd.func29 (by kernel_rfl) rfl #[] (by rfl) rfl rfl (by simp only [List.map_toArray, List.map_cons, List.map_nil]) ?_
      with_reducible refine (rows_all _).mono ?_
      rintro e w3 ⟨b, g, rfl, hbb, hgk, hM, hN, hbx⟩
      refine ⟨_, rfl, ?_⟩
      have k1 := cell_later hbx k1
      have b1 := b1.below hbx
      have hB := below_then hB hbx
      refine hK.out _ _ (k1) (fun hHeld => ?_)
      clear hK K
      refine norm_ (a' := ?_) ?_ ?_
      rotate_left
      · show Act.put _ (some 8) _ = _
        simp only [Act.put, List.setIfInBounds_toArray, List.set_cons_zero, List.set_cons_succ, i64_w, i32_w]
        rfl
      refine two_ (i := 3) (j := 7) (Ni := some 11) (Nj := some 4) #[true, true, true, true, false, false, false, false, false, false] #[true, true, true, false, false, false, false, true, false, false] rfl rfl rfl rfl (by kernel_rfl) (by decide) (by decide) (fun K hK => ?_) (fun K hK => ?_)
      · skip
        have hq := look2 hM hh0 hh1
        rw [rowK_or, in_keys] at hq
        refine value_ (w1 := ?_) (v := ?_) (by rfl) rfl ?_ ?_
        rotate_left 2
        · go_simp
          constructor
          · rfl
          · rfl
        clear hq
        refine hK.out _ _ (k1) (fun hHeld => ?_)
        clear hK K
        refine norm_ (a' := ?_) ?_ ?_
        rotate_left
        · show Act.put _ (some 11) _ = _
          simp only [Act.put, List.setIfInBounds_toArray, List.set_cons_zero, List.set_cons_succ, i64_w, i32_w]
          rfl
        refine pure_ (i := 4) (N := some 7) (v := ?_) (a' := ?_) #[true, true, true, true, true, false, false, false, false, false] rfl rfl (by kernel_rfl) (fun _ _ _ h => h) (Or.inl ⟨by rfl, ?_⟩) ?_ ?_
        rotate_left
        · intro w'
          go_simp
          with_reducible rfl
        rotate_left
        · simp only [Act.put, List.setIfInBounds_toArray, List.set_cons_zero, List.set_cons_succ, i64_w, i32_w]
          rfl
        refine pure_ (i := 5) (N := some 12) (v := ?_) (a' := ?_) #[true, true, true, true, true, true, false, false, false, false] rfl rfl (by kernel_rfl) (fun _ _ _ h => h) (Or.inl ⟨by rfl, ?_⟩) ?_ ?_
        rotate_left
        · intro w'
          go_simp
          with_reducible rfl
        rotate_left
        · simp only [Act.put, List.setIfInBounds_toArray, List.set_cons_zero, List.set_cons_succ, i64_w, i32_w]
          rfl
        refine pure_ (i := 6) (N := some 13) (v := ?_) (a' := ?_) #[true, true, true, true, true, true, true, false, false, false] rfl rfl (by kernel_rfl) (fun _ _ _ h => h) (Or.inl ⟨by rfl, ?_⟩) ?_ ?_
        rotate_left
        · intro w'
          go_simp
          with_reducible rfl
        rotate_left
        · simp only [Act.put, List.setIfInBounds_toArray, List.set_cons_zero, List.set_cons_succ, i64_w, i32_w]
          rfl
        refine one_ (i := 7) (N := some 4) #[true, true, true, true, true, true, true, true, false, false] rfl rfl (by kernel_rfl) (by decide) (fun K hK => ?_)
        refine value_ (w1 := ?_) (v := ?_) (by rfl) rfl ?_ ?_
        rotate_left 2
        · go_simp
          constructor
          · rfl
          · rfl
        have hlt : w.heap.size < w3.heap.size := b1.lt
        have bx := Blk.new w3 68 #[.slice none 0 0, .int .i64 0, .bool false]
        have b1 := b1.alloc (.cells #[.slice none 0 0, .int .i64 0, .bool false] 68)
        have k1 := cell_old k1 (.cells #[.slice none 0 0, .int .i64 0, .bool false] 68)
        have hB := hB.alloc hB.size (.cells #[.slice none 0 0, .int .i64 0, .bool false] 68)
        have hpg : ∀ k ∈ keysL, g (ixOf k) ≠ w3.heap.size := fun k hk => by have := (hN k hk).lt; omega
        have hM := hM.below ((Below.refl _ w3).alloc (Nat.le_refl _) (.cells #[.slice none 0 0, .int .i64 0, .bool false] 68))
        have hN := hN.below ((Below.refl _ w3).alloc (Nat.le_refl _) (.cells #[.slice none 0 0, .int .i64 0, .bool false] 68))
        refine hK.out _ _ (k1) (fun hHeld => ?_)
        clear hK K
        refine norm_ (a' := ?_) ?_ ?_
        rotate_left
        · show Act.put _ (some 4) _ = _
          simp only [Act.put, List.setIfInBounds_toArray, List.set_cons_zero, List.set_cons_succ, i64_w, i32_w]
          rfl
        exact norm_ (by simp only [putAll, Act.put, List.setIfInBounds_toArray, List.set_cons_zero, List.set_cons_succ]) (hCont (b, g, w3.heap.size) _ ⟨k1, hB, b1, bx, hlt, hN, hpg⟩)
      · skip
        refine value_ (w1 := ?_) (v := ?_) (by rfl) rfl ?_ ?_
        rotate_left 2
        · go_simp
          constructor
          · rfl
          · rfl
        have hlt : w.heap.size < w3.heap.size := b1.lt
        have bx := Blk.new w3 68 #[.slice none 0 0, .int .i64 0, .bool false]
        have b1 := b1.alloc (.cells #[.slice none 0 0, .int .i64 0, .bool false] 68)
        have k1 := cell_old k1 (.cells #[.slice none 0 0, .int .i64 0, .bool false] 68)
        have hB := hB.alloc hB.size (.cells #[.slice none 0 0, .int .i64 0, .bool false] 68)
        have hpg : ∀ k ∈ keysL, g (ixOf k) ≠ w3.heap.size := fun k hk => by have := (hN k hk).lt; omega
        have hM := hM.below ((Below.refl _ w3).alloc (Nat.le_refl _) (.cells #[.slice none 0 0, .int .i64 0, .bool false] 68))
        have hN := hN.below ((Below.refl _ w3).alloc (Nat.le_refl _) (.cells #[.slice none 0 0, .int .i64 0, .bool false] 68))
        refine hK.out _ _ (k1) (fun hHeld => ?_)
        clear hK K
        refine norm_ (a' := ?_) ?_ ?_
        rotate_left
        · show Act.put _ (some 4) _ = _
          simp only [Act.put, List.setIfInBounds_toArray, List.set_cons_zero, List.set_cons_succ, i64_w, i32_w]
          rfl
        refine one_ (i := 3) (N := some 11) #[true, true, true, true, false, false, false, true, false, false] rfl rfl (by kernel_rfl) (by decide) (fun K hK => ?_)
        have hq := look2 hM hh0 hh1
        rw [rowK_or, in_keys] at hq
        refine value_ (w1 := ?_) (v := ?_) (by rfl) rfl ?_ ?_
        rotate_left 2
        · go_simp
          constructor
          · rfl
          · rfl
        clear hq
        refine hK.out _ _ (k1) (fun hHeld => ?_)
        clear hK K
        refine norm_ (a' := ?_) ?_ ?_
        rotate_left
        · show Act.put _ (some 11) _ = _
          simp only [Act.put, List.setIfInBounds_toArray, List.set_cons_zero, List.set_cons_succ, i64_w, i32_w]
          rfl
        refine pure_ (i := 4) (N := some 7) (v := ?_) (a' := ?_) #[true, true, true, true, true, false, false, true, false, false] rfl rfl (by kernel_rfl) (fun _ _ _ h => h) (Or.inl ⟨by rfl, ?_⟩) ?_ ?_
        rotate_left
        · intro w'
          go_simp
          with_reducible rfl
        rotate_left
        · simp only [Act.put, List.setIfInBounds_toArray, List.set_cons_zero, List.set_cons_succ, i64_w, i32_w]
          rfl
        refine pure_ (i := 5) (N := some 12) (v := ?_) (a' := ?_) #[true, true, true, true, true, true, false, true, false, false] rfl rfl (by kernel_rfl) (fun _ _ _ h => h) (Or.inl ⟨by rfl, ?_⟩) ?_ ?_
        rotate_left
        · intro w'
          go_simp
          with_reducible rfl
        rotate_left
        · simp only [Act.put, List.setIfInBounds_toArray, List.set_cons_zero, List.set_cons_succ, i64_w, i32_w]
          rfl
        refine pure_ (i := 6) (N := some 13) (v := ?_) (a' := ?_) #[true, true, true, true, true, true, true, true, false, false] rfl rfl (by kernel_rfl) (fun _ _ _ h => h) (Or.inl ⟨by rfl, ?_⟩) ?_ ?_
        rotate_left
        · intro w'
          go_simp
          with_reducible rfl
        rotate_left
        · simp only [Act.put, List.setIfInBounds_toArray, List.set_cons_zero, List.set_cons_succ, i64_w, i32_w]
          rfl
        exact norm_ (by simp only [putAll, Act.put, List.setIfInBounds_toArray, List.set_cons_zero, List.set_cons_succ]) (hCont (b, g, w3.heap.size) _ ⟨k1, hB, b1, bx, hlt, hN, hpg⟩)
    · skip
      refine value_ (w1 := ?_) (v := ?_) (by rfl) rfl ?_ ?_
      rotate_left 2
      · go_simp
        constructor
        · rfl
        · rfl
      have hlt : w.heap.size < W.heap.size := b1.lt
      have bx := Blk.new W.drew 68 #[.slice none 0 0, .int .i64 0, .bool false]
      have b1 := b1.alloc (.cells #[.slice none 0 0, .int .i64 0, .bool false] 68)
      have k1 := cell_old k1 (.cells #[.slice none 0 0, .int .i64 0, .bool false] 68)
      have hB := hB.alloc hB.size (.cells #[.slice none 0 0, .int .i64 0, .bool false] 68)
      refine hK.out _ _ (k1) (fun hHeld => ?_)
      clear hK K
      refine norm_ (a' := ?_) ?_ ?_
      rotate_left
      · show Act.put _ (some 4) _ = _
        simp only [Act.put, List.setIfInBounds_toArray, List.set_cons_zero, List.set_cons_succ, i64_w, i32_w]
        rfl
      refine one_ (i := 0) (N := some 8) #[true, true, true, false, false, false, false, true, false, false] rfl rfl (by kernel_rfl) (by decide) (fun K hK => ?_)
      refine goes_ Tryd.func29 (by kernel_rfl) rfl #[] (by rfl) rfl rfl (by simp only [List.map_toArray, List.map_cons, List.map_nil]) ?_
      with_reducible refine (rows_all _).mono ?_
      rintro e w3 ⟨b, g, rfl, hbb, hgk, hM, hN, hbx⟩
      refine ⟨_, rfl, ?_⟩
      have k1 := cell_later hbx k1
      have b1 := b1.below hbx
      have bx := bx.below hbx
      have hpg : ∀ k ∈ keysL, g (ixOf k) ≠ W.drew.heap.size := fun k hk => by have := hgk k hk; simp at hbb ⊢; omega
      have hB := below_then hB hbx
      refine hK.out _ _ (k1) (fun hHeld => ?_)
      clear hK K
      refine norm_ (a' := ?_) ?_ ?_
      rotate_left
      · show Act.put _ (some 8) _ = _
        simp only [Act.put, List.setIfInBounds_toArray, List.set_cons_zero, List.set_cons_succ, i64_w, i32_w]
        rfl
      refine one_ (i := 3) (N := some 11) #[true, true, true, true, false, false, false, true, false, false] rfl rfl (by kernel_rfl) (by decide) (fun K hK => ?_)
      have hq := look2 hM hh0 hh1
      rw [rowK_or, in_keys] at hq
      refine value_ (w1 := ?_) (v := ?_) (by rfl) rfl ?_ ?_
      rotate_left 2
      · go_simp
        constructor
        · rfl
        · rfl
      clear hq
      refine hK.out _ _ (k1) (fun hHeld => ?_)
      clear hK K
      refine norm_ (a' := ?_) ?_ ?_
      rotate_left
      · show Act.put _ (some 11) _ = _
        simp only [Act.put, List.setIfInBounds_toArray, List.set_cons_zero, List.set_cons_succ, i64_w, i32_w]
        rfl
      refine pure_ (i := 4) (N := some 7) (v := ?_) (a' := ?_) #[true, true, true, true, true, false, false, true, false, false] rfl rfl (by kernel_rfl) (fun _ _ _ h => h) (Or.inl ⟨by rfl, ?_⟩) ?_ ?_
      rotate_left
      · intro w'
        go_simp
        with_reducible rfl
      rotate_left
      · simp only [Act.put, List.setIfInBounds_toArray, List.set_cons_zero, List.set_cons_succ, i64_w, i32_w]
        rfl
      refine pure_ (i := 5) (N := some 12) (v := ?_) (a' := ?_) #[true, true, true, true, true, true, false, true, false, false] rfl rfl (by kernel_rfl) (fun _ _ _ h => h) (Or.inl ⟨by rfl, ?_⟩) ?_ ?_
      rotate_left
      · intro w'
        go_simp
        with_reducible rfl
      rotate_left
      · simp only [Act.put, List.setIfInBounds_toArray, List.set_cons_zero, List.set_cons_succ, i64_w, i32_w]
        rfl
      refine pure_ (i := 6) (N := some 13) (v := ?_) (a' := ?_) #[true, true, true, true, true, true, true, true, false, false] rfl rfl (by kernel_rfl) (fun _ _ _ h => h) (Or.inl ⟨by rfl, ?_⟩) ?_ ?_
      rotate_left
      · intro w'
        go_simp
        with_reducible rfl
      rotate_left
      · simp only [Act.put, List.setIfInBounds_toArray, List.set_cons_zero, List.set_cons_succ, i64_w, i32_w]
        rfl
      exact norm_ (by simp only [putAll, Act.put, List.setIfInBounds_toArray, List.set_cons_zero, List.set_cons_succ]) (hCont (b, g, W.heap.size) _ ⟨k1, hB, b1, bx, hlt, hN, hpg⟩)
  clear hB b1
  rintro ⟨b, g, px⟩ w' ⟨k1, hB, b1, bx, hpx, hN, hpg⟩
  have hHeld : w'.cell? ⟨w.heap.size, 1, none⟩ = some (.int .u32 how) := k1
  refine norm_ (a' := ?_) ?_ ?_
  rotate_left
  · simp only [putAll, Act.put, List.setIfInBounds_toArray, List.set_cons_zero, List.set_cons_succ]
    rfl
  refine one_ (i := 8) (N := none) #[true, true, true, true, true, true, true, true, true, false] rfl rfl (by kernel_rfl) (by decide) (fun K hK => ?_)
  have c0 := bx.cell 0 (v := .slice none 0 0) rfl
  have c1 := bx.cell 1 (v := .int .i64 0) rfl
  have c2 := bx.cell 2 (v := .bool false) rfl
  have f0 := bx.frozen 0
  have f1 := bx.frozen 1
  have f2 := bx.frozen 2
  refine skip_ (w1 := ?_) (by rfl) rfl ?_ ?_
  rotate_left
  · go_simp
    rfl
  have bx := ((bx.set_ 0 (.slice (rowP g how) (rowN how) (rowN how))).set_ 1 (.int .i64 (toldOf how))).set_ 2 (.bool (decide (how = 0)))
  have b1 := ((b1.far (p := ⟨px, 0, none⟩) (Nat.ne_of_lt hpx) (.slice (rowP g how) (rowN how) (rowN how))).far (p := ⟨px, 1, none⟩) (Nat.ne_of_lt hpx) (.int .i64 (toldOf how))).far (p := ⟨px, 2, none⟩) (Nat.ne_of_lt hpx) (.bool (decide (how = 0)))
  have hN := hN.set3 px (.slice (rowP g how) (rowN how) (rowN how)) (.int .i64 (toldOf how)) (.bool (decide (how = 0))) hpg
  have hB := ((hB.setCell (p := ⟨px, 0, none⟩) (Nat.le_of_lt hpx) (.slice (rowP g how) (rowN how) (rowN how))).setCell (p := ⟨px, 1, none⟩) (Nat.le_of_lt hpx) (.int .i64 (toldOf how))).setCell (p := ⟨px, 2, none⟩) (Nat.le_of_lt hpx) (.bool (decide (how = 0)))
  have k1 := b1.cell 1 (v := .int .u32 how) rfl
  clear c0 c1 c2 f0 f1 f2
  refine hK.out _ _ (k1) (fun hHeld => ?_)
  clear hK K
  refine pure_ (i := 9) (N := some 5) (v := ?_) (a' := ?_) #[true, true, true, true, true, true, true, true, true, true] rfl rfl (by kernel_rfl) (fun _ _ _ h => h) (Or.inl ⟨by rfl, ?_⟩) ?_ ?_
  rotate_left
  · intro w'
    go_simp
    with_reducible rfl
  rotate_left
  · simp only [Act.put, List.setIfInBounds_toArray, List.set_cons_zero, List.set_cons_succ, i64_w, i32_w]
    rfl
  refine done_ (by kernel_rfl) ?_
  have bx : Blk _ px 68 #[.slice (rowP g how) (rowN how) (rowN how), .int .i64 (toldOf how), .bool (decide (how = 0))] := bx
  generalize ((w'.setCell ⟨px, 0, none⟩ (.slice (rowP g how) (rowN how) (rowN how))).setCell ⟨px, 1, none⟩ (.int .i64 (toldOf how))).setCell ⟨px, 2, none⟩ (.bool (decide (how = 0))) = W2 at *
  clear hHeld
  rw [decide_eq_true HK.out, decide_eq_true H0.out, HT.out]
  rw [decide_eq_true H0.out, HT.out] at bx
  have t0 : (low != 0) = true := bne_iff_ne.2 HLO.out
  have k0 := b1.cell 0 (v := .int .u32 xid) rfl
  have k2 := b1.cell 2 (v := .int .u32 low) rfl
  have k3 := b1.cell 3 (v := .int .u32 high) rfl
  have k4 := b1.cell 4 (v := .slice A body.length c) rfl
  have c0 := bx.cell 0 (v := .slice (rowP g how) (rowN how) (rowN how)) rfl
  have c1 := bx.cell 1 (v := .int .i64 0) rfl
  have c2 := bx.cell 2 (v := .bool true) rfl
  go_wp2
  go_ret2
  exact ⟨rfl, hB⟩


set_option maxRecDepth 100000 in
set_option maxHeartbeats 4000000 in
theorem put_low1 (xid how low high : Int) (A : Option Addr) (c : Nat) (body : List Int) (w : World) (hx0 : 0 ≤ xid) (hx1 : xid < 4294967296) (hh0 : 0 ≤ how) (hh1 : how < 4294967296) (hl0 : 0 ≤ low) (hl1 : low < 4294967296) (hi0 : 0 ≤ high) (hi1 : high < 4294967296)
    (hr : Rd w A body) (hc : body.length ≤ c) (hn : body.length ≤ 1048000) (hk : how ∈ keysL) (h0 : ¬ how = 0) (ht : toldOf how = 0) (hb : body.length = 0) (hlo : ¬ low = 0) :
    Calls Tryd.prog 7 #[.agg #[.int .u32 xid, .int .u32 how, .int .u32 low, .int .u32 high, .slice A body.length c]] w fun e w' => e = .returned (.tuple #[.slice none 0 0, .int .i64 1]) ∧ Below w.heap.size w w' := by
  have b1 := Blk.new w 26 #[.int .u32 xid, .int .u32 how, .int .u32 low, .int .u32 high, .slice A body.length c]
  have hB : Below w.heap.size w (w.alloc (.cells #[.int .u32 xid, .int .u32 how, .int .u32 low, .int .u32 high, .slice A body.length c] 26)) := (Below.refl _ _).alloc (Nat.le_refl _) _
  have HK := Lib.hid hk
  have H0 := Lib.hid h0
  have HT := Lib.hid ht
  have HB := Lib.hid hb
  have HLO := Lib.hid hlo
  clear hk h0 ht hb hlo
  go_enter Tryd.func7, Tryd.ntmps7
  go_wp2_with fail
  generalize w.alloc (.cells #[.int .u32 xid, .int .u32 how, .int .u32 low, .int .u32 high, .slice A body.length c] 26) = W at *
  have hB := below_then hB (below_drawn (w1 := W.drew) (n := 1) rfl)
  have b1 := b1.drew
  have k1 := b1.cell 1 (v := .int .u32 how) rfl
  refine start_ (n := 10) (S := fun w' => w'.cell? ⟨w.heap.size, 1, none⟩ = some (.int .u32 how)) (ds := []) #[false, false, false, false, false, false, false, false, false, false] (by kernel_rfl) rfl rfl (k1) (fun hHeld => ?_)
  refine pure_ (i := 1) (N := some 9) (v := ?_) (a' := ?_) #[false, true, false, false, false, false, false, false, false, false] rfl rfl (by kernel_rfl) (fun _ _ _ h => h) (Or.inl ⟨by rfl, ?_⟩) ?_ ?_
  rotate_left
  · intro w'
    go_simp
    with_reducible rfl
  rotate_left
  · simp only [Act.put, List.setIfInBounds_toArray, List.set_cons_zero, List.set_cons_succ, i64_w, i32_w]
    rfl
  refine take_ (i := 2) (N := some 10) (v := ?_) (a' := ?_) #[false, true, true, false, false, false, false, false, false, false] rfl rfl (by kernel_rfl) (fun _ _ _ h => h) (Or.inl ⟨by rfl, ?_⟩) hHeld ?_ ?_
  rotate_left
  · intro w' s0
    go_simp
    with_reducible rfl
  rotate_left
  · simp only [Act.put, List.setIfInBounds_toArray, List.set_cons_zero, List.set_cons_succ, i64_w, i32_w]
    rfl
  refine join_ (σ := Nat × (Nat → Nat) × Nat) 2 #[true, true, true, true, true, true, true, true, false, false] (fun s' => [(8, .map (some s'.1)), (11, .tuple #[.agg #[.slice (rowP s'.2.1 how) (rowN how) (rowN how), .int .i64 (toldOf how), .bool (decide (how = 0))], .bool (decide (how ∈ keysL))]), (7, .tuple #[.agg #[.slice (rowP s'.2.1 how) (rowN how) (rowN how), .int .i64 (toldOf how), .bool (decide (how = 0))], .bool (decide (how ∈ keysL))]), (12, .agg #[.slice (rowP s'.2.1 how) (rowN how) (rowN how), .int .i64 (toldOf how), .bool (decide (how = 0))]), (13, .bool (decide (how ∈ keysL))), (4, .pointer (some ⟨s'.2.2, 0, none⟩))]) (fun s' w' => w'.cell? ⟨w.heap.size, 1, none⟩ = some (.int .u32 how) ∧ Below w.heap.size w w' ∧ Blk w' w.heap.size 26 #[.int .u32 xid, .int .u32 how, .int .u32 low, .int .u32 high, .slice A body.length c] ∧ Blk w' s'.2.2 68 #[.slice none 0 0, .int .i64 0, .bool false] ∧ w.heap.size < s'.2.2 ∧ NumsAt w' s'.2.1 ∧ (∀ k ∈ keysL, s'.2.1 (ixOf k) ≠ s'.2.2)) ?_ ?_
  rotate_left
  · intro hCont
    refine two_ (i := 0) (j := 7) (Ni := some 8) (Nj := some 4) #[true, true, true, false, false, false, false, false, false, false] #[false, true, true, false, false, false, false, true, false, false] rfl rfl rfl rfl (by kernel_rfl) (by decide) (by decide) (fun K hK => ?_) (fun K hK => ?_)
    · skip
      refine goes_ Tryd.func29 (by kernel_rfl) rfl #[] (by rfl) rfl rfl (by simp only [List.map_toArray, List.map_cons, List.map_nil]) ?_
      with_reducible refine (rows_all _).mono ?_
      rintro e w3 ⟨b, g, rfl, hbb, hgk, hM, hN, hbx⟩
      refine ⟨_, rfl, ?_⟩
      have k1 := cell_later hbx k1
      have b1 := b1.below hbx
      have hB := below_then hB hbx
      refine hK.out _ _ (k1) (fun hHeld => ?_)
      clear hK K
      refine norm_ (a' := ?_) ?_ ?_
      rotate_left
      · show Act.put _ (some 8) _ = _
        simp only [Act.put, List.setIfInBounds_toArray, List.set_cons_zero, List.set_cons_succ, i64_w, i32_w]
        rfl
      refine two_ (i := 3) (j := 7) (Ni := some 11) (Nj := some 4) #[true, true, true, true, false, false, false, false, false, false] #[true, true, true, false, false, false, false, true, false, false] rfl rfl rfl rfl (by kernel_rfl) (by decide) (by decide) (fun K hK => ?_) (fun K hK => ?_)
      · skip
        have hq := look2 hM hh0 hh1
        rw [rowK_or, in_keys] at hq
        refine value_ (w1 := ?_) (v := ?_) (by rfl) rfl ?_ ?_
        rotate_left 2
        · go_simp
          constructor
          · rfl
          · rfl
        clear hq
        refine hK.out _ _ (k1) (fun hHeld => ?_)
        clear hK K
        refine norm_ (a' := ?_) ?_ ?_
        rotate_left
        · show Act.put _ (some 11) _ = _
          simp only [Act.put, List.setIfInBounds_toArray, List.set_cons_zero, List.set_cons_succ, i64_w, i32_w]
          rfl
        refine pure_ (i := 4) (N := some 7) (v := ?_) (a' := ?_) #[true, true, true, true, true, false, false, false, false, false] rfl rfl (by kernel_rfl) (fun _ _ _ h => h) (Or.inl ⟨by rfl, ?_⟩) ?_ ?_
        rotate_left
        · intro w'
          go_simp
          with_reducible rfl
        rotate_left
        · simp only [Act.put, List.setIfInBounds_toArray, List.set_cons_zero, List.set_cons_succ, i64_w, i32_w]
          rfl
        refine pure_ (i := 5) (N := some 12) (v := ?_) (a' := ?_) #[true, true, true, true, true, true, false, false, false, false] rfl rfl (by kernel_rfl) (fun _ _ _ h => h) (Or.inl ⟨by rfl, ?_⟩) ?_ ?_
        rotate_left
        · intro w'
          go_simp
          with_reducible rfl
        rotate_left
        · simp only [Act.put, List.setIfInBounds_toArray, List.set_cons_zero, List.set_cons_succ, i64_w, i32_w]
          rfl
        refine pure_ (i := 6) (N := some 13) (v := ?_) (a' := ?_) #[true, true, true, true, true, true, true, false, false, false] rfl rfl (by kernel_rfl) (fun _ _ _ h => h) (Or.inl ⟨by rfl, ?_⟩) ?_ ?_
        rotate_left
        · intro w'
          go_simp
          with_reducible rfl
        rotate_left
        · simp only [Act.put, List.setIfInBounds_toArray, List.set_cons_zero, List.set_cons_succ, i64_w, i32_w]
          rfl
        refine one_ (i := 7) (N := some 4) #[true, true, true, true, true, true, true, true, false, false] rfl rfl (by kernel_rfl) (by decide) (fun K hK => ?_)
        refine value_ (w1 := ?_) (v := ?_) (by rfl) rfl ?_ ?_
        rotate_left 2
        · go_simp
          constructor
          · rfl
          · rfl
        have hlt : w.heap.size < w3.heap.size := b1.lt
        have bx := Blk.new w3 68 #[.slice none 0 0, .int .i64 0, .bool false]
        have b1 := b1.alloc (.cells #[.slice none 0 0, .int .i64 0, .bool false] 68)
        have k1 := cell_old k1 (.cells #[.slice none 0 0, .int .i64 0, .bool false] 68)
        have hB := hB.alloc hB.size (.cells #[.slice none 0 0, .int .i64 0, .bool false] 68)
        have hpg : ∀ k ∈ keysL, g (ixOf k) ≠ w3.heap.size := fun k hk => by have := (hN k hk).lt; omega
        have hM := hM.below ((Below.refl _ w3).alloc (Nat.le_refl _) (.cells #[.slice none 0 0, .int .i64 0, .bool false] 68))
        have hN := hN.below ((Below.refl _ w3).alloc (Nat.le_refl _) (.cells #[.slice none 0 0, .int .i64 0, .bool false] 68))
        refine hK.out _ _ (k1) (fun hHeld => ?_)
        clear hK K
        refine norm_ (a' := ?_) ?_ ?_
        rotate_left
        · show Act.put _ (some 4) _ = _
          simp only [Act.put, List.setIfInBounds_toArray, List.set_cons_zero, List.set_cons_succ, i64_w, i32_w]
          rfl
        exact norm_ (by simp only [putAll, Act.put, List.setIfInBounds_toArray, List.set_cons_zero, List.set_cons_succ]) (hCont (b, g, w3.heap.size) _ ⟨k1, hB, b1, bx, hlt, hN, hpg⟩)
      · skip
        refine value_ (w1 := ?_) (v := ?_) (by rfl) rfl ?_ ?_
        rotate_left 2
        · go_simp
          constructor
          · rfl
          · rfl
        have hlt : w.heap.size < w3.heap.size := b1.lt
        have bx := Blk.new w3 68 #[.slice none 0 0, .int .i64 0, .bool false]
        have b1 := b1.alloc (.cells #[.slice none 0 0, .int .i64 0, .bool false] 68)
        have k1 := cell_old k1 (.cells #[.slice none 0 0, .int .i64 0, .bool false] 68)
        have hB := hB.alloc hB.size (.cells #[.slice none 0 0, .int .i64 0, .bool false] 68)
        have hpg : ∀ k ∈ keysL, g (ixOf k) ≠ w3.heap.size := fun k hk => by have := (hN k hk).lt; omega
        have hM := hM.below ((Below.refl _ w3).alloc (Nat.le_refl _) (.cells #[.slice none 0 0, .int .i64 0, .bool false] 68))
        have hN := hN.below ((Below.refl _ w3).alloc (Nat.le_refl _) (.cells #[.slice none 0 0, .int .i64 0, .bool false] 68))
        refine hK.out _ _ (k1) (fun hHeld => ?_)
        clear hK K
        refine norm_ (a' := ?_) ?_ ?_
        rotate_left
        · show Act.put _ (some 4) _ = _
          simp only [Act.put, List.setIfInBounds_toArray, List.set_cons_zero, List.set_cons_succ, i64_w, i32_w]
          rfl
        refine one_ (i := 3) (N := some 11) #[true, true, true, true, false, false, false, true, false, false] rfl rfl (by kernel_rfl) (by decide) (fun K hK => ?_)
        have hq := look2 hM hh0 hh1
        rw [rowK_or, in_keys] at hq
        refine value_ (w1 := ?_) (v := ?_) (by rfl) rfl ?_ ?_
        rotate_left 2
        · go_simp
          constructor
          · rfl
          · rfl
        clear hq
        refine hK.out _ _ (k1) (fun hHeld => ?_)
        clear hK K
        refine norm_ (a' := ?_) ?_ ?_
        rotate_left
        · show Act.put _ (some 11) _ = _
          simp only [Act.put, List.setIfInBounds_toArray, List.set_cons_zero, List.set_cons_succ, i64_w, i32_w]
          rfl
        refine pure_ (i := 4) (N := some 7) (v := ?_) (a' := ?_) #[true, true, true, true, true, false, false, true, false, false] rfl rfl (by kernel_rfl) (fun _ _ _ h => h) (Or.inl ⟨by rfl, ?_⟩) ?_ ?_
        rotate_left
        · intro w'
          go_simp
          with_reducible rfl
        rotate_left
        · simp only [Act.put, List.setIfInBounds_toArray, List.set_cons_zero, List.set_cons_succ, i64_w, i32_w]
          rfl
        refine pure_ (i := 5) (N := some 12) (v := ?_) (a' := ?_) #[true, true, true, true, true, true, false, true, false, false] rfl rfl (by kernel_rfl) (fun _ _ _ h => h) (Or.inl ⟨by rfl, ?_⟩) ?_ ?_
        rotate_left
        · intro w'
          go_simp
          with_reducible rfl
        rotate_left
        · simp only [Act.put, List.setIfInBounds_toArray, List.set_cons_zero, List.set_cons_succ, i64_w, i32_w]
          rfl
        refine pure_ (i := 6) (N := some 13) (v := ?_) (a' := ?_) #[true, true, true, true, true, true, true, true, false, false] rfl rfl (by kernel_rfl) (fun _ _ _ h => h) (Or.inl ⟨by rfl, ?_⟩) ?_ ?_
        rotate_left
        · intro w'
          go_simp
          with_reducible rfl
        rotate_left
        · simp only [Act.put, List.setIfInBounds_toArray, List.set_cons_zero, List.set_cons_succ, i64_w, i32_w]
          rfl
        exact norm_ (by simp only [putAll, Act.put, List.setIfInBounds_toArray, List.set_cons_zero, List.set_cons_succ]) (hCont (b, g, w3.heap.size) _ ⟨k1, hB, b1, bx, hlt, hN, hpg⟩)
    · skip
      refine value_ (w1 := ?_) (v := ?_) (by rfl) rfl ?_ ?_
      rotate_left 2
      · go_simp
        constructor
        · rfl
        · rfl
      have hlt : w.heap.size < W.heap.size := b1.lt
      have bx := Blk.new W.drew 68 #[.slice none 0 0, .int .i64 0, .bool false]
      have b1 := b1.alloc (.cells #[.slice none 0 0, .int .i64 0, .bool false] 68)
      have k1 := cell_old k1 (.cells #[.slice none 0 0, .int .i64 0, .bool false] 68)
      have hB := hB.alloc hB.size (.cells #[.slice none 0 0, .int .i64 0, .bool false] 68)
      refine hK.out _ _ (k1) (fun hHeld => ?_)
      clear hK K
      refine norm_ (a' := ?_) ?_ ?_
      rotate_left
      · show Act.put _ (some 4) _ = _
        simp only [Act.put, List.setIfInBounds_toArray, List.set_cons_zero, List.set_cons_succ, i64_w, i32_w]
        rfl
      refine one_ (i := 0) (N := some 8) #[true, true, true, false, false, false, false, true, false, false] rfl rfl (by kernel_rfl) (by decide) (fun K hK => ?_)
      refine goes_ Tryd.func29 (by kernel_rfl) rfl #[] (by rfl) rfl rfl (by simp only [List.map_toArray, List.map_cons, List.map_nil]) ?_
      with_reducible refine (rows_all _).mono ?_
      rintro e w3 ⟨b, g, rfl, hbb, hgk, hM, hN, hbx⟩
      refine ⟨_, rfl, ?_⟩
      have k1 := cell_later hbx k1
      have b1 := b1.below hbx
      have bx := bx.below hbx
      have hpg : ∀ k ∈ keysL, g (ixOf k) ≠ W.drew.heap.size := fun k hk => by have := hgk k hk; simp at hbb ⊢; omega
      have hB := below_then hB hbx
      refine hK.out _ _ (k1) (fun hHeld => ?_)
      clear hK K
      refine norm_ (a' := ?_) ?_ ?_
      rotate_left
      · show Act.put _ (some 8) _ = _
        simp only [Act.put, List.setIfInBounds_toArray, List.set_cons_zero, List.set_cons_succ, i64_w, i32_w]
        rfl
      refine one_ (i := 3) (N := some 11) #[true, true, true, true, false, false, false, true, false, false] rfl rfl (by kernel_rfl) (by decide) (fun K hK => ?_)
      have hq := look2 hM hh0 hh1
      rw [rowK_or, in_keys] at hq
      refine value_ (w1 := ?_) (v := ?_) (by rfl) rfl ?_ ?_
      rotate_left 2
      · go_simp
        constructor
        · rfl
        · rfl
      clear hq
      refine hK.out _ _ (k1) (fun hHeld => ?_)
      clear hK K
      refine norm_ (a' := ?_) ?_ ?_
      rotate_left
      · show Act.put _ (some 11) _ = _
        simp only [Act.put, List.setIfInBounds_toArray, List.set_cons_zero, List.set_cons_succ, i64_w, i32_w]
        rfl
      refine pure_ (i := 4) (N := some 7) (v := ?_) (a' := ?_) #[true, true, true, true, true, false, false, true, false, false] rfl rfl (by kernel_rfl) (fun _ _ _ h => h) (Or.inl ⟨by rfl, ?_⟩) ?_ ?_
      rotate_left
      · intro w'
        go_simp
        with_reducible rfl
      rotate_left
      · simp only [Act.put, List.setIfInBounds_toArray, List.set_cons_zero, List.set_cons_succ, i64_w, i32_w]
        rfl
      refine pure_ (i := 5) (N := some 12) (v := ?_) (a' := ?_) #[true, true, true, true, true, true, false, true, false, false] rfl rfl (by kernel_rfl) (fun _ _ _ h => h) (Or.inl ⟨by rfl, ?_⟩) ?_ ?_
      rotate_left
      · intro w'
        go_simp
        with_reducible rfl
      rotate_left
      · simp only [Act.put, List.setIfInBounds_toArray, List.set_cons_zero, List.set_cons_succ, i64_w, i32_w]
        rfl
      refine pure_ (i := 6) (N := some 13) (v := ?_) (a' := ?_) #[true, true, true, true, true, true, true, true, false, false] rfl rfl (by kernel_rfl) (fun _ _ _ h => h) (Or.inl ⟨by rfl, ?_⟩) ?_ ?_
      rotate_left
      · intro w'
        go_simp
        with_reducible rfl
      rotate_left
      · simp only [Act.put, List.setIfInBounds_toArray, List.set_cons_zero, List.set_cons_succ, i64_w, i32_w]
        rfl
      exact norm_ (by simp only [putAll, Act.put, List.setIfInBounds_toArray, List.set_cons_zero, List.set_cons_succ]) (hCont (b, g, W.heap.size) _ ⟨k1, hB, b1, bx, hlt, hN, hpg⟩)
  clear hB b1
  rintro ⟨b, g, px⟩ w' ⟨k1, hB, b1, bx, hpx, hN, hpg⟩
  have hHeld : w'.cell? ⟨w.heap.size, 1, none⟩ = some (.int .u32 how) := k1
  refine norm_ (a' := ?_) ?_ ?_
  rotate_left
  · simp only [putAll, Act.put, List.setIfInBounds_toArray, List.set_cons_zero, List.set_cons_succ]
    rfl
  refine one_ (i := 8) (N := none) #[true, true, true, true, true, true, true, true, true, false] rfl rfl (by kernel_rfl) (by decide) (fun K hK => ?_)
  have c0 := bx.cell 0 (v := .slice none 0 0) rfl
  have c1 := bx.cell 1 (v := .int .i64 0) rfl
  have c2 := bx.cell 2 (v := .bool false) rfl
  have f0 := bx.frozen 0
  have f1 := bx.frozen 1
  have f2 := bx.frozen 2
  refine skip_ (w1 := ?_) (by rfl) rfl ?_ ?_
  rotate_left
  · go_simp
    rfl
  have bx := ((bx.set_ 0 (.slice (rowP g how) (rowN how) (rowN how))).set_ 1 (.int .i64 (toldOf how))).set_ 2 (.bool (decide (how = 0)))
  have b1 := ((b1.far (p := ⟨px, 0, none⟩) (Nat.ne_of_lt hpx) (.slice (rowP g how) (rowN how) (rowN how))).far (p := ⟨px, 1, none⟩) (Nat.ne_of_lt hpx) (.int .i64 (toldOf how))).far (p := ⟨px, 2, none⟩) (Nat.ne_of_lt hpx) (.bool (decide (how = 0)))
  have hN := hN.set3 px (.slice (rowP g how) (rowN how) (rowN how)) (.int .i64 (toldOf how)) (.bool (decide (how = 0))) hpg
  have hB := ((hB.setCell (p := ⟨px, 0, none⟩) (Nat.le_of_lt hpx) (.slice (rowP g how) (rowN how) (rowN how))).setCell (p := ⟨px, 1, none⟩) (Nat.le_of_lt hpx) (.int .i64 (toldOf how))).setCell (p := ⟨px, 2, none⟩) (Nat.le_of_lt hpx) (.bool (decide (how = 0)))
  have k1 := b1.cell 1 (v := .int .u32 how) rfl
  clear c0 c1 c2 f0 f1 f2
  refine hK.out _ _ (k1) (fun hHeld => ?_)
  clear hK K
  refine pure_ (i := 9) (N := some 5) (v := ?_) (a' := ?_) #[true, true, true, true, true, true, true, true, true, true] rfl rfl (by kernel_rfl) (fun _ _ _ h => h) (Or.inl ⟨by rfl, ?_⟩) ?_ ?_
  rotate_left
  · intro w'
    go_simp
    with_reducible rfl
  rotate_left
  · simp only [Act.put, List.setIfInBounds_toArray, List.set_cons_zero, List.set_cons_succ, i64_w, i32_w]
    rfl
  refine done_ (by kernel_rfl) ?_
  have bx : Blk _ px 68 #[.slice (rowP g how) (rowN how) (rowN how), .int .i64 (toldOf how), .bool (decide (how = 0))] := bx
  generalize ((w'.setCell ⟨px, 0, none⟩ (.slice (rowP g how) (rowN how) (rowN how))).setCell ⟨px, 1, none⟩ (.int .i64 (toldOf how))).setCell ⟨px, 2, none⟩ (.bool (decide (how = 0))) = W2 at *
  clear hHeld
  rw [decide_eq_true HK.out, decide_eq_false H0.out, HT.out]
  rw [decide_eq_false H0.out, HT.out] at bx
  have t0 : ¬ 0 < body.length := by have := HB.out; omega
  have t1 : (low != 0) = true := bne_iff_ne.2 HLO.out
  have k0 := b1.cell 0 (v := .int .u32 xid) rfl
  have k2 := b1.cell 2 (v := .int .u32 low) rfl
  have k3 := b1.cell 3 (v := .int .u32 high) rfl
  have k4 := b1.cell 4 (v := .slice A body.length c) rfl
  have c0 := bx.cell 0 (v := .slice (rowP g how) (rowN how) (rowN how)) rfl
  have c1 := bx.cell 1 (v := .int .i64 0) rfl
  have c2 := bx.cell 2 (v := .bool false) rfl
  go_wp2
  go_ret2
  exact ⟨rfl, hB⟩


set_option maxRecDepth 100000 in
set_option maxHeartbeats 4000000 in
theorem put_high0 (xid how low high : Int) (A : Option Addr) (c : Nat) (body : List Int) (w : World) (hx0 : 0 ≤ xid) (hx1 : xid < 4294967296) (hh0 : 0 ≤ how) (hh1 : how < 4294967296) (hl0 : 0 ≤ low) (hl1 : low < 4294967296) (hi0 : 0 ≤ high) (hi1 : high < 4294967296)
    (hr : Rd w A body) (hc : body.length ≤ c) (hn : body.length ≤ 1048000) (hk : how ∈ keysL) (h0 : how = 0) (ht : toldOf how = 0) (hlo : low = 0) (hhi : ¬ high = 0) :
    Calls Tryd.prog 7 #[.agg #[.int .u32 xid, .int .u32 how, .int .u32 low, .int .u32 high, .slice A body.length c]] w fun e w' => e = .returned (.tuple #[.slice none 0 0, .int .i64 1]) ∧ Below w.heap.size w w' := by
  have b1 := Blk.new w 26 #[.int .u32 xid, .int .u32 how, .int .u32 low, .int .u32 high, .slice A body.length c]
  have hB : Below w.heap.size w (w.alloc (.cells #[.int .u32 xid, .int .u32 how, .int .u32 low, .int .u32 high, .slice A body.length c] 26)) := (Below.refl _ _).alloc (Nat.le_refl _) _
  have HK := Lib.hid hk
  have H0 := Lib.hid h0
  have HT := Lib.hid ht
  have HLO := Lib.hid hlo
  have HHI := Lib.hid hhi
  clear hk h0 ht hlo hhi
  go_enter Tryd.func7, Tryd.ntmps7
  go_wp2_with fail
  generalize w.alloc (.cells #[.int .u32 xid, .int .u32 how, .int .u32 low, .int .u32 high, .slice A body.length c] 26) = W at *
  have hB := below_then hB (below_drawn (w1 := W.drew) (n := 1) rfl)
  have b1 := b1.drew
  have k1 := b1.cell 1 (v := .int .u32 how) rfl
  refine start_ (n := 10) (S := fun w' => w'.cell? ⟨w.heap.size, 1, none⟩ = some (.int .u32 how)) (ds := []) #[false, false, false, false, false, false, false, false, false, false] (by kernel_rfl) rfl rfl (k1) (fun hHeld => ?_)
  refine pure_ (i := 1) (N := some 9) (v := ?_) (a' := ?_) #[false, true, false, false, false, false, false, false, false, false] rfl rfl (by kernel_rfl) (fun _ _ _ h => h) (Or.inl ⟨by rfl, ?_⟩) ?_ ?_
  rotate_left
  · intro w'
    go_simp
    with_reducible rfl
  rotate_left
  · simp only [Act.put, List.setIfInBounds_toArray, List.set_cons_zero, List.set_cons_succ, i64_w, i32_w]
    rfl
  refine take_ (i := 2) (N := some 10) (v := ?_) (a' := ?_) #[false, true, true, false, false, false, false, false, false, false] rfl rfl (by kernel_rfl) (fun _ _ _ h => h) (Or.inl ⟨by rfl, ?_⟩) hHeld ?_ ?_
  rotate_left
  · intro w' s0
    go_simp
    with_reducible rfl
  rotate_left
  · simp only [Act.put, List.setIfInBounds_toArray, List.set_cons_zero, List.set_cons_succ, i64_w, i32_w]
    rfl
  refine join_ (σ := Nat × (Nat → Nat) × Nat) 2 #[true, true, true, true, true, true, true, true, false, false] (fun s' => [(8, .map (some s'.1)), (11, .tuple #[.agg #[.slice (rowP s'.2.1 how) (rowN how) (rowN how), .int .i64 (toldOf how), .bool (decide (how = 0))], .bool (decide (how ∈ keysL))]), (7, .tuple #[.agg #[.slice (rowP s'.2.1 how) (rowN how) (rowN how), .int .i64 (toldOf how), .bool (decide (how = 0))], .bool (decide (how ∈ keysL))]), (12, .agg #[.slice (rowP s'.2.1 how) (rowN how) (rowN how), .int .i64 (toldOf how), .bool (decide (how = 0))]), (13, .bool (decide (how ∈ keysL))), (4, .pointer (some ⟨s'.2.2, 0, none⟩))]) (fun s' w' => w'.cell? ⟨w.heap.size, 1, none⟩ = some (.int .u32 how) ∧ Below w.heap.size w w' ∧ Blk w' w.heap.size 26 #[.int .u32 xid, .int .u32 how, .int .u32 low, .int .u32 high, .slice A body.length c] ∧ Blk w' s'.2.2 68 #[.slice none 0 0, .int .i64 0, .bool false] ∧ w.heap.size < s'.2.2 ∧ NumsAt w' s'.2.1 ∧ (∀ k ∈ keysL, s'.2.1 (ixOf k) ≠ s'.2.2)) ?_ ?_
  rotate_left
  · intro hCont
    refine two_ (i := 0) (j := 7) (Ni := some 8) (Nj := some 4) #[true, true, true, false, false, false, false, false, false, false] #[false, true, true, false, false, false, false, true, false, false] rfl rfl rfl rfl (by kernel_rfl) (by decide) (by decide) (fun K hK => ?_) (fun K hK => ?_)
    · skip
      refine goes_ Tryd.func29 (by kernel_rfl) rfl #[] (by rfl) rfl rfl (by simp only [List.map_toArray, List.map_cons, List.map_nil]) ?_
      with_reducible refine (rows_all _).mono ?_
      rintro e w3 ⟨b, g, rfl, hbb, hgk, hM, hN, hbx⟩
      refine ⟨_, rfl, ?_⟩
      have k1 := cell_later hbx k1
      have b1 := b1.below hbx
      have hB := below_then hB hbx
      refine hK.out _ _ (k1) (fun hHeld => ?_)
      clear hK K
      refine norm_ (a' := ?_) ?_ ?_
      rotate_left
      · show Act.put _ (some 8) _ = _
        simp only [Act.put, List.setIfInBounds_toArray, List.set_cons_zero, List.set_cons_succ, i64_w, i32_w]
        rfl
      refine two_ (i := 3) (j := 7) (Ni := some 11) (Nj := some 4) #[true, true, true, true, false, false, false, false, false, false] #[true, true, true, false, false, false, false, true, false, false] rfl rfl rfl rfl (by kernel_rfl) (by decide) (by decide) (fun K hK => ?_) (fun K hK => ?_)
      · skip
        have hq := look2 hM hh0 hh1
        rw [rowK_or, in_keys] at hq
        refine value_ (w1 := ?_) (v := ?_) (by rfl) rfl ?_ ?_
        rotate_left 2
        · go_simp
          constructor
          · rfl
          · rfl
        clear hq
        refine hK.out _ _ (k1) (fun hHeld => ?_)
        clear hK K
        refine norm_ (a' := ?_) ?_ ?_
        rotate_left
        · show Act.put _ (some 11) _ = _
          simp only [Act.put, List.setIfInBounds_toArray, List.set_cons_zero, List.set_cons_succ, i64_w, i32_w]
          rfl
        refine pure_ (i := 4) (N := some 7) (v := ?_) (a' := ?_) #[true, true, true, true, true, false, false, false, false, false] rfl rfl (by kernel_rfl) (fun _ _ _ h => h) (Or.inl ⟨by rfl, ?_⟩) ?_ ?_
        rotate_left
        · intro w'
          go_simp
          with_reducible rfl
        rotate_left
        · simp only [Act.put, List.setIfInBounds_toArray, List.set_cons_zero, List.set_cons_succ, i64_w, i32_w]
          rfl
        refine pure_ (i := 5) (N := some 12) (v := ?_) (a' := ?_) #[true, true, true, true, true, true, false, false, false, false] rfl rfl (by kernel_rfl) (fun _ _ _ h => h) (Or.inl ⟨by rfl, ?_⟩) ?_ ?_
        rotate_left
        · intro w'
          go_simp
          with_reducible rfl
        rotate_left
        · simp only [Act.put, List.setIfInBounds_toArray, List.set_cons_zero, List.set_cons_succ, i64_w, i32_w]
          rfl
        refine pure_ (i := 6) (N := some 13) (v := ?_) (a' := ?_) #[true, true, true, true, true, true, true, false, false, false] rfl rfl (by kernel_rfl) (fun _ _ _ h => h) (Or.inl ⟨by rfl, ?_⟩) ?_ ?_
        rotate_left
        · intro w'
          go_simp
          with_reducible rfl
        rotate_left
        · simp only [Act.put, List.setIfInBounds_toArray, List.set_cons_zero, List.set_cons_succ, i64_w, i32_w]
          rfl
        refine one_ (i := 7) (N := some 4) #[true, true, true, true, true, true, true, true, false, false] rfl rfl (by kernel_rfl) (by decide) (fun K hK => ?_)
        refine value_ (w1 := ?_) (v := ?_) (by rfl) rfl ?_ ?_
        rotate_left 2
        · go_simp
          constructor
          · rfl
          · rfl
        have hlt : w.heap.size < w3.heap.size := b1.lt
        have bx := Blk.new w3 68 #[.slice none 0 0, .int .i64 0, .bool false]
        have b1 := b1.alloc (.cells #[.slice none 0 0, .int .i64 0, .bool false] 68)
        have k1 := cell_old k1 (.cells #[.slice none 0 0, .int .i64 0, .bool false] 68)
        have hB := hB.alloc hB.size (.cells #[.slice none 0 0, .int .i64 0, .bool false] 68)
        have hpg : ∀ k ∈ keysL, g (ixOf k) ≠ w3.heap.size := fun k hk => by have := (hN k hk).lt; omega
        have hM := hM.below ((Below.refl _ w3).alloc (Nat.le_refl _) (.cells #[.slice none 0 0, .int .i64 0, .bool false] 68))
        have hN := hN.below ((Below.refl _ w3).alloc (Nat.le_refl _) (.cells #[.slice none 0 0, .int .i64 0, .bool false] 68))
        refine hK.out _ _ (k1) (fun hHeld => ?_)
        clear hK K
        refine norm_ (a' := ?_) ?_ ?_
        rotate_left
        · show Act.put _ (some 4) _ = _
          simp only [Act.put, List.setIfInBounds_toArray, List.set_cons_zero, List.set_cons_succ, i64_w, i32_w]
          rfl
        exact norm_ (by simp only [putAll, Act.put, List.setIfInBounds_toArray, List.set_cons_zero, List.set_cons_succ]) (hCont (b, g, w3.heap.size) _ ⟨k1, hB, b1, bx, hlt, hN, hpg⟩)
      · skip
        refine value_ (w1 := ?_) (v := ?_) (by rfl) rfl ?_ ?_
        rotate_left 2
        · go_simp
          constructor
          · rfl
          · rfl
        have hlt : w.heap.size < w3.heap.size := b1.lt
        have bx := Blk.new w3 68 #[.slice none 0 0, .int .i64 0, .bool false]
        have b1 := b1.alloc (.cells #[.slice none 0 0, .int .i64 0, .bool false] 68)
        have k1 := cell_old k1 (.cells #[.slice none 0 0, .int .i64 0, .bool false] 68)
        have hB := hB.alloc hB.size (.cells #[.slice none 0 0, .int .i64 0, .bool false] 68)
        have hpg : ∀ k ∈ keysL, g (ixOf k) ≠ w3.heap.size := fun k hk => by have := (hN k hk).lt; omega
        have hM := hM.below ((Below.refl _ w3).alloc (Nat.le_refl _) (.cells #[.slice none 0 0, .int .i64 0, .bool false] 68))
        have hN := hN.below ((Below.refl _ w3).alloc (Nat.le_refl _) (.cells #[.slice none 0 0, .int .i64 0, .bool false] 68))
        refine hK.out _ _ (k1) (fun hHeld => ?_)
        clear hK K
        refine norm_ (a' := ?_) ?_ ?_
        rotate_left
        · show Act.put _ (some 4) _ = _
          simp only [Act.put, List.setIfInBounds_toArray, List.set_cons_zero, List.set_cons_succ, i64_w, i32_w]
          rfl
        refine one_ (i := 3) (N := some 11) #[true, true, true, true, false, false, false, true, false, false] rfl rfl (by kernel_rfl) (by decide) (fun K hK => ?_)
        have hq := look2 hM hh0 hh1
        rw [rowK_or, in_keys] at hq
        refine value_ (w1 := ?_) (v := ?_) (by rfl) rfl ?_ ?_
        rotate_left 2
        · go_simp
          constructor
          · rfl
          · rfl
        clear hq
        refine hK.out _ _ (k1) (fun hHeld => ?_)
        clear hK K
        refine norm_ (a' := ?_) ?_ ?_
        rotate_left
        · show Act.put _ (some 11) _ = _
          simp only [Act.put, List.setIfInBounds_toArray, List.set_cons_zero, List.set_cons_succ, i64_w, i32_w]
          rfl
        refine pure_ (i := 4) (N := some 7) (v := ?_) (a' := ?_) #[true, true, true, true, true, false, false, true, false, false] rfl rfl (by kernel_rfl) (fun _ _ _ h => h) (Or.inl ⟨by rfl, ?_⟩) ?_ ?_
        rotate_left
        · intro w'
          go_simp
          with_reducible rfl
        rotate_left
        · simp only [Act.put, List.setIfInBounds_toArray, List.set_cons_zero, List.set_cons_succ, i64_w, i32_w]
          rfl
        refine pure_ (i := 5) (N := some 12) (v := ?_) (a' := ?_) #[true, true, true, true, true, true, false, true, false, false] rfl rfl (by kernel_rfl) (fun _ _ _ h => h) (Or.inl ⟨by rfl, ?_⟩) ?_ ?_
        rotate_left
        · intro w'
          go_simp
          with_reducible rfl
        rotate_left
        · simp only [Act.put, List.setIfInBounds_toArray, List.set_cons_zero, List.set_cons_succ, i64_w, i32_w]
          rfl
        refine pure_ (i := 6) (N := some 13) (v := ?_) (a' := ?_) #[true, true, true, true, true, true, true, true, false, false] rfl rfl (by kernel_rfl) (fun _ _ _ h => h) (Or.inl ⟨by rfl, ?_⟩) ?_ ?_
        rotate_left
        · intro w'
          go_simp
          with_reducible rfl
        rotate_left
        · simp only [Act.put, List.setIfInBounds_toArray, List.set_cons_zero, List.set_cons_succ, i64_w, i32_w]
          rfl
        exact norm_ (by simp only [putAll, Act.put, List.setIfInBounds_toArray, List.set_cons_zero, List.set_cons_succ]) (hCont (b, g, w3.heap.size) _ ⟨k1, hB, b1, bx, hlt, hN, hpg⟩)
    · skip
      refine value_ (w1 := ?_) (v := ?_) (by rfl) rfl ?_ ?_
      rotate_left 2
      · go_simp
        constructor
        · rfl
        · rfl
      have hlt : w.heap.size < W.heap.size := b1.lt
      have bx := Blk.new W.drew 68 #[.slice none 0 0, .int .i64 0, .bool false]
      have b1 := b1.alloc (.cells #[.slice none 0 0, .int .i64 0, .bool false] 68)
      have k1 := cell_old k1 (.cells #[.slice none 0 0, .int .i64 0, .bool false] 68)
      have hB := hB.alloc hB.size (.cells #[.slice none 0 0, .int .i64 0, .bool false] 68)
      refine hK.out _ _ (k1) (fun hHeld => ?_)
      clear hK K
      refine norm_ (a' := ?_) ?_ ?_
      rotate_left
      · show Act.put _ (some 4) _ = _
        simp only [Act.put, List.setIfInBounds_toArray, List.set_cons_zero, List.set_cons_succ, i64_w, i32_w]
        rfl
      refine one_ (i := 0) (N := some 8) #[true, true, true, false, false, false, false, true, false, false] rfl rfl (by kernel_rfl) (by decide) (fun K hK => ?_)
      refine goes_ Tryd.func29 (by kernel_rfl) rfl #[] (by rfl) rfl rfl (by simp only [List.map_toArray, List.map_cons, List.map_nil]) ?_
      with_reducible refine (rows_all _).mono ?_
      rintro e w3 ⟨b, g, rfl, hbb, hgk, hM, hN, hbx⟩
      refine ⟨_, rfl, ?_⟩
      have k1 := cell_later hbx k1
      have b1 := b1.below hbx
      have bx := bx.below hbx
      have hpg : ∀ k ∈ keysL, g (ixOf k) ≠ W.drew.heap.size := fun k hk => by have := hgk k hk; simp at hbb ⊢; omega
      have hB := below_then hB hbx
      refine hK.out _ _ (k1) (fun hHeld => ?_)
      clear hK K
      refine norm_ (a' := ?_) ?_ ?_
      rotate_left
      · show Act.put _ (some 8) _ = _
        simp only [Act.put, List.setIfInBounds_toArray, List.set_cons_zero, List.set_cons_succ, i64_w, i32_w]
        rfl
      refine one_ (i := 3) (N := some 11) #[true, true, true, true, false, false, false, true, false, false] rfl rfl (by kernel_rfl) (by decide) (fun K hK => ?_)
      have hq := look2 hM hh0 hh1
      rw [rowK_or, in_keys] at hq
      refine value_ (w1 := ?_) (v := ?_) (by rfl) rfl ?_ ?_
      rotate_left 2
      · go_simp
        constructor
        · rfl
        · rfl
      clear hq
      refine hK.out _ _ (k1) (fun hHeld => ?_)
      clear hK K
      refine norm_ (a' := ?_) ?_ ?_
      rotate_left
      · show Act.put _ (some 11) _ = _
        simp only [Act.put, List.setIfInBounds_toArray, List.set_cons_zero, List.set_cons_succ, i64_w, i32_w]
        rfl
      refine pure_ (i := 4) (N := some 7) (v := ?_) (a' := ?_) #[true, true, true, true, true, false, false, true, false, false] rfl rfl (by kernel_rfl) (fun _ _ _ h => h) (Or.inl ⟨by rfl, ?_⟩) ?_ ?_
      rotate_left
      · intro w'
        go_simp
        with_reducible rfl
      rotate_left
      · simp only [Act.put, List.setIfInBounds_toArray, List.set_cons_zero, List.set_cons_succ, i64_w, i32_w]
        rfl
      refine pure_ (i := 5) (N := some 12) (v := ?_) (a' := ?_) #[true, true, true, true, true, true, false, true, false, false] rfl rfl (by kernel_rfl) (fun _ _ _ h => h) (Or.inl ⟨by rfl, ?_⟩) ?_ ?_
      rotate_left
      · intro w'
        go_simp
        with_reducible rfl
      rotate_left
      · simp only [Act.put, List.setIfInBounds_toArray, List.set_cons_zero, List.set_cons_succ, i64_w, i32_w]
        rfl
      refine pure_ (i := 6) (N := some 13) (v := ?_) (a' := ?_) #[true, true, true, true, true, true, true, true, false, false] rfl rfl (by kernel_rfl) (fun _ _ _ h => h) (Or.inl ⟨by rfl, ?_⟩) ?_ ?_
      rotate_left
      · intro w'
        go_simp
        with_reducible rfl
      rotate_left
      · simp only [Act.put, List.setIfInBounds_toArray, List.set_cons_zero, List.set_cons_succ, i64_w, i32_w]
        rfl
      exact norm_ (by simp only [putAll, Act.put, List.setIfInBounds_toArray, List.set_cons_zero, List.set_cons_succ]) (hCont (b, g, W.heap.size) _ ⟨k1, hB, b1, bx, hlt, hN, hpg⟩)
  clear hB b1
  rintro ⟨b, g, px⟩ w' ⟨k1, hB, b1, bx, hpx, hN, hpg⟩
  have hHeld : w'.cell? ⟨w.heap.size, 1, none⟩ = some (.int .u32 how) := k1
  refine norm_ (a' := ?_) ?_ ?_
  rotate_left
  · simp only [putAll, Act.put, List.setIfInBounds_toArray, List.set_cons_zero, List.set_cons_succ]
    rfl
  refine one_ (i := 8) (N := none) #[true, true, true, true, true, true, true, true, true, false] rfl rfl (by kernel_rfl) (by decide) (fun K hK => ?_)
  have c0 := bx.cell 0 (v := .slice none 0 0) rfl
  have c1 := bx.cell 1 (v := .int .i64 0) rfl
  have c2 := bx.cell 2 (v := .bool false) rfl
  have f0 := bx.frozen 0
  have f1 := bx.frozen 1
  have f2 := bx.frozen 2
  refine skip_ (w1 := ?_) (by rfl) rfl ?_ ?_
  rotate_left
  · go_simp
    rfl
  have bx := ((bx.set_ 0 (.slice (rowP g how) (rowN how) (rowN how))).set_ 1 (.int .i64 (toldOf how))).set_ 2 (.bool (decide (how = 0)))
  have b1 := ((b1.far (p := ⟨px, 0, none⟩) (Nat.ne_of_lt hpx) (.slice (rowP g how) (rowN how) (rowN how))).far (p := ⟨px, 1, none⟩) (Nat.ne_of_lt hpx) (.int .i64 (toldOf how))).far (p := ⟨px, 2, none⟩) (Nat.ne_of_lt hpx) (.bool (decide (how = 0)))
  have hN := hN.set3 px (.slice (rowP g how) (rowN how) (rowN how)) (.int .i64 (toldOf how)) (.bool (decide (how = 0))) hpg
  have hB := ((hB.setCell (p := ⟨px, 0, none⟩) (Nat.le_of_lt hpx) (.slice (rowP g how) (rowN how) (rowN how))).setCell (p := ⟨px, 1, none⟩) (Nat.le_of_lt hpx) (.int .i64 (toldOf how))).setCell (p := ⟨px, 2, none⟩) (Nat.le_of_lt hpx) (.bool (decide (how = 0)))
  have k1 := b1.cell 1 (v := .int .u32 how) rfl
  clear c0 c1 c2 f0 f1 f2
  refine hK.out _ _ (k1) (fun hHeld => ?_)
  clear hK K
  refine pure_ (i := 9) (N := some 5) (v := ?_) (a' := ?_) #[true, true, true, true, true, true, true, true, true, true] rfl rfl (by kernel_rfl) (fun _ _ _ h => h) (Or.inl ⟨by rfl, ?_⟩) ?_ ?_
  rotate_left
  · intro w'
    go_simp
    with_reducible rfl
  rotate_left
  · simp only [Act.put, List.setIfInBounds_toArray, List.set_cons_zero, List.set_cons_succ, i64_w, i32_w]
    rfl
  refine done_ (by kernel_rfl) ?_
  have bx : Blk _ px 68 #[.slice (rowP g how) (rowN how) (rowN how), .int .i64 (toldOf how), .bool (decide (how = 0))] := bx
  generalize ((w'.setCell ⟨px, 0, none⟩ (.slice (rowP g how) (rowN how) (rowN how))).setCell ⟨px, 1, none⟩ (.int .i64 (toldOf how))).setCell ⟨px, 2, none⟩ (.bool (decide (how = 0))) = W2 at *
  clear hHeld
  rw [decide_eq_true HK.out, decide_eq_true H0.out, HT.out]
  rw [decide_eq_true H0.out, HT.out] at bx
  have t0 : (low != 0) = false := bne_eq_false_iff_eq.2 HLO.out
  have t1 : (high != 0) = true := bne_iff_ne.2 HHI.out
  have k0 := b1.cell 0 (v := .int .u32 xid) rfl
  have k2 := b1.cell 2 (v := .int .u32 low) rfl
  have k3 := b1.cell 3 (v := .int .u32 high) rfl
  have k4 := b1.cell 4 (v := .slice A body.length c) rfl
  have c0 := bx.cell 0 (v := .slice (rowP g how) (rowN how) (rowN how)) rfl
  have c1 := bx.cell 1 (v := .int .i64 0) rfl
  have c2 := bx.cell 2 (v := .bool true) rfl
  go_wp2
  go_ret2
  exact ⟨rfl, hB⟩


set_option maxRecDepth 100000 in
set_option maxHeartbeats 4000000 in
theorem put_high1 (xid how low high : Int) (A : Option Addr) (c : Nat) (body : List Int) (w : World) (hx0 : 0 ≤ xid) (hx1 : xid < 4294967296) (hh0 : 0 ≤ how) (hh1 : how < 4294967296) (hl0 : 0 ≤ low) (hl1 : low < 4294967296) (hi0 : 0 ≤ high) (hi1 : high < 4294967296)
    (hr : Rd w A body) (hc : body.length ≤ c) (hn : body.length ≤ 1048000) (hk : how ∈ keysL) (h0 : ¬ how = 0) (ht : toldOf how = 0) (hb : body.length = 0) (hlo : low = 0) (hhi : ¬ high = 0) :
    Calls Tryd.prog 7 #[.agg #[.int .u32 xid, .int .u32 how, .int .u32 low, .int .u32 high, .slice A body.length c]] w fun e w' => e = .returned (.tuple #[.slice none 0 0, .int .i64 1]) ∧ Below w.heap.size w w' := by
  have b1 := Blk.new w 26 #[.int .u32 xid, .int .u32 how, .int .u32 low, .int .u32 high, .slice A body.length c]
  have hB : Below w.heap.size w (w.alloc (.cells #[.int .u32 xid, .int .u32 how, .int .u32 low, .int .u32 high, .slice A body.length c] 26)) := (Below.refl _ _).alloc (Nat.le_refl _) _
  have HK := Lib.hid hk
  have H0 := Lib.hid h0
  have HT := Lib.hid ht
  have HB := Lib.hid hb
  have HLO := Lib.hid hlo
  have HHI := Lib.hid hhi
  clear hk h0 ht hb hlo hhi
  go_enter Tryd.func7, Tryd.ntmps7
  go_wp2_with fail
  generalize w.alloc (.cells #[.int .u32 xid, .int .u32 how, .int .u32 low, .int .u32 high, .slice A body.length c] 26) = W at *
  have hB := below_then hB (below_drawn (w1 := W.drew) (n := 1) rfl)
  have b1 := b1.drew
  have k1 := b1.cell 1 (v := .int .u32 how) rfl
  refine start_ (n := 10) (S := fun w' => w'.cell? ⟨w.heap.size, 1, none⟩ = some (.int .u32 how)) (ds := []) #[false, false, false, false, false, false, false, false, false, false] (by kernel_rfl) rfl rfl (k1) (fun hHeld => ?_)
  refine pure_ (i := 1) (N := some 9) (v := ?_) (a' := ?_) #[false, true, false, false, false, false, false, false, false, false] rfl rfl (by kernel_rfl) (fun _ _ _ h => h) (Or.inl ⟨by rfl, ?_⟩) ?_ ?_
  rotate_left
  · intro w'
    go_simp
    with_reducible rfl
  rotate_left
  · simp only [Act.put, List.setIfInBounds_toArray, List.set_cons_zero, List.set_cons_succ, i64_w, i32_w]
    rfl
  refine take_ (i := 2) (N := some 10) (v := ?_) (a' := ?_) #[false, true, true, false, false, false, false, false, false, false] rfl rfl (by kernel_rfl) (fun _ _ _ h => h) (Or.inl ⟨by rfl, ?_⟩) hHeld ?_ ?_
  rotate_left
  · intro w' s0
    go_simp
    with_reducible rfl
  rotate_left
  · simp only [Act.put, List.setIfInBounds_toArray, List.set_cons_zero, List.set_cons_succ, i64_w, i32_w]
    rfl
  refine join_ (σ := Nat × (Nat → Nat) × Nat) 2 #[true, true, true, true, true, true, true, true, false, false] (fun s' => [(8, .map (some s'.1)), (11, .tuple #[.agg #[.slice (rowP s'.2.1 how) (rowN how) (rowN how), .int .i64 (toldOf how), .bool (decide (how = 0))], .bool (decide (how ∈ keysL))]), (7, .tuple #[.agg #[.slice (rowP s'.2.1 how) (rowN how) (rowN how), .int .i64 (toldOf how), .bool (decide (how = 0))], .bool (decide (how ∈ keysL))]), (12, .agg #[.slice (rowP s'.2.1 how) (rowN how) (rowN how), .int .i64 (toldOf how), .bool (decide (how = 0))]), (13, .bool (decide (how ∈ keysL))), (4, .pointer (some ⟨s'.2.2, 0, none⟩))]) (fun s' w' => w'.cell? ⟨w.heap.size, 1, none⟩ = some (.int .u32 how) ∧ Below w.heap.size w w' ∧ Blk w' w.heap.size 26 #[.int .u32 xid, .int .u32 how, .int .u32 low, .int .u32 high, .slice A body.length c] ∧ Blk w' s'.2.2 68 #[.slice none 0 0, .int .i64 0, .bool false] ∧ w.heap.size < s'.2.2 ∧ NumsAt w' s'.2.1 ∧ (∀ k ∈ keysL, s'.2.1 (ixOf k) ≠ s'.2.2)) ?_ ?_
  rotate_left
  · intro hCont
    refine two_ (i := 0) (j := 7) (Ni := some 8) (Nj := some 4) #[true, true, true, false, false, false, false, false, false, false] #[false, true, true, false, false, false, false, true, false, false] rfl rfl rfl rfl (by kernel_rfl) (by decide) (by decide) (fun K hK => ?_) (fun K hK => ?_)
    · skip
      refine goes_ Tryd.func29 (by kernel_rfl) rfl #[] (by rfl) rfl rfl (by simp only [List.map_toArray, List.map_cons, List.map_nil]) ?_
      with_reducible refine (rows_all _).mono ?_
      rintro e w3 ⟨b, g, rfl, hbb, hgk, hM, hN, hbx⟩
      refine ⟨_, rfl, ?_⟩
      have k1 := cell_later hbx k1
      have b1 := b1.below hbx
      have hB := below_then hB hbx
      refine hK.out _ _ (k1) (fun hHeld => ?_)
      clear hK K
      refine norm_ (a' := ?_) ?_ ?_
      rotate_left
      · show Act.put _ (some 8) _ = _
        simp only [Act.put, List.setIfInBounds_toArray, List.set_cons_zero, List.set_cons_succ, i64_w, i32_w]
        rfl
      refine two_ (i := 3) (j := 7) (Ni := some 11) (Nj := some 4) #[true, true, true, true, false, false, false, false, false, false] #[true, true, true, false, false, false, false, true, false, false] rfl rfl rfl rfl (by kernel_rfl) (by decide) (by decide) (fun K hK => ?_) (fun K hK => ?_)
      · skip
        have hq := look2 hM hh0 hh1
        rw [rowK_or, in_keys] at hq
        refine value_ (w1 := ?_) (v := ?_) (by rfl) rfl ?_ ?_
        rotate_left 2
        · go_simp
          constructor
          · rfl
          · rfl
        clear hq
        refine hK.out _ _ (k1) (fun hHeld => ?_)
        clear hK K
        refine norm_ (a' := ?_) ?_ ?_
        rotate_left
        · show Act.put _ (some 11) _ = _
          simp only [Act.put, List.setIfInBounds_toArray, List.set_cons_zero, List.set_cons_succ, i64_w, i32_w]
          rfl
        refine pure_ (i := 4) (N := some 7) (v := ?_) (a' := ?_) #[true, true, true, true, true, false, false, false, false, false] rfl rfl (by kernel_rfl) (fun _ _ _ h => h) (Or.inl ⟨by rfl, ?_⟩) ?_ ?_
        rotate_left
        · intro w'
          go_simp
          with_reducible rfl
        rotate_left
        · simp only [Act.put, List.setIfInBounds_toArray, List.set_cons_zero, List.set_cons_succ, i64_w, i32_w]
          rfl
        refine pure_ (i := 5) (N := some 12) (v := ?_) (a' := ?_) #[true, true, true, true, true, true, false, false, false, false] rfl rfl (by kernel_rfl) (fun _ _ _ h => h) (Or.inl ⟨by rfl, ?_⟩) ?_ ?_
        rotate_left
        · intro w'
          go_simp
          with_reducible rfl
        rotate_left
        · simp only [Act.put, List.setIfInBounds_toArray, List.set_cons_zero, List.set_cons_succ, i64_w, i32_w]
          rfl
        refine pure_ (i := 6) (N := some 13) (v := ?_) (a' := ?_) #[true, true, true, true, true, true, true, false, false, false] rfl rfl (by kernel_rfl) (fun _ _ _ h => h) (Or.inl ⟨by rfl, ?_⟩) ?_ ?_
        rotate_left
        · intro w'
          go_simp
          with_reducible rfl
        rotate_left
        · simp only [Act.put, List.setIfInBounds_toArray, List.set_cons_zero, List.set_cons_succ, i64_w, i32_w]
          rfl
        refine one_ (i := 7) (N := some 4) #[true, true, true, true, true, true, true, true, false, false] rfl rfl (by kernel_rfl) (by decide) (fun K hK => ?_)
        refine value_ (w1 := ?_) (v := ?_) (by rfl) rfl ?_ ?_
        rotate_left 2
        · go_simp
          constructor
          · rfl
          · rfl
        have hlt : w.heap.size < w3.heap.size := b1.lt
        have bx := Blk.new w3 68 #[.slice none 0 0, .int .i64 0, .bool false]
        have b1 := b1.alloc (.cells #[.slice none 0 0, .int .i64 0, .bool false] 68)
        have k1 := cell_old k1 (.cells #[.slice none 0 0, .int .i64 0, .bool false] 68)
        have hB := hB.alloc hB.size (.cells #[.slice none 0 0, .int .i64 0, .bool false] 68)
        have hpg : ∀ k ∈ keysL, g (ixOf k) ≠ w3.heap.size := fun k hk => by have := (hN k hk).lt; omega
        have hM := hM.below ((Below.refl _ w3).alloc (Nat.le_refl _) (.cells #[.slice none 0 0, .int .i64 0, .bool false] 68))
        have hN := hN.below ((Below.refl _ w3).alloc (Nat.le_refl _) (.cells #[.slice none 0 0, .int .i64 0, .bool false] 68))
        refine hK.out _ _ (k1) (fun hHeld => ?_)
        clear hK K
        refine norm_ (a' := ?_) ?_ ?_
        rotate_left
        · show Act.put _ (some 4) _ = _
          simp only [Act.put, List.setIfInBounds_toArray, List.set_cons_zero, List.set_cons_succ, i64_w, i32_w]
          rfl
        exact norm_ (by simp only [putAll, Act.put, List.setIfInBounds_toArray, List.set_cons_zero, List.set_cons_succ]) (hCont (b, g, w3.heap.size) _ ⟨k1, hB, b1, bx, hlt, hN, hpg⟩)
      · skip
        refine value_ (w1 := ?_) (v := ?_) (by rfl) rfl ?_ ?_
        rotate_left 2
        · go_simp
          constructor
          · rfl
          · rfl
        have hlt : w.heap.size < w3.heap.size := b1.lt
        have bx := Blk.new w3 68 #[.slice none 0 0, .int .i64 0, .bool false]
        have b1 := b1.alloc (.cells #[.slice none 0 0, .int .i64 0, .bool false] 68)
        have k1 := cell_old k1 (.cells #[.slice none 0 0, .int .i64 0, .bool false] 68)
        have hB := hB.alloc hB.size (.cells #[.slice none 0 0, .int .i64 0, .bool false] 68)
        have hpg : ∀ k ∈ keysL, g (ixOf k) ≠ w3.heap.size := fun k hk => by have := (hN k hk).lt; omega
        have hM := hM.below ((Below.refl _ w3).alloc (Nat.le_refl _) (.cells #[.slice none 0 0, .int .i64 0, .bool false] 68))
        have hN := hN.below ((Below.refl _ w3).alloc (Nat.le_refl _) (.cells #[.slice none 0 0, .int .i64 0, .bool false] 68))
        refine hK.out _ _ (k1) (fun hHeld => ?_)
        clear hK K
        refine norm_ (a' := ?_) ?_ ?_
        rotate_left
        · show Act.put _ (some 4) _ = _
          simp only [Act.put, List.setIfInBounds_toArray, List.set_cons_zero, List.set_cons_succ, i64_w, i32_w]
          rfl
        refine one_ (i := 3) (N := some 11) #[true, true, true, true, false, false, false, true, false, false] rfl rfl (by kernel_rfl) (by decide) (fun K hK => ?_)
        have hq := look2 hM hh0 hh1
        rw [rowK_or, in_keys] at hq
        refine value_ (w1 := ?_) (v := ?_) (by rfl) rfl ?_ ?_
        rotate_left 2
        · go_simp
          constructor
          · rfl
          · rfl
        clear hq
        refine hK.out _ _ (k1) (fun hHeld => ?_)
        clear hK K
        refine norm_ (a' := ?_) ?_ ?_
        rotate_left
        · show Act.put _ (some 11) _ = _
          simp only [Act.put, List.setIfInBounds_toArray, List.set_cons_zero, List.set_cons_succ, i64_w, i32_w]
          rfl
        refine pure_ (i := 4) (N := some 7) (v := ?_) (a' := ?_) #[true, true, true, true, true, false, false, true, false, false] rfl rfl (by kernel_rfl) (fun _ _ _ h => h) (Or.inl ⟨by rfl, ?_⟩) ?_ ?_
        rotate_left
        · intro w'
          go_simp
          with_reducible rfl
        rotate_left
        · simp only [Act.put, List.setIfInBounds_toArray, List.set_cons_zero, List.set_cons_succ, i64_w, i32_w]
          rfl
        refine pure_ (i := 5) (N := some 12) (v := ?_) (a' := ?_) #[true, true, true, true, true, true, false, true, false, false] rfl rfl (by kernel_rfl) (fun _ _ _ h => h) (Or.inl ⟨by rfl, ?_⟩) ?_ ?_
        rotate_left
        · intro w'
          go_simp
          with_reducible rfl
        rotate_left
        · simp only [Act.put, List.setIfInBounds_toArray, List.set_cons_zero, List.set_cons_succ, i64_w, i32_w]
          rfl
        refine pure_ (i := 6) (N := some 13) (v := ?_) (a' := ?_) #[true, true, true, true, true, true, true, true, false, false] rfl rfl (by kernel_rfl) (fun _ _ _ h => h) (Or.inl ⟨by rfl, ?_⟩) ?_ ?_
        rotate_left
        · intro w'
          go_simp
          with_reducible rfl
        rotate_left
        · simp only [Act.put, List.setIfInBounds_toArray, List.set_cons_zero, List.set_cons_succ, i64_w, i32_w]
          rfl
        exact norm_ (by simp only [putAll, Act.put, List.setIfInBounds_toArray, List.set_cons_zero, List.set_cons_succ]) (hCont (b, g, w3.heap.size) _ ⟨k1, hB, b1, bx, hlt, hN, hpg⟩)
    · skip
      refine value_ (w1 := ?_) (v := ?_) (by rfl) rfl ?_ ?_
      rotate_left 2
      · go_simp
        constructor
        · rfl
        · rfl
      have hlt : w.heap.size < W.heap.size := b1.lt
      have bx := Blk.new W.drew 68 #[.slice none 0 0, .int .i64 0, .bool false]
      have b1 := b1.alloc (.cells #[.slice none 0 0, .int .i64 0, .bool false] 68)
      have k1 := cell_old k1 (.cells #[.slice none 0 0, .int .i64 0, .bool false] 68)
      have hB := hB.alloc hB.size (.cells #[.slice none 0 0, .int .i64 0, .bool false] 68)
      refine hK.out _ _ (k1) (fun hHeld => ?_)
      clear hK K
      refine norm_ (a' := ?_) ?_ ?_
      rotate_left
      · show Act.put _ (some 4) _ = _
        simp only [Act.put, List.setIfInBounds_toArray, List.set_cons_zero, List.set_cons_succ, i64_w, i32_w]
        rfl
      refine one_ (i := 0) (N := some 8) #[true, true, true, false, false, false, false, true, false, false] rfl rfl (by kernel_rfl) (by decide) (fun K hK => ?_)
      refine goes_ Tryd.func29 (by kernel_rfl) rfl #[] (by rfl) rfl rfl (by simp only [List.map_toArray, List.map_cons, List.map_nil]) ?_
      with_reducible refine (rows_all _).mono ?_
      rintro e w3 ⟨b, g, rfl, hbb, hgk, hM, hN, hbx⟩
      refine ⟨_, rfl, ?_⟩
      have k1 := cell_later hbx k1
      have b1 := b1.below hbx
      have bx := bx.below hbx
      have hpg : ∀ k ∈ keysL, g (ixOf k) ≠ W.drew.heap.size := fun k hk => by have := hgk k hk; simp at hbb ⊢; omega
      have hB := below_then hB hbx
      refine hK.out _ _ (k1) (fun hHeld => ?_)
      clear hK K
      refine norm_ (a' := ?_) ?_ ?_
      rotate_left
      · show Act.put _ (some 8) _ = _
        simp only [Act.put, List.setIfInBounds_toArray, List.set_cons_zero, List.set_cons_succ, i64_w, i32_w]
        rfl
      refine one_ (i := 3) (N := some 11) #[true, true, true, true, false, false, false, true, false, false] rfl rfl (by kernel_rfl) (by decide) (fun K hK => ?_)
      have hq := look2 hM hh0 hh1
      rw [rowK_or, in_keys] at hq
      refine value_ (w1 := ?_) (v := ?_) (by rfl) rfl ?_ ?_
      rotate_left 2
      · go_simp
        constructor
        · rfl
        · rfl
      clear hq
      refine hK.out _ _ (k1) (fun hHeld => ?_)
      clear hK K
      refine norm_ (a' := ?_) ?_ ?_
      rotate_left
      · show Act.put _ (some 11) _ = _
        simp only [Act.put, List.setIfInBounds_toArray, List.set_cons_zero, List.set_cons_succ, i64_w, i32_w]
        rfl
      refine pure_ (i := 4) (N := some 7) (v := ?_) (a' := ?_) #[true, true, true, true, true, false, false, true, false, false] rfl rfl (by kernel_rfl) (fun _ _ _ h => h) (Or.inl ⟨by rfl, ?_⟩) ?_ ?_
      rotate_left
      · intro w'
        go_simp
        with_reducible rfl
      rotate_left
      · simp only [Act.put, List.setIfInBounds_toArray, List.set_cons_zero, List.set_cons_succ, i64_w, i32_w]
        rfl
      refine pure_ (i := 5) (N := some 12) (v := ?_) (a' := ?_) #[true, true, true, true, true, true, false, true, false, false] rfl rfl (by kernel_rfl) (fun _ _ _ h => h) (Or.inl ⟨by rfl, ?_⟩) ?_ ?_
      rotate_left
      · intro w'
        go_simp
        with_reducible rfl
      rotate_left
      · simp only [Act.put, List.setIfInBounds_toArray, List.set_cons_zero, List.set_cons_succ, i64_w, i32_w]
        rfl
      refine pure_ (i := 6) (N := some 13) (v := ?_) (a' := ?_) #[true, true, true, true, true, true, true, true, false, false] rfl rfl (by kernel_rfl) (fun _ _ _ h => h) (Or.inl ⟨by rfl, ?_⟩) ?_ ?_
      rotate_left
      · intro w'
        go_simp
        with_reducible rfl
      rotate_left
      · simp only [Act.put, List.setIfInBounds_toArray, List.set_cons_zero, List.set_cons_succ, i64_w, i32_w]
        rfl
      exact norm_ (by simp only [putAll, Act.put, List.setIfInBounds_toArray, List.set_cons_zero, List.set_cons_succ]) (hCont (b, g, W.heap.size) _ ⟨k1, hB, b1, bx, hlt, hN, hpg⟩)
  clear hB b1
  rintro ⟨b, g, px⟩ w' ⟨k1, hB, b1, bx, hpx, hN, hpg⟩
  have hHeld : w'.cell? ⟨w.heap.size, 1, none⟩ = some (.int .u32 how) := k1
  refine norm_ (a' := ?_) ?_ ?_
  rotate_left
  · simp only [putAll, Act.put, List.setIfInBounds_toArray, List.set_cons_zero, List.set_cons_succ]
    rfl
  refine one_ (i := 8) (N := none) #[true, true, true, true, true, true, true, true, true, false] rfl rfl (by kernel_rfl) (by decide) (fun K hK => ?_)
  have c0 := bx.cell 0 (v := .slice none 0 0) rfl
  have c1 := bx.cell 1 (v := .int .i64 0) rfl
  have c2 := bx.cell 2 (v := .bool false) rfl
  have f0 := bx.frozen 0
  have f1 := bx.frozen 1
  have f2 := bx.frozen 2
  refine skip_ (w1 := ?_) (by rfl) rfl ?_ ?_
  rotate_left
  · go_simp
    rfl
  have bx := ((bx.set_ 0 (.slice (rowP g how) (rowN how) (rowN how))).set_ 1 (.int .i64 (toldOf how))).set_ 2 (.bool (decide (how = 0)))
  have b1 := ((b1.far (p := ⟨px, 0, none⟩) (Nat.ne_of_lt hpx) (.slice (rowP g how) (rowN how) (rowN how))).far (p := ⟨px, 1, none⟩) (Nat.ne_of_lt hpx) (.int .i64 (toldOf how))).far (p := ⟨px, 2, none⟩) (Nat.ne_of_lt hpx) (.bool (decide (how = 0)))
  have hN := hN.set3 px (.slice (rowP g how) (rowN how) (rowN how)) (.int .i64 (toldOf how)) (.bool (decide (how = 0))) hpg
  have hB := ((hB.setCell (p := ⟨px, 0, none⟩) (Nat.le_of_lt hpx) (.slice (rowP g how) (rowN how) (rowN how))).setCell (p := ⟨px, 1, none⟩) (Nat.le_of_lt hpx) (.int .i64 (toldOf how))).setCell (p := ⟨px, 2, none⟩) (Nat.le_of_lt hpx) (.bool (decide (how = 0)))
  have k1 := b1.cell 1 (v := .int .u32 how) rfl
  clear c0 c1 c2 f0 f1 f2
  refine hK.out _ _ (k1) (fun hHeld => ?_)
  clear hK K
  refine pure_ (i := 9) (N := some 5) (v := ?_) (a' := ?_) #[true, true, true, true, true, true, true, true, true, true] rfl rfl (by kernel_rfl) (fun _ _ _ h => h) (Or.inl ⟨by rfl, ?_⟩) ?_ ?_
  rotate_left
  · intro w'
    go_simp
    with_reducible rfl
  rotate_left
  · simp only [Act.put, List.setIfInBounds_toArray, List.set_cons_zero, List.set_cons_succ, i64_w, i32_w]
    rfl
  refine done_ (by kernel_rfl) ?_
  have bx : Blk _ px 68 #[.slice (rowP g how) (rowN how) (rowN how), .int .i64 (toldOf how), .bool (decide (how = 0))] := bx
  generalize ((w'.setCell ⟨px, 0, none⟩ (.slice (rowP g how) (rowN how) (rowN how))).setCell ⟨px, 1, none⟩ (.int .i64 (toldOf how))).setCell ⟨px, 2, none⟩ (.bool (decide (how = 0))) = W2 at *
  clear hHeld
  rw [decide_eq_true HK.out, decide_eq_false H0.out, HT.out]
  rw [decide_eq_false H0.out, HT.out] at bx
  have t0 : ¬ 0 < body.length := by have := HB.out; omega
  have t1 : (low != 0) = false := bne_eq_false_iff_eq.2 HLO.out
  have t2 : (high != 0) = true := bne_iff_ne.2 HHI.out
  have k0 := b1.cell 0 (v := .int .u32 xid) rfl
  have k2 := b1.cell 2 (v := .int .u32 low) rfl
  have k3 := b1.cell 3 (v := .int .u32 high) rfl
  have k4 := b1.cell 4 (v := .slice A body.length c) rfl
  have c0 := bx.cell 0 (v := .slice (rowP g how) (rowN how) (rowN how)) rfl
  have c1 := bx.cell 1 (v := .int .i64 0) rfl
  have c2 := bx.cell 2 (v := .bool false) rfl
  go_wp2
  go_ret2
  exact ⟨rfl, hB⟩


set_option maxRecDepth 100000 in
set_option maxHeartbeats 4000000 in
theorem put_higha (xid how low high : Int) (A : Option Addr) (c : Nat) (body : List Int) (w : World) (hx0 : 0 ≤ xid) (hx1 : xid < 4294967296) (hh0 : 0 ≤ how) (hh1 : how < 4294967296) (hl0 : 0 ≤ low) (hl1 : low < 4294967296) (hi0 : 0 ≤ high) (hi1 : high < 4294967296)
    (hr : Rd w A body) (hc : body.length ≤ c) (hn : body.length ≤ 1048000) (hk : how ∈ keysL) (h0 : ¬ how = 0) (ht : toldOf how = 1) (hb : body.length = 0) (hhi : ¬ high = 0) :
    Calls Tryd.prog 7 #[.agg #[.int .u32 xid, .int .u32 how, .int .u32 low, .int .u32 high, .slice A body.length c]] w fun e w' => e = .returned (.tuple #[.slice none 0 0, .int .i64 1]) ∧ Below w.heap.size w w' := by
  have b1 := Blk.new w 26 #[.int .u32 xid, .int .u32 how, .int .u32 low, .int .u32 high, .slice A body.length c]
  have hB : Below w.heap.size w (w.alloc (.cells #[.int .u32 xid, .int .u32 how, .int .u32 low, .int .u32 high, .slice A body.length c] 26)) := (Below.refl _ _).alloc (Nat.le_refl _) _
  have HK := Lib.hid hk
  have H0 := Lib.hid h0
  have HT := Lib.hid ht
  have HB := Lib.hid hb
  have HHI := Lib.hid hhi
  clear hk h0 ht hb hhi
  go_enter Tryd.func7, Tryd.ntmps7
  go_wp2_with fail
  generalize w.alloc (.cells #[.int .u32 xid, .int .u32 how, .int .u32 low, .int .u32 high, .slice A body.length c] 26) = W at *
  have hB := below_then hB (below_drawn (w1 := W.drew) (n := 1) rfl)
  have b1 := b1.drew
  have k1 := b1.cell 1 (v := .int .u32 how) rfl
  refine start_ (n := 10) (S := fun w' => w'.cell? ⟨w.heap.size, 1, none⟩ = some (.int .u32 how)) (ds := []) #[false, false, false, false, false, false, false, false, false, false] (by kernel_rfl) rfl rfl (k1) (fun hHeld => ?_)
  refine pure_ (i := 1) (N := some 9) (v := ?_) (a' := ?_) #[false, true, false, false, false, false, false, false, false, false] rfl rfl (by kernel_rfl) (fun _ _ _ h => h) (Or.inl ⟨by rfl, ?_⟩) ?_ ?_
  rotate_left
  · intro w'
    go_simp
    with_reducible rfl
  rotate_left
  · simp only [Act.put, List.setIfInBounds_toArray, List.set_cons_zero, List.set_cons_succ, i64_w, i32_w]
    rfl
  refine take_ (i := 2) (N := some 10) (v := ?_) (a' := ?_) #[false, true, true, false, false, false, false, false, false, false] rfl rfl (by kernel_rfl) (fun _ _ _ h => h) (Or.inl ⟨by rfl, ?_⟩) hHeld ?_ ?_
  rotate_left
  · intro w' s0
    go_simp
    with_reducible rfl
  rotate_left
  · simp only [Act.put, List.setIfInBounds_toArray, List.set_cons_zero, List.set_cons_succ, i64_w, i32_w]
    rfl
  refine join_ (σ := Nat × (Nat → Nat) × Nat) 2 #[true, true, true, true, true, true, true, true, false, false] (fun s' => [(8, .map (some s'.1)), (11, .tuple #[.agg #[.slice (rowP s'.2.1 how) (rowN how) (rowN how), .int .i64 (toldOf how), .bool (decide (how = 0))], .bool (decide (how ∈ keysL))]), (7, .tuple #[.agg #[.slice (rowP s'.2.1 how) (rowN how) (rowN how), .int .i64 (toldOf how), .bool (decide (how = 0))], .bool (decide (how ∈ keysL))]), (12, .agg #[.slice (rowP s'.2.1 how) (rowN how) (rowN how), .int .i64 (toldOf how), .bool (decide (how = 0))]), (13, .bool (decide (how ∈ keysL))), (4, .pointer (some ⟨s'.2.2, 0, none⟩))]) (fun s' w' => w'.cell? ⟨w.heap.size, 1, none⟩ = some (.int .u32 how) ∧ Below w.heap.size w w' ∧ Blk w' w.heap.size 26 #[.int .u32 xid, .int .u32 how, .int .u32 low, .int .u32 high, .slice A body.length c] ∧ Blk w' s'.2.2 68 #[.slice none 0 0, .int .i64 0, .bool false] ∧ w.heap.size < s'.2.2 ∧ NumsAt w' s'.2.1 ∧ (∀ k ∈ keysL, s'.2.1 (ixOf k) ≠ s'.2.2)) ?_ ?_
  rotate_left
  · intro hCont
    refine two_ (i := 0) (j := 7) (Ni := some 8) (Nj := some 4) #[true, true, true, false, false, false, false, false, false, false] #[false, true, true, false, false, false, false, true, false, false] rfl rfl rfl rfl (by kernel_rfl) (by decide) (by decide) (fun K hK => ?_) (fun K hK => ?_)
    · skip
      refine goes_ Tryd.func29 (by kernel_rfl) rfl #[] (by rfl) rfl rfl (by simp only [List.map_toArray, List.map_cons, List.map_nil]) ?_
      with_reducible refine (rows_all _).mono ?_
      rintro e w3 ⟨b, g, rfl, hbb, hgk, hM, hN, hbx⟩
      refine ⟨_, rfl, ?_⟩
      have k1 := cell_later hbx k1
      have b1 := b1.below hbx
      have hB := below_then hB hbx
      refine hK.out _ _ (k1) (fun hHeld => ?_)
      clear hK K
      refine norm_ (a' := ?_) ?_ ?_
      rotate_left
      · show Act.put _ (some 8) _ = _
        simp only [Act.put, List.setIfInBounds_toArray, List.set_cons_zero, List.set_cons_succ, i64_w, i32_w]
        rfl
      refine two_ (i := 3) (j := 7) (Ni := some 11) (Nj := some 4) #[true, true, true, true, false, false, false, false, false, false] #[true, true, true, false, false, false, false, true, false, false] rfl rfl rfl rfl (by kernel_rfl) (by decide) (by decide) (fun K hK => ?_) (fun K hK => ?_)
      · skip
        have hq := look2 hM hh0 hh1
        rw [rowK_or, in_keys] at hq
        refine value_ (w1 := ?_) (v := ?_) (by rfl) rfl ?_ ?_
        rotate_left 2
        · go_simp
          constructor
          · rfl
          · rfl
        clear hq
        refine hK.out _ _ (k1) (fun hHeld => ?_)
        clear hK K
        refine norm_ (a' := ?_) ?_ ?_
        rotate_left
        · show Act.put _ (some 11) _ = _
          simp only [Act.put, List.setIfInBounds_toArray, List.set_cons_zero, List.set_cons_succ, i64_w, i32_w]
          rfl
        refine pure_ (i := 4) (N := some 7) (v := ?_) (a' := ?_) #[true, true, true, true, true, false, false, false, false, false] rfl rfl (by kernel_rfl) (fun _ _ _ h => h) (Or.inl ⟨by rfl, ?_⟩) ?_ ?_
        rotate_left
        · intro w'
          go_simp
          with_reducible rfl
        rotate_left
        · simp only [Act.put, List.setIfInBounds_toArray, List.set_cons_zero, List.set_cons_succ, i64_w, i32_w]
          rfl
        refine pure_ (i := 5) (N := some 12) (v := ?_) (a' := ?_) #[true, true, true, true, true, true, false, false, false, false] rfl rfl (by kernel_rfl) (fun _ _ _ h => h) (Or.inl ⟨by rfl, ?_⟩) ?_ ?_
        rotate_left
        · intro w'
          go_simp
          with_reducible rfl
        rotate_left
        · simp only [Act.put, List.setIfInBounds_toArray, List.set_cons_zero, List.set_cons_succ, i64_w, i32_w]
          rfl
        refine pure_ (i := 6) (N := some 13) (v := ?_) (a' := ?_) #[true, true, true, true, true, true, true, false, false, false] rfl rfl (by kernel_rfl) (fun _ _ _ h => h) (Or.inl ⟨by rfl, ?_⟩) ?_ ?_
        rotate_left
        · intro w'
          go_simp
          with_reducible rfl
        rotate_left
        · simp only [Act.put, List.setIfInBounds_toArray, List.set_cons_zero, List.set_cons_succ, i64_w, i32_w]
          rfl
        refine one_ (i := 7) (N := some 4) #[true, true, true, true, true, true, true, true, false, false] rfl rfl (by kernel_rfl) (by decide) (fun K hK => ?_)
        refine value_ (w1 := ?_) (v := ?_) (by rfl) rfl ?_ ?_
        rotate_left 2
        · go_simp
          constructor
          · rfl
          · rfl
        have hlt : w.heap.size < w3.heap.size := b1.lt
        have bx := Blk.new w3 68 #[.slice none 0 0, .int .i64 0, .bool false]
        have b1 := b1.alloc (.cells #[.slice none 0 0, .int .i64 0, .bool false] 68)
        have k1 := cell_old k1 (.cells #[.slice none 0 0, .int .i64 0, .bool false] 68)
        have hB := hB.alloc hB.size (.cells #[.slice none 0 0, .int .i64 0, .bool false] 68)
        have hpg : ∀ k ∈ keysL, g (ixOf k) ≠ w3.heap.size := fun k hk => by have := (hN k hk).lt; omega
        have hM := hM.below ((Below.refl _ w3).alloc (Nat.le_refl _) (.cells #[.slice none 0 0, .int .i64 0, .bool false] 68))
        have hN := hN.below ((Below.refl _ w3).alloc (Nat.le_refl _) (.cells #[.slice none 0 0, .int .i64 0, .bool false] 68))
        refine hK.out _ _ (k1) (fun hHeld => ?_)
        clear hK K
        refine norm_ (a' := ?_) ?_ ?_
        rotate_left
        · show Act.put _ (some 4) _ = _
          simp only [Act.put, List.setIfInBounds_toArray, List.set_cons_zero, List.set_cons_succ, i64_w, i32_w]
          rfl
        exact norm_ (by simp only [putAll, Act.put, List.setIfInBounds_toArray, List.set_cons_zero, List.set_cons_succ]) (hCont (b, g, w3.heap.size) _ ⟨k1, hB, b1, bx, hlt, hN, hpg⟩)
      · skip
        refine value_ (w1 := ?_) (v := ?_) (by rfl) rfl ?_ ?_
        rotate_left 2
        · go_simp
          constructor
          · rfl
          · rfl
        have hlt : w.heap.size < w3.heap.size := b1.lt
        have bx := Blk.new w3 68 #[.slice none 0 0, .int .i64 0, .bool false]
        have b1 := b1.alloc (.cells #[.slice none 0 0, .int .i64 0, .bool false] 68)
        have k1 := cell_old k1 (.cells #[.slice none 0 0, .int .i64 0, .bool false] 68)
        have hB := hB.alloc hB.size (.cells #[.slice none 0 0, .int .i64 0, .bool false] 68)
        have hpg : ∀ k ∈ keysL, g (ixOf k) ≠ w3.heap.size := fun k hk => by have := (hN k hk).lt; omega
        have hM := hM.below ((Below.refl _ w3).alloc (Nat.le_refl _) (.cells #[.slice none 0 0, .int .i64 0, .bool false] 68))
        have hN := hN.below ((Below.refl _ w3).alloc (Nat.le_refl _) (.cells #[.slice none 0 0, .int .i64 0, .bool false] 68))
        refine hK.out _ _ (k1) (fun hHeld => ?_)
        clear hK K
        refine norm_ (a' := ?_) ?_ ?_
        rotate_left
        · show Act.put _ (some 4) _ = _
          simp only [Act.put, List.setIfInBounds_toArray, List.set_cons_zero, List.set_cons_succ, i64_w, i32_w]
          rfl
        refine one_ (i := 3) (N := some 11) #[true, true, true, true, false, false, false, true, false, false] rfl rfl (by kernel_rfl) (by decide) (fun K hK => ?_)
        have hq := look2 hM hh0 hh1
        rw [rowK_or, in_keys] at hq
        refine value_ (w1 := ?_) (v := ?_) (by rfl) rfl ?_ ?_
        rotate_left 2
        · go_simp
          constructor
          · rfl
          · rfl
        clear hq
        refine hK.out _ _ (k1) (fun hHeld => ?_)
        clear hK K
        refine norm_ (a' := ?_) ?_ ?_
        rotate_left
        · show Act.put _ (some 11) _ = _
          simp only [Act.put, List.setIfInBounds_toArray, List.set_cons_zero, List.set_cons_succ, i64_w, i32_w]
          rfl
        refine pure_ (i := 4) (N := some 7) (v := ?_) (a' := ?_) #[true, true, true, true, true, false, false, true, false, false] rfl rfl (by kernel_rfl) (fun _ _ _ h => h) (Or.inl ⟨by rfl, ?_⟩) ?_ ?_
        rotate_left
        · intro w'
          go_simp
          with_reducible rfl
        rotate_left
        · simp only [Act.put, List.setIfInBounds_toArray, List.set_cons_zero, List.set_cons_succ, i64_w, i32_w]
          rfl
        refine pure_ (i := 5) (N := some 12) (v := ?_) (a' := ?_) #[true, true, true, true, true, true, false, true, false, false] rfl rfl (by kernel_rfl) (fun _ _ _ h => h) (Or.inl ⟨by rfl, ?_⟩) ?_ ?_
        rotate_left
        · intro w'
          go_simp
          with_reducible rfl
        rotate_left
        · simp only [Act.put, List.setIfInBounds_toArray, List.set_cons_zero, List.set_cons_succ, i64_w, i32_w]
          rfl
        refine pure_ (i := 6) (N := some 13) (v := ?_) (a' := ?_) #[true, true, true, true, true, true, true, true, false, false] rfl rfl (by kernel_rfl) (fun _ _ _ h => h) (Or.inl ⟨by rfl, ?_⟩) ?_ ?_
        rotate_left
        · intro w'
          go_simp
          with_reducible rfl
        rotate_left
        · simp only [Act.put, List.setIfInBounds_toArray, List.set_cons_zero, List.set_cons_succ, i64_w, i32_w]
          rfl
        exact norm_ (by simp only [putAll, Act.put, List.setIfInBounds_toArray, List.set_cons_zero, List.set_cons_succ]) (hCont (b, g, w3.heap.size) _ ⟨k1, hB, b1, bx, hlt, hN, hpg⟩)
    · skip
      refine value_ (w1 := ?_) (v := ?_) (by rfl) rfl ?_ ?_
      rotate_left 2
      · go_simp
        constructor
        · rfl
        · rfl
      have hlt : w.heap.size < W.heap.size := b1.lt
      have bx := Blk.new W.drew 68 #[.slice none 0 0, .int .i64 0, .bool false]
      have b1 := b1.alloc (.cells #[.slice none 0 0, .int .i64 0, .bool false] 68)
      have k1 := cell_old k1 (.cells #[.slice none 0 0, .int .i64 0, .bool false] 68)
      have hB := hB.alloc hB.size (.cells #[.slice none 0 0, .int .i64 0, .bool false] 68)
      refine hK.out _ _ (k1) (fun hHeld => ?_)
      clear hK K
      refine norm_ (a' := ?_) ?_ ?_
      rotate_left
      · show Act.put _ (some 4) _ = _
        simp only [Act.put, List.setIfInBounds_toArray, List.set_cons_zero, List.set_cons_succ, i64_w, i32_w]
        rfl
      refine one_ (i := 0) (N := some 8) #[true, true, true, false, false, false, false, true, false, false] rfl rfl (by kernel_rfl) (by decide) (fun K hK => ?_)
      refine goes_ Tryd.func29 (by kernel_rfl) rfl #[] (by rfl) rfl rfl (by simp only [List.map_toArray, List.map_cons, List.map_nil]) ?_
      with_reducible refine (rows_all _).mono ?_
      rintro e w3 ⟨b, g, rfl, hbb, hgk, hM, hN, hbx⟩
      refine ⟨_, rfl, ?_⟩
      have k1 := cell_later hbx k1
      have b1 := b1.below hbx
      have bx := bx.below hbx
      have hpg : ∀ k ∈ keysL, g (ixOf k) ≠ W.drew.heap.size := fun k hk => by have := hgk k hk; simp at hbb ⊢; omega
      have hB := below_then hB hbx
      refine hK.out _ _ (k1) (fun hHeld => ?_)
      clear hK K
      refine norm_ (a' := ?_) ?_ ?_
      rotate_left
      · show Act.put _ (some 8) _ = _
        simp only [Act.put, List.setIfInBounds_toArray, List.set_cons_zero, List.set_cons_succ, i64_w, i32_w]
        rfl
      refine one_ (i := 3) (N := some 11) #[true, true, true, true, false, false, false, true, false, false] rfl rfl (by kernel_rfl) (by decide) (fun K hK => ?_)
      have hq := look2 hM hh0 hh1
      rw [rowK_or, in_keys] at hq
      refine value_ (w1 := ?_) (v := ?_) (by rfl) rfl ?_ ?_
      rotate_left 2
      · go_simp
        constructor
        · rfl
        · rfl
      clear hq
      refine hK.out _ _ (k1) (fun hHeld => ?_)
      clear hK K
      refine norm_ (a' := ?_) ?_ ?_
      rotate_left
      · show Act.put _ (some 11) _ = _
        simp only [Act.put, List.setIfInBounds_toArray, List.set_cons_zero, List.set_cons_succ, i64_w, i32_w]
        rfl
      refine pure_ (i := 4) (N := some 7) (v := ?_) (a' := ?_) #[true, true, true, true, true, false, false, true, false, false] rfl rfl (by kernel_rfl) (fun _ _ _ h => h) (Or.inl ⟨by rfl, ?_⟩) ?_ ?_
      rotate_left
      · intro w'
        go_simp
        with_reducible rfl
      rotate_left
      · simp only [Act.put, List.setIfInBounds_toArray, List.set_cons_zero, List.set_cons_succ, i64_w, i32_w]
        rfl
      refine pure_ (i := 5) (N := some 12) (v := ?_) (a' := ?_) #[true, true, true, true, true, true, false, true, false, false] rfl rfl (by kernel_rfl) (fun _ _ _ h => h) (Or.inl ⟨by rfl, ?_⟩) ?_ ?_
      rotate_left
      · intro w'
        go_simp
        with_reducible rfl
      rotate_left
      · simp only [Act.put, List.setIfInBounds_toArray, List.set_cons_zero, List.set_cons_succ, i64_w, i32_w]
        rfl
      refine pure_ (i := 6) (N := some 13) (v := ?_) (a' := ?_) #[true, true, true, true, true, true, true, true, false, false] rfl rfl (by kernel_rfl) (fun _ _ _ h => h) (Or.inl ⟨by rfl, ?_⟩) ?_ ?_
      rotate_left
      · intro w'
        go_simp
        with_reducible rfl
      rotate_left
      · simp only [Act.put, List.setIfInBounds_toArray, List.set_cons_zero, List.set_cons_succ, i64_w, i32_w]
        rfl
      exact norm_ (by simp only [putAll, Act.put, List.setIfInBounds_toArray, List.set_cons_zero, List.set_cons_succ]) (hCont (b, g, W.heap.size) _ ⟨k1, hB, b1, bx, hlt, hN, hpg⟩)
  clear hB b1
  rintro ⟨b, g, px⟩ w' ⟨k1, hB, b1, bx, hpx, hN, hpg⟩
  have hHeld : w'.cell? ⟨w.heap.size, 1, none⟩ = some (.int .u32 how) := k1
  refine norm_ (a' := ?_) ?_ ?_
  rotate_left
  · simp only [putAll, Act.put, List.setIfInBounds_toArray, List.set_cons_zero, List.set_cons_succ]
    rfl
  refine one_ (i := 8) (N := none) #[true, true, true, true, true, true, true, true, true, false] rfl rfl (by kernel_rfl) (by decide) (fun K hK => ?_)
  have c0 := bx.cell 0 (v := .slice none 0 0) rfl
  have c1 := bx.cell 1 (v := .int .i64 0) rfl
  have c2 := bx.cell 2 (v := .bool false) rfl
  have f0 := bx.frozen 0
  have f1 := bx.frozen 1
  have f2 := bx.frozen 2
  refine skip_ (w1 := ?_) (by rfl) rfl ?_ ?_
  rotate_left
  · go_simp
    rfl
  have bx := ((bx.set_ 0 (.slice (rowP g how) (rowN how) (rowN how))).set_ 1 (.int .i64 (toldOf how))).set_ 2 (.bool (decide (how = 0)))
  have b1 := ((b1.far (p := ⟨px, 0, none⟩) (Nat.ne_of_lt hpx) (.slice (rowP g how) (rowN how) (rowN how))).far (p := ⟨px, 1, none⟩) (Nat.ne_of_lt hpx) (.int .i64 (toldOf how))).far (p := ⟨px, 2, none⟩) (Nat.ne_of_lt hpx) (.bool (decide (how = 0)))
  have hN := hN.set3 px (.slice (rowP g how) (rowN how) (rowN how)) (.int .i64 (toldOf how)) (.bool (decide (how = 0))) hpg
  have hB := ((hB.setCell (p := ⟨px, 0, none⟩) (Nat.le_of_lt hpx) (.slice (rowP g how) (rowN how) (rowN how))).setCell (p := ⟨px, 1, none⟩) (Nat.le_of_lt hpx) (.int .i64 (toldOf how))).setCell (p := ⟨px, 2, none⟩) (Nat.le_of_lt hpx) (.bool (decide (how = 0)))
  have k1 := b1.cell 1 (v := .int .u32 how) rfl
  clear c0 c1 c2 f0 f1 f2
  refine hK.out _ _ (k1) (fun hHeld => ?_)
  clear hK K
  refine pure_ (i := 9) (N := some 5) (v := ?_) (a' := ?_) #[true, true, true, true, true, true, true, true, true, true] rfl rfl (by kernel_rfl) (fun _ _ _ h => h) (Or.inl ⟨by rfl, ?_⟩) ?_ ?_
  rotate_left
  · intro w'
    go_simp
    with_reducible rfl
  rotate_left
  · simp only [Act.put, List.setIfInBounds_toArray, List.set_cons_zero, List.set_cons_succ, i64_w, i32_w]
    rfl
  refine done_ (by kernel_rfl) ?_
  have bx : Blk _ px 68 #[.slice (rowP g how) (rowN how) (rowN how), .int .i64 (toldOf how), .bool (decide (how = 0))] := bx
  generalize ((w'.setCell ⟨px, 0, none⟩ (.slice (rowP g how) (rowN how) (rowN how))).setCell ⟨px, 1, none⟩ (.int .i64 (toldOf how))).setCell ⟨px, 2, none⟩ (.bool (decide (how = 0))) = W2 at *
  clear hHeld
  rw [decide_eq_true HK.out, decide_eq_false H0.out, HT.out]
  rw [decide_eq_false H0.out, HT.out] at bx
  have t0 : ¬ 0 < body.length := by have := HB.out; omega
  have t1 : (high != 0) = true := bne_iff_ne.2 HHI.out
  have k0 := b1.cell 0 (v := .int .u32 xid) rfl
  have k2 := b1.cell 2 (v := .int .u32 low) rfl
  have k3 := b1.cell 3 (v := .int .u32 high) rfl
  have k4 := b1.cell 4 (v := .slice A body.length c) rfl
  have c0 := bx.cell 0 (v := .slice (rowP g how) (rowN how) (rowN how)) rfl
  have c1 := bx.cell 1 (v := .int .i64 1) rfl
  have c2 := bx.cell 2 (v := .bool false) rfl
  go_wp2
  go_ret2
  exact ⟨rfl, hB⟩


set_option maxRecDepth 100000 in
set_option maxHeartbeats 4000000 in
theorem put_why (xid how low high : Int) (A : Option Addr) (c : Nat) (body : List Int) (w : World) (hx0 : 0 ≤ xid) (hx1 : xid < 4294967296) (hh0 : 0 ≤ how) (hh1 : how < 4294967296) (hl0 : 0 ≤ low) (hl1 : low < 4294967296) (hi0 : 0 ≤ high) (hi1 : high < 4294967296)
    (hr : Rd w A body) (hc : body.length ≤ c) (hn : body.length ≤ 1048000) (hk : how ∈ keysL) (h0 : ¬ how = 0) (hq : how = 101) (ht : toldOf how = 1) (hb : body.length = 0) (hhi : high = 0) (hwy : ¬ (1 ≤ low ∧ low ≤ 7)) :
    Calls Tryd.prog 7 #[.agg #[.int .u32 xid, .int .u32 how, .int .u32 low, .int .u32 high, .slice A body.length c]] w fun e w' => e = .returned (.tuple #[.slice none 0 0, .int .i64 1]) ∧ Below w.heap.size w w' := by
  have b1 := Blk.new w 26 #[.int .u32 xid, .int .u32 how, .int .u32 low, .int .u32 high, .slice A body.length c]
  have hB : Below w.heap.size w (w.alloc (.cells #[.int .u32 xid, .int .u32 how, .int .u32 low, .int .u32 high, .slice A body.length c] 26)) := (Below.refl _ _).alloc (Nat.le_refl _) _
  have HK := Lib.hid hk
  have H0 := Lib.hid h0
  have HQ := Lib.hid hq
  have HT := Lib.hid ht
  have HB := Lib.hid hb
  have HHI := Lib.hid hhi
  have HWY := Lib.hid hwy
  clear hk h0 hq ht hb hhi hwy
  go_enter Tryd.func7, Tryd.ntmps7
  go_wp2_with fail
  generalize w.alloc (.cells #[.int .u32 xid, .int .u32 how, .int .u32 low, .int .u32 high, .slice A body.length c] 26) = W at *
  have hB := below_then hB (below_drawn (w1 := W.drew) (n := 1) rfl)
  have b1 := b1.drew
  have k1 := b1.cell 1 (v := .int .u32 how) rfl
  refine start_ (n := 10) (S := fun w' => w'.cell? ⟨w.heap.size, 1, none⟩ = some (.int .u32 how)) (ds := []) #[false, false, false, false, false, false, false, false, false, false] (by kernel_rfl) rfl rfl (k1) (fun hHeld => ?_)
  refine pure_ (i := 1) (N := some 9) (v := ?_) (a' := ?_) #[false, true, false, false, false, false, false, false, false, false] rfl rfl (by kernel_rfl) (fun _ _ _ h => h) (Or.inl ⟨by rfl, ?_⟩) ?_ ?_
  rotate_left
  · intro w'
    go_simp
    with_reducible rfl
  rotate_left
  · simp only [Act.put, List.setIfInBounds_toArray, List.set_cons_zero, List.set_cons_succ, i64_w, i32_w]
    rfl
  refine take_ (i := 2) (N := some 10) (v := ?_) (a' := ?_) #[false, true, true, false, false, false, false, false, false, false] rfl rfl (by kernel_rfl) (fun _ _ _ h => h) (Or.inl ⟨by rfl, ?_⟩) hHeld ?_ ?_
  rotate_left
  · intro w' s0
    go_simp
    with_reducible rfl
  rotate_left
  · simp only [Act.put, List.setIfInBounds_toArray, List.set_cons_zero, List.set_cons_succ, i64_w, i32_w]
    rfl
  refine join_ (σ := Nat × (Nat → Nat) × Nat) 2 #[true, true, true, true, true, true, true, true, false, false] (fun s' => [(8, .map (some s'.1)), (11, .tuple #[.agg #[.slice (rowP s'.2.1 how) (rowN how) (rowN how), .int .i64 (toldOf how), .bool (decide (how = 0))], .bool (decide (how ∈ keysL))]), (7, .tuple #[.agg #[.slice (rowP s'.2.1 how) (rowN how) (rowN how), .int .i64 (toldOf how), .bool (decide (how = 0))], .bool (decide (how ∈ keysL))]), (12, .agg #[.slice (rowP s'.2.1 how) (rowN how) (rowN how), .int .i64 (toldOf how), .bool (decide (how = 0))]), (13, .bool (decide (how ∈ keysL))), (4, .pointer (some ⟨s'.2.2, 0, none⟩))]) (fun s' w' => w'.cell? ⟨w.heap.size, 1, none⟩ = some (.int .u32 how) ∧ Below w.heap.size w w' ∧ Blk w' w.heap.size 26 #[.int .u32 xid, .int .u32 how, .int .u32 low, .int .u32 high, .slice A body.length c] ∧ Blk w' s'.2.2 68 #[.slice none 0 0, .int .i64 0, .bool false] ∧ w.heap.size < s'.2.2 ∧ NumsAt w' s'.2.1 ∧ (∀ k ∈ keysL, s'.2.1 (ixOf k) ≠ s'.2.2)) ?_ ?_
  rotate_left
  · intro hCont
    refine two_ (i := 0) (j := 7) (Ni := some 8) (Nj := some 4) #[true, true, true, false, false, false, false, false, false, false] #[false, true, true, false, false, false, false, true, false, false] rfl rfl rfl rfl (by kernel_rfl) (by decide) (by decide) (fun K hK => ?_) (fun K hK => ?_)
    · skip
      refine goes_ Tryd.func29 (by kernel_rfl) rfl #[] (by rfl) rfl rfl (by simp only [List.map_toArray, List.map_cons, List.map_nil]) ?_
      with_reducible refine (rows_all _).mono ?_
      rintro e w3 ⟨b, g, rfl, hbb, hgk, hM, hN, hbx⟩
      refine ⟨_, rfl, ?_⟩
      have k1 := cell_later hbx k1
      have b1 := b1.below hbx
      have hB := below_then hB hbx
      refine hK.out _ _ (k1) (fun hHeld => ?_)
      clear hK K
      refine norm_ (a' := ?_) ?_ ?_
      rotate_left
      · show Act.put _ (some 8) _ = _
        simp only [Act.put, List.setIfInBounds_toArray, List.set_cons_zero, List.set_cons_succ, i64_w, i32_w]
        rfl
      refine two_ (i := 3) (j := 7) (Ni := some 11) (Nj := some 4) #[true, true, true, true, false, false, false, false, false, false] #[true, true, true, false, false, false, false, true, false, false] rfl rfl rfl rfl (by kernel_rfl) (by decide) (by decide) (fun K hK => ?_) (fun K hK => ?_)
      · skip
        have hq := look2 hM hh0 hh1
        rw [rowK_or, in_keys] at hq
        refine value_ (w1 := ?_) (v := ?_) (by rfl) rfl ?_ ?_
        rotate_left 2
        · go_simp
          constructor
          · rfl
          · rfl
        clear hq
        refine hK.out _ _ (k1) (fun hHeld => ?_)
        clear hK K
        refine norm_ (a' := ?_) ?_ ?_
        rotate_left
        · show Act.put _ (some 11) _ = _
          simp only [Act.put, List.setIfInBounds_toArray, List.set_cons_zero, List.set_cons_succ, i64_w, i32_w]
          rfl
        refine pure_ (i := 4) (N := some 7) (v := ?_) (a' := ?_) #[true, true, true, true, true, false, false, false, false, false] rfl rfl (by kernel_rfl) (fun _ _ _ h => h) (Or.inl ⟨by rfl, ?_⟩) ?_ ?_
        rotate_left
        · intro w'
          go_simp
          with_reducible rfl
        rotate_left
        · simp only [Act.put, List.setIfInBounds_toArray, List.set_cons_zero, List.set_cons_succ, i64_w, i32_w]
          rfl
        refine pure_ (i := 5) (N := some 12) (v := ?_) (a' := ?_) #[true, true, true, true, true, true, false, false, false, false] rfl rfl (by kernel_rfl) (fun _ _ _ h => h) (Or.inl ⟨by rfl, ?_⟩) ?_ ?_
        rotate_left
        · intro w'
          go_simp
          with_reducible rfl
        rotate_left
        · simp only [Act.put, List.setIfInBounds_toArray, List.set_cons_zero, List.set_cons_succ, i64_w, i32_w]
          rfl
        refine pure_ (i := 6) (N := some 13) (v := ?_) (a' := ?_) #[true, true, true, true, true, true, true, false, false, false] rfl rfl (by kernel_rfl) (fun _ _ _ h => h) (Or.inl ⟨by rfl, ?_⟩) ?_ ?_
        rotate_left
        · intro w'
          go_simp
          with_reducible rfl
        rotate_left
        · simp only [Act.put, List.setIfInBounds_toArray, List.set_cons_zero, List.set_cons_succ, i64_w, i32_w]
          rfl
        refine one_ (i := 7) (N := some 4) #[true, true, true, true, true, true, true, true, false, false] rfl rfl (by kernel_rfl) (by decide) (fun K hK => ?_)
        refine value_ (w1 := ?_) (v := ?_) (by rfl) rfl ?_ ?_
        rotate_left 2
        · go_simp
          constructor
          · rfl
          · rfl
        have hlt : w.heap.size < w3.heap.size := b1.lt
        have bx := Blk.new w3 68 #[.slice none 0 0, .int .i64 0, .bool false]
        have b1 := b1.alloc (.cells #[.slice none 0 0, .int .i64 0, .bool false] 68)
        have k1 := cell_old k1 (.cells #[.slice none 0 0, .int .i64 0, .bool false] 68)
        have hB := hB.alloc hB.size (.cells #[.slice none 0 0, .int .i64 0, .bool false] 68)
        have hpg : ∀ k ∈ keysL, g (ixOf k) ≠ w3.heap.size := fun k hk => by have := (hN k hk).lt; omega
        have hM := hM.below ((Below.refl _ w3).alloc (Nat.le_refl _) (.cells #[.slice none 0 0, .int .i64 0, .bool false] 68))
        have hN := hN.below ((Below.refl _ w3).alloc (Nat.le_refl _) (.cells #[.slice none 0 0, .int .i64 0, .bool false] 68))
        refine hK.out _ _ (k1) (fun hHeld => ?_)
        clear hK K
        refine norm_ (a' := ?_) ?_ ?_
        rotate_left
        · show Act.put _ (some 4) _ = _
          simp only [Act.put, List.setIfInBounds_toArray, List.set_cons_zero, List.set_cons_succ, i64_w, i32_w]
          rfl
        exact norm_ (by simp only [putAll, Act.put, List.setIfInBounds_toArray, List.set_cons_zero, List.set_cons_succ]) (hCont (b, g, w3.heap.size) _ ⟨k1, hB, b1, bx, hlt, hN, hpg⟩)
      · skip
        refine value_ (w1 := ?_) (v := ?_) (by rfl) rfl ?_ ?_
        rotate_left 2
        · go_simp
          constructor
          · rfl
          · rfl
        have hlt : w.heap.size < w3.heap.size := b1.lt
        have bx := Blk.new w3 68 #[.slice none 0 0, .int .i64 0, .bool false]
        have b1 := b1.alloc (.cells #[.slice none 0 0, .int .i64 0, .bool false] 68)
        have k1 := cell_old k1 (.cells #[.slice none 0 0, .int .i64 0, .bool false] 68)
        have hB := hB.alloc hB.size (.cells #[.slice none 0 0, .int .i64 0, .bool false] 68)
        have hpg : ∀ k ∈ keysL, g (ixOf k) ≠ w3.heap.size := fun k hk => by have := (hN k hk).lt; omega
        have hM := hM.below ((Below.refl _ w3).alloc (Nat.le_refl _) (.cells #[.slice none 0 0, .int .i64 0, .bool false] 68))
        have hN := hN.below ((Below.refl _ w3).alloc (Nat.le_refl _) (.cells #[.slice none 0 0, .int .i64 0, .bool false] 68))
        refine hK.out _ _ (k1) (fun hHeld => ?_)
        clear hK K
        refine norm_ (a' := ?_) ?_ ?_
        rotate_left
        · show Act.put _ (some 4) _ = _
          simp only [Act.put, List.setIfInBounds_toArray, List.set_cons_zero, List.set_cons_succ, i64_w, i32_w]
          rfl
        refine one_ (i := 3) (N := some 11) #[true, true, true, true, false, false, false, true, false, false] rfl rfl (by kernel_rfl) (by decide) (fun K hK => ?_)
        have hq := look2 hM hh0 hh1
        rw [rowK_or, in_keys] at hq
        refine value_ (w1 := ?_) (v := ?_) (by rfl) rfl ?_ ?_
        rotate_left 2
        · go_simp
          constructor
          · rfl
          · rfl
        clear hq
        refine hK.out _ _ (k1) (fun hHeld => ?_)
        clear hK K
        refine norm_ (a' := ?_) ?_ ?_
        rotate_left
        · show Act.put _ (some 11) _ = _
          simp only [Act.put, List.setIfInBounds_toArray, List.set_cons_zero, List.set_cons_succ, i64_w, i32_w]
          rfl
        refine pure_ (i := 4) (N := some 7) (v := ?_) (a' := ?_) #[true, true, true, true, true, false, false, true, false, false] rfl rfl (by kernel_rfl) (fun _ _ _ h => h) (Or.inl ⟨by rfl, ?_⟩) ?_ ?_
        rotate_left
        · intro w'
          go_simp
          with_reducible rfl
        rotate_left
        · simp only [Act.put, List.setIfInBounds_toArray, List.set_cons_zero, List.set_cons_succ, i64_w, i32_w]
          rfl
        refine pure_ (i := 5) (N := some 12) (v := ?_) (a' := ?_) #[true, true, true, true, true, true, false, true, false, false] rfl rfl (by kernel_rfl) (fun _ _ _ h => h) (Or.inl ⟨by rfl, ?_⟩) ?_ ?_
        rotate_left
        · intro w'
          go_simp
          with_reducible rfl
        rotate_left
        · simp only [Act.put, List.setIfInBounds_toArray, List.set_cons_zero, List.set_cons_succ, i64_w, i32_w]
          rfl
        refine pure_ (i := 6) (N := some 13) (v := ?_) (a' := ?_) #[true, true, true, true, true, true, true, true, false, false] rfl rfl (by kernel_rfl) (fun _ _ _ h => h) (Or.inl ⟨by rfl, ?_⟩) ?_ ?_
        rotate_left
        · intro w'
          go_simp
          with_reducible rfl
        rotate_left
        · simp only [Act.put, List.setIfInBounds_toArray, List.set_cons_zero, List.set_cons_succ, i64_w, i32_w]
          rfl
        exact norm_ (by simp only [putAll, Act.put, List.setIfInBounds_toArray, List.set_cons_zero, List.set_cons_succ]) (hCont (b, g, w3.heap.size) _ ⟨k1, hB, b1, bx, hlt, hN, hpg⟩)
    · skip
      refine value_ (w1 := ?_) (v := ?_) (by rfl) rfl ?_ ?_
      rotate_left 2
      · go_simp
        constructor
        · rfl
        · rfl
      have hlt : w.heap.size < W.heap.size := b1.lt
      have bx := Blk.new W.drew 68 #[.slice none 0 0, .int .i64 0, .bool false]
      have b1 := b1.alloc (.cells #[.slice none 0 0, .int .i64 0, .bool false] 68)
      have k1 := cell_old k1 (.cells #[.slice none 0 0, .int .i64 0, .bool false] 68)
      have hB := hB.alloc hB.size (.cells #[.slice none 0 0, .int .i64 0, .bool false] 68)
      refine hK.out _ _ (k1) (fun hHeld => ?_)
      clear hK K
      refine norm_ (a' := ?_) ?_ ?_
      rotate_left
      · show Act.put _ (some 4) _ = _
        simp only [Act.put, List.setIfInBounds_toArray, List.set_cons_zero, List.set_cons_succ, i64_w, i32_w]
        rfl
      refine one_ (i := 0) (N := some 8) #[true, true, true, false, false, false, false, true, false, false] rfl rfl (by kernel_rfl) (by decide) (fun K hK => ?_)
      refine goes_ Tryd.func29 (by kernel_rfl) rfl #[] (by rfl) rfl rfl (by simp only [List.map_toArray, List.map_cons, List.map_nil]) ?_
      with_reducible refine (rows_all _).mono ?_
      rintro e w3 ⟨b, g, rfl, hbb, hgk, hM, hN, hbx⟩
      refine ⟨_, rfl, ?_⟩
      have k1 := cell_later hbx k1
      have b1 := b1.below hbx
      have bx := bx.below hbx
      have hpg : ∀ k ∈ keysL, g (ixOf k) ≠ W.drew.heap.size := fun k hk => by have := hgk k hk; simp at hbb ⊢; omega
      have hB := below_then hB hbx
      refine hK.out _ _ (k1) (fun hHeld => ?_)
      clear hK K
      refine norm_ (a' := ?_) ?_ ?_
      rotate_left
      · show Act.put _ (some 8) _ = _
        simp only [Act.put, List.setIfInBounds_toArray, List.set_cons_zero, List.set_cons_succ, i64_w, i32_w]
        rfl
      refine one_ (i := 3) (N := some 11) #[true, true, true, true, false, false, false, true, false, false] rfl rfl (by kernel_rfl) (by decide) (fun K hK => ?_)
      have hq := look2 hM hh0 hh1
      rw [rowK_or, in_keys] at hq
      refine value_ (w1 := ?_) (v := ?_) (by rfl) rfl ?_ ?_
      rotate_left 2
      · go_simp
        constructor
        · rfl
        · rfl
      clear hq
      refine hK.out _ _ (k1) (fun hHeld => ?_)
      clear hK K
      refine norm_ (a' := ?_) ?_ ?_
      rotate_left
      · show Act.put _ (some 11) _ = _
        simp only [Act.put, List.setIfInBounds_toArray, List.set_cons_zero, List.set_cons_succ, i64_w, i32_w]
        rfl
      refine pure_ (i := 4) (N := some 7) (v := ?_) (a' := ?_) #[true, true, true, true, true, false, false, true, false, false] rfl rfl (by kernel_rfl) (fun _ _ _ h => h) (Or.inl ⟨by rfl, ?_⟩) ?_ ?_
      rotate_left
      · intro w'
        go_simp
        with_reducible rfl
      rotate_left
      · simp only [Act.put, List.setIfInBounds_toArray, List.set_cons_zero, List.set_cons_succ, i64_w, i32_w]
        rfl
      refine pure_ (i := 5) (N := some 12) (v := ?_) (a' := ?_) #[true, true, true, true, true, true, false, true, false, false] rfl rfl (by kernel_rfl) (fun _ _ _ h => h) (Or.inl ⟨by rfl, ?_⟩) ?_ ?_
      rotate_left
      · intro w'
        go_simp
        with_reducible rfl
      rotate_left
      · simp only [Act.put, List.setIfInBounds_toArray, List.set_cons_zero, List.set_cons_succ, i64_w, i32_w]
        rfl
      refine pure_ (i := 6) (N := some 13) (v := ?_) (a' := ?_) #[true, true, true, true, true, true, true, true, false, false] rfl rfl (by kernel_rfl) (fun _ _ _ h => h) (Or.inl ⟨by rfl, ?_⟩) ?_ ?_
      rotate_left
      · intro w'
        go_simp
        with_reducible rfl
      rotate_left
      · simp only [Act.put, List.setIfInBounds_toArray, List.set_cons_zero, List.set_cons_succ, i64_w, i32_w]
        rfl
      exact norm_ (by simp only [putAll, Act.put, List.setIfInBounds_toArray, List.set_cons_zero, List.set_cons_succ]) (hCont (b, g, W.heap.size) _ ⟨k1, hB, b1, bx, hlt, hN, hpg⟩)
  clear hB b1
  rintro ⟨b, g, px⟩ w' ⟨k1, hB, b1, bx, hpx, hN, hpg⟩
  have hHeld : w'.cell? ⟨w.heap.size, 1, none⟩ = some (.int .u32 how) := k1
  refine norm_ (a' := ?_) ?_ ?_
  rotate_left
  · simp only [putAll, Act.put, List.setIfInBounds_toArray, List.set_cons_zero, List.set_cons_succ]
    rfl
  refine one_ (i := 8) (N := none) #[true, true, true, true, true, true, true, true, true, false] rfl rfl (by kernel_rfl) (by decide) (fun K hK => ?_)
  have c0 := bx.cell 0 (v := .slice none 0 0) rfl
  have c1 := bx.cell 1 (v := .int .i64 0) rfl
  have c2 := bx.cell 2 (v := .bool false) rfl
  have f0 := bx.frozen 0
  have f1 := bx.frozen 1
  have f2 := bx.frozen 2
  refine skip_ (w1 := ?_) (by rfl) rfl ?_ ?_
  rotate_left
  · go_simp
    rfl
  have bx := ((bx.set_ 0 (.slice (rowP g how) (rowN how) (rowN how))).set_ 1 (.int .i64 (toldOf how))).set_ 2 (.bool (decide (how = 0)))
  have b1 := ((b1.far (p := ⟨px, 0, none⟩) (Nat.ne_of_lt hpx) (.slice (rowP g how) (rowN how) (rowN how))).far (p := ⟨px, 1, none⟩) (Nat.ne_of_lt hpx) (.int .i64 (toldOf how))).far (p := ⟨px, 2, none⟩) (Nat.ne_of_lt hpx) (.bool (decide (how = 0)))
  have hN := hN.set3 px (.slice (rowP g how) (rowN how) (rowN how)) (.int .i64 (toldOf how)) (.bool (decide (how = 0))) hpg
  have hB := ((hB.setCell (p := ⟨px, 0, none⟩) (Nat.le_of_lt hpx) (.slice (rowP g how) (rowN how) (rowN how))).setCell (p := ⟨px, 1, none⟩) (Nat.le_of_lt hpx) (.int .i64 (toldOf how))).setCell (p := ⟨px, 2, none⟩) (Nat.le_of_lt hpx) (.bool (decide (how = 0)))
  have k1 := b1.cell 1 (v := .int .u32 how) rfl
  clear c0 c1 c2 f0 f1 f2
  refine hK.out _ _ (k1) (fun hHeld => ?_)
  clear hK K
  refine pure_ (i := 9) (N := some 5) (v := ?_) (a' := ?_) #[true, true, true, true, true, true, true, true, true, true] rfl rfl (by kernel_rfl) (fun _ _ _ h => h) (Or.inl ⟨by rfl, ?_⟩) ?_ ?_
  rotate_left
  · intro w'
    go_simp
    with_reducible rfl
  rotate_left
  · simp only [Act.put, List.setIfInBounds_toArray, List.set_cons_zero, List.set_cons_succ, i64_w, i32_w]
    rfl
  refine done_ (by kernel_rfl) ?_
  have bx : Blk _ px 68 #[.slice (rowP g how) (rowN how) (rowN how), .int .i64 (toldOf how), .bool (decide (how = 0))] := bx
  generalize ((w'.setCell ⟨px, 0, none⟩ (.slice (rowP g how) (rowN how) (rowN how))).setCell ⟨px, 1, none⟩ (.int .i64 (toldOf how))).setCell ⟨px, 2, none⟩ (.bool (decide (how = 0))) = W2 at *
  clear hHeld
  rw [decide_eq_true HK.out, decide_eq_false H0.out, HT.out]
  rw [decide_eq_false H0.out, HT.out] at bx
  have t0 : ¬ 0 < body.length := by have := HB.out; omega
  have t1 : (high != 0) = false := bne_eq_false_iff_eq.2 HHI.out
  have t2 : (how == 101) = true := beq_iff_eq.2 HQ.out
  have k0 := b1.cell 0 (v := .int .u32 xid) rfl
  have k2 := b1.cell 2 (v := .int .u32 low) rfl
  have k3 := b1.cell 3 (v := .int .u32 high) rfl
  have k4 := b1.cell 4 (v := .slice A body.length c) rfl
  have c0 := bx.cell 0 (v := .slice (rowP g how) (rowN how) (rowN how)) rfl
  have c1 := bx.cell 1 (v := .int .i64 1) rfl
  have c2 := bx.cell 2 (v := .bool false) rfl
  go_wp2_with fail
  refine (why_ low _).mono ?_
  rintro e wy ⟨rfl, rfl⟩
  rw [decide_eq_false HWY.out]
  go_wp2
  go_ret2
  exact ⟨rfl, hB⟩

end Go.Proofs.YtoodmjdafifbmaaDoor.Hand
