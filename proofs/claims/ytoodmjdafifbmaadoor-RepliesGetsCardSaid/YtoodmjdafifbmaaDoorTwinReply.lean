/- TwinReply, LeftReply, and a Book that is told a reply. -/
import Derived.Test.YtoodmjdafifbmaaDoorWLast
import Derived.Test.YtoodmjdafifbmaaDoorHelp
import Derived.Test.YtoodmjdafifbmaaDoorApartOf
import Derived.Test.YtoodmjdafifbmaaDoorRefRep
namespace Go.Proofs.YtoodmjdafifbmaaDoor.Hand
open Go.RowKit Go.Proofs.YtoodmjdafifbmaaDoorW.PrintLast
set_option linter.unusedVariables false
set_option linter.unusedSimpArgs false

set_option maxRecDepth 100000 in
set_option maxHeartbeats 2000000 in
theorem twinReply (xid how low high : Int) (A : Option Addr) (c : Nat) (l : List Int) (w : World) (hr : Rd w A l) (hn : l.length ≤ 140737488351232) :
    Calls Tryd.prog 6 #[.agg #[.int .u32 xid, .int .u32 how, .int .u32 low, .int .u32 high, .slice A l.length c]] w fun e w' => ∃ g cap, e = .returned (.agg #[.int .u32 xid, .int .u32 how, .int .u32 low, .int .u32 high, .slice (some ⟨g, 0, none⟩) l.length cap]) ∧ Own w' w.heap.size (.slice (some ⟨g, 0, none⟩) (l.length + 1) cap) (l ++ [77]) ∧ Below w.heap.size w w' := by
  have b1 := (Blk.new w 26 #[.int .u32 xid, .int .u32 how, .int .u32 low, .int .u32 high, .slice A l.length c]).alloc (.cells #[.int .u32 0, .int .u32 0, .int .u32 0, .int .u32 0, .slice none 0 0] 26)
  have b2 := Blk.new (w.alloc (.cells #[.int .u32 xid, .int .u32 how, .int .u32 low, .int .u32 high, .slice A l.length c] 26)) 26 #[.int .u32 0, .int .u32 0, .int .u32 0, .int .u32 0, .slice none 0 0]
  have hB : Below w.heap.size w ((w.alloc (.cells #[.int .u32 xid, .int .u32 how, .int .u32 low, .int .u32 high, .slice A l.length c] 26)).alloc (.cells #[.int .u32 0, .int .u32 0, .int .u32 0, .int .u32 0, .slice none 0 0] 26)) := ((Below.refl _ w).alloc (Nat.le_refl _) _).alloc (by simp) _
  rw [World.size_alloc] at b2
  go_enter Tryd.func6, Tryd.ntmps6
  go_upto_region 1 with fail
  generalize (w.alloc (.cells #[.int .u32 xid, .int .u32 how, .int .u32 low, .int .u32 high, .slice A l.length c] 26)).alloc (.cells #[.int .u32 0, .int .u32 0, .int .u32 0, .int .u32 0, .slice none 0 0] 26) = W at *
  have hd := below_drawn (w := W) (w1 := W.drew) (n := 1) rfl
  have HT := Lib.hid (twin A c l W.drew (hr.below (below_then hB hd)) hn)
  have k0 : W.drew.cell? _ = _ := b1.cell 0 (v := .int .u32 xid) rfl
  have k1 : W.drew.cell? _ = _ := b1.cell 1 (v := .int .u32 how) rfl
  have k2 : W.drew.cell? _ = _ := b1.cell 2 (v := .int .u32 low) rfl
  have k3 : W.drew.cell? _ = _ := b1.cell 3 (v := .int .u32 high) rfl
  have k4 : W.drew.cell? _ = _ := b1.cell 4 (v := .slice A l.length c) rfl
  have b1 : Blk W.drew _ _ _ := b1
  have b2 : Blk W.drew _ _ _ := b2
  have hB := below_then hB hd
  have hwW : w.heap.size ≤ W.drew.heap.size := hB.size
  refine start_ (n := 13) (S := fun w' => w'.cell? ⟨w.heap.size, 0, none⟩ = some (.int .u32 xid) ∧ w'.cell? ⟨w.heap.size, 1, none⟩ = some (.int .u32 how) ∧ w'.cell? ⟨w.heap.size, 2, none⟩ = some (.int .u32 low) ∧ w'.cell? ⟨w.heap.size, 3, none⟩ = some (.int .u32 high) ∧ w'.cell? ⟨w.heap.size, 4, none⟩ = some (.slice A l.length c)) (ds := []) #[false, false, false, false, false, false, false, false, false, false, false, false, false] (by kernel_rfl) rfl rfl ⟨k0, k1, k2, k3, k4⟩ (fun hHeld => ?_)
  refine pure_ (i := 0) (N := some 3) (v := ?_) (a' := ?_) #[true, false, false, false, false, false, false, false, false, false, false, false, false] rfl rfl (by kernel_rfl) (fun _ _ _ h => h) (Or.inl ⟨by rfl, ?_⟩) ?_ ?_
  rotate_left
  · intro w'
    go_simp
    with_reducible rfl
  rotate_left
  · simp only [Act.put, List.setIfInBounds_toArray, List.set_cons_zero, List.set_cons_succ, i64_w, i32_w]
    rfl
  refine pure_ (i := 2) (N := some 5) (v := ?_) (a' := ?_) #[true, false, true, false, false, false, false, false, false, false, false, false, false] rfl rfl (by kernel_rfl) (fun _ _ _ h => h) (Or.inl ⟨by rfl, ?_⟩) ?_ ?_
  rotate_left
  · intro w'
    go_simp
    with_reducible rfl
  rotate_left
  · simp only [Act.put, List.setIfInBounds_toArray, List.set_cons_zero, List.set_cons_succ, i64_w, i32_w]
    rfl
  refine pure_ (i := 4) (N := some 7) (v := ?_) (a' := ?_) #[true, false, true, false, true, false, false, false, false, false, false, false, false] rfl rfl (by kernel_rfl) (fun _ _ _ h => h) (Or.inl ⟨by rfl, ?_⟩) ?_ ?_
  rotate_left
  · intro w'
    go_simp
    with_reducible rfl
  rotate_left
  · simp only [Act.put, List.setIfInBounds_toArray, List.set_cons_zero, List.set_cons_succ, i64_w, i32_w]
    rfl
  refine pure_ (i := 6) (N := some 9) (v := ?_) (a' := ?_) #[true, false, true, false, true, false, true, false, false, false, false, false, false] rfl rfl (by kernel_rfl) (fun _ _ _ h => h) (Or.inl ⟨by rfl, ?_⟩) ?_ ?_
  rotate_left
  · intro w'
    go_simp
    with_reducible rfl
  rotate_left
  · simp only [Act.put, List.setIfInBounds_toArray, List.set_cons_zero, List.set_cons_succ, i64_w, i32_w]
    rfl
  refine pure_ (i := 8) (N := some 11) (v := ?_) (a' := ?_) #[true, false, true, false, true, false, true, false, true, false, false, false, false] rfl rfl (by kernel_rfl) (fun _ _ _ h => h) (Or.inl ⟨by rfl, ?_⟩) ?_ ?_
  rotate_left
  · intro w'
    go_simp
    with_reducible rfl
  rotate_left
  · simp only [Act.put, List.setIfInBounds_toArray, List.set_cons_zero, List.set_cons_succ, i64_w, i32_w]
    rfl
  refine take_ (i := 1) (N := some 4) (v := ?_) (a' := ?_) #[true, true, true, false, true, false, true, false, true, false, false, false, false] rfl rfl (by kernel_rfl) (fun _ _ _ h => h) (Or.inl ⟨by rfl, ?_⟩) hHeld ?_ ?_
  rotate_left
  · rintro w' ⟨s0, s1, s2, s3, s4⟩
    go_simp
    with_reducible rfl
  rotate_left
  · simp only [Act.put, List.setIfInBounds_toArray, List.set_cons_zero, List.set_cons_succ, i64_w, i32_w]
    rfl
  refine take_ (i := 3) (N := some 6) (v := ?_) (a' := ?_) #[true, true, true, true, true, false, true, false, true, false, false, false, false] rfl rfl (by kernel_rfl) (fun _ _ _ h => h) (Or.inl ⟨by rfl, ?_⟩) hHeld ?_ ?_
  rotate_left
  · rintro w' ⟨s0, s1, s2, s3, s4⟩
    go_simp
    with_reducible rfl
  rotate_left
  · simp only [Act.put, List.setIfInBounds_toArray, List.set_cons_zero, List.set_cons_succ, i64_w, i32_w]
    rfl
  refine take_ (i := 5) (N := some 8) (v := ?_) (a' := ?_) #[true, true, true, true, true, true, true, false, true, false, false, false, false] rfl rfl (by kernel_rfl) (fun _ _ _ h => h) (Or.inl ⟨by rfl, ?_⟩) hHeld ?_ ?_
  rotate_left
  · rintro w' ⟨s0, s1, s2, s3, s4⟩
    go_simp
    with_reducible rfl
  rotate_left
  · simp only [Act.put, List.setIfInBounds_toArray, List.set_cons_zero, List.set_cons_succ, i64_w, i32_w]
    rfl
  refine take_ (i := 7) (N := some 10) (v := ?_) (a' := ?_) #[true, true, true, true, true, true, true, true, true, false, false, false, false] rfl rfl (by kernel_rfl) (fun _ _ _ h => h) (Or.inl ⟨by rfl, ?_⟩) hHeld ?_ ?_
  rotate_left
  · rintro w' ⟨s0, s1, s2, s3, s4⟩
    go_simp
    with_reducible rfl
  rotate_left
  · simp only [Act.put, List.setIfInBounds_toArray, List.set_cons_zero, List.set_cons_succ, i64_w, i32_w]
    rfl
  refine take_ (i := 9) (N := some 12) (v := ?_) (a' := ?_) #[true, true, true, true, true, true, true, true, true, true, false, false, false] rfl rfl (by kernel_rfl) (fun _ _ _ h => h) (Or.inl ⟨by rfl, ?_⟩) hHeld ?_ ?_
  rotate_left
  · rintro w' ⟨s0, s1, s2, s3, s4⟩
    go_simp
    with_reducible rfl
  rotate_left
  · simp only [Act.put, List.setIfInBounds_toArray, List.set_cons_zero, List.set_cons_succ, i64_w, i32_w]
    rfl
  refine one_ (i := 10) (N := some 13) #[true, true, true, true, true, true, true, true, true, true, true, false, false] rfl rfl (by kernel_rfl) (by decide) (fun K hK => ?_)
  refine goes_ Tryd.func21 (by kernel_rfl) rfl #[.slice A l.length c] (by rfl) rfl rfl (by simp only [List.map_toArray, List.map_cons, List.map_nil]; rfl) ?_
  with_reducible refine (HT.out).mono ?_
  rintro e w5 ⟨g, cap, rfl, ot, hx5⟩
  refine ⟨_, rfl, ?_⟩
  have k0 := cell_later hx5 k0
  have k1 := cell_later hx5 k1
  have k2 := cell_later hx5 k2
  have k3 := cell_later hx5 k3
  have k4 := cell_later hx5 k4
  have b1 := b1.below hx5
  have b2 := b2.below hx5
  have hB := below_then hB hx5
  have ot := ot.lower (base' := w.heap.size) hwW
  refine hK.out _ _ ⟨k0, k1, k2, k3, k4⟩ (fun hHeld => ?_)
  clear hK K
  refine norm_ (a' := ?_) ?_ ?_
  rotate_left
  · show Act.put _ (some 13) _ = _
    simp only [Act.put, List.setIfInBounds_toArray, List.set_cons_zero, List.set_cons_succ, i64_w, i32_w]
    rfl
  refine pure_ (i := 11) (N := some 14) (v := ?_) (a' := ?_) #[true, true, true, true, true, true, true, true, true, true, true, true, false] rfl rfl (by kernel_rfl) (fun _ _ _ h => h) (Or.inl ⟨by rfl, ?_⟩) ?_ ?_
  rotate_left
  · intro w'
    go_simp
    with_reducible rfl
  rotate_left
  · simp only [Act.put, List.setIfInBounds_toArray, List.set_cons_zero, List.set_cons_succ, i64_w, i32_w]
    rfl
  refine one_ (i := 12) (N := none) #[true, true, true, true, true, true, true, true, true, true, true, true, true] rfl rfl (by kernel_rfl) (by decide) (fun K hK => ?_)
  have z0 := b2.cell 0 (v := .int .u32 0) rfl
  have z1 := b2.cell 1 (v := .int .u32 0) rfl
  have z2 := b2.cell 2 (v := .int .u32 0) rfl
  have z3 := b2.cell 3 (v := .int .u32 0) rfl
  have z4 := b2.cell 4 (v := .slice none 0 0) rfl
  have y0 := b2.frozen 0
  have y1 := b2.frozen 1
  have y2 := b2.frozen 2
  have y3 := b2.frozen 3
  have y4 := b2.frozen 4
  have hno : some (w.heap.size + 1) ≠ (Value.slice (some ⟨g, 0, none⟩) (l.length + 1) cap).ownBlock := ot.blk_ne b2 (by decide)
  refine skip_ (w1 := ?_) (by rfl) rfl ?_ ?_
  rotate_left
  · go_simp
    rfl
  have b2 := (((((b2.set_ 0 (.int .u32 xid)).set_ 1 (.int .u32 how)).set_ 2 (.int .u32 low)).set_ 3 (.int .u32 high)).set_ 4 (.slice (some ⟨g, 0, none⟩) l.length cap))
  have hB := (((((hB.setCell (p := ⟨w.heap.size + 1, 0, none⟩) (Nat.le_succ _) (.int .u32 xid)).setCell (p := ⟨w.heap.size + 1, 1, none⟩) (Nat.le_succ _) (.int .u32 how)).setCell (p := ⟨w.heap.size + 1, 2, none⟩) (Nat.le_succ _) (.int .u32 low)).setCell (p := ⟨w.heap.size + 1, 3, none⟩) (Nat.le_succ _) (.int .u32 high)).setCell (p := ⟨w.heap.size + 1, 4, none⟩) (Nat.le_succ _) (.slice (some ⟨g, 0, none⟩) l.length cap))
  have ot := (((((ot.setAny (w.heap.size + 1) 0 (.int .u32 xid) hno).setAny (w.heap.size + 1) 1 (.int .u32 how) hno).setAny (w.heap.size + 1) 2 (.int .u32 low) hno).setAny (w.heap.size + 1) 3 (.int .u32 high) hno).setAny (w.heap.size + 1) 4 (.slice (some ⟨g, 0, none⟩) l.length cap) hno)
  have b1 := (((((b1.far (p := ⟨w.heap.size + 1, 0, none⟩) (Nat.ne_of_lt (Nat.lt_succ_self _)) (.int .u32 xid)).far (p := ⟨w.heap.size + 1, 1, none⟩) (Nat.ne_of_lt (Nat.lt_succ_self _)) (.int .u32 how)).far (p := ⟨w.heap.size + 1, 2, none⟩) (Nat.ne_of_lt (Nat.lt_succ_self _)) (.int .u32 low)).far (p := ⟨w.heap.size + 1, 3, none⟩) (Nat.ne_of_lt (Nat.lt_succ_self _)) (.int .u32 high)).far (p := ⟨w.heap.size + 1, 4, none⟩) (Nat.ne_of_lt (Nat.lt_succ_self _)) (.slice (some ⟨g, 0, none⟩) l.length cap))
  have k0 := b1.cell 0 (v := .int .u32 xid) rfl
  have k1 := b1.cell 1 (v := .int .u32 how) rfl
  have k2 := b1.cell 2 (v := .int .u32 low) rfl
  have k3 := b1.cell 3 (v := .int .u32 high) rfl
  have k4 := b1.cell 4 (v := .slice A l.length c) rfl
  refine hK.out _ _ ⟨k0, k1, k2, k3, k4⟩ (fun hHeld => ?_)
  clear hK K
  refine done_ (by kernel_rfl) ?_
  have q0 := b2.cell 0 (v := .int .u32 xid) rfl
  have q1 := b2.cell 1 (v := .int .u32 how) rfl
  have q2 := b2.cell 2 (v := .int .u32 low) rfl
  have q3 := b2.cell 3 (v := .int .u32 high) rfl
  have q4 := b2.cell 4 (v := .slice (some ⟨g, 0, none⟩) l.length cap) rfl
  go_wp2_with fail
  exact bodyPost_ret (v := .agg #[.int .u32 xid, .int .u32 how, .int .u32 low, .int .u32 high, .slice (some ⟨g, 0, none⟩) l.length cap]) (by simp [results, Tryd.f6, go_sem, q0, q1, q2, q3, q4]) rfl ⟨g, cap, rfl, ot, hB⟩

set_option maxRecDepth 100000 in
set_option maxHeartbeats 2000000 in
theorem leftReply (x h lo hi : Int) (g cap : Nat) (B : Option Addr) (d : Nat) (l : List Int) (w : World) (ht : Rd w (some ⟨g, 0, none⟩) (l ++ [77])) (hcap : l.length + 1 ≤ cap) (hm : Rd w B l) (hn : l.length ≤ 140737488351232) :
    Calls Tryd.prog 10 #[.agg #[.int .u32 x, .int .u32 h, .int .u32 lo, .int .u32 hi, .slice (some ⟨g, 0, none⟩) l.length cap], .agg #[.int .u32 x, .int .u32 h, .int .u32 lo, .int .u32 hi, .slice B l.length d]] w fun e w' => e = .returned (.bool true) ∧ Below w.heap.size w w' := by
  have b1 := (Blk.new w 26 #[.int .u32 x, .int .u32 h, .int .u32 lo, .int .u32 hi, .slice (some ⟨g, 0, none⟩) l.length cap]).alloc (.cells #[.int .u32 x, .int .u32 h, .int .u32 lo, .int .u32 hi, .slice B l.length d] 26)
  have b2 := Blk.new (w.alloc (.cells #[.int .u32 x, .int .u32 h, .int .u32 lo, .int .u32 hi, .slice (some ⟨g, 0, none⟩) l.length cap] 26)) 26 #[.int .u32 x, .int .u32 h, .int .u32 lo, .int .u32 hi, .slice B l.length d]
  have hB : Below w.heap.size w ((w.alloc (.cells #[.int .u32 x, .int .u32 h, .int .u32 lo, .int .u32 hi, .slice (some ⟨g, 0, none⟩) l.length cap] 26)).alloc (.cells #[.int .u32 x, .int .u32 h, .int .u32 lo, .int .u32 hi, .slice B l.length d] 26)) := ((Below.refl _ w).alloc (Nat.le_refl _) _).alloc (by simp) _
  rw [World.size_alloc] at b2
  have p0 := b1.cell 0 (v := .int .u32 x) rfl
  have p1 := b1.cell 1 (v := .int .u32 h) rfl
  have p2 := b1.cell 2 (v := .int .u32 lo) rfl
  have p3 := b1.cell 3 (v := .int .u32 hi) rfl
  have p4 := b1.cell 4 (v := .slice (some ⟨g, 0, none⟩) l.length cap) rfl
  have q0 := b2.cell 0 (v := .int .u32 x) rfl
  have q1 := b2.cell 1 (v := .int .u32 h) rfl
  have q2 := b2.cell 2 (v := .int .u32 lo) rfl
  have q3 := b2.cell 3 (v := .int .u32 hi) rfl
  have q4 := b2.cell 4 (v := .slice B l.length d) rfl
  have e0 : (x == x) = true := by simp
  have e1 : (h == h) = true := by simp
  have e2 : (lo == lo) = true := by simp
  have e3 : (hi == hi) = true := by simp
  have HS := Lib.hid (left g cap B d l _ (ht.below hB) hcap (hm.below hB) hn)
  go_enter Tryd.func10, Tryd.ntmps10
  go_wp2_with fail
  refine HS.out.mono ?_
  rintro e w1 ⟨rfl, n, hw1⟩
  have hB1 : Below w.heap.size w w1 := below_then hB (below_drawn hw1)
  clear HS hw1
  go_wp2_with fail
  go_ret
  exact ⟨rfl, hB1⟩

set_option maxRecDepth 100000 in
set_option maxHeartbeats 2000000 in
theorem bookReply {M : Value} (kb B : Nat) (V : Value) (its : List Value) (x h lo hi : Int) (A : Option Addr) (k d : Nat) (w : World) (hb : BookAt w kb its.length V M) (hrow : w.ownsRow B 98 3 V its.length (heldCells 0 its))
    (hB : B ≤ kb) (hn : its.length ≤ 1000000000) :
    Calls Tryd.prog 11 #[.pointer (some ⟨kb, 0, none⟩), .agg #[.int .u32 x, .int .u32 h, .int .u32 lo, .int .u32 hi, .slice A k d]] w fun e w' => (∃ v, e = .returned v) ∧ ∃ V', BookAt w' kb (its.length + 1) V' M ∧ w'.ownsRow B 98 3 V' (its.length + 1) (heldCells 0 (its ++ [.slice A k d])) ∧
      Below B w w' ∧ (∀ base v l, Own w base v l → Own w' base v l) := by
  have hBw : B ≤ w.heap.size := Nat.le_trans hB (Nat.le_of_lt hb.lt)
  have G := bookBytes (M := M) kb B V its A k d (w.alloc (.cells #[.int .u32 x, .int .u32 h, .int .u32 lo, .int .u32 hi, .slice A k d] 26)) (hb.alloc _) (hrow.alloc _) hB hn
  have b1 := Blk.new w 26 #[.int .u32 x, .int .u32 h, .int .u32 lo, .int .u32 hi, .slice A k d]
  have p4 := b1.cell 4 (v := .slice A k d) rfl
  have HG := Lib.hid G
  clear G
  go_enter Tryd.func11, Tryd.ntmps11
  go_wp2_with fail
  refine HG.out.mono ?_
  rintro e w1 ⟨⟨v, rfl⟩, V', h1, h2, h3, h4⟩
  have H4 := Lib.hid h4
  clear h4 HG
  go_wp2_with fail
  go_end0
  exact ⟨⟨_, rfl⟩, V', h1, h2, ((Below.refl B w).alloc hBw _).trans h3, fun _ _ _ ho => H4.out _ _ _ (ho.alloc _)⟩
end Go.Proofs.YtoodmjdafifbmaaDoor.Hand
