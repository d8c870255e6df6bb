/- The Book is told a list of bytes. -/
import Derived.Test.YtoodmjdafifbmaaDoorBookFill
import Derived.Maps.AppendAt
namespace Go.Proofs.YtoodmjdafifbmaaDoor.Hand
open Go.RowKit Go.Proofs.YtoodmjdafifbmaaDoorW.PrintLast
set_option linter.unusedVariables false
set_option linter.unusedSimpArgs false

/-- What the row holds: each list, nothing behind it yet, its number. -/
def heldCells : Nat → List Value → List Value
  | _, [] => []
  | k, l :: r => l :: .slice none 0 0 :: .int .i64 ((k : Int) + 1) :: heldCells (k + 1) r
theorem heldCells_length : ∀ (k : Nat) (its : List Value), (heldCells k its).length = its.length * 3
  | _, [] => rfl
  | k, l :: r => by simp [heldCells, heldCells_length (k + 1) r]; omega
theorem heldCells_snoc : ∀ (k : Nat) (its : List Value) (l : Value), heldCells k (its ++ [l]) = heldCells k its ++ [l, .slice none 0 0, .int .i64 (((k + its.length : Nat) : Int) + 1)]
  | k, [], l => by simp [heldCells]
  | k, x :: r, l => by
    simp only [List.cons_append, heldCells, heldCells_snoc (k + 1) r l, List.length_cons]
    rw [show k + 1 + r.length = k + (r.length + 1) from by omega]
theorem heldCells_get : ∀ (k : Nat) (its : List Value) (j : Nat) (hj : j < its.length), (heldCells k its)[j * 3]? = some its[j] ∧ (heldCells k its)[j * 3 + 1]? = some (.slice none 0 0) ∧ (heldCells k its)[j * 3 + 2]? = some (.int .i64 (((k + j : Nat) : Int) + 1))
  | _, [], j, hj => by simp at hj
  | k, x :: r, 0, _ => by simp [heldCells]
  | k, x :: r, j + 1, hj => by
    have ih := heldCells_get (k + 1) r j (by simpa using hj)
    have e0 : (j + 1) * 3 = j * 3 + 3 := by omega
    rw [e0]
    simp only [heldCells, List.getElem?_cons_succ, List.getElem_cons_succ]
    rw [show k + (j + 1) = k + 1 + j from by omega]
    exact ih

theorem info86 : (Tryd.prog.info? 98).map (fun i => (i.zero, i.size, i.bytes)) = some (some (.agg #[.slice none 0 0, .slice none 0 0, .int .i64 0]), 3, 56) := by kernel_rfl

theorem row_apart3 {X Y : World} {B B' : Nat} {v u : Value} {n : Nat} {l : List Int} {xs : List Value} (h : Own X B v l) (hu : X.ownsRow B' 98 3 u n xs) (hg : X.grownBy Y u.ownBlock) : Own Y B v l := by
  refine own_kept h hg fun g hv e => ?_
  rcases hu.2 with ⟨rfl, _⟩ | ⟨g', cap', cur', rfl, hb', hgb', _⟩
  · simp [Value.ownBlock] at e
  · exact h.blk_ne (show Blk X g' _ _ from hgb') (by decide) (by rw [hv]; exact e)

/-- The rows of other types than the Book's are as they were. -/
def Others (w w' : World) : Prop := ∀ g t cs, t ≠ 98 → t ≠ 41 → Blk w g t cs → Blk w' g t cs
theorem Others.row {w w' : World} (h : Others w w') {base size n : Nat} {e : TypeId} {v : Value} {xs : List Value} (ho : w.ownsRow base e size v n xs) (h1 : e ≠ 98) (h2 : e ≠ 41) : w'.ownsRow base e size v n xs :=
  ⟨ho.1, ho.2.imp id fun ⟨g, cap, cur, e', hg, hb, r⟩ => ⟨g, cap, cur, e', hg, h g _ _ h1 h2 hb, r⟩⟩
theorem Others.own {w w' : World} (h : Others w w') {base : Nat} {v : Value} {l : List Int} (ho : Own w base v l) : Own w' base v l := ⟨ho.1, h.row ho.2 (by decide) (by decide)⟩
theorem Others.trans {w w' w'' : World} (h : Others w w') (h2 : Others w' w'') : Others w w'' := fun g t cs a b c => h2 g t cs a b (h g t cs a b c)

theorem ownsRow_succ3 {W : World} {base size : Nat} {e : TypeId} {v : Value} {k : Nat} {xs : List Value} (h : W.ownsRow base e size v (k + 1) xs) : ∃ g cap, v = .slice (some ⟨g, 0, none⟩) (k + 1) cap := by
  rcases h.2 with ⟨_, h0⟩ | ⟨g, cap, _, hv, _⟩
  · omega
  · exact ⟨g, cap, hv⟩
theorem cells3_new (w : World) (a b c : Value) (t : TypeId) : ∀ j u, [a, b, c][j]? = some u → (w.alloc (.cells #[a, b, c] t)).cell? ((⟨w.heap.size, 0, none⟩ : Addr).add j) = some u := by
  intro j u h
  rw [add_plain, cell_of_row _ _ _ _ _ _ (heap_alloc_new w _)]
  match j, h with
  | 0, h => exact h
  | 1, h => exact h
  | 2, h => exact h
set_option maxRecDepth 100000 in
set_option maxHeartbeats 4000000 in
theorem keepByte' {M : Value} (kb B : Nat) (V : Value) (its : List Value) (A : Option Addr) (k d : Nat) (w : World) (hb : BookAt w kb its.length V M) (hrow : w.ownsRow B 98 3 V its.length (heldCells 0 its))
    (hB : B ≤ kb) (hn : its.length ≤ 1000000000) :
    Calls Tryd.prog 33 #[.pointer (some ⟨kb, 0, none⟩), .slice A k d] w fun e w' => (∃ v, e = .returned v) ∧ ∃ V', BookAt w' kb (its.length + 1) V' M ∧ w'.ownsRow B 98 3 V' (its.length + 1) (heldCells 0 (its ++ [.slice A k d])) ∧
      Below B w w' ∧ Others w w' := by
  obtain ⟨i0, hi, hz0, hz1, hz2⟩ := info_parts info86
  have hbs : BookAt (w.setCell ⟨kb, 0, none⟩ (.int .i64 ((its.length : Int) + 1))) kb (its.length + 1) V M := Blk.set_ hb 0 (.int .i64 ((its.length : Int) + 1))
  have hkV : some kb ≠ V.ownBlock := by
    rcases hrow.2 with ⟨rfl, _⟩ | ⟨g', cap', cur', rfl, hb', hgb', _⟩
    · simp [Value.ownBlock]
    · intro e
      have : kb = g' := by simpa [Value.ownBlock] using e
      subst this
      exact Blk.ne_ hb (show Blk w kb _ _ from hgb') (by decide) rfl
  have hlk : kb < w.heap.size := Blk.lt hb
  have hown : Others w (w.setCell ⟨kb, 0, none⟩ (.int .i64 ((its.length : Int) + 1))) := fun g t cs _ h2 hg => hg.far (p := ⟨kb, 0, none⟩) (fun e => by cases (show g = kb from e); exact Blk.ne_ hg (show Blk w kb _ _ from hb) h2 rfl) _
  have hr1 : (w.setCell ⟨kb, 0, none⟩ (.int .i64 ((its.length : Int) + 1))).ownsRow B 98 3 V its.length (heldCells 0 its) := hrow.kept (grownBy_setCell_any w kb 0 _) (.inr hkV.symm)
  have hB1 : Below B w (w.setCell ⟨kb, 0, none⟩ (.int .i64 ((its.length : Int) + 1))) := (Below.refl _ w).setCell (by simpa using hB) _
  have k0 := Blk.cell hb 0 (v := .int .i64 its.length) rfl
  have k0f := Blk.frozen hb 0
  have HO := Lib.hid hown
  clear hown
  go_enter Tryd.func33, Tryd.ntmps33
  go_wp2_with fail
  generalize w.setCell ⟨kb, 0, none⟩ (.int .i64 ((its.length : Int) + 1)) = W at *
  have f0 := Blk.cell hbs 0 (v := .int .i64 ((its.length : Int) + 1)) rfl
  have f1 := Blk.cell hbs 1 (v := V) rfl
  have hBs := hB1.size
  clear k0 k0f
  refine start_ (n := 16) (S := fun w' => w'.cell? ⟨kb, 0, none⟩ = some (.int .i64 ((its.length : Int) + 1)) ∧ w'.cell? ⟨kb, 1, none⟩ = some V) (ds := [15]) #[false, false, false, false, false, false, false, false, false, false, false, false, false, false, false, false] (by kernel_rfl) rfl rfl ⟨f0, f1⟩ (fun hHeld => ?_)
  refine pure_ (i := 0) (N := some 11) (v := ?_) (a' := ?_) #[true, false, false, false, false, false, false, false, false, false, false, false, false, false, false, false] rfl rfl (by kernel_rfl) (fun _ _ _ h => h) (Or.inl ⟨by rfl, ?_⟩) ?_ ?_
  rotate_left
  · intro w'
    go_simp
    with_reducible rfl
  rotate_left
  · simp only [Act.put, List.setIfInBounds_toArray, List.set_cons_zero, List.set_cons_succ, i64_w, i32_w]
    rfl
  refine pure_ (i := 1) (N := some 12) (v := ?_) (a' := ?_) #[true, true, false, false, false, false, false, false, false, false, false, false, false, false, false, false] rfl rfl (by kernel_rfl) (fun _ _ _ h => h) (Or.inl ⟨by rfl, ?_⟩) ?_ ?_
  rotate_left
  · intro w'
    go_simp
    with_reducible rfl
  rotate_left
  · simp only [Act.put, List.setIfInBounds_toArray, List.set_cons_zero, List.set_cons_succ, i64_w, i32_w]
    rfl
  refine pure_ (i := 2) (N := some 13) (v := ?_) (a' := ?_) #[true, true, true, false, false, false, false, false, false, false, false, false, false, false, false, false] rfl rfl (by kernel_rfl) (fun _ _ _ h => h) (Or.inl ⟨by rfl, ?_⟩) ?_ ?_
  rotate_left
  · intro w'
    go_simp
    with_reducible rfl
  rotate_left
  · simp only [Act.put, List.setIfInBounds_toArray, List.set_cons_zero, List.set_cons_succ, i64_w, i32_w]
    rfl
  refine pure_ (i := 3) (N := some 14) (v := ?_) (a' := ?_) #[true, true, true, true, false, false, false, false, false, false, false, false, false, false, false, false] rfl rfl (by kernel_rfl) (fun _ _ _ h => h) (Or.inl ⟨by rfl, ?_⟩) ?_ ?_
  rotate_left
  · intro w'
    go_simp
    with_reducible rfl
  rotate_left
  · simp only [Act.put, List.setIfInBounds_toArray, List.set_cons_zero, List.set_cons_succ, i64_w, i32_w]
    rfl
  refine pure_ (i := 5) (N := some 16) (v := ?_) (a' := ?_) #[true, true, true, true, false, true, false, false, false, false, false, false, false, false, false, false] rfl rfl (by kernel_rfl) (fun _ _ _ h => h) (Or.inl ⟨by rfl, ?_⟩) ?_ ?_
  rotate_left
  · intro w'
    go_simp
    with_reducible rfl
  rotate_left
  · simp only [Act.put, List.setIfInBounds_toArray, List.set_cons_zero, List.set_cons_succ, i64_w, i32_w]
    rfl
  refine pure_ (i := 6) (N := some 17) (v := ?_) (a' := ?_) #[true, true, true, true, false, true, true, false, false, false, false, false, false, false, false, false] rfl rfl (by kernel_rfl) (fun _ _ _ h => h) (Or.inl ⟨by rfl, ?_⟩) ?_ ?_
  rotate_left
  · intro w'
    go_simp
    with_reducible rfl
  rotate_left
  · simp only [Act.put, List.setIfInBounds_toArray, List.set_cons_zero, List.set_cons_succ, i64_w, i32_w]
    rfl
  refine pure_ (i := 7) (N := some 18) (v := ?_) (a' := ?_) #[true, true, true, true, false, true, true, true, false, false, false, false, false, false, false, false] rfl rfl (by kernel_rfl) (fun _ _ _ h => h) (Or.inl ⟨by rfl, ?_⟩) ?_ ?_
  rotate_left
  · intro w'
    go_simp
    with_reducible rfl
  rotate_left
  · simp only [Act.put, List.setIfInBounds_toArray, List.set_cons_zero, List.set_cons_succ, i64_w, i32_w]
    rfl
  refine pure_ (i := 8) (N := some 19) (v := ?_) (a' := ?_) #[true, true, true, true, false, true, true, true, true, false, false, false, false, false, false, false] rfl rfl (by kernel_rfl) (fun _ _ _ h => h) (Or.inl ⟨by rfl, ?_⟩) ?_ ?_
  rotate_left
  · intro w'
    go_simp
    with_reducible rfl
  rotate_left
  · simp only [Act.put, List.setIfInBounds_toArray, List.set_cons_zero, List.set_cons_succ, i64_w, i32_w]
    rfl
  refine take_ (i := 4) (N := some 15) (v := ?_) (a' := ?_) #[true, true, true, true, true, true, true, true, true, false, false, false, false, false, false, false] rfl rfl (by kernel_rfl) (fun _ _ _ h => h) (Or.inl ⟨by rfl, ?_⟩) hHeld ?_ ?_
  rotate_left
  · rintro w' ⟨s0, s1⟩
    go_simp
    with_reducible rfl
  rotate_left
  · simp only [Act.put, List.setIfInBounds_toArray, List.set_cons_zero, List.set_cons_succ, i64_w, i32_w]
    rfl
  refine take_ (i := 9) (N := some 20) (v := ?_) (a' := ?_) #[true, true, true, true, true, true, true, true, true, true, false, false, false, false, false, false] rfl rfl (by kernel_rfl) (fun _ _ _ h => h) (Or.inl ⟨by rfl, ?_⟩) hHeld ?_ ?_
  rotate_left
  · rintro w' ⟨s0, s1⟩
    go_simp
    with_reducible rfl
  rotate_left
  · simp only [Act.put, List.setIfInBounds_toArray, List.set_cons_zero, List.set_cons_succ, i64_w, i32_w]
    rfl
  refine pure_ (i := 10) (N := some 21) (v := ?_) (a' := ?_) #[true, true, true, true, true, true, true, true, true, true, true, false, false, false, false, false] rfl rfl (by kernel_rfl) (fun _ _ _ h => h) (Or.inl ⟨by rfl, ?_⟩) ?_ ?_
  rotate_left
  · intro w'
    go_simp
    with_reducible rfl
  rotate_left
  · simp only [Act.put, List.setIfInBounds_toArray, List.set_cons_zero, List.set_cons_succ, i64_w, i32_w]
    rfl
  refine one_ (i := 11) (N := some 22) #[true, true, true, true, true, true, true, true, true, true, true, true, false, false, false, false] rfl rfl (by kernel_rfl) (by decide) (fun K hK => ?_)
  refine value_ (w1 := ?_) (v := ?_) (by rfl) rfl ?_ ?_
  rotate_left 2
  · go_simp
    constructor
    · rfl
    · rfl
  have b2 := Blk.alloc hbs (.cells #[.slice A k d, .slice none 0 0, .int .i64 ((its.length : Int) + 1)] 98)
  have g0 := Blk.cell b2 0 (v := .int .i64 ((its.length : Int) + 1)) rfl
  have g1 := Blk.cell b2 1 (v := V) rfl
  refine hK.out _ _ ⟨g0, g1⟩ (fun hHeld => ?_)
  clear hK K
  refine norm_ (a' := ?_) ?_ ?_
  rotate_left
  · show Act.put _ (some 22) _ = _
    simp only [Act.put, List.setIfInBounds_toArray, List.set_cons_zero, List.set_cons_succ, i64_w, i32_w]
    rfl
  refine one_ (i := 12) (N := some 23) #[true, true, true, true, true, true, true, true, true, true, true, true, true, false, false, false] rfl rfl (by kernel_rfl) (by decide) (fun K hK => ?_)
  rw [if_pos (by rfl)]
  refine wp_append_own _ _ _ 33 rfl B 98 i0 (.agg #[.slice none 0 0, .slice none 0 0, .int .i64 0]) 3 56 Tryd.underlying33 hi hz0 hz1 hz2 rfl (by decide) V its.length (heldCells 0 its) rfl (World.ownsRow.alloc (show W.drew.ownsRow _ _ _ _ _ _ from hr1) _) ⟨W.heap.size, 0, none⟩ 1 1 [.slice A k d, .slice none 0 0, .int .i64 ((its.length : Int) + 1)] rfl rfl (cells3_new W.drew _ _ _ _) (by simp [Value.oneCell']) (by unfold maxLen; omega) (by omega) (by show B ≤ (W.alloc _).heap.size; simp; omega) ?_
  intro v3 w3 hown3 hg3 _
  obtain ⟨g3, cap3, rfl⟩ := ownsRow_succ3 hown3
  have b3 : BookAt w3 kb (its.length + 1) V M := (hg3.block kb (Blk.lt b2) hkV).trans b2
  have g0 := Blk.cell b3 0 (v := .int .i64 ((its.length : Int) + 1)) rfl
  have g1 := Blk.cell b3 1 (v := V) rfl
  have f3 := Blk.frozen b3 1
  refine hK.out _ _ ⟨g0, g1⟩ (fun hHeld => ?_)
  clear hK K
  refine norm_ (a' := ?_) ?_ ?_
  rotate_left
  · show Act.put _ (some 23) _ = _
    simp only [Act.put, List.setIfInBounds_toArray, List.set_cons_zero, List.set_cons_succ, i64_w, i32_w]
    rfl
  refine pure_ (i := 13) (N := some 24) (v := ?_) (a' := ?_) #[true, true, true, true, true, true, true, true, true, true, true, true, true, true, false, false] rfl rfl (by kernel_rfl) (fun _ _ _ h => h) (Or.inl ⟨by rfl, ?_⟩) ?_ ?_
  rotate_left
  · intro w'
    go_simp
    with_reducible rfl
  rotate_left
  · simp only [Act.put, List.setIfInBounds_toArray, List.set_cons_zero, List.set_cons_succ, i64_w, i32_w]
    rfl
  refine pure_ (i := 14) (N := some 25) (v := ?_) (a' := ?_) #[true, true, true, true, true, true, true, true, true, true, true, true, true, true, true, false] rfl rfl (by kernel_rfl) (fun _ _ _ h => h) (Or.inl ⟨by rfl, ?_⟩) ?_ ?_
  rotate_left
  · intro w'
    go_simp
    with_reducible rfl
  rotate_left
  · simp only [Act.put, List.setIfInBounds_toArray, List.set_cons_zero, List.set_cons_succ, i64_w, i32_w]
    rfl
  refine last_ (i := 15) (N := none) #[true, true, true, true, true, true, true, true, true, true, true, true, true, true, true, true] rfl rfl (by kernel_rfl) (by decide) (fun K hK => ?_)
  refine skip_ (w1 := ?_) (by rfl) rfl ?_ ?_
  rotate_left
  · go_simp
    rfl
  refine hK.out _ _ ?_
  clear hK K
  refine done_ (by kernel_rfl) ?_
  go_wp2
  go_end0
  have hnk : some kb ≠ (Value.slice (some ⟨g3, 0, none⟩) (its.length + 1) cap3).ownBlock := by
    rcases hown3.2 with ⟨h0, _⟩ | ⟨g', cap', cur', hv, hb', hgb', _⟩
    · cases h0
    · injection hv with e1 _ _
      cases e1
      intro e
      have : kb = g3 := by simpa [Value.ownBlock] using e
      subst this
      exact Blk.ne_ b3 (show Blk w3 kb _ _ from hgb') (by decide) rfl
  have hW3 : Below B w w3 := by
    refine (hB1.alloc (by omega) (.cells #[.slice A k d, .slice none 0 0, .int .i64 ((its.length : Int) + 1)] 98)).drew.grown hg3 (by show B ≤ (W.alloc _).heap.size; simp; omega) fun q hq => ?_
    exact (hr1.lt q hq).1
  refine ⟨⟨_, rfl⟩, _, Blk.set_ b3 1 (.slice (some ⟨g3, 0, none⟩) (its.length + 1) cap3), ?_, hW3.setCell (by simpa using hB) _, fun g t cs h1 h2 hg => ?_⟩
  · rw [heldCells_snoc, Nat.zero_add]
    exact hown3.kept (grownBy_setCell_any w3 kb 1 _) (.inr hnk.symm)
  · have q1 := HO.out g t cs h1 h2 hg
    have q2 : Blk w3 g t cs := Blk.grown (w := (W.alloc (.cells #[.slice A k d, .slice none 0 0, .int .i64 ((its.length : Int) + 1)] 98)).drew) (q1.alloc _) hg3 fun e => by
      rcases hr1.2 with ⟨rfl, _⟩ | ⟨g', cap', cur', rfl, hb', hgb', _⟩
      · simp [Value.ownBlock] at e
      · have : g = g' := by simpa [Value.ownBlock] using e
        subst this
        exact Blk.ne_ q1 (show Blk W g _ _ from hgb') h1 rfl
    exact q2.far (p := ⟨kb, 1, none⟩) (fun e => by cases (show g = kb from e); exact Blk.ne_ q2 (show Blk w3 kb _ _ from b3) h2 rfl) _

theorem bookBytes' {M : Value} (kb B : Nat) (V : Value) (its : List Value) (A : Option Addr) (k d : Nat) (w : World) (hb : BookAt w kb its.length V M) (hrow : w.ownsRow B 98 3 V its.length (heldCells 0 its))
    (hB : B ≤ kb) (hn : its.length ≤ 1000000000) :
    Calls Tryd.prog 12 #[.pointer (some ⟨kb, 0, none⟩), .slice A k d] w fun e w' => (∃ v, e = .returned v) ∧ ∃ V', BookAt w' kb (its.length + 1) V' M ∧ w'.ownsRow B 98 3 V' (its.length + 1) (heldCells 0 (its ++ [.slice A k d])) ∧
      Below B w w' ∧ Others w w' := by
  have G := keepByte' kb B V its A k d w hb hrow hB hn
  go_enter Tryd.func12, Tryd.ntmps12
  go_wp2_with fail
  refine G.mono ?_
  rintro e w1 ⟨⟨v, rfl⟩, V', h1, h2, h3, h4⟩
  have H4 := Lib.hid h4
  clear h4 G
  go_wp2
  go_end0
  exact ⟨⟨_, rfl⟩, V', h1, h2, h3, H4.out⟩
theorem bookBytes {M : Value} (kb B : Nat) (V : Value) (its : List Value) (A : Option Addr) (k d : Nat) (w : World) (hb : BookAt w kb its.length V M) (hrow : w.ownsRow B 98 3 V its.length (heldCells 0 its))
    (hB : B ≤ kb) (hn : its.length ≤ 1000000000) :
    Calls Tryd.prog 12 #[.pointer (some ⟨kb, 0, none⟩), .slice A k d] w fun e w' => (∃ v, e = .returned v) ∧ ∃ V', BookAt w' kb (its.length + 1) V' M ∧ w'.ownsRow B 98 3 V' (its.length + 1) (heldCells 0 (its ++ [.slice A k d])) ∧
      Below B w w' ∧ (∀ base v l, Own w base v l → Own w' base v l) := by
  refine (bookBytes' kb B V its A k d w hb hrow hB hn).mono ?_
  rintro e w1 ⟨h0, V', h1, h2, h3, h4⟩
  exact ⟨h0, V', h1, h2, h3, fun _ _ _ ho => h4.own ho⟩
end Go.Proofs.YtoodmjdafifbmaaDoor.Hand
