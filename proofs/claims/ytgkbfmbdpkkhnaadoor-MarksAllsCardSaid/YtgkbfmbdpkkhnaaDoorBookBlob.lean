/- The Book is told a list of messages: keepBlob, Messages. -/
import Derived.Test.YtgkbfmbdpkkhnaaDoorBookKeep
import Derived.Test.YtgkbfmbdpkkhnaaDoorMarksGet
namespace Go.Proofs.YtgkbfmbdpkkhnaaDoor.Hand
open Go.RowKit Go.Proofs.YtgkbfmbdpkkhnaaDoorW.PrintLast
set_option linter.unusedVariables false
set_option linter.unusedSimpArgs false

theorem info97 : (Tryd.prog.info? 97).map (fun i => (i.zero, i.size, i.bytes)) = some (some (.agg #[.slice none 0 0, .slice none 0 0, .int .i64 0]), 3, 56) := by kernel_rfl

/-- The Book's one list of messages. -/
def BlobAt (w : World) (M : Value) (l u : Value) (n B : Nat) : Prop := ∃ rm c, M = .slice (some ⟨rm, 0, none⟩) 1 c ∧ 1 ≤ c ∧ B ≤ rm ∧ ∃ cs, Blk w rm 97 cs ∧ cs[0]? = some l ∧ cs[1]? = some u ∧ cs[2]? = some (.int .i64 n)

theorem grown_below {w X Y : World} {r : Option Nat} (h : w.grownBy X r) (hb : Below X.heap.size X Y) : w.grownBy Y r :=
  ⟨hb.os.trans h.os, hb.tape.trans h.tape, hb.output.trans h.output, Nat.le_trans h.size hb.size, fun k hk hn => (hb.block k (Nat.lt_of_lt_of_le hk h.size)).trans (h.block k hk hn)⟩

set_option maxRecDepth 100000 in
set_option maxHeartbeats 4000000 in
theorem keepBlob (kb n : Nat) (V : Value) (A : Option Addr) (k d : Nat) (w : World) (hb : BookAt w kb n V) (hn : n ≤ 1000000000) :
    Calls Tryd.prog 66 #[.pointer (some ⟨kb, 0, none⟩), .slice A k d] w fun e w' => (∃ v, e = .returned v) ∧ ∃ M, BookAt w' kb (n + 1) V M ∧ BlobAt w' M (.slice A k d) (.slice none 0 0) (n + 1) w.heap.size ∧ w.grownBy w' (some kb) := by
  obtain ⟨i0, hi, hz0, hz1, hz2⟩ := info_parts info97
  have hbs : BookAt (w.setCell ⟨kb, 0, none⟩ (.int .i64 ((n : Int) + 1))) kb (n + 1) V := Blk.set_ hb 0 (.int .i64 ((n : Int) + 1))
  have hlk : kb < w.heap.size := Blk.lt hb
  have hgW := grownBy_setCell_any w kb 0 (.int .i64 ((n : Int) + 1))
  have k0 := Blk.cell hb 0 (v := .int .i64 n) rfl
  have k0f := Blk.frozen hb 0
  go_enter Tryd.func66, Tryd.ntmps66
  go_wp2_with fail
  have hsW : (w.setCell ⟨kb, 0, none⟩ (.int .i64 ((n : Int) + 1))).heap.size = w.heap.size := World.size_setCell ..
  generalize w.setCell ⟨kb, 0, none⟩ (.int .i64 ((n : Int) + 1)) = W at *
  have f0 := Blk.cell hbs 0 (v := .int .i64 ((n : Int) + 1)) rfl
  have f1 := Blk.cell hbs 4 (v := .slice none 0 0) rfl
  have HS := Lib.hid hsW
  have HG := Lib.hid hgW
  clear k0 k0f hsW hgW
  refine start_ (n := 16) (S := fun w' => w'.cell? ⟨kb, 0, none⟩ = some (.int .i64 ((n : Int) + 1)) ∧ w'.cell? ⟨kb, 4, none⟩ = some (.slice none 0 0)) (ds := [15]) #[false, false, false, false, false, false, false, false, false, false, false, false, false, false, false, false] (by kernel_rfl) rfl rfl ⟨f0, f1⟩ (fun hHeld => ?_)
  refine pure_ (i := 0) (N := some 11) (v := ?_) (a' := ?_) #[true, false, false, false, false, false, false, false, false, false, false, false, false, false, false, false] rfl rfl (by kernel_rfl) (fun _ _ _ h => h) (Or.inl ⟨by rfl, ?_⟩) ?_ ?_
  rotate_left
  · intro w'
    go_simp
    with_reducible rfl
  rotate_left
  · simp only [Act.put, List.setIfInBounds_toArray, List.set_cons_zero, List.set_cons_succ, i64_w, i32_w]
    rfl
  refine pure_ (i := 1) (N := some 12) (v := ?_) (a' := ?_) #[true, true, false, false, false, false, false, false, false, false, false, false, false, false, false, false] rfl rfl (by kernel_rfl) (fun _ _ _ h => h) (Or.inl ⟨by rfl, ?_⟩) ?_ ?_
  rotate_left
  · intro w'
    go_simp
    with_reducible rfl
  rotate_left
  · simp only [Act.put, List.setIfInBounds_toArray, List.set_cons_zero, List.set_cons_succ, i64_w, i32_w]
    rfl
  refine pure_ (i := 2) (N := some 13) (v := ?_) (a' := ?_) #[true, true, true, false, false, false, false, false, false, false, false, false, false, false, false, false] rfl rfl (by kernel_rfl) (fun _ _ _ h => h) (Or.inl ⟨by rfl, ?_⟩) ?_ ?_
  rotate_left
  · intro w'
    go_simp
    with_reducible rfl
  rotate_left
  · simp only [Act.put, List.setIfInBounds_toArray, List.set_cons_zero, List.set_cons_succ, i64_w, i32_w]
    rfl
  refine pure_ (i := 3) (N := some 14) (v := ?_) (a' := ?_) #[true, true, true, true, false, false, false, false, false, false, false, false, false, false, false, false] rfl rfl (by kernel_rfl) (fun _ _ _ h => h) (Or.inl ⟨by rfl, ?_⟩) ?_ ?_
  rotate_left
  · intro w'
    go_simp
    with_reducible rfl
  rotate_left
  · simp only [Act.put, List.setIfInBounds_toArray, List.set_cons_zero, List.set_cons_succ, i64_w, i32_w]
    rfl
  refine pure_ (i := 5) (N := some 16) (v := ?_) (a' := ?_) #[true, true, true, true, false, true, false, false, false, false, false, false, false, false, false, false] rfl rfl (by kernel_rfl) (fun _ _ _ h => h) (Or.inl ⟨by rfl, ?_⟩) ?_ ?_
  rotate_left
  · intro w'
    go_simp
    with_reducible rfl
  rotate_left
  · simp only [Act.put, List.setIfInBounds_toArray, List.set_cons_zero, List.set_cons_succ, i64_w, i32_w]
    rfl
  refine pure_ (i := 6) (N := some 17) (v := ?_) (a' := ?_) #[true, true, true, true, false, true, true, false, false, false, false, false, false, false, false, false] rfl rfl (by kernel_rfl) (fun _ _ _ h => h) (Or.inl ⟨by rfl, ?_⟩) ?_ ?_
  rotate_left
  · intro w'
    go_simp
    with_reducible rfl
  rotate_left
  · simp only [Act.put, List.setIfInBounds_toArray, List.set_cons_zero, List.set_cons_succ, i64_w, i32_w]
    rfl
  refine pure_ (i := 7) (N := some 18) (v := ?_) (a' := ?_) #[true, true, true, true, false, true, true, true, false, false, false, false, false, false, false, false] rfl rfl (by kernel_rfl) (fun _ _ _ h => h) (Or.inl ⟨by rfl, ?_⟩) ?_ ?_
  rotate_left
  · intro w'
    go_simp
    with_reducible rfl
  rotate_left
  · simp only [Act.put, List.setIfInBounds_toArray, List.set_cons_zero, List.set_cons_succ, i64_w, i32_w]
    rfl
  refine pure_ (i := 8) (N := some 19) (v := ?_) (a' := ?_) #[true, true, true, true, false, true, true, true, true, false, false, false, false, false, false, false] rfl rfl (by kernel_rfl) (fun _ _ _ h => h) (Or.inl ⟨by rfl, ?_⟩) ?_ ?_
  rotate_left
  · intro w'
    go_simp
    with_reducible rfl
  rotate_left
  · simp only [Act.put, List.setIfInBounds_toArray, List.set_cons_zero, List.set_cons_succ, i64_w, i32_w]
    rfl
  refine take_ (i := 4) (N := some 15) (v := ?_) (a' := ?_) #[true, true, true, true, true, true, true, true, true, false, false, false, false, false, false, false] rfl rfl (by kernel_rfl) (fun _ _ _ h => h) (Or.inl ⟨by rfl, ?_⟩) hHeld ?_ ?_
  rotate_left
  · rintro w' ⟨s0, s1⟩
    go_simp
    with_reducible rfl
  rotate_left
  · simp only [Act.put, List.setIfInBounds_toArray, List.set_cons_zero, List.set_cons_succ, i64_w, i32_w]
    rfl
  refine take_ (i := 9) (N := some 20) (v := ?_) (a' := ?_) #[true, true, true, true, true, true, true, true, true, true, false, false, false, false, false, false] rfl rfl (by kernel_rfl) (fun _ _ _ h => h) (Or.inl ⟨by rfl, ?_⟩) hHeld ?_ ?_
  rotate_left
  · rintro w' ⟨s0, s1⟩
    go_simp
    with_reducible rfl
  rotate_left
  · simp only [Act.put, List.setIfInBounds_toArray, List.set_cons_zero, List.set_cons_succ, i64_w, i32_w]
    rfl
  refine pure_ (i := 10) (N := some 21) (v := ?_) (a' := ?_) #[true, true, true, true, true, true, true, true, true, true, true, false, false, false, false, false] rfl rfl (by kernel_rfl) (fun _ _ _ h => h) (Or.inl ⟨by rfl, ?_⟩) ?_ ?_
  rotate_left
  · intro w'
    go_simp
    with_reducible rfl
  rotate_left
  · simp only [Act.put, List.setIfInBounds_toArray, List.set_cons_zero, List.set_cons_succ, i64_w, i32_w]
    rfl
  refine one_ (i := 11) (N := some 22) #[true, true, true, true, true, true, true, true, true, true, true, true, false, false, false, false] rfl rfl (by kernel_rfl) (by decide) (fun K hK => ?_)
  refine value_ (w1 := ?_) (v := ?_) (by rfl) rfl ?_ ?_
  rotate_left 2
  · go_simp
    constructor
    · rfl
    · rfl
  have b2 := Blk.alloc hbs (.cells #[.slice A k d, .slice none 0 0, .int .i64 ((n : Int) + 1)] 97)
  have g0 := Blk.cell b2 0 (v := .int .i64 ((n : Int) + 1)) rfl
  have g1 := Blk.cell b2 4 (v := .slice none 0 0) rfl
  refine hK.out _ _ ⟨g0, g1⟩ (fun hHeld => ?_)
  clear hK K
  refine norm_ (a' := ?_) ?_ ?_
  rotate_left
  · show Act.put _ (some 22) _ = _
    simp only [Act.put, List.setIfInBounds_toArray, List.set_cons_zero, List.set_cons_succ, i64_w, i32_w]
    rfl
  refine one_ (i := 12) (N := some 23) #[true, true, true, true, true, true, true, true, true, true, true, true, true, false, false, false] rfl rfl (by kernel_rfl) (by decide) (fun K hK => ?_)
  rw [if_pos (by rfl)]
  refine wp_append_own _ _ _ 32 rfl w.heap.size 97 i0 (.agg #[.slice none 0 0, .slice none 0 0, .int .i64 0]) 3 56 Tryd.underlying32 hi hz0 hz1 hz2 rfl (by decide) (.slice none 0 0) 0 [] rfl (World.ownsRow_nil _ _ _ _) ⟨W.heap.size, 0, none⟩ 1 1 [.slice A k d, .slice none 0 0, .int .i64 ((n : Int) + 1)] rfl rfl (cells3_new W.drew _ _ _ _) (by simp [Value.oneCell']) (by unfold maxLen; omega) (by omega) (by show w.heap.size ≤ (W.alloc _).heap.size; have := HS.out; simp; omega) ?_
  intro v3 w3 hown3 hg3 _
  obtain ⟨g3, cap3, rfl⟩ := ownsRow_succ3 hown3
  have b3 : BookAt w3 kb (n + 1) V := (hg3.block kb (Blk.lt b2) (by simp [Value.ownBlock])).trans b2
  have g0 := Blk.cell b3 0 (v := .int .i64 ((n : Int) + 1)) rfl
  have g1 := Blk.cell b3 4 (v := .slice none 0 0) rfl
  have f3 := Blk.frozen b3 4
  refine hK.out _ _ ⟨g0, g1⟩ (fun hHeld => ?_)
  clear hK K
  refine norm_ (a' := ?_) ?_ ?_
  rotate_left
  · show Act.put _ (some 23) _ = _
    simp only [Act.put, List.setIfInBounds_toArray, List.set_cons_zero, List.set_cons_succ, i64_w, i32_w]
    rfl
  refine pure_ (i := 13) (N := some 24) (v := ?_) (a' := ?_) #[true, true, true, true, true, true, true, true, true, true, true, true, true, true, false, false] rfl rfl (by kernel_rfl) (fun _ _ _ h => h) (Or.inl ⟨by rfl, ?_⟩) ?_ ?_
  rotate_left
  · intro w'
    go_simp
    with_reducible rfl
  rotate_left
  · simp only [Act.put, List.setIfInBounds_toArray, List.set_cons_zero, List.set_cons_succ, i64_w, i32_w]
    rfl
  refine pure_ (i := 14) (N := some 25) (v := ?_) (a' := ?_) #[true, true, true, true, true, true, true, true, true, true, true, true, true, true, true, false] rfl rfl (by kernel_rfl) (fun _ _ _ h => h) (Or.inl ⟨by rfl, ?_⟩) ?_ ?_
  rotate_left
  · intro w'
    go_simp
    with_reducible rfl
  rotate_left
  · simp only [Act.put, List.setIfInBounds_toArray, List.set_cons_zero, List.set_cons_succ, i64_w, i32_w]
    rfl
  refine last_ (i := 15) (N := none) #[true, true, true, true, true, true, true, true, true, true, true, true, true, true, true, true] rfl rfl (by kernel_rfl) (by decide) (fun K hK => ?_)
  refine skip_ (w1 := ?_) (by rfl) rfl ?_ ?_
  rotate_left
  · go_simp
    rfl
  refine hK.out _ _ ?_
  clear hK K
  refine done_ (by kernel_rfl) ?_
  go_wp2
  go_end0
  refine ⟨⟨_, rfl⟩, _, Blk.set_ b3 4 (.slice (some ⟨g3, 0, none⟩) (0 + 1) cap3), ?_, ?_⟩
  · rcases hown3.2 with ⟨h0, _⟩ | ⟨g', cap', cur', hv, hb', hgb', hnc, hm, hs, ht⟩
    · cases h0
    · injection hv with e1 _ e2
      cases e1
      cases e2
      have hgb : Blk w3 g3 97 cur' := hgb'
      refine ⟨g3, cap3, rfl, by omega, by omega, cur', hgb.far (p := ⟨kb, 4, none⟩) (fun e => Blk.ne_ hgb (show Blk w3 kb _ _ from b3) (by decide) e) _, ?_⟩
      have key : ∀ i, i < 3 → cur'[i]? = [Value.slice A k d, .slice none 0 0, .int .i64 ((n : Int) + 1)][i]? := by
        intro i hi
        have e : (cur'.toList.take ((0 + 1) * 3))[i]? = [Value.slice A k d, .slice none 0 0, .int .i64 ((n : Int) + 1)][i]? := by rw [ht]; rfl
        rwa [List.getElem?_take, if_pos (by omega), Array.getElem?_toList] at e
      exact ⟨key 0 (by omega), key 1 (by omega), key 2 (by omega)⟩
  · have h1 : Below W.heap.size W w3 := ((Below.refl _ W).alloc (Nat.le_refl _) (.cells #[.slice A k d, .slice none 0 0, .int .i64 ((n : Int) + 1)] 97)).drew.grown hg3 (by show W.heap.size ≤ (W.alloc _).heap.size; simp) fun q hq => by simp [Value.ownBlock] at hq
    exact (grown_below HG.out h1).trans (grownBy_setCell_any w3 kb 4 _)

theorem row1_cell {w : World} {B n c : Nat} {t : TypeId} {A : Option Addr} {xs : List Value} (h : w.ownsRow B t 1 (.slice A n c) n xs) {i : Nat} (hi : i < n) (hl : xs.length = n) :
    ∃ g, A = some ⟨g, 0, none⟩ ∧ n ≤ c ∧ w.cell? ⟨g, i, none⟩ = some (xs[i]'(by omega)) ∧ ∃ cs, Blk w g t cs := by
  rcases h.2 with ⟨_, h1⟩ | ⟨g, cap, cur, hv, hb, hg, hnc, hm, hs, ht⟩
  · omega
  · injection hv with e1 _ e2
    refine ⟨g, e1, by omega, ?_, cur, hg⟩
    have e : (cur.toList.take (n * 1))[i]? = xs[i]? := by rw [ht]
    rw [List.getElem?_take, if_pos (by omega), Array.getElem?_toList, List.getElem?_eq_getElem (by omega)] at e
    exact (show Blk w g t cur from hg).cell _ e
theorem Others.refl (w : World) : Others w w := fun _ _ _ _ _ h => h

set_option maxRecDepth 100000 in
set_option maxHeartbeats 2000000 in
theorem bookMessages (kb B bl c : Nat) (V : Value) (its : List Value) (A : Option Addr) (vals : List Value) (w : World) (hb : BookAt w kb its.length V) (hrow : w.ownsRow B 86 3 V its.length (heldCells 0 its))
    (hB : B ≤ kb) (hn : its.length + vals.length ≤ 1000000000) (hl : w.ownsRow bl 24 1 (.slice A vals.length c) vals.length vals) (hs : ∀ x ∈ vals, ∃ A k d, x = .slice A k d) :
    Calls Tryd.prog 30 #[.pointer (some ⟨kb, 0, none⟩), .slice A vals.length c] w fun e w' => (∃ v, e = .returned v) ∧ ∃ V' M, BookAt w' kb (its.length + vals.length + 1) V' M ∧
      w'.ownsRow B 86 3 V' (its.length + vals.length) (heldCells 0 (its ++ vals)) ∧ BlobAt w' M (.slice A vals.length c) (.slice none 0 0) (its.length + vals.length + 1) B ∧ Below B w w' ∧ Others w w' := by
  have HS := Lib.hid hs
  have hlk : B ≤ w.heap.size := Nat.le_of_lt (Nat.lt_of_le_of_lt hB (Blk.lt hb))
  clear hs
  go_enter Tryd.func30, Tryd.ntmps30
  go_wp2
  go_loopw [4] (fun i wr => ∃ (k : Nat) (V' : Value), k ≤ vals.length ∧ i = .int .i64 k ∧ BookAt wr kb (its.length + k) V' ∧ wr.ownsRow B 86 3 V' (its.length + k) (heldCells 0 (its ++ vals.take k)) ∧ Below B w wr ∧ Others w wr) (fun i _ => vals.length - (intOf i).toNat)
  case atStart => exact ⟨0, V, Nat.zero_le _, rfl, hb, by simpa using hrow, Below.refl _ _, Others.refl _⟩
  case round =>
    obtain ⟨k, V', hk, rfl, hbr, hrr, hBr, hor⟩ := hrel
    by_cases hlt : k < vals.length
    · have hki : (k : Int) < (vals.length : Int) := by omega
      have hlr := hor.row hl (by decide) (by decide)
      obtain ⟨g, rfl, hcc, hcell, -⟩ := row1_cell hlr hlt rfl
      obtain ⟨A', k', d', hx⟩ := HS.out _ (List.getElem_mem hlt)
      rw [hx] at hcell
      have HX := Lib.hid hx
      have HOR := Lib.hid hor
      have hlen : (its ++ vals.take k).length = its.length + k := by simp; omega
      have G := bookBytes' (M := .slice none 0 0) kb B V' (its ++ vals.take k) A' k' d' wr (by rw [hlen]; exact hbr) (by rw [hlen]; exact hrr) hB (by omega)
      rw [hlen] at G
      have HLEN := Lib.hid hlen
      clear hx hor hlr hbr hrr hl hlen hb hrow
      go_wp2_with fail
      refine G.mono ?_
      rintro e w1 ⟨⟨v, rfl⟩, V2, h1, h2, h3, h4⟩
      have H4 := Lib.hid (HOR.out.trans h4)
      clear h4 G
      go_wp2
      refine ⟨⟨k + 1, V2, by omega, by go_num, h1, ?_, hBr.trans h3, H4.out⟩, by simp [intOf]; omega⟩
      have e : its ++ vals.take (k + 1) = its ++ vals.take k ++ [.slice A' k' d'] := by
        rw [List.take_succ_eq_append_getElem hlt, ← List.append_assoc, HX.out]
      rw [e]
      exact h2
    · have hki : ¬ (k : Int) < (vals.length : Int) := by omega
      obtain rfl : k = vals.length := by omega
      have G := keepBlob kb (its.length + vals.length) V' A vals.length c wr hbr (by omega)
      rw [List.take_length] at hrr
      have HRR := Lib.hid hrr
      have HBR := Lib.hid hbr
      have HOR := Lib.hid hor
      clear hrr hor hbr hl
      go_wp2_with fail
      refine G.mono ?_
      rintro e w1 ⟨⟨v, rfl⟩, M, h1, h2, h3⟩
      clear G
      go_wp2
      go_end0
      have hkV : V'.ownBlock ≠ some kb := by
        rcases HRR.out.2 with ⟨rfl, _⟩ | ⟨g', cap', cur', rfl, hb', hgb', _⟩
        · simp [Value.ownBlock]
        · intro e
          have : g' = kb := by simpa [Value.ownBlock] using e
          subst this
          exact Blk.ne_ HBR.out (show Blk wr g' _ _ from hgb') (by decide) rfl
      obtain ⟨rm, cc, r1, r2, r3, r4⟩ := h2
      refine ⟨⟨_, rfl⟩, V', M, h1, HRR.out.kept h3 (.inr hkV), ⟨rm, cc, r1, r2, by have := hBr.size; omega, r4⟩, hBr.grown h3 (by have := hBr.size; omega) (fun q hq => by cases hq; exact hB), HOR.out.trans fun g t cs a b hg => Blk.grown hg h3 fun e => ?_⟩
      cases e
      exact Blk.ne_ hg (show Blk wr kb _ _ from HBR.out) b rfl
end Go.Proofs.YtgkbfmbdpkkhnaaDoor.Hand
