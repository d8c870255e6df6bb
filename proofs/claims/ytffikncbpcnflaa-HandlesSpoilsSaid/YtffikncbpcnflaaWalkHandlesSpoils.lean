/- The statement HandlesSpoils, walked: up to four bytes that stand side by side, among the first twelve or the last four, changed in any way, make bytes of no handle. -/
import Derived.Laws.OwnMore
import Derived.Test.YtffikncbpcnflaaSpoil
namespace Go.Proofs.Ytffikncbpcnflaa.Hand
open Go.RowKit Go.Proofs.YtffikncbpcnflaaW.PrintLast
set_option linter.unusedVariables false
set_option linter.unusedSimpArgs false

/-- Are the first bytes all 0? -/
def az (bs : List Int) : Nat → Bool
  | 0 => true
  | j + 1 => az bs j && (nth bs j == 0)
theorem az_true {bs : List Int} {j : Nat} (h : az bs j = true) : ∀ t, t < j → nth bs t = 0 := by
  induction j with
  | zero => intro t ht; omega
  | succ j ih =>
    simp only [az, Bool.and_eq_true, beq_iff_eq] at h
    intro t ht
    by_cases e : t = j
    · rw [e]; exact h.2
    · exact ih h.1 t (by omega)
theorem az_false {bs : List Int} {j : Nat} (h : az bs j = false) : ∃ t, t < j ∧ nth bs t ≠ 0 := by
  induction j with
  | zero => simp [az] at h
  | succ j ih =>
    simp only [az, Bool.and_eq_false_iff, beq_eq_false_iff_ne] at h
    rcases h with h | h
    · obtain ⟨t, ht, hz⟩ := ih h
      exact ⟨t, by omega, hz⟩
    · exact ⟨j, by omega, h⟩
theorem Own.store {w : World} {base q d n : Nat} {l : List Int} (h : Own w base (.slice (some ⟨q, 0, none⟩) n d) l) (hn : l.length = n) (j : Nat) {x : Int} (hx : 0 ≤ x ∧ x < 256) :
    Own (w.setCell ⟨q, j, none⟩ (.int .u8 x)) base (.slice (some ⟨q, 0, none⟩) n d) (l.set j x) ∧ w.grownBy (w.setCell ⟨q, j, none⟩ (.int .u8 x)) (some q) := by
  subst hn
  have h2 := h.2.stored j (.int .u8 x)
  refine ⟨⟨fun y hy => ?_, ?_⟩, h2.2⟩
  · rcases List.mem_or_eq_of_mem_set hy with hy | rfl
    · exact h.1 y hy
    · exact hx
  · rw [List.length_set, List.map_set]
    exact h2.1
theorem Own.rd {w : World} {base n d : Nat} {A : Option Addr} {l : List Int} (h : Own w base (.slice A n d) l) : Rd w A l := by
  obtain ⟨B, c, hv, _, _, hr⟩ := h.form
  injection hv with e1 _ _
  rw [e1]
  exact hr
theorem az_step (bs : List Int) (j : Nat) : az bs (j + 1) = (az bs j && (nth bs j == 0)) := rfl
theorem five (b0 b1 b2 b3 b4 : Int) {j : Nat} (hj : j < 4) : (#[.int .u8 b0, .int .u8 b1, .int .u8 b2, .int .u8 b3, .int .u8 b4] : Array Value)[j]? = some (.int .u8 (nth [b0, b1, b2, b3] j)) := by
  match j, hj with
  | 0, _ => rfl
  | 1, _ => rfl
  | 2, _ => rfl
  | 3, _ => rfl

set_option maxRecDepth 100000 in
set_option maxHeartbeats 8000000 in
theorem HandlesSpoils_walk (n g b0 b1 b2 b3 b4 : Int) (w : World) (hn : 0 ≤ n) (hn' : n < 65536) (hg : 0 ≤ g) (hg' : g < 4294967296) (h0 : 0 ≤ b0) (h0' : b0 < 256) (h1 : 0 ≤ b1) (h1' : b1 < 256) (h2 : 0 ≤ b2) (h2' : b2 < 256) (h3 : 0 ≤ b3) (h3' : b3 < 256) (h4 : 0 ≤ b4) (h4' : b4 < 256) :
    Calls Try.prog 5 #[.int .u16 n, .int .u32 g, .agg #[.int .u8 b0, .int .u8 b1, .int .u8 b2, .int .u8 b3, .int .u8 b4]] w fun e w' => e = .returned (.bool true) ∧ Below w.heap.size w w' := by
  have Bb := Blk.new w 38 #[.int .u8 b0, .int .u8 b1, .int .u8 b2, .int .u8 b3, .int .u8 b4]
  have hB : Below w.heap.size w (w.alloc (.cells #[.int .u8 b0, .int .u8 b1, .int .u8 b2, .int .u8 b3, .int .u8 b4] 38)) := (Below.refl _ _).alloc (Nat.le_refl _) _
  have hbs : Bs [b0, b1, b2, b3] := by intro x hx; simp at hx; omega
  have hof := fun w => of_ n g w hn hn' hg hg'
  have hN1 : 1 ≤ 1 + n % 1024 := by omega
  have hN2 : 1 + n % 1024 ≤ 1024 := by omega
  generalize 1 + n % 1024 = N at *
  obtain ⟨K, hK⟩ := Int.eq_ofNat_of_zero_le (show 0 ≤ b4 % 16 by omega)
  have hK16 : K < 16 := by omega
  have HO := Lib.hid hof
  clear hof
  go_enter Try.func5, Try.ntmps5
  go_wp2_with fail
  refine (HO.out _).mono ?_
  rintro e w1 ⟨v1, rfl, o1, hx⟩
  have Bb := (Bb.below hx).alloc (.cells #[.int .i64 N, .int .u32 g] 27)
  have Bh := Blk.new w1 27 #[.int .i64 N, .int .u32 g]
  have o1 := (o1.lower hB.size).alloc (.cells #[.int .i64 N, .int .u32 g] 27)
  have hB := below_then hB hx
  have hB := hB.alloc hB.size (.cells #[.int .i64 N, .int .u32 g] 27)
  obtain ⟨q, d, rfl, hd, _⟩ := o1.form0 (by rw [hb_length]; decide)
  rw [hb_length] at hd o1 ⊢
  clear hx HO
  have j4 := Bb.cell 4 (v := .int .u8 b4) rfl
  go_wp2
  clear j4 hK
  go_loopw [10, 12] (fun s i wr => ∃ j : Nat, j ≤ 4 ∧ K + j ≤ 16 ∧ (12 ≤ K ∨ K + j ≤ 12) ∧ i = .int .i64 j ∧ s = .bool (az [b0, b1, b2, b3] j) ∧ Own wr w.heap.size (.slice (some ⟨q, 0, none⟩) 16 d) (sp (hb N g) K [b0, b1, b2, b3] j) ∧ Blk wr w.heap.size 38 #[.int .u8 b0, .int .u8 b1, .int .u8 b2, .int .u8 b3, .int .u8 b4] ∧ Blk wr w1.heap.size 27 #[.int .i64 N, .int .u32 g] ∧ Below w.heap.size w wr) (fun _ i _ => 4 - (intOf i).toNat)
  case atStart => exact ⟨0, by omega, by omega, by omega, rfl, rfl, o1, Bb, Bh, hB⟩
  case round =>
    obtain ⟨j, hj, hj16, hj12, rfl, rfl, ho, Bb, Bh, hB⟩ := hrel
    have hlen : (sp (hb N g) K [b0, b1, b2, b3] j).length = 16 := by rw [sp_length, hb_length]
    have E := Lib.hid (show sp (hb N g) K [b0, b1, b2, b3] (j + 1) = (sp (hb N g) K [b0, b1, b2, b3] j).set (K + j) (xr (nth (sp (hb N g) K [b0, b1, b2, b3] j) (K + j)) (nth [b0, b1, b2, b3] j)) from rfl)
    have EA := Lib.hid (show az [b0, b1, b2, b3] (j + 1) = (az [b0, b1, b2, b3] j && (nth [b0, b1, b2, b3] j == 0)) from rfl)
    have hkey := fun (hz : ∃ t, t < j ∧ nth [b0, b1, b2, b3] t ≠ 0) => spoiled (bs := [b0, b1, b2, b3]) (k := K) (j := j) hN1 hN2 hg hg' hbs hj hj16 hj12 hz.choose_spec.1 hz.choose_spec.2
    have hsame := sp_same (k := K) (j := j) (bs := [b0, b1, b2, b3]) (hb_bs N g) (by rw [hb_length]; omega)
    have HK := Lib.hid hkey
    have HS := Lib.hid hsame
    clear hkey hsame
    generalize sp (hb N g) K [b0, b1, b2, b3] j = L at *
    generalize hA : az [b0, b1, b2, b3] j = a at *
    have HA := Lib.hid hA
    clear hA
    by_cases hgo : j < 4 ∧ K + j < 16 ∧ (12 ≤ K ∨ K + j < 12)
    · have t1 : (j : Int) < 4 := by omega
      have t2 : (K : Int) + (j : Int) < 16 := by omega
      have hc : wr.cell? ⟨q, K + j, none⟩ = some (.int .u8 (nth L (K + j))) := by
        have h0 := ho.2
        rw [hlen] at h0
        rw [h0.cellAt (K + j) (by omega), List.getElem?_map, List.getElem?_eq_getElem (by omega), gd L (K + j) (by omega)]
        rfl
      have hf : wr.frozen? ⟨q, K + j, none⟩ = false := by
        have h0 := ho.2
        rw [hlen] at h0
        exact h0.frozenAt _
      have hz := Bb.cell j (five b0 b1 b2 b3 b4 hgo.1)
      have hy := ho.1.get (K + j)
      have hzb := hbs.get j
      have hst := ho.store hlen (K + j) (xr_byte hy hzb)
      have hxr := Go.u8_xor (nth L (K + j)) (nth [b0, b1, b2, b3] j) hy.1 hy.2 hzb.1 hzb.2
      have hxr : Go.bits .xor .u8 (nth L (K + j)) (nth [b0, b1, b2, b3] j) = xr (nth L (K + j)) (nth [b0, b1, b2, b3] j) := hxr
      have ht0 := az_step [b0, b1, b2, b3] j
      generalize nth L (K + j) = y at *
      generalize hzz : nth [b0, b1, b2, b3] j = z at *
      unfold xr at hst hxr
      skip
      rcases Nat.lt_or_ge K 12 with h12 | h12
      · have t3 : ¬ (12 : Int) ≤ (K : Int) := by omega
        have t4 : (K : Int) + (j : Int) < 12 := by omega
        go_wp2_with fail
        have hw : IntKind.i64.wrap ((K : Int) + (j : Int)) = ((K + j : Nat) : Int) := by rw [IntKind.wrap_i64]; omega
        have t5 : 0 ≤ (K : Int) + (j : Int) := by omega
        have t6 : (j : Int) < 5 := by omega
        have t7 : ((K : Int) + (j : Int)).toNat = K + j := by omega
        have hc' : wr.drew.cell? ⟨q, K + j, none⟩ = some (.int .u8 y) := hc
        have hz' : wr.drew.cell? ⟨w.heap.size, j, none⟩ = some (.int .u8 z) := hz
        refine start_ (n := 16) (S := fun w' => w'.cell? ⟨q, K + j, none⟩ = some (.int .u8 y) ∧ w'.cell? ⟨w.heap.size, j, none⟩ = some (.int .u8 z)) (ds := [15]) #[false, false, false, false, false, false, false, false, false, false, false, false, false, false, false, false] (by kernel_rfl) rfl rfl ⟨hc', hz'⟩ (fun hHeld => ?_)
        refine pure_ (i := 0) (N := some 48) (v := ?_) (a' := ?_) #[true, false, false, false, false, false, false, false, false, false, false, false, false, false, false, false] rfl rfl (by kernel_rfl) (fun _ _ _ h => h) (Or.inl ⟨by rfl, ?_⟩) ?_ ?_
        rotate_left
        · intro w'
          go_simp
          with_reducible rfl
        rotate_left
        · simp only [Act.put, List.setIfInBounds_toArray, List.set_cons_zero, List.set_cons_succ, i64_w, i32_w]
          rfl
        refine pure_ (i := 1) (N := some 49) (v := ?_) (a' := ?_) #[true, true, false, false, false, false, false, false, false, false, false, false, false, false, false, false] rfl rfl (by kernel_rfl) (fun _ _ _ h => h) (Or.inl ⟨by rfl, ?_⟩) ?_ ?_
        rotate_left
        · intro w'
          go_simp
          with_reducible rfl
        rotate_left
        · simp only [Act.put, List.setIfInBounds_toArray, List.set_cons_zero, List.set_cons_succ, i64_w, i32_w]
          rfl
        refine pure_ (i := 2) (N := some 50) (v := ?_) (a' := ?_) #[true, true, true, false, false, false, false, false, false, false, false, false, false, false, false, false] rfl rfl (by kernel_rfl) (fun _ _ _ h => h) (Or.inl ⟨by rfl, ?_⟩) ?_ ?_
        rotate_left
        · intro w'
          go_simp
          with_reducible rfl
        rotate_left
        · simp only [Act.put, List.setIfInBounds_toArray, List.set_cons_zero, List.set_cons_succ, i64_w, i32_w]
          rfl
        refine pure_ (i := 3) (N := some 51) (v := ?_) (a' := ?_) #[true, true, true, true, false, false, false, false, false, false, false, false, false, false, false, false] rfl rfl (by kernel_rfl) (fun _ _ _ h => h) (Or.inl ⟨by rfl, ?_⟩) ?_ ?_
        rotate_left
        · intro w'
          go_simp
          with_reducible rfl
        rotate_left
        · simp only [Act.put, List.setIfInBounds_toArray, List.set_cons_zero, List.set_cons_succ, i64_w, i32_w]
          rfl
        refine pure_ (i := 4) (N := some 52) (v := ?_) (a' := ?_) #[true, true, true, true, true, false, false, false, false, false, false, false, false, false, false, false] rfl rfl (by kernel_rfl) (fun _ _ _ h => h) (Or.inl ⟨by rfl, ?_⟩) ?_ ?_
        rotate_left
        · intro w'
          go_simp
          with_reducible rfl
        rotate_left
        · simp only [Act.put, List.setIfInBounds_toArray, List.set_cons_zero, List.set_cons_succ, i64_w, i32_w]
          rfl
        refine pure_ (i := 5) (N := some 53) (v := ?_) (a' := ?_) #[true, true, true, true, true, true, false, false, false, false, false, false, false, false, false, false] rfl rfl (by kernel_rfl) (fun _ _ _ h => h) (Or.inl ⟨by rfl, ?_⟩) ?_ ?_
        rotate_left
        · intro w'
          go_simp
          with_reducible rfl
        rotate_left
        · simp only [Act.put, List.setIfInBounds_toArray, List.set_cons_zero, List.set_cons_succ, i64_w, i32_w]
          rfl
        refine pure_ (i := 6) (N := some 54) (v := ?_) (a' := ?_) #[true, true, true, true, true, true, true, false, false, false, false, false, false, false, false, false] rfl rfl (by kernel_rfl) (fun _ _ _ h => h) (Or.inl ⟨by rfl, ?_⟩) ?_ ?_
        rotate_left
        · intro w'
          go_simp
          with_reducible rfl
        rotate_left
        · simp only [Act.put, List.setIfInBounds_toArray, List.set_cons_zero, List.set_cons_succ, i64_w, i32_w]
          rfl
        refine pure_ (i := 7) (N := some 55) (v := ?_) (a' := ?_) #[true, true, true, true, true, true, true, true, false, false, false, false, false, false, false, false] rfl rfl (by kernel_rfl) (fun _ _ _ h => h) (Or.inl ⟨by rfl, ?_⟩) ?_ ?_
        rotate_left
        · intro w'
          go_simp
          with_reducible rfl
        rotate_left
        · simp only [Act.put, List.setIfInBounds_toArray, List.set_cons_zero, List.set_cons_succ, i64_w, i32_w]
          rfl
        refine pure_ (i := 8) (N := some 56) (v := ?_) (a' := ?_) #[true, true, true, true, true, true, true, true, true, false, false, false, false, false, false, false] rfl rfl (by kernel_rfl) (fun _ _ _ h => h) (Or.inl ⟨by rfl, ?_⟩) ?_ ?_
        rotate_left
        · intro w'
          go_simp
          with_reducible rfl
        rotate_left
        · simp only [Act.put, List.setIfInBounds_toArray, List.set_cons_zero, List.set_cons_succ, i64_w, i32_w]
          rfl
        refine pure_ (i := 10) (N := some 58) (v := ?_) (a' := ?_) #[true, true, true, true, true, true, true, true, true, false, true, false, false, false, false, false] rfl rfl (by kernel_rfl) (fun _ _ _ h => h) (Or.inl ⟨by rfl, ?_⟩) ?_ ?_
        rotate_left
        · intro w'
          go_simp
          with_reducible rfl
        rotate_left
        · simp only [Act.put, List.setIfInBounds_toArray, List.set_cons_zero, List.set_cons_succ, i64_w, i32_w]
          rfl
        refine pure_ (i := 11) (N := some 59) (v := ?_) (a' := ?_) #[true, true, true, true, true, true, true, true, true, false, true, true, false, false, false, false] rfl rfl (by kernel_rfl) (fun _ _ _ h => h) (Or.inl ⟨by rfl, ?_⟩) ?_ ?_
        rotate_left
        · intro w'
          go_simp
          with_reducible rfl
        rotate_left
        · simp only [Act.put, List.setIfInBounds_toArray, List.set_cons_zero, List.set_cons_succ, i64_w, i32_w]
          rfl
        refine take_ (i := 9) (N := some 57) (v := ?_) (a' := ?_) #[true, true, true, true, true, true, true, true, true, true, true, true, false, false, false, false] rfl rfl (by kernel_rfl) (fun _ _ _ h => h) (Or.inl ⟨by rfl, ?_⟩) hHeld ?_ ?_
        rotate_left
        · rintro w' ⟨s0, s1⟩
          go_simp
          with_reducible rfl
        rotate_left
        · simp only [Act.put, List.setIfInBounds_toArray, List.set_cons_zero, List.set_cons_succ, i64_w, i32_w]
          rfl
        refine take_ (i := 12) (N := some 60) (v := ?_) (a' := ?_) #[true, true, true, true, true, true, true, true, true, true, true, true, true, false, false, false] rfl rfl (by kernel_rfl) (fun _ _ _ h => h) (Or.inl ⟨by rfl, ?_⟩) hHeld ?_ ?_
        rotate_left
        · rintro w' ⟨s0, s1⟩
          go_simp
          with_reducible rfl
        rotate_left
        · simp only [Act.put, List.setIfInBounds_toArray, List.set_cons_zero, List.set_cons_succ, i64_w, i32_w]
          rfl
        refine pure_ (i := 13) (N := some 61) (v := ?_) (a' := ?_) #[true, true, true, true, true, true, true, true, true, true, true, true, true, true, false, false] rfl rfl (by kernel_rfl) (fun _ _ _ h => h) (Or.inl ⟨by rfl, ?_⟩) ?_ ?_
        rotate_left
        · intro w'
          go_simp
          with_reducible rfl
        rotate_left
        · simp only [Act.put, List.setIfInBounds_toArray, List.set_cons_zero, List.set_cons_succ, i64_w, i32_w]
          rfl
        refine pure_ (i := 14) (N := some 62) (v := ?_) (a' := ?_) #[true, true, true, true, true, true, true, true, true, true, true, true, true, true, true, false] rfl rfl (by kernel_rfl) (fun _ _ _ h => h) (Or.inl ⟨by rfl, ?_⟩) ?_ ?_
        rotate_left
        · intro w'
          go_simp
          with_reducible rfl
        rotate_left
        · simp only [Act.put, List.setIfInBounds_toArray, List.set_cons_zero, List.set_cons_succ, i64_w, i32_w]
          rfl
        refine last_ (i := 15) (N := none) #[true, true, true, true, true, true, true, true, true, true, true, true, true, true, true, true] rfl rfl (by kernel_rfl) (by decide) (fun K hK => ?_)
        refine skip_ (w1 := ?_) (by rfl) rfl ?_ ?_
        rotate_left
        · go_simp
          rfl
        refine hK.out _ _ ?_
        clear hK K
        refine done_ (by kernel_rfl) ?_
        have hne1 := ho.blk_ne Bb (by decide)
        have hne2 := ho.blk_ne Bh (by decide)
        have hB2 := ho.grown hB hB.size hst.2
        have Bb2 := Bb.grown hst.2 hne1
        have Bh2 := Bh.grown hst.2 hne2
        have ho2 := hst.1
        rw [HA.out] at ht0
        have HT := Lib.hid ht0
        have hz2 := Bb2.cell j (v := .int .u8 z) (by rw [five b0 b1 b2 b3 b4 hgo.1, hzz])
        clear hc hf hz hst ho Bb Bh hB hc' hz' ht0 hw t7 t5 hne1 hne2
        rcases a with _ | _
        · go_wp2
          go_roundw
          case rel => exact ⟨j + 1, by omega, by omega, by omega, by go_num, by rw [HT.out]; rfl, by rw [E.out]; exact ho2, Bb2, Bh2, below_drewN hB2 1⟩
          case measure => simp [intOf]; omega
        · go_wp2
          go_roundw
          case rel => exact ⟨j + 1, by omega, by omega, by omega, by go_num, by rw [HT.out, Bool.true_and], by rw [E.out]; exact ho2, Bb2, Bh2, below_drewN hB2 1⟩
          case measure => simp [intOf]; omega
      · have t3 : (12 : Int) ≤ (K : Int) := by omega
        go_wp2_with fail
        have hw : IntKind.i64.wrap ((K : Int) + (j : Int)) = ((K + j : Nat) : Int) := by rw [IntKind.wrap_i64]; omega
        have t5 : 0 ≤ (K : Int) + (j : Int) := by omega
        have t6 : (j : Int) < 5 := by omega
        have t7 : ((K : Int) + (j : Int)).toNat = K + j := by omega
        have hc' : wr.drew.cell? ⟨q, K + j, none⟩ = some (.int .u8 y) := hc
        have hz' : wr.drew.cell? ⟨w.heap.size, j, none⟩ = some (.int .u8 z) := hz
        refine start_ (n := 16) (S := fun w' => w'.cell? ⟨q, K + j, none⟩ = some (.int .u8 y) ∧ w'.cell? ⟨w.heap.size, j, none⟩ = some (.int .u8 z)) (ds := [15]) #[false, false, false, false, false, false, false, false, false, false, false, false, false, false, false, false] (by kernel_rfl) rfl rfl ⟨hc', hz'⟩ (fun hHeld => ?_)
        refine pure_ (i := 0) (N := some 48) (v := ?_) (a' := ?_) #[true, false, false, false, false, false, false, false, false, false, false, false, false, false, false, false] rfl rfl (by kernel_rfl) (fun _ _ _ h => h) (Or.inl ⟨by rfl, ?_⟩) ?_ ?_
        rotate_left
        · intro w'
          go_simp
          with_reducible rfl
        rotate_left
        · simp only [Act.put, List.setIfInBounds_toArray, List.set_cons_zero, List.set_cons_succ, i64_w, i32_w]
          rfl
        refine pure_ (i := 1) (N := some 49) (v := ?_) (a' := ?_) #[true, true, false, false, false, false, false, false, false, false, false, false, false, false, false, false] rfl rfl (by kernel_rfl) (fun _ _ _ h => h) (Or.inl ⟨by rfl, ?_⟩) ?_ ?_
        rotate_left
        · intro w'
          go_simp
          with_reducible rfl
        rotate_left
        · simp only [Act.put, List.setIfInBounds_toArray, List.set_cons_zero, List.set_cons_succ, i64_w, i32_w]
          rfl
        refine pure_ (i := 2) (N := some 50) (v := ?_) (a' := ?_) #[true, true, true, false, false, false, false, false, false, false, false, false, false, false, false, false] rfl rfl (by kernel_rfl) (fun _ _ _ h => h) (Or.inl ⟨by rfl, ?_⟩) ?_ ?_
        rotate_left
        · intro w'
          go_simp
          with_reducible rfl
        rotate_left
        · simp only [Act.put, List.setIfInBounds_toArray, List.set_cons_zero, List.set_cons_succ, i64_w, i32_w]
          rfl
        refine pure_ (i := 3) (N := some 51) (v := ?_) (a' := ?_) #[true, true, true, true, false, false, false, false, false, false, false, false, false, false, false, false] rfl rfl (by kernel_rfl) (fun _ _ _ h => h) (Or.inl ⟨by rfl, ?_⟩) ?_ ?_
        rotate_left
        · intro w'
          go_simp
          with_reducible rfl
        rotate_left
        · simp only [Act.put, List.setIfInBounds_toArray, List.set_cons_zero, List.set_cons_succ, i64_w, i32_w]
          rfl
        refine pure_ (i := 4) (N := some 52) (v := ?_) (a' := ?_) #[true, true, true, true, true, false, false, false, false, false, false, false, false, false, false, false] rfl rfl (by kernel_rfl) (fun _ _ _ h => h) (Or.inl ⟨by rfl, ?_⟩) ?_ ?_
        rotate_left
        · intro w'
          go_simp
          with_reducible rfl
        rotate_left
        · simp only [Act.put, List.setIfInBounds_toArray, List.set_cons_zero, List.set_cons_succ, i64_w, i32_w]
          rfl
        refine pure_ (i := 5) (N := some 53) (v := ?_) (a' := ?_) #[true, true, true, true, true, true, false, false, false, false, false, false, false, false, false, false] rfl rfl (by kernel_rfl) (fun _ _ _ h => h) (Or.inl ⟨by rfl, ?_⟩) ?_ ?_
        rotate_left
        · intro w'
          go_simp
          with_reducible rfl
        rotate_left
        · simp only [Act.put, List.setIfInBounds_toArray, List.set_cons_zero, List.set_cons_succ, i64_w, i32_w]
          rfl
        refine pure_ (i := 6) (N := some 54) (v := ?_) (a' := ?_) #[true, true, true, true, true, true, true, false, false, false, false, false, false, false, false, false] rfl rfl (by kernel_rfl) (fun _ _ _ h => h) (Or.inl ⟨by rfl, ?_⟩) ?_ ?_
        rotate_left
        · intro w'
          go_simp
          with_reducible rfl
        rotate_left
        · simp only [Act.put, List.setIfInBounds_toArray, List.set_cons_zero, List.set_cons_succ, i64_w, i32_w]
          rfl
        refine pure_ (i := 7) (N := some 55) (v := ?_) (a' := ?_) #[true, true, true, true, true, true, true, true, false, false, false, false, false, false, false, false] rfl rfl (by kernel_rfl) (fun _ _ _ h => h) (Or.inl ⟨by rfl, ?_⟩) ?_ ?_
        rotate_left
        · intro w'
          go_simp
          with_reducible rfl
        rotate_left
        · simp only [Act.put, List.setIfInBounds_toArray, List.set_cons_zero, List.set_cons_succ, i64_w, i32_w]
          rfl
        refine pure_ (i := 8) (N := some 56) (v := ?_) (a' := ?_) #[true, true, true, true, true, true, true, true, true, false, false, false, false, false, false, false] rfl rfl (by kernel_rfl) (fun _ _ _ h => h) (Or.inl ⟨by rfl, ?_⟩) ?_ ?_
        rotate_left
        · intro w'
          go_simp
          with_reducible rfl
        rotate_left
        · simp only [Act.put, List.setIfInBounds_toArray, List.set_cons_zero, List.set_cons_succ, i64_w, i32_w]
          rfl
        refine pure_ (i := 10) (N := some 58) (v := ?_) (a' := ?_) #[true, true, true, true, true, true, true, true, true, false, true, false, false, false, false, false] rfl rfl (by kernel_rfl) (fun _ _ _ h => h) (Or.inl ⟨by rfl, ?_⟩) ?_ ?_
        rotate_left
        · intro w'
          go_simp
          with_reducible rfl
        rotate_left
        · simp only [Act.put, List.setIfInBounds_toArray, List.set_cons_zero, List.set_cons_succ, i64_w, i32_w]
          rfl
        refine pure_ (i := 11) (N := some 59) (v := ?_) (a' := ?_) #[true, true, true, true, true, true, true, true, true, false, true, true, false, false, false, false] rfl rfl (by kernel_rfl) (fun _ _ _ h => h) (Or.inl ⟨by rfl, ?_⟩) ?_ ?_
        rotate_left
        · intro w'
          go_simp
          with_reducible rfl
        rotate_left
        · simp only [Act.put, List.setIfInBounds_toArray, List.set_cons_zero, List.set_cons_succ, i64_w, i32_w]
          rfl
        refine take_ (i := 9) (N := some 57) (v := ?_) (a' := ?_) #[true, true, true, true, true, true, true, true, true, true, true, true, false, false, false, false] rfl rfl (by kernel_rfl) (fun _ _ _ h => h) (Or.inl ⟨by rfl, ?_⟩) hHeld ?_ ?_
        rotate_left
        · rintro w' ⟨s0, s1⟩
          go_simp
          with_reducible rfl
        rotate_left
        · simp only [Act.put, List.setIfInBounds_toArray, List.set_cons_zero, List.set_cons_succ, i64_w, i32_w]
          rfl
        refine take_ (i := 12) (N := some 60) (v := ?_) (a' := ?_) #[true, true, true, true, true, true, true, true, true, true, true, true, true, false, false, false] rfl rfl (by kernel_rfl) (fun _ _ _ h => h) (Or.inl ⟨by rfl, ?_⟩) hHeld ?_ ?_
        rotate_left
        · rintro w' ⟨s0, s1⟩
          go_simp
          with_reducible rfl
        rotate_left
        · simp only [Act.put, List.setIfInBounds_toArray, List.set_cons_zero, List.set_cons_succ, i64_w, i32_w]
          rfl
        refine pure_ (i := 13) (N := some 61) (v := ?_) (a' := ?_) #[true, true, true, true, true, true, true, true, true, true, true, true, true, true, false, false] rfl rfl (by kernel_rfl) (fun _ _ _ h => h) (Or.inl ⟨by rfl, ?_⟩) ?_ ?_
        rotate_left
        · intro w'
          go_simp
          with_reducible rfl
        rotate_left
        · simp only [Act.put, List.setIfInBounds_toArray, List.set_cons_zero, List.set_cons_succ, i64_w, i32_w]
          rfl
        refine pure_ (i := 14) (N := some 62) (v := ?_) (a' := ?_) #[true, true, true, true, true, true, true, true, true, true, true, true, true, true, true, false] rfl rfl (by kernel_rfl) (fun _ _ _ h => h) (Or.inl ⟨by rfl, ?_⟩) ?_ ?_
        rotate_left
        · intro w'
          go_simp
          with_reducible rfl
        rotate_left
        · simp only [Act.put, List.setIfInBounds_toArray, List.set_cons_zero, List.set_cons_succ, i64_w, i32_w]
          rfl
        refine last_ (i := 15) (N := none) #[true, true, true, true, true, true, true, true, true, true, true, true, true, true, true, true] rfl rfl (by kernel_rfl) (by decide) (fun K hK => ?_)
        refine skip_ (w1 := ?_) (by rfl) rfl ?_ ?_
        rotate_left
        · go_simp
          rfl
        refine hK.out _ _ ?_
        clear hK K
        refine done_ (by kernel_rfl) ?_
        have hne1 := ho.blk_ne Bb (by decide)
        have hne2 := ho.blk_ne Bh (by decide)
        have hB2 := ho.grown hB hB.size hst.2
        have Bb2 := Bb.grown hst.2 hne1
        have Bh2 := Bh.grown hst.2 hne2
        have ho2 := hst.1
        rw [HA.out] at ht0
        have HT := Lib.hid ht0
        have hz2 := Bb2.cell j (v := .int .u8 z) (by rw [five b0 b1 b2 b3 b4 hgo.1, hzz])
        clear hc hf hz hst ho Bb Bh hB hc' hz' ht0 hw t7 t5 hne1 hne2
        rcases a with _ | _
        · go_wp2
          go_roundw
          case rel => exact ⟨j + 1, by omega, by omega, by omega, by go_num, by rw [HT.out]; rfl, by rw [E.out]; exact ho2, Bb2, Bh2, below_drewN hB2 1⟩
          case measure => simp [intOf]; omega
        · go_wp2
          go_roundw
          case rel => exact ⟨j + 1, by omega, by omega, by omega, by go_num, by rw [HT.out, Bool.true_and], by rw [E.out]; exact ho2, Bb2, Bh2, below_drewN hB2 1⟩
          case measure => simp [intOf]; omega
    · clear EA E
      have hr := ho.rd
      clear ho Bb
      rcases a with _ | _
      · have HK1 := HK.out (az_false HA.out)
        clear HK HS HA
        by_cases hc : j = 4
        · have t1 : ¬ (j : Int) < 4 := by omega
          clear hgo hc
          go_wp2_with fail
          refine (hget_n hr hlen hd HK1).mono ?_
          rintro e w3 ⟨rfl, hx⟩
          have Bh := (Bh.below hx).alloc (.cells #[.int .i64 0, .int .u32 0] 27)
          have Bx := Blk.new w3 27 #[.int .i64 0, .int .u32 0]
          have hB := below_then hB hx
          have hB := hB.alloc hB.size (.cells #[.int .i64 0, .int .u32 0] 27)
          clear hx
          go_wp2_with fail
          refine (alive08 _).mono ?_
          rintro e w4 ⟨rfl, hx⟩
          have Bh := Bh.below hx
          have Bx := Bx.below hx
          have hB := below_then hB hx
          clear hx
          have k0 := Bh.cell 0 (v := .int .i64 N) rfl
          have k1 := Bh.cell 1 (v := .int .u32 g) rfl
          have k2 := Bx.cell 0 (v := .int .i64 0) rfl
          have k3 := Bx.cell 1 (v := .int .u32 0) rfl
          go_wp2
          go_ret
          exact ⟨rfl, hB⟩
        by_cases hc : j < 4 ∧ K + j = 16
        · have t1 : (j : Int) < 4 := by omega
          have t2 : ¬ (K : Int) + (j : Int) < 16 := by omega
          clear hgo hc
          go_wp2_with fail
          refine (hget_n hr hlen hd HK1).mono ?_
          rintro e w3 ⟨rfl, hx⟩
          have Bh := (Bh.below hx).alloc (.cells #[.int .i64 0, .int .u32 0] 27)
          have Bx := Blk.new w3 27 #[.int .i64 0, .int .u32 0]
          have hB := below_then hB hx
          have hB := hB.alloc hB.size (.cells #[.int .i64 0, .int .u32 0] 27)
          clear hx
          go_wp2_with fail
          refine (alive08 _).mono ?_
          rintro e w4 ⟨rfl, hx⟩
          have Bh := Bh.below hx
          have Bx := Bx.below hx
          have hB := below_then hB hx
          clear hx
          have k0 := Bh.cell 0 (v := .int .i64 N) rfl
          have k1 := Bh.cell 1 (v := .int .u32 g) rfl
          have k2 := Bx.cell 0 (v := .int .i64 0) rfl
          have k3 := Bx.cell 1 (v := .int .u32 0) rfl
          go_wp2
          go_ret
          exact ⟨rfl, hB⟩
        have t1 : (j : Int) < 4 := by omega
        have t2 : (K : Int) + (j : Int) < 16 := by omega
        have t3 : ¬ (12 : Int) ≤ (K : Int) := by omega
        have t4 : ¬ (K : Int) + (j : Int) < 12 := by omega
        clear hgo
        go_wp2_with fail
        refine (hget_n hr hlen hd HK1).mono ?_
        rintro e w3 ⟨rfl, hx⟩
        have Bh := (Bh.below hx).alloc (.cells #[.int .i64 0, .int .u32 0] 27)
        have Bx := Blk.new w3 27 #[.int .i64 0, .int .u32 0]
        have hB := below_then hB hx
        have hB := hB.alloc hB.size (.cells #[.int .i64 0, .int .u32 0] 27)
        clear hx
        go_wp2_with fail
        refine (alive08 _).mono ?_
        rintro e w4 ⟨rfl, hx⟩
        have Bh := Bh.below hx
        have Bx := Bx.below hx
        have hB := below_then hB hx
        clear hx
        have k0 := Bh.cell 0 (v := .int .i64 N) rfl
        have k1 := Bh.cell 1 (v := .int .u32 g) rfl
        have k2 := Bx.cell 0 (v := .int .i64 0) rfl
        have k3 := Bx.cell 1 (v := .int .u32 0) rfl
        go_wp2
        go_ret
        exact ⟨rfl, hB⟩
      · have hLL := HS.out (az_true HA.out)
        rw [hLL] at hr
        have HS1 := hOK_hb hN1 hN2 hg hg'
        have HS2 := hvOK_hb hN1 hN2 hg hg'
        have HS3 := hb_length N g
        clear HK HS HA hLL hlen
        by_cases hc : j = 4
        · have t1 : ¬ (j : Int) < 4 := by omega
          clear hgo hc
          go_wp2_with fail
          refine (hget_v hr HS3 hd HS1 HS2).mono ?_
          rintro e w3 ⟨rfl, hx⟩
          have Bh := (Bh.below hx).alloc (.cells #[.int .i64 N, .int .u32 g] 27)
          have Bx := Blk.new w3 27 #[.int .i64 N, .int .u32 g]
          have hB := below_then hB hx
          have hB := hB.alloc hB.size (.cells #[.int .i64 N, .int .u32 g] 27)
          clear hx
          go_wp2_with fail
          refine (alive08 _).mono ?_
          rintro e w4 ⟨rfl, hx⟩
          have Bh := Bh.below hx
          have Bx := Bx.below hx
          have hB := below_then hB hx
          clear hx
          have k0 := Bh.cell 0 (v := .int .i64 N) rfl
          have k1 := Bh.cell 1 (v := .int .u32 g) rfl
          have k2 := Bx.cell 0 (v := .int .i64 N) rfl
          have k3 := Bx.cell 1 (v := .int .u32 g) rfl
          go_wp2
          go_ret
          exact ⟨rfl, hB⟩
        by_cases hc : j < 4 ∧ K + j = 16
        · have t1 : (j : Int) < 4 := by omega
          have t2 : ¬ (K : Int) + (j : Int) < 16 := by omega
          clear hgo hc
          go_wp2_with fail
          refine (hget_v hr HS3 hd HS1 HS2).mono ?_
          rintro e w3 ⟨rfl, hx⟩
          have Bh := (Bh.below hx).alloc (.cells #[.int .i64 N, .int .u32 g] 27)
          have Bx := Blk.new w3 27 #[.int .i64 N, .int .u32 g]
          have hB := below_then hB hx
          have hB := hB.alloc hB.size (.cells #[.int .i64 N, .int .u32 g] 27)
          clear hx
          go_wp2_with fail
          refine (alive08 _).mono ?_
          rintro e w4 ⟨rfl, hx⟩
          have Bh := Bh.below hx
          have Bx := Bx.below hx
          have hB := below_then hB hx
          clear hx
          have k0 := Bh.cell 0 (v := .int .i64 N) rfl
          have k1 := Bh.cell 1 (v := .int .u32 g) rfl
          have k2 := Bx.cell 0 (v := .int .i64 N) rfl
          have k3 := Bx.cell 1 (v := .int .u32 g) rfl
          go_wp2
          go_ret
          exact ⟨rfl, hB⟩
        have t1 : (j : Int) < 4 := by omega
        have t2 : (K : Int) + (j : Int) < 16 := by omega
        have t3 : ¬ (12 : Int) ≤ (K : Int) := by omega
        have t4 : ¬ (K : Int) + (j : Int) < 12 := by omega
        clear hgo
        go_wp2_with fail
        refine (hget_v hr HS3 hd HS1 HS2).mono ?_
        rintro e w3 ⟨rfl, hx⟩
        have Bh := (Bh.below hx).alloc (.cells #[.int .i64 N, .int .u32 g] 27)
        have Bx := Blk.new w3 27 #[.int .i64 N, .int .u32 g]
        have hB := below_then hB hx
        have hB := hB.alloc hB.size (.cells #[.int .i64 N, .int .u32 g] 27)
        clear hx
        go_wp2_with fail
        refine (alive08 _).mono ?_
        rintro e w4 ⟨rfl, hx⟩
        have Bh := Bh.below hx
        have Bx := Bx.below hx
        have hB := below_then hB hx
        clear hx
        have k0 := Bh.cell 0 (v := .int .i64 N) rfl
        have k1 := Bh.cell 1 (v := .int .u32 g) rfl
        have k2 := Bx.cell 0 (v := .int .i64 N) rfl
        have k3 := Bx.cell 1 (v := .int .u32 g) rfl
        go_wp2
        go_ret
        exact ⟨rfl, hB⟩
end Go.Proofs.Ytffikncbpcnflaa.Hand
