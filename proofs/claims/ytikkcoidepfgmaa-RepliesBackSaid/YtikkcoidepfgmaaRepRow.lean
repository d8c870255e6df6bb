/- The statements' helpers: row, SameReply, is. -/
import Derived.Deep.LoopGhost
import Derived.Test.YtikkcoidepfgmaaWLast
import Derived.Test.YtikkcoidepfgmaaHelp
import Derived.Test.YtikkcoidepfgmaaRepSum
namespace Go.Proofs.Ytikkcoidepfgmaa.Hand
open Go.RowKit Go.Proofs.YtikkcoidepfgmaaW.PrintLast
set_option linter.unusedVariables false
set_option linter.unusedSimpArgs false

theorem rd4 (w : World) (N : Int) : Rd (w.alloc (.cells #[.int .u8 (IntKind.u8.wrap (N / 16777216)), .int .u8 (IntKind.u8.wrap (N / 65536)), .int .u8 (IntKind.u8.wrap (N / 256)), .int .u8 (IntKind.u8.wrap N)] 5)) (some ⟨w.heap.size, 0, none⟩) (be N 4) := by
  have h := Rd.lit w (be N 4) (be_bs _ _)
  rw [be4] at h ⊢
  simpa [IntKind.wrap_u8] using h

set_option maxRecDepth 100000 in
set_option maxHeartbeats 2000000 in
theorem row_ (A : Option Addr) (c : Nat) (m : List Int) (w : World) (hr : RdN w A m) (hn : m.length ≤ 1000) :
    Calls Try.prog 14 #[.slice A m.length c] w fun e w' => ∃ v, e = .returned v ∧ Own w' w.heap.size v (rw4 m) ∧ Below w.heap.size w w' := by
  go_enter Try.func14, Try.ntmps14
  go_wp2_with fail
  go_loopg [3, 4] (m.length) (fun k b i wr => ∃ j : Nat, i = .int .i64 j ∧ k + j = m.length ∧ Own wr w.heap.size b (rw4 (m.take j)) ∧ Below w.heap.size w wr)
  case atStart => exact ⟨0, rfl, by omega, by simpa [rw4] using Own.nil w w.heap.size, Below.refl _ _⟩
  case round =>
    obtain ⟨j, rfl, hkj, ho, hB⟩ := hrel
    by_cases hlt : j < m.length
    · have hkm : (j : Int) < (m.length : Int) := by omega
      obtain ⟨ad, rfl, hcell⟩ := (hr.keep fun p _ hp => cell_later hB hp).at_ hlt
      obtain ⟨u0, u1⟩ := hr.1.at_ hlt
      have hst := rw4_take hlt
      have hlen := rw4_length (m.take j)
      rw [List.length_take, Nat.min_eq_left (by omega)] at hlen
      obtain ⟨N, hN⟩ : ∃ N, nth m j = N := ⟨_, rfl⟩
      rw [hN] at hcell u0 u1 hst
      have HN := Lib.hid hN
      clear hN
      have HS := Lib.hid hst
      have HL := Lib.hid hlen
      have HK := Lib.hid hkj
      clear hst hlen hkj
      go_wp2_with fail
      have k0 : wr.drew.cell? _ = _ := hcell
      refine start_ (n := 27) (S := fun w' => w'.cell? (ad.add j) = some (.int .u32 N)) (ds := []) #[false, false, false, false, false, false, false, false, false, false, false, false, false, false, false, false, false, false, false, false, false, false, false, false, false, false, false] (by kernel_rfl) rfl rfl (k0) (fun hHeld => ?_)
      refine pure_ (i := 0) (N := some 11) (v := ?_) (a' := ?_) #[true, false, false, false, false, false, false, false, false, false, false, false, false, false, false, false, false, false, false, false, false, false, false, false, false, false, false] rfl rfl (by kernel_rfl) (fun _ _ _ h => h) (Or.inl ⟨by rfl, ?_⟩) ?_ ?_
      rotate_left
      · intro w'
        go_simp
        with_reducible rfl
      rotate_left
      · simp only [Act.put, List.setIfInBounds_toArray, List.set_cons_zero, List.set_cons_succ, i64_w, i32_w]
        rfl
      refine pure_ (i := 1) (N := some 12) (v := ?_) (a' := ?_) #[true, true, false, false, false, false, false, false, false, false, false, false, false, false, false, false, false, false, false, false, false, false, false, false, false, false, false] rfl rfl (by kernel_rfl) (fun _ _ _ h => h) (Or.inl ⟨by rfl, ?_⟩) ?_ ?_
      rotate_left
      · intro w'
        go_simp
        with_reducible rfl
      rotate_left
      · simp only [Act.put, List.setIfInBounds_toArray, List.set_cons_zero, List.set_cons_succ, i64_w, i32_w]
        rfl
      refine pure_ (i := 2) (N := some 13) (v := ?_) (a' := ?_) #[true, true, true, false, false, false, false, false, false, false, false, false, false, false, false, false, false, false, false, false, false, false, false, false, false, false, false] rfl rfl (by kernel_rfl) (fun _ _ _ h => h) (Or.inl ⟨by rfl, ?_⟩) ?_ ?_
      rotate_left
      · intro w'
        go_simp
        with_reducible rfl
      rotate_left
      · simp only [Act.put, List.setIfInBounds_toArray, List.set_cons_zero, List.set_cons_succ, i64_w, i32_w]
        rfl
      refine pure_ (i := 3) (N := some 14) (v := ?_) (a' := ?_) #[true, true, true, true, false, false, false, false, false, false, false, false, false, false, false, false, false, false, false, false, false, false, false, false, false, false, false] rfl rfl (by kernel_rfl) (fun _ _ _ h => h) (Or.inl ⟨by rfl, ?_⟩) ?_ ?_
      rotate_left
      · intro w'
        go_simp
        with_reducible rfl
      rotate_left
      · simp only [Act.put, List.setIfInBounds_toArray, List.set_cons_zero, List.set_cons_succ, i64_w, i32_w]
        rfl
      refine pure_ (i := 7) (N := some 18) (v := ?_) (a' := ?_) #[true, true, true, true, false, false, false, true, false, false, false, false, false, false, false, false, false, false, false, false, false, false, false, false, false, false, false] rfl rfl (by kernel_rfl) (fun _ _ _ h => h) (Or.inl ⟨by rfl, ?_⟩) ?_ ?_
      rotate_left
      · intro w'
        go_simp
        with_reducible rfl
      rotate_left
      · simp only [Act.put, List.setIfInBounds_toArray, List.set_cons_zero, List.set_cons_succ, i64_w, i32_w]
        rfl
      refine pure_ (i := 8) (N := some 19) (v := ?_) (a' := ?_) #[true, true, true, true, false, false, false, true, true, false, false, false, false, false, false, false, false, false, false, false, false, false, false, false, false, false, false] rfl rfl (by kernel_rfl) (fun _ _ _ h => h) (Or.inl ⟨by rfl, ?_⟩) ?_ ?_
      rotate_left
      · intro w'
        go_simp
        with_reducible rfl
      rotate_left
      · simp only [Act.put, List.setIfInBounds_toArray, List.set_cons_zero, List.set_cons_succ, i64_w, i32_w]
        rfl
      refine pure_ (i := 9) (N := some 20) (v := ?_) (a' := ?_) #[true, true, true, true, false, false, false, true, true, true, false, false, false, false, false, false, false, false, false, false, false, false, false, false, false, false, false] rfl rfl (by kernel_rfl) (fun _ _ _ h => h) (Or.inl ⟨by rfl, ?_⟩) ?_ ?_
      rotate_left
      · intro w'
        go_simp
        with_reducible rfl
      rotate_left
      · simp only [Act.put, List.setIfInBounds_toArray, List.set_cons_zero, List.set_cons_succ, i64_w, i32_w]
        rfl
      refine pure_ (i := 13) (N := some 24) (v := ?_) (a' := ?_) #[true, true, true, true, false, false, false, true, true, true, false, false, false, true, false, false, false, false, false, false, false, false, false, false, false, false, false] rfl rfl (by kernel_rfl) (fun _ _ _ h => h) (Or.inl ⟨by rfl, ?_⟩) ?_ ?_
      rotate_left
      · intro w'
        go_simp
        with_reducible rfl
      rotate_left
      · simp only [Act.put, List.setIfInBounds_toArray, List.set_cons_zero, List.set_cons_succ, i64_w, i32_w]
        rfl
      refine pure_ (i := 14) (N := some 25) (v := ?_) (a' := ?_) #[true, true, true, true, false, false, false, true, true, true, false, false, false, true, true, false, false, false, false, false, false, false, false, false, false, false, false] rfl rfl (by kernel_rfl) (fun _ _ _ h => h) (Or.inl ⟨by rfl, ?_⟩) ?_ ?_
      rotate_left
      · intro w'
        go_simp
        with_reducible rfl
      rotate_left
      · simp only [Act.put, List.setIfInBounds_toArray, List.set_cons_zero, List.set_cons_succ, i64_w, i32_w]
        rfl
      refine pure_ (i := 15) (N := some 26) (v := ?_) (a' := ?_) #[true, true, true, true, false, false, false, true, true, true, false, false, false, true, true, true, false, false, false, false, false, false, false, false, false, false, false] rfl rfl (by kernel_rfl) (fun _ _ _ h => h) (Or.inl ⟨by rfl, ?_⟩) ?_ ?_
      rotate_left
      · intro w'
        go_simp
        with_reducible rfl
      rotate_left
      · simp only [Act.put, List.setIfInBounds_toArray, List.set_cons_zero, List.set_cons_succ, i64_w, i32_w]
        rfl
      refine pure_ (i := 19) (N := some 30) (v := ?_) (a' := ?_) #[true, true, true, true, false, false, false, true, true, true, false, false, false, true, true, true, false, false, false, true, false, false, false, false, false, false, false] rfl rfl (by kernel_rfl) (fun _ _ _ h => h) (Or.inl ⟨by rfl, ?_⟩) ?_ ?_
      rotate_left
      · intro w'
        go_simp
        with_reducible rfl
      rotate_left
      · simp only [Act.put, List.setIfInBounds_toArray, List.set_cons_zero, List.set_cons_succ, i64_w, i32_w]
        rfl
      refine pure_ (i := 20) (N := some 31) (v := ?_) (a' := ?_) #[true, true, true, true, false, false, false, true, true, true, false, false, false, true, true, true, false, false, false, true, true, false, false, false, false, false, false] rfl rfl (by kernel_rfl) (fun _ _ _ h => h) (Or.inl ⟨by rfl, ?_⟩) ?_ ?_
      rotate_left
      · intro w'
        go_simp
        with_reducible rfl
      rotate_left
      · simp only [Act.put, List.setIfInBounds_toArray, List.set_cons_zero, List.set_cons_succ, i64_w, i32_w]
        rfl
      refine pure_ (i := 21) (N := some 32) (v := ?_) (a' := ?_) #[true, true, true, true, false, false, false, true, true, true, false, false, false, true, true, true, false, false, false, true, true, true, false, false, false, false, false] rfl rfl (by kernel_rfl) (fun _ _ _ h => h) (Or.inl ⟨by rfl, ?_⟩) ?_ ?_
      rotate_left
      · intro w'
        go_simp
        with_reducible rfl
      rotate_left
      · simp only [Act.put, List.setIfInBounds_toArray, List.set_cons_zero, List.set_cons_succ, i64_w, i32_w]
        rfl
      refine take_ (i := 4) (N := some 15) (v := ?_) (a' := ?_) #[true, true, true, true, true, false, false, true, true, true, false, false, false, true, true, true, false, false, false, true, true, true, false, false, false, false, false] rfl rfl (by kernel_rfl) (fun _ _ _ h => h) (Or.inl ⟨by rfl, ?_⟩) hHeld ?_ ?_
      rotate_left
      · intro w' s0
        go_simp
        with_reducible rfl
      rotate_left
      · simp only [Act.put, List.setIfInBounds_toArray, List.set_cons_zero, List.set_cons_succ, i64_w, i32_w]
        rfl
      refine pure_ (i := 5) (N := some 16) (v := ?_) (a' := ?_) #[true, true, true, true, true, true, false, true, true, true, false, false, false, true, true, true, false, false, false, true, true, true, false, false, false, false, false] rfl rfl (by kernel_rfl) (fun _ _ _ h => h) (Or.inl ⟨by rfl, ?_⟩) ?_ ?_
      rotate_left
      · intro w'
        go_simp
        with_reducible rfl
      rotate_left
      · simp only [Act.put, List.setIfInBounds_toArray, List.set_cons_zero, List.set_cons_succ, i64_w, i32_w]
        rfl
      refine pure_ (i := 6) (N := some 17) (v := ?_) (a' := ?_) #[true, true, true, true, true, true, true, true, true, true, false, false, false, true, true, true, false, false, false, true, true, true, false, false, false, false, false] rfl rfl (by kernel_rfl) (fun _ _ _ h => h) (Or.inl ⟨by rfl, ?_⟩) ?_ ?_
      rotate_left
      · intro w'
        go_simp
        with_reducible rfl
      rotate_left
      · simp only [Act.put, List.setIfInBounds_toArray, List.set_cons_zero, List.set_cons_succ, i64_w, i32_w]
        rfl
      refine take_ (i := 10) (N := some 21) (v := ?_) (a' := ?_) #[true, true, true, true, true, true, true, true, true, true, true, false, false, true, true, true, false, false, false, true, true, true, false, false, false, false, false] rfl rfl (by kernel_rfl) (fun _ _ _ h => h) (Or.inl ⟨by rfl, ?_⟩) hHeld ?_ ?_
      rotate_left
      · intro w' s0
        go_simp
        with_reducible rfl
      rotate_left
      · simp only [Act.put, List.setIfInBounds_toArray, List.set_cons_zero, List.set_cons_succ, i64_w, i32_w]
        rfl
      refine pure_ (i := 11) (N := some 22) (v := ?_) (a' := ?_) #[true, true, true, true, true, true, true, true, true, true, true, true, false, true, true, true, false, false, false, true, true, true, false, false, false, false, false] rfl rfl (by kernel_rfl) (fun _ _ _ h => h) (Or.inl ⟨by rfl, ?_⟩) ?_ ?_
      rotate_left
      · intro w'
        go_simp
        with_reducible rfl
      rotate_left
      · simp only [Act.put, List.setIfInBounds_toArray, List.set_cons_zero, List.set_cons_succ, i64_w, i32_w]
        rfl
      refine pure_ (i := 12) (N := some 23) (v := ?_) (a' := ?_) #[true, true, true, true, true, true, true, true, true, true, true, true, true, true, true, true, false, false, false, true, true, true, false, false, false, false, false] rfl rfl (by kernel_rfl) (fun _ _ _ h => h) (Or.inl ⟨by rfl, ?_⟩) ?_ ?_
      rotate_left
      · intro w'
        go_simp
        with_reducible rfl
      rotate_left
      · simp only [Act.put, List.setIfInBounds_toArray, List.set_cons_zero, List.set_cons_succ, i64_w, i32_w]
        rfl
      refine take_ (i := 16) (N := some 27) (v := ?_) (a' := ?_) #[true, true, true, true, true, true, true, true, true, true, true, true, true, true, true, true, true, false, false, true, true, true, false, false, false, false, false] rfl rfl (by kernel_rfl) (fun _ _ _ h => h) (Or.inl ⟨by rfl, ?_⟩) hHeld ?_ ?_
      rotate_left
      · intro w' s0
        go_simp
        with_reducible rfl
      rotate_left
      · simp only [Act.put, List.setIfInBounds_toArray, List.set_cons_zero, List.set_cons_succ, i64_w, i32_w]
        rfl
      refine pure_ (i := 17) (N := some 28) (v := ?_) (a' := ?_) #[true, true, true, true, true, true, true, true, true, true, true, true, true, true, true, true, true, true, false, true, true, true, false, false, false, false, false] rfl rfl (by kernel_rfl) (fun _ _ _ h => h) (Or.inl ⟨by rfl, ?_⟩) ?_ ?_
      rotate_left
      · intro w'
        go_simp
        with_reducible rfl
      rotate_left
      · simp only [Act.put, List.setIfInBounds_toArray, List.set_cons_zero, List.set_cons_succ, i64_w, i32_w]
        rfl
      refine pure_ (i := 18) (N := some 29) (v := ?_) (a' := ?_) #[true, true, true, true, true, true, true, true, true, true, true, true, true, true, true, true, true, true, true, true, true, true, false, false, false, false, false] rfl rfl (by kernel_rfl) (fun _ _ _ h => h) (Or.inl ⟨by rfl, ?_⟩) ?_ ?_
      rotate_left
      · intro w'
        go_simp
        with_reducible rfl
      rotate_left
      · simp only [Act.put, List.setIfInBounds_toArray, List.set_cons_zero, List.set_cons_succ, i64_w, i32_w]
        rfl
      refine take_ (i := 22) (N := some 33) (v := ?_) (a' := ?_) #[true, true, true, true, true, true, true, true, true, true, true, true, true, true, true, true, true, true, true, true, true, true, true, false, false, false, false] rfl rfl (by kernel_rfl) (fun _ _ _ h => h) (Or.inl ⟨by rfl, ?_⟩) hHeld ?_ ?_
      rotate_left
      · intro w' s0
        go_simp
        with_reducible rfl
      rotate_left
      · simp only [Act.put, List.setIfInBounds_toArray, List.set_cons_zero, List.set_cons_succ, i64_w, i32_w]
        rfl
      refine pure_ (i := 23) (N := some 34) (v := ?_) (a' := ?_) #[true, true, true, true, true, true, true, true, true, true, true, true, true, true, true, true, true, true, true, true, true, true, true, true, false, false, false] rfl rfl (by kernel_rfl) (fun _ _ _ h => h) (Or.inl ⟨by rfl, ?_⟩) ?_ ?_
      rotate_left
      · intro w'
        go_simp
        with_reducible rfl
      rotate_left
      · simp only [Act.put, List.setIfInBounds_toArray, List.set_cons_zero, List.set_cons_succ, i64_w, i32_w]
        rfl
      refine one_ (i := 24) (N := some 35) #[true, true, true, true, true, true, true, true, true, true, true, true, true, true, true, true, true, true, true, true, true, true, true, true, true, false, false] rfl rfl (by kernel_rfl) (by decide) (fun K hK => ?_)
      refine value_ (w1 := ?_) (v := ?_) (by rfl) rfl ?_ ?_
      rotate_left 2
      · go_simp
        constructor
        · rfl
        · rfl
      have rb : Rd (wr.alloc (.cells #[.int .u8 (IntKind.u8.wrap (N / 16777216)), .int .u8 (IntKind.u8.wrap (N / 65536)), .int .u8 (IntKind.u8.wrap (N / 256)), .int .u8 (IntKind.u8.wrap N)] 5)).drew (some ⟨wr.heap.size, 0, none⟩) (be N 4) := rd4 wr N
      have ho4 : Own (wr.alloc (.cells #[.int .u8 (IntKind.u8.wrap (N / 16777216)), .int .u8 (IntKind.u8.wrap (N / 65536)), .int .u8 (IntKind.u8.wrap (N / 256)), .int .u8 (IntKind.u8.wrap N)] 5)).drew w.heap.size _ _ := ho.alloc (.cells #[.int .u8 (IntKind.u8.wrap (N / 16777216)), .int .u8 (IntKind.u8.wrap (N / 65536)), .int .u8 (IntKind.u8.wrap (N / 256)), .int .u8 (IntKind.u8.wrap N)] 5)
      have hB4 : Below w.heap.size w (wr.alloc (.cells #[.int .u8 (IntKind.u8.wrap (N / 16777216)), .int .u8 (IntKind.u8.wrap (N / 65536)), .int .u8 (IntKind.u8.wrap (N / 256)), .int .u8 (IntKind.u8.wrap N)] 5)).drew := (hB.alloc hB.size (.cells #[.int .u8 (IntKind.u8.wrap (N / 16777216)), .int .u8 (IntKind.u8.wrap (N / 65536)), .int .u8 (IntKind.u8.wrap (N / 256)), .int .u8 (IntKind.u8.wrap N)] 5)).drew
      have k04 : World.cell? (wr.alloc (.cells #[.int .u8 (IntKind.u8.wrap (N / 16777216)), .int .u8 (IntKind.u8.wrap (N / 65536)), .int .u8 (IntKind.u8.wrap (N / 256)), .int .u8 (IntKind.u8.wrap N)] 5)).drew _ = _ := cell_old k0 (.cells #[.int .u8 (IntKind.u8.wrap (N / 16777216)), .int .u8 (IntKind.u8.wrap (N / 65536)), .int .u8 (IntKind.u8.wrap (N / 256)), .int .u8 (IntKind.u8.wrap N)] 5)
      generalize (wr.alloc (.cells #[.int .u8 (IntKind.u8.wrap (N / 16777216)), .int .u8 (IntKind.u8.wrap (N / 65536)), .int .u8 (IntKind.u8.wrap (N / 256)), .int .u8 (IntKind.u8.wrap N)] 5)).drew = w4 at *
      refine hK.out _ _ (k04) (fun hHeld => ?_)
      clear hK K
      refine norm_ (a' := ?_) ?_ ?_
      rotate_left
      · show Act.put _ (some 35) _ = _
        simp only [Act.put, List.setIfInBounds_toArray, List.set_cons_zero, List.set_cons_succ, i64_w, i32_w]
        rfl
      refine one_ (i := 25) (N := some 36) #[true, true, true, true, true, true, true, true, true, true, true, true, true, true, true, true, true, true, true, true, true, true, true, true, true, true, false] rfl rfl (by kernel_rfl) (by decide) (fun K hK => ?_)
      rw [if_pos (by rfl)]
      refine wp_app _ _ rfl rfl _ w.heap.size u3 (rw4 (m.take j)) rfl ho4 (some ⟨wr.heap.size, 0, none⟩) 4 (be N 4) (by rw [be_length]; rfl) rb (by rw [HL.out, be_length]; omega) hB4.size ?_
      intro v5 w5 ho5 hg5 _
      have hB5 := ho4.grown hB4 hB4.size hg5
      have k05 := (hr.keep fun p _ hp => cell_later hB5 hp).at_ hlt
      obtain ⟨ad', e5, k05⟩ := k05
      obtain rfl : ad = ad' := by injection e5
      rw [HN.out] at k05
      refine hK.out _ _ (k05) (fun hHeld => ?_)
      clear hK K
      refine norm_ (a' := ?_) ?_ ?_
      rotate_left
      · show Act.put _ (some 36) _ = _
        simp only [Act.put, List.setIfInBounds_toArray, List.set_cons_zero, List.set_cons_succ, i64_w, i32_w]
        rfl
      refine pure_ (i := 26) (N := some 3) (v := ?_) (a' := ?_) #[true, true, true, true, true, true, true, true, true, true, true, true, true, true, true, true, true, true, true, true, true, true, true, true, true, true, true] rfl rfl (by kernel_rfl) (fun _ _ _ h => h) (Or.inl ⟨by rfl, ?_⟩) ?_ ?_
      rotate_left
      · intro w'
        go_simp
        with_reducible rfl
      rotate_left
      · simp only [Act.put, List.setIfInBounds_toArray, List.set_cons_zero, List.set_cons_succ, i64_w, i32_w]
        rfl
      refine done_ (by kernel_rfl) ?_
      go_wp2_with fail
      go_roundg (gk - 1)
      case measure => have := HK.out; omega
      case rel => exact ⟨j + 1, by go_num, by have := HK.out; omega, by rw [HS.out]; exact ho5, hB5⟩
    · have hkm : ¬ (j : Int) < (m.length : Int) := by omega
      obtain rfl : j = m.length := by omega
      rw [List.take_length] at ho
      go_wp2_with fail
      go_ret
      exact ⟨_, rfl, ho, hB⟩

set_option maxRecDepth 100000 in
set_option maxHeartbeats 2000000 in
theorem sameRep (x h lo hi : Int) (A B : Option Addr) (c d : Nat) (l : List Int) (w : World) (hl : Rd w A l) (hm : Rd w B l) (hn : l.length ≤ 1048576) :
    Calls Try.prog 11 #[.agg #[.int .u32 x, .int .u32 h, .int .u32 lo, .int .u32 hi, .slice A l.length c], .agg #[.int .u32 x, .int .u32 h, .int .u32 lo, .int .u32 hi, .slice B l.length d]] w fun e w' => e = .returned (.bool true) ∧ Below w.heap.size w w' := by
  have b1 := (Blk.new w 26 #[.int .u32 x, .int .u32 h, .int .u32 lo, .int .u32 hi, .slice A l.length c]).alloc (.cells #[.int .u32 x, .int .u32 h, .int .u32 lo, .int .u32 hi, .slice B l.length d] 26)
  have b2 := Blk.new (w.alloc (.cells #[.int .u32 x, .int .u32 h, .int .u32 lo, .int .u32 hi, .slice A l.length c] 26)) 26 #[.int .u32 x, .int .u32 h, .int .u32 lo, .int .u32 hi, .slice B l.length d]
  have hB : Below w.heap.size w ((w.alloc (.cells #[.int .u32 x, .int .u32 h, .int .u32 lo, .int .u32 hi, .slice A l.length c] 26)).alloc (.cells #[.int .u32 x, .int .u32 h, .int .u32 lo, .int .u32 hi, .slice B l.length d] 26)) := ((Below.refl _ w).alloc (Nat.le_refl _) _).alloc (by simp) _
  rw [World.size_alloc] at b2
  have p0 := b1.cell 0 (v := .int .u32 x) rfl
  have p1 := b1.cell 1 (v := .int .u32 h) rfl
  have p2 := b1.cell 2 (v := .int .u32 lo) rfl
  have p3 := b1.cell 3 (v := .int .u32 hi) rfl
  have p4 := b1.cell 4 (v := .slice A l.length c) rfl
  have q0 := b2.cell 0 (v := .int .u32 x) rfl
  have q1 := b2.cell 1 (v := .int .u32 h) rfl
  have q2 := b2.cell 2 (v := .int .u32 lo) rfl
  have q3 := b2.cell 3 (v := .int .u32 hi) rfl
  have q4 := b2.cell 4 (v := .slice B l.length d) rfl
  have e0 : (x == x) = true := by simp
  have e1 : (h == h) = true := by simp
  have e2 : (lo == lo) = true := by simp
  have e3 : (hi == hi) = true := by simp
  have hs := same_yes (c := c) (d := d) (hl.below hB) (hm.below hB) rfl rfl rfl (by omega)
  go_enter Try.func11, Try.ntmps11
  go_wp2_with fail
  refine hs.mono ?_
  rintro e w1 ⟨rfl, hw1⟩
  have hB1 : Below w.heap.size w w1 := by first | exact below_then hB hw1 | (obtain ⟨n, hw1⟩ := hw1; exact below_then hB (below_drawn hw1))
  clear hs hw1
  go_wp2_with fail
  go_ret
  exact ⟨rfl, hB1⟩
end Go.Proofs.Ytikkcoidepfgmaa.Hand
