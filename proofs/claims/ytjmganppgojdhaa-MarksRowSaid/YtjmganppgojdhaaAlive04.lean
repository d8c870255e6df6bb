/- The helper alive of the fourth chapter's statements: it returns true, and nothing that lay before has turned. -/
import Derived.Lib.SmallJoins
import Derived.Test.YtjmganppgojdhaaStr
import Derived.Test.YtjmganppgojdhaaMarksCut
import Derived.Test.YtjmganppgojdhaaMarksAll
namespace Go.Proofs.Ytjmganppgojdhaa.Hand
open Go.RowKit
set_option linter.unusedVariables false
set_option linter.unusedSimpArgs false

theorem Rd.litM (w : World) (l : List Int) (h : Bs l) (fr : Nat × Nat) : Rd (w.alloc (.cells (l.map (Value.int .u8)).toArray 5 fr)) (some ⟨w.heap.size, 0, none⟩) l := by
  refine ⟨h, fun _ => ⟨_, rfl, fun j hj => ?_⟩⟩
  rw [add_plain, Go.Joins.cell_alloc_mark_at _ _ _ _ _ _ rfl]
  rw [List.getElem?_toArray, List.getElem?_map, List.getElem?_eq_getElem hj, gd _ _ hj]; rfl
theorem mget_v {A : Option Addr} {c k : Nat} {l m : List Int} {n : Nat} {N er : Int} {w : World} (hr : Rd w A l) (hk : l.length = k) (hc : k ≤ c) (hn : k ≤ 140737488351232) (h : mget (k + 1) l [] 0 = (m, n, er)) (hN : (n : Int) = N) :
    Calls Try.prog 18 #[.slice A k c] w fun e w' => ∃ v, e = .returned (.tuple #[v, .int .i64 N, .int .i64 er]) ∧ Own w' w.heap.size v m ∧ Below w.heap.size w w' := by
  subst hk hN
  have := marksGet A c l w hr hc hn
  rw [h] at this
  exact this
theorem mput_v {A : Option Addr} {c k : Nat} {l r : List Int} {w : World} (hr : Rd w A l) (hk : l.length = k) (hc : k ≤ c) (hn : k ≤ 65536) (h : be ((k : Int) + 2147483648) 4 ++ l = r) :
    Calls Try.prog 17 #[.slice A k c] w fun e w' => ∃ v, e = .returned (.tuple #[v, .int .i64 0]) ∧ Own w' w.heap.size v r ∧ Below w.heap.size w w' := by
  subst hk h
  exact marksPut A c l w hr hc hn
theorem mcut_v {A : Option Addr} {c k z : Nat} {Z : Int} {l r : List Int} {w : World} (hr : Rd w A l) (hk : l.length = k) (hc : k ≤ c) (hn : k ≤ 65536) (hz : 1 ≤ z) (hz' : z ≤ 65536) (hZ : (z : Int) = Z) (h : mcut (k + 1) z l = r) :
    Calls Try.prog 16 #[.slice A k c, .int .i64 Z] w fun e w' => ∃ v, e = .returned (.tuple #[v, .int .i64 0]) ∧ Own w' w.heap.size v r ∧ Below w.heap.size w w' := by
  subst hk h hZ
  exact marksCut A c l z w hr hc hn hz hz'
theorem mall_v {A : Option Addr} {c k : Nat} {l : List Int} {ms : List (List Int)} {n : Nat} {N er : Int} {w : World} (hr : Rd w A l) (hk : l.length = k) (hc : k ≤ c) (hn : k ≤ 4398046511104) (h : mall l = (ms, n, er)) (hN : (n : Int) = N) :
    Calls Try.prog 21 #[.slice A k c] w fun e w' => ∃ v, e = .returned (.tuple #[v, .int .i64 N, .int .i64 er]) ∧ OwnL w' w.heap.size v ms ∧ Below w.heap.size w w' := by
  subst hk hN
  have := marksAll A c l w hr hc hn
  rw [h] at this
  exact this
theorem OwnL.form {w : World} {base : Nat} {v : Value} {ms : List (List Int)} (h : OwnL w base v ms) : ∃ A c, v = .slice A ms.length c ∧ ms.length ≤ c := by
  obtain ⟨ps, rfl, hr, _⟩ := h
  rcases hr.2 with ⟨rfl, h0⟩ | ⟨g, cap, cur, rfl, _, hg, hn, hm, hs, ht⟩
  · simp only [List.length_map, h0]
    exact ⟨none, 0, rfl, by simp⟩
  · rw [List.length_map]
    exact ⟨_, cap, rfl, hn⟩

set_option maxRecDepth 100000 in
set_option maxHeartbeats 4000000 in
theorem alive04 (w : World) : Calls Try.prog 14 #[] w fun e w' => e = .returned (.bool true) ∧ Below w.heap.size w w' := by
  have cv : (convert 22 22 (.slice (some ⟨w.heap.size, 0, none⟩) 2 2)).run Try.prog (w.alloc (.cells #[.int .u8 97, .int .u8 98] 5)) = .ok (.slice (some ⟨w.heap.size, 0, none⟩) 2 2) (w.alloc (.cells #[.int .u8 97, .int .u8 98] 5 (2, 3))) := Go.Joins.run_convert_bytes_const_at (P := Try.prog) w 22 5 #[.int .u8 97, .int .u8 98] 2 2 w.heap.size rfl Try.underlying22 Try.underlying5
  have g1 := mput_v (c := 2) (k := 2) (Rd.litM w [97, 98] (by unfold Bs; decide) (2, 3)) rfl (by decide) (by decide) (show _ = [128, 0, 0, 2, 97, 98] by decide)
  go_enter Try.func14, Try.ntmps14
  go_wp2_with fail
  refine g1.mono ?_
  rintro e w1 ⟨v1, rfl, o1, hx⟩
  have hB := below_then ((Below.refl _ w).alloc (Nat.le_refl _) (.cells #[.int .u8 97, .int .u8 98] 5 (2, 3))) hx
  have cv : (convert 22 22 (.slice (some ⟨w1.heap.size, 0, none⟩) 3 3)).run Try.prog (w1.alloc (.cells #[.int .u8 97, .int .u8 98, .int .u8 99] 5)) = .ok (.slice (some ⟨w1.heap.size, 0, none⟩) 3 3) (w1.alloc (.cells #[.int .u8 97, .int .u8 98, .int .u8 99] 5 (3, 4))) := Go.Joins.run_convert_bytes_const_at (P := Try.prog) w1 22 5 #[.int .u8 97, .int .u8 98, .int .u8 99] 3 3 w1.heap.size rfl Try.underlying22 Try.underlying5
  have g2 := mcut_v (c := 3) (k := 3) (z := 2) (Rd.litM w1 [97, 98, 99] (by unfold Bs; decide) (3, 4)) rfl (by decide) (by decide) (by decide) (by decide) (show _ = (2 : Int) by rfl) (show _ = [0, 0, 0, 2, 97, 98, 128, 0, 0, 1, 99] by decide)
  have o1 := o1.alloc (.cells #[.int .u8 97, .int .u8 98, .int .u8 99] 5 (3, 4))
  have hB := hB.alloc hB.size (.cells #[.int .u8 97, .int .u8 98, .int .u8 99] 5 (3, 4))
  clear hx g1
  go_wp2_with fail
  refine g2.mono ?_
  rintro e w2 ⟨v2, rfl, o2, hx⟩
  have o1 := o1.below hx
  have hB := below_then hB hx
  have cv : (convert 22 22 (.slice (some ⟨w2.heap.size, 0, none⟩) 11 11)).run Try.prog (w2.alloc (.cells #[.int .u8 0, .int .u8 0, .int .u8 0, .int .u8 1, .int .u8 97, .int .u8 128, .int .u8 0, .int .u8 0, .int .u8 1, .int .u8 98, .int .u8 55] 5)) = .ok (.slice (some ⟨w2.heap.size, 0, none⟩) 11 11) (w2.alloc (.cells #[.int .u8 0, .int .u8 0, .int .u8 0, .int .u8 1, .int .u8 97, .int .u8 128, .int .u8 0, .int .u8 0, .int .u8 1, .int .u8 98, .int .u8 55] 5 (11, 12))) := Go.Joins.run_convert_bytes_const_at (P := Try.prog) w2 22 5 #[.int .u8 0, .int .u8 0, .int .u8 0, .int .u8 1, .int .u8 97, .int .u8 128, .int .u8 0, .int .u8 0, .int .u8 1, .int .u8 98, .int .u8 55] 11 11 w2.heap.size rfl Try.underlying22 Try.underlying5
  have g3 := mget_v (c := 11) (k := 11) (Rd.litM w2 [0, 0, 0, 1, 97, 128, 0, 0, 1, 98, 55] (by unfold Bs; decide) (11, 12)) rfl (by decide) (by decide) (show _ = ([97, 98], 10, 0) by decide) (show _ = (10 : Int) by rfl)
  have o1 := o1.alloc (.cells #[.int .u8 0, .int .u8 0, .int .u8 0, .int .u8 1, .int .u8 97, .int .u8 128, .int .u8 0, .int .u8 0, .int .u8 1, .int .u8 98, .int .u8 55] 5 (11, 12))
  have o2 := o2.alloc (.cells #[.int .u8 0, .int .u8 0, .int .u8 0, .int .u8 1, .int .u8 97, .int .u8 128, .int .u8 0, .int .u8 0, .int .u8 1, .int .u8 98, .int .u8 55] 5 (11, 12))
  have hB := hB.alloc hB.size (.cells #[.int .u8 0, .int .u8 0, .int .u8 0, .int .u8 1, .int .u8 97, .int .u8 128, .int .u8 0, .int .u8 0, .int .u8 1, .int .u8 98, .int .u8 55] 5 (11, 12))
  clear hx g2
  go_wp2_with fail
  refine g3.mono ?_
  rintro e w3 ⟨v3, rfl, o3, hx⟩
  have o1 := o1.below hx
  have o2 := o2.below hx
  have hB := below_then hB hx
  have cv : (convert 22 22 (.slice (some ⟨w3.heap.size, 0, none⟩) 8 8)).run Try.prog (w3.alloc (.cells #[.int .u8 0, .int .u8 0, .int .u8 0, .int .u8 0, .int .u8 128, .int .u8 0, .int .u8 0, .int .u8 0] 5)) = .ok (.slice (some ⟨w3.heap.size, 0, none⟩) 8 8) (w3.alloc (.cells #[.int .u8 0, .int .u8 0, .int .u8 0, .int .u8 0, .int .u8 128, .int .u8 0, .int .u8 0, .int .u8 0] 5 (8, 9))) := Go.Joins.run_convert_bytes_const_at (P := Try.prog) w3 22 5 #[.int .u8 0, .int .u8 0, .int .u8 0, .int .u8 0, .int .u8 128, .int .u8 0, .int .u8 0, .int .u8 0] 8 8 w3.heap.size rfl Try.underlying22 Try.underlying5
  have g4 := mget_v (c := 8) (k := 8) (Rd.litM w3 [0, 0, 0, 0, 128, 0, 0, 0] (by unfold Bs; decide) (8, 9)) rfl (by decide) (by decide) (show _ = ([], 0, 5) by decide) (show _ = (0 : Int) by rfl)
  have o1 := o1.alloc (.cells #[.int .u8 0, .int .u8 0, .int .u8 0, .int .u8 0, .int .u8 128, .int .u8 0, .int .u8 0, .int .u8 0] 5 (8, 9))
  have o2 := o2.alloc (.cells #[.int .u8 0, .int .u8 0, .int .u8 0, .int .u8 0, .int .u8 128, .int .u8 0, .int .u8 0, .int .u8 0] 5 (8, 9))
  have o3 := o3.alloc (.cells #[.int .u8 0, .int .u8 0, .int .u8 0, .int .u8 0, .int .u8 128, .int .u8 0, .int .u8 0, .int .u8 0] 5 (8, 9))
  have hB := hB.alloc hB.size (.cells #[.int .u8 0, .int .u8 0, .int .u8 0, .int .u8 0, .int .u8 128, .int .u8 0, .int .u8 0, .int .u8 0] 5 (8, 9))
  clear hx g3
  go_wp2_with fail
  refine g4.mono ?_
  rintro e w4 ⟨v4, rfl, _, hx⟩
  have o1 := o1.below hx
  have o2 := o2.below hx
  have o3 := o3.below hx
  have hB := below_then hB hx
  have cv : (convert 22 22 (.slice (some ⟨w4.heap.size, 0, none⟩) 4 4)).run Try.prog (w4.alloc (.cells #[.int .u8 128, .int .u8 1, .int .u8 0, .int .u8 1] 5)) = .ok (.slice (some ⟨w4.heap.size, 0, none⟩) 4 4) (w4.alloc (.cells #[.int .u8 128, .int .u8 1, .int .u8 0, .int .u8 1] 5 (4, 5))) := Go.Joins.run_convert_bytes_const_at (P := Try.prog) w4 22 5 #[.int .u8 128, .int .u8 1, .int .u8 0, .int .u8 1] 4 4 w4.heap.size rfl Try.underlying22 Try.underlying5
  have g5 := mget_v (c := 4) (k := 4) (Rd.litM w4 [128, 1, 0, 1] (by unfold Bs; decide) (4, 5)) rfl (by decide) (by decide) (show _ = ([], 0, 3) by decide) (show _ = (0 : Int) by rfl)
  have o1 := o1.alloc (.cells #[.int .u8 128, .int .u8 1, .int .u8 0, .int .u8 1] 5 (4, 5))
  have o2 := o2.alloc (.cells #[.int .u8 128, .int .u8 1, .int .u8 0, .int .u8 1] 5 (4, 5))
  have o3 := o3.alloc (.cells #[.int .u8 128, .int .u8 1, .int .u8 0, .int .u8 1] 5 (4, 5))
  have hB := hB.alloc hB.size (.cells #[.int .u8 128, .int .u8 1, .int .u8 0, .int .u8 1] 5 (4, 5))
  clear hx g4
  go_wp2_with fail
  refine g5.mono ?_
  rintro e w5 ⟨v5, rfl, _, hx⟩
  have o1 := o1.below hx
  have o2 := o2.below hx
  have o3 := o3.below hx
  have hB := below_then hB hx
  have cv : (convert 22 22 (.slice (some ⟨w5.heap.size, 0, none⟩) 9 9)).run Try.prog (w5.alloc (.cells #[.int .u8 128, .int .u8 0, .int .u8 0, .int .u8 1, .int .u8 97, .int .u8 0, .int .u8 0, .int .u8 0, .int .u8 0] 5)) = .ok (.slice (some ⟨w5.heap.size, 0, none⟩) 9 9) (w5.alloc (.cells #[.int .u8 128, .int .u8 0, .int .u8 0, .int .u8 1, .int .u8 97, .int .u8 0, .int .u8 0, .int .u8 0, .int .u8 0] 5 (9, 10))) := Go.Joins.run_convert_bytes_const_at (P := Try.prog) w5 22 5 #[.int .u8 128, .int .u8 0, .int .u8 0, .int .u8 1, .int .u8 97, .int .u8 0, .int .u8 0, .int .u8 0, .int .u8 0] 9 9 w5.heap.size rfl Try.underlying22 Try.underlying5
  have g6 := mall_v (c := 9) (k := 9) (Rd.litM w5 [128, 0, 0, 1, 97, 0, 0, 0, 0] (by unfold Bs; decide) (9, 10)) rfl (by decide) (by decide) (show _ = ([[97]], 5, 5) by decide) (show _ = (5 : Int) by rfl)
  have o1 := o1.alloc (.cells #[.int .u8 128, .int .u8 0, .int .u8 0, .int .u8 1, .int .u8 97, .int .u8 0, .int .u8 0, .int .u8 0, .int .u8 0] 5 (9, 10))
  have o2 := o2.alloc (.cells #[.int .u8 128, .int .u8 0, .int .u8 0, .int .u8 1, .int .u8 97, .int .u8 0, .int .u8 0, .int .u8 0, .int .u8 0] 5 (9, 10))
  have o3 := o3.alloc (.cells #[.int .u8 128, .int .u8 0, .int .u8 0, .int .u8 1, .int .u8 97, .int .u8 0, .int .u8 0, .int .u8 0, .int .u8 0] 5 (9, 10))
  have hB := hB.alloc hB.size (.cells #[.int .u8 128, .int .u8 0, .int .u8 0, .int .u8 1, .int .u8 97, .int .u8 0, .int .u8 0, .int .u8 0, .int .u8 0] 5 (9, 10))
  clear hx g5
  go_wp2_with fail
  refine g6.mono ?_
  rintro e w6 ⟨v6, rfl, o6, hx⟩
  have o1 := o1.below hx
  have o2 := o2.below hx
  have o3 := o3.below hx
  have hB := below_then hB hx
  clear hx g6
  obtain ⟨A6, c6, rfl, _⟩ := o6.form
  obtain ⟨A1, c1, rfl, _, _, r1⟩ := o1.form
  obtain ⟨A2, c2, rfl, _, _, r2⟩ := o2.form
  obtain ⟨A3, c3, rfl, _, _, r3⟩ := o3.form
  have s1 := run_str_n (c := c1) (n := 6) r1 rfl
  have s2 := run_str_n (c := c2) (n := 11) r2 rfl
  have s3 := run_str_n (c := c3) (n := 2) r3 rfl
  rw [show strOf [128, 0, 0, 2, 97, 98] = { data := #[128, 0, 0, 2, 97, 98] } from by kernel_rfl] at s1
  rw [show strOf [0, 0, 0, 2, 97, 98, 128, 0, 0, 1, 99] = { data := #[0, 0, 0, 2, 97, 98, 128, 0, 0, 1, 99] } from by kernel_rfl] at s2
  rw [show strOf [97, 98] = { data := #[97, 98] } from by kernel_rfl] at s3
  clear o1 o2 o3 o6 r1 r2 r3
  go_wp2
  go_ret
  exact ⟨rfl, hB⟩
end Go.Proofs.Ytjmganppgojdhaa.Hand
