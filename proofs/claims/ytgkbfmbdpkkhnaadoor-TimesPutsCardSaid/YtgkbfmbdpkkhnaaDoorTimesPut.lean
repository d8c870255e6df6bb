/- What times.Put and times.Get hand back: the bytes of a point of time; the point of time that bytes begin with, or the error. -/
import Derived.Test.YtgkbfmbdpkkhnaaDoorWLast
import Derived.Test.YtgkbfmbdpkkhnaaDoorApp
import Derived.Test.YtgkbfmbdpkkhnaaDoorPuts
import Derived.Test.YtgkbfmbdpkkhnaaDoorGet
import Derived.Test.YtgkbfmbdpkkhnaaDoorTimes
namespace Go.Proofs.YtgkbfmbdpkkhnaaDoor.Hand
open Go.RowKit Go.Proofs.YtgkbfmbdpkkhnaaDoorW.PrintLast
set_option linter.unusedSimpArgs false

/-- The bytes of a point of time. -/
def tb (s n : Int) : List Int := be s 4 ++ be n 4
theorem tb_length (s n : Int) : (tb s n).length = 8 := by unfold tb; rw [List.length_append, be_length, be_length]
theorem tb_bs (s n : Int) : Bs (tb s n) := (be_bs _ _).append (be_bs _ _)

set_option maxRecDepth 100000 in
set_option maxHeartbeats 2000000 in
theorem tput (s n : Int) (w : World) (hs : 0 ≤ s) (hs' : s < 4294967296) (hn : 0 ≤ n) (hn' : n < 4294967296) :
    Calls Tryd.prog 23 #[.agg #[.int .u32 s, .int .u32 n]] w fun e w' => ∃ v, e = .returned v ∧ Own w' w.heap.size v (tb s n) ∧ Below w.heap.size w w' := by
  have b1 := Blk.new w 47 #[.int .u32 s, .int .u32 n]
  have hB : Below w.heap.size w (w.alloc (.cells #[.int .u32 s, .int .u32 n] 47)) := (Below.refl _ _).alloc (Nat.le_refl _) _
  go_enter Tryd.func23, Tryd.ntmps23
  go_wp2_with fail
  generalize w.alloc (.cells #[.int .u32 s, .int .u32 n] 47) = W at *
  have hB := below_then hB (below_drawn (w1 := W.drew) (n := 1) rfl)
  have b1 := b1.drew
  have k0 := b1.cell 0 (v := .int .u32 s) rfl
  have k1 := b1.cell 1 (v := .int .u32 n) rfl
  refine start_ (n := 8) (S := fun w' => w'.cell? ⟨w.heap.size, 0, none⟩ = some (.int .u32 s) ∧ w'.cell? ⟨w.heap.size, 1, none⟩ = some (.int .u32 n)) (ds := []) #[false, false, false, false, false, false, false, false] (by kernel_rfl) rfl rfl ⟨k0, k1⟩ (fun hHeld => ?_)
  refine pure_ (i := 0) (N := some 3) (v := ?_) (a' := ?_) #[true, false, false, false, false, false, false, false] rfl rfl (by kernel_rfl) (fun _ _ _ h => h) (Or.inl ⟨by rfl, ?_⟩) ?_ ?_
  rotate_left
  · intro w'
    go_simp
    with_reducible rfl
  rotate_left
  · simp only [Act.put, List.setIfInBounds_toArray, List.set_cons_zero, List.set_cons_succ, i64_w, i32_w]
    rfl
  refine pure_ (i := 3) (N := some 6) (v := ?_) (a' := ?_) #[true, false, false, true, false, false, false, false] rfl rfl (by kernel_rfl) (fun _ _ _ h => h) (Or.inl ⟨by rfl, ?_⟩) ?_ ?_
  rotate_left
  · intro w'
    go_simp
    with_reducible rfl
  rotate_left
  · simp only [Act.put, List.setIfInBounds_toArray, List.set_cons_zero, List.set_cons_succ, i64_w, i32_w]
    rfl
  refine take_ (i := 1) (N := some 4) (v := ?_) (a' := ?_) #[true, true, false, true, false, false, false, false] rfl rfl (by kernel_rfl) (fun _ _ _ h => h) (Or.inl ⟨by rfl, ?_⟩) hHeld ?_ ?_
  rotate_left
  · rintro w' ⟨s0, s1⟩
    go_simp
    with_reducible rfl
  rotate_left
  · simp only [Act.put, List.setIfInBounds_toArray, List.set_cons_zero, List.set_cons_succ, i64_w, i32_w]
    rfl
  refine take_ (i := 4) (N := some 7) (v := ?_) (a' := ?_) #[true, true, false, true, true, false, false, false] rfl rfl (by kernel_rfl) (fun _ _ _ h => h) (Or.inl ⟨by rfl, ?_⟩) hHeld ?_ ?_
  rotate_left
  · rintro w' ⟨s0, s1⟩
    go_simp
    with_reducible rfl
  rotate_left
  · simp only [Act.put, List.setIfInBounds_toArray, List.set_cons_zero, List.set_cons_succ, i64_w, i32_w]
    rfl
  refine one_ (i := 2) (N := some 5) #[true, true, true, true, true, false, false, false] rfl rfl (by kernel_rfl) (by decide) (fun K hK => ?_)
  refine goes_ Tryd.func9 (by kernel_rfl) rfl #[.int .u32 s] (by rfl) rfl rfl (by simp only [List.map_toArray, List.map_cons, List.map_nil]; rfl) ?_
  with_reducible refine (Put _ hs hs' _).mono ?_
  rintro e w1 ⟨v1, rfl, ho1, hbx⟩
  refine ⟨_, rfl, ?_⟩
  have b1 := b1.below hbx
  have k0 := b1.cell 0 (v := .int .u32 s) rfl
  have k1 := b1.cell 1 (v := .int .u32 n) rfl
  have ho1 := ho1.lower hB.size
  have hB := below_then hB hbx
  clear hbx
  refine hK.out _ _ ⟨k0, k1⟩ (fun hHeld => ?_)
  clear hK K
  refine norm_ (a' := ?_) ?_ ?_
  rotate_left
  · show Act.put _ (some 5) _ = _
    simp only [Act.put, List.setIfInBounds_toArray, List.set_cons_zero, List.set_cons_succ, i64_w, i32_w]
    rfl
  refine one_ (i := 5) (N := some 8) #[true, true, true, true, true, true, false, false] rfl rfl (by kernel_rfl) (by decide) (fun K hK => ?_)
  refine goes_ Tryd.func9 (by kernel_rfl) rfl #[.int .u32 n] (by rfl) rfl rfl (by simp only [List.map_toArray, List.map_cons, List.map_nil]; rfl) ?_
  with_reducible refine (Put _ hn hn' _).mono ?_
  rintro e w2 ⟨v2, rfl, ho2, hbx⟩
  refine ⟨_, rfl, ?_⟩
  have b1 := b1.below hbx
  have k0 := b1.cell 0 (v := .int .u32 s) rfl
  have k1 := b1.cell 1 (v := .int .u32 n) rfl
  have ho1 := ho1.below hbx
  have ho2 := ho2.lower hB.size
  have hB := below_then hB hbx
  clear hbx
  obtain ⟨A2, c2, rfl, _, _, hr2⟩ := ho2.form
  rw [be_length]
  refine hK.out _ _ ⟨k0, k1⟩ (fun hHeld => ?_)
  clear hK K
  refine norm_ (a' := ?_) ?_ ?_
  rotate_left
  · show Act.put _ (some 8) _ = _
    simp only [Act.put, List.setIfInBounds_toArray, List.set_cons_zero, List.set_cons_succ, i64_w, i32_w]
    rfl
  refine one_ (i := 6) (N := some 9) #[true, true, true, true, true, true, true, false] rfl rfl (by kernel_rfl) (by decide) (fun K hK => ?_)
  rw [if_pos (by rfl)]
  refine wp_app _ _ rfl rfl _ w.heap.size v1 (be s 4) rfl ho1 A2 c2 (be n 4) (by rw [be_length]; rfl) hr2 (by rw [be_length, be_length]; decide) hB.size ?_
  intro v3 w3 ho3 hg3 _
  have hB3 := ho1.grown hB hB.size hg3
  have b1 := b1.grown hg3 (ho1.blk_ne b1 (by decide))
  have k0 := b1.cell 0 (v := .int .u32 s) rfl
  have k1 := b1.cell 1 (v := .int .u32 n) rfl
  refine hK.out _ _ ⟨k0, k1⟩ (fun hHeld => ?_)
  clear hK K
  refine norm_ (a' := ?_) ?_ ?_
  rotate_left
  · show Act.put _ (some 9) _ = _
    simp only [Act.put, List.setIfInBounds_toArray, List.set_cons_zero, List.set_cons_succ, i64_w, i32_w]
    rfl
  refine pure_ (i := 7) (N := some 2) (v := ?_) (a' := ?_) #[true, true, true, true, true, true, true, true] rfl rfl (by kernel_rfl) (fun _ _ _ h => h) (Or.inl ⟨by rfl, ?_⟩) ?_ ?_
  rotate_left
  · intro w'
    go_simp
    with_reducible rfl
  rotate_left
  · simp only [Act.put, List.setIfInBounds_toArray, List.set_cons_zero, List.set_cons_succ, i64_w, i32_w]
    rfl
  refine done_ (by kernel_rfl) ?_
  go_wp2
  go_ret
  exact ⟨v3, rfl, ho3, hB3⟩

/-- What times.Get tells. -/
def tgetV (l : List Int) : Value := if l.length < 8 then .tuple #[.agg #[.int .u32 0, .int .u32 0], .int .i64 4] else if num l 8 % 4294967296 < 1000000000 then .tuple #[.agg #[.int .u32 (num l 8 / 4294967296), .int .u32 (num l 8 % 4294967296)], .int .i64 0] else .tuple #[.agg #[.int .u32 0, .int .u32 0], .int .i64 5]

set_option maxRecDepth 100000 in
set_option maxHeartbeats 2000000 in
theorem tget (A : Option Addr) (c : Nat) (l : List Int) (w : World) (hr : Rd w A l) (hc : l.length ≤ c) :
    Calls Tryd.prog 24 #[.slice A l.length c] w fun e w' => e = .returned (tgetV l) ∧ Below w.heap.size w w' := by
  have b2 := Blk.new w 47 #[.int .u32 0, .int .u32 0]
  have hB : Below w.heap.size w (w.alloc (.cells #[.int .u32 0, .int .u32 0] 47)) := (Below.refl _ _).alloc (Nat.le_refl _) _
  have hg := GetLong A c l _ (hr.alloc (.cells #[.int .u32 0, .int .u32 0] 47)) hc
  unfold tgetV
  by_cases h8 : l.length < 8
  · rw [if_pos h8]
    rw [get64_short h8] at hg
    go_enter Tryd.func24, Tryd.ntmps24
    go_wp2_with fail
    refine hg.mono ?_
    rintro e w1 ⟨rfl, rfl⟩
    go_wp2
    exact bodyPost_ret (v := .tuple #[.agg #[.int .u32 0, .int .u32 0], .int .i64 4]) (by simp [results, Tryd.f24, go_sem]) rfl ⟨rfl, (Below.refl _ _).alloc (Nat.le_refl _) _⟩
  · rw [if_neg h8]
    rw [get64_ok (by omega)] at hg
    have hn := num8 hr.1
    generalize num l 8 = x at *
    have q0 : 0 ≤ x / 4294967296 := by omega
    have q1 : x / 4294967296 < 4294967296 := by omega
    have b6 := Blk.new (w.alloc (.cells #[.int .u32 0, .int .u32 0] 47)) 47 #[.int .u32 (x / 4294967296), .int .u32 (x % 4294967296)]
    have b2 := b2.alloc (.cells #[.int .u32 (x / 4294967296), .int .u32 (x % 4294967296)] 47)
    have hB := hB.alloc hB.size (.cells #[.int .u32 (x / 4294967296), .int .u32 (x % 4294967296)] 47)
    rw [World.size_alloc] at b6
    have hc := check (x / 4294967296) (x % 4294967296) ((w.alloc (.cells #[.int .u32 0, .int .u32 0] 47)).alloc (.cells #[.int .u32 (x / 4294967296), .int .u32 (x % 4294967296)] 47))
    by_cases h9 : x % 4294967296 < 1000000000
    · rw [if_pos h9]
      rw [decide_eq_true h9] at hc
      go_enter Tryd.func24, Tryd.ntmps24
      go_wp2_with fail
      refine hg.mono ?_
      rintro e w1 ⟨rfl, rfl⟩
      go_wp2_with fail
      refine hc.mono ?_
      rintro e w1 ⟨rfl, hb⟩
      have b2 := b2.below hb
      have b6 := b6.below hb
      have hB := below_then hB hb
      clear hb hc hg
      have k0 := b2.cell 0 (v := .int .u32 0) rfl
      have k1 := b2.cell 1 (v := .int .u32 0) rfl
      have f0 := b2.frozen 0
      have f1 := b2.frozen 1
      have k2 := b6.cell 0 (v := .int .u32 (x / 4294967296)) rfl
      have k3 := b6.cell 1 (v := .int .u32 (x % 4294967296)) rfl
      go_wp2
      have c0 := ((b2.set_ 0 (.int .u32 (x / 4294967296))).set_ 1 (.int .u32 (x % 4294967296))).cell 0 (v := .int .u32 (x / 4294967296)) rfl
      have c1 := ((b2.set_ 0 (.int .u32 (x / 4294967296))).set_ 1 (.int .u32 (x % 4294967296))).cell 1 (v := .int .u32 (x % 4294967296)) rfl
      have hB2 := (hB.setCell (p := ⟨w.heap.size, 0, none⟩) (by simp) (.int .u32 (x / 4294967296))).setCell (p := ⟨w.heap.size, 1, none⟩) (by simp) (.int .u32 (x % 4294967296))
      exact bodyPost_ret (v := .tuple #[.agg #[.int .u32 (x / 4294967296), .int .u32 (x % 4294967296)], .int .i64 0]) (by simp [results, Tryd.f24, go_sem, c0, c1]) rfl ⟨rfl, hB2⟩
    · rw [if_neg h9]
      rw [decide_eq_false h9] at hc
      go_enter Tryd.func24, Tryd.ntmps24
      go_wp2_with fail
      refine hg.mono ?_
      rintro e w1 ⟨rfl, rfl⟩
      go_wp2_with fail
      refine hc.mono ?_
      rintro e w1 ⟨rfl, hb⟩
      have b2 := b2.below hb
      have hB := below_then hB hb
      clear hb hc hg
      have k0 := b2.cell 0 (v := .int .u32 0) rfl
      have k1 := b2.cell 1 (v := .int .u32 0) rfl
      have f0 := b2.frozen 0
      have f1 := b2.frozen 1
      go_wp2
      have c0 := ((b2.set_ 0 (.int .u32 0)).set_ 1 (.int .u32 0)).cell 0 (v := .int .u32 0) rfl
      have c1 := ((b2.set_ 0 (.int .u32 0)).set_ 1 (.int .u32 0)).cell 1 (v := .int .u32 0) rfl
      have hB2 := (hB.setCell (p := ⟨w.heap.size, 0, none⟩) (by simp) (.int .u32 0)).setCell (p := ⟨w.heap.size, 1, none⟩) (by simp) (.int .u32 0)
      exact bodyPost_ret (v := .tuple #[.agg #[.int .u32 0, .int .u32 0], .int .i64 5]) (by simp [results, Tryd.f24, go_sem, c0, c1]) rfl ⟨rfl, hB2⟩
end Go.Proofs.YtgkbfmbdpkkhnaaDoor.Hand
