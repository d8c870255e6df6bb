/- What the reference of chapter 01 hands back for Put, PutLong and PutYes. -/
import Derived.Test.YtgkbfmbdpkkhnaaDoorApp
import Derived.Test.YtgkbfmbdpkkhnaaDoorPuts
namespace Go.Proofs.YtgkbfmbdpkkhnaaDoor.Hand
open Go.RowKit
set_option linter.unusedVariables false
set_option linter.unusedSimpArgs false

theorem Own.made (w : World) (l : List Int) (h : Bs l) (hn : l.length ≤ 140737488351232) : Own (w.alloc (.cells (l.map (Value.int .u8)).toArray 5)) w.heap.size (.slice (some ⟨w.heap.size, 0, none⟩) l.length l.length) l :=
  ⟨h, by simp, .inr ⟨w.heap.size, l.length, _, rfl, Nat.le_refl _, heap_alloc_new w _, Nat.le_refl _, by unfold maxLen; omega, by simp, by simp [List.take_of_length_le]⟩⟩

set_option maxRecDepth 100000 in
theorem rput (a : Int) (w : World) (ha : 0 ≤ a) (ha' : a < 4294967296) :
    Calls Tryd.prog 13 #[.int .u32 a] w fun e w' => ∃ v, e = .returned v ∧ Own w' w.heap.size v (be a 4) ∧ Below w.heap.size w w' := by
  have ho := Own.made w (be a 4) (be_bs a 4) (by rw [be_length]; decide)
  rw [be4] at ho
  simp only [List.map_cons, List.map_nil, List.length_cons, List.length_nil, Nat.zero_add, Nat.reduceAdd] at ho
  rw [be4]
  have h0 : a / 16777216 % 256 = a / 16777216 := by omega
  rw [h0] at ho ⊢
  have Ho := Lib.hid ho
  clear ho
  go_enter Tryd.func13, Tryd.ntmps13
  go_wp2
  go_ret
  exact ⟨_, rfl, Ho.out, (Below.refl _ _).alloc (Nat.le_refl _) _⟩

set_option maxRecDepth 100000 in
set_option maxHeartbeats 1000000 in
theorem rputLong (a : Int) (w : World) (ha : 0 ≤ a) (ha' : a < 18446744073709551616) :
    Calls Tryd.prog 14 #[.int .u64 a] w fun e w' => ∃ v, e = .returned v ∧ Own w' w.heap.size v (be a 8) ∧ Below w.heap.size w w' := by
  have eb : be a 8 = be (a / 4294967296) 4 ++ be (a % 4294967296) 4 := by rw [← be8_take, ← be8_drop, List.take_append_drop]
  rw [eb]
  have g1 := rput (a / 4294967296) w (by omega) (by omega)
  clear eb
  go_enter Tryd.func14, Tryd.ntmps14
  go_wp2_with fail
  refine g1.mono ?_
  rintro e w1 ⟨v1, rfl, o1, hB⟩
  clear g1
  have g2 := rput (a % 4294967296) w1 (by omega) (by omega)
  go_wp2_with fail
  refine g2.mono ?_
  rintro e w2 ⟨v2, rfl, o2, hx⟩
  have o1 := o1.below hx
  have hB := below_then hB hx
  obtain ⟨A2, c2, rfl, _, _, r2⟩ := o2.form
  clear g2 hx o2
  rw [be_length]
  go_wp2_with (at_builtin; refine wpList_app rfl _ _ rfl rfl _ w.heap.size v1 (be (a / 4294967296) 4) rfl o1 A2 c2 (be (a % 4294967296) 4) (by rw [be_length]; rfl) r2 (by rw [be_length, be_length]; decide) hB.size ?_)
  intro v3 w3 o3 hg3 _
  have hB3 := o1.grown hB hB.size hg3
  go_wp2
  go_ret
  exact ⟨_, rfl, o3, hB3⟩
theorem rputYes (b : Bool) (w : World) : Calls Tryd.prog 15 #[.bool b] w fun e w' => ∃ v, e = .returned v ∧ Own w' w.heap.size v (be (yesN b) 4) ∧ Below w.heap.size w w' := by
  cases b
  · have H := rput 0 w (by omega) (by omega)
    go_enter Tryd.func15, Tryd.ntmps15
    go_wp2_with fail
    refine H.mono ?_
    rintro e w' ⟨v, rfl, ho, hb⟩
    go_wp2
    go_ret
    exact ⟨v, rfl, ho, hb⟩
  · have H := rput 1 w (by omega) (by omega)
    go_enter Tryd.func15, Tryd.ntmps15
    go_wp2_with fail
    refine H.mono ?_
    rintro e w' ⟨v, rfl, ho, hb⟩
    go_wp2
    go_ret
    exact ⟨v, rfl, ho, hb⟩
end Go.Proofs.YtgkbfmbdpkkhnaaDoor.Hand
