/- What the reference of chapter 01 hands back for Put, PutLong and PutYes. -/
import Derived.Test.YtoodmjdafifbmaaDoorApp
import Derived.Test.YtoodmjdafifbmaaDoorPuts
namespace Go.Proofs.YtoodmjdafifbmaaDoor.Hand
open Go.RowKit
set_option linter.unusedVariables false
set_option linter.unusedSimpArgs false

theorem Own.made (w : World) (l : List Int) (h : Bs l) (hn : l.length ≤ 140737488351232) : Own (w.alloc (.cells (l.map (Value.int .u8)).toArray 5)) w.heap.size (.slice (some ⟨w.heap.size, 0, none⟩) l.length l.length) l :=
  ⟨h, by simp, .inr ⟨w.heap.size, l.length, _, rfl, Nat.le_refl _, heap_alloc_new w _, Nat.le_refl _, by unfold maxLen; omega, by simp, by simp [List.take_of_length_le]⟩⟩

set_option maxRecDepth 100000 in
theorem rput (a : Int) (w : World) (ha : 0 ≤ a) (ha' : a < 4294967296) :
    Calls Tryd.prog 61 #[.int .u32 a] w fun e w' => ∃ v, e = .returned v ∧ Own w' w.heap.size v (be a 4) ∧ Below w.heap.size w w' := by
  have ho := Own.made w (be a 4) (be_bs a 4) (by rw [be_length]; decide)
  rw [be4] at ho
  simp only [List.map_cons, List.map_nil, List.length_cons, List.length_nil, Nat.zero_add, Nat.reduceAdd] at ho
  rw [be4]
  have h0 : a / 16777216 % 256 = a / 16777216 := by omega
  rw [h0] at ho ⊢
  have Ho := Lib.hid ho
  clear ho
  go_enter Tryd.func61, Tryd.ntmps61
  go_wp2
  go_ret
  exact ⟨_, rfl, Ho.out, (Below.refl _ _).alloc (Nat.le_refl _) _⟩

end Go.Proofs.YtoodmjdafifbmaaDoor.Hand
