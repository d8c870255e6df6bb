/- The reference's numbers of chapter 07. -/
import Derived.Deep.LoopGhost
import Derived.Test.YtoodmjdafifbmaaDoorWLast
import Derived.Test.YtoodmjdafifbmaaDoorRefPut
import Derived.Test.YtoodmjdafifbmaaDoorAppN
namespace Go.Proofs.YtoodmjdafifbmaaDoor.Hand
open Go.RowKit Go.Proofs.YtoodmjdafifbmaaDoorW.PrintLast
set_option linter.unusedVariables false
set_option linter.unusedSimpArgs false

theorem OwnN.made (w : World) (l : List Int) (h : U4 l) (hn : l.length ≤ 1000) : OwnN (w.alloc (.cells (l.map (Value.int .u32)).toArray 22)) w.heap.size (.slice (some ⟨w.heap.size, 0, none⟩) l.length l.length) l :=
  ⟨h, by simp, .inr ⟨w.heap.size, l.length, _, rfl, Nat.le_refl _, heap_alloc_new w _, Nat.le_refl _, by unfold maxLen; omega, by simp, by simp [List.take_of_length_le]⟩⟩
theorem OwnN.lower {w : World} {base base' : Nat} {v : Value} {l : List Int} (h : OwnN w base v l) (hb : base' ≤ base) : OwnN w base' v l :=
  ⟨h.1, h.2.1, h.2.2.imp id fun ⟨g, cap, cur, e, hg, r⟩ => ⟨g, cap, cur, e, by omega, r⟩⟩

set_option maxRecDepth 100000 in
set_option maxHeartbeats 2000000 in
theorem rnumbers (A : Option Addr) (c : Nat) (m : List Int) (w : World) (hr : RdN w A m) (hn : m.length ≤ 1000) :
    Calls Tryd.prog 32 #[.slice A m.length c] w fun e w' => ∃ v, e = .returned v ∧ Own w' w.heap.size v (rw4 m) ∧ Below w.heap.size w w' := by
  go_enter Tryd.func32, Tryd.ntmps32
  go_wp2_with fail
  go_loopg [3, 4] (m.length) (fun k b i wr => ∃ j : Nat, i = .int .i64 j ∧ k + j = m.length ∧ Own wr w.heap.size b (rw4 (m.take j)) ∧ Below w.heap.size w wr)
  case atStart => exact ⟨0, rfl, by omega, by simpa [rw4] using Own.nil w w.heap.size, Below.refl _ _⟩
  case round =>
    obtain ⟨j, rfl, hkj, ho, hB⟩ := hrel
    by_cases hlt : j < m.length
    · have hkm : (j : Int) < (m.length : Int) := by omega
      obtain ⟨ad, rfl, hcell⟩ := (hr.keep fun p _ hp => cell_later hB hp).at_ hlt
      obtain ⟨u0, u1⟩ := hr.1.at_ hlt
      have hst := rw4_take hlt
      have hlen := rw4_length (m.take j)
      rw [List.length_take, Nat.min_eq_left (by omega)] at hlen
      obtain ⟨N, hN⟩ : ∃ N, nth m j = N := ⟨_, rfl⟩
      rw [hN] at hcell u0 u1 hst
      have HS := Lib.hid hst
      have HL := Lib.hid hlen
      have HK := Lib.hid hkj
      have HP := Lib.hid (rput N wr u0 u1)
      clear hst hlen hkj hN
      go_wp2_with fail
      refine HP.out.mono ?_
      rintro e w4 ⟨v4, rfl, o4, hx⟩
      have ho4 := ho.below hx
      have hB4 := below_then hB hx
      obtain ⟨A4, c4, rfl, _, _, r4⟩ := o4.form
      rw [be_length]
      clear hx o4 HP
      go_wp2_with (at_builtin; refine wpList_app rfl _ _ rfl rfl _ w.heap.size u3 (rw4 (m.take j)) (by rfl) ho4 A4 c4 (be N 4) (by rw [be_length]; rfl) r4 (by rw [HL.out, be_length]; omega) hB4.size ?h5)
      case h5 =>
        intro v5 w5 o5 hg5 _
        have hB5 := ho4.grown hB4 hB4.size hg5
        clear hg5
        go_wp2_with fail
        go_roundg (gk - 1)
        case measure => have := HK.out; omega
        case rel => exact ⟨j + 1, by go_num, by have := HK.out; omega, by rw [HS.out]; exact o5, hB5⟩
    · have hkm : ¬ (j : Int) < (m.length : Int) := by omega
      obtain rfl : j = m.length := by omega
      rw [List.take_length] at ho
      go_wp2_with fail
      go_ret
      exact ⟨_, rfl, ho, hB⟩
end Go.Proofs.YtoodmjdafifbmaaDoor.Hand
