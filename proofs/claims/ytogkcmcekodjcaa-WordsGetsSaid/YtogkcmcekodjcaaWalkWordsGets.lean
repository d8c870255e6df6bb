/- The statement WordsGets, walked: whatever bytes come in, words.Get tells what the reference's Get tells, and leaves its argument as it was. -/
import Derived.Test.YtogkcmcekodjcaaHelp
import Derived.Test.YtogkcmcekodjcaaGet
import Derived.Test.YtogkcmcekodjcaaRef
namespace Go.Proofs.Ytogkcmcekodjcaa.Hand
open Go.RowKit

set_option maxRecDepth 100000 in
set_option maxHeartbeats 1000000 in
theorem WordsGets_walk (A : Option Addr) (c : Nat) (l : List Int) (w : World) (hr : Rd w A l) (_hc : l.length ≤ c) (hsz : l.length ≤ 140737488351232) :
    Calls Try.prog 3 #[.slice A l.length c] w fun e w' => e = .returned (.bool true) ∧ Below w.heap.size w w' := by
  have H1 := beyond1 l.length 1 (w.alloc (.cells #[.int .i64 l.length] 3)) w.heap.size (by rw [cell_of_row _ _ _ _ _ _ (heap_alloc_new w _)]; rfl) hsz
  have hB1 : Below w.heap.size w (w.alloc (.cells #[.int .i64 l.length] 3)) := (Below.refl _ w).alloc (Nat.le_refl _) _
  by_cases hm : 1048576 < (l.length : Int)
  · have hd : decide (1048576 < (l.length : Int)) = true := decide_eq_true hm
    rw [hd] at H1
    go_enter Try.func3, Try.ntmps3
    go_wp2_with fail
    refine H1.mono ?_
    rintro e w' ⟨rfl, rfl⟩
    go_wp2
    go_ret
    exact ⟨rfl, hB1⟩
  · have hd : decide (1048576 < (l.length : Int)) = false := decide_eq_false hm
    rw [hd] at H1
    have hg := get32F l
    go_enter Try.func3, Try.ntmps3
    go_wp2_with fail
    refine H1.mono ?_
    rintro e w' ⟨rfl, rfl⟩
    go_wp2_with fail
    refine (twin A c l _ (hr.alloc _) hsz).mono ?_
    rintro e w2 ⟨g, cap, rfl, ho, hb2⟩
    have hB2 := below_then hB1 hb2
    obtain ⟨A', c', e1, hc1, _, hrt⟩ := ho.form
    injection e1 with e1 e2 e3
    subst e1 e3
    have hrl : Rd w2 (some ⟨g, 0, none⟩) l := by have := hrt.take l.length; rwa [List.take_left] at this
    rw [List.length_append] at hc1
    simp only [List.length_cons, List.length_nil] at hc1
    clear e2
    go_wp2_with fail
    refine (Get _ cap l _ hrl (by omega)).mono ?_
    rintro e w3 ⟨rfl, rfl⟩
    go_wp2_with fail
    refine (rget32 A c l _ ((hr.alloc _).below hb2)).mono ?_
    rintro e w3 ⟨rfl, rfl⟩
    go_wp2_with fail
    refine (left g cap A c l _ hrt (by omega) ((hr.alloc _).below hb2) hsz).mono ?_
    rintro e w3 ⟨rfl, n, rfl⟩
    go_wp2
    go_ret
    exact ⟨rfl, below_drewN hB2 n⟩
end Go.Proofs.Ytogkcmcekodjcaa.Hand
