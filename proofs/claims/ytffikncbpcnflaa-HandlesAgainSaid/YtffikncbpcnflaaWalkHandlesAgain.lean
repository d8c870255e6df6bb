/- The statement HandlesAgain, walked: what is got of any bytes is put as these, and its node is one that may be. -/
import Derived.Test.YtffikncbpcnflaaAlive08
import Derived.Test.YtffikncbpcnflaaHelp
namespace Go.Proofs.Ytffikncbpcnflaa.Hand
open Go.RowKit
set_option linter.unusedVariables false

set_option maxRecDepth 100000 in
set_option maxHeartbeats 4000000 in
theorem HandlesAgain_far (A : Option Addr) (c : Nat) (l : List Int) (w : World) (hr : Rd w A l) (hc : l.length ≤ c) (hsz : l.length ≤ 140737488351232) (hm : 1048576 < (l.length : Int)) :
    Calls Try.prog 6 #[.slice A l.length c] w fun e w' => e = .returned (.bool true) ∧ Below w.heap.size w w' := by
  go_enter Try.func6, Try.ntmps6
  go_wp2_with fail
  refine (alive08 w).mono ?_
  rintro e w1 ⟨rfl, hB⟩
  have H1 := beyond1 l.length 1 (w1.alloc (.cells #[.int .i64 l.length] 3)) w1.heap.size (by rw [cell_of_row _ _ _ _ _ _ (heap_alloc_new w1 _)]; rfl) hsz
  rw [decide_eq_true hm] at H1
  go_wp2_with fail
  refine H1.mono ?_
  rintro e w2 ⟨rfl, hw⟩
  have hB : Below w.heap.size w w2 := by rw [← hw]; exact hB.alloc hB.size _
  clear hw H1 hm
  go_wp2_with fail
  refine (alive08 w2).mono ?_
  rintro e w3 ⟨rfl, hb3⟩
  have hB : Below w.heap.size w w3 := below_then hB hb3
  go_wp2
  go_ret
  exact ⟨rfl, hB⟩

set_option maxRecDepth 100000 in
set_option maxHeartbeats 4000000 in
theorem HandlesAgain_no (A : Option Addr) (c : Nat) (l : List Int) (w : World) (hr : Rd w A l) (hc : l.length ≤ c) (hsz : l.length ≤ 140737488351232) (hm : (l.length : Int) ≤ 1048576) (hk : ¬ hOK l) :
    Calls Try.prog 6 #[.slice A l.length c] w fun e w' => e = .returned (.bool true) ∧ Below w.heap.size w w' := by
  go_enter Try.func6, Try.ntmps6
  go_wp2_with fail
  refine (alive08 w).mono ?_
  rintro e w1 ⟨rfl, hB⟩
  have H1 := beyond1 l.length 1 (w1.alloc (.cells #[.int .i64 l.length] 3)) w1.heap.size (by rw [cell_of_row _ _ _ _ _ _ (heap_alloc_new w1 _)]; rfl) hsz
  rw [decide_eq_false (show ¬ 1048576 < (l.length : Int) from by omega)] at H1
  go_wp2_with fail
  refine H1.mono ?_
  rintro e w2 ⟨rfl, hw⟩
  have hB : Below w.heap.size w w2 := by rw [← hw]; exact hB.alloc hB.size _
  clear hw H1
  go_wp2_with fail
  refine (hget_n (hr.below hB) rfl hc hk).mono ?_
  rintro e w3 ⟨rfl, hx⟩
  have hB := below_then hB hx
  have Bx := Blk.new w3 27 #[.int .i64 0, .int .u32 0]
  have hB := hB.alloc hB.size (.cells #[.int .i64 0, .int .u32 0] 27)
  have k0 := Bx.cell 0 (v := .int .i64 0) rfl
  have k1 := Bx.cell 1 (v := .int .u32 0) rfl
  clear hx hk
  go_wp2
  go_ret
  exact ⟨rfl, hB⟩

set_option maxRecDepth 100000 in
set_option maxHeartbeats 4000000 in
theorem HandlesAgain_ok (A : Option Addr) (c : Nat) (l : List Int) (w : World) (hr : Rd w A l) (hc : l.length ≤ c) (hsz : l.length ≤ 140737488351232) (hm : (l.length : Int) ≤ 1048576) (hk : hOK l) :
    Calls Try.prog 6 #[.slice A l.length c] w fun e w' => e = .returned (.bool true) ∧ Below w.heap.size w w' := by
  have hl := hk.1
  have hb8 := num4 (hr.drop 8 c hc).1
  obtain ⟨N, hN⟩ : ∃ N, N = hNode l := ⟨_, rfl⟩
  obtain ⟨G, hG⟩ : ∃ G, G = hGen l := ⟨_, rfl⟩
  have hv : hvOK l = .tuple #[.agg #[.int .i64 N, .int .u32 G], .int .i64 0] := by rw [hN, hG]; rfl
  have hN1 := hk.2.1
  have hN2 := hk.2.2.1
  have hq := hk.2.2.2
  rw [show num (l.drop 8) 4 = G from hG.symm] at hb8
  rw [← hN] at hN1 hN2 hq
  rw [← hG] at hq
  rw [hl] at hc hm hsz ⊢
  have c1 := fun w (hr : Rd w A l) => hget_v (c := c) (k := 16) (w := w) hr hl hc hk hv
  have H1 := fun (w1 : World) => beyond1 16 1 (w1.alloc (.cells #[.int .i64 16] 3)) w1.heap.size (by rw [cell_of_row _ _ _ _ _ _ (heap_alloc_new w1 _)]; rfl) (by decide)
  rw [show decide (1048576 < ((16 : Nat) : Int)) = false from rfl] at H1
  have HC := Lib.hid c1
  have HH := Lib.hid H1
  have HQ := Lib.hid hq
  clear hk hN hG hv c1 H1 hq
  go_enter Try.func6, Try.ntmps6
  go_wp2_with fail
  refine (alive08 w).mono ?_
  rintro e w1 ⟨rfl, hB⟩
  go_wp2_with fail
  refine (HH.out w1).mono ?_
  rintro e w2 ⟨rfl, hw⟩
  have hB : Below w.heap.size w w2 := by rw [← hw]; exact hB.alloc hB.size _
  clear hw HH
  go_wp2_with fail
  have hr2 := hr.below hB
  refine (HC.out _ hr2).mono ?_
  rintro e w3 ⟨rfl, hx⟩
  have hr := hr2.below hx
  have hB := below_then hB hx
  have Bx := Blk.new w3 27 #[.int .i64 N, .int .u32 G]
  have hB := hB.alloc hB.size (.cells #[.int .i64 N, .int .u32 G] 27)
  have hr := hr.alloc (.cells #[.int .i64 N, .int .u32 G] 27)
  have k0 := Bx.cell 0 (v := .int .i64 N) rfl
  have k1 := Bx.cell 1 (v := .int .u32 G) rfl
  clear hx HC hr2
  go_wp2_with fail
  refine (hput N G _ hN1 hN2 hb8.1 hb8.2).mono ?_
  rintro e w4 ⟨v, rfl, ho, hx⟩
  have hr := hr.below hx
  have Bx := Bx.below hx
  have hB := below_then hB hx
  obtain ⟨C, d, rfl, _, _, hr4⟩ := ho.form
  rw [hb_length]
  clear hx k0 k1 ho
  go_wp2_with fail
  refine (same_yes hr4 hr HQ.out (hb_length _ _) hl (by decide)).mono ?_
  rintro e w5 ⟨rfl, m, rfl⟩
  have Bx := Bx.drewN m
  have hB := below_drewN hB m
  have k0 := Bx.cell 0 (v := .int .i64 N) rfl
  have k1 := Bx.cell 1 (v := .int .u32 G) rfl
  clear hr hr4
  go_wp2
  go_ret
  exact ⟨rfl, hB⟩

theorem HandlesAgain_walk (A : Option Addr) (c : Nat) (l : List Int) (w : World) (hr : Rd w A l) (hc : l.length ≤ c) (hsz : l.length ≤ 140737488351232) :
    Calls Try.prog 6 #[.slice A l.length c] w fun e w' => e = .returned (.bool true) ∧ Below w.heap.size w w' := by
  by_cases hm : 1048576 < (l.length : Int)
  · exact HandlesAgain_far A c l w hr hc hsz hm
  by_cases hk : hOK l
  · exact HandlesAgain_ok A c l w hr hc hsz (by omega) hk
  · exact HandlesAgain_no A c l w hr hc hsz (by omega) hk
end Go.Proofs.Ytffikncbpcnflaa.Hand
