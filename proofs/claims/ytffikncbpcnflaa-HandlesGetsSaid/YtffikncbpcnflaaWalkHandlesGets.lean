/- The statement HandlesGets, walked: whatever bytes come in, handles.Get tells what the reference's Get tells, and leaves its argument as it was. -/
import Derived.Test.YtffikncbpcnflaaRefHandleGet
import Derived.Test.YtffikncbpcnflaaHelp
namespace Go.Proofs.Ytffikncbpcnflaa.Hand
open Go.RowKit
set_option linter.unusedVariables false

theorem hget_v {A : Option Addr} {c : Nat} {l : List Int} {w : World} (hr : Rd w A l) (hc : l.length ≤ c) (h : hOK l) {v : Value} (hv : hvOK l = v) :
    Calls Try.prog 12 #[.slice A l.length c] w fun e w' => e = .returned v ∧ Below w.heap.size w w' := by
  rw [← hv]
  exact hget_ok A c l w hr hc h
theorem rhget_v {A : Option Addr} {c : Nat} {l : List Int} {w : World} (hr : Rd w A l) (hc : l.length ≤ c) (h : hOK l) {v : Value} (hv : hvOK l = v) :
    Calls Try.prog 13 #[.slice A l.length c] w fun e w' => e = .returned v ∧ Below w.heap.size w w' := by
  rw [← hv]
  exact rhget_ok A c l w hr hc h
theorem hget_n {A : Option Addr} {c : Nat} {l : List Int} {w : World} (hr : Rd w A l) (hc : l.length ≤ c) (h : ¬ hOK l) :
    Calls Try.prog 12 #[.slice A l.length c] w fun e w' => e = .returned (.tuple #[.agg #[.int .i64 0, .int .u32 0], .int .i64 5]) ∧ Below w.heap.size w w' := hget_no A c l w hr hc h
theorem rhget_n {A : Option Addr} {c : Nat} {l : List Int} {w : World} (hr : Rd w A l) (hc : l.length ≤ c) (h : ¬ hOK l) :
    Calls Try.prog 13 #[.slice A l.length c] w fun e w' => e = .returned (.tuple #[.agg #[.int .i64 0, .int .u32 0], .int .i64 5]) ∧ Below w.heap.size w w' := rhget_no A c l w hr hc h

set_option maxRecDepth 100000 in
set_option maxHeartbeats 2000000 in
theorem HandlesGets_far (A : Option Addr) (c : Nat) (l : List Int) (w : World) (hr : Rd w A l) (hc : l.length ≤ c) (hsz : l.length ≤ 140737488351232) (hm : 1048576 < (l.length : Int)) :
    Calls Try.prog 3 #[.slice A l.length c] w fun e w' => e = .returned (.bool true) ∧ Below w.heap.size w w' := by
  have H1 := beyond1 l.length 1 (w.alloc (.cells #[.int .i64 l.length] 3)) w.heap.size (by rw [cell_of_row _ _ _ _ _ _ (heap_alloc_new w _)]; rfl) hsz
  have hB1 : Below w.heap.size w (w.alloc (.cells #[.int .i64 l.length] 3)) := (Below.refl _ w).alloc (Nat.le_refl _) _
  rw [decide_eq_true hm] at H1
  go_enter Try.func3, Try.ntmps3
  go_wp2_with fail
  refine H1.mono ?_
  rintro e w' ⟨rfl, rfl⟩
  go_wp2
  go_ret
  exact ⟨rfl, hB1⟩

set_option maxRecDepth 100000 in
set_option maxHeartbeats 4000000 in
theorem HandlesGets_ok (A : Option Addr) (c : Nat) (l : List Int) (w : World) (hr : Rd w A l) (hc : l.length ≤ c) (hsz : l.length ≤ 140737488351232) (hm : ¬ 1048576 < (l.length : Int)) (hk : hOK l) :
    Calls Try.prog 3 #[.slice A l.length c] w fun e w' => e = .returned (.bool true) ∧ Below w.heap.size w w' := by
  have H1 := beyond1 l.length 1 (w.alloc (.cells #[.int .i64 l.length] 3)) w.heap.size (by rw [cell_of_row _ _ _ _ _ _ (heap_alloc_new w _)]; rfl) hsz
  have hB1 : Below w.heap.size w (w.alloc (.cells #[.int .i64 l.length] 3)) := (Below.refl _ w).alloc (Nat.le_refl _) _
  rw [decide_eq_false hm] at H1
  obtain ⟨N, hN⟩ : ∃ N, N = hNode l := ⟨_, rfl⟩
  obtain ⟨G, hG⟩ : ∃ G, G = hGen l := ⟨_, rfl⟩
  have hv : hvOK l = .tuple #[.agg #[.int .i64 N, .int .u32 G], .int .i64 0] := by rw [hN, hG]; rfl
  have HV := Lib.hid hv
  clear hN hG hv
  have HK := Lib.hid hk
  clear hk
  go_enter Try.func3, Try.ntmps3
  go_wp2_with fail
  refine H1.mono ?_
  rintro e w' ⟨rfl, rfl⟩
  go_wp2_with fail
  refine (twin A c l _ (hr.alloc _) hsz).mono ?_
  rintro e w2 ⟨q, cap, rfl, ho, hx⟩
  have hB := below_then hB1 hx
  have hrb := (hr.alloc _).below hx
  obtain ⟨A', c', e1, hc1, _, hrt⟩ := ho.form
  injection e1 with e1 e2 e3
  subst e1 e3
  have hrl : Rd w2 (some ⟨q, 0, none⟩) l := by have := hrt.take l.length; rwa [List.take_left] at this
  rw [List.length_append] at hc1
  simp only [List.length_cons, List.length_nil] at hc1
  clear e2 hx ho
  go_wp2_with fail
  refine (hget_v hrl (by omega) HK.out HV.out).mono ?_
  rintro e w3 ⟨rfl, hx⟩
  have hrb := (hrb.below hx).alloc (.cells #[.int .i64 N, .int .u32 G] 27)
  have hrt := (hrt.below hx).alloc (.cells #[.int .i64 N, .int .u32 G] 27)
  have B1 := Blk.new w3 27 #[.int .i64 N, .int .u32 G]
  have hB := below_then hB hx
  have hB := hB.alloc hB.size (.cells #[.int .i64 N, .int .u32 G] 27)
  clear hx hrl
  go_wp2_with fail
  refine (rhget_v hrb hc HK.out HV.out).mono ?_
  rintro e w4 ⟨rfl, hx⟩
  have hrb := (hrb.below hx).alloc (.cells #[.int .i64 N, .int .u32 G] 27)
  have hrt := (hrt.below hx).alloc (.cells #[.int .i64 N, .int .u32 G] 27)
  have B1 := (B1.below hx).alloc (.cells #[.int .i64 N, .int .u32 G] 27)
  have B2 := Blk.new w4 27 #[.int .i64 N, .int .u32 G]
  have hB := below_then hB hx
  have hB := hB.alloc hB.size (.cells #[.int .i64 N, .int .u32 G] 27)
  clear hx
  have k0 := B1.cell 0 (v := .int .i64 N) rfl
  have k1 := B1.cell 1 (v := .int .u32 G) rfl
  have k2 := B2.cell 0 (v := .int .i64 N) rfl
  have k3 := B2.cell 1 (v := .int .u32 G) rfl
  go_wp2_with fail
  refine (left q cap A c l _ hrt (by omega) hrb hsz).mono ?_
  rintro e w5 ⟨rfl, n, rfl⟩
  go_wp2
  go_ret
  exact ⟨rfl, below_drewN hB n⟩

set_option maxRecDepth 100000 in
set_option maxHeartbeats 4000000 in
theorem HandlesGets_no (A : Option Addr) (c : Nat) (l : List Int) (w : World) (hr : Rd w A l) (hc : l.length ≤ c) (hsz : l.length ≤ 140737488351232) (hm : ¬ 1048576 < (l.length : Int)) (hk : ¬ hOK l) :
    Calls Try.prog 3 #[.slice A l.length c] w fun e w' => e = .returned (.bool true) ∧ Below w.heap.size w w' := by
  have H1 := beyond1 l.length 1 (w.alloc (.cells #[.int .i64 l.length] 3)) w.heap.size (by rw [cell_of_row _ _ _ _ _ _ (heap_alloc_new w _)]; rfl) hsz
  have hB1 : Below w.heap.size w (w.alloc (.cells #[.int .i64 l.length] 3)) := (Below.refl _ w).alloc (Nat.le_refl _) _
  rw [decide_eq_false hm] at H1
  have HK := Lib.hid hk
  clear hk
  go_enter Try.func3, Try.ntmps3
  go_wp2_with fail
  refine H1.mono ?_
  rintro e w' ⟨rfl, rfl⟩
  go_wp2_with fail
  refine (twin A c l _ (hr.alloc _) hsz).mono ?_
  rintro e w2 ⟨q, cap, rfl, ho, hx⟩
  have hB := below_then hB1 hx
  have hrb := (hr.alloc _).below hx
  obtain ⟨A', c', e1, hc1, _, hrt⟩ := ho.form
  injection e1 with e1 e2 e3
  subst e1 e3
  have hrl : Rd w2 (some ⟨q, 0, none⟩) l := by have := hrt.take l.length; rwa [List.take_left] at this
  rw [List.length_append] at hc1
  simp only [List.length_cons, List.length_nil] at hc1
  clear e2 hx ho
  go_wp2_with fail
  refine (hget_n hrl (by omega) HK.out).mono ?_
  rintro e w3 ⟨rfl, hx⟩
  have hrb := (hrb.below hx).alloc (.cells #[.int .i64 0, .int .u32 0] 27)
  have hrt := (hrt.below hx).alloc (.cells #[.int .i64 0, .int .u32 0] 27)
  have B1 := Blk.new w3 27 #[.int .i64 0, .int .u32 0]
  have hB := below_then hB hx
  have hB := hB.alloc hB.size (.cells #[.int .i64 0, .int .u32 0] 27)
  clear hx hrl
  go_wp2_with fail
  refine (rhget_n hrb hc HK.out).mono ?_
  rintro e w4 ⟨rfl, hx⟩
  have hrb := (hrb.below hx).alloc (.cells #[.int .i64 0, .int .u32 0] 27)
  have hrt := (hrt.below hx).alloc (.cells #[.int .i64 0, .int .u32 0] 27)
  have B1 := (B1.below hx).alloc (.cells #[.int .i64 0, .int .u32 0] 27)
  have B2 := Blk.new w4 27 #[.int .i64 0, .int .u32 0]
  have hB := below_then hB hx
  have hB := hB.alloc hB.size (.cells #[.int .i64 0, .int .u32 0] 27)
  clear hx
  have k0 := B1.cell 0 (v := .int .i64 0) rfl
  have k1 := B1.cell 1 (v := .int .u32 0) rfl
  have k2 := B2.cell 0 (v := .int .i64 0) rfl
  have k3 := B2.cell 1 (v := .int .u32 0) rfl
  go_wp2_with fail
  refine (left q cap A c l _ hrt (by omega) hrb hsz).mono ?_
  rintro e w5 ⟨rfl, n, rfl⟩
  go_wp2
  go_ret
  exact ⟨rfl, below_drewN hB n⟩

theorem HandlesGets_walk (A : Option Addr) (c : Nat) (l : List Int) (w : World) (hr : Rd w A l) (hc : l.length ≤ c) (hsz : l.length ≤ 140737488351232) :
    Calls Try.prog 3 #[.slice A l.length c] w fun e w' => e = .returned (.bool true) ∧ Below w.heap.size w w' := by
  by_cases hm : 1048576 < (l.length : Int)
  · exact HandlesGets_far A c l w hr hc hsz hm
  by_cases hk : hOK l
  · exact HandlesGets_ok A c l w hr hc hsz hm hk
  · exact HandlesGets_no A c l w hr hc hsz hm hk
end Go.Proofs.Ytffikncbpcnflaa.Hand
