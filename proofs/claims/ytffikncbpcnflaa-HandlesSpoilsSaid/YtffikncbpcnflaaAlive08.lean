/- The helper alive of the eighth chapter's statements: it returns true, and nothing that lay before has turned. -/
import Derived.Test.YtffikncbpcnflaaOf08
namespace Go.Proofs.Ytffikncbpcnflaa.Hand
open Go.RowKit
set_option linter.unusedVariables false

theorem hget_v {A : Option Addr} {c k : Nat} {l : List Int} {w : World} (hr : Rd w A l) (hk : l.length = k) (hc : k ≤ c) (h : hOK l) {v : Value} (hv : hvOK l = v) :
    Calls Try.prog 12 #[.slice A k c] w fun e w' => e = .returned v ∧ Below w.heap.size w w' := by
  subst hk
  rw [← hv]
  exact hget_ok A c l w hr hc h
theorem hget_n {A : Option Addr} {c k : Nat} {l : List Int} {w : World} (hr : Rd w A l) (hk : l.length = k) (hc : k ≤ c) (h : ¬ hOK l) :
    Calls Try.prog 12 #[.slice A k c] w fun e w' => e = .returned (.tuple #[.agg #[.int .i64 0, .int .u32 0], .int .i64 5]) ∧ Below w.heap.size w w' := by
  subst hk
  exact hget_no A c l w hr hc h
theorem not_hOK {l : List Int} (h : l.length ≠ 16) : ¬ hOK l := fun k => h k.1

set_option maxRecDepth 100000 in
set_option maxHeartbeats 4000000 in
theorem alive08 (w : World) : Calls Try.prog 16 #[] w fun e w' => e = .returned (.bool true) ∧ Below w.heap.size w w' := by
  have hof := of_ 0 0 w (by decide) (by decide) (by decide) (by decide)
  rw [show (1 + (0 : Int) % 1024) = 1 from rfl] at hof
  go_enter Try.func16, Try.ntmps16
  go_wp2_with fail
  refine hof.mono ?_
  rintro e w1 ⟨v, rfl, ho, hB⟩
  have Bh := Blk.new w1 27 #[.int .i64 1, .int .u32 0]
  obtain ⟨A, d, rfl, hd, _, hr⟩ := ho.form
  rw [hb_length] at hd
  rw [hb_length]
  have hr := hr.alloc (.cells #[.int .i64 1, .int .u32 0] 27)
  have hB := hB.alloc hB.size (.cells #[.int .i64 1, .int .u32 0] 27)
  clear hof ho
  go_wp2_with fail
  refine (hput_bad 0 0 _ (by decide)).mono ?_
  rintro e w2 ⟨rfl, hx⟩
  have Bh := Bh.below hx
  have hr := hr.below hx
  have hB := below_then hB hx
  clear hx
  go_wp2_with fail
  refine (hput_bad 1025 0 _ (by decide)).mono ?_
  rintro e w3 ⟨rfl, hx⟩
  have Bh := Bh.below hx
  have hr := hr.below hx
  have hB := below_then hB hx
  clear hx
  go_wp2_with fail
  refine (hget_n (k := 0) (Rd.nil _ none) rfl (Nat.zero_le _) (not_hOK (by decide))).mono ?_
  rintro e w4 ⟨rfl, hx⟩
  have Bh := (Bh.below hx).alloc (.cells #[.int .i64 0, .int .u32 0] 27)
  have hr := (hr.below hx).alloc (.cells #[.int .i64 0, .int .u32 0] 27)
  have hB := below_then hB hx
  have hB := hB.alloc hB.size (.cells #[.int .i64 0, .int .u32 0] 27)
  clear hx
  go_wp2_with fail
  refine (hget_v (k := 16) hr (hb_length _ _) hd (hOK_hb (by decide) (by decide) (by decide) (by decide)) (hvOK_hb (by decide) (by decide) (by decide) (by decide))).mono ?_
  rintro e w5 ⟨rfl, hx⟩
  have Bh := (Bh.below hx).alloc (.cells #[.int .i64 1, .int .u32 0] 27)
  have Bx := Blk.new w5 27 #[.int .i64 1, .int .u32 0]
  have hr := (hr.below hx).alloc (.cells #[.int .i64 1, .int .u32 0] 27)
  have hB := below_then hB hx
  have hB := hB.alloc hB.size (.cells #[.int .i64 1, .int .u32 0] 27)
  clear hx
  have k0 := Bh.cell 0 (v := .int .i64 1) rfl
  have k1 := Bh.cell 1 (v := .int .u32 0) rfl
  have k2 := Bx.cell 0 (v := .int .i64 1) rfl
  have k3 := Bx.cell 1 (v := .int .u32 0) rfl
  have s1 := run_str_n (c := d) (n := 12) (hr.take 12) (by rw [List.length_take, hb_length]; rfl)
  rw [show strOf ((hb 1 0).take 12) = { data := #[119, 104, 114, 102, 0, 0, 0, 1, 0, 0, 0, 0] } from by kernel_rfl] at s1
  clear hr
  go_wp2
  go_ret
  exact ⟨rfl, hB⟩
end Go.Proofs.Ytffikncbpcnflaa.Hand
