/- RepliesAgain, walked. -/
import Derived.Test.YtikkcoidepfgmaaAlive07
namespace Go.Proofs.Ytikkcoidepfgmaa.Hand
open Go.RowKit
set_option linter.unusedVariables false
set_option linter.unusedSimpArgs false

set_option maxRecDepth 100000 in
set_option maxHeartbeats 4000000 in
theorem RepliesAgain_walk (A : Option Addr) (c : Nat) (l : List Int) (w : World) (hr : Rd w A l) (hc : l.length ≤ c) (hn : l.length ≤ 140737488351232) :
    Calls Try.prog 4 #[.slice A l.length c] w fun e w' => e = .returned (.bool true) ∧ Below w.heap.size w w' := by
  have hA := alive_ w
  go_enter Try.func4, Try.ntmps4
  go_wp2_with fail
  refine hA.mono ?_
  rintro e w1 ⟨rfl, hB⟩
  clear hA
  by_cases hlim : l.length ≤ 200000
  · have hlim' : ¬ 200000 < (l.length : Int) := by omega
    cases hg : got l with
    | no k =>
      have hk := got_no hg
      have hk0 : (k != 0) = true := by rw [bne_iff_ne]; omega
      have hk1 : (k != 1) = true := by rw [bne_iff_ne]; omega
      have HG := Lib.hid (get_fails A c l w1 (hr.below hB) hc hg)
      clear hg hk
      go_wp2_with fail
      refine HG.out.mono ?_
      rintro e w2 ⟨rfl, hx⟩
      have hB := below_then hB hx
      have hz := Blk.new w2 26 #[.int .u32 0, .int .u32 0, .int .u32 0, .int .u32 0, .slice none 0 0]
      have z0 := hz.cell 0 (v := .int .u32 0) rfl
      have z1 := hz.cell 1 (v := .int .u32 0) rfl
      have z2 := hz.cell 2 (v := .int .u32 0) rfl
      have z3 := hz.cell 3 (v := .int .u32 0) rfl
      have z4 := hz.cell 4 (v := .slice none 0 0) rfl
      have y0 := hz.frozen 0
      have y1 := hz.frozen 1
      have y2 := hz.frozen 2
      have y3 := hz.frozen 3
      have y4 := hz.frozen 4
      have hB3 := hB.alloc hB.size (.cells #[.int .u32 0, .int .u32 0, .int .u32 0, .int .u32 0, .slice none 0 0] 26)
      clear hx HG
      go_wp2_with fail
      go_ret
      exact ⟨rfl, hB3⟩
    | ok xid how low high body =>
      obtain ⟨hp, hL, hn6, bx, bh, bl, bi⟩ := got_ok hr.1 hg
      have HG := Lib.hid (get_yes A c l w1 (hr.below hB) hc hg)
      clear hg
      go_wp2_with fail
      refine HG.out.mono ?_
      rintro e w2 ⟨Ab, cb, rfl, hcb, rb, hx⟩
      have hB := below_then hB hx
      have hz := Blk.new w2 26 #[.int .u32 0, .int .u32 0, .int .u32 0, .int .u32 0, .slice none 0 0]
      have z0 := hz.cell 0 (v := .int .u32 0) rfl
      have z1 := hz.cell 1 (v := .int .u32 0) rfl
      have z2 := hz.cell 2 (v := .int .u32 0) rfl
      have z3 := hz.cell 3 (v := .int .u32 0) rfl
      have z4 := hz.cell 4 (v := .slice none 0 0) rfl
      have y0 := hz.frozen 0
      have y1 := hz.frozen 1
      have y2 := hz.frozen 2
      have y3 := hz.frozen 3
      have y4 := hz.frozen 4
      have hq := Blk.new w2 26 #[.int .u32 xid, .int .u32 how, .int .u32 low, .int .u32 high, .slice Ab body.length cb]
      have q0 := hq.cell 0 (v := .int .u32 xid) rfl
      have q1 := hq.cell 1 (v := .int .u32 how) rfl
      have q2 := hq.cell 2 (v := .int .u32 low) rfl
      have q3 := hq.cell 3 (v := .int .u32 high) rfl
      have q4 := hq.cell 4 (v := .slice Ab body.length cb) rfl
      have hal := (Below.refl w2.heap.size w2).alloc (Nat.le_refl _) (.cells #[.int .u32 xid, .int .u32 how, .int .u32 low, .int .u32 high, .slice Ab body.length cb] 26)
      have hB3 := below_then hB hal
      have P1 := Put_yes xid how low high Ab cb body _ bx bh bl bi (rb.below hal) hcb hp (by rw [hL]; exact hn6)
      rw [hL] at P1
      have HP := Lib.hid P1
      clear P1 hx HG hL hp bx bh bl bi hal
      go_wp2_with fail
      refine HP.out.mono ?_
      rintro e w3 ⟨Av, cv, rfl, hcv, _, rv, hx⟩
      have hB4 := below_then hB3 hx
      have HS := Lib.hid (same_yes (c := cv) (d := c) rv (hr.below hB4) rfl rfl rfl (by omega))
      clear hx HP
      go_wp2_with fail
      refine HS.out.mono ?_
      rintro e w4 ⟨rfl, n, hw4⟩
      have hB5 := below_then hB4 (below_drawn hw4)
      clear hw4 HS
      go_wp2_with fail
      go_ret
      exact ⟨rfl, hB5⟩
  · have hlim' : 200000 < (l.length : Int) := by omega
    go_wp2_with fail
    refine (alive_ _).mono ?_
    rintro e w2 ⟨rfl, hx⟩
    have hB := below_then hB hx
    clear hx
    go_wp2_with fail
    go_ret
    exact ⟨rfl, hB⟩
end Go.Proofs.Ytikkcoidepfgmaa.Hand
