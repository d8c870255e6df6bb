/- replies.Get where there is no reply; and replies.Get in one word. -/
import Derived.Test.YtoodmjdafifbmaaDoorRepGets
namespace Go.Proofs.YtoodmjdafifbmaaDoor.Hand
open Go.RowKit
set_option linter.unusedVariables false
set_option linter.unusedSimpArgs false

set_option maxRecDepth 100000 in
set_option maxHeartbeats 4000000 in
theorem gets_long (A : Option Addr) (c : Nat) (L : List Int) (w : World) (hn : ¬ L.length ≤ 65536) :
    Calls Tryd.prog 26 #[.slice A L.length c] w fun e w' => e = .returned (.tuple #[repZ, .int .i64 3]) ∧ Below w.heap.size w w' := by
  have hB0 : Below w.heap.size w (w.alloc (.cells #[.int .u32 0, .int .u32 0, .int .u32 0, .int .u32 0, .slice none 0 0] 26)) := (Below.refl _ _).alloc (Nat.le_refl _) _
  have hb2 := Blk.new w 26 #[.int .u32 0, .int .u32 0, .int .u32 0, .int .u32 0, .slice none 0 0]
  have hlim : 65536 < (L.length : Int) := by omega
  have z0 := hb2.cell 0 (v := .int .u32 0) rfl
  have z1 := hb2.cell 1 (v := .int .u32 0) rfl
  have z2 := hb2.cell 2 (v := .int .u32 0) rfl
  have z3 := hb2.cell 3 (v := .int .u32 0) rfl
  have z4 := hb2.cell 4 (v := .slice none 0 0) rfl
  have y0 := hb2.frozen 0
  have y1 := hb2.frozen 1
  have y2 := hb2.frozen 2
  have y3 := hb2.frozen 3
  have y4 := hb2.frozen 4
  go_enter Tryd.func26, Tryd.ntmps26
  go_wp2_with fail
  exact bodyPost_ret (v := .tuple #[repZ, .int .i64 3]) (by simp [results, Tryd.f26, go_sem, z0, z1, z2, z3, z4, repZ]) rfl ⟨rfl, hB0⟩

set_option maxRecDepth 100000 in
set_option maxHeartbeats 4000000 in
theorem gets_no (A : Option Addr) (c : Nat) (L : List Int) (w : World) (k : Int) (hr : Rd w A L) (hc : L.length ≤ c) (hn : L.length ≤ 65536) (hrun : runG (L.length + 1) [] L = .no k) (hk : ¬ k = 0) :
    Calls Tryd.prog 26 #[.slice A L.length c] w fun e w' => e = .returned (.tuple #[repZ, .int .i64 k]) ∧ Below w.heap.size w w' := by
  have hB0 : Below w.heap.size w (w.alloc (.cells #[.int .u32 0, .int .u32 0, .int .u32 0, .int .u32 0, .slice none 0 0] 26)) := (Below.refl _ _).alloc (Nat.le_refl _) _
  have hb2 := Blk.new w 26 #[.int .u32 0, .int .u32 0, .int .u32 0, .int .u32 0, .slice none 0 0]
  have hlim : ¬ 65536 < (L.length : Int) := by omega
  have hg := get_ A c L _ (hr.below hB0) hc (by omega)
  rw [hrun] at hg
  have hkb : (k != 0) = true := by simp [hk]
  have HG := Lib.hid hg
  clear hg hrun hk
  go_enter Tryd.func26, Tryd.ntmps26
  go_wp2_with fail
  refine HG.out.mono ?_
  rintro e w1 ⟨hE, hB1⟩
  obtain rfl : e = .returned (.tuple #[.int .u32 0, .slice none 0 0, .int .i64 k]) := hE
  have hb2 := hb2.below hB1
  have hB0 := below_then hB0 hB1
  have z0 := hb2.cell 0 (v := .int .u32 0) rfl
  have z1 := hb2.cell 1 (v := .int .u32 0) rfl
  have z2 := hb2.cell 2 (v := .int .u32 0) rfl
  have z3 := hb2.cell 3 (v := .int .u32 0) rfl
  have z4 := hb2.cell 4 (v := .slice none 0 0) rfl
  have y0 := hb2.frozen 0
  have y1 := hb2.frozen 1
  have y2 := hb2.frozen 2
  have y3 := hb2.frozen 3
  have y4 := hb2.frozen 4
  clear hB1 HG
  go_wp2_with fail
  have hfin := ((((hb2.set_ 0 (.int .u32 0)).set_ 1 (.int .u32 0)).set_ 2 (.int .u32 0)).set_ 3 (.int .u32 0)).set_ 4 (.slice none 0 0)
  have q0 := hfin.cell 0 (v := .int .u32 0) rfl
  have q1 := hfin.cell 1 (v := .int .u32 0) rfl
  have q2 := hfin.cell 2 (v := .int .u32 0) rfl
  have q3 := hfin.cell 3 (v := .int .u32 0) rfl
  have q4 := hfin.cell 4 (v := .slice none 0 0) rfl
  have hBf := ((((hB0.setCell (p := ⟨w.heap.size, 0, none⟩) (Nat.le_refl _) (.int .u32 0)).setCell (p := ⟨w.heap.size, 1, none⟩) (Nat.le_refl _) (.int .u32 0)).setCell (p := ⟨w.heap.size, 2, none⟩) (Nat.le_refl _) (.int .u32 0)).setCell (p := ⟨w.heap.size, 3, none⟩) (Nat.le_refl _) (.int .u32 0)).setCell (p := ⟨w.heap.size, 4, none⟩) (Nat.le_refl _) (.slice none 0 0)
  exact bodyPost_ret (v := .tuple #[repZ, .int .i64 k]) (by simp [results, Tryd.f26, go_sem, q0, q1, q2, q3, q4, repZ]) rfl ⟨rfl, hBf⟩
end Go.Proofs.YtoodmjdafifbmaaDoor.Hand
