/- What handles.Put hands back: the bytes of a handle, of the call's own; or the error. -/
import Derived.Test.YtgkbfmbdpkkhnaaDoorHandle
namespace Go.Proofs.YtgkbfmbdpkkhnaaDoor.Hand
open Go.RowKit
set_option linter.unusedVariables false

theorem Rd.litT (w : World) (l : List Int) (h : Bs l) (t : TypeId) : Rd (w.alloc (.cells (l.map (Value.int .u8)).toArray t)) (some ⟨w.heap.size, 0, none⟩) l := by
  refine ⟨h, fun _ => ⟨_, rfl, fun j hj => ?_⟩⟩
  rw [add_plain, cell_of_row _ _ _ _ _ _ (heap_alloc_new w _)]
  rw [List.getElem?_toArray, List.getElem?_map, List.getElem?_eq_getElem hj, gd _ _ hj]; rfl
theorem hb_exp (a g : Int) : ∃ x0 x1 x2 x3 x4 x5 x6 x7 x8 x9 x10 x11 x12 x13 x14 x15, hb a g = [x0, x1, x2, x3, x4, x5, x6, x7, x8, x9, x10, x11, x12, x13, x14, x15] := by
  have h := hb_length a g
  generalize hb a g = L at *
  match L, h with
  | [x0, x1, x2, x3, x4, x5, x6, x7, x8, x9, x10, x11, x12, x13, x14, x15], _ => exact ⟨_, _, _, _, _, _, _, _, _, _, _, _, _, _, _, _, rfl⟩

set_option maxRecDepth 100000 in
set_option maxHeartbeats 2000000 in
theorem hput (a g : Int) (w : World) (ha : 1 ≤ a) (ha' : a ≤ 1024) (hg : 0 ≤ g) (hg' : g < 4294967296) :
    Calls Tryd.prog 35 #[.agg #[.int .i64 a, .int .u32 g]] w fun e w' => ∃ v, e = .returned (.tuple #[v, .int .i64 0]) ∧ Own w' w.heap.size v (hb a g) ∧ Below w.heap.size w w' := by
  have b1 := Blk.new w 63 #[.int .i64 a, .int .u32 g]
  have hB : Below w.heap.size w (w.alloc (.cells #[.int .i64 a, .int .u32 g] 63)) := (Below.refl _ _).alloc (Nat.le_refl _) _
  have k0 := b1.cell 0 (v := .int .i64 a) rfl
  have k1 := b1.cell 1 (v := .int .u32 g) rfl
  have h1 : ¬ a < 1 := by omega
  have h2 : ¬ 1024 < a := by omega
  go_enter Tryd.func35, Tryd.ntmps35
  go_wp2_with fail
  refine (hbytes a g _ (by omega) (by omega) hg hg').mono ?_
  rintro e w1 ⟨rfl, hx⟩
  have hB := below_then hB hx
  clear hx b1 k0 k1
  obtain ⟨x0, x1, x2, x3, x4, x5, x6, x7, x8, x9, x10, x11, x12, x13, x14, x15, hq⟩ := hb_exp a g
  have hr := Rd.litT w1 (hb a g) (hb_bs a g) 80
  have hc := clone ⟨w1.heap.size, 0, none⟩ 16 (hb a g) _ hr (by rw [hb_length]; decide)
  rw [hb_length] at hc
  rw [hq]
  rw [hq] at hc
  have HC := Lib.hid hc
  clear hc hr
  simp only [List.map_cons, List.map_nil] at *
  have hB := hB.alloc hB.size (.cells #[.int .u8 x0, .int .u8 x1, .int .u8 x2, .int .u8 x3, .int .u8 x4, .int .u8 x5, .int .u8 x6, .int .u8 x7, .int .u8 x8, .int .u8 x9, .int .u8 x10, .int .u8 x11, .int .u8 x12, .int .u8 x13, .int .u8 x14, .int .u8 x15] 80)
  go_wp2_with fail
  refine HC.out.mono ?_
  rintro e w2 ⟨v, rfl, ho, hx⟩
  have ho := ho.lower hB.size
  have hB := below_then hB hx
  have HQ := Lib.hid hq
  clear hx HC hq
  go_wp2
  go_ret2
  exact ⟨v, rfl, by rw [HQ.out]; exact ho, hB⟩

set_option maxRecDepth 100000 in
set_option maxHeartbeats 2000000 in
theorem hput_bad (a g : Int) (w : World) (ha : a < 1 ∨ 1024 < a) :
    Calls Tryd.prog 35 #[.agg #[.int .i64 a, .int .u32 g]] w fun e w' => e = .returned (.tuple #[.slice none 0 0, .int .i64 1]) ∧ Below w.heap.size w w' := by
  have b1 := Blk.new w 63 #[.int .i64 a, .int .u32 g]
  have hB : Below w.heap.size w (w.alloc (.cells #[.int .i64 a, .int .u32 g] 63)) := (Below.refl _ _).alloc (Nat.le_refl _) _
  have k0 := b1.cell 0 (v := .int .i64 a) rfl
  have k1 := b1.cell 1 (v := .int .u32 g) rfl
  rcases ha with h1 | h1
  · go_enter Tryd.func35, Tryd.ntmps35
    go_wp2
    go_ret2
    exact ⟨rfl, hB⟩
  · have h2 : ¬ a < 1 := by omega
    go_enter Tryd.func35, Tryd.ntmps35
    go_wp2
    go_ret2
    exact ⟨rfl, hB⟩
end Go.Proofs.YtgkbfmbdpkkhnaaDoor.Hand
