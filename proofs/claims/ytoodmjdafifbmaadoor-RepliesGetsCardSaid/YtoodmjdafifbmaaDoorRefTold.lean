/- What the reference's told, accepted and denied of chapter 07 hand back. -/
import Derived.Test.YtoodmjdafifbmaaDoorWLast
import Derived.Test.YtoodmjdafifbmaaDoorRefRep
namespace Go.Proofs.YtoodmjdafifbmaaDoor.Hand
open Go.RowKit Go.Proofs.YtoodmjdafifbmaaDoorW.PrintLast
set_option linter.unusedVariables false
set_option linter.unusedSimpArgs false

set_option maxRecDepth 100000 in
set_option maxHeartbeats 2000000 in
theorem acc_1more (x a : Int) (ad : Addr) (c : Nat) (w : World) (o0 : w.cell? ad = some (.int .u32 a)) (ha : a = 0) :
    Calls Tryd.prog 78 #[.agg #[.int .u32 x, .int .u32 0, .int .u32 0, .int .u32 0, .slice none 0 0], .slice (some ad) 1 c] w fun e w' => e = .returned (.tuple #[.agg #[.int .u32 x, .int .u32 0, .int .u32 0, .int .u32 0, .slice none 0 0], .bool true, .bool true]) ∧ Below w.heap.size w w' := by
  have b1 := (Blk.new w 26 #[.int .u32 x, .int .u32 0, .int .u32 0, .int .u32 0, .slice none 0 0]).alloc (.cells #[.int .u32 0, .int .u32 0, .int .u32 0, .int .u32 0, .slice none 0 0] 26)
  have b2 := Blk.new (w.alloc (.cells #[.int .u32 x, .int .u32 0, .int .u32 0, .int .u32 0, .slice none 0 0] 26)) 26 #[.int .u32 0, .int .u32 0, .int .u32 0, .int .u32 0, .slice none 0 0]
  have hB : Below w.heap.size w ((w.alloc (.cells #[.int .u32 x, .int .u32 0, .int .u32 0, .int .u32 0, .slice none 0 0] 26)).alloc (.cells #[.int .u32 0, .int .u32 0, .int .u32 0, .int .u32 0, .slice none 0 0] 26)) := ((Below.refl _ w).alloc (Nat.le_refl _) _).alloc (by simp) _
  rw [World.size_alloc] at b2
  go_enter Tryd.func78, Tryd.ntmps78
  go_upto_region 1 with fail
  generalize (w.alloc (.cells #[.int .u32 x, .int .u32 0, .int .u32 0, .int .u32 0, .slice none 0 0] 26)).alloc (.cells #[.int .u32 0, .int .u32 0, .int .u32 0, .int .u32 0, .slice none 0 0] 26) = W0 at *
  have k0 := cell_later hB o0
  have p0 := b1.cell 0 (v := .int .u32 x) rfl
  have p1 := b1.cell 1 (v := .int .u32 0) rfl
  have p2 := b1.cell 2 (v := .int .u32 0) rfl
  have p3 := b1.cell 3 (v := .int .u32 0) rfl
  have p4 := b1.cell 4 (v := .slice none 0 0) rfl
  have f0 := b1.frozen 0
  have f1 := b1.frozen 1
  have f2 := b1.frozen 2
  have f3 := b1.frozen 3
  have f4 := b1.frozen 4
  have z0 := b2.cell 0 (v := .int .u32 0) rfl
  have z1 := b2.cell 1 (v := .int .u32 0) rfl
  have z2 := b2.cell 2 (v := .int .u32 0) rfl
  have z3 := b2.cell 3 (v := .int .u32 0) rfl
  have z4 := b2.cell 4 (v := .slice none 0 0) rfl
  have y0 := b2.frozen 0
  have y1 := b2.frozen 1
  have y2 := b2.frozen 2
  have y3 := b2.frozen 3
  have y4 := b2.frozen 4
  have t0 : (a != 0) = false := by simp [ha]
  clear ha
  go_wp2_with fail
  have b2 := (((((b2.set_ 0 (.int .u32 x)).set_ 1 (.int .u32 0)).set_ 2 (.int .u32 0)).set_ 3 (.int .u32 0)).set_ 4 (.slice none 0 0))
  have hB := (((((hB.setCell (p := ⟨w.heap.size + 1, 0, none⟩) (Nat.le_succ _) (.int .u32 x)).setCell (p := ⟨w.heap.size + 1, 1, none⟩) (Nat.le_succ _) (.int .u32 0)).setCell (p := ⟨w.heap.size + 1, 2, none⟩) (Nat.le_succ _) (.int .u32 0)).setCell (p := ⟨w.heap.size + 1, 3, none⟩) (Nat.le_succ _) (.int .u32 0)).setCell (p := ⟨w.heap.size + 1, 4, none⟩) (Nat.le_succ _) (.slice none 0 0))
  have e0 := b2.cell 0 (v := .int .u32 x) rfl
  have e1 := b2.cell 1 (v := .int .u32 0) rfl
  have e2 := b2.cell 2 (v := .int .u32 0) rfl
  have e3 := b2.cell 3 (v := .int .u32 0) rfl
  have e4 := b2.cell 4 (v := .slice none 0 0) rfl
  exact bodyPost_ret (v := .tuple #[.agg #[.int .u32 x, .int .u32 0, .int .u32 0, .int .u32 0, .slice none 0 0], .bool true, .bool true]) (by simp [results, Tryd.f78, go_sem, e0, e1, e2, e3, e4]) rfl ⟨rfl, hB⟩

set_option maxRecDepth 100000 in
set_option maxHeartbeats 2000000 in
theorem acc_1no (x a : Int) (ad : Addr) (c : Nat) (w : World) (o0 : w.cell? ad = some (.int .u32 a)) (ha : ¬ a = 0) :
    Calls Tryd.prog 78 #[.agg #[.int .u32 x, .int .u32 0, .int .u32 0, .int .u32 0, .slice none 0 0], .slice (some ad) 1 c] w fun e w' => e = .returned (.tuple #[.agg #[.int .u32 x, .int .u32 0, .int .u32 0, .int .u32 0, .slice none 0 0], .bool false, .bool false]) ∧ Below w.heap.size w w' := by
  have b1 := (Blk.new w 26 #[.int .u32 x, .int .u32 0, .int .u32 0, .int .u32 0, .slice none 0 0]).alloc (.cells #[.int .u32 0, .int .u32 0, .int .u32 0, .int .u32 0, .slice none 0 0] 26)
  have b2 := Blk.new (w.alloc (.cells #[.int .u32 x, .int .u32 0, .int .u32 0, .int .u32 0, .slice none 0 0] 26)) 26 #[.int .u32 0, .int .u32 0, .int .u32 0, .int .u32 0, .slice none 0 0]
  have hB : Below w.heap.size w ((w.alloc (.cells #[.int .u32 x, .int .u32 0, .int .u32 0, .int .u32 0, .slice none 0 0] 26)).alloc (.cells #[.int .u32 0, .int .u32 0, .int .u32 0, .int .u32 0, .slice none 0 0] 26)) := ((Below.refl _ w).alloc (Nat.le_refl _) _).alloc (by simp) _
  rw [World.size_alloc] at b2
  go_enter Tryd.func78, Tryd.ntmps78
  go_upto_region 1 with fail
  generalize (w.alloc (.cells #[.int .u32 x, .int .u32 0, .int .u32 0, .int .u32 0, .slice none 0 0] 26)).alloc (.cells #[.int .u32 0, .int .u32 0, .int .u32 0, .int .u32 0, .slice none 0 0] 26) = W0 at *
  have k0 := cell_later hB o0
  have p0 := b1.cell 0 (v := .int .u32 x) rfl
  have p1 := b1.cell 1 (v := .int .u32 0) rfl
  have p2 := b1.cell 2 (v := .int .u32 0) rfl
  have p3 := b1.cell 3 (v := .int .u32 0) rfl
  have p4 := b1.cell 4 (v := .slice none 0 0) rfl
  have f0 := b1.frozen 0
  have f1 := b1.frozen 1
  have f2 := b1.frozen 2
  have f3 := b1.frozen 3
  have f4 := b1.frozen 4
  have z0 := b2.cell 0 (v := .int .u32 0) rfl
  have z1 := b2.cell 1 (v := .int .u32 0) rfl
  have z2 := b2.cell 2 (v := .int .u32 0) rfl
  have z3 := b2.cell 3 (v := .int .u32 0) rfl
  have z4 := b2.cell 4 (v := .slice none 0 0) rfl
  have y0 := b2.frozen 0
  have y1 := b2.frozen 1
  have y2 := b2.frozen 2
  have y3 := b2.frozen 3
  have y4 := b2.frozen 4
  have t0 : (a != 0) = true := by simp [ha]
  clear ha
  go_wp2_with fail
  have b2 := (((((b2.set_ 0 (.int .u32 x)).set_ 1 (.int .u32 0)).set_ 2 (.int .u32 0)).set_ 3 (.int .u32 0)).set_ 4 (.slice none 0 0))
  have hB := (((((hB.setCell (p := ⟨w.heap.size + 1, 0, none⟩) (Nat.le_succ _) (.int .u32 x)).setCell (p := ⟨w.heap.size + 1, 1, none⟩) (Nat.le_succ _) (.int .u32 0)).setCell (p := ⟨w.heap.size + 1, 2, none⟩) (Nat.le_succ _) (.int .u32 0)).setCell (p := ⟨w.heap.size + 1, 3, none⟩) (Nat.le_succ _) (.int .u32 0)).setCell (p := ⟨w.heap.size + 1, 4, none⟩) (Nat.le_succ _) (.slice none 0 0))
  have e0 := b2.cell 0 (v := .int .u32 x) rfl
  have e1 := b2.cell 1 (v := .int .u32 0) rfl
  have e2 := b2.cell 2 (v := .int .u32 0) rfl
  have e3 := b2.cell 3 (v := .int .u32 0) rfl
  have e4 := b2.cell 4 (v := .slice none 0 0) rfl
  exact bodyPost_ret (v := .tuple #[.agg #[.int .u32 x, .int .u32 0, .int .u32 0, .int .u32 0, .slice none 0 0], .bool false, .bool false]) (by simp [results, Tryd.f78, go_sem, e0, e1, e2, e3, e4]) rfl ⟨rfl, hB⟩

set_option maxRecDepth 100000 in
set_option maxHeartbeats 2000000 in
theorem acc_2more (x a b : Int) (ad : Addr) (c : Nat) (w : World) (o0 : w.cell? ad = some (.int .u32 a)) (o1 : w.cell? ⟨ad.block, ad.off + 1, none⟩ = some (.int .u32 b)) (ha : b = 0) :
    Calls Tryd.prog 78 #[.agg #[.int .u32 x, .int .u32 0, .int .u32 0, .int .u32 0, .slice none 0 0], .slice (some ad) 2 c] w fun e w' => e = .returned (.tuple #[.agg #[.int .u32 x, .int .u32 0, .int .u32 0, .int .u32 0, .slice none 0 0], .bool true, .bool true]) ∧ Below w.heap.size w w' := by
  have b1 := (Blk.new w 26 #[.int .u32 x, .int .u32 0, .int .u32 0, .int .u32 0, .slice none 0 0]).alloc (.cells #[.int .u32 0, .int .u32 0, .int .u32 0, .int .u32 0, .slice none 0 0] 26)
  have b2 := Blk.new (w.alloc (.cells #[.int .u32 x, .int .u32 0, .int .u32 0, .int .u32 0, .slice none 0 0] 26)) 26 #[.int .u32 0, .int .u32 0, .int .u32 0, .int .u32 0, .slice none 0 0]
  have hB : Below w.heap.size w ((w.alloc (.cells #[.int .u32 x, .int .u32 0, .int .u32 0, .int .u32 0, .slice none 0 0] 26)).alloc (.cells #[.int .u32 0, .int .u32 0, .int .u32 0, .int .u32 0, .slice none 0 0] 26)) := ((Below.refl _ w).alloc (Nat.le_refl _) _).alloc (by simp) _
  rw [World.size_alloc] at b2
  go_enter Tryd.func78, Tryd.ntmps78
  go_upto_region 1 with fail
  generalize (w.alloc (.cells #[.int .u32 x, .int .u32 0, .int .u32 0, .int .u32 0, .slice none 0 0] 26)).alloc (.cells #[.int .u32 0, .int .u32 0, .int .u32 0, .int .u32 0, .slice none 0 0] 26) = W0 at *
  have k0 := cell_later hB o0
  have k1 := cell_later hB o1
  have p0 := b1.cell 0 (v := .int .u32 x) rfl
  have p1 := b1.cell 1 (v := .int .u32 0) rfl
  have p2 := b1.cell 2 (v := .int .u32 0) rfl
  have p3 := b1.cell 3 (v := .int .u32 0) rfl
  have p4 := b1.cell 4 (v := .slice none 0 0) rfl
  have f0 := b1.frozen 0
  have f1 := b1.frozen 1
  have f2 := b1.frozen 2
  have f3 := b1.frozen 3
  have f4 := b1.frozen 4
  have z0 := b2.cell 0 (v := .int .u32 0) rfl
  have z1 := b2.cell 1 (v := .int .u32 0) rfl
  have z2 := b2.cell 2 (v := .int .u32 0) rfl
  have z3 := b2.cell 3 (v := .int .u32 0) rfl
  have z4 := b2.cell 4 (v := .slice none 0 0) rfl
  have y0 := b2.frozen 0
  have y1 := b2.frozen 1
  have y2 := b2.frozen 2
  have y3 := b2.frozen 3
  have y4 := b2.frozen 4
  have t0 : (b != 0) = false := by simp [ha]
  clear ha
  go_wp2_with fail
  have b2 := (((((b2.set_ 0 (.int .u32 x)).set_ 1 (.int .u32 0)).set_ 2 (.int .u32 0)).set_ 3 (.int .u32 0)).set_ 4 (.slice none 0 0))
  have hB := (((((hB.setCell (p := ⟨w.heap.size + 1, 0, none⟩) (Nat.le_succ _) (.int .u32 x)).setCell (p := ⟨w.heap.size + 1, 1, none⟩) (Nat.le_succ _) (.int .u32 0)).setCell (p := ⟨w.heap.size + 1, 2, none⟩) (Nat.le_succ _) (.int .u32 0)).setCell (p := ⟨w.heap.size + 1, 3, none⟩) (Nat.le_succ _) (.int .u32 0)).setCell (p := ⟨w.heap.size + 1, 4, none⟩) (Nat.le_succ _) (.slice none 0 0))
  have e0 := b2.cell 0 (v := .int .u32 x) rfl
  have e1 := b2.cell 1 (v := .int .u32 0) rfl
  have e2 := b2.cell 2 (v := .int .u32 0) rfl
  have e3 := b2.cell 3 (v := .int .u32 0) rfl
  have e4 := b2.cell 4 (v := .slice none 0 0) rfl
  exact bodyPost_ret (v := .tuple #[.agg #[.int .u32 x, .int .u32 0, .int .u32 0, .int .u32 0, .slice none 0 0], .bool true, .bool true]) (by simp [results, Tryd.f78, go_sem, e0, e1, e2, e3, e4]) rfl ⟨rfl, hB⟩

set_option maxRecDepth 100000 in
set_option maxHeartbeats 2000000 in
theorem acc_2no (x a b : Int) (ad : Addr) (c : Nat) (w : World) (o0 : w.cell? ad = some (.int .u32 a)) (o1 : w.cell? ⟨ad.block, ad.off + 1, none⟩ = some (.int .u32 b)) (ha : ¬ b = 0) :
    Calls Tryd.prog 78 #[.agg #[.int .u32 x, .int .u32 0, .int .u32 0, .int .u32 0, .slice none 0 0], .slice (some ad) 2 c] w fun e w' => e = .returned (.tuple #[.agg #[.int .u32 x, .int .u32 0, .int .u32 0, .int .u32 0, .slice none 0 0], .bool false, .bool false]) ∧ Below w.heap.size w w' := by
  have b1 := (Blk.new w 26 #[.int .u32 x, .int .u32 0, .int .u32 0, .int .u32 0, .slice none 0 0]).alloc (.cells #[.int .u32 0, .int .u32 0, .int .u32 0, .int .u32 0, .slice none 0 0] 26)
  have b2 := Blk.new (w.alloc (.cells #[.int .u32 x, .int .u32 0, .int .u32 0, .int .u32 0, .slice none 0 0] 26)) 26 #[.int .u32 0, .int .u32 0, .int .u32 0, .int .u32 0, .slice none 0 0]
  have hB : Below w.heap.size w ((w.alloc (.cells #[.int .u32 x, .int .u32 0, .int .u32 0, .int .u32 0, .slice none 0 0] 26)).alloc (.cells #[.int .u32 0, .int .u32 0, .int .u32 0, .int .u32 0, .slice none 0 0] 26)) := ((Below.refl _ w).alloc (Nat.le_refl _) _).alloc (by simp) _
  rw [World.size_alloc] at b2
  go_enter Tryd.func78, Tryd.ntmps78
  go_upto_region 1 with fail
  generalize (w.alloc (.cells #[.int .u32 x, .int .u32 0, .int .u32 0, .int .u32 0, .slice none 0 0] 26)).alloc (.cells #[.int .u32 0, .int .u32 0, .int .u32 0, .int .u32 0, .slice none 0 0] 26) = W0 at *
  have k0 := cell_later hB o0
  have k1 := cell_later hB o1
  have p0 := b1.cell 0 (v := .int .u32 x) rfl
  have p1 := b1.cell 1 (v := .int .u32 0) rfl
  have p2 := b1.cell 2 (v := .int .u32 0) rfl
  have p3 := b1.cell 3 (v := .int .u32 0) rfl
  have p4 := b1.cell 4 (v := .slice none 0 0) rfl
  have f0 := b1.frozen 0
  have f1 := b1.frozen 1
  have f2 := b1.frozen 2
  have f3 := b1.frozen 3
  have f4 := b1.frozen 4
  have z0 := b2.cell 0 (v := .int .u32 0) rfl
  have z1 := b2.cell 1 (v := .int .u32 0) rfl
  have z2 := b2.cell 2 (v := .int .u32 0) rfl
  have z3 := b2.cell 3 (v := .int .u32 0) rfl
  have z4 := b2.cell 4 (v := .slice none 0 0) rfl
  have y0 := b2.frozen 0
  have y1 := b2.frozen 1
  have y2 := b2.frozen 2
  have y3 := b2.frozen 3
  have y4 := b2.frozen 4
  have t0 : (b != 0) = true := by simp [ha]
  clear ha
  go_wp2_with fail
  have b2 := (((((b2.set_ 0 (.int .u32 x)).set_ 1 (.int .u32 0)).set_ 2 (.int .u32 0)).set_ 3 (.int .u32 0)).set_ 4 (.slice none 0 0))
  have hB := (((((hB.setCell (p := ⟨w.heap.size + 1, 0, none⟩) (Nat.le_succ _) (.int .u32 x)).setCell (p := ⟨w.heap.size + 1, 1, none⟩) (Nat.le_succ _) (.int .u32 0)).setCell (p := ⟨w.heap.size + 1, 2, none⟩) (Nat.le_succ _) (.int .u32 0)).setCell (p := ⟨w.heap.size + 1, 3, none⟩) (Nat.le_succ _) (.int .u32 0)).setCell (p := ⟨w.heap.size + 1, 4, none⟩) (Nat.le_succ _) (.slice none 0 0))
  have e0 := b2.cell 0 (v := .int .u32 x) rfl
  have e1 := b2.cell 1 (v := .int .u32 0) rfl
  have e2 := b2.cell 2 (v := .int .u32 0) rfl
  have e3 := b2.cell 3 (v := .int .u32 0) rfl
  have e4 := b2.cell 4 (v := .slice none 0 0) rfl
  exact bodyPost_ret (v := .tuple #[.agg #[.int .u32 x, .int .u32 0, .int .u32 0, .int .u32 0, .slice none 0 0], .bool false, .bool false]) (by simp [results, Tryd.f78, go_sem, e0, e1, e2, e3, e4]) rfl ⟨rfl, hB⟩

set_option maxRecDepth 100000 in
set_option maxHeartbeats 2000000 in
theorem acc_3no (x a b h : Int) (ad : Addr) (c : Nat) (w : World) (o0 : w.cell? ad = some (.int .u32 a)) (o1 : w.cell? ⟨ad.block, ad.off + 1, none⟩ = some (.int .u32 b)) (o2 : w.cell? ⟨ad.block, ad.off + 2, none⟩ = some (.int .u32 h)) (ha : ¬ h = 0) (g4 : 4 < h) :
    Calls Tryd.prog 78 #[.agg #[.int .u32 x, .int .u32 0, .int .u32 0, .int .u32 0, .slice none 0 0], .slice (some ad) 3 c] w fun e w' => e = .returned (.tuple #[.agg #[.int .u32 x, .int .u32 h, .int .u32 0, .int .u32 0, .slice none 0 0], .bool false, .bool false]) ∧ Below w.heap.size w w' := by
  have b1 := (Blk.new w 26 #[.int .u32 x, .int .u32 0, .int .u32 0, .int .u32 0, .slice none 0 0]).alloc (.cells #[.int .u32 0, .int .u32 0, .int .u32 0, .int .u32 0, .slice none 0 0] 26)
  have b2 := Blk.new (w.alloc (.cells #[.int .u32 x, .int .u32 0, .int .u32 0, .int .u32 0, .slice none 0 0] 26)) 26 #[.int .u32 0, .int .u32 0, .int .u32 0, .int .u32 0, .slice none 0 0]
  have hB : Below w.heap.size w ((w.alloc (.cells #[.int .u32 x, .int .u32 0, .int .u32 0, .int .u32 0, .slice none 0 0] 26)).alloc (.cells #[.int .u32 0, .int .u32 0, .int .u32 0, .int .u32 0, .slice none 0 0] 26)) := ((Below.refl _ w).alloc (Nat.le_refl _) _).alloc (by simp) _
  rw [World.size_alloc] at b2
  go_enter Tryd.func78, Tryd.ntmps78
  go_upto_region 1 with fail
  generalize (w.alloc (.cells #[.int .u32 x, .int .u32 0, .int .u32 0, .int .u32 0, .slice none 0 0] 26)).alloc (.cells #[.int .u32 0, .int .u32 0, .int .u32 0, .int .u32 0, .slice none 0 0] 26) = W0 at *
  have k0 := cell_later hB o0
  have k1 := cell_later hB o1
  have k2 := cell_later hB o2
  have p0 := b1.cell 0 (v := .int .u32 x) rfl
  have p1 := b1.cell 1 (v := .int .u32 0) rfl
  have p2 := b1.cell 2 (v := .int .u32 0) rfl
  have p3 := b1.cell 3 (v := .int .u32 0) rfl
  have p4 := b1.cell 4 (v := .slice none 0 0) rfl
  have f0 := b1.frozen 0
  have f1 := b1.frozen 1
  have f2 := b1.frozen 2
  have f3 := b1.frozen 3
  have f4 := b1.frozen 4
  have z0 := b2.cell 0 (v := .int .u32 0) rfl
  have z1 := b2.cell 1 (v := .int .u32 0) rfl
  have z2 := b2.cell 2 (v := .int .u32 0) rfl
  have z3 := b2.cell 3 (v := .int .u32 0) rfl
  have z4 := b2.cell 4 (v := .slice none 0 0) rfl
  have y0 := b2.frozen 0
  have y1 := b2.frozen 1
  have y2 := b2.frozen 2
  have y3 := b2.frozen 3
  have y4 := b2.frozen 4
  have t0 : (h != 0) = true := by simp [ha]
  clear ha
  go_upto_region 7 with fail
  have b2 := b2.far (p := ⟨w.heap.size, 1, none⟩) (by simp) (.int .u32 h)
  have hB := hB.setCell (p := ⟨w.heap.size, 1, none⟩) (Nat.le_refl _) (.int .u32 h)
  have b1 := b1.set_ 1 (.int .u32 h)
  clear k0 k1 k2 p0 p1 p2 p3 p4 f0 f1 f2 f3 f4 z0 z1 z2 z3 z4 y0 y1 y2 y3 y4
  generalize W0.setCell ⟨w.heap.size, 1, none⟩ (.int .u32 h) = W1 at *
  have b1 : Blk W1 w.heap.size 26 #[.int .u32 x, .int .u32 h, .int .u32 0, .int .u32 0, .slice none 0 0] := b1
  have k0 := cell_later hB o0
  have k1 := cell_later hB o1
  have k2 := cell_later hB o2
  have p0 := b1.cell 0 (v := .int .u32 x) rfl
  have p1 := b1.cell 1 (v := .int .u32 h) rfl
  have p2 := b1.cell 2 (v := .int .u32 0) rfl
  have p3 := b1.cell 3 (v := .int .u32 0) rfl
  have p4 := b1.cell 4 (v := .slice none 0 0) rfl
  have f0 := b1.frozen 0
  have f1 := b1.frozen 1
  have f2 := b1.frozen 2
  have f3 := b1.frozen 3
  have f4 := b1.frozen 4
  have z0 := b2.cell 0 (v := .int .u32 0) rfl
  have z1 := b2.cell 1 (v := .int .u32 0) rfl
  have z2 := b2.cell 2 (v := .int .u32 0) rfl
  have z3 := b2.cell 3 (v := .int .u32 0) rfl
  have z4 := b2.cell 4 (v := .slice none 0 0) rfl
  have y0 := b2.frozen 0
  have y1 := b2.frozen 1
  have y2 := b2.frozen 2
  have y3 := b2.frozen 3
  have y4 := b2.frozen 4
  go_wp2_with fail
  have b2 := (((((b2.set_ 0 (.int .u32 x)).set_ 1 (.int .u32 h)).set_ 2 (.int .u32 0)).set_ 3 (.int .u32 0)).set_ 4 (.slice none 0 0))
  have hB := (((((hB.setCell (p := ⟨w.heap.size + 1, 0, none⟩) (Nat.le_succ _) (.int .u32 x)).setCell (p := ⟨w.heap.size + 1, 1, none⟩) (Nat.le_succ _) (.int .u32 h)).setCell (p := ⟨w.heap.size + 1, 2, none⟩) (Nat.le_succ _) (.int .u32 0)).setCell (p := ⟨w.heap.size + 1, 3, none⟩) (Nat.le_succ _) (.int .u32 0)).setCell (p := ⟨w.heap.size + 1, 4, none⟩) (Nat.le_succ _) (.slice none 0 0))
  have e0 := b2.cell 0 (v := .int .u32 x) rfl
  have e1 := b2.cell 1 (v := .int .u32 h) rfl
  have e2 := b2.cell 2 (v := .int .u32 0) rfl
  have e3 := b2.cell 3 (v := .int .u32 0) rfl
  have e4 := b2.cell 4 (v := .slice none 0 0) rfl
  exact bodyPost_ret (v := .tuple #[.agg #[.int .u32 x, .int .u32 h, .int .u32 0, .int .u32 0, .slice none 0 0], .bool false, .bool false]) (by simp [results, Tryd.f78, go_sem, e0, e1, e2, e3, e4]) rfl ⟨rfl, hB⟩

set_option maxRecDepth 100000 in
set_option maxHeartbeats 2000000 in
theorem acc_3zero (x a b : Int) (ad : Addr) (c : Nat) (w : World) (o0 : w.cell? ad = some (.int .u32 a)) (o1 : w.cell? ⟨ad.block, ad.off + 1, none⟩ = some (.int .u32 b)) (o2 : w.cell? ⟨ad.block, ad.off + 2, none⟩ = some (.int .u32 0))  :
    Calls Tryd.prog 78 #[.agg #[.int .u32 x, .int .u32 0, .int .u32 0, .int .u32 0, .slice none 0 0], .slice (some ad) 3 c] w fun e w' => e = .returned (.tuple #[.agg #[.int .u32 x, .int .u32 0, .int .u32 0, .int .u32 0, .slice none 0 0], .bool false, .bool true]) ∧ Below w.heap.size w w' := by
  have b1 := (Blk.new w 26 #[.int .u32 x, .int .u32 0, .int .u32 0, .int .u32 0, .slice none 0 0]).alloc (.cells #[.int .u32 0, .int .u32 0, .int .u32 0, .int .u32 0, .slice none 0 0] 26)
  have b2 := Blk.new (w.alloc (.cells #[.int .u32 x, .int .u32 0, .int .u32 0, .int .u32 0, .slice none 0 0] 26)) 26 #[.int .u32 0, .int .u32 0, .int .u32 0, .int .u32 0, .slice none 0 0]
  have hB : Below w.heap.size w ((w.alloc (.cells #[.int .u32 x, .int .u32 0, .int .u32 0, .int .u32 0, .slice none 0 0] 26)).alloc (.cells #[.int .u32 0, .int .u32 0, .int .u32 0, .int .u32 0, .slice none 0 0] 26)) := ((Below.refl _ w).alloc (Nat.le_refl _) _).alloc (by simp) _
  rw [World.size_alloc] at b2
  go_enter Tryd.func78, Tryd.ntmps78
  go_upto_region 1 with fail
  generalize (w.alloc (.cells #[.int .u32 x, .int .u32 0, .int .u32 0, .int .u32 0, .slice none 0 0] 26)).alloc (.cells #[.int .u32 0, .int .u32 0, .int .u32 0, .int .u32 0, .slice none 0 0] 26) = W0 at *
  have k0 := cell_later hB o0
  have k1 := cell_later hB o1
  have k2 := cell_later hB o2
  have p0 := b1.cell 0 (v := .int .u32 x) rfl
  have p1 := b1.cell 1 (v := .int .u32 0) rfl
  have p2 := b1.cell 2 (v := .int .u32 0) rfl
  have p3 := b1.cell 3 (v := .int .u32 0) rfl
  have p4 := b1.cell 4 (v := .slice none 0 0) rfl
  have f0 := b1.frozen 0
  have f1 := b1.frozen 1
  have f2 := b1.frozen 2
  have f3 := b1.frozen 3
  have f4 := b1.frozen 4
  have z0 := b2.cell 0 (v := .int .u32 0) rfl
  have z1 := b2.cell 1 (v := .int .u32 0) rfl
  have z2 := b2.cell 2 (v := .int .u32 0) rfl
  have z3 := b2.cell 3 (v := .int .u32 0) rfl
  have z4 := b2.cell 4 (v := .slice none 0 0) rfl
  have y0 := b2.frozen 0
  have y1 := b2.frozen 1
  have y2 := b2.frozen 2
  have y3 := b2.frozen 3
  have y4 := b2.frozen 4
  go_upto_region 7 with fail
  have b2 := b2.far (p := ⟨w.heap.size, 1, none⟩) (by simp) (.int .u32 0)
  have hB := hB.setCell (p := ⟨w.heap.size, 1, none⟩) (Nat.le_refl _) (.int .u32 0)
  have b1 := b1.set_ 1 (.int .u32 0)
  clear k0 k1 k2 p0 p1 p2 p3 p4 f0 f1 f2 f3 f4 z0 z1 z2 z3 z4 y0 y1 y2 y3 y4
  generalize W0.setCell ⟨w.heap.size, 1, none⟩ (.int .u32 0) = W1 at *
  have b1 : Blk W1 w.heap.size 26 #[.int .u32 x, .int .u32 0, .int .u32 0, .int .u32 0, .slice none 0 0] := b1
  have k0 := cell_later hB o0
  have k1 := cell_later hB o1
  have k2 := cell_later hB o2
  have p0 := b1.cell 0 (v := .int .u32 x) rfl
  have p1 := b1.cell 1 (v := .int .u32 0) rfl
  have p2 := b1.cell 2 (v := .int .u32 0) rfl
  have p3 := b1.cell 3 (v := .int .u32 0) rfl
  have p4 := b1.cell 4 (v := .slice none 0 0) rfl
  have f0 := b1.frozen 0
  have f1 := b1.frozen 1
  have f2 := b1.frozen 2
  have f3 := b1.frozen 3
  have f4 := b1.frozen 4
  have z0 := b2.cell 0 (v := .int .u32 0) rfl
  have z1 := b2.cell 1 (v := .int .u32 0) rfl
  have z2 := b2.cell 2 (v := .int .u32 0) rfl
  have z3 := b2.cell 3 (v := .int .u32 0) rfl
  have z4 := b2.cell 4 (v := .slice none 0 0) rfl
  have y0 := b2.frozen 0
  have y1 := b2.frozen 1
  have y2 := b2.frozen 2
  have y3 := b2.frozen 3
  have y4 := b2.frozen 4
  go_wp2_with fail
  have b2 := (((((b2.set_ 0 (.int .u32 x)).set_ 1 (.int .u32 0)).set_ 2 (.int .u32 0)).set_ 3 (.int .u32 0)).set_ 4 (.slice none 0 0))
  have hB := (((((hB.setCell (p := ⟨w.heap.size + 1, 0, none⟩) (Nat.le_succ _) (.int .u32 x)).setCell (p := ⟨w.heap.size + 1, 1, none⟩) (Nat.le_succ _) (.int .u32 0)).setCell (p := ⟨w.heap.size + 1, 2, none⟩) (Nat.le_succ _) (.int .u32 0)).setCell (p := ⟨w.heap.size + 1, 3, none⟩) (Nat.le_succ _) (.int .u32 0)).setCell (p := ⟨w.heap.size + 1, 4, none⟩) (Nat.le_succ _) (.slice none 0 0))
  have e0 := b2.cell 0 (v := .int .u32 x) rfl
  have e1 := b2.cell 1 (v := .int .u32 0) rfl
  have e2 := b2.cell 2 (v := .int .u32 0) rfl
  have e3 := b2.cell 3 (v := .int .u32 0) rfl
  have e4 := b2.cell 4 (v := .slice none 0 0) rfl
  exact bodyPost_ret (v := .tuple #[.agg #[.int .u32 x, .int .u32 0, .int .u32 0, .int .u32 0, .slice none 0 0], .bool false, .bool true]) (by simp [results, Tryd.f78, go_sem, e0, e1, e2, e3, e4]) rfl ⟨rfl, hB⟩

set_option maxRecDepth 100000 in
set_option maxHeartbeats 2000000 in
theorem acc_3done (x a b h : Int) (ad : Addr) (c : Nat) (w : World) (o0 : w.cell? ad = some (.int .u32 a)) (o1 : w.cell? ⟨ad.block, ad.off + 1, none⟩ = some (.int .u32 b)) (o2 : w.cell? ⟨ad.block, ad.off + 2, none⟩ = some (.int .u32 h)) (ha : ¬ h = 0) (g4 : ¬ 4 < h) (hb : ¬ h = 2) :
    Calls Tryd.prog 78 #[.agg #[.int .u32 x, .int .u32 0, .int .u32 0, .int .u32 0, .slice none 0 0], .slice (some ad) 3 c] w fun e w' => e = .returned (.tuple #[.agg #[.int .u32 x, .int .u32 h, .int .u32 0, .int .u32 0, .slice none 0 0], .bool false, .bool true]) ∧ Below w.heap.size w w' := by
  have b1 := (Blk.new w 26 #[.int .u32 x, .int .u32 0, .int .u32 0, .int .u32 0, .slice none 0 0]).alloc (.cells #[.int .u32 0, .int .u32 0, .int .u32 0, .int .u32 0, .slice none 0 0] 26)
  have b2 := Blk.new (w.alloc (.cells #[.int .u32 x, .int .u32 0, .int .u32 0, .int .u32 0, .slice none 0 0] 26)) 26 #[.int .u32 0, .int .u32 0, .int .u32 0, .int .u32 0, .slice none 0 0]
  have hB : Below w.heap.size w ((w.alloc (.cells #[.int .u32 x, .int .u32 0, .int .u32 0, .int .u32 0, .slice none 0 0] 26)).alloc (.cells #[.int .u32 0, .int .u32 0, .int .u32 0, .int .u32 0, .slice none 0 0] 26)) := ((Below.refl _ w).alloc (Nat.le_refl _) _).alloc (by simp) _
  rw [World.size_alloc] at b2
  go_enter Tryd.func78, Tryd.ntmps78
  go_upto_region 1 with fail
  generalize (w.alloc (.cells #[.int .u32 x, .int .u32 0, .int .u32 0, .int .u32 0, .slice none 0 0] 26)).alloc (.cells #[.int .u32 0, .int .u32 0, .int .u32 0, .int .u32 0, .slice none 0 0] 26) = W0 at *
  have k0 := cell_later hB o0
  have k1 := cell_later hB o1
  have k2 := cell_later hB o2
  have p0 := b1.cell 0 (v := .int .u32 x) rfl
  have p1 := b1.cell 1 (v := .int .u32 0) rfl
  have p2 := b1.cell 2 (v := .int .u32 0) rfl
  have p3 := b1.cell 3 (v := .int .u32 0) rfl
  have p4 := b1.cell 4 (v := .slice none 0 0) rfl
  have f0 := b1.frozen 0
  have f1 := b1.frozen 1
  have f2 := b1.frozen 2
  have f3 := b1.frozen 3
  have f4 := b1.frozen 4
  have z0 := b2.cell 0 (v := .int .u32 0) rfl
  have z1 := b2.cell 1 (v := .int .u32 0) rfl
  have z2 := b2.cell 2 (v := .int .u32 0) rfl
  have z3 := b2.cell 3 (v := .int .u32 0) rfl
  have z4 := b2.cell 4 (v := .slice none 0 0) rfl
  have y0 := b2.frozen 0
  have y1 := b2.frozen 1
  have y2 := b2.frozen 2
  have y3 := b2.frozen 3
  have y4 := b2.frozen 4
  have t0 : (h != 0) = true := by simp [ha]
  have t1 : (h != 2) = true := by simp [hb]
  clear ha hb
  go_upto_region 7 with fail
  have b2 := b2.far (p := ⟨w.heap.size, 1, none⟩) (by simp) (.int .u32 h)
  have hB := hB.setCell (p := ⟨w.heap.size, 1, none⟩) (Nat.le_refl _) (.int .u32 h)
  have b1 := b1.set_ 1 (.int .u32 h)
  clear k0 k1 k2 p0 p1 p2 p3 p4 f0 f1 f2 f3 f4 z0 z1 z2 z3 z4 y0 y1 y2 y3 y4
  generalize W0.setCell ⟨w.heap.size, 1, none⟩ (.int .u32 h) = W1 at *
  have b1 : Blk W1 w.heap.size 26 #[.int .u32 x, .int .u32 h, .int .u32 0, .int .u32 0, .slice none 0 0] := b1
  have k0 := cell_later hB o0
  have k1 := cell_later hB o1
  have k2 := cell_later hB o2
  have p0 := b1.cell 0 (v := .int .u32 x) rfl
  have p1 := b1.cell 1 (v := .int .u32 h) rfl
  have p2 := b1.cell 2 (v := .int .u32 0) rfl
  have p3 := b1.cell 3 (v := .int .u32 0) rfl
  have p4 := b1.cell 4 (v := .slice none 0 0) rfl
  have f0 := b1.frozen 0
  have f1 := b1.frozen 1
  have f2 := b1.frozen 2
  have f3 := b1.frozen 3
  have f4 := b1.frozen 4
  have z0 := b2.cell 0 (v := .int .u32 0) rfl
  have z1 := b2.cell 1 (v := .int .u32 0) rfl
  have z2 := b2.cell 2 (v := .int .u32 0) rfl
  have z3 := b2.cell 3 (v := .int .u32 0) rfl
  have z4 := b2.cell 4 (v := .slice none 0 0) rfl
  have y0 := b2.frozen 0
  have y1 := b2.frozen 1
  have y2 := b2.frozen 2
  have y3 := b2.frozen 3
  have y4 := b2.frozen 4
  go_wp2_with fail
  have b2 := (((((b2.set_ 0 (.int .u32 x)).set_ 1 (.int .u32 h)).set_ 2 (.int .u32 0)).set_ 3 (.int .u32 0)).set_ 4 (.slice none 0 0))
  have hB := (((((hB.setCell (p := ⟨w.heap.size + 1, 0, none⟩) (Nat.le_succ _) (.int .u32 x)).setCell (p := ⟨w.heap.size + 1, 1, none⟩) (Nat.le_succ _) (.int .u32 h)).setCell (p := ⟨w.heap.size + 1, 2, none⟩) (Nat.le_succ _) (.int .u32 0)).setCell (p := ⟨w.heap.size + 1, 3, none⟩) (Nat.le_succ _) (.int .u32 0)).setCell (p := ⟨w.heap.size + 1, 4, none⟩) (Nat.le_succ _) (.slice none 0 0))
  have e0 := b2.cell 0 (v := .int .u32 x) rfl
  have e1 := b2.cell 1 (v := .int .u32 h) rfl
  have e2 := b2.cell 2 (v := .int .u32 0) rfl
  have e3 := b2.cell 3 (v := .int .u32 0) rfl
  have e4 := b2.cell 4 (v := .slice none 0 0) rfl
  exact bodyPost_ret (v := .tuple #[.agg #[.int .u32 x, .int .u32 h, .int .u32 0, .int .u32 0, .slice none 0 0], .bool false, .bool true]) (by simp [results, Tryd.f78, go_sem, e0, e1, e2, e3, e4]) rfl ⟨rfl, hB⟩

set_option maxRecDepth 100000 in
set_option maxHeartbeats 2000000 in
theorem acc_3more (x a b : Int) (ad : Addr) (c : Nat) (w : World) (o0 : w.cell? ad = some (.int .u32 a)) (o1 : w.cell? ⟨ad.block, ad.off + 1, none⟩ = some (.int .u32 b)) (o2 : w.cell? ⟨ad.block, ad.off + 2, none⟩ = some (.int .u32 2))  :
    Calls Tryd.prog 78 #[.agg #[.int .u32 x, .int .u32 0, .int .u32 0, .int .u32 0, .slice none 0 0], .slice (some ad) 3 c] w fun e w' => e = .returned (.tuple #[.agg #[.int .u32 x, .int .u32 2, .int .u32 0, .int .u32 0, .slice none 0 0], .bool true, .bool true]) ∧ Below w.heap.size w w' := by
  have b1 := (Blk.new w 26 #[.int .u32 x, .int .u32 0, .int .u32 0, .int .u32 0, .slice none 0 0]).alloc (.cells #[.int .u32 0, .int .u32 0, .int .u32 0, .int .u32 0, .slice none 0 0] 26)
  have b2 := Blk.new (w.alloc (.cells #[.int .u32 x, .int .u32 0, .int .u32 0, .int .u32 0, .slice none 0 0] 26)) 26 #[.int .u32 0, .int .u32 0, .int .u32 0, .int .u32 0, .slice none 0 0]
  have hB : Below w.heap.size w ((w.alloc (.cells #[.int .u32 x, .int .u32 0, .int .u32 0, .int .u32 0, .slice none 0 0] 26)).alloc (.cells #[.int .u32 0, .int .u32 0, .int .u32 0, .int .u32 0, .slice none 0 0] 26)) := ((Below.refl _ w).alloc (Nat.le_refl _) _).alloc (by simp) _
  rw [World.size_alloc] at b2
  go_enter Tryd.func78, Tryd.ntmps78
  go_upto_region 1 with fail
  generalize (w.alloc (.cells #[.int .u32 x, .int .u32 0, .int .u32 0, .int .u32 0, .slice none 0 0] 26)).alloc (.cells #[.int .u32 0, .int .u32 0, .int .u32 0, .int .u32 0, .slice none 0 0] 26) = W0 at *
  have k0 := cell_later hB o0
  have k1 := cell_later hB o1
  have k2 := cell_later hB o2
  have p0 := b1.cell 0 (v := .int .u32 x) rfl
  have p1 := b1.cell 1 (v := .int .u32 0) rfl
  have p2 := b1.cell 2 (v := .int .u32 0) rfl
  have p3 := b1.cell 3 (v := .int .u32 0) rfl
  have p4 := b1.cell 4 (v := .slice none 0 0) rfl
  have f0 := b1.frozen 0
  have f1 := b1.frozen 1
  have f2 := b1.frozen 2
  have f3 := b1.frozen 3
  have f4 := b1.frozen 4
  have z0 := b2.cell 0 (v := .int .u32 0) rfl
  have z1 := b2.cell 1 (v := .int .u32 0) rfl
  have z2 := b2.cell 2 (v := .int .u32 0) rfl
  have z3 := b2.cell 3 (v := .int .u32 0) rfl
  have z4 := b2.cell 4 (v := .slice none 0 0) rfl
  have y0 := b2.frozen 0
  have y1 := b2.frozen 1
  have y2 := b2.frozen 2
  have y3 := b2.frozen 3
  have y4 := b2.frozen 4
  go_upto_region 7 with fail
  have b2 := b2.far (p := ⟨w.heap.size, 1, none⟩) (by simp) (.int .u32 2)
  have hB := hB.setCell (p := ⟨w.heap.size, 1, none⟩) (Nat.le_refl _) (.int .u32 2)
  have b1 := b1.set_ 1 (.int .u32 2)
  clear k0 k1 k2 p0 p1 p2 p3 p4 f0 f1 f2 f3 f4 z0 z1 z2 z3 z4 y0 y1 y2 y3 y4
  generalize W0.setCell ⟨w.heap.size, 1, none⟩ (.int .u32 2) = W1 at *
  have b1 : Blk W1 w.heap.size 26 #[.int .u32 x, .int .u32 2, .int .u32 0, .int .u32 0, .slice none 0 0] := b1
  have k0 := cell_later hB o0
  have k1 := cell_later hB o1
  have k2 := cell_later hB o2
  have p0 := b1.cell 0 (v := .int .u32 x) rfl
  have p1 := b1.cell 1 (v := .int .u32 2) rfl
  have p2 := b1.cell 2 (v := .int .u32 0) rfl
  have p3 := b1.cell 3 (v := .int .u32 0) rfl
  have p4 := b1.cell 4 (v := .slice none 0 0) rfl
  have f0 := b1.frozen 0
  have f1 := b1.frozen 1
  have f2 := b1.frozen 2
  have f3 := b1.frozen 3
  have f4 := b1.frozen 4
  have z0 := b2.cell 0 (v := .int .u32 0) rfl
  have z1 := b2.cell 1 (v := .int .u32 0) rfl
  have z2 := b2.cell 2 (v := .int .u32 0) rfl
  have z3 := b2.cell 3 (v := .int .u32 0) rfl
  have z4 := b2.cell 4 (v := .slice none 0 0) rfl
  have y0 := b2.frozen 0
  have y1 := b2.frozen 1
  have y2 := b2.frozen 2
  have y3 := b2.frozen 3
  have y4 := b2.frozen 4
  go_wp2_with fail
  have b2 := (((((b2.set_ 0 (.int .u32 x)).set_ 1 (.int .u32 2)).set_ 2 (.int .u32 0)).set_ 3 (.int .u32 0)).set_ 4 (.slice none 0 0))
  have hB := (((((hB.setCell (p := ⟨w.heap.size + 1, 0, none⟩) (Nat.le_succ _) (.int .u32 x)).setCell (p := ⟨w.heap.size + 1, 1, none⟩) (Nat.le_succ _) (.int .u32 2)).setCell (p := ⟨w.heap.size + 1, 2, none⟩) (Nat.le_succ _) (.int .u32 0)).setCell (p := ⟨w.heap.size + 1, 3, none⟩) (Nat.le_succ _) (.int .u32 0)).setCell (p := ⟨w.heap.size + 1, 4, none⟩) (Nat.le_succ _) (.slice none 0 0))
  have e0 := b2.cell 0 (v := .int .u32 x) rfl
  have e1 := b2.cell 1 (v := .int .u32 2) rfl
  have e2 := b2.cell 2 (v := .int .u32 0) rfl
  have e3 := b2.cell 3 (v := .int .u32 0) rfl
  have e4 := b2.cell 4 (v := .slice none 0 0) rfl
  exact bodyPost_ret (v := .tuple #[.agg #[.int .u32 x, .int .u32 2, .int .u32 0, .int .u32 0, .slice none 0 0], .bool true, .bool true]) (by simp [results, Tryd.f78, go_sem, e0, e1, e2, e3, e4]) rfl ⟨rfl, hB⟩

set_option maxRecDepth 100000 in
set_option maxHeartbeats 2000000 in
theorem acc_4morez (x a b lo : Int) (ad : Addr) (c : Nat) (w : World) (o0 : w.cell? ad = some (.int .u32 a)) (o1 : w.cell? ⟨ad.block, ad.off + 1, none⟩ = some (.int .u32 b)) (o2 : w.cell? ⟨ad.block, ad.off + 2, none⟩ = some (.int .u32 2)) (o3 : w.cell? ⟨ad.block, ad.off + 3, none⟩ = some (.int .u32 lo)) (ha : lo = 0) :
    Calls Tryd.prog 78 #[.agg #[.int .u32 x, .int .u32 0, .int .u32 0, .int .u32 0, .slice none 0 0], .slice (some ad) 4 c] w fun e w' => e = .returned (.tuple #[.agg #[.int .u32 x, .int .u32 2, .int .u32 0, .int .u32 0, .slice none 0 0], .bool true, .bool true]) ∧ Below w.heap.size w w' := by
  have b1 := (Blk.new w 26 #[.int .u32 x, .int .u32 0, .int .u32 0, .int .u32 0, .slice none 0 0]).alloc (.cells #[.int .u32 0, .int .u32 0, .int .u32 0, .int .u32 0, .slice none 0 0] 26)
  have b2 := Blk.new (w.alloc (.cells #[.int .u32 x, .int .u32 0, .int .u32 0, .int .u32 0, .slice none 0 0] 26)) 26 #[.int .u32 0, .int .u32 0, .int .u32 0, .int .u32 0, .slice none 0 0]
  have hB : Below w.heap.size w ((w.alloc (.cells #[.int .u32 x, .int .u32 0, .int .u32 0, .int .u32 0, .slice none 0 0] 26)).alloc (.cells #[.int .u32 0, .int .u32 0, .int .u32 0, .int .u32 0, .slice none 0 0] 26)) := ((Below.refl _ w).alloc (Nat.le_refl _) _).alloc (by simp) _
  rw [World.size_alloc] at b2
  go_enter Tryd.func78, Tryd.ntmps78
  go_upto_region 1 with fail
  generalize (w.alloc (.cells #[.int .u32 x, .int .u32 0, .int .u32 0, .int .u32 0, .slice none 0 0] 26)).alloc (.cells #[.int .u32 0, .int .u32 0, .int .u32 0, .int .u32 0, .slice none 0 0] 26) = W0 at *
  have k0 := cell_later hB o0
  have k1 := cell_later hB o1
  have k2 := cell_later hB o2
  have k3 := cell_later hB o3
  have p0 := b1.cell 0 (v := .int .u32 x) rfl
  have p1 := b1.cell 1 (v := .int .u32 0) rfl
  have p2 := b1.cell 2 (v := .int .u32 0) rfl
  have p3 := b1.cell 3 (v := .int .u32 0) rfl
  have p4 := b1.cell 4 (v := .slice none 0 0) rfl
  have f0 := b1.frozen 0
  have f1 := b1.frozen 1
  have f2 := b1.frozen 2
  have f3 := b1.frozen 3
  have f4 := b1.frozen 4
  have z0 := b2.cell 0 (v := .int .u32 0) rfl
  have z1 := b2.cell 1 (v := .int .u32 0) rfl
  have z2 := b2.cell 2 (v := .int .u32 0) rfl
  have z3 := b2.cell 3 (v := .int .u32 0) rfl
  have z4 := b2.cell 4 (v := .slice none 0 0) rfl
  have y0 := b2.frozen 0
  have y1 := b2.frozen 1
  have y2 := b2.frozen 2
  have y3 := b2.frozen 3
  have y4 := b2.frozen 4
  have t0 : (lo != 0) = false := by simp [ha]
  clear ha
  go_upto_region 7 with fail
  have b2 := b2.far (p := ⟨w.heap.size, 1, none⟩) (by simp) (.int .u32 2)
  have hB := hB.setCell (p := ⟨w.heap.size, 1, none⟩) (Nat.le_refl _) (.int .u32 2)
  have b1 := b1.set_ 1 (.int .u32 2)
  clear k0 k1 k2 k3 p0 p1 p2 p3 p4 f0 f1 f2 f3 f4 z0 z1 z2 z3 z4 y0 y1 y2 y3 y4
  generalize W0.setCell ⟨w.heap.size, 1, none⟩ (.int .u32 2) = W1 at *
  have b1 : Blk W1 w.heap.size 26 #[.int .u32 x, .int .u32 2, .int .u32 0, .int .u32 0, .slice none 0 0] := b1
  have k0 := cell_later hB o0
  have k1 := cell_later hB o1
  have k2 := cell_later hB o2
  have k3 := cell_later hB o3
  have p0 := b1.cell 0 (v := .int .u32 x) rfl
  have p1 := b1.cell 1 (v := .int .u32 2) rfl
  have p2 := b1.cell 2 (v := .int .u32 0) rfl
  have p3 := b1.cell 3 (v := .int .u32 0) rfl
  have p4 := b1.cell 4 (v := .slice none 0 0) rfl
  have f0 := b1.frozen 0
  have f1 := b1.frozen 1
  have f2 := b1.frozen 2
  have f3 := b1.frozen 3
  have f4 := b1.frozen 4
  have z0 := b2.cell 0 (v := .int .u32 0) rfl
  have z1 := b2.cell 1 (v := .int .u32 0) rfl
  have z2 := b2.cell 2 (v := .int .u32 0) rfl
  have z3 := b2.cell 3 (v := .int .u32 0) rfl
  have z4 := b2.cell 4 (v := .slice none 0 0) rfl
  have y0 := b2.frozen 0
  have y1 := b2.frozen 1
  have y2 := b2.frozen 2
  have y3 := b2.frozen 3
  have y4 := b2.frozen 4
  go_wp2_with fail
  have b2 := (((((b2.set_ 0 (.int .u32 x)).set_ 1 (.int .u32 2)).set_ 2 (.int .u32 0)).set_ 3 (.int .u32 0)).set_ 4 (.slice none 0 0))
  have hB := (((((hB.setCell (p := ⟨w.heap.size + 1, 0, none⟩) (Nat.le_succ _) (.int .u32 x)).setCell (p := ⟨w.heap.size + 1, 1, none⟩) (Nat.le_succ _) (.int .u32 2)).setCell (p := ⟨w.heap.size + 1, 2, none⟩) (Nat.le_succ _) (.int .u32 0)).setCell (p := ⟨w.heap.size + 1, 3, none⟩) (Nat.le_succ _) (.int .u32 0)).setCell (p := ⟨w.heap.size + 1, 4, none⟩) (Nat.le_succ _) (.slice none 0 0))
  have e0 := b2.cell 0 (v := .int .u32 x) rfl
  have e1 := b2.cell 1 (v := .int .u32 2) rfl
  have e2 := b2.cell 2 (v := .int .u32 0) rfl
  have e3 := b2.cell 3 (v := .int .u32 0) rfl
  have e4 := b2.cell 4 (v := .slice none 0 0) rfl
  exact bodyPost_ret (v := .tuple #[.agg #[.int .u32 x, .int .u32 2, .int .u32 0, .int .u32 0, .slice none 0 0], .bool true, .bool true]) (by simp [results, Tryd.f78, go_sem, e0, e1, e2, e3, e4]) rfl ⟨rfl, hB⟩

set_option maxRecDepth 100000 in
set_option maxHeartbeats 2000000 in
theorem acc_5donez (x a b lo hi : Int) (ad : Addr) (c : Nat) (w : World) (o0 : w.cell? ad = some (.int .u32 a)) (o1 : w.cell? ⟨ad.block, ad.off + 1, none⟩ = some (.int .u32 b)) (o2 : w.cell? ⟨ad.block, ad.off + 2, none⟩ = some (.int .u32 2)) (o3 : w.cell? ⟨ad.block, ad.off + 3, none⟩ = some (.int .u32 lo)) (o4 : w.cell? ⟨ad.block, ad.off + 4, none⟩ = some (.int .u32 hi)) (ha : hi = 0) :
    Calls Tryd.prog 78 #[.agg #[.int .u32 x, .int .u32 0, .int .u32 0, .int .u32 0, .slice none 0 0], .slice (some ad) 5 c] w fun e w' => e = .returned (.tuple #[.agg #[.int .u32 x, .int .u32 2, .int .u32 lo, .int .u32 hi, .slice none 0 0], .bool false, .bool true]) ∧ Below w.heap.size w w' := by
  have b1 := (Blk.new w 26 #[.int .u32 x, .int .u32 0, .int .u32 0, .int .u32 0, .slice none 0 0]).alloc (.cells #[.int .u32 0, .int .u32 0, .int .u32 0, .int .u32 0, .slice none 0 0] 26)
  have b2 := Blk.new (w.alloc (.cells #[.int .u32 x, .int .u32 0, .int .u32 0, .int .u32 0, .slice none 0 0] 26)) 26 #[.int .u32 0, .int .u32 0, .int .u32 0, .int .u32 0, .slice none 0 0]
  have hB : Below w.heap.size w ((w.alloc (.cells #[.int .u32 x, .int .u32 0, .int .u32 0, .int .u32 0, .slice none 0 0] 26)).alloc (.cells #[.int .u32 0, .int .u32 0, .int .u32 0, .int .u32 0, .slice none 0 0] 26)) := ((Below.refl _ w).alloc (Nat.le_refl _) _).alloc (by simp) _
  rw [World.size_alloc] at b2
  go_enter Tryd.func78, Tryd.ntmps78
  go_upto_region 1 with fail
  generalize (w.alloc (.cells #[.int .u32 x, .int .u32 0, .int .u32 0, .int .u32 0, .slice none 0 0] 26)).alloc (.cells #[.int .u32 0, .int .u32 0, .int .u32 0, .int .u32 0, .slice none 0 0] 26) = W0 at *
  have k0 := cell_later hB o0
  have k1 := cell_later hB o1
  have k2 := cell_later hB o2
  have k3 := cell_later hB o3
  have k4 := cell_later hB o4
  have p0 := b1.cell 0 (v := .int .u32 x) rfl
  have p1 := b1.cell 1 (v := .int .u32 0) rfl
  have p2 := b1.cell 2 (v := .int .u32 0) rfl
  have p3 := b1.cell 3 (v := .int .u32 0) rfl
  have p4 := b1.cell 4 (v := .slice none 0 0) rfl
  have f0 := b1.frozen 0
  have f1 := b1.frozen 1
  have f2 := b1.frozen 2
  have f3 := b1.frozen 3
  have f4 := b1.frozen 4
  have z0 := b2.cell 0 (v := .int .u32 0) rfl
  have z1 := b2.cell 1 (v := .int .u32 0) rfl
  have z2 := b2.cell 2 (v := .int .u32 0) rfl
  have z3 := b2.cell 3 (v := .int .u32 0) rfl
  have z4 := b2.cell 4 (v := .slice none 0 0) rfl
  have y0 := b2.frozen 0
  have y1 := b2.frozen 1
  have y2 := b2.frozen 2
  have y3 := b2.frozen 3
  have y4 := b2.frozen 4
  have t0 : (hi != 0) = false := by simp [ha]
  clear ha
  go_upto_region 7 with fail
  have b2 := b2.far (p := ⟨w.heap.size, 1, none⟩) (by simp) (.int .u32 2)
  have hB := hB.setCell (p := ⟨w.heap.size, 1, none⟩) (Nat.le_refl _) (.int .u32 2)
  have b1 := b1.set_ 1 (.int .u32 2)
  clear k0 k1 k2 k3 k4 p0 p1 p2 p3 p4 f0 f1 f2 f3 f4 z0 z1 z2 z3 z4 y0 y1 y2 y3 y4
  generalize W0.setCell ⟨w.heap.size, 1, none⟩ (.int .u32 2) = W1 at *
  have b1 : Blk W1 w.heap.size 26 #[.int .u32 x, .int .u32 2, .int .u32 0, .int .u32 0, .slice none 0 0] := b1
  have k0 := cell_later hB o0
  have k1 := cell_later hB o1
  have k2 := cell_later hB o2
  have k3 := cell_later hB o3
  have k4 := cell_later hB o4
  have p0 := b1.cell 0 (v := .int .u32 x) rfl
  have p1 := b1.cell 1 (v := .int .u32 2) rfl
  have p2 := b1.cell 2 (v := .int .u32 0) rfl
  have p3 := b1.cell 3 (v := .int .u32 0) rfl
  have p4 := b1.cell 4 (v := .slice none 0 0) rfl
  have f0 := b1.frozen 0
  have f1 := b1.frozen 1
  have f2 := b1.frozen 2
  have f3 := b1.frozen 3
  have f4 := b1.frozen 4
  have z0 := b2.cell 0 (v := .int .u32 0) rfl
  have z1 := b2.cell 1 (v := .int .u32 0) rfl
  have z2 := b2.cell 2 (v := .int .u32 0) rfl
  have z3 := b2.cell 3 (v := .int .u32 0) rfl
  have z4 := b2.cell 4 (v := .slice none 0 0) rfl
  have y0 := b2.frozen 0
  have y1 := b2.frozen 1
  have y2 := b2.frozen 2
  have y3 := b2.frozen 3
  have y4 := b2.frozen 4
  go_upto_region 14 with fail
  have b2 := b2.far (p := ⟨w.heap.size, 2, none⟩) (by simp) (.int .u32 lo)
  have hB := hB.setCell (p := ⟨w.heap.size, 2, none⟩) (Nat.le_refl _) (.int .u32 lo)
  have b1 := b1.set_ 2 (.int .u32 lo)
  clear k0 k1 k2 k3 k4 p0 p1 p2 p3 p4 f0 f1 f2 f3 f4 z0 z1 z2 z3 z4 y0 y1 y2 y3 y4
  generalize W1.setCell ⟨w.heap.size, 2, none⟩ (.int .u32 lo) = W2 at *
  have b1 : Blk W2 w.heap.size 26 #[.int .u32 x, .int .u32 2, .int .u32 lo, .int .u32 0, .slice none 0 0] := b1
  have k0 := cell_later hB o0
  have k1 := cell_later hB o1
  have k2 := cell_later hB o2
  have k3 := cell_later hB o3
  have k4 := cell_later hB o4
  have p0 := b1.cell 0 (v := .int .u32 x) rfl
  have p1 := b1.cell 1 (v := .int .u32 2) rfl
  have p2 := b1.cell 2 (v := .int .u32 lo) rfl
  have p3 := b1.cell 3 (v := .int .u32 0) rfl
  have p4 := b1.cell 4 (v := .slice none 0 0) rfl
  have f0 := b1.frozen 0
  have f1 := b1.frozen 1
  have f2 := b1.frozen 2
  have f3 := b1.frozen 3
  have f4 := b1.frozen 4
  have z0 := b2.cell 0 (v := .int .u32 0) rfl
  have z1 := b2.cell 1 (v := .int .u32 0) rfl
  have z2 := b2.cell 2 (v := .int .u32 0) rfl
  have z3 := b2.cell 3 (v := .int .u32 0) rfl
  have z4 := b2.cell 4 (v := .slice none 0 0) rfl
  have y0 := b2.frozen 0
  have y1 := b2.frozen 1
  have y2 := b2.frozen 2
  have y3 := b2.frozen 3
  have y4 := b2.frozen 4
  go_upto_region 15 with fail
  have b2 := b2.far (p := ⟨w.heap.size, 3, none⟩) (by simp) (.int .u32 hi)
  have hB := hB.setCell (p := ⟨w.heap.size, 3, none⟩) (Nat.le_refl _) (.int .u32 hi)
  have b1 := b1.set_ 3 (.int .u32 hi)
  clear k0 k1 k2 k3 k4 p0 p1 p2 p3 p4 f0 f1 f2 f3 f4 z0 z1 z2 z3 z4 y0 y1 y2 y3 y4
  generalize W2.setCell ⟨w.heap.size, 3, none⟩ (.int .u32 hi) = W3 at *
  have b1 : Blk W3 w.heap.size 26 #[.int .u32 x, .int .u32 2, .int .u32 lo, .int .u32 hi, .slice none 0 0] := b1
  have k0 := cell_later hB o0
  have k1 := cell_later hB o1
  have k2 := cell_later hB o2
  have k3 := cell_later hB o3
  have k4 := cell_later hB o4
  have p0 := b1.cell 0 (v := .int .u32 x) rfl
  have p1 := b1.cell 1 (v := .int .u32 2) rfl
  have p2 := b1.cell 2 (v := .int .u32 lo) rfl
  have p3 := b1.cell 3 (v := .int .u32 hi) rfl
  have p4 := b1.cell 4 (v := .slice none 0 0) rfl
  have f0 := b1.frozen 0
  have f1 := b1.frozen 1
  have f2 := b1.frozen 2
  have f3 := b1.frozen 3
  have f4 := b1.frozen 4
  have z0 := b2.cell 0 (v := .int .u32 0) rfl
  have z1 := b2.cell 1 (v := .int .u32 0) rfl
  have z2 := b2.cell 2 (v := .int .u32 0) rfl
  have z3 := b2.cell 3 (v := .int .u32 0) rfl
  have z4 := b2.cell 4 (v := .slice none 0 0) rfl
  have y0 := b2.frozen 0
  have y1 := b2.frozen 1
  have y2 := b2.frozen 2
  have y3 := b2.frozen 3
  have y4 := b2.frozen 4
  go_wp2_with fail
  have b2 := (((((b2.set_ 0 (.int .u32 x)).set_ 1 (.int .u32 2)).set_ 2 (.int .u32 lo)).set_ 3 (.int .u32 hi)).set_ 4 (.slice none 0 0))
  have hB := (((((hB.setCell (p := ⟨w.heap.size + 1, 0, none⟩) (Nat.le_succ _) (.int .u32 x)).setCell (p := ⟨w.heap.size + 1, 1, none⟩) (Nat.le_succ _) (.int .u32 2)).setCell (p := ⟨w.heap.size + 1, 2, none⟩) (Nat.le_succ _) (.int .u32 lo)).setCell (p := ⟨w.heap.size + 1, 3, none⟩) (Nat.le_succ _) (.int .u32 hi)).setCell (p := ⟨w.heap.size + 1, 4, none⟩) (Nat.le_succ _) (.slice none 0 0))
  have e0 := b2.cell 0 (v := .int .u32 x) rfl
  have e1 := b2.cell 1 (v := .int .u32 2) rfl
  have e2 := b2.cell 2 (v := .int .u32 lo) rfl
  have e3 := b2.cell 3 (v := .int .u32 hi) rfl
  have e4 := b2.cell 4 (v := .slice none 0 0) rfl
  exact bodyPost_ret (v := .tuple #[.agg #[.int .u32 x, .int .u32 2, .int .u32 lo, .int .u32 hi, .slice none 0 0], .bool false, .bool true]) (by simp [results, Tryd.f78, go_sem, e0, e1, e2, e3, e4]) rfl ⟨rfl, hB⟩

set_option maxRecDepth 100000 in
set_option maxHeartbeats 2000000 in
theorem acc_4moren (x a b lo : Int) (ad : Addr) (c : Nat) (w : World) (o0 : w.cell? ad = some (.int .u32 a)) (o1 : w.cell? ⟨ad.block, ad.off + 1, none⟩ = some (.int .u32 b)) (o2 : w.cell? ⟨ad.block, ad.off + 2, none⟩ = some (.int .u32 2)) (o3 : w.cell? ⟨ad.block, ad.off + 3, none⟩ = some (.int .u32 lo)) (ha : ¬ lo = 0) :
    Calls Tryd.prog 78 #[.agg #[.int .u32 x, .int .u32 0, .int .u32 0, .int .u32 0, .slice none 0 0], .slice (some ad) 4 c] w fun e w' => e = .returned (.tuple #[.agg #[.int .u32 x, .int .u32 2, .int .u32 0, .int .u32 0, .slice none 0 0], .bool true, .bool true]) ∧ Below w.heap.size w w' := by
  have b1 := (Blk.new w 26 #[.int .u32 x, .int .u32 0, .int .u32 0, .int .u32 0, .slice none 0 0]).alloc (.cells #[.int .u32 0, .int .u32 0, .int .u32 0, .int .u32 0, .slice none 0 0] 26)
  have b2 := Blk.new (w.alloc (.cells #[.int .u32 x, .int .u32 0, .int .u32 0, .int .u32 0, .slice none 0 0] 26)) 26 #[.int .u32 0, .int .u32 0, .int .u32 0, .int .u32 0, .slice none 0 0]
  have hB : Below w.heap.size w ((w.alloc (.cells #[.int .u32 x, .int .u32 0, .int .u32 0, .int .u32 0, .slice none 0 0] 26)).alloc (.cells #[.int .u32 0, .int .u32 0, .int .u32 0, .int .u32 0, .slice none 0 0] 26)) := ((Below.refl _ w).alloc (Nat.le_refl _) _).alloc (by simp) _
  rw [World.size_alloc] at b2
  go_enter Tryd.func78, Tryd.ntmps78
  go_upto_region 1 with fail
  generalize (w.alloc (.cells #[.int .u32 x, .int .u32 0, .int .u32 0, .int .u32 0, .slice none 0 0] 26)).alloc (.cells #[.int .u32 0, .int .u32 0, .int .u32 0, .int .u32 0, .slice none 0 0] 26) = W0 at *
  have k0 := cell_later hB o0
  have k1 := cell_later hB o1
  have k2 := cell_later hB o2
  have k3 := cell_later hB o3
  have p0 := b1.cell 0 (v := .int .u32 x) rfl
  have p1 := b1.cell 1 (v := .int .u32 0) rfl
  have p2 := b1.cell 2 (v := .int .u32 0) rfl
  have p3 := b1.cell 3 (v := .int .u32 0) rfl
  have p4 := b1.cell 4 (v := .slice none 0 0) rfl
  have f0 := b1.frozen 0
  have f1 := b1.frozen 1
  have f2 := b1.frozen 2
  have f3 := b1.frozen 3
  have f4 := b1.frozen 4
  have z0 := b2.cell 0 (v := .int .u32 0) rfl
  have z1 := b2.cell 1 (v := .int .u32 0) rfl
  have z2 := b2.cell 2 (v := .int .u32 0) rfl
  have z3 := b2.cell 3 (v := .int .u32 0) rfl
  have z4 := b2.cell 4 (v := .slice none 0 0) rfl
  have y0 := b2.frozen 0
  have y1 := b2.frozen 1
  have y2 := b2.frozen 2
  have y3 := b2.frozen 3
  have y4 := b2.frozen 4
  have t0 : (lo != 0) = true := by simp [ha]
  clear ha
  go_upto_region 7 with fail
  have b2 := b2.far (p := ⟨w.heap.size, 1, none⟩) (by simp) (.int .u32 2)
  have hB := hB.setCell (p := ⟨w.heap.size, 1, none⟩) (Nat.le_refl _) (.int .u32 2)
  have b1 := b1.set_ 1 (.int .u32 2)
  clear k0 k1 k2 k3 p0 p1 p2 p3 p4 f0 f1 f2 f3 f4 z0 z1 z2 z3 z4 y0 y1 y2 y3 y4
  generalize W0.setCell ⟨w.heap.size, 1, none⟩ (.int .u32 2) = W1 at *
  have b1 : Blk W1 w.heap.size 26 #[.int .u32 x, .int .u32 2, .int .u32 0, .int .u32 0, .slice none 0 0] := b1
  have k0 := cell_later hB o0
  have k1 := cell_later hB o1
  have k2 := cell_later hB o2
  have k3 := cell_later hB o3
  have p0 := b1.cell 0 (v := .int .u32 x) rfl
  have p1 := b1.cell 1 (v := .int .u32 2) rfl
  have p2 := b1.cell 2 (v := .int .u32 0) rfl
  have p3 := b1.cell 3 (v := .int .u32 0) rfl
  have p4 := b1.cell 4 (v := .slice none 0 0) rfl
  have f0 := b1.frozen 0
  have f1 := b1.frozen 1
  have f2 := b1.frozen 2
  have f3 := b1.frozen 3
  have f4 := b1.frozen 4
  have z0 := b2.cell 0 (v := .int .u32 0) rfl
  have z1 := b2.cell 1 (v := .int .u32 0) rfl
  have z2 := b2.cell 2 (v := .int .u32 0) rfl
  have z3 := b2.cell 3 (v := .int .u32 0) rfl
  have z4 := b2.cell 4 (v := .slice none 0 0) rfl
  have y0 := b2.frozen 0
  have y1 := b2.frozen 1
  have y2 := b2.frozen 2
  have y3 := b2.frozen 3
  have y4 := b2.frozen 4
  go_wp2_with fail
  have b2 := (((((b2.set_ 0 (.int .u32 x)).set_ 1 (.int .u32 2)).set_ 2 (.int .u32 0)).set_ 3 (.int .u32 0)).set_ 4 (.slice none 0 0))
  have hB := (((((hB.setCell (p := ⟨w.heap.size + 1, 0, none⟩) (Nat.le_succ _) (.int .u32 x)).setCell (p := ⟨w.heap.size + 1, 1, none⟩) (Nat.le_succ _) (.int .u32 2)).setCell (p := ⟨w.heap.size + 1, 2, none⟩) (Nat.le_succ _) (.int .u32 0)).setCell (p := ⟨w.heap.size + 1, 3, none⟩) (Nat.le_succ _) (.int .u32 0)).setCell (p := ⟨w.heap.size + 1, 4, none⟩) (Nat.le_succ _) (.slice none 0 0))
  have e0 := b2.cell 0 (v := .int .u32 x) rfl
  have e1 := b2.cell 1 (v := .int .u32 2) rfl
  have e2 := b2.cell 2 (v := .int .u32 0) rfl
  have e3 := b2.cell 3 (v := .int .u32 0) rfl
  have e4 := b2.cell 4 (v := .slice none 0 0) rfl
  exact bodyPost_ret (v := .tuple #[.agg #[.int .u32 x, .int .u32 2, .int .u32 0, .int .u32 0, .slice none 0 0], .bool true, .bool true]) (by simp [results, Tryd.f78, go_sem, e0, e1, e2, e3, e4]) rfl ⟨rfl, hB⟩

set_option maxRecDepth 100000 in
set_option maxHeartbeats 2000000 in
theorem acc_5donen (x a b lo hi : Int) (ad : Addr) (c : Nat) (w : World) (o0 : w.cell? ad = some (.int .u32 a)) (o1 : w.cell? ⟨ad.block, ad.off + 1, none⟩ = some (.int .u32 b)) (o2 : w.cell? ⟨ad.block, ad.off + 2, none⟩ = some (.int .u32 2)) (o3 : w.cell? ⟨ad.block, ad.off + 3, none⟩ = some (.int .u32 lo)) (o4 : w.cell? ⟨ad.block, ad.off + 4, none⟩ = some (.int .u32 hi)) (ha : ¬ hi = 0) :
    Calls Tryd.prog 78 #[.agg #[.int .u32 x, .int .u32 0, .int .u32 0, .int .u32 0, .slice none 0 0], .slice (some ad) 5 c] w fun e w' => e = .returned (.tuple #[.agg #[.int .u32 x, .int .u32 2, .int .u32 lo, .int .u32 hi, .slice none 0 0], .bool false, .bool true]) ∧ Below w.heap.size w w' := by
  have b1 := (Blk.new w 26 #[.int .u32 x, .int .u32 0, .int .u32 0, .int .u32 0, .slice none 0 0]).alloc (.cells #[.int .u32 0, .int .u32 0, .int .u32 0, .int .u32 0, .slice none 0 0] 26)
  have b2 := Blk.new (w.alloc (.cells #[.int .u32 x, .int .u32 0, .int .u32 0, .int .u32 0, .slice none 0 0] 26)) 26 #[.int .u32 0, .int .u32 0, .int .u32 0, .int .u32 0, .slice none 0 0]
  have hB : Below w.heap.size w ((w.alloc (.cells #[.int .u32 x, .int .u32 0, .int .u32 0, .int .u32 0, .slice none 0 0] 26)).alloc (.cells #[.int .u32 0, .int .u32 0, .int .u32 0, .int .u32 0, .slice none 0 0] 26)) := ((Below.refl _ w).alloc (Nat.le_refl _) _).alloc (by simp) _
  rw [World.size_alloc] at b2
  go_enter Tryd.func78, Tryd.ntmps78
  go_upto_region 1 with fail
  generalize (w.alloc (.cells #[.int .u32 x, .int .u32 0, .int .u32 0, .int .u32 0, .slice none 0 0] 26)).alloc (.cells #[.int .u32 0, .int .u32 0, .int .u32 0, .int .u32 0, .slice none 0 0] 26) = W0 at *
  have k0 := cell_later hB o0
  have k1 := cell_later hB o1
  have k2 := cell_later hB o2
  have k3 := cell_later hB o3
  have k4 := cell_later hB o4
  have p0 := b1.cell 0 (v := .int .u32 x) rfl
  have p1 := b1.cell 1 (v := .int .u32 0) rfl
  have p2 := b1.cell 2 (v := .int .u32 0) rfl
  have p3 := b1.cell 3 (v := .int .u32 0) rfl
  have p4 := b1.cell 4 (v := .slice none 0 0) rfl
  have f0 := b1.frozen 0
  have f1 := b1.frozen 1
  have f2 := b1.frozen 2
  have f3 := b1.frozen 3
  have f4 := b1.frozen 4
  have z0 := b2.cell 0 (v := .int .u32 0) rfl
  have z1 := b2.cell 1 (v := .int .u32 0) rfl
  have z2 := b2.cell 2 (v := .int .u32 0) rfl
  have z3 := b2.cell 3 (v := .int .u32 0) rfl
  have z4 := b2.cell 4 (v := .slice none 0 0) rfl
  have y0 := b2.frozen 0
  have y1 := b2.frozen 1
  have y2 := b2.frozen 2
  have y3 := b2.frozen 3
  have y4 := b2.frozen 4
  have t0 : (hi != 0) = true := by simp [ha]
  clear ha
  go_upto_region 7 with fail
  have b2 := b2.far (p := ⟨w.heap.size, 1, none⟩) (by simp) (.int .u32 2)
  have hB := hB.setCell (p := ⟨w.heap.size, 1, none⟩) (Nat.le_refl _) (.int .u32 2)
  have b1 := b1.set_ 1 (.int .u32 2)
  clear k0 k1 k2 k3 k4 p0 p1 p2 p3 p4 f0 f1 f2 f3 f4 z0 z1 z2 z3 z4 y0 y1 y2 y3 y4
  generalize W0.setCell ⟨w.heap.size, 1, none⟩ (.int .u32 2) = W1 at *
  have b1 : Blk W1 w.heap.size 26 #[.int .u32 x, .int .u32 2, .int .u32 0, .int .u32 0, .slice none 0 0] := b1
  have k0 := cell_later hB o0
  have k1 := cell_later hB o1
  have k2 := cell_later hB o2
  have k3 := cell_later hB o3
  have k4 := cell_later hB o4
  have p0 := b1.cell 0 (v := .int .u32 x) rfl
  have p1 := b1.cell 1 (v := .int .u32 2) rfl
  have p2 := b1.cell 2 (v := .int .u32 0) rfl
  have p3 := b1.cell 3 (v := .int .u32 0) rfl
  have p4 := b1.cell 4 (v := .slice none 0 0) rfl
  have f0 := b1.frozen 0
  have f1 := b1.frozen 1
  have f2 := b1.frozen 2
  have f3 := b1.frozen 3
  have f4 := b1.frozen 4
  have z0 := b2.cell 0 (v := .int .u32 0) rfl
  have z1 := b2.cell 1 (v := .int .u32 0) rfl
  have z2 := b2.cell 2 (v := .int .u32 0) rfl
  have z3 := b2.cell 3 (v := .int .u32 0) rfl
  have z4 := b2.cell 4 (v := .slice none 0 0) rfl
  have y0 := b2.frozen 0
  have y1 := b2.frozen 1
  have y2 := b2.frozen 2
  have y3 := b2.frozen 3
  have y4 := b2.frozen 4
  go_upto_region 14 with fail
  have b2 := b2.far (p := ⟨w.heap.size, 2, none⟩) (by simp) (.int .u32 lo)
  have hB := hB.setCell (p := ⟨w.heap.size, 2, none⟩) (Nat.le_refl _) (.int .u32 lo)
  have b1 := b1.set_ 2 (.int .u32 lo)
  clear k0 k1 k2 k3 k4 p0 p1 p2 p3 p4 f0 f1 f2 f3 f4 z0 z1 z2 z3 z4 y0 y1 y2 y3 y4
  generalize W1.setCell ⟨w.heap.size, 2, none⟩ (.int .u32 lo) = W2 at *
  have b1 : Blk W2 w.heap.size 26 #[.int .u32 x, .int .u32 2, .int .u32 lo, .int .u32 0, .slice none 0 0] := b1
  have k0 := cell_later hB o0
  have k1 := cell_later hB o1
  have k2 := cell_later hB o2
  have k3 := cell_later hB o3
  have k4 := cell_later hB o4
  have p0 := b1.cell 0 (v := .int .u32 x) rfl
  have p1 := b1.cell 1 (v := .int .u32 2) rfl
  have p2 := b1.cell 2 (v := .int .u32 lo) rfl
  have p3 := b1.cell 3 (v := .int .u32 0) rfl
  have p4 := b1.cell 4 (v := .slice none 0 0) rfl
  have f0 := b1.frozen 0
  have f1 := b1.frozen 1
  have f2 := b1.frozen 2
  have f3 := b1.frozen 3
  have f4 := b1.frozen 4
  have z0 := b2.cell 0 (v := .int .u32 0) rfl
  have z1 := b2.cell 1 (v := .int .u32 0) rfl
  have z2 := b2.cell 2 (v := .int .u32 0) rfl
  have z3 := b2.cell 3 (v := .int .u32 0) rfl
  have z4 := b2.cell 4 (v := .slice none 0 0) rfl
  have y0 := b2.frozen 0
  have y1 := b2.frozen 1
  have y2 := b2.frozen 2
  have y3 := b2.frozen 3
  have y4 := b2.frozen 4
  go_upto_region 15 with fail
  have b2 := b2.far (p := ⟨w.heap.size, 3, none⟩) (by simp) (.int .u32 hi)
  have hB := hB.setCell (p := ⟨w.heap.size, 3, none⟩) (Nat.le_refl _) (.int .u32 hi)
  have b1 := b1.set_ 3 (.int .u32 hi)
  clear k0 k1 k2 k3 k4 p0 p1 p2 p3 p4 f0 f1 f2 f3 f4 z0 z1 z2 z3 z4 y0 y1 y2 y3 y4
  generalize W2.setCell ⟨w.heap.size, 3, none⟩ (.int .u32 hi) = W3 at *
  have b1 : Blk W3 w.heap.size 26 #[.int .u32 x, .int .u32 2, .int .u32 lo, .int .u32 hi, .slice none 0 0] := b1
  have k0 := cell_later hB o0
  have k1 := cell_later hB o1
  have k2 := cell_later hB o2
  have k3 := cell_later hB o3
  have k4 := cell_later hB o4
  have p0 := b1.cell 0 (v := .int .u32 x) rfl
  have p1 := b1.cell 1 (v := .int .u32 2) rfl
  have p2 := b1.cell 2 (v := .int .u32 lo) rfl
  have p3 := b1.cell 3 (v := .int .u32 hi) rfl
  have p4 := b1.cell 4 (v := .slice none 0 0) rfl
  have f0 := b1.frozen 0
  have f1 := b1.frozen 1
  have f2 := b1.frozen 2
  have f3 := b1.frozen 3
  have f4 := b1.frozen 4
  have z0 := b2.cell 0 (v := .int .u32 0) rfl
  have z1 := b2.cell 1 (v := .int .u32 0) rfl
  have z2 := b2.cell 2 (v := .int .u32 0) rfl
  have z3 := b2.cell 3 (v := .int .u32 0) rfl
  have z4 := b2.cell 4 (v := .slice none 0 0) rfl
  have y0 := b2.frozen 0
  have y1 := b2.frozen 1
  have y2 := b2.frozen 2
  have y3 := b2.frozen 3
  have y4 := b2.frozen 4
  go_wp2_with fail
  have b2 := (((((b2.set_ 0 (.int .u32 x)).set_ 1 (.int .u32 2)).set_ 2 (.int .u32 lo)).set_ 3 (.int .u32 hi)).set_ 4 (.slice none 0 0))
  have hB := (((((hB.setCell (p := ⟨w.heap.size + 1, 0, none⟩) (Nat.le_succ _) (.int .u32 x)).setCell (p := ⟨w.heap.size + 1, 1, none⟩) (Nat.le_succ _) (.int .u32 2)).setCell (p := ⟨w.heap.size + 1, 2, none⟩) (Nat.le_succ _) (.int .u32 lo)).setCell (p := ⟨w.heap.size + 1, 3, none⟩) (Nat.le_succ _) (.int .u32 hi)).setCell (p := ⟨w.heap.size + 1, 4, none⟩) (Nat.le_succ _) (.slice none 0 0))
  have e0 := b2.cell 0 (v := .int .u32 x) rfl
  have e1 := b2.cell 1 (v := .int .u32 2) rfl
  have e2 := b2.cell 2 (v := .int .u32 lo) rfl
  have e3 := b2.cell 3 (v := .int .u32 hi) rfl
  have e4 := b2.cell 4 (v := .slice none 0 0) rfl
  exact bodyPost_ret (v := .tuple #[.agg #[.int .u32 x, .int .u32 2, .int .u32 lo, .int .u32 hi, .slice none 0 0], .bool false, .bool true]) (by simp [results, Tryd.f78, go_sem, e0, e1, e2, e3, e4]) rfl ⟨rfl, hB⟩

set_option maxRecDepth 100000 in
set_option maxHeartbeats 2000000 in
theorem den_1no (x a : Int) (ad : Addr) (c : Nat) (w : World) (o0 : w.cell? ad = some (.int .u32 a)) (g1 : 1 < a) :
    Calls Tryd.prog 77 #[.agg #[.int .u32 x, .int .u32 0, .int .u32 0, .int .u32 0, .slice none 0 0], .slice (some ad) 1 c] w fun e w' => e = .returned (.tuple #[.agg #[.int .u32 x, .int .u32 0, .int .u32 0, .int .u32 0, .slice none 0 0], .bool false, .bool false]) ∧ Below w.heap.size w w' := by
  have b1 := (Blk.new w 26 #[.int .u32 x, .int .u32 0, .int .u32 0, .int .u32 0, .slice none 0 0]).alloc (.cells #[.int .u32 0, .int .u32 0, .int .u32 0, .int .u32 0, .slice none 0 0] 26)
  have b2 := Blk.new (w.alloc (.cells #[.int .u32 x, .int .u32 0, .int .u32 0, .int .u32 0, .slice none 0 0] 26)) 26 #[.int .u32 0, .int .u32 0, .int .u32 0, .int .u32 0, .slice none 0 0]
  have hB : Below w.heap.size w ((w.alloc (.cells #[.int .u32 x, .int .u32 0, .int .u32 0, .int .u32 0, .slice none 0 0] 26)).alloc (.cells #[.int .u32 0, .int .u32 0, .int .u32 0, .int .u32 0, .slice none 0 0] 26)) := ((Below.refl _ w).alloc (Nat.le_refl _) _).alloc (by simp) _
  rw [World.size_alloc] at b2
  go_enter Tryd.func77, Tryd.ntmps77
  go_upto_region 1 with fail
  generalize (w.alloc (.cells #[.int .u32 x, .int .u32 0, .int .u32 0, .int .u32 0, .slice none 0 0] 26)).alloc (.cells #[.int .u32 0, .int .u32 0, .int .u32 0, .int .u32 0, .slice none 0 0] 26) = W0 at *
  have k0 := cell_later hB o0
  have p0 := b1.cell 0 (v := .int .u32 x) rfl
  have p1 := b1.cell 1 (v := .int .u32 0) rfl
  have p2 := b1.cell 2 (v := .int .u32 0) rfl
  have p3 := b1.cell 3 (v := .int .u32 0) rfl
  have p4 := b1.cell 4 (v := .slice none 0 0) rfl
  have f0 := b1.frozen 0
  have f1 := b1.frozen 1
  have f2 := b1.frozen 2
  have f3 := b1.frozen 3
  have f4 := b1.frozen 4
  have z0 := b2.cell 0 (v := .int .u32 0) rfl
  have z1 := b2.cell 1 (v := .int .u32 0) rfl
  have z2 := b2.cell 2 (v := .int .u32 0) rfl
  have z3 := b2.cell 3 (v := .int .u32 0) rfl
  have z4 := b2.cell 4 (v := .slice none 0 0) rfl
  have y0 := b2.frozen 0
  have y1 := b2.frozen 1
  have y2 := b2.frozen 2
  have y3 := b2.frozen 3
  have y4 := b2.frozen 4
  go_wp2_with fail
  have b2 := (((((b2.set_ 0 (.int .u32 x)).set_ 1 (.int .u32 0)).set_ 2 (.int .u32 0)).set_ 3 (.int .u32 0)).set_ 4 (.slice none 0 0))
  have hB := (((((hB.setCell (p := ⟨w.heap.size + 1, 0, none⟩) (Nat.le_succ _) (.int .u32 x)).setCell (p := ⟨w.heap.size + 1, 1, none⟩) (Nat.le_succ _) (.int .u32 0)).setCell (p := ⟨w.heap.size + 1, 2, none⟩) (Nat.le_succ _) (.int .u32 0)).setCell (p := ⟨w.heap.size + 1, 3, none⟩) (Nat.le_succ _) (.int .u32 0)).setCell (p := ⟨w.heap.size + 1, 4, none⟩) (Nat.le_succ _) (.slice none 0 0))
  have e0 := b2.cell 0 (v := .int .u32 x) rfl
  have e1 := b2.cell 1 (v := .int .u32 0) rfl
  have e2 := b2.cell 2 (v := .int .u32 0) rfl
  have e3 := b2.cell 3 (v := .int .u32 0) rfl
  have e4 := b2.cell 4 (v := .slice none 0 0) rfl
  exact bodyPost_ret (v := .tuple #[.agg #[.int .u32 x, .int .u32 0, .int .u32 0, .int .u32 0, .slice none 0 0], .bool false, .bool false]) (by simp [results, Tryd.f77, go_sem, e0, e1, e2, e3, e4]) rfl ⟨rfl, hB⟩

set_option maxRecDepth 100000 in
set_option maxHeartbeats 2000000 in
theorem den_1more (x a : Int) (ad : Addr) (c : Nat) (w : World) (o0 : w.cell? ad = some (.int .u32 a)) (g1 : ¬ 1 < a) :
    Calls Tryd.prog 77 #[.agg #[.int .u32 x, .int .u32 0, .int .u32 0, .int .u32 0, .slice none 0 0], .slice (some ad) 1 c] w fun e w' => e = .returned (.tuple #[.agg #[.int .u32 x, .int .u32 0, .int .u32 0, .int .u32 0, .slice none 0 0], .bool true, .bool true]) ∧ Below w.heap.size w w' := by
  have b1 := (Blk.new w 26 #[.int .u32 x, .int .u32 0, .int .u32 0, .int .u32 0, .slice none 0 0]).alloc (.cells #[.int .u32 0, .int .u32 0, .int .u32 0, .int .u32 0, .slice none 0 0] 26)
  have b2 := Blk.new (w.alloc (.cells #[.int .u32 x, .int .u32 0, .int .u32 0, .int .u32 0, .slice none 0 0] 26)) 26 #[.int .u32 0, .int .u32 0, .int .u32 0, .int .u32 0, .slice none 0 0]
  have hB : Below w.heap.size w ((w.alloc (.cells #[.int .u32 x, .int .u32 0, .int .u32 0, .int .u32 0, .slice none 0 0] 26)).alloc (.cells #[.int .u32 0, .int .u32 0, .int .u32 0, .int .u32 0, .slice none 0 0] 26)) := ((Below.refl _ w).alloc (Nat.le_refl _) _).alloc (by simp) _
  rw [World.size_alloc] at b2
  go_enter Tryd.func77, Tryd.ntmps77
  go_upto_region 1 with fail
  generalize (w.alloc (.cells #[.int .u32 x, .int .u32 0, .int .u32 0, .int .u32 0, .slice none 0 0] 26)).alloc (.cells #[.int .u32 0, .int .u32 0, .int .u32 0, .int .u32 0, .slice none 0 0] 26) = W0 at *
  have k0 := cell_later hB o0
  have p0 := b1.cell 0 (v := .int .u32 x) rfl
  have p1 := b1.cell 1 (v := .int .u32 0) rfl
  have p2 := b1.cell 2 (v := .int .u32 0) rfl
  have p3 := b1.cell 3 (v := .int .u32 0) rfl
  have p4 := b1.cell 4 (v := .slice none 0 0) rfl
  have f0 := b1.frozen 0
  have f1 := b1.frozen 1
  have f2 := b1.frozen 2
  have f3 := b1.frozen 3
  have f4 := b1.frozen 4
  have z0 := b2.cell 0 (v := .int .u32 0) rfl
  have z1 := b2.cell 1 (v := .int .u32 0) rfl
  have z2 := b2.cell 2 (v := .int .u32 0) rfl
  have z3 := b2.cell 3 (v := .int .u32 0) rfl
  have z4 := b2.cell 4 (v := .slice none 0 0) rfl
  have y0 := b2.frozen 0
  have y1 := b2.frozen 1
  have y2 := b2.frozen 2
  have y3 := b2.frozen 3
  have y4 := b2.frozen 4
  go_wp2_with fail
  have b2 := (((((b2.set_ 0 (.int .u32 x)).set_ 1 (.int .u32 0)).set_ 2 (.int .u32 0)).set_ 3 (.int .u32 0)).set_ 4 (.slice none 0 0))
  have hB := (((((hB.setCell (p := ⟨w.heap.size + 1, 0, none⟩) (Nat.le_succ _) (.int .u32 x)).setCell (p := ⟨w.heap.size + 1, 1, none⟩) (Nat.le_succ _) (.int .u32 0)).setCell (p := ⟨w.heap.size + 1, 2, none⟩) (Nat.le_succ _) (.int .u32 0)).setCell (p := ⟨w.heap.size + 1, 3, none⟩) (Nat.le_succ _) (.int .u32 0)).setCell (p := ⟨w.heap.size + 1, 4, none⟩) (Nat.le_succ _) (.slice none 0 0))
  have e0 := b2.cell 0 (v := .int .u32 x) rfl
  have e1 := b2.cell 1 (v := .int .u32 0) rfl
  have e2 := b2.cell 2 (v := .int .u32 0) rfl
  have e3 := b2.cell 3 (v := .int .u32 0) rfl
  have e4 := b2.cell 4 (v := .slice none 0 0) rfl
  exact bodyPost_ret (v := .tuple #[.agg #[.int .u32 x, .int .u32 0, .int .u32 0, .int .u32 0, .slice none 0 0], .bool true, .bool true]) (by simp [results, Tryd.f77, go_sem, e0, e1, e2, e3, e4]) rfl ⟨rfl, hB⟩

set_option maxRecDepth 100000 in
set_option maxHeartbeats 2000000 in
theorem den_why (x b : Int) (ad : Addr) (c : Nat) (w : World) (o0 : w.cell? ad = some (.int .u32 1)) (o1 : w.cell? ⟨ad.block, ad.off + 1, none⟩ = some (.int .u32 b)) (g1 : 1 ≤ b) (g2 : b ≤ 7) :
    Calls Tryd.prog 77 #[.agg #[.int .u32 x, .int .u32 0, .int .u32 0, .int .u32 0, .slice none 0 0], .slice (some ad) 2 c] w fun e w' => e = .returned (.tuple #[.agg #[.int .u32 x, .int .u32 101, .int .u32 b, .int .u32 0, .slice none 0 0], .bool false, .bool true]) ∧ Below w.heap.size w w' := by
  have b1 := (Blk.new w 26 #[.int .u32 x, .int .u32 0, .int .u32 0, .int .u32 0, .slice none 0 0]).alloc (.cells #[.int .u32 0, .int .u32 0, .int .u32 0, .int .u32 0, .slice none 0 0] 26)
  have b2 := Blk.new (w.alloc (.cells #[.int .u32 x, .int .u32 0, .int .u32 0, .int .u32 0, .slice none 0 0] 26)) 26 #[.int .u32 0, .int .u32 0, .int .u32 0, .int .u32 0, .slice none 0 0]
  have hB : Below w.heap.size w ((w.alloc (.cells #[.int .u32 x, .int .u32 0, .int .u32 0, .int .u32 0, .slice none 0 0] 26)).alloc (.cells #[.int .u32 0, .int .u32 0, .int .u32 0, .int .u32 0, .slice none 0 0] 26)) := ((Below.refl _ w).alloc (Nat.le_refl _) _).alloc (by simp) _
  rw [World.size_alloc] at b2
  go_enter Tryd.func77, Tryd.ntmps77
  go_upto_region 1 with fail
  generalize (w.alloc (.cells #[.int .u32 x, .int .u32 0, .int .u32 0, .int .u32 0, .slice none 0 0] 26)).alloc (.cells #[.int .u32 0, .int .u32 0, .int .u32 0, .int .u32 0, .slice none 0 0] 26) = W0 at *
  have k0 := cell_later hB o0
  have k1 := cell_later hB o1
  have p0 := b1.cell 0 (v := .int .u32 x) rfl
  have p1 := b1.cell 1 (v := .int .u32 0) rfl
  have p2 := b1.cell 2 (v := .int .u32 0) rfl
  have p3 := b1.cell 3 (v := .int .u32 0) rfl
  have p4 := b1.cell 4 (v := .slice none 0 0) rfl
  have f0 := b1.frozen 0
  have f1 := b1.frozen 1
  have f2 := b1.frozen 2
  have f3 := b1.frozen 3
  have f4 := b1.frozen 4
  have z0 := b2.cell 0 (v := .int .u32 0) rfl
  have z1 := b2.cell 1 (v := .int .u32 0) rfl
  have z2 := b2.cell 2 (v := .int .u32 0) rfl
  have z3 := b2.cell 3 (v := .int .u32 0) rfl
  have z4 := b2.cell 4 (v := .slice none 0 0) rfl
  have y0 := b2.frozen 0
  have y1 := b2.frozen 1
  have y2 := b2.frozen 2
  have y3 := b2.frozen 3
  have y4 := b2.frozen 4
  go_upto_region 7 with fail
  have b2 := b2.far (p := ⟨w.heap.size, 2, none⟩) (by simp) (.int .u32 b)
  have hB := hB.setCell (p := ⟨w.heap.size, 2, none⟩) (Nat.le_refl _) (.int .u32 b)
  have b1 := b1.set_ 2 (.int .u32 b)
  clear k0 k1 p0 p1 p2 p3 p4 f0 f1 f2 f3 f4 z0 z1 z2 z3 z4 y0 y1 y2 y3 y4
  generalize W0.setCell ⟨w.heap.size, 2, none⟩ (.int .u32 b) = W1 at *
  have b1 : Blk W1 w.heap.size 26 #[.int .u32 x, .int .u32 0, .int .u32 b, .int .u32 0, .slice none 0 0] := b1
  have k0 := cell_later hB o0
  have k1 := cell_later hB o1
  have p0 := b1.cell 0 (v := .int .u32 x) rfl
  have p1 := b1.cell 1 (v := .int .u32 0) rfl
  have p2 := b1.cell 2 (v := .int .u32 b) rfl
  have p3 := b1.cell 3 (v := .int .u32 0) rfl
  have p4 := b1.cell 4 (v := .slice none 0 0) rfl
  have f0 := b1.frozen 0
  have f1 := b1.frozen 1
  have f2 := b1.frozen 2
  have f3 := b1.frozen 3
  have f4 := b1.frozen 4
  have z0 := b2.cell 0 (v := .int .u32 0) rfl
  have z1 := b2.cell 1 (v := .int .u32 0) rfl
  have z2 := b2.cell 2 (v := .int .u32 0) rfl
  have z3 := b2.cell 3 (v := .int .u32 0) rfl
  have z4 := b2.cell 4 (v := .slice none 0 0) rfl
  have y0 := b2.frozen 0
  have y1 := b2.frozen 1
  have y2 := b2.frozen 2
  have y3 := b2.frozen 3
  have y4 := b2.frozen 4
  go_upto_region 9 with fail
  have b2 := b2.far (p := ⟨w.heap.size, 1, none⟩) (by simp) (.int .u32 101)
  have hB := hB.setCell (p := ⟨w.heap.size, 1, none⟩) (Nat.le_refl _) (.int .u32 101)
  have b1 := b1.set_ 1 (.int .u32 101)
  clear k0 k1 p0 p1 p2 p3 p4 f0 f1 f2 f3 f4 z0 z1 z2 z3 z4 y0 y1 y2 y3 y4
  generalize W1.setCell ⟨w.heap.size, 1, none⟩ (.int .u32 101) = W2 at *
  have b1 : Blk W2 w.heap.size 26 #[.int .u32 x, .int .u32 101, .int .u32 b, .int .u32 0, .slice none 0 0] := b1
  have k0 := cell_later hB o0
  have k1 := cell_later hB o1
  have p0 := b1.cell 0 (v := .int .u32 x) rfl
  have p1 := b1.cell 1 (v := .int .u32 101) rfl
  have p2 := b1.cell 2 (v := .int .u32 b) rfl
  have p3 := b1.cell 3 (v := .int .u32 0) rfl
  have p4 := b1.cell 4 (v := .slice none 0 0) rfl
  have f0 := b1.frozen 0
  have f1 := b1.frozen 1
  have f2 := b1.frozen 2
  have f3 := b1.frozen 3
  have f4 := b1.frozen 4
  have z0 := b2.cell 0 (v := .int .u32 0) rfl
  have z1 := b2.cell 1 (v := .int .u32 0) rfl
  have z2 := b2.cell 2 (v := .int .u32 0) rfl
  have z3 := b2.cell 3 (v := .int .u32 0) rfl
  have z4 := b2.cell 4 (v := .slice none 0 0) rfl
  have y0 := b2.frozen 0
  have y1 := b2.frozen 1
  have y2 := b2.frozen 2
  have y3 := b2.frozen 3
  have y4 := b2.frozen 4
  go_upto_region 9 with fail
  have hd := below_drawn (w := W2) (w1 := W2.drew) (n := 1) rfl
  have b1 : Blk W2.drew _ _ _ := b1
  have b2 : Blk W2.drew _ _ _ := b2
  have hB := below_then hB hd
  have k0 := cell_later hB o0
  have k1 := cell_later hB o1
  have p0 := b1.cell 0 (v := .int .u32 x) rfl
  have p1 := b1.cell 1 (v := .int .u32 101) rfl
  have p2 := b1.cell 2 (v := .int .u32 b) rfl
  have p3 := b1.cell 3 (v := .int .u32 0) rfl
  have p4 := b1.cell 4 (v := .slice none 0 0) rfl
  clear hd f0 f1 f2 f3 f4 z0 z1 z2 z3 z4 y0 y1 y2 y3 y4
  refine start_ (n := 14) (S := fun w' => w'.cell? ⟨w.heap.size, 0, none⟩ = some (.int .u32 x) ∧ w'.cell? ⟨w.heap.size, 1, none⟩ = some (.int .u32 101) ∧ w'.cell? ⟨w.heap.size, 2, none⟩ = some (.int .u32 b) ∧ w'.cell? ⟨w.heap.size, 3, none⟩ = some (.int .u32 0) ∧ w'.cell? ⟨w.heap.size, 4, none⟩ = some (.slice none 0 0) ∧ w'.cell? ⟨ad.block, ad.off + 1, none⟩ = some (.int .u32 b)) (ds := []) #[false, false, false, false, false, false, false, false, false, false, false, false, false, false] (by kernel_rfl) rfl rfl ⟨p0, p1, p2, p3, p4, k1⟩ (fun hHeld => ?_)
  refine pure_ (i := 1) (N := some 28) (v := ?_) (a' := ?_) #[false, true, false, false, false, false, false, false, false, false, false, false, false, false] rfl rfl (by kernel_rfl) (fun _ _ _ h => h) (Or.inl ⟨by rfl, ?_⟩) ?_ ?_
  rotate_left
  · intro w'
    go_simp
    with_reducible rfl
  rotate_left
  · simp only [Act.put, List.setIfInBounds_toArray, List.set_cons_zero, List.set_cons_succ, i64_w, i32_w]
    rfl
  refine pure_ (i := 2) (N := some 29) (v := ?_) (a' := ?_) #[false, true, true, false, false, false, false, false, false, false, false, false, false, false] rfl rfl (by kernel_rfl) (fun _ _ _ h => h) (Or.inl ⟨by rfl, ?_⟩) ?_ ?_
  rotate_left
  · intro w'
    go_simp
    with_reducible rfl
  rotate_left
  · simp only [Act.put, List.setIfInBounds_toArray, List.set_cons_zero, List.set_cons_succ, i64_w, i32_w]
    rfl
  refine take_ (i := 0) (N := some 27) (v := ?_) (a' := ?_) #[true, true, true, false, false, false, false, false, false, false, false, false, false, false] rfl rfl (by kernel_rfl) (fun _ _ _ h => h) (Or.inl ⟨by rfl, ?_⟩) hHeld ?_ ?_
  rotate_left
  · rintro w' ⟨s0, s1, s2, s3, s4, s5⟩
    go_simp
    with_reducible rfl
  rotate_left
  · simp only [Act.put, List.setIfInBounds_toArray, List.set_cons_zero, List.set_cons_succ, i64_w, i32_w]
    rfl
  refine take_ (i := 3) (N := some 30) (v := ?_) (a' := ?_) #[true, true, true, true, false, false, false, false, false, false, false, false, false, false] rfl rfl (by kernel_rfl) (fun _ _ _ h => h) (Or.inl ⟨by rfl, ?_⟩) hHeld ?_ ?_
  rotate_left
  · rintro w' ⟨s0, s1, s2, s3, s4, s5⟩
    go_simp
    with_reducible rfl
  rotate_left
  · simp only [Act.put, List.setIfInBounds_toArray, List.set_cons_zero, List.set_cons_succ, i64_w, i32_w]
    rfl
  refine pure_ (i := 4) (N := some 31) (v := ?_) (a' := ?_) #[true, true, true, true, true, false, false, false, false, false, false, false, false, false] rfl rfl (by kernel_rfl) (fun _ _ _ h => h) (Or.inl ⟨by rfl, ?_⟩) ?_ ?_
  rotate_left
  · intro w'
    go_simp
    with_reducible rfl
  rotate_left
  · simp only [Act.put, List.setIfInBounds_toArray, List.set_cons_zero, List.set_cons_succ, i64_w, i32_w]
    rfl
  refine pure_ (i := 5) (N := some 32) (v := ?_) (a' := ?_) #[true, true, true, true, true, true, false, false, false, false, false, false, false, false] rfl rfl (by kernel_rfl) (fun _ _ _ h => h) (Or.inl ⟨by rfl, ?_⟩) ?_ ?_
  rotate_left
  · intro w'
    go_simp
    with_reducible rfl
  rotate_left
  · simp only [Act.put, List.setIfInBounds_toArray, List.set_cons_zero, List.set_cons_succ, i64_w, i32_w]
    rfl
  refine pure_ (i := 6) (N := some 33) (v := ?_) (a' := ?_) #[true, true, true, true, true, true, true, false, false, false, false, false, false, false] rfl rfl (by kernel_rfl) (fun _ _ _ h => h) (Or.inl ⟨by rfl, ?_⟩) ?_ ?_
  rotate_left
  · intro w'
    go_simp
    with_reducible rfl
  rotate_left
  · simp only [Act.put, List.setIfInBounds_toArray, List.set_cons_zero, List.set_cons_succ, i64_w, i32_w]
    rfl
  refine pure_ (i := 7) (N := some 34) (v := ?_) (a' := ?_) #[true, true, true, true, true, true, true, true, false, false, false, false, false, false] rfl rfl (by kernel_rfl) (fun _ _ _ h => h) (Or.inl ⟨by rfl, ?_⟩) ?_ ?_
  rotate_left
  · intro w'
    go_simp
    with_reducible rfl
  rotate_left
  · simp only [Act.put, List.setIfInBounds_toArray, List.set_cons_zero, List.set_cons_succ, i64_w, i32_w]
    rfl
  refine take_ (i := 8) (N := some 35) (v := ?_) (a' := ?_) #[true, true, true, true, true, true, true, true, true, false, false, false, false, false] rfl rfl (by kernel_rfl) (fun _ _ _ h => h) (Or.inl ⟨by rfl, ?_⟩) hHeld ?_ ?_
  rotate_left
  · rintro w' ⟨s0, s1, s2, s3, s4, s5⟩
    go_simp
    with_reducible rfl
  rotate_left
  · simp only [Act.put, List.setIfInBounds_toArray, List.set_cons_zero, List.set_cons_succ, i64_w, i32_w]
    rfl
  refine pure_ (i := 9) (N := some 36) (v := ?_) (a' := ?_) #[true, true, true, true, true, true, true, true, true, true, false, false, false, false] rfl rfl (by kernel_rfl) (fun _ _ _ h => h) (Or.inl ⟨by rfl, ?_⟩) ?_ ?_
  rotate_left
  · intro w'
    go_simp
    with_reducible rfl
  rotate_left
  · simp only [Act.put, List.setIfInBounds_toArray, List.set_cons_zero, List.set_cons_succ, i64_w, i32_w]
    rfl
  refine pure_ (i := 10) (N := some 37) (v := ?_) (a' := ?_) #[true, true, true, true, true, true, true, true, true, true, true, false, false, false] rfl rfl (by kernel_rfl) (fun _ _ _ h => h) (Or.inl ⟨by rfl, ?_⟩) ?_ ?_
  rotate_left
  · intro w'
    go_simp
    with_reducible rfl
  rotate_left
  · simp only [Act.put, List.setIfInBounds_toArray, List.set_cons_zero, List.set_cons_succ, i64_w, i32_w]
    rfl
  refine one_ (i := 11) (N := none) #[true, true, true, true, true, true, true, true, true, true, true, true, false, false] rfl rfl (by kernel_rfl) (by decide) (fun K hK => ?_)
  generalize W2.drew = Wd at *
  have z0 := b2.cell 0 (v := .int .u32 0) rfl
  have z1 := b2.cell 1 (v := .int .u32 0) rfl
  have z2 := b2.cell 2 (v := .int .u32 0) rfl
  have z3 := b2.cell 3 (v := .int .u32 0) rfl
  have z4 := b2.cell 4 (v := .slice none 0 0) rfl
  have y0 := b2.frozen 0
  have y1 := b2.frozen 1
  have y2 := b2.frozen 2
  have y3 := b2.frozen 3
  have y4 := b2.frozen 4
  refine skip_ (w1 := ?_) (by rfl) rfl ?_ ?_
  rotate_left
  · go_simp
    rfl
  have b2 := (((((b2.set_ 0 (.int .u32 x)).set_ 1 (.int .u32 101)).set_ 2 (.int .u32 b)).set_ 3 (.int .u32 0)).set_ 4 (.slice none 0 0))
  have hB := (((((hB.setCell (p := ⟨w.heap.size + 1, 0, none⟩) (Nat.le_succ _) (.int .u32 x)).setCell (p := ⟨w.heap.size + 1, 1, none⟩) (Nat.le_succ _) (.int .u32 101)).setCell (p := ⟨w.heap.size + 1, 2, none⟩) (Nat.le_succ _) (.int .u32 b)).setCell (p := ⟨w.heap.size + 1, 3, none⟩) (Nat.le_succ _) (.int .u32 0)).setCell (p := ⟨w.heap.size + 1, 4, none⟩) (Nat.le_succ _) (.slice none 0 0))
  have b1 := (((((b1.far (p := ⟨w.heap.size + 1, 0, none⟩) (Nat.ne_of_lt (Nat.lt_succ_self _)) (.int .u32 x)).far (p := ⟨w.heap.size + 1, 1, none⟩) (Nat.ne_of_lt (Nat.lt_succ_self _)) (.int .u32 101)).far (p := ⟨w.heap.size + 1, 2, none⟩) (Nat.ne_of_lt (Nat.lt_succ_self _)) (.int .u32 b)).far (p := ⟨w.heap.size + 1, 3, none⟩) (Nat.ne_of_lt (Nat.lt_succ_self _)) (.int .u32 0)).far (p := ⟨w.heap.size + 1, 4, none⟩) (Nat.ne_of_lt (Nat.lt_succ_self _)) (.slice none 0 0))
  have p0 := b1.cell 0 (v := .int .u32 x) rfl
  have p1 := b1.cell 1 (v := .int .u32 101) rfl
  have p2 := b1.cell 2 (v := .int .u32 b) rfl
  have p3 := b1.cell 3 (v := .int .u32 0) rfl
  have p4 := b1.cell 4 (v := .slice none 0 0) rfl
  have k1 := cell_later hB o1
  refine hK.out _ _ ⟨p0, p1, p2, p3, p4, k1⟩ (fun hHeld => ?_)
  clear hK K
  refine pure_ (i := 12) (N := some 5) (v := ?_) (a' := ?_) #[true, true, true, true, true, true, true, true, true, true, true, true, true, false] rfl rfl (by kernel_rfl) (fun _ _ _ h => h) (Or.inl ⟨by rfl, ?_⟩) ?_ ?_
  rotate_left
  · intro w'
    go_simp
    with_reducible rfl
  rotate_left
  · simp only [Act.put, List.setIfInBounds_toArray, List.set_cons_zero, List.set_cons_succ, i64_w, i32_w]
    rfl
  refine pure_ (i := 13) (N := some 6) (v := ?_) (a' := ?_) #[true, true, true, true, true, true, true, true, true, true, true, true, true, true] rfl rfl (by kernel_rfl) (fun _ _ _ h => h) (Or.inl ⟨by rfl, ?_⟩) ?_ ?_
  rotate_left
  · intro w'
    go_simp
    with_reducible rfl
  rotate_left
  · simp only [Act.put, List.setIfInBounds_toArray, List.set_cons_zero, List.set_cons_succ, i64_w, i32_w]
    rfl
  refine done_ (by kernel_rfl) ?_
  go_wp2_with fail
  have e0 := b2.cell 0 (v := .int .u32 x) rfl
  have e1 := b2.cell 1 (v := .int .u32 101) rfl
  have e2 := b2.cell 2 (v := .int .u32 b) rfl
  have e3 := b2.cell 3 (v := .int .u32 0) rfl
  have e4 := b2.cell 4 (v := .slice none 0 0) rfl
  exact bodyPost_ret (v := .tuple #[.agg #[.int .u32 x, .int .u32 101, .int .u32 b, .int .u32 0, .slice none 0 0], .bool false, .bool true]) (by simp [results, Tryd.f77, go_sem, e0, e1, e2, e3, e4]) rfl ⟨rfl, hB⟩

set_option maxRecDepth 100000 in
set_option maxHeartbeats 2000000 in
theorem den_low (x b : Int) (ad : Addr) (c : Nat) (w : World) (o0 : w.cell? ad = some (.int .u32 1)) (o1 : w.cell? ⟨ad.block, ad.off + 1, none⟩ = some (.int .u32 b)) (g1 : ¬ 1 ≤ b) :
    Calls Tryd.prog 77 #[.agg #[.int .u32 x, .int .u32 0, .int .u32 0, .int .u32 0, .slice none 0 0], .slice (some ad) 2 c] w fun e w' => e = .returned (.tuple #[.agg #[.int .u32 x, .int .u32 101, .int .u32 b, .int .u32 0, .slice none 0 0], .bool false, .bool false]) ∧ Below w.heap.size w w' := by
  have b1 := (Blk.new w 26 #[.int .u32 x, .int .u32 0, .int .u32 0, .int .u32 0, .slice none 0 0]).alloc (.cells #[.int .u32 0, .int .u32 0, .int .u32 0, .int .u32 0, .slice none 0 0] 26)
  have b2 := Blk.new (w.alloc (.cells #[.int .u32 x, .int .u32 0, .int .u32 0, .int .u32 0, .slice none 0 0] 26)) 26 #[.int .u32 0, .int .u32 0, .int .u32 0, .int .u32 0, .slice none 0 0]
  have hB : Below w.heap.size w ((w.alloc (.cells #[.int .u32 x, .int .u32 0, .int .u32 0, .int .u32 0, .slice none 0 0] 26)).alloc (.cells #[.int .u32 0, .int .u32 0, .int .u32 0, .int .u32 0, .slice none 0 0] 26)) := ((Below.refl _ w).alloc (Nat.le_refl _) _).alloc (by simp) _
  rw [World.size_alloc] at b2
  go_enter Tryd.func77, Tryd.ntmps77
  go_upto_region 1 with fail
  generalize (w.alloc (.cells #[.int .u32 x, .int .u32 0, .int .u32 0, .int .u32 0, .slice none 0 0] 26)).alloc (.cells #[.int .u32 0, .int .u32 0, .int .u32 0, .int .u32 0, .slice none 0 0] 26) = W0 at *
  have k0 := cell_later hB o0
  have k1 := cell_later hB o1
  have p0 := b1.cell 0 (v := .int .u32 x) rfl
  have p1 := b1.cell 1 (v := .int .u32 0) rfl
  have p2 := b1.cell 2 (v := .int .u32 0) rfl
  have p3 := b1.cell 3 (v := .int .u32 0) rfl
  have p4 := b1.cell 4 (v := .slice none 0 0) rfl
  have f0 := b1.frozen 0
  have f1 := b1.frozen 1
  have f2 := b1.frozen 2
  have f3 := b1.frozen 3
  have f4 := b1.frozen 4
  have z0 := b2.cell 0 (v := .int .u32 0) rfl
  have z1 := b2.cell 1 (v := .int .u32 0) rfl
  have z2 := b2.cell 2 (v := .int .u32 0) rfl
  have z3 := b2.cell 3 (v := .int .u32 0) rfl
  have z4 := b2.cell 4 (v := .slice none 0 0) rfl
  have y0 := b2.frozen 0
  have y1 := b2.frozen 1
  have y2 := b2.frozen 2
  have y3 := b2.frozen 3
  have y4 := b2.frozen 4
  go_upto_region 7 with fail
  have b2 := b2.far (p := ⟨w.heap.size, 2, none⟩) (by simp) (.int .u32 b)
  have hB := hB.setCell (p := ⟨w.heap.size, 2, none⟩) (Nat.le_refl _) (.int .u32 b)
  have b1 := b1.set_ 2 (.int .u32 b)
  clear k0 k1 p0 p1 p2 p3 p4 f0 f1 f2 f3 f4 z0 z1 z2 z3 z4 y0 y1 y2 y3 y4
  generalize W0.setCell ⟨w.heap.size, 2, none⟩ (.int .u32 b) = W1 at *
  have b1 : Blk W1 w.heap.size 26 #[.int .u32 x, .int .u32 0, .int .u32 b, .int .u32 0, .slice none 0 0] := b1
  have k0 := cell_later hB o0
  have k1 := cell_later hB o1
  have p0 := b1.cell 0 (v := .int .u32 x) rfl
  have p1 := b1.cell 1 (v := .int .u32 0) rfl
  have p2 := b1.cell 2 (v := .int .u32 b) rfl
  have p3 := b1.cell 3 (v := .int .u32 0) rfl
  have p4 := b1.cell 4 (v := .slice none 0 0) rfl
  have f0 := b1.frozen 0
  have f1 := b1.frozen 1
  have f2 := b1.frozen 2
  have f3 := b1.frozen 3
  have f4 := b1.frozen 4
  have z0 := b2.cell 0 (v := .int .u32 0) rfl
  have z1 := b2.cell 1 (v := .int .u32 0) rfl
  have z2 := b2.cell 2 (v := .int .u32 0) rfl
  have z3 := b2.cell 3 (v := .int .u32 0) rfl
  have z4 := b2.cell 4 (v := .slice none 0 0) rfl
  have y0 := b2.frozen 0
  have y1 := b2.frozen 1
  have y2 := b2.frozen 2
  have y3 := b2.frozen 3
  have y4 := b2.frozen 4
  go_upto_region 9 with fail
  have b2 := b2.far (p := ⟨w.heap.size, 1, none⟩) (by simp) (.int .u32 101)
  have hB := hB.setCell (p := ⟨w.heap.size, 1, none⟩) (Nat.le_refl _) (.int .u32 101)
  have b1 := b1.set_ 1 (.int .u32 101)
  clear k0 k1 p0 p1 p2 p3 p4 f0 f1 f2 f3 f4 z0 z1 z2 z3 z4 y0 y1 y2 y3 y4
  generalize W1.setCell ⟨w.heap.size, 1, none⟩ (.int .u32 101) = W2 at *
  have b1 : Blk W2 w.heap.size 26 #[.int .u32 x, .int .u32 101, .int .u32 b, .int .u32 0, .slice none 0 0] := b1
  have k0 := cell_later hB o0
  have k1 := cell_later hB o1
  have p0 := b1.cell 0 (v := .int .u32 x) rfl
  have p1 := b1.cell 1 (v := .int .u32 101) rfl
  have p2 := b1.cell 2 (v := .int .u32 b) rfl
  have p3 := b1.cell 3 (v := .int .u32 0) rfl
  have p4 := b1.cell 4 (v := .slice none 0 0) rfl
  have f0 := b1.frozen 0
  have f1 := b1.frozen 1
  have f2 := b1.frozen 2
  have f3 := b1.frozen 3
  have f4 := b1.frozen 4
  have z0 := b2.cell 0 (v := .int .u32 0) rfl
  have z1 := b2.cell 1 (v := .int .u32 0) rfl
  have z2 := b2.cell 2 (v := .int .u32 0) rfl
  have z3 := b2.cell 3 (v := .int .u32 0) rfl
  have z4 := b2.cell 4 (v := .slice none 0 0) rfl
  have y0 := b2.frozen 0
  have y1 := b2.frozen 1
  have y2 := b2.frozen 2
  have y3 := b2.frozen 3
  have y4 := b2.frozen 4
  go_upto_region 9 with fail
  have hd := below_drawn (w := W2) (w1 := W2.drew) (n := 1) rfl
  have b1 : Blk W2.drew _ _ _ := b1
  have b2 : Blk W2.drew _ _ _ := b2
  have hB := below_then hB hd
  have k0 := cell_later hB o0
  have k1 := cell_later hB o1
  have p0 := b1.cell 0 (v := .int .u32 x) rfl
  have p1 := b1.cell 1 (v := .int .u32 101) rfl
  have p2 := b1.cell 2 (v := .int .u32 b) rfl
  have p3 := b1.cell 3 (v := .int .u32 0) rfl
  have p4 := b1.cell 4 (v := .slice none 0 0) rfl
  clear hd f0 f1 f2 f3 f4 z0 z1 z2 z3 z4 y0 y1 y2 y3 y4
  refine start_ (n := 14) (S := fun w' => w'.cell? ⟨w.heap.size, 0, none⟩ = some (.int .u32 x) ∧ w'.cell? ⟨w.heap.size, 1, none⟩ = some (.int .u32 101) ∧ w'.cell? ⟨w.heap.size, 2, none⟩ = some (.int .u32 b) ∧ w'.cell? ⟨w.heap.size, 3, none⟩ = some (.int .u32 0) ∧ w'.cell? ⟨w.heap.size, 4, none⟩ = some (.slice none 0 0) ∧ w'.cell? ⟨ad.block, ad.off + 1, none⟩ = some (.int .u32 b)) (ds := []) #[false, false, false, false, false, false, false, false, false, false, false, false, false, false] (by kernel_rfl) rfl rfl ⟨p0, p1, p2, p3, p4, k1⟩ (fun hHeld => ?_)
  refine pure_ (i := 1) (N := some 28) (v := ?_) (a' := ?_) #[false, true, false, false, false, false, false, false, false, false, false, false, false, false] rfl rfl (by kernel_rfl) (fun _ _ _ h => h) (Or.inl ⟨by rfl, ?_⟩) ?_ ?_
  rotate_left
  · intro w'
    go_simp
    with_reducible rfl
  rotate_left
  · simp only [Act.put, List.setIfInBounds_toArray, List.set_cons_zero, List.set_cons_succ, i64_w, i32_w]
    rfl
  refine pure_ (i := 2) (N := some 29) (v := ?_) (a' := ?_) #[false, true, true, false, false, false, false, false, false, false, false, false, false, false] rfl rfl (by kernel_rfl) (fun _ _ _ h => h) (Or.inl ⟨by rfl, ?_⟩) ?_ ?_
  rotate_left
  · intro w'
    go_simp
    with_reducible rfl
  rotate_left
  · simp only [Act.put, List.setIfInBounds_toArray, List.set_cons_zero, List.set_cons_succ, i64_w, i32_w]
    rfl
  refine take_ (i := 0) (N := some 27) (v := ?_) (a' := ?_) #[true, true, true, false, false, false, false, false, false, false, false, false, false, false] rfl rfl (by kernel_rfl) (fun _ _ _ h => h) (Or.inl ⟨by rfl, ?_⟩) hHeld ?_ ?_
  rotate_left
  · rintro w' ⟨s0, s1, s2, s3, s4, s5⟩
    go_simp
    with_reducible rfl
  rotate_left
  · simp only [Act.put, List.setIfInBounds_toArray, List.set_cons_zero, List.set_cons_succ, i64_w, i32_w]
    rfl
  refine take_ (i := 3) (N := some 30) (v := ?_) (a' := ?_) #[true, true, true, true, false, false, false, false, false, false, false, false, false, false] rfl rfl (by kernel_rfl) (fun _ _ _ h => h) (Or.inl ⟨by rfl, ?_⟩) hHeld ?_ ?_
  rotate_left
  · rintro w' ⟨s0, s1, s2, s3, s4, s5⟩
    go_simp
    with_reducible rfl
  rotate_left
  · simp only [Act.put, List.setIfInBounds_toArray, List.set_cons_zero, List.set_cons_succ, i64_w, i32_w]
    rfl
  refine pure_ (i := 4) (N := some 31) (v := ?_) (a' := ?_) #[true, true, true, true, true, false, false, false, false, false, false, false, false, false] rfl rfl (by kernel_rfl) (fun _ _ _ h => h) (Or.inl ⟨by rfl, ?_⟩) ?_ ?_
  rotate_left
  · intro w'
    go_simp
    with_reducible rfl
  rotate_left
  · simp only [Act.put, List.setIfInBounds_toArray, List.set_cons_zero, List.set_cons_succ, i64_w, i32_w]
    rfl
  refine pure_ (i := 5) (N := some 32) (v := ?_) (a' := ?_) #[true, true, true, true, true, true, false, false, false, false, false, false, false, false] rfl rfl (by kernel_rfl) (fun _ _ _ h => h) (Or.inl ⟨by rfl, ?_⟩) ?_ ?_
  rotate_left
  · intro w'
    go_simp
    with_reducible rfl
  rotate_left
  · simp only [Act.put, List.setIfInBounds_toArray, List.set_cons_zero, List.set_cons_succ, i64_w, i32_w]
    rfl
  refine pure_ (i := 6) (N := some 33) (v := undef) (a' := ?_) #[true, true, true, true, true, true, true, false, false, false, false, false, false, false] rfl rfl (by kernel_rfl) (fun _ _ _ h => h) (Or.inr ⟨by rfl, rfl⟩) ?_ ?_
  rotate_left
  · simp only [Act.put, List.setIfInBounds_toArray, List.set_cons_zero, List.set_cons_succ, i64_w, i32_w]
    rfl
  refine pure_ (i := 7) (N := some 34) (v := undef) (a' := ?_) #[true, true, true, true, true, true, true, true, false, false, false, false, false, false] rfl rfl (by kernel_rfl) (fun _ _ _ h => h) (Or.inr ⟨by rfl, rfl⟩) ?_ ?_
  rotate_left
  · simp only [Act.put, List.setIfInBounds_toArray, List.set_cons_zero, List.set_cons_succ, i64_w, i32_w]
    rfl
  refine pure_ (i := 8) (N := some 35) (v := undef) (a' := ?_) #[true, true, true, true, true, true, true, true, true, false, false, false, false, false] rfl rfl (by kernel_rfl) (fun _ _ _ h => h) (Or.inr ⟨by rfl, rfl⟩) ?_ ?_
  rotate_left
  · simp only [Act.put, List.setIfInBounds_toArray, List.set_cons_zero, List.set_cons_succ, i64_w, i32_w]
    rfl
  refine pure_ (i := 9) (N := some 36) (v := undef) (a' := ?_) #[true, true, true, true, true, true, true, true, true, true, false, false, false, false] rfl rfl (by kernel_rfl) (fun _ _ _ h => h) (Or.inr ⟨by rfl, rfl⟩) ?_ ?_
  rotate_left
  · simp only [Act.put, List.setIfInBounds_toArray, List.set_cons_zero, List.set_cons_succ, i64_w, i32_w]
    rfl
  refine pure_ (i := 10) (N := some 37) (v := ?_) (a' := ?_) #[true, true, true, true, true, true, true, true, true, true, true, false, false, false] rfl rfl (by kernel_rfl) (fun _ _ _ h => h) (Or.inl ⟨by rfl, ?_⟩) ?_ ?_
  rotate_left
  · intro w'
    go_simp
    with_reducible rfl
  rotate_left
  · simp only [Act.put, List.setIfInBounds_toArray, List.set_cons_zero, List.set_cons_succ, i64_w, i32_w]
    rfl
  refine one_ (i := 11) (N := none) #[true, true, true, true, true, true, true, true, true, true, true, true, false, false] rfl rfl (by kernel_rfl) (by decide) (fun K hK => ?_)
  generalize W2.drew = Wd at *
  have z0 := b2.cell 0 (v := .int .u32 0) rfl
  have z1 := b2.cell 1 (v := .int .u32 0) rfl
  have z2 := b2.cell 2 (v := .int .u32 0) rfl
  have z3 := b2.cell 3 (v := .int .u32 0) rfl
  have z4 := b2.cell 4 (v := .slice none 0 0) rfl
  have y0 := b2.frozen 0
  have y1 := b2.frozen 1
  have y2 := b2.frozen 2
  have y3 := b2.frozen 3
  have y4 := b2.frozen 4
  refine skip_ (w1 := ?_) (by rfl) rfl ?_ ?_
  rotate_left
  · go_simp
    rfl
  have b2 := (((((b2.set_ 0 (.int .u32 x)).set_ 1 (.int .u32 101)).set_ 2 (.int .u32 b)).set_ 3 (.int .u32 0)).set_ 4 (.slice none 0 0))
  have hB := (((((hB.setCell (p := ⟨w.heap.size + 1, 0, none⟩) (Nat.le_succ _) (.int .u32 x)).setCell (p := ⟨w.heap.size + 1, 1, none⟩) (Nat.le_succ _) (.int .u32 101)).setCell (p := ⟨w.heap.size + 1, 2, none⟩) (Nat.le_succ _) (.int .u32 b)).setCell (p := ⟨w.heap.size + 1, 3, none⟩) (Nat.le_succ _) (.int .u32 0)).setCell (p := ⟨w.heap.size + 1, 4, none⟩) (Nat.le_succ _) (.slice none 0 0))
  have b1 := (((((b1.far (p := ⟨w.heap.size + 1, 0, none⟩) (Nat.ne_of_lt (Nat.lt_succ_self _)) (.int .u32 x)).far (p := ⟨w.heap.size + 1, 1, none⟩) (Nat.ne_of_lt (Nat.lt_succ_self _)) (.int .u32 101)).far (p := ⟨w.heap.size + 1, 2, none⟩) (Nat.ne_of_lt (Nat.lt_succ_self _)) (.int .u32 b)).far (p := ⟨w.heap.size + 1, 3, none⟩) (Nat.ne_of_lt (Nat.lt_succ_self _)) (.int .u32 0)).far (p := ⟨w.heap.size + 1, 4, none⟩) (Nat.ne_of_lt (Nat.lt_succ_self _)) (.slice none 0 0))
  have p0 := b1.cell 0 (v := .int .u32 x) rfl
  have p1 := b1.cell 1 (v := .int .u32 101) rfl
  have p2 := b1.cell 2 (v := .int .u32 b) rfl
  have p3 := b1.cell 3 (v := .int .u32 0) rfl
  have p4 := b1.cell 4 (v := .slice none 0 0) rfl
  have k1 := cell_later hB o1
  refine hK.out _ _ ⟨p0, p1, p2, p3, p4, k1⟩ (fun hHeld => ?_)
  clear hK K
  refine pure_ (i := 12) (N := some 5) (v := ?_) (a' := ?_) #[true, true, true, true, true, true, true, true, true, true, true, true, true, false] rfl rfl (by kernel_rfl) (fun _ _ _ h => h) (Or.inl ⟨by rfl, ?_⟩) ?_ ?_
  rotate_left
  · intro w'
    go_simp
    with_reducible rfl
  rotate_left
  · simp only [Act.put, List.setIfInBounds_toArray, List.set_cons_zero, List.set_cons_succ, i64_w, i32_w]
    rfl
  refine pure_ (i := 13) (N := some 6) (v := ?_) (a' := ?_) #[true, true, true, true, true, true, true, true, true, true, true, true, true, true] rfl rfl (by kernel_rfl) (fun _ _ _ h => h) (Or.inl ⟨by rfl, ?_⟩) ?_ ?_
  rotate_left
  · intro w'
    go_simp
    with_reducible rfl
  rotate_left
  · simp only [Act.put, List.setIfInBounds_toArray, List.set_cons_zero, List.set_cons_succ, i64_w, i32_w]
    rfl
  refine done_ (by kernel_rfl) ?_
  go_wp2_with fail
  have e0 := b2.cell 0 (v := .int .u32 x) rfl
  have e1 := b2.cell 1 (v := .int .u32 101) rfl
  have e2 := b2.cell 2 (v := .int .u32 b) rfl
  have e3 := b2.cell 3 (v := .int .u32 0) rfl
  have e4 := b2.cell 4 (v := .slice none 0 0) rfl
  exact bodyPost_ret (v := .tuple #[.agg #[.int .u32 x, .int .u32 101, .int .u32 b, .int .u32 0, .slice none 0 0], .bool false, .bool false]) (by simp [results, Tryd.f77, go_sem, e0, e1, e2, e3, e4]) rfl ⟨rfl, hB⟩

set_option maxRecDepth 100000 in
set_option maxHeartbeats 2000000 in
theorem den_high (x b : Int) (ad : Addr) (c : Nat) (w : World) (o0 : w.cell? ad = some (.int .u32 1)) (o1 : w.cell? ⟨ad.block, ad.off + 1, none⟩ = some (.int .u32 b)) (g1 : 1 ≤ b) (g2 : ¬ b ≤ 7) :
    Calls Tryd.prog 77 #[.agg #[.int .u32 x, .int .u32 0, .int .u32 0, .int .u32 0, .slice none 0 0], .slice (some ad) 2 c] w fun e w' => e = .returned (.tuple #[.agg #[.int .u32 x, .int .u32 101, .int .u32 b, .int .u32 0, .slice none 0 0], .bool false, .bool false]) ∧ Below w.heap.size w w' := by
  have b1 := (Blk.new w 26 #[.int .u32 x, .int .u32 0, .int .u32 0, .int .u32 0, .slice none 0 0]).alloc (.cells #[.int .u32 0, .int .u32 0, .int .u32 0, .int .u32 0, .slice none 0 0] 26)
  have b2 := Blk.new (w.alloc (.cells #[.int .u32 x, .int .u32 0, .int .u32 0, .int .u32 0, .slice none 0 0] 26)) 26 #[.int .u32 0, .int .u32 0, .int .u32 0, .int .u32 0, .slice none 0 0]
  have hB : Below w.heap.size w ((w.alloc (.cells #[.int .u32 x, .int .u32 0, .int .u32 0, .int .u32 0, .slice none 0 0] 26)).alloc (.cells #[.int .u32 0, .int .u32 0, .int .u32 0, .int .u32 0, .slice none 0 0] 26)) := ((Below.refl _ w).alloc (Nat.le_refl _) _).alloc (by simp) _
  rw [World.size_alloc] at b2
  go_enter Tryd.func77, Tryd.ntmps77
  go_upto_region 1 with fail
  generalize (w.alloc (.cells #[.int .u32 x, .int .u32 0, .int .u32 0, .int .u32 0, .slice none 0 0] 26)).alloc (.cells #[.int .u32 0, .int .u32 0, .int .u32 0, .int .u32 0, .slice none 0 0] 26) = W0 at *
  have k0 := cell_later hB o0
  have k1 := cell_later hB o1
  have p0 := b1.cell 0 (v := .int .u32 x) rfl
  have p1 := b1.cell 1 (v := .int .u32 0) rfl
  have p2 := b1.cell 2 (v := .int .u32 0) rfl
  have p3 := b1.cell 3 (v := .int .u32 0) rfl
  have p4 := b1.cell 4 (v := .slice none 0 0) rfl
  have f0 := b1.frozen 0
  have f1 := b1.frozen 1
  have f2 := b1.frozen 2
  have f3 := b1.frozen 3
  have f4 := b1.frozen 4
  have z0 := b2.cell 0 (v := .int .u32 0) rfl
  have z1 := b2.cell 1 (v := .int .u32 0) rfl
  have z2 := b2.cell 2 (v := .int .u32 0) rfl
  have z3 := b2.cell 3 (v := .int .u32 0) rfl
  have z4 := b2.cell 4 (v := .slice none 0 0) rfl
  have y0 := b2.frozen 0
  have y1 := b2.frozen 1
  have y2 := b2.frozen 2
  have y3 := b2.frozen 3
  have y4 := b2.frozen 4
  go_upto_region 7 with fail
  have b2 := b2.far (p := ⟨w.heap.size, 2, none⟩) (by simp) (.int .u32 b)
  have hB := hB.setCell (p := ⟨w.heap.size, 2, none⟩) (Nat.le_refl _) (.int .u32 b)
  have b1 := b1.set_ 2 (.int .u32 b)
  clear k0 k1 p0 p1 p2 p3 p4 f0 f1 f2 f3 f4 z0 z1 z2 z3 z4 y0 y1 y2 y3 y4
  generalize W0.setCell ⟨w.heap.size, 2, none⟩ (.int .u32 b) = W1 at *
  have b1 : Blk W1 w.heap.size 26 #[.int .u32 x, .int .u32 0, .int .u32 b, .int .u32 0, .slice none 0 0] := b1
  have k0 := cell_later hB o0
  have k1 := cell_later hB o1
  have p0 := b1.cell 0 (v := .int .u32 x) rfl
  have p1 := b1.cell 1 (v := .int .u32 0) rfl
  have p2 := b1.cell 2 (v := .int .u32 b) rfl
  have p3 := b1.cell 3 (v := .int .u32 0) rfl
  have p4 := b1.cell 4 (v := .slice none 0 0) rfl
  have f0 := b1.frozen 0
  have f1 := b1.frozen 1
  have f2 := b1.frozen 2
  have f3 := b1.frozen 3
  have f4 := b1.frozen 4
  have z0 := b2.cell 0 (v := .int .u32 0) rfl
  have z1 := b2.cell 1 (v := .int .u32 0) rfl
  have z2 := b2.cell 2 (v := .int .u32 0) rfl
  have z3 := b2.cell 3 (v := .int .u32 0) rfl
  have z4 := b2.cell 4 (v := .slice none 0 0) rfl
  have y0 := b2.frozen 0
  have y1 := b2.frozen 1
  have y2 := b2.frozen 2
  have y3 := b2.frozen 3
  have y4 := b2.frozen 4
  go_upto_region 9 with fail
  have b2 := b2.far (p := ⟨w.heap.size, 1, none⟩) (by simp) (.int .u32 101)
  have hB := hB.setCell (p := ⟨w.heap.size, 1, none⟩) (Nat.le_refl _) (.int .u32 101)
  have b1 := b1.set_ 1 (.int .u32 101)
  clear k0 k1 p0 p1 p2 p3 p4 f0 f1 f2 f3 f4 z0 z1 z2 z3 z4 y0 y1 y2 y3 y4
  generalize W1.setCell ⟨w.heap.size, 1, none⟩ (.int .u32 101) = W2 at *
  have b1 : Blk W2 w.heap.size 26 #[.int .u32 x, .int .u32 101, .int .u32 b, .int .u32 0, .slice none 0 0] := b1
  have k0 := cell_later hB o0
  have k1 := cell_later hB o1
  have p0 := b1.cell 0 (v := .int .u32 x) rfl
  have p1 := b1.cell 1 (v := .int .u32 101) rfl
  have p2 := b1.cell 2 (v := .int .u32 b) rfl
  have p3 := b1.cell 3 (v := .int .u32 0) rfl
  have p4 := b1.cell 4 (v := .slice none 0 0) rfl
  have f0 := b1.frozen 0
  have f1 := b1.frozen 1
  have f2 := b1.frozen 2
  have f3 := b1.frozen 3
  have f4 := b1.frozen 4
  have z0 := b2.cell 0 (v := .int .u32 0) rfl
  have z1 := b2.cell 1 (v := .int .u32 0) rfl
  have z2 := b2.cell 2 (v := .int .u32 0) rfl
  have z3 := b2.cell 3 (v := .int .u32 0) rfl
  have z4 := b2.cell 4 (v := .slice none 0 0) rfl
  have y0 := b2.frozen 0
  have y1 := b2.frozen 1
  have y2 := b2.frozen 2
  have y3 := b2.frozen 3
  have y4 := b2.frozen 4
  go_upto_region 9 with fail
  have hd := below_drawn (w := W2) (w1 := W2.drew) (n := 1) rfl
  have b1 : Blk W2.drew _ _ _ := b1
  have b2 : Blk W2.drew _ _ _ := b2
  have hB := below_then hB hd
  have k0 := cell_later hB o0
  have k1 := cell_later hB o1
  have p0 := b1.cell 0 (v := .int .u32 x) rfl
  have p1 := b1.cell 1 (v := .int .u32 101) rfl
  have p2 := b1.cell 2 (v := .int .u32 b) rfl
  have p3 := b1.cell 3 (v := .int .u32 0) rfl
  have p4 := b1.cell 4 (v := .slice none 0 0) rfl
  clear hd f0 f1 f2 f3 f4 z0 z1 z2 z3 z4 y0 y1 y2 y3 y4
  refine start_ (n := 14) (S := fun w' => w'.cell? ⟨w.heap.size, 0, none⟩ = some (.int .u32 x) ∧ w'.cell? ⟨w.heap.size, 1, none⟩ = some (.int .u32 101) ∧ w'.cell? ⟨w.heap.size, 2, none⟩ = some (.int .u32 b) ∧ w'.cell? ⟨w.heap.size, 3, none⟩ = some (.int .u32 0) ∧ w'.cell? ⟨w.heap.size, 4, none⟩ = some (.slice none 0 0) ∧ w'.cell? ⟨ad.block, ad.off + 1, none⟩ = some (.int .u32 b)) (ds := []) #[false, false, false, false, false, false, false, false, false, false, false, false, false, false] (by kernel_rfl) rfl rfl ⟨p0, p1, p2, p3, p4, k1⟩ (fun hHeld => ?_)
  refine pure_ (i := 1) (N := some 28) (v := ?_) (a' := ?_) #[false, true, false, false, false, false, false, false, false, false, false, false, false, false] rfl rfl (by kernel_rfl) (fun _ _ _ h => h) (Or.inl ⟨by rfl, ?_⟩) ?_ ?_
  rotate_left
  · intro w'
    go_simp
    with_reducible rfl
  rotate_left
  · simp only [Act.put, List.setIfInBounds_toArray, List.set_cons_zero, List.set_cons_succ, i64_w, i32_w]
    rfl
  refine pure_ (i := 2) (N := some 29) (v := ?_) (a' := ?_) #[false, true, true, false, false, false, false, false, false, false, false, false, false, false] rfl rfl (by kernel_rfl) (fun _ _ _ h => h) (Or.inl ⟨by rfl, ?_⟩) ?_ ?_
  rotate_left
  · intro w'
    go_simp
    with_reducible rfl
  rotate_left
  · simp only [Act.put, List.setIfInBounds_toArray, List.set_cons_zero, List.set_cons_succ, i64_w, i32_w]
    rfl
  refine take_ (i := 0) (N := some 27) (v := ?_) (a' := ?_) #[true, true, true, false, false, false, false, false, false, false, false, false, false, false] rfl rfl (by kernel_rfl) (fun _ _ _ h => h) (Or.inl ⟨by rfl, ?_⟩) hHeld ?_ ?_
  rotate_left
  · rintro w' ⟨s0, s1, s2, s3, s4, s5⟩
    go_simp
    with_reducible rfl
  rotate_left
  · simp only [Act.put, List.setIfInBounds_toArray, List.set_cons_zero, List.set_cons_succ, i64_w, i32_w]
    rfl
  refine take_ (i := 3) (N := some 30) (v := ?_) (a' := ?_) #[true, true, true, true, false, false, false, false, false, false, false, false, false, false] rfl rfl (by kernel_rfl) (fun _ _ _ h => h) (Or.inl ⟨by rfl, ?_⟩) hHeld ?_ ?_
  rotate_left
  · rintro w' ⟨s0, s1, s2, s3, s4, s5⟩
    go_simp
    with_reducible rfl
  rotate_left
  · simp only [Act.put, List.setIfInBounds_toArray, List.set_cons_zero, List.set_cons_succ, i64_w, i32_w]
    rfl
  refine pure_ (i := 4) (N := some 31) (v := ?_) (a' := ?_) #[true, true, true, true, true, false, false, false, false, false, false, false, false, false] rfl rfl (by kernel_rfl) (fun _ _ _ h => h) (Or.inl ⟨by rfl, ?_⟩) ?_ ?_
  rotate_left
  · intro w'
    go_simp
    with_reducible rfl
  rotate_left
  · simp only [Act.put, List.setIfInBounds_toArray, List.set_cons_zero, List.set_cons_succ, i64_w, i32_w]
    rfl
  refine pure_ (i := 5) (N := some 32) (v := ?_) (a' := ?_) #[true, true, true, true, true, true, false, false, false, false, false, false, false, false] rfl rfl (by kernel_rfl) (fun _ _ _ h => h) (Or.inl ⟨by rfl, ?_⟩) ?_ ?_
  rotate_left
  · intro w'
    go_simp
    with_reducible rfl
  rotate_left
  · simp only [Act.put, List.setIfInBounds_toArray, List.set_cons_zero, List.set_cons_succ, i64_w, i32_w]
    rfl
  refine pure_ (i := 6) (N := some 33) (v := ?_) (a' := ?_) #[true, true, true, true, true, true, true, false, false, false, false, false, false, false] rfl rfl (by kernel_rfl) (fun _ _ _ h => h) (Or.inl ⟨by rfl, ?_⟩) ?_ ?_
  rotate_left
  · intro w'
    go_simp
    with_reducible rfl
  rotate_left
  · simp only [Act.put, List.setIfInBounds_toArray, List.set_cons_zero, List.set_cons_succ, i64_w, i32_w]
    rfl
  refine pure_ (i := 7) (N := some 34) (v := ?_) (a' := ?_) #[true, true, true, true, true, true, true, true, false, false, false, false, false, false] rfl rfl (by kernel_rfl) (fun _ _ _ h => h) (Or.inl ⟨by rfl, ?_⟩) ?_ ?_
  rotate_left
  · intro w'
    go_simp
    with_reducible rfl
  rotate_left
  · simp only [Act.put, List.setIfInBounds_toArray, List.set_cons_zero, List.set_cons_succ, i64_w, i32_w]
    rfl
  refine take_ (i := 8) (N := some 35) (v := ?_) (a' := ?_) #[true, true, true, true, true, true, true, true, true, false, false, false, false, false] rfl rfl (by kernel_rfl) (fun _ _ _ h => h) (Or.inl ⟨by rfl, ?_⟩) hHeld ?_ ?_
  rotate_left
  · rintro w' ⟨s0, s1, s2, s3, s4, s5⟩
    go_simp
    with_reducible rfl
  rotate_left
  · simp only [Act.put, List.setIfInBounds_toArray, List.set_cons_zero, List.set_cons_succ, i64_w, i32_w]
    rfl
  refine pure_ (i := 9) (N := some 36) (v := ?_) (a' := ?_) #[true, true, true, true, true, true, true, true, true, true, false, false, false, false] rfl rfl (by kernel_rfl) (fun _ _ _ h => h) (Or.inl ⟨by rfl, ?_⟩) ?_ ?_
  rotate_left
  · intro w'
    go_simp
    with_reducible rfl
  rotate_left
  · simp only [Act.put, List.setIfInBounds_toArray, List.set_cons_zero, List.set_cons_succ, i64_w, i32_w]
    rfl
  refine pure_ (i := 10) (N := some 37) (v := ?_) (a' := ?_) #[true, true, true, true, true, true, true, true, true, true, true, false, false, false] rfl rfl (by kernel_rfl) (fun _ _ _ h => h) (Or.inl ⟨by rfl, ?_⟩) ?_ ?_
  rotate_left
  · intro w'
    go_simp
    with_reducible rfl
  rotate_left
  · simp only [Act.put, List.setIfInBounds_toArray, List.set_cons_zero, List.set_cons_succ, i64_w, i32_w]
    rfl
  refine one_ (i := 11) (N := none) #[true, true, true, true, true, true, true, true, true, true, true, true, false, false] rfl rfl (by kernel_rfl) (by decide) (fun K hK => ?_)
  generalize W2.drew = Wd at *
  have z0 := b2.cell 0 (v := .int .u32 0) rfl
  have z1 := b2.cell 1 (v := .int .u32 0) rfl
  have z2 := b2.cell 2 (v := .int .u32 0) rfl
  have z3 := b2.cell 3 (v := .int .u32 0) rfl
  have z4 := b2.cell 4 (v := .slice none 0 0) rfl
  have y0 := b2.frozen 0
  have y1 := b2.frozen 1
  have y2 := b2.frozen 2
  have y3 := b2.frozen 3
  have y4 := b2.frozen 4
  refine skip_ (w1 := ?_) (by rfl) rfl ?_ ?_
  rotate_left
  · go_simp
    rfl
  have b2 := (((((b2.set_ 0 (.int .u32 x)).set_ 1 (.int .u32 101)).set_ 2 (.int .u32 b)).set_ 3 (.int .u32 0)).set_ 4 (.slice none 0 0))
  have hB := (((((hB.setCell (p := ⟨w.heap.size + 1, 0, none⟩) (Nat.le_succ _) (.int .u32 x)).setCell (p := ⟨w.heap.size + 1, 1, none⟩) (Nat.le_succ _) (.int .u32 101)).setCell (p := ⟨w.heap.size + 1, 2, none⟩) (Nat.le_succ _) (.int .u32 b)).setCell (p := ⟨w.heap.size + 1, 3, none⟩) (Nat.le_succ _) (.int .u32 0)).setCell (p := ⟨w.heap.size + 1, 4, none⟩) (Nat.le_succ _) (.slice none 0 0))
  have b1 := (((((b1.far (p := ⟨w.heap.size + 1, 0, none⟩) (Nat.ne_of_lt (Nat.lt_succ_self _)) (.int .u32 x)).far (p := ⟨w.heap.size + 1, 1, none⟩) (Nat.ne_of_lt (Nat.lt_succ_self _)) (.int .u32 101)).far (p := ⟨w.heap.size + 1, 2, none⟩) (Nat.ne_of_lt (Nat.lt_succ_self _)) (.int .u32 b)).far (p := ⟨w.heap.size + 1, 3, none⟩) (Nat.ne_of_lt (Nat.lt_succ_self _)) (.int .u32 0)).far (p := ⟨w.heap.size + 1, 4, none⟩) (Nat.ne_of_lt (Nat.lt_succ_self _)) (.slice none 0 0))
  have p0 := b1.cell 0 (v := .int .u32 x) rfl
  have p1 := b1.cell 1 (v := .int .u32 101) rfl
  have p2 := b1.cell 2 (v := .int .u32 b) rfl
  have p3 := b1.cell 3 (v := .int .u32 0) rfl
  have p4 := b1.cell 4 (v := .slice none 0 0) rfl
  have k1 := cell_later hB o1
  refine hK.out _ _ ⟨p0, p1, p2, p3, p4, k1⟩ (fun hHeld => ?_)
  clear hK K
  refine pure_ (i := 12) (N := some 5) (v := ?_) (a' := ?_) #[true, true, true, true, true, true, true, true, true, true, true, true, true, false] rfl rfl (by kernel_rfl) (fun _ _ _ h => h) (Or.inl ⟨by rfl, ?_⟩) ?_ ?_
  rotate_left
  · intro w'
    go_simp
    with_reducible rfl
  rotate_left
  · simp only [Act.put, List.setIfInBounds_toArray, List.set_cons_zero, List.set_cons_succ, i64_w, i32_w]
    rfl
  refine pure_ (i := 13) (N := some 6) (v := ?_) (a' := ?_) #[true, true, true, true, true, true, true, true, true, true, true, true, true, true] rfl rfl (by kernel_rfl) (fun _ _ _ h => h) (Or.inl ⟨by rfl, ?_⟩) ?_ ?_
  rotate_left
  · intro w'
    go_simp
    with_reducible rfl
  rotate_left
  · simp only [Act.put, List.setIfInBounds_toArray, List.set_cons_zero, List.set_cons_succ, i64_w, i32_w]
    rfl
  refine done_ (by kernel_rfl) ?_
  go_wp2_with fail
  have e0 := b2.cell 0 (v := .int .u32 x) rfl
  have e1 := b2.cell 1 (v := .int .u32 101) rfl
  have e2 := b2.cell 2 (v := .int .u32 b) rfl
  have e3 := b2.cell 3 (v := .int .u32 0) rfl
  have e4 := b2.cell 4 (v := .slice none 0 0) rfl
  exact bodyPost_ret (v := .tuple #[.agg #[.int .u32 x, .int .u32 101, .int .u32 b, .int .u32 0, .slice none 0 0], .bool false, .bool false]) (by simp [results, Tryd.f77, go_sem, e0, e1, e2, e3, e4]) rfl ⟨rfl, hB⟩

set_option maxRecDepth 100000 in
set_option maxHeartbeats 2000000 in
theorem den_2more (x b : Int) (ad : Addr) (c : Nat) (w : World) (o0 : w.cell? ad = some (.int .u32 0)) (o1 : w.cell? ⟨ad.block, ad.off + 1, none⟩ = some (.int .u32 b))  :
    Calls Tryd.prog 77 #[.agg #[.int .u32 x, .int .u32 0, .int .u32 0, .int .u32 0, .slice none 0 0], .slice (some ad) 2 c] w fun e w' => e = .returned (.tuple #[.agg #[.int .u32 x, .int .u32 100, .int .u32 b, .int .u32 0, .slice none 0 0], .bool true, .bool true]) ∧ Below w.heap.size w w' := by
  have b1 := (Blk.new w 26 #[.int .u32 x, .int .u32 0, .int .u32 0, .int .u32 0, .slice none 0 0]).alloc (.cells #[.int .u32 0, .int .u32 0, .int .u32 0, .int .u32 0, .slice none 0 0] 26)
  have b2 := Blk.new (w.alloc (.cells #[.int .u32 x, .int .u32 0, .int .u32 0, .int .u32 0, .slice none 0 0] 26)) 26 #[.int .u32 0, .int .u32 0, .int .u32 0, .int .u32 0, .slice none 0 0]
  have hB : Below w.heap.size w ((w.alloc (.cells #[.int .u32 x, .int .u32 0, .int .u32 0, .int .u32 0, .slice none 0 0] 26)).alloc (.cells #[.int .u32 0, .int .u32 0, .int .u32 0, .int .u32 0, .slice none 0 0] 26)) := ((Below.refl _ w).alloc (Nat.le_refl _) _).alloc (by simp) _
  rw [World.size_alloc] at b2
  go_enter Tryd.func77, Tryd.ntmps77
  go_upto_region 1 with fail
  generalize (w.alloc (.cells #[.int .u32 x, .int .u32 0, .int .u32 0, .int .u32 0, .slice none 0 0] 26)).alloc (.cells #[.int .u32 0, .int .u32 0, .int .u32 0, .int .u32 0, .slice none 0 0] 26) = W0 at *
  have k0 := cell_later hB o0
  have k1 := cell_later hB o1
  have p0 := b1.cell 0 (v := .int .u32 x) rfl
  have p1 := b1.cell 1 (v := .int .u32 0) rfl
  have p2 := b1.cell 2 (v := .int .u32 0) rfl
  have p3 := b1.cell 3 (v := .int .u32 0) rfl
  have p4 := b1.cell 4 (v := .slice none 0 0) rfl
  have f0 := b1.frozen 0
  have f1 := b1.frozen 1
  have f2 := b1.frozen 2
  have f3 := b1.frozen 3
  have f4 := b1.frozen 4
  have z0 := b2.cell 0 (v := .int .u32 0) rfl
  have z1 := b2.cell 1 (v := .int .u32 0) rfl
  have z2 := b2.cell 2 (v := .int .u32 0) rfl
  have z3 := b2.cell 3 (v := .int .u32 0) rfl
  have z4 := b2.cell 4 (v := .slice none 0 0) rfl
  have y0 := b2.frozen 0
  have y1 := b2.frozen 1
  have y2 := b2.frozen 2
  have y3 := b2.frozen 3
  have y4 := b2.frozen 4
  go_upto_region 7 with fail
  have b2 := b2.far (p := ⟨w.heap.size, 2, none⟩) (by simp) (.int .u32 b)
  have hB := hB.setCell (p := ⟨w.heap.size, 2, none⟩) (Nat.le_refl _) (.int .u32 b)
  have b1 := b1.set_ 2 (.int .u32 b)
  clear k0 k1 p0 p1 p2 p3 p4 f0 f1 f2 f3 f4 z0 z1 z2 z3 z4 y0 y1 y2 y3 y4
  generalize W0.setCell ⟨w.heap.size, 2, none⟩ (.int .u32 b) = W1 at *
  have b1 : Blk W1 w.heap.size 26 #[.int .u32 x, .int .u32 0, .int .u32 b, .int .u32 0, .slice none 0 0] := b1
  have k0 := cell_later hB o0
  have k1 := cell_later hB o1
  have p0 := b1.cell 0 (v := .int .u32 x) rfl
  have p1 := b1.cell 1 (v := .int .u32 0) rfl
  have p2 := b1.cell 2 (v := .int .u32 b) rfl
  have p3 := b1.cell 3 (v := .int .u32 0) rfl
  have p4 := b1.cell 4 (v := .slice none 0 0) rfl
  have f0 := b1.frozen 0
  have f1 := b1.frozen 1
  have f2 := b1.frozen 2
  have f3 := b1.frozen 3
  have f4 := b1.frozen 4
  have z0 := b2.cell 0 (v := .int .u32 0) rfl
  have z1 := b2.cell 1 (v := .int .u32 0) rfl
  have z2 := b2.cell 2 (v := .int .u32 0) rfl
  have z3 := b2.cell 3 (v := .int .u32 0) rfl
  have z4 := b2.cell 4 (v := .slice none 0 0) rfl
  have y0 := b2.frozen 0
  have y1 := b2.frozen 1
  have y2 := b2.frozen 2
  have y3 := b2.frozen 3
  have y4 := b2.frozen 4
  go_upto_region 11 with fail
  have b2 := b2.far (p := ⟨w.heap.size, 1, none⟩) (by simp) (.int .u32 100)
  have hB := hB.setCell (p := ⟨w.heap.size, 1, none⟩) (Nat.le_refl _) (.int .u32 100)
  have b1 := b1.set_ 1 (.int .u32 100)
  clear k0 k1 p0 p1 p2 p3 p4 f0 f1 f2 f3 f4 z0 z1 z2 z3 z4 y0 y1 y2 y3 y4
  generalize W1.setCell ⟨w.heap.size, 1, none⟩ (.int .u32 100) = W2 at *
  have b1 : Blk W2 w.heap.size 26 #[.int .u32 x, .int .u32 100, .int .u32 b, .int .u32 0, .slice none 0 0] := b1
  have k0 := cell_later hB o0
  have k1 := cell_later hB o1
  have p0 := b1.cell 0 (v := .int .u32 x) rfl
  have p1 := b1.cell 1 (v := .int .u32 100) rfl
  have p2 := b1.cell 2 (v := .int .u32 b) rfl
  have p3 := b1.cell 3 (v := .int .u32 0) rfl
  have p4 := b1.cell 4 (v := .slice none 0 0) rfl
  have f0 := b1.frozen 0
  have f1 := b1.frozen 1
  have f2 := b1.frozen 2
  have f3 := b1.frozen 3
  have f4 := b1.frozen 4
  have z0 := b2.cell 0 (v := .int .u32 0) rfl
  have z1 := b2.cell 1 (v := .int .u32 0) rfl
  have z2 := b2.cell 2 (v := .int .u32 0) rfl
  have z3 := b2.cell 3 (v := .int .u32 0) rfl
  have z4 := b2.cell 4 (v := .slice none 0 0) rfl
  have y0 := b2.frozen 0
  have y1 := b2.frozen 1
  have y2 := b2.frozen 2
  have y3 := b2.frozen 3
  have y4 := b2.frozen 4
  go_wp2_with fail
  have b2 := (((((b2.set_ 0 (.int .u32 x)).set_ 1 (.int .u32 100)).set_ 2 (.int .u32 b)).set_ 3 (.int .u32 0)).set_ 4 (.slice none 0 0))
  have hB := (((((hB.setCell (p := ⟨w.heap.size + 1, 0, none⟩) (Nat.le_succ _) (.int .u32 x)).setCell (p := ⟨w.heap.size + 1, 1, none⟩) (Nat.le_succ _) (.int .u32 100)).setCell (p := ⟨w.heap.size + 1, 2, none⟩) (Nat.le_succ _) (.int .u32 b)).setCell (p := ⟨w.heap.size + 1, 3, none⟩) (Nat.le_succ _) (.int .u32 0)).setCell (p := ⟨w.heap.size + 1, 4, none⟩) (Nat.le_succ _) (.slice none 0 0))
  have e0 := b2.cell 0 (v := .int .u32 x) rfl
  have e1 := b2.cell 1 (v := .int .u32 100) rfl
  have e2 := b2.cell 2 (v := .int .u32 b) rfl
  have e3 := b2.cell 3 (v := .int .u32 0) rfl
  have e4 := b2.cell 4 (v := .slice none 0 0) rfl
  exact bodyPost_ret (v := .tuple #[.agg #[.int .u32 x, .int .u32 100, .int .u32 b, .int .u32 0, .slice none 0 0], .bool true, .bool true]) (by simp [results, Tryd.f77, go_sem, e0, e1, e2, e3, e4]) rfl ⟨rfl, hB⟩

set_option maxRecDepth 100000 in
set_option maxHeartbeats 2000000 in
theorem den_3done (x b d : Int) (ad : Addr) (c : Nat) (w : World) (o0 : w.cell? ad = some (.int .u32 0)) (o1 : w.cell? ⟨ad.block, ad.off + 1, none⟩ = some (.int .u32 b)) (o2 : w.cell? ⟨ad.block, ad.off + 2, none⟩ = some (.int .u32 d))  :
    Calls Tryd.prog 77 #[.agg #[.int .u32 x, .int .u32 0, .int .u32 0, .int .u32 0, .slice none 0 0], .slice (some ad) 3 c] w fun e w' => e = .returned (.tuple #[.agg #[.int .u32 x, .int .u32 100, .int .u32 b, .int .u32 d, .slice none 0 0], .bool false, .bool true]) ∧ Below w.heap.size w w' := by
  have b1 := (Blk.new w 26 #[.int .u32 x, .int .u32 0, .int .u32 0, .int .u32 0, .slice none 0 0]).alloc (.cells #[.int .u32 0, .int .u32 0, .int .u32 0, .int .u32 0, .slice none 0 0] 26)
  have b2 := Blk.new (w.alloc (.cells #[.int .u32 x, .int .u32 0, .int .u32 0, .int .u32 0, .slice none 0 0] 26)) 26 #[.int .u32 0, .int .u32 0, .int .u32 0, .int .u32 0, .slice none 0 0]
  have hB : Below w.heap.size w ((w.alloc (.cells #[.int .u32 x, .int .u32 0, .int .u32 0, .int .u32 0, .slice none 0 0] 26)).alloc (.cells #[.int .u32 0, .int .u32 0, .int .u32 0, .int .u32 0, .slice none 0 0] 26)) := ((Below.refl _ w).alloc (Nat.le_refl _) _).alloc (by simp) _
  rw [World.size_alloc] at b2
  go_enter Tryd.func77, Tryd.ntmps77
  go_upto_region 1 with fail
  generalize (w.alloc (.cells #[.int .u32 x, .int .u32 0, .int .u32 0, .int .u32 0, .slice none 0 0] 26)).alloc (.cells #[.int .u32 0, .int .u32 0, .int .u32 0, .int .u32 0, .slice none 0 0] 26) = W0 at *
  have k0 := cell_later hB o0
  have k1 := cell_later hB o1
  have k2 := cell_later hB o2
  have p0 := b1.cell 0 (v := .int .u32 x) rfl
  have p1 := b1.cell 1 (v := .int .u32 0) rfl
  have p2 := b1.cell 2 (v := .int .u32 0) rfl
  have p3 := b1.cell 3 (v := .int .u32 0) rfl
  have p4 := b1.cell 4 (v := .slice none 0 0) rfl
  have f0 := b1.frozen 0
  have f1 := b1.frozen 1
  have f2 := b1.frozen 2
  have f3 := b1.frozen 3
  have f4 := b1.frozen 4
  have z0 := b2.cell 0 (v := .int .u32 0) rfl
  have z1 := b2.cell 1 (v := .int .u32 0) rfl
  have z2 := b2.cell 2 (v := .int .u32 0) rfl
  have z3 := b2.cell 3 (v := .int .u32 0) rfl
  have z4 := b2.cell 4 (v := .slice none 0 0) rfl
  have y0 := b2.frozen 0
  have y1 := b2.frozen 1
  have y2 := b2.frozen 2
  have y3 := b2.frozen 3
  have y4 := b2.frozen 4
  go_upto_region 7 with fail
  have b2 := b2.far (p := ⟨w.heap.size, 2, none⟩) (by simp) (.int .u32 b)
  have hB := hB.setCell (p := ⟨w.heap.size, 2, none⟩) (Nat.le_refl _) (.int .u32 b)
  have b1 := b1.set_ 2 (.int .u32 b)
  clear k0 k1 k2 p0 p1 p2 p3 p4 f0 f1 f2 f3 f4 z0 z1 z2 z3 z4 y0 y1 y2 y3 y4
  generalize W0.setCell ⟨w.heap.size, 2, none⟩ (.int .u32 b) = W1 at *
  have b1 : Blk W1 w.heap.size 26 #[.int .u32 x, .int .u32 0, .int .u32 b, .int .u32 0, .slice none 0 0] := b1
  have k0 := cell_later hB o0
  have k1 := cell_later hB o1
  have k2 := cell_later hB o2
  have p0 := b1.cell 0 (v := .int .u32 x) rfl
  have p1 := b1.cell 1 (v := .int .u32 0) rfl
  have p2 := b1.cell 2 (v := .int .u32 b) rfl
  have p3 := b1.cell 3 (v := .int .u32 0) rfl
  have p4 := b1.cell 4 (v := .slice none 0 0) rfl
  have f0 := b1.frozen 0
  have f1 := b1.frozen 1
  have f2 := b1.frozen 2
  have f3 := b1.frozen 3
  have f4 := b1.frozen 4
  have z0 := b2.cell 0 (v := .int .u32 0) rfl
  have z1 := b2.cell 1 (v := .int .u32 0) rfl
  have z2 := b2.cell 2 (v := .int .u32 0) rfl
  have z3 := b2.cell 3 (v := .int .u32 0) rfl
  have z4 := b2.cell 4 (v := .slice none 0 0) rfl
  have y0 := b2.frozen 0
  have y1 := b2.frozen 1
  have y2 := b2.frozen 2
  have y3 := b2.frozen 3
  have y4 := b2.frozen 4
  go_upto_region 11 with fail
  have b2 := b2.far (p := ⟨w.heap.size, 1, none⟩) (by simp) (.int .u32 100)
  have hB := hB.setCell (p := ⟨w.heap.size, 1, none⟩) (Nat.le_refl _) (.int .u32 100)
  have b1 := b1.set_ 1 (.int .u32 100)
  clear k0 k1 k2 p0 p1 p2 p3 p4 f0 f1 f2 f3 f4 z0 z1 z2 z3 z4 y0 y1 y2 y3 y4
  generalize W1.setCell ⟨w.heap.size, 1, none⟩ (.int .u32 100) = W2 at *
  have b1 : Blk W2 w.heap.size 26 #[.int .u32 x, .int .u32 100, .int .u32 b, .int .u32 0, .slice none 0 0] := b1
  have k0 := cell_later hB o0
  have k1 := cell_later hB o1
  have k2 := cell_later hB o2
  have p0 := b1.cell 0 (v := .int .u32 x) rfl
  have p1 := b1.cell 1 (v := .int .u32 100) rfl
  have p2 := b1.cell 2 (v := .int .u32 b) rfl
  have p3 := b1.cell 3 (v := .int .u32 0) rfl
  have p4 := b1.cell 4 (v := .slice none 0 0) rfl
  have f0 := b1.frozen 0
  have f1 := b1.frozen 1
  have f2 := b1.frozen 2
  have f3 := b1.frozen 3
  have f4 := b1.frozen 4
  have z0 := b2.cell 0 (v := .int .u32 0) rfl
  have z1 := b2.cell 1 (v := .int .u32 0) rfl
  have z2 := b2.cell 2 (v := .int .u32 0) rfl
  have z3 := b2.cell 3 (v := .int .u32 0) rfl
  have z4 := b2.cell 4 (v := .slice none 0 0) rfl
  have y0 := b2.frozen 0
  have y1 := b2.frozen 1
  have y2 := b2.frozen 2
  have y3 := b2.frozen 3
  have y4 := b2.frozen 4
  go_upto_region 14 with fail
  have b2 := b2.far (p := ⟨w.heap.size, 3, none⟩) (by simp) (.int .u32 d)
  have hB := hB.setCell (p := ⟨w.heap.size, 3, none⟩) (Nat.le_refl _) (.int .u32 d)
  have b1 := b1.set_ 3 (.int .u32 d)
  clear k0 k1 k2 p0 p1 p2 p3 p4 f0 f1 f2 f3 f4 z0 z1 z2 z3 z4 y0 y1 y2 y3 y4
  generalize W2.setCell ⟨w.heap.size, 3, none⟩ (.int .u32 d) = W3 at *
  have b1 : Blk W3 w.heap.size 26 #[.int .u32 x, .int .u32 100, .int .u32 b, .int .u32 d, .slice none 0 0] := b1
  have k0 := cell_later hB o0
  have k1 := cell_later hB o1
  have k2 := cell_later hB o2
  have p0 := b1.cell 0 (v := .int .u32 x) rfl
  have p1 := b1.cell 1 (v := .int .u32 100) rfl
  have p2 := b1.cell 2 (v := .int .u32 b) rfl
  have p3 := b1.cell 3 (v := .int .u32 d) rfl
  have p4 := b1.cell 4 (v := .slice none 0 0) rfl
  have f0 := b1.frozen 0
  have f1 := b1.frozen 1
  have f2 := b1.frozen 2
  have f3 := b1.frozen 3
  have f4 := b1.frozen 4
  have z0 := b2.cell 0 (v := .int .u32 0) rfl
  have z1 := b2.cell 1 (v := .int .u32 0) rfl
  have z2 := b2.cell 2 (v := .int .u32 0) rfl
  have z3 := b2.cell 3 (v := .int .u32 0) rfl
  have z4 := b2.cell 4 (v := .slice none 0 0) rfl
  have y0 := b2.frozen 0
  have y1 := b2.frozen 1
  have y2 := b2.frozen 2
  have y3 := b2.frozen 3
  have y4 := b2.frozen 4
  go_wp2_with fail
  have b2 := (((((b2.set_ 0 (.int .u32 x)).set_ 1 (.int .u32 100)).set_ 2 (.int .u32 b)).set_ 3 (.int .u32 d)).set_ 4 (.slice none 0 0))
  have hB := (((((hB.setCell (p := ⟨w.heap.size + 1, 0, none⟩) (Nat.le_succ _) (.int .u32 x)).setCell (p := ⟨w.heap.size + 1, 1, none⟩) (Nat.le_succ _) (.int .u32 100)).setCell (p := ⟨w.heap.size + 1, 2, none⟩) (Nat.le_succ _) (.int .u32 b)).setCell (p := ⟨w.heap.size + 1, 3, none⟩) (Nat.le_succ _) (.int .u32 d)).setCell (p := ⟨w.heap.size + 1, 4, none⟩) (Nat.le_succ _) (.slice none 0 0))
  have e0 := b2.cell 0 (v := .int .u32 x) rfl
  have e1 := b2.cell 1 (v := .int .u32 100) rfl
  have e2 := b2.cell 2 (v := .int .u32 b) rfl
  have e3 := b2.cell 3 (v := .int .u32 d) rfl
  have e4 := b2.cell 4 (v := .slice none 0 0) rfl
  exact bodyPost_ret (v := .tuple #[.agg #[.int .u32 x, .int .u32 100, .int .u32 b, .int .u32 d, .slice none 0 0], .bool false, .bool true]) (by simp [results, Tryd.f77, go_sem, e0, e1, e2, e3, e4]) rfl ⟨rfl, hB⟩

set_option maxRecDepth 100000 in
set_option maxHeartbeats 2000000 in
theorem told_1 (x  : Int) (ad : Addr) (c : Nat) (w : World) (o0 : w.cell? ad = some (.int .u32 x))  :
    Calls Tryd.prog 59 #[.slice (some ad) 1 c] w fun e w' => e = .returned (.tuple #[.agg #[.int .u32 x, .int .u32 0, .int .u32 0, .int .u32 0, .slice none 0 0], .bool true, .bool true]) ∧ Below w.heap.size w w' := by
  have b2 := (Blk.new w 26 #[.int .u32 0, .int .u32 0, .int .u32 0, .int .u32 0, .slice none 0 0]).alloc (.cells #[.int .u32 x, .int .u32 0, .int .u32 0, .int .u32 0, .slice none 0 0] 26)
  have b1 := Blk.new (w.alloc (.cells #[.int .u32 0, .int .u32 0, .int .u32 0, .int .u32 0, .slice none 0 0] 26)) 26 #[.int .u32 x, .int .u32 0, .int .u32 0, .int .u32 0, .slice none 0 0]
  have hB0 := (Below.refl w.heap.size w).alloc (Nat.le_refl _) (.cells #[.int .u32 0, .int .u32 0, .int .u32 0, .int .u32 0, .slice none 0 0] 26)
  have k0 := cell_later hB0 o0
  have a0 := (Blk.new (w.alloc (.cells #[.int .u32 0, .int .u32 0, .int .u32 0, .int .u32 0, .slice none 0 0] 26)) 26 #[.int .u32 0, .int .u32 0, .int .u32 0, .int .u32 0, .slice none 0 0]).cell 0 (v := .int .u32 0) rfl
  have a1 := (Blk.new (w.alloc (.cells #[.int .u32 0, .int .u32 0, .int .u32 0, .int .u32 0, .slice none 0 0] 26)) 26 #[.int .u32 0, .int .u32 0, .int .u32 0, .int .u32 0, .slice none 0 0]).cell 1 (v := .int .u32 0) rfl
  have a2 := (Blk.new (w.alloc (.cells #[.int .u32 0, .int .u32 0, .int .u32 0, .int .u32 0, .slice none 0 0] 26)) 26 #[.int .u32 0, .int .u32 0, .int .u32 0, .int .u32 0, .slice none 0 0]).cell 2 (v := .int .u32 0) rfl
  have a3 := (Blk.new (w.alloc (.cells #[.int .u32 0, .int .u32 0, .int .u32 0, .int .u32 0, .slice none 0 0] 26)) 26 #[.int .u32 0, .int .u32 0, .int .u32 0, .int .u32 0, .slice none 0 0]).cell 3 (v := .int .u32 0) rfl
  have a4 := (Blk.new (w.alloc (.cells #[.int .u32 0, .int .u32 0, .int .u32 0, .int .u32 0, .slice none 0 0] 26)) 26 #[.int .u32 0, .int .u32 0, .int .u32 0, .int .u32 0, .slice none 0 0]).cell 4 (v := .slice none 0 0) rfl
  have hB := hB0.alloc hB0.size (.cells #[.int .u32 x, .int .u32 0, .int .u32 0, .int .u32 0, .slice none 0 0] 26)
  rw [World.size_alloc] at b1
  go_enter Tryd.func59, Tryd.ntmps59
  go_upto_region 3 with fail
  clear k0 a0 a1 a2 a3 a4 hB0
  generalize (w.alloc (.cells #[.int .u32 0, .int .u32 0, .int .u32 0, .int .u32 0, .slice none 0 0] 26)).alloc (.cells #[.int .u32 x, .int .u32 0, .int .u32 0, .int .u32 0, .slice none 0 0] 26) = W0 at *
  have k0 := cell_later hB o0
  have p0 := b1.cell 0 (v := .int .u32 x) rfl
  have p1 := b1.cell 1 (v := .int .u32 0) rfl
  have p2 := b1.cell 2 (v := .int .u32 0) rfl
  have p3 := b1.cell 3 (v := .int .u32 0) rfl
  have p4 := b1.cell 4 (v := .slice none 0 0) rfl
  have z0 := b2.cell 0 (v := .int .u32 0) rfl
  have z1 := b2.cell 1 (v := .int .u32 0) rfl
  have z2 := b2.cell 2 (v := .int .u32 0) rfl
  have z3 := b2.cell 3 (v := .int .u32 0) rfl
  have z4 := b2.cell 4 (v := .slice none 0 0) rfl
  have y0 := b2.frozen 0
  have y1 := b2.frozen 1
  have y2 := b2.frozen 2
  have y3 := b2.frozen 3
  have y4 := b2.frozen 4
  go_wp2_with fail
  have b2 := (((((b2.set_ 0 (.int .u32 x)).set_ 1 (.int .u32 0)).set_ 2 (.int .u32 0)).set_ 3 (.int .u32 0)).set_ 4 (.slice none 0 0))
  have hB := (((((hB.setCell (p := ⟨w.heap.size, 0, none⟩) (Nat.le_refl _) (.int .u32 x)).setCell (p := ⟨w.heap.size, 1, none⟩) (Nat.le_refl _) (.int .u32 0)).setCell (p := ⟨w.heap.size, 2, none⟩) (Nat.le_refl _) (.int .u32 0)).setCell (p := ⟨w.heap.size, 3, none⟩) (Nat.le_refl _) (.int .u32 0)).setCell (p := ⟨w.heap.size, 4, none⟩) (Nat.le_refl _) (.slice none 0 0))
  have e0 := b2.cell 0 (v := .int .u32 x) rfl
  have e1 := b2.cell 1 (v := .int .u32 0) rfl
  have e2 := b2.cell 2 (v := .int .u32 0) rfl
  have e3 := b2.cell 3 (v := .int .u32 0) rfl
  have e4 := b2.cell 4 (v := .slice none 0 0) rfl
  exact bodyPost_ret (v := .tuple #[.agg #[.int .u32 x, .int .u32 0, .int .u32 0, .int .u32 0, .slice none 0 0], .bool true, .bool true]) (by simp [results, Tryd.f59, go_sem, e0, e1, e2, e3, e4]) rfl ⟨rfl, hB⟩

set_option maxRecDepth 100000 in
set_option maxHeartbeats 2000000 in
theorem told_2no (x a : Int) (ad : Addr) (c : Nat) (w : World) (o0 : w.cell? ad = some (.int .u32 x)) (o1 : w.cell? ⟨ad.block, ad.off + 1, none⟩ = some (.int .u32 a)) (ha : ¬ a = 1) :
    Calls Tryd.prog 59 #[.slice (some ad) 2 c] w fun e w' => e = .returned (.tuple #[.agg #[.int .u32 x, .int .u32 0, .int .u32 0, .int .u32 0, .slice none 0 0], .bool false, .bool false]) ∧ Below w.heap.size w w' := by
  have b2 := (Blk.new w 26 #[.int .u32 0, .int .u32 0, .int .u32 0, .int .u32 0, .slice none 0 0]).alloc (.cells #[.int .u32 x, .int .u32 0, .int .u32 0, .int .u32 0, .slice none 0 0] 26)
  have b1 := Blk.new (w.alloc (.cells #[.int .u32 0, .int .u32 0, .int .u32 0, .int .u32 0, .slice none 0 0] 26)) 26 #[.int .u32 x, .int .u32 0, .int .u32 0, .int .u32 0, .slice none 0 0]
  have hB0 := (Below.refl w.heap.size w).alloc (Nat.le_refl _) (.cells #[.int .u32 0, .int .u32 0, .int .u32 0, .int .u32 0, .slice none 0 0] 26)
  have k0 := cell_later hB0 o0
  have a0 := (Blk.new (w.alloc (.cells #[.int .u32 0, .int .u32 0, .int .u32 0, .int .u32 0, .slice none 0 0] 26)) 26 #[.int .u32 0, .int .u32 0, .int .u32 0, .int .u32 0, .slice none 0 0]).cell 0 (v := .int .u32 0) rfl
  have a1 := (Blk.new (w.alloc (.cells #[.int .u32 0, .int .u32 0, .int .u32 0, .int .u32 0, .slice none 0 0] 26)) 26 #[.int .u32 0, .int .u32 0, .int .u32 0, .int .u32 0, .slice none 0 0]).cell 1 (v := .int .u32 0) rfl
  have a2 := (Blk.new (w.alloc (.cells #[.int .u32 0, .int .u32 0, .int .u32 0, .int .u32 0, .slice none 0 0] 26)) 26 #[.int .u32 0, .int .u32 0, .int .u32 0, .int .u32 0, .slice none 0 0]).cell 2 (v := .int .u32 0) rfl
  have a3 := (Blk.new (w.alloc (.cells #[.int .u32 0, .int .u32 0, .int .u32 0, .int .u32 0, .slice none 0 0] 26)) 26 #[.int .u32 0, .int .u32 0, .int .u32 0, .int .u32 0, .slice none 0 0]).cell 3 (v := .int .u32 0) rfl
  have a4 := (Blk.new (w.alloc (.cells #[.int .u32 0, .int .u32 0, .int .u32 0, .int .u32 0, .slice none 0 0] 26)) 26 #[.int .u32 0, .int .u32 0, .int .u32 0, .int .u32 0, .slice none 0 0]).cell 4 (v := .slice none 0 0) rfl
  have hB := hB0.alloc hB0.size (.cells #[.int .u32 x, .int .u32 0, .int .u32 0, .int .u32 0, .slice none 0 0] 26)
  rw [World.size_alloc] at b1
  go_enter Tryd.func59, Tryd.ntmps59
  go_upto_region 3 with fail
  clear k0 a0 a1 a2 a3 a4 hB0
  generalize (w.alloc (.cells #[.int .u32 0, .int .u32 0, .int .u32 0, .int .u32 0, .slice none 0 0] 26)).alloc (.cells #[.int .u32 x, .int .u32 0, .int .u32 0, .int .u32 0, .slice none 0 0] 26) = W0 at *
  have k0 := cell_later hB o0
  have k1 := cell_later hB o1
  have p0 := b1.cell 0 (v := .int .u32 x) rfl
  have p1 := b1.cell 1 (v := .int .u32 0) rfl
  have p2 := b1.cell 2 (v := .int .u32 0) rfl
  have p3 := b1.cell 3 (v := .int .u32 0) rfl
  have p4 := b1.cell 4 (v := .slice none 0 0) rfl
  have z0 := b2.cell 0 (v := .int .u32 0) rfl
  have z1 := b2.cell 1 (v := .int .u32 0) rfl
  have z2 := b2.cell 2 (v := .int .u32 0) rfl
  have z3 := b2.cell 3 (v := .int .u32 0) rfl
  have z4 := b2.cell 4 (v := .slice none 0 0) rfl
  have y0 := b2.frozen 0
  have y1 := b2.frozen 1
  have y2 := b2.frozen 2
  have y3 := b2.frozen 3
  have y4 := b2.frozen 4
  have t0 : (a != 1) = true := by simp [ha]
  clear ha
  go_wp2_with fail
  have b2 := (((((b2.set_ 0 (.int .u32 x)).set_ 1 (.int .u32 0)).set_ 2 (.int .u32 0)).set_ 3 (.int .u32 0)).set_ 4 (.slice none 0 0))
  have hB := (((((hB.setCell (p := ⟨w.heap.size, 0, none⟩) (Nat.le_refl _) (.int .u32 x)).setCell (p := ⟨w.heap.size, 1, none⟩) (Nat.le_refl _) (.int .u32 0)).setCell (p := ⟨w.heap.size, 2, none⟩) (Nat.le_refl _) (.int .u32 0)).setCell (p := ⟨w.heap.size, 3, none⟩) (Nat.le_refl _) (.int .u32 0)).setCell (p := ⟨w.heap.size, 4, none⟩) (Nat.le_refl _) (.slice none 0 0))
  have e0 := b2.cell 0 (v := .int .u32 x) rfl
  have e1 := b2.cell 1 (v := .int .u32 0) rfl
  have e2 := b2.cell 2 (v := .int .u32 0) rfl
  have e3 := b2.cell 3 (v := .int .u32 0) rfl
  have e4 := b2.cell 4 (v := .slice none 0 0) rfl
  exact bodyPost_ret (v := .tuple #[.agg #[.int .u32 x, .int .u32 0, .int .u32 0, .int .u32 0, .slice none 0 0], .bool false, .bool false]) (by simp [results, Tryd.f59, go_sem, e0, e1, e2, e3, e4]) rfl ⟨rfl, hB⟩

set_option maxRecDepth 100000 in
set_option maxHeartbeats 2000000 in
theorem told_2more (x  : Int) (ad : Addr) (c : Nat) (w : World) (o0 : w.cell? ad = some (.int .u32 x)) (o1 : w.cell? ⟨ad.block, ad.off + 1, none⟩ = some (.int .u32 1))  :
    Calls Tryd.prog 59 #[.slice (some ad) 2 c] w fun e w' => e = .returned (.tuple #[.agg #[.int .u32 x, .int .u32 0, .int .u32 0, .int .u32 0, .slice none 0 0], .bool true, .bool true]) ∧ Below w.heap.size w w' := by
  have b2 := (Blk.new w 26 #[.int .u32 0, .int .u32 0, .int .u32 0, .int .u32 0, .slice none 0 0]).alloc (.cells #[.int .u32 x, .int .u32 0, .int .u32 0, .int .u32 0, .slice none 0 0] 26)
  have b1 := Blk.new (w.alloc (.cells #[.int .u32 0, .int .u32 0, .int .u32 0, .int .u32 0, .slice none 0 0] 26)) 26 #[.int .u32 x, .int .u32 0, .int .u32 0, .int .u32 0, .slice none 0 0]
  have hB0 := (Below.refl w.heap.size w).alloc (Nat.le_refl _) (.cells #[.int .u32 0, .int .u32 0, .int .u32 0, .int .u32 0, .slice none 0 0] 26)
  have k0 := cell_later hB0 o0
  have a0 := (Blk.new (w.alloc (.cells #[.int .u32 0, .int .u32 0, .int .u32 0, .int .u32 0, .slice none 0 0] 26)) 26 #[.int .u32 0, .int .u32 0, .int .u32 0, .int .u32 0, .slice none 0 0]).cell 0 (v := .int .u32 0) rfl
  have a1 := (Blk.new (w.alloc (.cells #[.int .u32 0, .int .u32 0, .int .u32 0, .int .u32 0, .slice none 0 0] 26)) 26 #[.int .u32 0, .int .u32 0, .int .u32 0, .int .u32 0, .slice none 0 0]).cell 1 (v := .int .u32 0) rfl
  have a2 := (Blk.new (w.alloc (.cells #[.int .u32 0, .int .u32 0, .int .u32 0, .int .u32 0, .slice none 0 0] 26)) 26 #[.int .u32 0, .int .u32 0, .int .u32 0, .int .u32 0, .slice none 0 0]).cell 2 (v := .int .u32 0) rfl
  have a3 := (Blk.new (w.alloc (.cells #[.int .u32 0, .int .u32 0, .int .u32 0, .int .u32 0, .slice none 0 0] 26)) 26 #[.int .u32 0, .int .u32 0, .int .u32 0, .int .u32 0, .slice none 0 0]).cell 3 (v := .int .u32 0) rfl
  have a4 := (Blk.new (w.alloc (.cells #[.int .u32 0, .int .u32 0, .int .u32 0, .int .u32 0, .slice none 0 0] 26)) 26 #[.int .u32 0, .int .u32 0, .int .u32 0, .int .u32 0, .slice none 0 0]).cell 4 (v := .slice none 0 0) rfl
  have hB := hB0.alloc hB0.size (.cells #[.int .u32 x, .int .u32 0, .int .u32 0, .int .u32 0, .slice none 0 0] 26)
  rw [World.size_alloc] at b1
  go_enter Tryd.func59, Tryd.ntmps59
  go_upto_region 3 with fail
  clear k0 a0 a1 a2 a3 a4 hB0
  generalize (w.alloc (.cells #[.int .u32 0, .int .u32 0, .int .u32 0, .int .u32 0, .slice none 0 0] 26)).alloc (.cells #[.int .u32 x, .int .u32 0, .int .u32 0, .int .u32 0, .slice none 0 0] 26) = W0 at *
  have k0 := cell_later hB o0
  have k1 := cell_later hB o1
  have p0 := b1.cell 0 (v := .int .u32 x) rfl
  have p1 := b1.cell 1 (v := .int .u32 0) rfl
  have p2 := b1.cell 2 (v := .int .u32 0) rfl
  have p3 := b1.cell 3 (v := .int .u32 0) rfl
  have p4 := b1.cell 4 (v := .slice none 0 0) rfl
  have z0 := b2.cell 0 (v := .int .u32 0) rfl
  have z1 := b2.cell 1 (v := .int .u32 0) rfl
  have z2 := b2.cell 2 (v := .int .u32 0) rfl
  have z3 := b2.cell 3 (v := .int .u32 0) rfl
  have z4 := b2.cell 4 (v := .slice none 0 0) rfl
  have y0 := b2.frozen 0
  have y1 := b2.frozen 1
  have y2 := b2.frozen 2
  have y3 := b2.frozen 3
  have y4 := b2.frozen 4
  go_wp2_with fail
  have b2 := (((((b2.set_ 0 (.int .u32 x)).set_ 1 (.int .u32 0)).set_ 2 (.int .u32 0)).set_ 3 (.int .u32 0)).set_ 4 (.slice none 0 0))
  have hB := (((((hB.setCell (p := ⟨w.heap.size, 0, none⟩) (Nat.le_refl _) (.int .u32 x)).setCell (p := ⟨w.heap.size, 1, none⟩) (Nat.le_refl _) (.int .u32 0)).setCell (p := ⟨w.heap.size, 2, none⟩) (Nat.le_refl _) (.int .u32 0)).setCell (p := ⟨w.heap.size, 3, none⟩) (Nat.le_refl _) (.int .u32 0)).setCell (p := ⟨w.heap.size, 4, none⟩) (Nat.le_refl _) (.slice none 0 0))
  have e0 := b2.cell 0 (v := .int .u32 x) rfl
  have e1 := b2.cell 1 (v := .int .u32 0) rfl
  have e2 := b2.cell 2 (v := .int .u32 0) rfl
  have e3 := b2.cell 3 (v := .int .u32 0) rfl
  have e4 := b2.cell 4 (v := .slice none 0 0) rfl
  exact bodyPost_ret (v := .tuple #[.agg #[.int .u32 x, .int .u32 0, .int .u32 0, .int .u32 0, .slice none 0 0], .bool true, .bool true]) (by simp [results, Tryd.f59, go_sem, e0, e1, e2, e3, e4]) rfl ⟨rfl, hB⟩

set_option maxRecDepth 100000 in
set_option maxHeartbeats 2000000 in
theorem told_3no (x a : Int) (ad : Addr) (c : Nat) (w : World) (o0 : w.cell? ad = some (.int .u32 x)) (o1 : w.cell? ⟨ad.block, ad.off + 1, none⟩ = some (.int .u32 1)) (o2 : w.cell? ⟨ad.block, ad.off + 2, none⟩ = some (.int .u32 a)) (g1 : 1 < a) :
    Calls Tryd.prog 59 #[.slice (some ad) 3 c] w fun e w' => e = .returned (.tuple #[.agg #[.int .u32 x, .int .u32 0, .int .u32 0, .int .u32 0, .slice none 0 0], .bool false, .bool false]) ∧ Below w.heap.size w w' := by
  have b2 := (Blk.new w 26 #[.int .u32 0, .int .u32 0, .int .u32 0, .int .u32 0, .slice none 0 0]).alloc (.cells #[.int .u32 x, .int .u32 0, .int .u32 0, .int .u32 0, .slice none 0 0] 26)
  have b1 := Blk.new (w.alloc (.cells #[.int .u32 0, .int .u32 0, .int .u32 0, .int .u32 0, .slice none 0 0] 26)) 26 #[.int .u32 x, .int .u32 0, .int .u32 0, .int .u32 0, .slice none 0 0]
  have hB0 := (Below.refl w.heap.size w).alloc (Nat.le_refl _) (.cells #[.int .u32 0, .int .u32 0, .int .u32 0, .int .u32 0, .slice none 0 0] 26)
  have k0 := cell_later hB0 o0
  have a0 := (Blk.new (w.alloc (.cells #[.int .u32 0, .int .u32 0, .int .u32 0, .int .u32 0, .slice none 0 0] 26)) 26 #[.int .u32 0, .int .u32 0, .int .u32 0, .int .u32 0, .slice none 0 0]).cell 0 (v := .int .u32 0) rfl
  have a1 := (Blk.new (w.alloc (.cells #[.int .u32 0, .int .u32 0, .int .u32 0, .int .u32 0, .slice none 0 0] 26)) 26 #[.int .u32 0, .int .u32 0, .int .u32 0, .int .u32 0, .slice none 0 0]).cell 1 (v := .int .u32 0) rfl
  have a2 := (Blk.new (w.alloc (.cells #[.int .u32 0, .int .u32 0, .int .u32 0, .int .u32 0, .slice none 0 0] 26)) 26 #[.int .u32 0, .int .u32 0, .int .u32 0, .int .u32 0, .slice none 0 0]).cell 2 (v := .int .u32 0) rfl
  have a3 := (Blk.new (w.alloc (.cells #[.int .u32 0, .int .u32 0, .int .u32 0, .int .u32 0, .slice none 0 0] 26)) 26 #[.int .u32 0, .int .u32 0, .int .u32 0, .int .u32 0, .slice none 0 0]).cell 3 (v := .int .u32 0) rfl
  have a4 := (Blk.new (w.alloc (.cells #[.int .u32 0, .int .u32 0, .int .u32 0, .int .u32 0, .slice none 0 0] 26)) 26 #[.int .u32 0, .int .u32 0, .int .u32 0, .int .u32 0, .slice none 0 0]).cell 4 (v := .slice none 0 0) rfl
  have hB := hB0.alloc hB0.size (.cells #[.int .u32 x, .int .u32 0, .int .u32 0, .int .u32 0, .slice none 0 0] 26)
  rw [World.size_alloc] at b1
  go_enter Tryd.func59, Tryd.ntmps59
  go_upto_region 3 with fail
  clear k0 a0 a1 a2 a3 a4 hB0
  generalize (w.alloc (.cells #[.int .u32 0, .int .u32 0, .int .u32 0, .int .u32 0, .slice none 0 0] 26)).alloc (.cells #[.int .u32 x, .int .u32 0, .int .u32 0, .int .u32 0, .slice none 0 0] 26) = W0 at *
  have k0 := cell_later hB o0
  have k1 := cell_later hB o1
  have k2 := cell_later hB o2
  have p0 := b1.cell 0 (v := .int .u32 x) rfl
  have p1 := b1.cell 1 (v := .int .u32 0) rfl
  have p2 := b1.cell 2 (v := .int .u32 0) rfl
  have p3 := b1.cell 3 (v := .int .u32 0) rfl
  have p4 := b1.cell 4 (v := .slice none 0 0) rfl
  have z0 := b2.cell 0 (v := .int .u32 0) rfl
  have z1 := b2.cell 1 (v := .int .u32 0) rfl
  have z2 := b2.cell 2 (v := .int .u32 0) rfl
  have z3 := b2.cell 3 (v := .int .u32 0) rfl
  have z4 := b2.cell 4 (v := .slice none 0 0) rfl
  have y0 := b2.frozen 0
  have y1 := b2.frozen 1
  have y2 := b2.frozen 2
  have y3 := b2.frozen 3
  have y4 := b2.frozen 4
  go_wp2_with fail
  have b2 := (((((b2.set_ 0 (.int .u32 x)).set_ 1 (.int .u32 0)).set_ 2 (.int .u32 0)).set_ 3 (.int .u32 0)).set_ 4 (.slice none 0 0))
  have hB := (((((hB.setCell (p := ⟨w.heap.size, 0, none⟩) (Nat.le_refl _) (.int .u32 x)).setCell (p := ⟨w.heap.size, 1, none⟩) (Nat.le_refl _) (.int .u32 0)).setCell (p := ⟨w.heap.size, 2, none⟩) (Nat.le_refl _) (.int .u32 0)).setCell (p := ⟨w.heap.size, 3, none⟩) (Nat.le_refl _) (.int .u32 0)).setCell (p := ⟨w.heap.size, 4, none⟩) (Nat.le_refl _) (.slice none 0 0))
  have e0 := b2.cell 0 (v := .int .u32 x) rfl
  have e1 := b2.cell 1 (v := .int .u32 0) rfl
  have e2 := b2.cell 2 (v := .int .u32 0) rfl
  have e3 := b2.cell 3 (v := .int .u32 0) rfl
  have e4 := b2.cell 4 (v := .slice none 0 0) rfl
  exact bodyPost_ret (v := .tuple #[.agg #[.int .u32 x, .int .u32 0, .int .u32 0, .int .u32 0, .slice none 0 0], .bool false, .bool false]) (by simp [results, Tryd.f59, go_sem, e0, e1, e2, e3, e4]) rfl ⟨rfl, hB⟩

set_option maxRecDepth 100000 in
set_option maxHeartbeats 2000000 in
theorem told_3more (x a : Int) (ad : Addr) (c : Nat) (w : World) (o0 : w.cell? ad = some (.int .u32 x)) (o1 : w.cell? ⟨ad.block, ad.off + 1, none⟩ = some (.int .u32 1)) (o2 : w.cell? ⟨ad.block, ad.off + 2, none⟩ = some (.int .u32 a)) (g1 : ¬ 1 < a) :
    Calls Tryd.prog 59 #[.slice (some ad) 3 c] w fun e w' => e = .returned (.tuple #[.agg #[.int .u32 x, .int .u32 0, .int .u32 0, .int .u32 0, .slice none 0 0], .bool true, .bool true]) ∧ Below w.heap.size w w' := by
  have b2 := (Blk.new w 26 #[.int .u32 0, .int .u32 0, .int .u32 0, .int .u32 0, .slice none 0 0]).alloc (.cells #[.int .u32 x, .int .u32 0, .int .u32 0, .int .u32 0, .slice none 0 0] 26)
  have b1 := Blk.new (w.alloc (.cells #[.int .u32 0, .int .u32 0, .int .u32 0, .int .u32 0, .slice none 0 0] 26)) 26 #[.int .u32 x, .int .u32 0, .int .u32 0, .int .u32 0, .slice none 0 0]
  have hB0 := (Below.refl w.heap.size w).alloc (Nat.le_refl _) (.cells #[.int .u32 0, .int .u32 0, .int .u32 0, .int .u32 0, .slice none 0 0] 26)
  have k0 := cell_later hB0 o0
  have a0 := (Blk.new (w.alloc (.cells #[.int .u32 0, .int .u32 0, .int .u32 0, .int .u32 0, .slice none 0 0] 26)) 26 #[.int .u32 0, .int .u32 0, .int .u32 0, .int .u32 0, .slice none 0 0]).cell 0 (v := .int .u32 0) rfl
  have a1 := (Blk.new (w.alloc (.cells #[.int .u32 0, .int .u32 0, .int .u32 0, .int .u32 0, .slice none 0 0] 26)) 26 #[.int .u32 0, .int .u32 0, .int .u32 0, .int .u32 0, .slice none 0 0]).cell 1 (v := .int .u32 0) rfl
  have a2 := (Blk.new (w.alloc (.cells #[.int .u32 0, .int .u32 0, .int .u32 0, .int .u32 0, .slice none 0 0] 26)) 26 #[.int .u32 0, .int .u32 0, .int .u32 0, .int .u32 0, .slice none 0 0]).cell 2 (v := .int .u32 0) rfl
  have a3 := (Blk.new (w.alloc (.cells #[.int .u32 0, .int .u32 0, .int .u32 0, .int .u32 0, .slice none 0 0] 26)) 26 #[.int .u32 0, .int .u32 0, .int .u32 0, .int .u32 0, .slice none 0 0]).cell 3 (v := .int .u32 0) rfl
  have a4 := (Blk.new (w.alloc (.cells #[.int .u32 0, .int .u32 0, .int .u32 0, .int .u32 0, .slice none 0 0] 26)) 26 #[.int .u32 0, .int .u32 0, .int .u32 0, .int .u32 0, .slice none 0 0]).cell 4 (v := .slice none 0 0) rfl
  have hB := hB0.alloc hB0.size (.cells #[.int .u32 x, .int .u32 0, .int .u32 0, .int .u32 0, .slice none 0 0] 26)
  rw [World.size_alloc] at b1
  go_enter Tryd.func59, Tryd.ntmps59
  go_upto_region 3 with fail
  clear k0 a0 a1 a2 a3 a4 hB0
  generalize (w.alloc (.cells #[.int .u32 0, .int .u32 0, .int .u32 0, .int .u32 0, .slice none 0 0] 26)).alloc (.cells #[.int .u32 x, .int .u32 0, .int .u32 0, .int .u32 0, .slice none 0 0] 26) = W0 at *
  have k0 := cell_later hB o0
  have k1 := cell_later hB o1
  have k2 := cell_later hB o2
  have p0 := b1.cell 0 (v := .int .u32 x) rfl
  have p1 := b1.cell 1 (v := .int .u32 0) rfl
  have p2 := b1.cell 2 (v := .int .u32 0) rfl
  have p3 := b1.cell 3 (v := .int .u32 0) rfl
  have p4 := b1.cell 4 (v := .slice none 0 0) rfl
  have z0 := b2.cell 0 (v := .int .u32 0) rfl
  have z1 := b2.cell 1 (v := .int .u32 0) rfl
  have z2 := b2.cell 2 (v := .int .u32 0) rfl
  have z3 := b2.cell 3 (v := .int .u32 0) rfl
  have z4 := b2.cell 4 (v := .slice none 0 0) rfl
  have y0 := b2.frozen 0
  have y1 := b2.frozen 1
  have y2 := b2.frozen 2
  have y3 := b2.frozen 3
  have y4 := b2.frozen 4
  go_wp2_with fail
  have b2 := (((((b2.set_ 0 (.int .u32 x)).set_ 1 (.int .u32 0)).set_ 2 (.int .u32 0)).set_ 3 (.int .u32 0)).set_ 4 (.slice none 0 0))
  have hB := (((((hB.setCell (p := ⟨w.heap.size, 0, none⟩) (Nat.le_refl _) (.int .u32 x)).setCell (p := ⟨w.heap.size, 1, none⟩) (Nat.le_refl _) (.int .u32 0)).setCell (p := ⟨w.heap.size, 2, none⟩) (Nat.le_refl _) (.int .u32 0)).setCell (p := ⟨w.heap.size, 3, none⟩) (Nat.le_refl _) (.int .u32 0)).setCell (p := ⟨w.heap.size, 4, none⟩) (Nat.le_refl _) (.slice none 0 0))
  have e0 := b2.cell 0 (v := .int .u32 x) rfl
  have e1 := b2.cell 1 (v := .int .u32 0) rfl
  have e2 := b2.cell 2 (v := .int .u32 0) rfl
  have e3 := b2.cell 3 (v := .int .u32 0) rfl
  have e4 := b2.cell 4 (v := .slice none 0 0) rfl
  exact bodyPost_ret (v := .tuple #[.agg #[.int .u32 x, .int .u32 0, .int .u32 0, .int .u32 0, .slice none 0 0], .bool true, .bool true]) (by simp [results, Tryd.f59, go_sem, e0, e1, e2, e3, e4]) rfl ⟨rfl, hB⟩

set_option maxRecDepth 100000 in
set_option maxHeartbeats 2000000 in
theorem told_den (x  : Int) (ad : Addr) (c : Nat) (w : World) (n : Nat) (h lo hi : Int) (mo ok : Bool) (g4 : 4 ≤ n) (gc : n ≤ c) (G : ∀ wx, Below w.heap.size w wx → Calls Tryd.prog 77 #[.agg #[.int .u32 x, .int .u32 0, .int .u32 0, .int .u32 0, .slice none 0 0], .slice (some ⟨ad.block, ad.off + 3, none⟩) (n - 3) (c - 3)] wx fun e w' => e = .returned (.tuple #[.agg #[.int .u32 x, .int .u32 h, .int .u32 lo, .int .u32 hi, .slice none 0 0], .bool mo, .bool ok]) ∧ Below wx.heap.size wx w') (o0 : w.cell? ad = some (.int .u32 x)) (o1 : w.cell? ⟨ad.block, ad.off + 1, none⟩ = some (.int .u32 1)) (o2 : w.cell? ⟨ad.block, ad.off + 2, none⟩ = some (.int .u32 1))  :
    Calls Tryd.prog 59 #[.slice (some ad) n c] w fun e w' => e = .returned (.tuple #[.agg #[.int .u32 x, .int .u32 h, .int .u32 lo, .int .u32 hi, .slice none 0 0], .bool mo, .bool ok]) ∧ Below w.heap.size w w' := by
  have b2 := (Blk.new w 26 #[.int .u32 0, .int .u32 0, .int .u32 0, .int .u32 0, .slice none 0 0]).alloc (.cells #[.int .u32 x, .int .u32 0, .int .u32 0, .int .u32 0, .slice none 0 0] 26)
  have b1 := Blk.new (w.alloc (.cells #[.int .u32 0, .int .u32 0, .int .u32 0, .int .u32 0, .slice none 0 0] 26)) 26 #[.int .u32 x, .int .u32 0, .int .u32 0, .int .u32 0, .slice none 0 0]
  have hB0 := (Below.refl w.heap.size w).alloc (Nat.le_refl _) (.cells #[.int .u32 0, .int .u32 0, .int .u32 0, .int .u32 0, .slice none 0 0] 26)
  have k0 := cell_later hB0 o0
  have a0 := (Blk.new (w.alloc (.cells #[.int .u32 0, .int .u32 0, .int .u32 0, .int .u32 0, .slice none 0 0] 26)) 26 #[.int .u32 0, .int .u32 0, .int .u32 0, .int .u32 0, .slice none 0 0]).cell 0 (v := .int .u32 0) rfl
  have a1 := (Blk.new (w.alloc (.cells #[.int .u32 0, .int .u32 0, .int .u32 0, .int .u32 0, .slice none 0 0] 26)) 26 #[.int .u32 0, .int .u32 0, .int .u32 0, .int .u32 0, .slice none 0 0]).cell 1 (v := .int .u32 0) rfl
  have a2 := (Blk.new (w.alloc (.cells #[.int .u32 0, .int .u32 0, .int .u32 0, .int .u32 0, .slice none 0 0] 26)) 26 #[.int .u32 0, .int .u32 0, .int .u32 0, .int .u32 0, .slice none 0 0]).cell 2 (v := .int .u32 0) rfl
  have a3 := (Blk.new (w.alloc (.cells #[.int .u32 0, .int .u32 0, .int .u32 0, .int .u32 0, .slice none 0 0] 26)) 26 #[.int .u32 0, .int .u32 0, .int .u32 0, .int .u32 0, .slice none 0 0]).cell 3 (v := .int .u32 0) rfl
  have a4 := (Blk.new (w.alloc (.cells #[.int .u32 0, .int .u32 0, .int .u32 0, .int .u32 0, .slice none 0 0] 26)) 26 #[.int .u32 0, .int .u32 0, .int .u32 0, .int .u32 0, .slice none 0 0]).cell 4 (v := .slice none 0 0) rfl
  have hB := hB0.alloc hB0.size (.cells #[.int .u32 x, .int .u32 0, .int .u32 0, .int .u32 0, .slice none 0 0] 26)
  rw [World.size_alloc] at b1
  go_enter Tryd.func59, Tryd.ntmps59
  go_upto_region 3 with fail
  clear k0 a0 a1 a2 a3 a4 hB0
  generalize (w.alloc (.cells #[.int .u32 0, .int .u32 0, .int .u32 0, .int .u32 0, .slice none 0 0] 26)).alloc (.cells #[.int .u32 x, .int .u32 0, .int .u32 0, .int .u32 0, .slice none 0 0] 26) = W0 at *
  have k0 := cell_later hB o0
  have k1 := cell_later hB o1
  have k2 := cell_later hB o2
  have p0 := b1.cell 0 (v := .int .u32 x) rfl
  have p1 := b1.cell 1 (v := .int .u32 0) rfl
  have p2 := b1.cell 2 (v := .int .u32 0) rfl
  have p3 := b1.cell 3 (v := .int .u32 0) rfl
  have p4 := b1.cell 4 (v := .slice none 0 0) rfl
  have z0 := b2.cell 0 (v := .int .u32 0) rfl
  have z1 := b2.cell 1 (v := .int .u32 0) rfl
  have z2 := b2.cell 2 (v := .int .u32 0) rfl
  have z3 := b2.cell 3 (v := .int .u32 0) rfl
  have z4 := b2.cell 4 (v := .slice none 0 0) rfl
  have y0 := b2.frozen 0
  have y1 := b2.frozen 1
  have y2 := b2.frozen 2
  have y3 := b2.frozen 3
  have y4 := b2.frozen 4
  have u0x : ¬ n = 1 := by omega
  have u1x : ((n : Int) == 1) = false := by rw [beq_eq_false_iff_ne]; omega
  have u2x : ((n : Int) == 2) = false := by rw [beq_eq_false_iff_ne]; omega
  have u3x : ((n : Int) == 3) = false := by rw [beq_eq_false_iff_ne]; omega
  have u4x : 2 < n := by omega
  have u5x : 1 < n := by omega
  have u6x : 0 < n := by omega
  have u7x : ¬ c = 3 := by omega
  have u8x : 3 ≤ (n : Int) := by omega
  have hd := below_drawn (w := W0) (w1 := W0.drew) (n := 1) rfl
  have HG := Lib.hid (G W0.drew (below_then hB hd))
  clear G
  go_upto_region 14 with fail
  have b1 : Blk W0.drew _ _ _ := b1
  have b2 : Blk W0.drew _ _ _ := b2
  have hB := below_then hB hd
  have p0 := b1.cell 0 (v := .int .u32 x) rfl
  have p1 := b1.cell 1 (v := .int .u32 0) rfl
  have p2 := b1.cell 2 (v := .int .u32 0) rfl
  have p3 := b1.cell 3 (v := .int .u32 0) rfl
  have p4 := b1.cell 4 (v := .slice none 0 0) rfl
  clear hd z0 z1 z2 z3 z4 y0 y1 y2 y3 y4
  refine start_ (n := 10) (S := fun w' => w'.cell? ⟨w.heap.size + 1, 0, none⟩ = some (.int .u32 x) ∧ w'.cell? ⟨w.heap.size + 1, 1, none⟩ = some (.int .u32 0) ∧ w'.cell? ⟨w.heap.size + 1, 2, none⟩ = some (.int .u32 0) ∧ w'.cell? ⟨w.heap.size + 1, 3, none⟩ = some (.int .u32 0) ∧ w'.cell? ⟨w.heap.size + 1, 4, none⟩ = some (.slice none 0 0)) (ds := []) #[false, false, false, false, false, false, false, false, false, false] (by kernel_rfl) rfl rfl ⟨p0, p1, p2, p3, p4⟩ (fun hHeld => ?_)
  refine pure_ (i := 1) (N := some 37) (v := ?_) (a' := ?_) #[false, true, false, false, false, false, false, false, false, false] rfl rfl (by kernel_rfl) (fun _ _ _ h => h) (Or.inl ⟨by rfl, ?_⟩) ?_ ?_
  rotate_left
  · intro w'
    go_simp
    with_reducible rfl
  rotate_left
  · simp only [Act.put, List.setIfInBounds_toArray, List.set_cons_zero, List.set_cons_succ, i64_w, i32_w]
    rfl
  refine pure_ (i := 2) (N := some 38) (v := ?_) (a' := ?_) #[false, true, true, false, false, false, false, false, false, false] rfl rfl (by kernel_rfl) (fun _ _ _ h => h) (Or.inl ⟨by rfl, ?_⟩) ?_ ?_
  rotate_left
  · intro w'
    go_simp
    with_reducible rfl
  rotate_left
  · simp only [Act.put, List.setIfInBounds_toArray, List.set_cons_zero, List.set_cons_succ, i64_w, i32_w]
    rfl
  refine take_ (i := 0) (N := some 36) (v := ?_) (a' := ?_) #[true, true, true, false, false, false, false, false, false, false] rfl rfl (by kernel_rfl) (fun _ _ _ h => h) (Or.inl ⟨by rfl, ?_⟩) hHeld ?_ ?_
  rotate_left
  · rintro w' ⟨s0, s1, s2, s3, s4⟩
    go_simp
    with_reducible rfl
  rotate_left
  · simp only [Act.put, List.setIfInBounds_toArray, List.set_cons_zero, List.set_cons_succ, i64_w, i32_w]
    rfl
  refine one_ (i := 3) (N := some 39) #[true, true, true, true, false, false, false, false, false, false] rfl rfl (by kernel_rfl) (by decide) (fun K hK => ?_)
  refine goes_ Tryd.func77 (by kernel_rfl) rfl #[.agg #[.int .u32 x, .int .u32 0, .int .u32 0, .int .u32 0, .slice none 0 0], .slice (some ⟨ad.block, ad.off + 3, none⟩) (n - 3) (c - 3)] (by rfl) rfl rfl (by simp only [List.map_toArray, List.map_cons, List.map_nil]; rfl) ?_
  with_reducible refine (HG.out).mono ?_
  rintro e w5 ⟨rfl, hx5⟩
  refine ⟨_, rfl, ?_⟩
  have b1 := b1.below hx5
  have b2 := b2.below hx5
  have hB : Below w.heap.size w w5 := below_then hB hx5
  have p0 := b1.cell 0 (v := .int .u32 x) rfl
  have p1 := b1.cell 1 (v := .int .u32 0) rfl
  have p2 := b1.cell 2 (v := .int .u32 0) rfl
  have p3 := b1.cell 3 (v := .int .u32 0) rfl
  have p4 := b1.cell 4 (v := .slice none 0 0) rfl
  refine hK.out _ _ ⟨p0, p1, p2, p3, p4⟩ (fun hHeld => ?_)
  clear hK K
  refine norm_ (a' := ?_) ?_ ?_
  rotate_left
  · show Act.put _ (some 39) _ = _
    simp only [Act.put, List.setIfInBounds_toArray, List.set_cons_zero, List.set_cons_succ, i64_w, i32_w]
    rfl
  refine pure_ (i := 4) (N := some 40) (v := ?_) (a' := ?_) #[true, true, true, true, true, false, false, false, false, false] rfl rfl (by kernel_rfl) (fun _ _ _ h => h) (Or.inl ⟨by rfl, ?_⟩) ?_ ?_
  rotate_left
  · intro w'
    go_simp
    with_reducible rfl
  rotate_left
  · simp only [Act.put, List.setIfInBounds_toArray, List.set_cons_zero, List.set_cons_succ, i64_w, i32_w]
    rfl
  refine pure_ (i := 5) (N := some 41) (v := ?_) (a' := ?_) #[true, true, true, true, true, true, false, false, false, false] rfl rfl (by kernel_rfl) (fun _ _ _ h => h) (Or.inl ⟨by rfl, ?_⟩) ?_ ?_
  rotate_left
  · intro w'
    go_simp
    with_reducible rfl
  rotate_left
  · simp only [Act.put, List.setIfInBounds_toArray, List.set_cons_zero, List.set_cons_succ, i64_w, i32_w]
    rfl
  refine pure_ (i := 6) (N := some 42) (v := ?_) (a' := ?_) #[true, true, true, true, true, true, true, false, false, false] rfl rfl (by kernel_rfl) (fun _ _ _ h => h) (Or.inl ⟨by rfl, ?_⟩) ?_ ?_
  rotate_left
  · intro w'
    go_simp
    with_reducible rfl
  rotate_left
  · simp only [Act.put, List.setIfInBounds_toArray, List.set_cons_zero, List.set_cons_succ, i64_w, i32_w]
    rfl
  refine one_ (i := 7) (N := none) #[true, true, true, true, true, true, true, true, false, false] rfl rfl (by kernel_rfl) (by decide) (fun K hK => ?_)
  have z0 := b2.cell 0 (v := .int .u32 0) rfl
  have z1 := b2.cell 1 (v := .int .u32 0) rfl
  have z2 := b2.cell 2 (v := .int .u32 0) rfl
  have z3 := b2.cell 3 (v := .int .u32 0) rfl
  have z4 := b2.cell 4 (v := .slice none 0 0) rfl
  have y0 := b2.frozen 0
  have y1 := b2.frozen 1
  have y2 := b2.frozen 2
  have y3 := b2.frozen 3
  have y4 := b2.frozen 4
  refine skip_ (w1 := ?_) (by rfl) rfl ?_ ?_
  rotate_left
  · go_simp
    rfl
  have b2 := (((((b2.set_ 0 (.int .u32 x)).set_ 1 (.int .u32 h)).set_ 2 (.int .u32 lo)).set_ 3 (.int .u32 hi)).set_ 4 (.slice none 0 0))
  have hB := (((((hB.setCell (p := ⟨w.heap.size, 0, none⟩) (Nat.le_refl _) (.int .u32 x)).setCell (p := ⟨w.heap.size, 1, none⟩) (Nat.le_refl _) (.int .u32 h)).setCell (p := ⟨w.heap.size, 2, none⟩) (Nat.le_refl _) (.int .u32 lo)).setCell (p := ⟨w.heap.size, 3, none⟩) (Nat.le_refl _) (.int .u32 hi)).setCell (p := ⟨w.heap.size, 4, none⟩) (Nat.le_refl _) (.slice none 0 0))
  have b1 := (((((b1.far (p := ⟨w.heap.size, 0, none⟩) (Nat.ne_of_gt (Nat.lt_succ_self _)) (.int .u32 x)).far (p := ⟨w.heap.size, 1, none⟩) (Nat.ne_of_gt (Nat.lt_succ_self _)) (.int .u32 h)).far (p := ⟨w.heap.size, 2, none⟩) (Nat.ne_of_gt (Nat.lt_succ_self _)) (.int .u32 lo)).far (p := ⟨w.heap.size, 3, none⟩) (Nat.ne_of_gt (Nat.lt_succ_self _)) (.int .u32 hi)).far (p := ⟨w.heap.size, 4, none⟩) (Nat.ne_of_gt (Nat.lt_succ_self _)) (.slice none 0 0))
  have p0 := b1.cell 0 (v := .int .u32 x) rfl
  have p1 := b1.cell 1 (v := .int .u32 0) rfl
  have p2 := b1.cell 2 (v := .int .u32 0) rfl
  have p3 := b1.cell 3 (v := .int .u32 0) rfl
  have p4 := b1.cell 4 (v := .slice none 0 0) rfl
  refine hK.out _ _ ⟨p0, p1, p2, p3, p4⟩ (fun hHeld => ?_)
  clear hK K
  refine pure_ (i := 8) (N := some 3) (v := ?_) (a' := ?_) #[true, true, true, true, true, true, true, true, true, false] rfl rfl (by kernel_rfl) (fun _ _ _ h => h) (Or.inl ⟨by rfl, ?_⟩) ?_ ?_
  rotate_left
  · intro w'
    go_simp
    with_reducible rfl
  rotate_left
  · simp only [Act.put, List.setIfInBounds_toArray, List.set_cons_zero, List.set_cons_succ, i64_w, i32_w]
    rfl
  refine pure_ (i := 9) (N := some 4) (v := ?_) (a' := ?_) #[true, true, true, true, true, true, true, true, true, true] rfl rfl (by kernel_rfl) (fun _ _ _ h => h) (Or.inl ⟨by rfl, ?_⟩) ?_ ?_
  rotate_left
  · intro w'
    go_simp
    with_reducible rfl
  rotate_left
  · simp only [Act.put, List.setIfInBounds_toArray, List.set_cons_zero, List.set_cons_succ, i64_w, i32_w]
    rfl
  refine done_ (by kernel_rfl) ?_
  go_wp2_with fail
  have e0 := b2.cell 0 (v := .int .u32 x) rfl
  have e1 := b2.cell 1 (v := .int .u32 h) rfl
  have e2 := b2.cell 2 (v := .int .u32 lo) rfl
  have e3 := b2.cell 3 (v := .int .u32 hi) rfl
  have e4 := b2.cell 4 (v := .slice none 0 0) rfl
  exact bodyPost_ret (v := .tuple #[.agg #[.int .u32 x, .int .u32 h, .int .u32 lo, .int .u32 hi, .slice none 0 0], .bool mo, .bool ok]) (by simp [results, Tryd.f59, go_sem, e0, e1, e2, e3, e4]) rfl ⟨rfl, hB⟩

set_option maxRecDepth 100000 in
set_option maxHeartbeats 2000000 in
theorem told_acc (x  : Int) (ad : Addr) (c : Nat) (w : World) (n : Nat) (h lo hi : Int) (mo ok : Bool) (g4 : 4 ≤ n) (gc : n ≤ c) (G : ∀ wx, Below w.heap.size w wx → Calls Tryd.prog 78 #[.agg #[.int .u32 x, .int .u32 0, .int .u32 0, .int .u32 0, .slice none 0 0], .slice (some ⟨ad.block, ad.off + 3, none⟩) (n - 3) (c - 3)] wx fun e w' => e = .returned (.tuple #[.agg #[.int .u32 x, .int .u32 h, .int .u32 lo, .int .u32 hi, .slice none 0 0], .bool mo, .bool ok]) ∧ Below wx.heap.size wx w') (o0 : w.cell? ad = some (.int .u32 x)) (o1 : w.cell? ⟨ad.block, ad.off + 1, none⟩ = some (.int .u32 1)) (o2 : w.cell? ⟨ad.block, ad.off + 2, none⟩ = some (.int .u32 0))  :
    Calls Tryd.prog 59 #[.slice (some ad) n c] w fun e w' => e = .returned (.tuple #[.agg #[.int .u32 x, .int .u32 h, .int .u32 lo, .int .u32 hi, .slice none 0 0], .bool mo, .bool ok]) ∧ Below w.heap.size w w' := by
  have b2 := (Blk.new w 26 #[.int .u32 0, .int .u32 0, .int .u32 0, .int .u32 0, .slice none 0 0]).alloc (.cells #[.int .u32 x, .int .u32 0, .int .u32 0, .int .u32 0, .slice none 0 0] 26)
  have b1 := Blk.new (w.alloc (.cells #[.int .u32 0, .int .u32 0, .int .u32 0, .int .u32 0, .slice none 0 0] 26)) 26 #[.int .u32 x, .int .u32 0, .int .u32 0, .int .u32 0, .slice none 0 0]
  have hB0 := (Below.refl w.heap.size w).alloc (Nat.le_refl _) (.cells #[.int .u32 0, .int .u32 0, .int .u32 0, .int .u32 0, .slice none 0 0] 26)
  have k0 := cell_later hB0 o0
  have a0 := (Blk.new (w.alloc (.cells #[.int .u32 0, .int .u32 0, .int .u32 0, .int .u32 0, .slice none 0 0] 26)) 26 #[.int .u32 0, .int .u32 0, .int .u32 0, .int .u32 0, .slice none 0 0]).cell 0 (v := .int .u32 0) rfl
  have a1 := (Blk.new (w.alloc (.cells #[.int .u32 0, .int .u32 0, .int .u32 0, .int .u32 0, .slice none 0 0] 26)) 26 #[.int .u32 0, .int .u32 0, .int .u32 0, .int .u32 0, .slice none 0 0]).cell 1 (v := .int .u32 0) rfl
  have a2 := (Blk.new (w.alloc (.cells #[.int .u32 0, .int .u32 0, .int .u32 0, .int .u32 0, .slice none 0 0] 26)) 26 #[.int .u32 0, .int .u32 0, .int .u32 0, .int .u32 0, .slice none 0 0]).cell 2 (v := .int .u32 0) rfl
  have a3 := (Blk.new (w.alloc (.cells #[.int .u32 0, .int .u32 0, .int .u32 0, .int .u32 0, .slice none 0 0] 26)) 26 #[.int .u32 0, .int .u32 0, .int .u32 0, .int .u32 0, .slice none 0 0]).cell 3 (v := .int .u32 0) rfl
  have a4 := (Blk.new (w.alloc (.cells #[.int .u32 0, .int .u32 0, .int .u32 0, .int .u32 0, .slice none 0 0] 26)) 26 #[.int .u32 0, .int .u32 0, .int .u32 0, .int .u32 0, .slice none 0 0]).cell 4 (v := .slice none 0 0) rfl
  have hB := hB0.alloc hB0.size (.cells #[.int .u32 x, .int .u32 0, .int .u32 0, .int .u32 0, .slice none 0 0] 26)
  rw [World.size_alloc] at b1
  go_enter Tryd.func59, Tryd.ntmps59
  go_upto_region 3 with fail
  clear k0 a0 a1 a2 a3 a4 hB0
  generalize (w.alloc (.cells #[.int .u32 0, .int .u32 0, .int .u32 0, .int .u32 0, .slice none 0 0] 26)).alloc (.cells #[.int .u32 x, .int .u32 0, .int .u32 0, .int .u32 0, .slice none 0 0] 26) = W0 at *
  have k0 := cell_later hB o0
  have k1 := cell_later hB o1
  have k2 := cell_later hB o2
  have p0 := b1.cell 0 (v := .int .u32 x) rfl
  have p1 := b1.cell 1 (v := .int .u32 0) rfl
  have p2 := b1.cell 2 (v := .int .u32 0) rfl
  have p3 := b1.cell 3 (v := .int .u32 0) rfl
  have p4 := b1.cell 4 (v := .slice none 0 0) rfl
  have z0 := b2.cell 0 (v := .int .u32 0) rfl
  have z1 := b2.cell 1 (v := .int .u32 0) rfl
  have z2 := b2.cell 2 (v := .int .u32 0) rfl
  have z3 := b2.cell 3 (v := .int .u32 0) rfl
  have z4 := b2.cell 4 (v := .slice none 0 0) rfl
  have y0 := b2.frozen 0
  have y1 := b2.frozen 1
  have y2 := b2.frozen 2
  have y3 := b2.frozen 3
  have y4 := b2.frozen 4
  have u0x : ¬ n = 1 := by omega
  have u1x : ((n : Int) == 1) = false := by rw [beq_eq_false_iff_ne]; omega
  have u2x : ((n : Int) == 2) = false := by rw [beq_eq_false_iff_ne]; omega
  have u3x : ((n : Int) == 3) = false := by rw [beq_eq_false_iff_ne]; omega
  have u4x : 2 < n := by omega
  have u5x : 1 < n := by omega
  have u6x : 0 < n := by omega
  have u7x : ¬ c = 3 := by omega
  have u8x : 3 ≤ (n : Int) := by omega
  have hd := below_drawn (w := W0) (w1 := W0.drew) (n := 1) rfl
  have HG := Lib.hid (G W0.drew (below_then hB hd))
  clear G
  go_upto_region 15 with fail
  have b1 : Blk W0.drew _ _ _ := b1
  have b2 : Blk W0.drew _ _ _ := b2
  have hB := below_then hB hd
  have p0 := b1.cell 0 (v := .int .u32 x) rfl
  have p1 := b1.cell 1 (v := .int .u32 0) rfl
  have p2 := b1.cell 2 (v := .int .u32 0) rfl
  have p3 := b1.cell 3 (v := .int .u32 0) rfl
  have p4 := b1.cell 4 (v := .slice none 0 0) rfl
  clear hd z0 z1 z2 z3 z4 y0 y1 y2 y3 y4
  refine start_ (n := 10) (S := fun w' => w'.cell? ⟨w.heap.size + 1, 0, none⟩ = some (.int .u32 x) ∧ w'.cell? ⟨w.heap.size + 1, 1, none⟩ = some (.int .u32 0) ∧ w'.cell? ⟨w.heap.size + 1, 2, none⟩ = some (.int .u32 0) ∧ w'.cell? ⟨w.heap.size + 1, 3, none⟩ = some (.int .u32 0) ∧ w'.cell? ⟨w.heap.size + 1, 4, none⟩ = some (.slice none 0 0)) (ds := []) #[false, false, false, false, false, false, false, false, false, false] (by kernel_rfl) rfl rfl ⟨p0, p1, p2, p3, p4⟩ (fun hHeld => ?_)
  refine pure_ (i := 1) (N := some 44) (v := ?_) (a' := ?_) #[false, true, false, false, false, false, false, false, false, false] rfl rfl (by kernel_rfl) (fun _ _ _ h => h) (Or.inl ⟨by rfl, ?_⟩) ?_ ?_
  rotate_left
  · intro w'
    go_simp
    with_reducible rfl
  rotate_left
  · simp only [Act.put, List.setIfInBounds_toArray, List.set_cons_zero, List.set_cons_succ, i64_w, i32_w]
    rfl
  refine pure_ (i := 2) (N := some 45) (v := ?_) (a' := ?_) #[false, true, true, false, false, false, false, false, false, false] rfl rfl (by kernel_rfl) (fun _ _ _ h => h) (Or.inl ⟨by rfl, ?_⟩) ?_ ?_
  rotate_left
  · intro w'
    go_simp
    with_reducible rfl
  rotate_left
  · simp only [Act.put, List.setIfInBounds_toArray, List.set_cons_zero, List.set_cons_succ, i64_w, i32_w]
    rfl
  refine take_ (i := 0) (N := some 43) (v := ?_) (a' := ?_) #[true, true, true, false, false, false, false, false, false, false] rfl rfl (by kernel_rfl) (fun _ _ _ h => h) (Or.inl ⟨by rfl, ?_⟩) hHeld ?_ ?_
  rotate_left
  · rintro w' ⟨s0, s1, s2, s3, s4⟩
    go_simp
    with_reducible rfl
  rotate_left
  · simp only [Act.put, List.setIfInBounds_toArray, List.set_cons_zero, List.set_cons_succ, i64_w, i32_w]
    rfl
  refine one_ (i := 3) (N := some 46) #[true, true, true, true, false, false, false, false, false, false] rfl rfl (by kernel_rfl) (by decide) (fun K hK => ?_)
  refine goes_ Tryd.func78 (by kernel_rfl) rfl #[.agg #[.int .u32 x, .int .u32 0, .int .u32 0, .int .u32 0, .slice none 0 0], .slice (some ⟨ad.block, ad.off + 3, none⟩) (n - 3) (c - 3)] (by rfl) rfl rfl (by simp only [List.map_toArray, List.map_cons, List.map_nil]; rfl) ?_
  with_reducible refine (HG.out).mono ?_
  rintro e w5 ⟨rfl, hx5⟩
  refine ⟨_, rfl, ?_⟩
  have b1 := b1.below hx5
  have b2 := b2.below hx5
  have hB : Below w.heap.size w w5 := below_then hB hx5
  have p0 := b1.cell 0 (v := .int .u32 x) rfl
  have p1 := b1.cell 1 (v := .int .u32 0) rfl
  have p2 := b1.cell 2 (v := .int .u32 0) rfl
  have p3 := b1.cell 3 (v := .int .u32 0) rfl
  have p4 := b1.cell 4 (v := .slice none 0 0) rfl
  refine hK.out _ _ ⟨p0, p1, p2, p3, p4⟩ (fun hHeld => ?_)
  clear hK K
  refine norm_ (a' := ?_) ?_ ?_
  rotate_left
  · show Act.put _ (some 46) _ = _
    simp only [Act.put, List.setIfInBounds_toArray, List.set_cons_zero, List.set_cons_succ, i64_w, i32_w]
    rfl
  refine pure_ (i := 4) (N := some 47) (v := ?_) (a' := ?_) #[true, true, true, true, true, false, false, false, false, false] rfl rfl (by kernel_rfl) (fun _ _ _ h => h) (Or.inl ⟨by rfl, ?_⟩) ?_ ?_
  rotate_left
  · intro w'
    go_simp
    with_reducible rfl
  rotate_left
  · simp only [Act.put, List.setIfInBounds_toArray, List.set_cons_zero, List.set_cons_succ, i64_w, i32_w]
    rfl
  refine pure_ (i := 5) (N := some 48) (v := ?_) (a' := ?_) #[true, true, true, true, true, true, false, false, false, false] rfl rfl (by kernel_rfl) (fun _ _ _ h => h) (Or.inl ⟨by rfl, ?_⟩) ?_ ?_
  rotate_left
  · intro w'
    go_simp
    with_reducible rfl
  rotate_left
  · simp only [Act.put, List.setIfInBounds_toArray, List.set_cons_zero, List.set_cons_succ, i64_w, i32_w]
    rfl
  refine pure_ (i := 6) (N := some 49) (v := ?_) (a' := ?_) #[true, true, true, true, true, true, true, false, false, false] rfl rfl (by kernel_rfl) (fun _ _ _ h => h) (Or.inl ⟨by rfl, ?_⟩) ?_ ?_
  rotate_left
  · intro w'
    go_simp
    with_reducible rfl
  rotate_left
  · simp only [Act.put, List.setIfInBounds_toArray, List.set_cons_zero, List.set_cons_succ, i64_w, i32_w]
    rfl
  refine one_ (i := 7) (N := none) #[true, true, true, true, true, true, true, true, false, false] rfl rfl (by kernel_rfl) (by decide) (fun K hK => ?_)
  have z0 := b2.cell 0 (v := .int .u32 0) rfl
  have z1 := b2.cell 1 (v := .int .u32 0) rfl
  have z2 := b2.cell 2 (v := .int .u32 0) rfl
  have z3 := b2.cell 3 (v := .int .u32 0) rfl
  have z4 := b2.cell 4 (v := .slice none 0 0) rfl
  have y0 := b2.frozen 0
  have y1 := b2.frozen 1
  have y2 := b2.frozen 2
  have y3 := b2.frozen 3
  have y4 := b2.frozen 4
  refine skip_ (w1 := ?_) (by rfl) rfl ?_ ?_
  rotate_left
  · go_simp
    rfl
  have b2 := (((((b2.set_ 0 (.int .u32 x)).set_ 1 (.int .u32 h)).set_ 2 (.int .u32 lo)).set_ 3 (.int .u32 hi)).set_ 4 (.slice none 0 0))
  have hB := (((((hB.setCell (p := ⟨w.heap.size, 0, none⟩) (Nat.le_refl _) (.int .u32 x)).setCell (p := ⟨w.heap.size, 1, none⟩) (Nat.le_refl _) (.int .u32 h)).setCell (p := ⟨w.heap.size, 2, none⟩) (Nat.le_refl _) (.int .u32 lo)).setCell (p := ⟨w.heap.size, 3, none⟩) (Nat.le_refl _) (.int .u32 hi)).setCell (p := ⟨w.heap.size, 4, none⟩) (Nat.le_refl _) (.slice none 0 0))
  have b1 := (((((b1.far (p := ⟨w.heap.size, 0, none⟩) (Nat.ne_of_gt (Nat.lt_succ_self _)) (.int .u32 x)).far (p := ⟨w.heap.size, 1, none⟩) (Nat.ne_of_gt (Nat.lt_succ_self _)) (.int .u32 h)).far (p := ⟨w.heap.size, 2, none⟩) (Nat.ne_of_gt (Nat.lt_succ_self _)) (.int .u32 lo)).far (p := ⟨w.heap.size, 3, none⟩) (Nat.ne_of_gt (Nat.lt_succ_self _)) (.int .u32 hi)).far (p := ⟨w.heap.size, 4, none⟩) (Nat.ne_of_gt (Nat.lt_succ_self _)) (.slice none 0 0))
  have p0 := b1.cell 0 (v := .int .u32 x) rfl
  have p1 := b1.cell 1 (v := .int .u32 0) rfl
  have p2 := b1.cell 2 (v := .int .u32 0) rfl
  have p3 := b1.cell 3 (v := .int .u32 0) rfl
  have p4 := b1.cell 4 (v := .slice none 0 0) rfl
  refine hK.out _ _ ⟨p0, p1, p2, p3, p4⟩ (fun hHeld => ?_)
  clear hK K
  refine pure_ (i := 8) (N := some 3) (v := ?_) (a' := ?_) #[true, true, true, true, true, true, true, true, true, false] rfl rfl (by kernel_rfl) (fun _ _ _ h => h) (Or.inl ⟨by rfl, ?_⟩) ?_ ?_
  rotate_left
  · intro w'
    go_simp
    with_reducible rfl
  rotate_left
  · simp only [Act.put, List.setIfInBounds_toArray, List.set_cons_zero, List.set_cons_succ, i64_w, i32_w]
    rfl
  refine pure_ (i := 9) (N := some 4) (v := ?_) (a' := ?_) #[true, true, true, true, true, true, true, true, true, true] rfl rfl (by kernel_rfl) (fun _ _ _ h => h) (Or.inl ⟨by rfl, ?_⟩) ?_ ?_
  rotate_left
  · intro w'
    go_simp
    with_reducible rfl
  rotate_left
  · simp only [Act.put, List.setIfInBounds_toArray, List.set_cons_zero, List.set_cons_succ, i64_w, i32_w]
    rfl
  refine done_ (by kernel_rfl) ?_
  go_wp2_with fail
  have e0 := b2.cell 0 (v := .int .u32 x) rfl
  have e1 := b2.cell 1 (v := .int .u32 h) rfl
  have e2 := b2.cell 2 (v := .int .u32 lo) rfl
  have e3 := b2.cell 3 (v := .int .u32 hi) rfl
  have e4 := b2.cell 4 (v := .slice none 0 0) rfl
  exact bodyPost_ret (v := .tuple #[.agg #[.int .u32 x, .int .u32 h, .int .u32 lo, .int .u32 hi, .slice none 0 0], .bool mo, .bool ok]) (by simp [results, Tryd.f59, go_sem, e0, e1, e2, e3, e4]) rfl ⟨rfl, hB⟩

end Go.Proofs.YtoodmjdafifbmaaDoor.Hand
