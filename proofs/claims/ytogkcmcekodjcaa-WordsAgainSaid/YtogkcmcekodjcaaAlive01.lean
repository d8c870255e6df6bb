/- The helper alive of the first chapter's statements: it returns true, and nothing that lay before has turned. -/
import Derived.Test.YtogkcmcekodjcaaHelp
import Derived.Test.YtogkcmcekodjcaaGet
import Derived.Test.YtogkcmcekodjcaaPuts
namespace Go.Proofs.Ytogkcmcekodjcaa.Hand
open Go.RowKit

set_option maxRecDepth 100000 in
set_option maxHeartbeats 2000000 in
theorem alive01 (w : World) : Calls Try.prog 19 #[] w fun e w' => e = .returned (.bool true) ∧ Below w.heap.size w w' := by
  go_enter Try.func19, Try.ntmps19
  go_wp2_with fail
  have e1 : get32F [255, 255, 255, 254, 7] = (4294967294, 0) := by decide
  have c1 := Get (some ⟨w.heap.size, 0, none⟩) 5 [255, 255, 255, 254, 7] _ (Rd.lit w _ (by unfold Bs; decide)) (by decide)
  rw [e1] at c1
  refine c1.mono ?_
  rintro e w1 ⟨rfl, hw⟩
  have hb : Below w.heap.size w w1 := by rw [← hw]; exact (Below.refl _ w).alloc (Nat.le_refl _) _
  clear hw c1 e1
  go_wp2_with fail
  have e1 : get32F [1, 2, 3] = (0, 4) := by decide
  have c1 := Get (some ⟨w1.heap.size, 0, none⟩) 3 [1, 2, 3] _ (Rd.lit w1 _ (by unfold Bs; decide)) (by decide)
  rw [e1] at c1
  refine c1.mono ?_
  rintro e w2 ⟨rfl, hw⟩
  have hb : Below w.heap.size w w2 := by rw [← hw]; exact hb.alloc hb.size _
  clear hw c1 e1
  go_wp2_with fail
  have e1 : get64F [1, 2, 3, 4, 5, 6, 7, 8] = (72623859790382856, 0) := by decide
  have c1 := GetLong (some ⟨w2.heap.size, 0, none⟩) 8 [1, 2, 3, 4, 5, 6, 7, 8] _ (Rd.lit w2 _ (by unfold Bs; decide)) (by decide)
  rw [e1] at c1
  refine c1.mono ?_
  rintro e w3 ⟨rfl, hw⟩
  have hb : Below w.heap.size w w3 := by rw [← hw]; exact hb.alloc hb.size _
  clear hw c1 e1
  go_wp2_with fail
  have e1 : getYesF [0, 0, 0, 2] = (false, 5) := by decide
  have c1 := GetYes (some ⟨w3.heap.size, 0, none⟩) 4 [0, 0, 0, 2] _ (Rd.lit w3 _ (by unfold Bs; decide)) (by decide)
  rw [e1] at c1
  refine c1.mono ?_
  rintro e w4 ⟨rfl, hw⟩
  have hb : Below w.heap.size w w4 := by rw [← hw]; exact hb.alloc hb.size _
  clear hw c1 e1
  go_wp2_with fail
  refine (Put 258 (by omega) (by omega) w4).mono ?_
  rintro e w4a ⟨v, rfl, ho, hb2⟩
  have hb : Below w.heap.size w w4a := below_then hb hb2
  obtain ⟨A, c, rfl, _, _, hrd⟩ := ho.form
  clear ho hb2
  rw [show be 258 4 = [0, 0, 1, 2] from by decide] at hrd ⊢
  have c1 := same A (some ⟨w4a.heap.size, 0, none⟩) c 4 [0, 0, 1, 2] [0, 0, 1, 2] _ (hrd.alloc _) (Rd.lit w4a _ (by unfold Bs; decide)) (by decide)
  rw [decide_eq_true rfl] at c1
  go_wp2_with fail
  refine c1.mono ?_
  rintro e w4b ⟨rfl, n, hw⟩
  have hb : Below w.heap.size w w4b := by rw [hw]; exact below_drewN (hb.alloc hb.size _) n
  clear hw c1 hrd
  go_wp2_with fail
  refine (PutLong 258 (by omega) (by omega) w4b).mono ?_
  rintro e w4ba ⟨v, rfl, ho, hb2⟩
  have hb : Below w.heap.size w w4ba := below_then hb hb2
  obtain ⟨A, c, rfl, _, _, hrd⟩ := ho.form
  clear ho hb2
  rw [show be 258 8 = [0, 0, 0, 0, 0, 0, 1, 2] from by decide] at hrd ⊢
  have c1 := same A (some ⟨w4ba.heap.size, 0, none⟩) c 8 [0, 0, 0, 0, 0, 0, 1, 2] [0, 0, 0, 0, 0, 0, 1, 2] _ (hrd.alloc _) (Rd.lit w4ba _ (by unfold Bs; decide)) (by decide)
  rw [decide_eq_true rfl] at c1
  go_wp2_with fail
  refine c1.mono ?_
  rintro e w4bb ⟨rfl, n, hw⟩
  have hb : Below w.heap.size w w4bb := by rw [hw]; exact below_drewN (hb.alloc hb.size _) n
  clear hw c1 hrd
  go_wp2_with fail
  refine (PutYes true w4bb).mono ?_
  rintro e w4bba ⟨v, rfl, ho, hb2⟩
  have hb : Below w.heap.size w w4bba := below_then hb hb2
  obtain ⟨A, c, rfl, _, _, hrd⟩ := ho.form
  clear ho hb2
  rw [show be (yesN true) 4 = [0, 0, 0, 1] from by decide] at hrd ⊢
  have c1 := same A (some ⟨w4bba.heap.size, 0, none⟩) c 4 [0, 0, 0, 1] [0, 0, 0, 1] _ (hrd.alloc _) (Rd.lit w4bba _ (by unfold Bs; decide)) (by decide)
  rw [decide_eq_true rfl] at c1
  go_wp2_with fail
  refine c1.mono ?_
  rintro e w4bbb ⟨rfl, n, hw⟩
  have hb : Below w.heap.size w w4bbb := by rw [hw]; exact below_drewN (hb.alloc hb.size _) n
  clear hw c1 hrd
  go_wp2
  go_ret
  exact ⟨rfl, hb⟩
end Go.Proofs.Ytogkcmcekodjcaa.Hand
