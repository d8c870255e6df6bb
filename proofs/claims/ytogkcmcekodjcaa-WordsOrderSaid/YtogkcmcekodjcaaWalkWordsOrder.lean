/- The statement WordsOrder, walked: the bytes of a lesser number come first, byte by byte, of either kind. -/
import Derived.Test.YtogkcmcekodjcaaStr
import Derived.Test.YtogkcmcekodjcaaAlive01
namespace Go.Proofs.Ytogkcmcekodjcaa.Hand
open Go.RowKit

set_option maxRecDepth 100000 in
set_option maxHeartbeats 2000000 in
theorem WordsOrder_walk (a0 a1 : Int) (w : World) (h0 : 0 ≤ a0) (h1 : a0 < 18446744073709551616) (h2 : 0 ≤ a1) (h3 : a1 < 18446744073709551616) :
    Calls Try.prog 9 #[.int .u64 a0, .int .u64 a1] w fun e w' => e = .returned (.bool true) ∧ Below w.heap.size w w' := by
  have k0 : 0 ≤ a0 % 4294967296 := by omega
  have k1 : a0 % 4294967296 < 4294967296 := by omega
  have k2 : 0 ≤ a1 % 4294967296 := by omega
  have k3 : a1 % 4294967296 < 4294967296 := by omega
  go_enter Try.func9, Try.ntmps9
  go_wp2_with fail
  refine (PutLong a0 h0 h1 w).mono ?_
  rintro e w1 ⟨v, rfl, ho, hb1⟩
  obtain ⟨A1, c1, rfl, _, _, hr1⟩ := ho.form
  clear ho
  rw [be_length]
  go_wp2_with fail
  refine (PutLong a1 h2 h3 w1).mono ?_
  rintro e w2 ⟨v, rfl, ho, hb2⟩
  have hb2' := below_then hb1 hb2
  obtain ⟨A2, c2, rfl, _, _, hr2⟩ := ho.form
  clear ho
  rw [be_length]
  go_wp2_with fail
  refine (Put _ k0 k1 w2).mono ?_
  rintro e w3 ⟨v, rfl, ho, hb3⟩
  have hb3' := below_then hb2' hb3
  obtain ⟨A3, c3, rfl, _, _, hr3⟩ := ho.form
  clear ho
  rw [be_length]
  go_wp2_with fail
  refine (Put _ k2 k3 w3).mono ?_
  rintro e w4 ⟨v, rfl, ho, hb4⟩
  have hb4' := below_then hb3' hb4
  obtain ⟨A4, c4, rfl, _, _, hr4⟩ := ho.form
  clear ho
  rw [be_length]
  go_wp2_with fail
  refine (alive01 w4).mono ?_
  rintro e w5 ⟨rfl, hb5⟩
  have hb5' := below_then hb4' hb5
  have s1 := run_str_n (c := c1) ((((hr1.below hb2).below hb3).below hb4).below hb5) (be_length _ _)
  have s2 := run_str_n (c := c2) (((hr2.below hb3).below hb4).below hb5) (be_length _ _)
  have s3 := run_str_n (c := c3) ((hr3.below hb4).below hb5) (be_length _ _)
  have s4 := run_str_n (c := c4) (hr4.below hb5) (be_length _ _)
  have e1 : Op.bytesLess (strOf (be a0 8)).toList (strOf (be a1 8)).toList = decide (a0 < a1) := by
    rw [less_str, less_be, show (2 : Int) ^ (8 * 8) = 18446744073709551616 from rfl, Int.emod_eq_of_lt h0 h1, Int.emod_eq_of_lt h2 h3]
  have e2 : Op.bytesLess (strOf (be (a0 % 4294967296) 4)).toList (strOf (be (a1 % 4294967296) 4)).toList = decide (a0 % 4294967296 < a1 % 4294967296) := by
    rw [less_str, less_be, show (2 : Int) ^ (8 * 4) = 4294967296 from rfl, Int.emod_eq_of_lt k0 k1, Int.emod_eq_of_lt k2 k3]
  go_wp2
  go_ret
  exact ⟨rfl, hb5'⟩
end Go.Proofs.Ytogkcmcekodjcaa.Hand
