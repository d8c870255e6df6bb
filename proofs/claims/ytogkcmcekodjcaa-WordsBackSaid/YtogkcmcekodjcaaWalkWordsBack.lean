/- The statement WordsBack, walked: a number that was put is got, whatever stands behind it; of fewer bytes none is. -/
import Derived.Test.YtogkcmcekodjcaaApp
import Derived.Test.YtogkcmcekodjcaaAlive01
namespace Go.Proofs.Ytogkcmcekodjcaa.Hand
open Go.RowKit

set_option maxRecDepth 100000 in
set_option maxHeartbeats 2000000 in
theorem WordsBack_walk (a0 : Int) (A : Option Addr) (c : Nat) (l : List Int) (a2 : Int) (w : World) (h0 : 0 ≤ a0) (h1 : a0 < 4294967296) (hr : Rd w A l) (_hc : l.length ≤ c) (hsz : l.length ≤ 140737488351232) (h2 : 0 ≤ a2) (h3 : a2 < 256) :
    Calls Try.prog 6 #[.int .u32 a0, .slice A l.length c, .int .u8 a2] w fun e w' => e = .returned (.bool true) ∧ Below w.heap.size w w' := by
  go_enter Try.func6, Try.ntmps6
  go_wp2_with fail
  refine (alive01 w).mono ?_
  rintro e w1 ⟨rfl, hb⟩
  have H1 := beyond1 l.length 1 (w1.alloc (.cells #[.int .i64 l.length] 3)) w1.heap.size (by rw [cell_of_row _ _ _ _ _ _ (heap_alloc_new w1 _)]; rfl) hsz
  by_cases hm : 1048576 < (l.length : Int)
  · rw [decide_eq_true hm] at H1
    go_wp2_with fail
    refine H1.mono ?_
    rintro e w2 ⟨rfl, hw⟩
    have hb : Below w.heap.size w w2 := by rw [← hw]; exact hb.alloc hb.size _
    clear hw H1 hm
    go_wp2_with fail
    refine (alive01 w2).mono ?_
    rintro e w3 ⟨rfl, hb3⟩
    have hb : Below w.heap.size w w3 := below_then hb hb3
    go_wp2
    go_ret
    exact ⟨rfl, hb⟩
  · rw [decide_eq_false hm] at H1
    go_wp2_with fail
    refine H1.mono ?_
    rintro e w2 ⟨rfl, hw⟩
    have hb : Below w.heap.size w w2 := by rw [← hw]; exact hb.alloc hb.size _
    clear hw H1
    go_wp2_with fail
    refine (Put a0 h0 h1 w2).mono ?_
    rintro e w3 ⟨v, rfl, ho, hb3⟩
    have hb' : Below w.heap.size w w3 := below_then hb hb3
    obtain ⟨B, d, rfl, hd, _, hrd⟩ := ho.form
    have hm4 : 0 ≤ a2 % 4 := by omega
    have hm4' : a2 % 4 < 4 := by omega
    obtain ⟨k, hk⟩ := Int.eq_ofNat_of_zero_le hm4
    rw [be_length] at hd ⊢
    have hk4 : k < 4 := by omega
    have hlen : ((be a0 4).take k).length = k := by rw [List.length_take, be_length]; omega
    have c1 := Get B d ((be a0 4).take k) w3 (hrd.take k) (by omega)
    rw [get32_short (by omega), hlen] at c1
    rw [be_length] at ho
    go_wp2_with fail
    refine c1.mono ?_
    rintro e w4 ⟨rfl, rfl⟩
    go_wp2_with (at_builtin; refine wpList_app rfl _ _ rfl rfl _ w2.heap.size (.slice B 4 d) (be a0 4) rfl ho A c l rfl (hr.below hb') ?h1 hb3.size ?h2)
    case h1 => rw [be_length]; omega
    case h2 =>
      intro v' w4 ho4 hg4 _
      have hb4 : Below w.heap.size w w4 := ho.grown_to hb' hb.size hb'.size hg4
      obtain ⟨C, f, rfl, hf, _, hrd4⟩ := ho4.form
      have c2 := Get C f (be a0 4 ++ l) w4 hrd4 hf
      rw [get32_ok (by rw [List.length_append, be_length]; omega), num_be4 h0 h1] at c2
      rw [List.length_append] at c2
      clear ho4 hg4 hrd4 hf c1
      go_wp2_with fail
      refine c2.mono ?_
      rintro e w5 ⟨rfl, rfl⟩
      go_wp2
      go_ret
      exact ⟨rfl, hb4⟩
end Go.Proofs.Ytogkcmcekodjcaa.Hand
