/- The statement WordsLongBack, walked: a long number that was put is got, whatever stands behind it; of fewer bytes none is. -/
import Derived.Deep.RegionHeld3
import Derived.Deep.DrawnRows
import Derived.Deep.DeepMust
import Derived.Test.YtogkcmcekodjcaaApp
import Derived.Test.YtogkcmcekodjcaaAlive01
namespace Go.Proofs.Ytogkcmcekodjcaa.Hand
open Go.RowKit

attribute [local go_sem ↓] Go.wp_at_zero Go.wp_at_succ

set_option maxRecDepth 100000 in
set_option maxHeartbeats 2000000 in
theorem WordsLongBack_walk (a0 : Int) (A : Option Addr) (c : Nat) (l : List Int) (a2 : Int) (w : World) (h0 : 0 ≤ a0) (h1 : a0 < 18446744073709551616) (hr : Rd w A l) (_hc : l.length ≤ c) (hsz : l.length ≤ 140737488351232) (h2 : 0 ≤ a2) (h3 : a2 < 256) :
    Calls Try.prog 7 #[.int .u64 a0, .slice A l.length c, .int .u8 a2] w fun e w' => e = .returned (.bool true) ∧ Below w.heap.size w w' := by
  go_enter Try.func7, Try.ntmps7
  go_wp2_with fail
  refine (alive01 w).mono ?_
  rintro e w1 ⟨rfl, hb⟩
  have H1 := beyond1 l.length 1 (w1.alloc (.cells #[.int .i64 l.length] 3)) w1.heap.size (by rw [cell_of_row _ _ _ _ _ _ (heap_alloc_new w1 _)]; rfl) hsz
  by_cases hm : 1048576 < (l.length : Int)
  · rw [decide_eq_true hm] at H1
    go_wp2_with fail
    refine H1.mono ?_
    rintro e w2 ⟨rfl, hw⟩
    have hb : Below w.heap.size w w2 := by rw [← hw]; exact hb.alloc hb.size _
    clear hw H1 hm
    go_wp2_with fail
    refine (alive01 w2).mono ?_
    rintro e w3 ⟨rfl, hb3⟩
    have hb : Below w.heap.size w w3 := below_then hb hb3
    go_wp2
    go_ret
    exact ⟨rfl, hb⟩
  · rw [decide_eq_false hm] at H1
    go_wp2_with fail
    refine H1.mono ?_
    rintro e w2 ⟨rfl, hw⟩
    have hb : Below w.heap.size w w2 := by rw [← hw]; exact hb.alloc hb.size _
    clear hw H1
    go_wp2_with fail
    refine (PutLong a0 h0 h1 w2).mono ?_
    rintro e w3 ⟨v, rfl, ho, hb3⟩
    have hb' : Below w.heap.size w w3 := below_then hb hb3
    obtain ⟨B, d, rfl, hd, _, hrd⟩ := ho.form
    rw [be_length] at hd ho ⊢
    have hd4 : (4 : Int) ≤ (d : Int) := by omega
    have hd8 : (8 : Int) ≤ (d : Int) := by omega
    have q0 : 0 ≤ a0 / 4294967296 := by omega
    have q1 : a0 / 4294967296 < 4294967296 := by omega
    have q2 : IntKind.u32.wrap (a0 / 4294967296) = a0 / 4294967296 := by rw [IntKind.wrap_u32]; omega
    have q3 : IntKind.u32.wrap a0 = a0 % 4294967296 := by rw [IntKind.wrap_u32]
    have r1 : 0 ≤ a0 % 4294967296 := by omega
    have r2 : a0 % 4294967296 < 4294967296 := by omega
    have hlt := (hrd.take 4)
    have hld := (hrd.drop 4 d (by rw [be_length]; exact hd))
    rw [be8_take] at hlt
    rw [be8_drop, if_neg (by omega)] at hld
    have tok1 : True := trivial
    have tok2 : True := trivial
    go_wp2_with fail
    go_region_held3 (fun _ => True) (trivial) (first | (go_at_call 20; have _t := tok1; clear tok1; refine (Put _ q0 q1 _).mono ?_; rintro e w4 ⟨v4, rfl, ho4, hb4⟩; obtain ⟨C4, d4, rfl, _, _, hr4⟩ := ho4.form; rw [be_length]; have hb4 := below_undrew hb4; have hld4 := hld.below hb4; have hlt4 := hlt.below hb4) | (go_at_call 22; have _t := tok2; clear tok2; refine (same_yes hlt4 hr4 rfl (be_length _ _) (be_length _ _) (by omega)).mono ?_; rintro e w5 ⟨rfl, n5, hw5⟩; have hb5 := below_drawn hw5; clear hw5; have hld5 := hld4.below hb5) | (go_at_call 20; go_must (refine (Put _ r1 r2 _).mono ?_); rintro e w6 ⟨v6, rfl, ho6, hb6⟩; obtain ⟨C6, d6, rfl, _, _, hr6⟩ := ho6.form; rw [be_length]; have hld6 := hld5.below hb6) | (go_at_call 22; refine (same_yes hld6 hr6 rfl (be_length _ _) (be_length _ _) (by omega)).mono ?_; rintro e w7 ⟨rfl, n7, hw7⟩; have hb7 := below_drawn hw7; clear hw7))
    have hm4 : 0 ≤ a2 % 8 := by omega
    have hm4' : a2 % 8 < 8 := by omega
    obtain ⟨k, hk⟩ := Int.eq_ofNat_of_zero_le hm4
    have hk4 : k < 8 := by omega
    have hrd7 : Rd w7 B (be a0 8) := (((hrd.below hb4).below hb5).below hb6).below hb7
    have ho7 : Own w7 w2.heap.size (.slice B 8 d) (be a0 8) := (((ho.below hb4).below hb5).below hb6).below hb7
    have hb7' : Below w.heap.size w w7 := below_then (below_then (below_then (below_then hb' hb4) hb5) hb6) hb7
    have hbx : w2.heap.size ≤ w7.heap.size := by have := hb3.size; have := hb4.size; have := hb5.size; have := hb6.size; have := hb7.size; omega
    clear hb4 hb5 hb6 hb7 ho4 ho6 hr4 hr6 hld4 hlt4 hld5 hld6
    have hlen : ((be a0 8).take k).length = k := by rw [List.length_take, be_length]; omega
    have c1 := GetLong B d ((be a0 8).take k) w7 (hrd7.take k) (by omega)
    rw [get64_short (by omega), hlen] at c1
    go_wp2_with fail
    refine c1.mono ?_
    rintro e w4 ⟨rfl, rfl⟩
    go_wp2_with (at_builtin; refine wpList_app rfl _ _ rfl rfl _ w2.heap.size (.slice B 8 d) (be a0 8) rfl ho7 A c l rfl (hr.below hb7') ?h1 hbx ?h2)
    case h1 => rw [be_length]; omega
    case h2 =>
      intro v' w4 ho4 hg4 _
      have hb4 : Below w.heap.size w w4 := ho7.grown_to hb7' hb.size hb7'.size hg4
      obtain ⟨C, f, rfl, hf, _, hrd4⟩ := ho4.form
      have c2 := GetLong C f (be a0 8 ++ l) w4 hrd4 hf
      rw [get64_ok (by rw [List.length_append, be_length]; omega), num_be8 h0 h1] at c2
      rw [List.length_append] at c2
      clear ho4 hg4 hrd4 hf c1
      go_wp2_with fail
      refine c2.mono ?_
      rintro e w5 ⟨rfl, rfl⟩
      go_wp2
      go_ret
      exact ⟨rfl, hb4⟩
end Go.Proofs.Ytogkcmcekodjcaa.Hand
