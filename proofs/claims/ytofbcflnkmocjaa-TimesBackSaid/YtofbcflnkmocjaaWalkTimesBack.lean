/- The statement TimesBack, walked: a point of time that may be, and was put, is got, whatever stands behind it; one that may not be is refused; of fewer bytes none is got. -/
import Derived.Test.YtofbcflnkmocjaaWalkTimesBytes
import Derived.Test.YtofbcflnkmocjaaWalkTimesLater
namespace Go.Proofs.Ytofbcflnkmocjaa.Hand
open Go.RowKit
set_option linter.unusedVariables false

theorem tgetv {A : Option Addr} {c k : Nat} {l : List Int} {w : World} {v : Value} (hr : Rd w A l) (hk : l.length = k) (hc : k ≤ c) (hv : tgetV l = v) :
    Calls Try.prog 20 #[.slice A k c] w fun e w' => e = .returned v ∧ Below w.heap.size w w' := by
  subst hk
  rw [← hv]
  exact tget A c l w hr hc
theorem tgetV_short {l : List Int} (h : l.length < 8) : tgetV l = .tuple #[.agg #[.int .u32 0, .int .u32 0], .int .i64 4] := by unfold tgetV; rw [if_pos h]
theorem num_tb {s n : Int} (hs : 0 ≤ s) (hs' : s < 4294967296) (hn : 0 ≤ n) (hn' : n < 4294967296) (l : List Int) : num (tb s n ++ l) 8 = s * 4294967296 + n := by
  rw [tb_be hn hn', num_be8 (by omega) (by omega)]
theorem tgetV_tb {s n : Int} (hs : 0 ≤ s) (hs' : s < 4294967296) (hn : 0 ≤ n) (hn' : n < 4294967296) (l : List Int) (h : n < 1000000000) : tgetV (tb s n ++ l) = .tuple #[.agg #[.int .u32 s, .int .u32 n], .int .i64 0] := by
  unfold tgetV
  have e1 : (s * 4294967296 + n) / 4294967296 = s := by omega
  have e2 : (s * 4294967296 + n) % 4294967296 = n := by omega
  rw [if_neg (by rw [List.length_append, tb_length]; omega), num_tb hs hs' hn hn', e1, e2, if_pos h]
theorem tgetV_tb_bad {s n : Int} (hs : 0 ≤ s) (hs' : s < 4294967296) (hn : 0 ≤ n) (hn' : n < 4294967296) (l : List Int) (h : ¬ n < 1000000000) : tgetV (tb s n ++ l) = .tuple #[.agg #[.int .u32 0, .int .u32 0], .int .i64 5] := by
  unfold tgetV
  have e2 : (s * 4294967296 + n) % 4294967296 = n := by omega
  rw [if_neg (by rw [List.length_append, tb_length]; omega), num_tb hs hs' hn hn', e2, if_neg h]

set_option maxRecDepth 100000 in
set_option maxHeartbeats 4000000 in
theorem TimesBack_far (s n : Int) (A : Option Addr) (c : Nat) (l : List Int) (a2 : Int) (w : World) (hs : 0 ≤ s) (hs' : s < 4294967296) (hn : 0 ≤ n) (hn' : n < 4294967296) (hr : Rd w A l) (hc : l.length ≤ c) (hsz : l.length ≤ 140737488351232) (h2 : 0 ≤ a2) (h3 : a2 < 256) (hm : 1048576 < (l.length : Int)) :
    Calls Try.prog 5 #[.agg #[.int .u32 s, .int .u32 n], .slice A l.length c, .int .u8 a2] w fun e w' => e = .returned (.bool true) ∧ Below w.heap.size w w' := by
  have Bt := Blk.new w 24 #[.int .u32 s, .int .u32 n]
  have hB : Below w.heap.size w (w.alloc (.cells #[.int .u32 s, .int .u32 n] 24)) := (Below.refl _ _).alloc (Nat.le_refl _) _
  go_enter Try.func5, Try.ntmps5
  go_wp2_with fail
  refine (alive09 _).mono ?_
  rintro e w1 ⟨rfl, hb⟩
  have Bt := (Bt.below hb).alloc (.cells #[.int .i64 l.length] 3)
  have hB := below_then hB hb
  clear hb
  have H1 := beyond1 l.length 1 (w1.alloc (.cells #[.int .i64 l.length] 3)) w1.heap.size (by rw [cell_of_row _ _ _ _ _ _ (heap_alloc_new w1 _)]; rfl) hsz
  rw [decide_eq_true hm] at H1
  go_wp2_with fail
  refine H1.mono ?_
  rintro e w2 ⟨rfl, hw⟩
  have hB : Below w.heap.size w w2 := by rw [← hw]; exact hB.alloc hB.size _
  clear hw H1 hm Bt
  go_wp2_with fail
  refine (alive09 w2).mono ?_
  rintro e w3 ⟨rfl, hb⟩
  have hB := below_then hB hb
  go_wp2
  go_ret
  exact ⟨rfl, hB⟩

set_option maxRecDepth 100000 in
set_option maxHeartbeats 4000000 in
theorem TimesBack_ok (s n : Int) (A : Option Addr) (c : Nat) (l : List Int) (a2 : Int) (w : World) (hs : 0 ≤ s) (hs' : s < 4294967296) (hn : 0 ≤ n) (hn' : n < 4294967296) (hr : Rd w A l) (hc : l.length ≤ c) (hsz : l.length ≤ 140737488351232) (h2 : 0 ≤ a2) (h3 : a2 < 256) (hm : ¬ 1048576 < (l.length : Int)) (hq : n < 1000000000) :
    Calls Try.prog 5 #[.agg #[.int .u32 s, .int .u32 n], .slice A l.length c, .int .u8 a2] w fun e w' => e = .returned (.bool true) ∧ Below w.heap.size w w' := by
  have Bt := Blk.new w 24 #[.int .u32 s, .int .u32 n]
  have hB : Below w.heap.size w (w.alloc (.cells #[.int .u32 s, .int .u32 n] 24)) := (Below.refl _ _).alloc (Nat.le_refl _) _
  go_enter Try.func5, Try.ntmps5
  go_wp2_with fail
  refine (alive09 _).mono ?_
  rintro e w1 ⟨rfl, hb⟩
  have Bt := (Bt.below hb).alloc (.cells #[.int .i64 l.length] 3)
  have hB := below_then hB hb
  clear hb
  have H1 := beyond1 l.length 1 (w1.alloc (.cells #[.int .i64 l.length] 3)) w1.heap.size (by rw [cell_of_row _ _ _ _ _ _ (heap_alloc_new w1 _)]; rfl) hsz
  rw [decide_eq_false (show ¬ 1048576 < (l.length : Int) from by omega)] at H1
  go_wp2_with fail
  refine H1.mono ?_
  rintro e w2 ⟨rfl, hw⟩
  have hB : Below w.heap.size w w2 := by rw [← hw]; exact hB.alloc hB.size _
  have Bt : Blk w2 w.heap.size 24 #[.int .u32 s, .int .u32 n] := by rw [← hw]; exact Bt
  clear hw H1
  have k0 := Bt.cell 0 (v := .int .u32 s) rfl
  have k1 := Bt.cell 1 (v := .int .u32 n) rfl
  go_wp2_with fail
  refine (tput s n w2 hs hs' hn hn').mono ?_
  rintro e w3 ⟨v, rfl, ho, hb⟩
  have Bt := Bt.below hb
  have hB2 := hb.size
  have hB' := below_then hB hb
  clear hb k0 k1
  obtain ⟨B, d, rfl, hd, _, hrd⟩ := ho.form
  have hm8 : 0 ≤ a2 % 8 := by omega
  have hm8' : a2 % 8 < 8 := by omega
  obtain ⟨k, hk⟩ := Int.eq_ofNat_of_zero_le hm8
  rw [tb_length] at hd ⊢
  have hk8 : k < 8 := by omega
  have hlen : ((tb s n).take k).length = k := by rw [List.length_take, tb_length]; omega
  have c1 := tgetv (c := d) (hrd.take k) hlen (by omega) (tgetV_short (by omega))
  rw [tb_length] at ho
  go_wp2_with fail
  refine c1.mono ?_
  rintro e w4 ⟨rfl, hb⟩
  have Bt := (Bt.below hb).alloc (.cells #[.int .u32 0, .int .u32 0] 24)
  have ho := (ho.below hb).alloc (.cells #[.int .u32 0, .int .u32 0] 24)
  have hB' := below_then hB' hb
  have hB4 := Nat.le_trans hB2 hb.size
  have hB' := hB'.alloc hB'.size (.cells #[.int .u32 0, .int .u32 0] 24)
  have hs4 : w2.heap.size ≤ (w4.alloc (.cells #[.int .u32 0, .int .u32 0] 24)).heap.size := by rw [World.size_alloc]; omega
  clear hb c1
  go_wp2_with (at_builtin; refine wpList_app rfl _ _ rfl rfl _ w2.heap.size (.slice B 8 d) (tb s n) rfl ho A c l rfl (hr.below hB') ?h1 hs4 ?h2)
  case h1 => rw [tb_length]; omega
  case h2 =>
    intro v' w5 ho5 hg5 _
    have Bt := Bt.grown hg5 (ho.blk_ne Bt (by decide))
    have hB5 : Below w.heap.size w w5 := ho.grown_to hB' hB.size hB'.size hg5
    obtain ⟨C, f, rfl, hf, _, hrd5⟩ := ho5.form
    have hl5 : (tb s n ++ l).length = 8 + l.length := by rw [List.length_append, tb_length]
    have c2 := tgetv (c := f) hrd5 hl5 (by omega) (tgetV_tb hs hs' hn hn' l (by omega))
    rw [hl5]
    clear ho5 hg5 hrd5
    go_wp2_with fail
    refine c2.mono ?_
    rintro e w6 ⟨rfl, hb⟩
    have Bt := (Bt.below hb).alloc (.cells #[.int .u32 s, .int .u32 n] 24)
    have Bx := Blk.new w6 24 #[.int .u32 s, .int .u32 n]
    have hB := below_then hB5 hb
    have hB := hB.alloc hB.size (.cells #[.int .u32 s, .int .u32 n] 24)
    clear hb c2 hB5 hB'
    have k0 := Bt.cell 0 (v := .int .u32 s) rfl
    have k1 := Bt.cell 1 (v := .int .u32 n) rfl
    go_wp2_with fail
    refine (checkv (v := true) (decide_eq_true (by omega))).mono ?_
    rintro e w7 ⟨rfl, hb⟩
    have Bt := Bt.below hb
    have Bx := Bx.below hb
    have hB := below_then hB hb
    clear hb
    have k0 := Bt.cell 0 (v := .int .u32 s) rfl
    have k1 := Bt.cell 1 (v := .int .u32 n) rfl
    have k2 := Bx.cell 0 (v := .int .u32 s) rfl
    have k3 := Bx.cell 1 (v := .int .u32 n) rfl
    go_wp2
    go_ret
    exact ⟨rfl, hB⟩

set_option maxRecDepth 100000 in
set_option maxHeartbeats 4000000 in
theorem TimesBack_bad (s n : Int) (A : Option Addr) (c : Nat) (l : List Int) (a2 : Int) (w : World) (hs : 0 ≤ s) (hs' : s < 4294967296) (hn : 0 ≤ n) (hn' : n < 4294967296) (hr : Rd w A l) (hc : l.length ≤ c) (hsz : l.length ≤ 140737488351232) (h2 : 0 ≤ a2) (h3 : a2 < 256) (hm : ¬ 1048576 < (l.length : Int)) (hq : ¬ n < 1000000000) :
    Calls Try.prog 5 #[.agg #[.int .u32 s, .int .u32 n], .slice A l.length c, .int .u8 a2] w fun e w' => e = .returned (.bool true) ∧ Below w.heap.size w w' := by
  have Bt := Blk.new w 24 #[.int .u32 s, .int .u32 n]
  have hB : Below w.heap.size w (w.alloc (.cells #[.int .u32 s, .int .u32 n] 24)) := (Below.refl _ _).alloc (Nat.le_refl _) _
  go_enter Try.func5, Try.ntmps5
  go_wp2_with fail
  refine (alive09 _).mono ?_
  rintro e w1 ⟨rfl, hb⟩
  have Bt := (Bt.below hb).alloc (.cells #[.int .i64 l.length] 3)
  have hB := below_then hB hb
  clear hb
  have H1 := beyond1 l.length 1 (w1.alloc (.cells #[.int .i64 l.length] 3)) w1.heap.size (by rw [cell_of_row _ _ _ _ _ _ (heap_alloc_new w1 _)]; rfl) hsz
  rw [decide_eq_false (show ¬ 1048576 < (l.length : Int) from by omega)] at H1
  go_wp2_with fail
  refine H1.mono ?_
  rintro e w2 ⟨rfl, hw⟩
  have hB : Below w.heap.size w w2 := by rw [← hw]; exact hB.alloc hB.size _
  have Bt : Blk w2 w.heap.size 24 #[.int .u32 s, .int .u32 n] := by rw [← hw]; exact Bt
  clear hw H1
  have k0 := Bt.cell 0 (v := .int .u32 s) rfl
  have k1 := Bt.cell 1 (v := .int .u32 n) rfl
  go_wp2_with fail
  refine (tput s n w2 hs hs' hn hn').mono ?_
  rintro e w3 ⟨v, rfl, ho, hb⟩
  have Bt := Bt.below hb
  have hB2 := hb.size
  have hB' := below_then hB hb
  clear hb k0 k1
  obtain ⟨B, d, rfl, hd, _, hrd⟩ := ho.form
  have hm8 : 0 ≤ a2 % 8 := by omega
  have hm8' : a2 % 8 < 8 := by omega
  obtain ⟨k, hk⟩ := Int.eq_ofNat_of_zero_le hm8
  rw [tb_length] at hd ⊢
  have hk8 : k < 8 := by omega
  have hlen : ((tb s n).take k).length = k := by rw [List.length_take, tb_length]; omega
  have c1 := tgetv (c := d) (hrd.take k) hlen (by omega) (tgetV_short (by omega))
  rw [tb_length] at ho
  go_wp2_with fail
  refine c1.mono ?_
  rintro e w4 ⟨rfl, hb⟩
  have Bt := (Bt.below hb).alloc (.cells #[.int .u32 0, .int .u32 0] 24)
  have ho := (ho.below hb).alloc (.cells #[.int .u32 0, .int .u32 0] 24)
  have hB' := below_then hB' hb
  have hB4 := Nat.le_trans hB2 hb.size
  have hB' := hB'.alloc hB'.size (.cells #[.int .u32 0, .int .u32 0] 24)
  have hs4 : w2.heap.size ≤ (w4.alloc (.cells #[.int .u32 0, .int .u32 0] 24)).heap.size := by rw [World.size_alloc]; omega
  clear hb c1
  go_wp2_with (at_builtin; refine wpList_app rfl _ _ rfl rfl _ w2.heap.size (.slice B 8 d) (tb s n) rfl ho A c l rfl (hr.below hB') ?h1 hs4 ?h2)
  case h1 => rw [tb_length]; omega
  case h2 =>
    intro v' w5 ho5 hg5 _
    have Bt := Bt.grown hg5 (ho.blk_ne Bt (by decide))
    have hB5 : Below w.heap.size w w5 := ho.grown_to hB' hB.size hB'.size hg5
    obtain ⟨C, f, rfl, hf, _, hrd5⟩ := ho5.form
    have hl5 : (tb s n ++ l).length = 8 + l.length := by rw [List.length_append, tb_length]
    have c2 := tgetv (c := f) hrd5 hl5 (by omega) (tgetV_tb_bad hs hs' hn hn' l (by omega))
    rw [hl5]
    clear ho5 hg5 hrd5
    go_wp2_with fail
    refine c2.mono ?_
    rintro e w6 ⟨rfl, hb⟩
    have Bt := (Bt.below hb).alloc (.cells #[.int .u32 0, .int .u32 0] 24)
    have Bx := Blk.new w6 24 #[.int .u32 0, .int .u32 0]
    have hB := below_then hB5 hb
    have hB := hB.alloc hB.size (.cells #[.int .u32 0, .int .u32 0] 24)
    clear hb c2 hB5 hB'
    have k0 := Bt.cell 0 (v := .int .u32 s) rfl
    have k1 := Bt.cell 1 (v := .int .u32 n) rfl
    go_wp2_with fail
    refine (checkv (v := false) (decide_eq_false (by omega))).mono ?_
    rintro e w7 ⟨rfl, hb⟩
    have Bt := Bt.below hb
    have Bx := Bx.below hb
    have hB := below_then hB hb
    clear hb
    have k0 := Bt.cell 0 (v := .int .u32 s) rfl
    have k1 := Bt.cell 1 (v := .int .u32 n) rfl
    have k2 := Bx.cell 0 (v := .int .u32 0) rfl
    have k3 := Bx.cell 1 (v := .int .u32 0) rfl
    go_wp2
    go_ret
    exact ⟨rfl, hB⟩

theorem TimesBack_walk (s n : Int) (A : Option Addr) (c : Nat) (l : List Int) (a2 : Int) (w : World) (hs : 0 ≤ s) (hs' : s < 4294967296) (hn : 0 ≤ n) (hn' : n < 4294967296) (hr : Rd w A l) (hc : l.length ≤ c) (hsz : l.length ≤ 140737488351232) (h2 : 0 ≤ a2) (h3 : a2 < 256) :
    Calls Try.prog 5 #[.agg #[.int .u32 s, .int .u32 n], .slice A l.length c, .int .u8 a2] w fun e w' => e = .returned (.bool true) ∧ Below w.heap.size w w' := by
  by_cases hm : 1048576 < (l.length : Int)
  · exact TimesBack_far s n A c l a2 w hs hs' hn hn' hr hc hsz h2 h3 hm
  by_cases hq : n < 1000000000
  · exact TimesBack_ok s n A c l a2 w hs hs' hn hn' hr hc hsz h2 h3 hm hq
  · exact TimesBack_bad s n A c l a2 w hs hs' hn hn' hr hc hsz h2 h3 hm hq
end Go.Proofs.Ytofbcflnkmocjaa.Hand
