/- RepliesRows, walked. -/
import Derived.Test.YtikkcoidepfgmaaAlive07
namespace Go.Proofs.Ytikkcoidepfgmaa.Hand
open Go.RowKit
set_option linter.unusedVariables false
set_option linter.unusedSimpArgs false

theorem runG_chain : ∀ (s l r : List Int) (f : Nat), goes l s → runG (f + s.length) l (rw4 s ++ r) = runG f (l ++ s) r
  | [], l, r, f, _ => by rw [List.append_nil]; rfl
  | n :: s, l, r, f, hg => by
    obtain ⟨h1, h2, h3, h4, h5⟩ := hg
    have e : rw4 (n :: s) ++ r = (be n 4 ++ (rw4 s ++ r)).take (4 + (rw4 s ++ r).length) := by
      rw [List.take_of_length_le (by rw [List.length_append, be_length]; omega), rw4, List.append_assoc]
    rw [e, List.length_cons, show f + (s.length + 1) = (f + s.length) + 1 from by omega, runG_step _ h4.1 h4.2 h1 h2 h3 (by omega)]
    rw [List.take_of_length_le (by omega), runG_chain s (l ++ [n]) r f h5]
    simp
theorem goes_four {xid : Int} (hx : 0 ≤ xid ∧ xid < 4294967296) : goes [] [xid, 1, 1, 1] := by
  refine ⟨(rfl : doneKey ([] : List Int) = none), by simp, ?_, hx, ?_⟩
  · have e : keysOf [xid] = [0, 1, 2, 3, 4, 100, 101] := rfl
    rintro (h | ⟨h, h2, h3⟩)
    · exact absurd (e.symm.trans h) (by decide)
    · exact absurd (e.symm.trans h) (by decide)
  refine ⟨(rfl : doneKey ([xid] : List Int) = none), by simp, ?_, by decide, ?_⟩
  · have e : keysOf [xid, 1] = [0, 1, 2, 3, 4, 100, 101] := rfl
    rintro (h | ⟨h, h2, h3⟩)
    · exact absurd (e.symm.trans h) (by decide)
    · exact absurd (e.symm.trans h) (by decide)
  refine ⟨(rfl : doneKey ([xid, 1] : List Int) = none), by simp, ?_, by decide, ?_⟩
  · have e : keysOf [xid, 1, 1] = [100, 101] := rfl
    rintro (h | ⟨h, h2, h3⟩)
    · exact absurd (e.symm.trans h) (by decide)
    · exact absurd (e.symm.trans h) (by decide)
  refine ⟨(rfl : doneKey ([xid, 1, 1] : List Int) = none), by simp, ?_, by decide, ?_⟩
  · have e : keysOf [xid, 1, 1, 1] = [101] := rfl
    rintro (h | ⟨h, h2, h3⟩)
    · exact absurd (e.symm.trans h) (by decide)
    · exact absurd h2 (by simp)
  exact trivial
theorem putL_why (xid low : Int) : putL xid 101 low 0 [] = rw4 [xid, 1, 1, 1, low] := by
  rw [putL_good (by decide), List.append_nil]
  rfl
theorem putL_len_why (xid low : Int) : (putL xid 101 low 0 []).length = 20 := by rw [putL_why, rw4_length]; rfl
theorem got_whys {xid low : Int} (hx : 0 ≤ xid ∧ xid < 4294967296) (hl : 0 ≤ low ∧ low < 4294967296) (hw : 1 ≤ low ∧ low ≤ 7) : got (rw4 [xid, 1, 1, 1, low]) = .ok xid 101 low 0 [] := by
  rw [← putL_why]
  exact got_put ⟨by decide, .inr rfl, fun h => absurd h (by decide), fun _ => rfl, fun _ => hw⟩ hx hl (by decide) (by rw [putL_len_why]; decide)
theorem get_yes_n {A : Option Addr} {c n : Nat} {L : List Int} {w : World} {xid how low high : Int} {body : List Int} (hr : Rd w A L) (hL : L.length = n) (hc : n ≤ c) (hg : got L = .ok xid how low high body) :
    Calls Try.prog 10 #[.slice A n c] w fun e w' => ∃ Ab cb, e = .returned (.tuple #[.agg #[.int .u32 xid, .int .u32 how, .int .u32 low, .int .u32 high, .slice Ab body.length cb], .int .i64 0]) ∧ body.length ≤ cb ∧ Rd w' Ab body ∧ Below w.heap.size w w' := by
  subst hL
  exact get_yes A c L w hr hc hg
/-- A number that says why, but may not. -/
theorem got_why {xid low : Int} (hx : 0 ≤ xid ∧ xid < 4294967296) (hl : 0 ≤ low ∧ low < 4294967296) (hw : ¬ (1 ≤ low ∧ low ≤ 7)) : got (rw4 [xid, 1, 1, 1, low]) = .no 5 := by
  have hg : goes [] [xid, 1, 1, 1] := (goes_four hx)
  have h := runG_chain [xid, 1, 1, 1] [] (be low 4 ++ []) 17 hg
  have e : rw4 [xid, 1, 1, 1, low] = rw4 [xid, 1, 1, 1] ++ (be low 4 ++ []) := by simp [rw4]
  have hlen : (rw4 [xid, 1, 1, 1, low]).length = 20 := rw4_length _
  unfold got
  rw [if_pos (by rw [hlen]; decide), hlen, e]
  rw [show (20 + 1 : Nat) = 17 + [xid, 1, 1, 1].length from rfl, h]
  have hn : num (be low 4 ++ []) 4 = low := num_be4 hl.1 hl.2 _
  have hk : keysOf ([] ++ [xid, 1, 1, 1] ++ [low]) = [101] := rfl
  rw [runG_none (rfl : doneKey ([] ++ [xid, 1, 1, 1] : List Int) = none) (by rw [List.length_append, be_length]; decide) (by simp) (by rw [hn]; exact .inr ⟨hk, rfl, hw⟩)]


theorem U4.of3 {xid low high : Int} (hx : 0 ≤ xid ∧ xid < 4294967296) (hl : 0 ≤ low ∧ low < 4294967296) (hi : 0 ≤ high ∧ high < 4294967296) {m : List Int} (h : m.all (fun x => decide (x = xid) || decide (x = low) || decide (x = high) || (decide (0 ≤ x) && decide (x < 4294967296))) = true) : U4 m := fun y hy => by
  have := List.all_eq_true.1 h y hy
  simp at this
  rcases this with ((e | e) | e) | e
  · rw [e]; exact hx
  · rw [e]; exact hl
  · rw [e]; exact hi
  · exact e

set_option maxRecDepth 100000 in
set_option maxHeartbeats 4000000 in
theorem RepliesRows_walk (xid low high : Int) (w : World) (hx0 : 0 ≤ xid) (hx1 : xid < 4294967296) (hl0 : 0 ≤ low) (hl1 : low < 4294967296) (hi0 : 0 ≤ high) (hi1 : high < 4294967296) :
    Calls Try.prog 5 #[.int .u32 xid, .int .u32 low, .int .u32 high] w fun e w' => e = .returned (.bool true) ∧ Below w.heap.size w w' := by
  have HX := Lib.hid (And.intro hx0 hx1)
  have HL := Lib.hid (And.intro hl0 hl1)
  have HI0 := Lib.hid (And.intro hi0 hi1)
  have HB := Lib.hid (Below.refl w.heap.size w)
  clear hx0 hx1 hl0 hl1 hi0 hi1
  go_enter Try.func5, Try.ntmps5
  have hA := (Below.refl w.heap.size w).alloc (Nat.le_refl _) (.cells #[.int .u32 xid, .int .u32 1, .int .u32 0, .int .u32 0, .int .u32 0, .int .u32 0] 22)
  have HB := Lib.hid (below_then HB.out hA)
  have HR := Lib.hid (rowB (m := [xid, 1, 0, 0, 0, 0]) (n := 6) (c := 6) (Blk.new w 22 #[.int .u32 xid, .int .u32 1, .int .u32 0, .int .u32 0, .int .u32 0, .int .u32 0]) (U4.of3 HX.out HL.out HI0.out (by simp)) rfl (Nat.le_refl _) (by decide))
  clear hA
  go_wp2_with fail
  refine HR.out.mono ?_
  rintro e a1 ⟨Av, cv, rfl, hcv, _, hrv, hx⟩
  have HB := Lib.hid (below_then HB.out hx)
  have HI := Lib.hid (is_yes_n (xid := xid) (how := 0) (low := 0) (high := 0) (A := none) (c := 0) (k := 0) (n := 24) (body := []) (w := a1) HX.out (by decide) (by decide) (by decide) (Rd.nil _ _) rfl (Nat.le_refl _) (by decide) hrv rfl hcv rfl (by decide))
  clear hx hrv HR
  go_wp2_with fail
  refine HI.out.mono ?_
  rintro e w1 ⟨rfl, hx⟩
  have HB := Lib.hid (below_then HB.out hx)
  clear hx HI hcv
  have hA := (Below.refl w1.heap.size w1).alloc (Nat.le_refl _) (.cells #[.int .u32 xid, .int .u32 1, .int .u32 0, .int .u32 0, .int .u32 0, .int .u32 1] 22)
  have HB := Lib.hid (below_then HB.out hA)
  have HR := Lib.hid (rowB (m := [xid, 1, 0, 0, 0, 1]) (n := 6) (c := 6) (Blk.new w1 22 #[.int .u32 xid, .int .u32 1, .int .u32 0, .int .u32 0, .int .u32 0, .int .u32 1]) (U4.of3 HX.out HL.out HI0.out (by simp)) rfl (Nat.le_refl _) (by decide))
  clear hA
  go_wp2_with fail
  refine HR.out.mono ?_
  rintro e a2 ⟨Av, cv, rfl, hcv, _, hrv, hx⟩
  have HB := Lib.hid (below_then HB.out hx)
  have HI := Lib.hid (is_yes_n (xid := xid) (how := 1) (low := 0) (high := 0) (A := none) (c := 0) (k := 0) (n := 24) (body := []) (w := a2) HX.out (by decide) (by decide) (by decide) (Rd.nil _ _) rfl (Nat.le_refl _) (by decide) hrv rfl hcv rfl (by decide))
  clear hx hrv HR
  go_wp2_with fail
  refine HI.out.mono ?_
  rintro e w2 ⟨rfl, hx⟩
  have HB := Lib.hid (below_then HB.out hx)
  clear hx HI hcv
  have hA := (Below.refl w2.heap.size w2).alloc (Nat.le_refl _) (.cells #[.int .u32 xid, .int .u32 1, .int .u32 0, .int .u32 0, .int .u32 0, .int .u32 3] 22)
  have HB := Lib.hid (below_then HB.out hA)
  have HR := Lib.hid (rowB (m := [xid, 1, 0, 0, 0, 3]) (n := 6) (c := 6) (Blk.new w2 22 #[.int .u32 xid, .int .u32 1, .int .u32 0, .int .u32 0, .int .u32 0, .int .u32 3]) (U4.of3 HX.out HL.out HI0.out (by simp)) rfl (Nat.le_refl _) (by decide))
  clear hA
  go_wp2_with fail
  refine HR.out.mono ?_
  rintro e a3 ⟨Av, cv, rfl, hcv, _, hrv, hx⟩
  have HB := Lib.hid (below_then HB.out hx)
  have HI := Lib.hid (is_yes_n (xid := xid) (how := 3) (low := 0) (high := 0) (A := none) (c := 0) (k := 0) (n := 24) (body := []) (w := a3) HX.out (by decide) (by decide) (by decide) (Rd.nil _ _) rfl (Nat.le_refl _) (by decide) hrv rfl hcv rfl (by decide))
  clear hx hrv HR
  go_wp2_with fail
  refine HI.out.mono ?_
  rintro e w3 ⟨rfl, hx⟩
  have HB := Lib.hid (below_then HB.out hx)
  clear hx HI hcv
  have hA := (Below.refl w3.heap.size w3).alloc (Nat.le_refl _) (.cells #[.int .u32 xid, .int .u32 1, .int .u32 0, .int .u32 0, .int .u32 0, .int .u32 4] 22)
  have HB := Lib.hid (below_then HB.out hA)
  have HR := Lib.hid (rowB (m := [xid, 1, 0, 0, 0, 4]) (n := 6) (c := 6) (Blk.new w3 22 #[.int .u32 xid, .int .u32 1, .int .u32 0, .int .u32 0, .int .u32 0, .int .u32 4]) (U4.of3 HX.out HL.out HI0.out (by simp)) rfl (Nat.le_refl _) (by decide))
  clear hA
  go_wp2_with fail
  refine HR.out.mono ?_
  rintro e a4 ⟨Av, cv, rfl, hcv, _, hrv, hx⟩
  have HB := Lib.hid (below_then HB.out hx)
  have HI := Lib.hid (is_yes_n (xid := xid) (how := 4) (low := 0) (high := 0) (A := none) (c := 0) (k := 0) (n := 24) (body := []) (w := a4) HX.out (by decide) (by decide) (by decide) (Rd.nil _ _) rfl (Nat.le_refl _) (by decide) hrv rfl hcv rfl (by decide))
  clear hx hrv HR
  go_wp2_with fail
  refine HI.out.mono ?_
  rintro e w4 ⟨rfl, hx⟩
  have HB := Lib.hid (below_then HB.out hx)
  clear hx HI hcv
  have hA := (Below.refl w4.heap.size w4).alloc (Nat.le_refl _) (.cells #[.int .u32 xid, .int .u32 1, .int .u32 0, .int .u32 0, .int .u32 0, .int .u32 2, .int .u32 low, .int .u32 high] 22)
  have HB := Lib.hid (below_then HB.out hA)
  have HR := Lib.hid (rowB (m := [xid, 1, 0, 0, 0, 2, low, high]) (n := 8) (c := 8) (Blk.new w4 22 #[.int .u32 xid, .int .u32 1, .int .u32 0, .int .u32 0, .int .u32 0, .int .u32 2, .int .u32 low, .int .u32 high]) (U4.of3 HX.out HL.out HI0.out (by simp)) rfl (Nat.le_refl _) (by decide))
  clear hA
  go_wp2_with fail
  refine HR.out.mono ?_
  rintro e a5 ⟨Av, cv, rfl, hcv, _, hrv, hx⟩
  have HB := Lib.hid (below_then HB.out hx)
  have HI := Lib.hid (is_yes_n (xid := xid) (how := 2) (low := low) (high := high) (A := none) (c := 0) (k := 0) (n := 32) (body := []) (w := a5) HX.out (by decide) HL.out HI0.out (Rd.nil _ _) rfl (Nat.le_refl _) ⟨by decide, .inr rfl, fun h => absurd h (by decide), fun h => absurd h (by decide), fun h => absurd h (by decide)⟩ hrv rfl hcv rfl (by decide))
  clear hx hrv HR
  go_wp2_with fail
  refine HI.out.mono ?_
  rintro e w5 ⟨rfl, hx⟩
  have HB := Lib.hid (below_then HB.out hx)
  clear hx HI hcv
  have hA := (Below.refl w5.heap.size w5).alloc (Nat.le_refl _) (.cells #[.int .u32 xid, .int .u32 1, .int .u32 1, .int .u32 0, .int .u32 low, .int .u32 high] 22)
  have HB := Lib.hid (below_then HB.out hA)
  have HR := Lib.hid (rowB (m := [xid, 1, 1, 0, low, high]) (n := 6) (c := 6) (Blk.new w5 22 #[.int .u32 xid, .int .u32 1, .int .u32 1, .int .u32 0, .int .u32 low, .int .u32 high]) (U4.of3 HX.out HL.out HI0.out (by simp)) rfl (Nat.le_refl _) (by decide))
  clear hA
  go_wp2_with fail
  refine HR.out.mono ?_
  rintro e a6 ⟨Av, cv, rfl, hcv, _, hrv, hx⟩
  have HB := Lib.hid (below_then HB.out hx)
  have HI := Lib.hid (is_yes_n (xid := xid) (how := 100) (low := low) (high := high) (A := none) (c := 0) (k := 0) (n := 24) (body := []) (w := a6) HX.out (by decide) HL.out HI0.out (Rd.nil _ _) rfl (Nat.le_refl _) ⟨by decide, .inr rfl, fun h => absurd h (by decide), fun h => absurd h (by decide), fun h => absurd h (by decide)⟩ hrv rfl hcv rfl (by decide))
  clear hx hrv HR
  go_wp2_with fail
  refine HI.out.mono ?_
  rintro e w6 ⟨rfl, hx⟩
  have HB := Lib.hid (below_then HB.out hx)
  clear hx HI hcv
  by_cases hw : 1 ≤ low ∧ low ≤ 7
  · have HP := Lib.hid (Put_yes xid 101 low 0 none 0 [] w6 HX.out (by decide) HL.out (by decide) (Rd.nil _ _) (Nat.le_refl _) ⟨by decide, .inr rfl, fun h => absurd h (by decide), fun _ => rfl, fun _ => hw⟩ (by rw [putL_len_why]; decide))
    have HG := fun A c wx hr hc => Lib.hid (get_yes_n (A := A) (c := c) (n := 20) (L := rw4 [xid, 1, 1, 1, low]) (w := wx) (xid := xid) (how := 101) (low := low) (high := 0) (body := []) hr rfl hc (got_whys HX.out HL.out hw))
    have HW := Lib.hid hw
    clear hw
    go_wp2_with fail
    refine HP.out.mono ?_
    rintro e b1 ⟨Av, cv, rfl, _, _, _, hx⟩
    have hA := (Below.refl b1.heap.size b1).alloc (Nat.le_refl _) (.cells #[.int .u32 xid, .int .u32 1, .int .u32 1, .int .u32 1, .int .u32 low] 22)
    have HB := Lib.hid (below_then (below_then HB.out hx) hA)
    have HR := Lib.hid (rowB (m := [xid, 1, 1, 1, low]) (n := 5) (c := 5) (Blk.new b1 22 #[.int .u32 xid, .int .u32 1, .int .u32 1, .int .u32 1, .int .u32 low]) (U4.of3 HX.out HL.out HI0.out (by simp)) rfl (Nat.le_refl _) (by decide))
    clear hx hA HP
    go_wp2_with fail
    refine HR.out.mono ?_
    rintro e b2 ⟨Av, cv, rfl, hcv, _, hrv, hx⟩
    have HB := Lib.hid (below_then HB.out hx)
    have HG := HG Av cv b2 hrv hcv
    clear hx hrv HR
    go_wp2_with fail
    refine HG.out.mono ?_
    rintro e b3 ⟨Ab, cb, rfl, _, _, hx⟩
    have hB := below_then HB.out hx
    have hz := Blk.new b3 26 #[.int .u32 0, .int .u32 0, .int .u32 0, .int .u32 0, .slice none 0 0]
    have z0 := hz.cell 0 (v := .int .u32 0) rfl
    have z1 := hz.cell 1 (v := .int .u32 0) rfl
    have z2 := hz.cell 2 (v := .int .u32 0) rfl
    have z3 := hz.cell 3 (v := .int .u32 0) rfl
    have z4 := hz.cell 4 (v := .slice none 0 0) rfl
    have y0 := hz.frozen 0
    have y1 := hz.frozen 1
    have y2 := hz.frozen 2
    have y3 := hz.frozen 3
    have y4 := hz.frozen 4
    have hB3 := hB.alloc hB.size (.cells #[.int .u32 xid, .int .u32 101, .int .u32 low, .int .u32 0, .slice Ab 0 cb] 26)
    clear hx HG hcv
    have m1 : 1 ≤ low := HW.out.1
    have m2 : low ≤ 7 := HW.out.2
    go_upto_region 7 with fail
    go_cut [11] (fun t wx => t = .bool true ∧ wx = b3.alloc (.cells #[.int .u32 xid, .int .u32 101, .int .u32 low, .int .u32 0, .slice Ab 0 cb] 26))
    case first =>
      go_wp2_with fail
      go_meet
      exact ⟨rfl, rfl⟩
    case rest =>
      obtain ⟨rfl, rfl⟩ := hcut
      go_wp2_with fail
      refine (alive_ _).mono ?_
      rintro e b4 ⟨rfl, hx⟩
      have hB4 := below_then hB3 hx
      clear hx
      go_wp2_with fail
      go_ret
      exact ⟨rfl, hB4⟩
  · have HP := Lib.hid (Put_bad xid 101 low 0 none 0 [] w6 HX.out.1 HX.out.2 (by decide) (by decide) HL.out.1 HL.out.2 (by decide) (by decide) (Rd.nil _ _) (Nat.le_refl _) (by decide) (fun h => hw (h.2.2.2.2 rfl)))
    have HG := fun A c wx hr hc => Lib.hid (get_fails_n (A := A) (c := c) (n := 20) (L := rw4 [xid, 1, 1, 1, low]) (w := wx) (k := 5) hr rfl hc (got_why HX.out HL.out hw))
    have HW := Lib.hid hw
    clear hw
    go_wp2_with fail
    refine HP.out.mono ?_
    rintro e b1 ⟨rfl, hx⟩
    have hA := (Below.refl b1.heap.size b1).alloc (Nat.le_refl _) (.cells #[.int .u32 xid, .int .u32 1, .int .u32 1, .int .u32 1, .int .u32 low] 22)
    have HB := Lib.hid (below_then (below_then HB.out hx) hA)
    have HR := Lib.hid (rowB (m := [xid, 1, 1, 1, low]) (n := 5) (c := 5) (Blk.new b1 22 #[.int .u32 xid, .int .u32 1, .int .u32 1, .int .u32 1, .int .u32 low]) (U4.of3 HX.out HL.out HI0.out (by simp)) rfl (Nat.le_refl _) (by decide))
    clear hx hA HP
    go_wp2_with fail
    refine HR.out.mono ?_
    rintro e b2 ⟨Av, cv, rfl, hcv, _, hrv, hx⟩
    have HB := Lib.hid (below_then HB.out hx)
    have HG := HG Av cv b2 hrv hcv
    clear hx hrv HR
    go_wp2_with fail
    refine HG.out.mono ?_
    rintro e b3 ⟨rfl, hx⟩
    have hB := below_then HB.out hx
    have hz := Blk.new b3 26 #[.int .u32 0, .int .u32 0, .int .u32 0, .int .u32 0, .slice none 0 0]
    have z0 := hz.cell 0 (v := .int .u32 0) rfl
    have z1 := hz.cell 1 (v := .int .u32 0) rfl
    have z2 := hz.cell 2 (v := .int .u32 0) rfl
    have z3 := hz.cell 3 (v := .int .u32 0) rfl
    have z4 := hz.cell 4 (v := .slice none 0 0) rfl
    have y0 := hz.frozen 0
    have y1 := hz.frozen 1
    have y2 := hz.frozen 2
    have y3 := hz.frozen 3
    have y4 := hz.frozen 4
    have hB3 := hB.alloc hB.size (.cells #[.int .u32 0, .int .u32 0, .int .u32 0, .int .u32 0, .slice none 0 0] 26)
    clear hx HG hcv
    go_upto_region 7 with fail
    go_cut [11] (fun t wx => t = .bool false ∧ wx = b3.alloc (.cells #[.int .u32 0, .int .u32 0, .int .u32 0, .int .u32 0, .slice none 0 0] 26))
    case first =>
      by_cases m1 : 1 ≤ low
      · have m2 : ¬ low ≤ 7 := fun h => HW.out ⟨m1, h⟩
        go_wp2_with fail
        go_meet
        exact ⟨rfl, rfl⟩
      · go_wp2_with fail
        go_meet
        exact ⟨rfl, rfl⟩
    case rest =>
      obtain ⟨rfl, rfl⟩ := hcut
      go_wp2_with fail
      refine (alive_ _).mono ?_
      rintro e b4 ⟨rfl, hx⟩
      have hB4 := below_then hB3 hx
      clear hx
      go_wp2_with fail
      go_ret
      exact ⟨rfl, hB4⟩
end Go.Proofs.Ytikkcoidepfgmaa.Hand
