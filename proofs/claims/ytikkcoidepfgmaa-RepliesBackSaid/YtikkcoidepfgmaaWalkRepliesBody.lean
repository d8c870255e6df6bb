/- RepliesBody, walked. -/
import Derived.Test.YtikkcoidepfgmaaWalkRepliesOdd
namespace Go.Proofs.Ytikkcoidepfgmaa.Hand
open Go.RowKit
set_option linter.unusedVariables false
set_option linter.unusedSimpArgs false

theorem putL_zero (xid : Int) (body : List Int) : putL xid 0 0 0 body = [] ++ be xid 4 ++ rw4 [1, 0, 0, 0, 0] ++ body := by
  rw [putL_good (by decide)]
  show rw4 [xid, 1, 0, 0, 0, 0] ++ body = _
  simp [rw4]
theorem got_long {L : List Int} (h : ¬ L.length ≤ 65536) : got L = .no 3 := by unfold got; rw [if_neg h]
theorem Put_long (xid how low high : Int) (A : Option Addr) (c : Nat) (body : List Int) (w : World) (hx : 0 ≤ xid ∧ xid < 4294967296) (hh : 0 ≤ how ∧ how < 4294967296) (hl : 0 ≤ low ∧ low < 4294967296) (hi : 0 ≤ high ∧ high < 4294967296)
    (hr : Rd w A body) (hc : body.length ≤ c) (hn : body.length ≤ 1048000) (h : putOK how low high body.length) (hlen : ¬ (putL xid how low high body).length ≤ 65536) :
    Calls Try.prog 9 #[.agg #[.int .u32 xid, .int .u32 how, .int .u32 low, .int .u32 high, .slice A body.length c]] w fun e w' => e = .returned (.tuple #[.slice none 0 0, .int .i64 3]) ∧ Below w.heap.size w w' := by
  refine (Put_good xid how low high A c body w hx.1 hx.2 hh.1 hh.2 hl.1 hl.2 hi.1 hi.2 hr hc hn h).mono ?_
  rintro e w' ⟨hE, hB⟩
  unfold PutEnd at hE
  rw [if_neg hlen] at hE
  exact ⟨hE, hB⟩

set_option maxRecDepth 100000 in
set_option maxHeartbeats 4000000 in
theorem RepliesBody_walk (xid : Int) (A : Option Addr) (c : Nat) (l : List Int) (w : World) (hx0 : 0 ≤ xid) (hx1 : xid < 4294967296) (hr : Rd w A l) (hc : l.length ≤ c) (hn : l.length ≤ 140737488351232) :
    Calls Try.prog 7 #[.int .u32 xid, .slice A l.length c] w fun e w' => e = .returned (.bool true) ∧ Below w.heap.size w w' := by
  have hA := alive_ w
  have HX := Lib.hid (And.intro hx0 hx1)
  clear hx0 hx1
  go_enter Try.func7, Try.ntmps7
  go_wp2_with fail
  refine hA.mono ?_
  rintro e w1 ⟨rfl, hB⟩
  clear hA
  by_cases hlim : l.length ≤ 200000
  · have hlim' : ¬ 200000 < (l.length : Int) := by omega
    have HP := Lib.hid (Put xid HX.out.1 HX.out.2 w1)
    go_wp2_with fail
    refine HP.out.mono ?_
    rintro e w2 ⟨v2, rfl, o2, hx⟩
    have hB := below_then hB hx
    obtain ⟨A2, c2, rfl, hc2, _, r2⟩ := o2.form
    rw [be_length]
    clear HP hx
    go_wp2_with (at_builtin; refine wpList_app rfl _ _ rfl rfl _ w.heap.size _ _ (by rfl) (Own.nil _ _) A2 c2 (be xid 4) (by rw [be_length]; rfl) r2 (by rw [be_length]; decide) hB.size ?h3)
    case h3 =>
      intro v3 w3 o3 hg3 _
      have hB3 := (Own.nil w2 w.heap.size).grown hB hB.size hg3
      clear hB o2 r2 hc2 hg3
      have HA := Lib.hid ((Below.refl w3.heap.size w3).alloc (Nat.le_refl _) (.cells #[.int .u32 1, .int .u32 0, .int .u32 0, .int .u32 0, .int .u32 0] 22))
      have HR := Lib.hid (rowB (m := [1, 0, 0, 0, 0]) (n := 5) (c := 5) (Blk.new w3 22 #[.int .u32 1, .int .u32 0, .int .u32 0, .int .u32 0, .int .u32 0]) (u4_lit (by decide)) rfl (Nat.le_refl _) (by decide))
      have HB3 := Lib.hid hB3
      clear hB3
      go_wp2_with fail
      refine HR.out.mono ?_
      rintro e w4 ⟨Av, cv, rfl, hcv, _, r4, hx⟩
      have hB4 := below_then (below_then HB3.out HA.out) hx
      have o4 := (o3.below HA.out).below hx
      clear HR HA HB3 o3 hx
      go_wp2_with (at_builtin; refine wpList_app rfl _ _ rfl rfl _ w.heap.size _ _ (by rfl) o4 Av cv (rw4 [1, 0, 0, 0, 0]) (by rw [rw4_length]; rfl) r4 (by simp [rw4_length, be_length]) hB4.size ?h5)
      case h5 =>
        intro v5 w5 o5 hg5 _
        have hB5 := o4.grown hB4 hB4.size hg5
        clear hB4 o4 r4 hcv hg5
        go_wp2_with (at_builtin; refine wpList_app rfl _ _ rfl rfl _ w.heap.size _ _ (by rfl) o5 A c l (by rfl) (hr.below hB5) (by simp [rw4_length, be_length]; omega) hB5.size ?h6)
        case h6 =>
          intro v6 w6 o6 hg6 _
          have hB6 := o5.grown hB5 hB5.size hg6
          clear hB5 o5 hg6
          obtain ⟨L, hL⟩ : ∃ L, L = [] ++ be xid 4 ++ rw4 [1, 0, 0, 0, 0] ++ l := ⟨_, rfl⟩
          have hput : putL xid 0 0 0 l = L := by rw [hL]; exact putL_zero xid l
          have o6 : Own w6 w.heap.size v6 L := by rw [hL]; simpa [List.append_assoc] using o6
          obtain ⟨A6, c6, rfl, hc6, _, r6⟩ := o6.form
          have hll : L.length = 24 + l.length := by rw [hL, List.length_append, List.length_append, List.length_append, be_length, rw4_length]; simp
          have hok : putOK 0 0 0 l.length := ⟨by decide, .inl rfl, fun _ => rfl, fun _ => rfl, fun h => absurd h (by decide)⟩
          by_cases hlong : L.length ≤ 65536
          · have ht : ¬ 65536 < (L.length : Int) := by omega
            have HG := Lib.hid (get_yes A6 c6 L w6 r6 hc6 (by rw [← hput]; exact got_put hok HX.out (by decide) (by decide) (by rw [hput]; exact hlong)))
            have HPU := fun wx (q : Rd wx A l) => Lib.hid (Put_yes xid 0 0 0 A c l wx HX.out (by decide) (by decide) (by decide) q hc hok (by rw [hput]; exact hlong))
            rw [hput] at HPU
            have HLL := Lib.hid (And.intro hll hlong)
            clear hput hL hll hok hlong
            go_wp2_with fail
            refine HG.out.mono ?_
            rintro e w7 ⟨Ab, cb, rfl, hcb, rb, hx⟩
            have hB7 := below_then hB6 hx
            have r6 := r6.below hx
            have hz := Blk.new w7 26 #[.int .u32 0, .int .u32 0, .int .u32 0, .int .u32 0, .slice none 0 0]
            have z0 := hz.cell 0 (v := .int .u32 0) rfl
            have z1 := hz.cell 1 (v := .int .u32 0) rfl
            have z2 := hz.cell 2 (v := .int .u32 0) rfl
            have z3 := hz.cell 3 (v := .int .u32 0) rfl
            have z4 := hz.cell 4 (v := .slice none 0 0) rfl
            have y0 := hz.frozen 0
            have y1 := hz.frozen 1
            have y2 := hz.frozen 2
            have y3 := hz.frozen 3
            have y4 := hz.frozen 4
            have hal := (Below.refl w7.heap.size w7).alloc (Nat.le_refl _) (.cells #[.int .u32 xid, .int .u32 0, .int .u32 0, .int .u32 0, .slice Ab l.length cb] 26)
            have hbk := Blk.new w7 26 #[.int .u32 xid, .int .u32 0, .int .u32 0, .int .u32 0, .slice Ab l.length cb]
            have hB8 := below_then hB7 hal
            have HQ := HPU _ (hr.below hB8)
            have rb := rb.below hal
            have r6 := r6.below hal
            clear hx HG HPU hal o6
            go_wp2_with fail
            refine HQ.out.mono ?_
            rintro e w8 ⟨Ap, cp, rfl, hcp, _, rp, hx⟩
            have hbk := hbk.below hx
            have q0 := hbk.cell 0 (v := .int .u32 xid) rfl
            have q1 := hbk.cell 1 (v := .int .u32 0) rfl
            have q4 := hbk.cell 4 (v := .slice Ab l.length cb) rfl
            have rb := rb.below hx
            have r6 := r6.below hx
            have hB9 := below_then hB8 hx
            have e0 : (xid == xid) = true := by simp
            have HS := Lib.hid (same_yes (c := cb) (d := c) rb (hr.below hB9) rfl rfl rfl (by have := HLL.out; omega))
            clear hx HQ z0 z1 z2 z3 z4 y0 y1 y2 y3 y4 hz
            go_wp2_with fail
            refine HS.out.mono ?_
            rintro e w9 ⟨rfl, n9, hw9⟩
            have hd := below_drawn hw9
            have hB10 := below_then hB9 hd
            have HS2 := Lib.hid (same_yes (c := cp) (d := c6) (rp.below hd) (r6.below hd) rfl rfl rfl (by have := HLL.out; omega))
            clear hw9 hd HS
            go_wp2_with fail
            refine HS2.out.mono ?_
            rintro e w10 ⟨rfl, n10, hw10⟩
            have hB11 := below_then hB10 (below_drawn hw10)
            clear hw10 HS2
            go_wp2_with fail
            go_ret
            exact ⟨rfl, hB11⟩
          · have ht : 65536 < (L.length : Int) := by omega
            have HG := Lib.hid (get_fails A6 c6 L w6 r6 hc6 (got_long hlong))
            have HPU := fun wx (q : Rd wx A l) => Lib.hid (Put_long xid 0 0 0 A c l wx HX.out (by decide) (by decide) (by decide) q hc (by omega) hok (by rw [hput]; exact hlong))
            clear hput hL hll hok hlong
            go_wp2_with fail
            refine HG.out.mono ?_
            rintro e w7 ⟨rfl, hx⟩
            have hB7 := below_then hB6 hx
            have hz := Blk.new w7 26 #[.int .u32 0, .int .u32 0, .int .u32 0, .int .u32 0, .slice none 0 0]
            have z0 := hz.cell 0 (v := .int .u32 0) rfl
            have z1 := hz.cell 1 (v := .int .u32 0) rfl
            have z2 := hz.cell 2 (v := .int .u32 0) rfl
            have z3 := hz.cell 3 (v := .int .u32 0) rfl
            have z4 := hz.cell 4 (v := .slice none 0 0) rfl
            have y0 := hz.frozen 0
            have y1 := hz.frozen 1
            have y2 := hz.frozen 2
            have y3 := hz.frozen 3
            have y4 := hz.frozen 4
            have hal := (Below.refl w7.heap.size w7).alloc (Nat.le_refl _) (.cells #[.int .u32 0, .int .u32 0, .int .u32 0, .int .u32 0, .slice none 0 0] 26)
            have hB8 := below_then hB7 hal
            have HQ := HPU _ (hr.below hB8)
            clear hx HG HPU hal o6
            go_wp2_with fail
            refine HQ.out.mono ?_
            rintro e w8 ⟨rfl, hx⟩
            have hB9 := below_then hB8 hx
            clear hx HQ z0 z1 z2 z3 z4 y0 y1 y2 y3 y4 hz
            go_wp2_with fail
            go_ret
            exact ⟨rfl, hB9⟩
  · have hlim' : 200000 < (l.length : Int) := by omega
    go_wp2_with fail
    refine (alive_ _).mono ?_
    rintro e w2 ⟨rfl, hx⟩
    have hB := below_then hB hx
    clear hx
    go_wp2_with fail
    go_ret
    exact ⟨rfl, hB⟩
end Go.Proofs.Ytikkcoidepfgmaa.Hand
