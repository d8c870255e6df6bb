/- RepliesBack, walked. -/
import Derived.Test.YtikkcoidepfgmaaWalkRepliesBody
namespace Go.Proofs.Ytikkcoidepfgmaa.Hand
open Go.RowKit
set_option linter.unusedVariables false
set_option linter.unusedSimpArgs false

set_option maxRecDepth 100000 in
set_option maxHeartbeats 4000000 in
theorem RepliesBack_walk (xid how low high : Int) (A : Option Addr) (c : Nat) (l : List Int) (w : World) (hx : 0 ≤ xid ∧ xid < 4294967296) (hh : 0 ≤ how ∧ how < 4294967296) (hl : 0 ≤ low ∧ low < 4294967296) (hi : 0 ≤ high ∧ high < 4294967296)
    (hr : Rd w A l) (hc : l.length ≤ c) (hn : l.length ≤ 9223372036854775807) :
    Calls Try.prog 3 #[.agg #[.int .u32 xid, .int .u32 how, .int .u32 low, .int .u32 high, .slice A l.length c]] w fun e w' => e = .returned (.bool true) ∧ Below w.heap.size w w' := by
  have b1 := Blk.new w 26 #[.int .u32 xid, .int .u32 how, .int .u32 low, .int .u32 high, .slice A l.length c]
  have hB := (Below.refl w.heap.size w).alloc (Nat.le_refl _) (.cells #[.int .u32 xid, .int .u32 how, .int .u32 low, .int .u32 high, .slice A l.length c] 26)
  have hA := alive_ (w.alloc (.cells #[.int .u32 xid, .int .u32 how, .int .u32 low, .int .u32 high, .slice A l.length c] 26))
  have HX := Lib.hid hx
  have HH := Lib.hid hh
  have HL := Lib.hid hl
  have HI := Lib.hid hi
  clear hx hh hl hi
  go_enter Try.func3, Try.ntmps3
  go_wp2_with fail
  refine hA.mono ?_
  rintro e w1 ⟨rfl, hx1⟩
  have b1 := b1.below hx1
  have hB := below_then hB hx1
  have p0 := b1.cell 0 (v := .int .u32 xid) rfl
  have p1 := b1.cell 1 (v := .int .u32 how) rfl
  have p2 := b1.cell 2 (v := .int .u32 low) rfl
  have p3 := b1.cell 3 (v := .int .u32 high) rfl
  have p4 := b1.cell 4 (v := .slice A l.length c) rfl
  clear hA hx1
  by_cases hlim : l.length ≤ 200000
  · have hlim' : ¬ 200000 < (l.length : Int) := by omega
    have hr1 := hr.below hB
    by_cases hp : putOK how low high l.length
    · by_cases hlong : (putL xid how low high l).length ≤ 65536
      · have HP := Lib.hid (Put_yes xid how low high A c l w1 HX.out HH.out HL.out HI.out hr1 hc hp hlong)
        have hg := got_put hp HX.out HL.out HI.out hlong
        have hless := fun i h => got_less (xid := xid) (body := l) hp HX.out HL.out HI.out (i := i) h
        have hlen := putL_len (xid := xid) (low := low) (high := high) (body := l) hp.1
        obtain ⟨L, hL⟩ : ∃ L, L = putL xid how low high l := ⟨_, rfl⟩
        rw [← hL] at HP hg hless hlen hlong
        obtain ⟨N, hN⟩ : ∃ N, L.length = N + l.length := ⟨L.length - l.length, by omega⟩
        have hN20 : 20 ≤ N := by omega
        have hN32 : N ≤ 32 := by omega
        have HG := Lib.hid hg
        have HLS := Lib.hid hless
        have HLN := Lib.hid (And.intro hlong hN)
        clear hg hless hlen hlong hL hN hp
        go_wp2_with fail
        refine HP.out.mono ?_
        rintro e w2 ⟨Av, cv, rfl, hcv, _, rv, hx⟩
        have b1 := b1.below hx
        have hB := below_then hB hx
        have p4 := b1.cell 4 (v := .slice A l.length c) rfl
        clear hx HP p0 p1 p2 p3 hr1
        go_upto_region 6 with fail
        go_cut [5] (fun t wx => t = .int .i64 N ∧ wx = w2)
        case first =>
          go_wp2_with fail
          go_meet
          exact ⟨by have h2 := HLN.out.2; have h1 := HLN.out.1; refine congrArg _ ?_; unfold wrap64; omega, rfl⟩
        case rest =>
        obtain ⟨rfl, rfl⟩ := hcut
        have t20 : ¬ (N : Int) < 20 := by omega
        have t32 : ¬ 32 < (N : Int) := by omega
        go_wp2_with fail
        go_loopg [6] N (fun k i wr => ∃ j : Nat, i = .int .i64 j ∧ k + j = N ∧ Below wc.heap.size wc wr)
        case atStart => exact ⟨0, rfl, by omega, Below.refl _ _⟩
        case round =>
          obtain ⟨j, rfl, hkj, hBr⟩ := hrel
          by_cases hjN : j < N
          · have hjN' : (j : Int) < (N : Int) := by omega
            have hjc : (j : Int) ≤ (cv : Int) := by have := HLN.out.2; omega
            have hjl : (L.take j).length = j := by rw [List.length_take]; have := HLN.out.2; omega
            have HQ := Lib.hid (get_fails_n (c := cv) ((rv.below hBr).take j) hjl (by omega) (HLS.out j (by have := HLN.out.2; omega)))
            have HK := Lib.hid hkj
            clear hjl hkj
            go_wp2_with fail
            refine HQ.out.mono ?_
            rintro e w3 ⟨rfl, hx⟩
            have HB3 := Lib.hid (below_then hBr hx)
            have hz := Blk.new w3 26 #[.int .u32 0, .int .u32 0, .int .u32 0, .int .u32 0, .slice none 0 0]
            have z0 := hz.cell 0 (v := .int .u32 0) rfl
            have z1 := hz.cell 1 (v := .int .u32 0) rfl
            have z2 := hz.cell 2 (v := .int .u32 0) rfl
            have z3 := hz.cell 3 (v := .int .u32 0) rfl
            have z4 := hz.cell 4 (v := .slice none 0 0) rfl
            have y0 := hz.frozen 0
            have y1 := hz.frozen 1
            have y2 := hz.frozen 2
            have y3 := hz.frozen 3
            have y4 := hz.frozen 4
            clear hx HQ hBr
            go_wp2_with fail
            go_roundg (gk - 1)
            case measure => have := HK.out; omega
            case rel => exact ⟨j + 1, by go_num, by have := HK.out; omega, HB3.out.alloc HB3.out.size _⟩
          · have hjN' : ¬ (j : Int) < (N : Int) := by omega
            have rv := rv.below hBr
            have b1 := b1.below hBr
            have hB := below_then hB hBr
            have HQ := Lib.hid (get_yes Av cv L wr rv hcv HG.out)
            clear hBr hkj
            go_wp2_with fail
            refine HQ.out.mono ?_
            rintro e w3 ⟨Ab, cb, rfl, hcb, rb, hx⟩
            have b1 := b1.below hx
            have hB := below_then hB hx
            have hz := Blk.new w3 26 #[.int .u32 0, .int .u32 0, .int .u32 0, .int .u32 0, .slice none 0 0]
            have z0 := hz.cell 0 (v := .int .u32 0) rfl
            have z1 := hz.cell 1 (v := .int .u32 0) rfl
            have z2 := hz.cell 2 (v := .int .u32 0) rfl
            have z3 := hz.cell 3 (v := .int .u32 0) rfl
            have z4 := hz.cell 4 (v := .slice none 0 0) rfl
            have y0 := hz.frozen 0
            have y1 := hz.frozen 1
            have y2 := hz.frozen 2
            have y3 := hz.frozen 3
            have y4 := hz.frozen 4
            have hal := (Below.refl w3.heap.size w3).alloc (Nat.le_refl _) (.cells #[.int .u32 xid, .int .u32 how, .int .u32 low, .int .u32 high, .slice Ab l.length cb] 26)
            have b2 := Blk.new w3 26 #[.int .u32 xid, .int .u32 how, .int .u32 low, .int .u32 high, .slice Ab l.length cb]
            have b1 := b1.below hal
            have rb := rb.below hal
            have hB := below_then hB hal
            have q0 := b1.cell 0 (v := .int .u32 xid) rfl
            have q1 := b1.cell 1 (v := .int .u32 how) rfl
            have q2 := b1.cell 2 (v := .int .u32 low) rfl
            have q3 := b1.cell 3 (v := .int .u32 high) rfl
            have q4 := b1.cell 4 (v := .slice A l.length c) rfl
            have s0 := b2.cell 0 (v := .int .u32 xid) rfl
            have s1 := b2.cell 1 (v := .int .u32 how) rfl
            have s2 := b2.cell 2 (v := .int .u32 low) rfl
            have s3 := b2.cell 3 (v := .int .u32 high) rfl
            have s4 := b2.cell 4 (v := .slice Ab l.length cb) rfl
            have HS := Lib.hid (sameRep xid how low high Ab A cb c l _ rb (hr.below hB) (by omega))
            clear hx HQ hal
            go_wp2_with fail
            refine HS.out.mono ?_
            rintro e w4 ⟨rfl, hx⟩
            have hB := below_then hB hx
            clear hx HS
            go_wp2_with fail
            go_ret
            exact ⟨rfl, hB⟩
      · have HP := Lib.hid (Put_long xid how low high A c l w1 HX.out HH.out HL.out HI.out hr1 hc (by omega) hp hlong)
        clear hp hlong
        go_wp2_with fail
        refine HP.out.mono ?_
        rintro e w2 ⟨rfl, hx⟩
        have hB := below_then hB hx
        clear hx HP
        go_wp2_with fail
        go_ret
        exact ⟨rfl, hB⟩
    · have HP := Lib.hid (Put_bad xid how low high A c l w1 HX.out.1 HX.out.2 HH.out.1 HH.out.2 HL.out.1 HL.out.2 HI.out.1 HI.out.2 hr1 hc (by omega) hp)
      clear hp
      go_wp2_with fail
      refine HP.out.mono ?_
      rintro e w2 ⟨rfl, hx⟩
      have hB := below_then hB hx
      clear hx HP
      go_wp2_with fail
      go_ret
      exact ⟨rfl, hB⟩
  · have hlim' : 200000 < (l.length : Int) := by omega
    go_wp2_with fail
    refine (alive_ _).mono ?_
    rintro e w2 ⟨rfl, hx2⟩
    have hB := below_then hB hx2
    clear hx2
    go_wp2_with fail
    go_ret
    exact ⟨rfl, hB⟩
end Go.Proofs.Ytikkcoidepfgmaa.Hand
