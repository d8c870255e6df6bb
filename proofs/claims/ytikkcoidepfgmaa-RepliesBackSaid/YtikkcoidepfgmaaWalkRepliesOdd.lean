/- RepliesOdd, walked. -/
import Derived.Test.YtikkcoidepfgmaaAlive07
namespace Go.Proofs.Ytikkcoidepfgmaa.Hand
open Go.RowKit
set_option linter.unusedVariables false
set_option linter.unusedSimpArgs false

theorem putOK_iff {how low high : Int} {n : Nat} (h0 : 0 ≤ how) (hl : 0 ≤ low) : putOK how low high n ↔ ((how ≤ 4 ∨ how = 100) ∨ how = 101) ∧ ¬ ((0 < n ∧ how ≠ 0) ∨ (¬ (how = 2 ∨ how = 100) ∧ high ≠ 0) ∨ (how = 101 ∧ (low = 0 ∨ 7 < low)) ∨ (¬ (how = 2 ∨ how = 100) ∧ how ≠ 101 ∧ low ≠ 0)) := by
  unfold putOK toldOf
  have hk : how ∈ keysL ↔ (how ≤ 4 ∨ how = 100) ∨ how = 101 := by
    simp only [keysL, List.mem_cons, List.not_mem_nil, or_false]
    omega
  rw [hk]
  by_cases h2 : how = 2 ∨ how = 100
  · rw [if_pos h2]; omega
  · rw [if_neg h2]
    by_cases h3 : how = 101
    · rw [if_pos h3]; omega
    · rw [if_neg h3]; omega
theorem putL_len {xid how low high : Int} {body : List Int} (hk : how ∈ keysL) : (putL xid how low high body).length ≤ 32 + body.length ∧ 20 + body.length ≤ (putL xid how low high body).length := by
  obtain ⟨h1, h2, _⟩ := goodL_length (xid := xid) (low := low) (high := high) hk
  rw [putL_good hk, List.length_append, rw4_length]
  omega

set_option maxRecDepth 100000 in
set_option maxHeartbeats 4000000 in
theorem RepliesOdd_walk (xid how low high : Int) (A : Option Addr) (c : Nat) (l : List Int) (w : World) (hx : 0 ≤ xid ∧ xid < 4294967296) (hh : 0 ≤ how ∧ how < 4294967296) (hl : 0 ≤ low ∧ low < 4294967296) (hi : 0 ≤ high ∧ high < 4294967296)
    (hr : Rd w A l) (hc : l.length ≤ c) (hn : l.length ≤ 9223372036854775807) :
    Calls Try.prog 6 #[.agg #[.int .u32 xid, .int .u32 how, .int .u32 low, .int .u32 high, .slice A l.length c]] w fun e w' => e = .returned (.bool true) ∧ Below w.heap.size w w' := by
  have b1 := Blk.new w 26 #[.int .u32 xid, .int .u32 how, .int .u32 low, .int .u32 high, .slice A l.length c]
  have hB := (Below.refl w.heap.size w).alloc (Nat.le_refl _) (.cells #[.int .u32 xid, .int .u32 how, .int .u32 low, .int .u32 high, .slice A l.length c] 26)
  have hA := alive_ (w.alloc (.cells #[.int .u32 xid, .int .u32 how, .int .u32 low, .int .u32 high, .slice A l.length c] 26))
  go_enter Try.func6, Try.ntmps6
  go_wp2_with fail
  refine hA.mono ?_
  rintro e w1 ⟨rfl, hx1⟩
  have b1 := b1.below hx1
  have hB := below_then hB hx1
  have p0 := b1.cell 0 (v := .int .u32 xid) rfl
  have p1 := b1.cell 1 (v := .int .u32 how) rfl
  have p2 := b1.cell 2 (v := .int .u32 low) rfl
  have p3 := b1.cell 3 (v := .int .u32 high) rfl
  have p4 := b1.cell 4 (v := .slice A l.length c) rfl
  clear hA hx1
  by_cases hlim : l.length ≤ 60000
  · have hlim' : ¬ 60000 < (l.length : Int) := by omega
    have hr1 := hr.below hB
    go_upto_region 3 with fail
    go_cut [3, 4] (fun _ e wx => e = .int .i64 (if putOK how low high l.length then 0 else 1) ∧ Below w1.heap.size w1 wx)
    case first =>
      by_cases hp : putOK how low high l.length
      · have hlen := (putL_len (xid := xid) (low := low) (high := high) (body := l) hp.1).1
        have HP := Lib.hid hp
        have P1 := Lib.hid (Put_yes xid how low high A c l w1 hx hh hl hi hr1 hc hp (by omega))
        clear hp hlen
        go_wp2_with fail
        refine P1.out.mono ?_
        rintro e w2 ⟨Av, cv, rfl, hcv, _, _, hx2⟩
        have HX := Lib.hid hx2
        clear hcv hx2
        go_wp2_with fail
        go_meet
        exact ⟨by rw [if_pos HP.out], HX.out⟩
      · have HP := Lib.hid hp
        have P1 := Lib.hid (Put_bad xid how low high A c l w1 hx.1 hx.2 hh.1 hh.2 hl.1 hl.2 hi.1 hi.2 hr1 hc (by omega) hp)
        clear hp
        go_wp2_with fail
        refine P1.out.mono ?_
        rintro e w2 ⟨rfl, hx2⟩
        have HX := Lib.hid hx2
        clear hx2
        go_wp2_with fail
        go_meet
        exact ⟨by rw [if_neg HP.out], HX.out⟩
    case rest =>
      obtain ⟨rfl, hx2⟩ := hcut
      have b1 := b1.below hx2
      have hB := below_then hB hx2
      have p1 := b1.cell 1 (v := .int .u32 how) rfl
      have p2 := b1.cell 2 (v := .int .u32 low) rfl
      have p3 := b1.cell 3 (v := .int .u32 high) rfl
      have p4 := b1.cell 4 (v := .slice A l.length c) rfl
      clear hx2
      obtain ⟨E, hE⟩ : ∃ E : Int, E = if putOK how low high l.length then 0 else 1 := ⟨_, rfl⟩
      rw [← hE]
      have HE := Lib.hid hE
      clear hE
      go_upto_region 4 with fail
      go_cut [5] (fun t wx => t = .bool (decide (how = 2 ∨ how = 100)) ∧ wx = wc)
      case first =>
        by_cases h2 : how = 2
        · have HD := Lib.hid (decide_eq_true (p := how = 2 ∨ how = 100) (.inl h2))
          have h2' : (how == 2) = true := beq_iff_eq.2 h2
          clear h2
          go_wp2_with fail
          go_meet
          exact ⟨by rw [HD.out], rfl⟩
        · have h2' : (how == 2) = false := beq_eq_false_iff_ne.2 h2
          by_cases h3 : how = 100
          · have HD := Lib.hid (decide_eq_true (p := how = 2 ∨ how = 100) (.inr h3))
            have h3' : (how == 100) = true := beq_iff_eq.2 h3
            clear h2 h3
            go_wp2_with fail
            go_meet
            exact ⟨by rw [HD.out], rfl⟩
          · have HD := Lib.hid (decide_eq_false (p := how = 2 ∨ how = 100) (by omega))
            have h3' : (how == 100) = false := beq_eq_false_iff_ne.2 h3
            clear h2 h3
            go_wp2_with fail
            go_meet
            exact ⟨by rw [HD.out], rfl⟩
      case rest =>
      obtain ⟨rfl, rfl⟩ := hcut
      obtain ⟨P, hP⟩ : ∃ P, P = decide (how = 2 ∨ how = 100) := ⟨_, rfl⟩
      rw [← hP]
      have HP2 := Lib.hid hP
      clear hP
      go_upto_region 5 with fail
      go_cut [6] (fun t wx => t = .bool (decide ((how ≤ 4 ∨ how = 100) ∨ how = 101)) ∧ wx = wc)
      case first =>
        by_cases h2 : how ≤ 4
        · have HD := Lib.hid (decide_eq_true (p := (how ≤ 4 ∨ how = 100) ∨ how = 101) (.inl (.inl h2)))
          go_wp2_with fail
          go_meet
          exact ⟨by rw [HD.out], rfl⟩
        · by_cases h3 : how = 100
          · have HD := Lib.hid (decide_eq_true (p := (how ≤ 4 ∨ how = 100) ∨ how = 101) (.inl (.inr h3)))
            have h3' : (how == 100) = true := beq_iff_eq.2 h3
            clear h3
            go_wp2_with fail
            go_meet
            exact ⟨by rw [HD.out], rfl⟩
          · have h3' : (how == 100) = false := beq_eq_false_iff_ne.2 h3
            by_cases h4 : how = 101
            · have HD := Lib.hid (decide_eq_true (p := (how ≤ 4 ∨ how = 100) ∨ how = 101) (.inr h4))
              have h4' : (how == 101) = true := beq_iff_eq.2 h4
              clear h3 h4
              go_wp2_with fail
              go_meet
              exact ⟨by rw [HD.out], rfl⟩
            · have HD := Lib.hid (decide_eq_false (p := (how ≤ 4 ∨ how = 100) ∨ how = 101) (by omega))
              have h4' : (how == 101) = false := beq_eq_false_iff_ne.2 h4
              clear h3 h4
              go_wp2_with fail
              go_meet
              exact ⟨by rw [HD.out], rfl⟩
      case rest =>
      obtain ⟨rfl, rfl⟩ := hcut
      obtain ⟨K, hK⟩ : ∃ K, K = decide ((how ≤ 4 ∨ how = 100) ∨ how = 101) := ⟨_, rfl⟩
      rw [← hK]
      have HK2 := Lib.hid hK
      clear hK
      go_upto_region 6 with fail
      go_cut [5, 88] (fun _ t wx => t = .bool (decide ((0 < l.length ∧ how ≠ 0) ∨ (¬ (how = 2 ∨ how = 100) ∧ high ≠ 0) ∨ (how = 101 ∧ (low = 0 ∨ 7 < low)) ∨ (¬ (how = 2 ∨ how = 100) ∧ how ≠ 101 ∧ low ≠ 0))) ∧ wx = wc)
      case first =>
        by_cases c1 : 0 < l.length
        · by_cases c2 : how = 0
          · rw [HP2.out, decide_eq_false (p := how = 2 ∨ how = 100) (by omega)]
            by_cases c3 : high = 0
            · by_cases c4 : low = 0
              · have HD := Lib.hid (decide_eq_false (p := ((0 < l.length ∧ how ≠ 0) ∨ (¬ (how = 2 ∨ how = 100) ∧ high ≠ 0) ∨ (how = 101 ∧ (low = 0 ∨ 7 < low)) ∨ (¬ (how = 2 ∨ how = 100) ∧ how ≠ 101 ∧ low ≠ 0))) (by omega))
                have q0 : (how != 0) = false := by simp [c2]
                have q1 : (high != 0) = false := by simp [c3]
                have q2 : (how == 101) = false := by simp [c2]
                have q3 : (how != 101) = true := by simp [c2]
                have q4 : (low != 0) = false := by simp [c4]
                clear c2 c3 c4
                go_wp2_with fail
                go_meet
                exact ⟨by rw [HD.out], rfl⟩
              · have HD := Lib.hid (decide_eq_true (p := ((0 < l.length ∧ how ≠ 0) ∨ (¬ (how = 2 ∨ how = 100) ∧ high ≠ 0) ∨ (how = 101 ∧ (low = 0 ∨ 7 < low)) ∨ (¬ (how = 2 ∨ how = 100) ∧ how ≠ 101 ∧ low ≠ 0))) (by omega))
                have q0 : (how != 0) = false := by simp [c2]
                have q1 : (high != 0) = false := by simp [c3]
                have q2 : (how == 101) = false := by simp [c2]
                have q3 : (how != 101) = true := by simp [c2]
                have q4 : (low != 0) = true := by simp [c4]
                clear c2 c3 c4
                go_wp2_with fail
                go_meet
                exact ⟨by rw [HD.out], rfl⟩
            · have HD := Lib.hid (decide_eq_true (p := ((0 < l.length ∧ how ≠ 0) ∨ (¬ (how = 2 ∨ how = 100) ∧ high ≠ 0) ∨ (how = 101 ∧ (low = 0 ∨ 7 < low)) ∨ (¬ (how = 2 ∨ how = 100) ∧ how ≠ 101 ∧ low ≠ 0))) (by omega))
              have q0 : (how != 0) = false := by simp [c2]
              have q1 : (high != 0) = true := by simp [c3]
              clear c2 c3
              go_wp2_with fail
              go_meet
              exact ⟨by rw [HD.out], rfl⟩
          · have HD := Lib.hid (decide_eq_true (p := ((0 < l.length ∧ how ≠ 0) ∨ (¬ (how = 2 ∨ how = 100) ∧ high ≠ 0) ∨ (how = 101 ∧ (low = 0 ∨ 7 < low)) ∨ (¬ (how = 2 ∨ how = 100) ∧ how ≠ 101 ∧ low ≠ 0))) (by omega))
            have q0 : (how != 0) = true := by simp [c2]
            clear c2
            go_wp2_with fail
            go_meet
            exact ⟨by rw [HD.out], rfl⟩
        · by_cases c2 : how = 2 ∨ how = 100
          · have c5 : ¬ how = 101 := by omega
            rw [HP2.out, decide_eq_true (p := how = 2 ∨ how = 100) (c2)]
            have HD := Lib.hid (decide_eq_false (p := ((0 < l.length ∧ how ≠ 0) ∨ (¬ (how = 2 ∨ how = 100) ∧ high ≠ 0) ∨ (how = 101 ∧ (low = 0 ∨ 7 < low)) ∨ (¬ (how = 2 ∨ how = 100) ∧ how ≠ 101 ∧ low ≠ 0))) (by omega))
            have q0 : (how == 101) = false := by simp [c5]
            clear c2 c5
            go_wp2_with fail
            go_meet
            exact ⟨by rw [HD.out], rfl⟩
          · rw [HP2.out, decide_eq_false (p := how = 2 ∨ how = 100) (c2)]
            by_cases c3 : high = 0
            · by_cases c4 : how = 101
              · by_cases c5 : low = 0
                · have HD := Lib.hid (decide_eq_true (p := ((0 < l.length ∧ how ≠ 0) ∨ (¬ (how = 2 ∨ how = 100) ∧ high ≠ 0) ∨ (how = 101 ∧ (low = 0 ∨ 7 < low)) ∨ (¬ (how = 2 ∨ how = 100) ∧ how ≠ 101 ∧ low ≠ 0))) (by omega))
                  have q0 : (high != 0) = false := by simp [c3]
                  have q1 : (how == 101) = true := by simp [c4]
                  have q2 : (low == 0) = true := by simp [c5]
                  clear c2 c3 c4 c5
                  go_wp2_with fail
                  go_meet
                  exact ⟨by rw [HD.out], rfl⟩
                · by_cases c6 : 7 < low
                  · have HD := Lib.hid (decide_eq_true (p := ((0 < l.length ∧ how ≠ 0) ∨ (¬ (how = 2 ∨ how = 100) ∧ high ≠ 0) ∨ (how = 101 ∧ (low = 0 ∨ 7 < low)) ∨ (¬ (how = 2 ∨ how = 100) ∧ how ≠ 101 ∧ low ≠ 0))) (by omega))
                    have q0 : (high != 0) = false := by simp [c3]
                    have q1 : (how == 101) = true := by simp [c4]
                    have q2 : (low == 0) = false := by simp [c5]
                    clear c2 c3 c4 c5
                    go_wp2_with fail
                    go_meet
                    exact ⟨by rw [HD.out], rfl⟩
                  · have HD := Lib.hid (decide_eq_false (p := ((0 < l.length ∧ how ≠ 0) ∨ (¬ (how = 2 ∨ how = 100) ∧ high ≠ 0) ∨ (how = 101 ∧ (low = 0 ∨ 7 < low)) ∨ (¬ (how = 2 ∨ how = 100) ∧ how ≠ 101 ∧ low ≠ 0))) (by omega))
                    have q0 : (high != 0) = false := by simp [c3]
                    have q1 : (how == 101) = true := by simp [c4]
                    have q2 : (low == 0) = false := by simp [c5]
                    have q3 : (how != 101) = false := by simp [c4]
                    clear c2 c3 c4 c5
                    go_wp2_with fail
                    go_meet
                    exact ⟨by rw [HD.out], rfl⟩
              · by_cases c5 : low = 0
                · have HD := Lib.hid (decide_eq_false (p := ((0 < l.length ∧ how ≠ 0) ∨ (¬ (how = 2 ∨ how = 100) ∧ high ≠ 0) ∨ (how = 101 ∧ (low = 0 ∨ 7 < low)) ∨ (¬ (how = 2 ∨ how = 100) ∧ how ≠ 101 ∧ low ≠ 0))) (by omega))
                  have q0 : (high != 0) = false := by simp [c3]
                  have q1 : (how == 101) = false := by simp [c4]
                  have q2 : (how != 101) = true := by simp [c4]
                  have q3 : (low != 0) = false := by simp [c5]
                  clear c2 c3 c4 c5
                  go_wp2_with fail
                  go_meet
                  exact ⟨by rw [HD.out], rfl⟩
                · have HD := Lib.hid (decide_eq_true (p := ((0 < l.length ∧ how ≠ 0) ∨ (¬ (how = 2 ∨ how = 100) ∧ high ≠ 0) ∨ (how = 101 ∧ (low = 0 ∨ 7 < low)) ∨ (¬ (how = 2 ∨ how = 100) ∧ how ≠ 101 ∧ low ≠ 0))) (by omega))
                  have q0 : (high != 0) = false := by simp [c3]
                  have q1 : (how == 101) = false := by simp [c4]
                  have q2 : (how != 101) = true := by simp [c4]
                  have q3 : (low != 0) = true := by simp [c5]
                  clear c2 c3 c4 c5
                  go_wp2_with fail
                  go_meet
                  exact ⟨by rw [HD.out], rfl⟩
            · have HD := Lib.hid (decide_eq_true (p := ((0 < l.length ∧ how ≠ 0) ∨ (¬ (how = 2 ∨ how = 100) ∧ high ≠ 0) ∨ (how = 101 ∧ (low = 0 ∨ 7 < low)) ∨ (¬ (how = 2 ∨ how = 100) ∧ how ≠ 101 ∧ low ≠ 0))) (by omega))
              have q0 : (high != 0) = true := by simp [c3]
              clear c2 c3
              go_wp2_with fail
              go_meet
              exact ⟨by rw [HD.out], rfl⟩
      case rest =>
      obtain ⟨rfl, rfl⟩ := hcut
      have hiff := putOK_iff (high := high) (n := l.length) hh.1 hl.1
      clear p1 p2 p3 p4 hlim'
      by_cases hbad : ((0 < l.length ∧ how ≠ 0) ∨ (¬ (how = 2 ∨ how = 100) ∧ high ≠ 0) ∨ (how = 101 ∧ (low = 0 ∨ 7 < low)) ∨ (¬ (how = 2 ∨ how = 100) ∧ how ≠ 101 ∧ low ≠ 0))
      · have hE : E = 1 := by rw [HE.out, if_neg (fun h => (hiff.1 h).2 hbad)]
        have e1 : (E == 0) = false := by rw [hE]; rfl
        have e2 : (E == 1) = true := by rw [hE]; rfl
        rw [decide_eq_true hbad]
        clear hbad hiff hE
        go_wp2_with fail
        go_ret
        exact ⟨rfl, hB⟩
      · rw [decide_eq_false hbad]
        by_cases hok : (how ≤ 4 ∨ how = 100) ∨ how = 101
        · have hE : E = 0 := by rw [HE.out, if_pos (hiff.2 ⟨hok, hbad⟩)]
          have e1 : (E == 0) = true := by rw [hE]; rfl
          rw [HK2.out, decide_eq_true hok]
          clear hbad hiff hE hok
          go_wp2_with fail
          go_ret
          exact ⟨rfl, hB⟩
        · have hE : E = 1 := by rw [HE.out, if_neg (fun h => hok (hiff.1 h).1)]
          have e1 : (E == 0) = false := by rw [hE]; rfl
          have e2 : (E == 1) = true := by rw [hE]; rfl
          rw [HK2.out, decide_eq_false hok]
          clear hbad hiff hE hok
          go_wp2_with fail
          go_ret
          exact ⟨rfl, hB⟩
  · have hlim' : 60000 < (l.length : Int) := by omega
    go_wp2_with fail
    refine (alive_ _).mono ?_
    rintro e w2 ⟨rfl, hx2⟩
    have hB := below_then hB hx2
    clear hx2
    go_wp2_with fail
    go_ret
    exact ⟨rfl, hB⟩
end Go.Proofs.Ytikkcoidepfgmaa.Hand
