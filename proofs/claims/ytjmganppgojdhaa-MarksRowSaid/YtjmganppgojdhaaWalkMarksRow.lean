/- The statement MarksRow, walked: messages that are put one behind the other are all got, in order; behind a part of a next one, too. -/
import Derived.Test.YtjmganppgojdhaaMsgs
import Derived.Test.YtjmganppgojdhaaMarksBackLaw
import Derived.Test.YtjmganppgojdhaaAlive04
namespace Go.Proofs.Ytjmganppgojdhaa.Hand
open Go.RowKit
set_option linter.unusedVariables false
set_option linter.unusedSimpArgs false

theorem last_short : ∀ (j : Nat), j < 8 → (get1 ([128, 0, 0, 4, 108, 97, 115, 116].take j)).2.2 = 4
  | 0, _ => by decide
  | 1, _ => by decide
  | 2, _ => by decide
  | 3, _ => by decide
  | 4, _ => by decide
  | 5, _ => by decide
  | 6, _ => by decide
  | 7, _ => by decide
  | j + 8, h => by omega

theorem cuts_take {z : Nat} {ls : List (List Int)} {k : Nat} (hk : k < ls.length) : cuts z (ls.take (k + 1)) = cuts z (ls.take k) ++ mcut ((ls.getD k []).length + 1) z (ls.getD k []) := by
  have e : ls.getD k [] = ls[k] := by simp [List.getD, List.getElem?_eq_getElem hk]
  rw [e, List.take_succ_eq_append_getElem hk]
  unfold cuts
  rw [List.map_append, List.flatten_append]
  simp

theorem sum_take {ls : List (List Int)} {k : Nat} (hk : k < ls.length) : ((ls.take (k + 1)).map (·.length)).sum = ((ls.take k).map (·.length)).sum + (ls.getD k []).length := by
  have e : ls.getD k [] = ls[k] := by simp [List.getD, List.getElem?_eq_getElem hk]
  rw [e, List.take_succ_eq_append_getElem hk, List.map_append, List.sum_append]
  simp
theorem le_sum_len : ∀ {ls : List (List Int)} {m : List Int}, m ∈ ls → m.length ≤ (ls.map (·.length)).sum
  | [], _, h => by simp at h
  | x :: ls, m, h => by
    rw [List.map_cons, List.sum_cons]
    rcases List.mem_cons.1 h with rfl | h
    · omega
    · have := le_sum_len h
      omega
theorem sum_take_le (ls : List (List Int)) (k : Nat) : ((ls.take k).map (·.length)).sum ≤ (ls.map (·.length)).sum := by
  have : (ls.map (·.length)).sum = ((ls.take k).map (·.length)).sum + ((ls.drop k).map (·.length)).sum := by
    rw [← List.sum_append, ← List.map_append, List.take_append_drop]
  omega

set_option maxRecDepth 100000 in
set_option maxHeartbeats 4000000 in
theorem MarksRow_walk (A : Option Addr) (c : Nat) (ls : List (List Int)) (x y : Int) (w : World) (hr : RdL w A ls) (hc : ls.length ≤ c) (hcm : c ≤ maxLen) (hle : ∀ x ∈ ls, x.length ≤ 140737488351232)
    (h0 : 0 ≤ x) (h0' : x < 65536) (h1 : 0 ≤ y) (h1' : y < 65536) :
    Calls Try.prog 5 #[.slice A ls.length c, .int .u16 x, .int .u16 y] w fun e w' => e = .returned (.bool true) ∧ Below w.heap.size w w' := by
  have HLE := Lib.hid hle
  have HCM := Lib.hid hcm
  clear hle hcm
  go_enter Try.func5, Try.ntmps5
  go_wp2_with fail
  refine (alive04 _).mono ?_
  rintro e w1 ⟨rfl, hB⟩
  by_cases hm1 : 50 < (ls.length : Int)
  · go_wp2_with fail
    refine (alive04 w1).mono ?_
    rintro e w2 ⟨rfl, hx⟩
    have hB := below_then hB hx
    clear hx
    go_wp2
    go_ret
    exact ⟨rfl, hB⟩
  · have g1 := messagesSize A c ls w1 (hr.below hB) (by omega) HLE.out
    go_wp2_with fail
    refine g1.mono ?_
    rintro e w2 ⟨n, rfl, hw, hn⟩
    have hB : Below w.heap.size w w2 := by rw [hw]; exact hB
    have HN := Lib.hid hn
    clear hw g1 hn
    by_cases hm : 60000 < (n : Int)
    · go_wp2_with fail
      refine (alive04 w2).mono ?_
      rintro e w3 ⟨rfl, hx⟩
      have hB := below_then hB hx
      clear hx
      go_wp2
      go_ret
      exact ⟨rfl, hB⟩
    · have hn := HN.out (by omega)
      unfold msize at hn
      obtain ⟨z, hz⟩ : ∃ z : Nat, x + 1 = z := ⟨(x + 1).toNat, by omega⟩
      have hz1 : 1 ≤ z := by omega
      have hz2 : z ≤ 65536 := by omega
      have hs : (ls.map (·.length)).sum ≤ 60000 := by omega
      have hl : ls.length ≤ 50 := by omega
      have hB0 := hB
      have HS := Lib.hid hs
      have HL := Lib.hid hl
      have HZ := Lib.hid hz
      have HZ1 := Lib.hid hz1
      have HZ2 := Lib.hid hz2
      clear hn hs hl hz hz1 hz2 HN
      go_wp2
      go_loopw [7, 8] (fun v i wr => ∃ k : Nat, k ≤ ls.length ∧ i = .int .i64 k ∧ Own wr w.heap.size v (cuts z (ls.take k)) ∧ (cuts z (ls.take k)).length ≤ 4 * k + 5 * ((ls.take k).map (·.length)).sum ∧ Below w.heap.size w wr) (fun _ i _ => ls.length - (intOf i).toNat)
      case atStart => exact ⟨0, Nat.zero_le _, rfl, Own.nil _ _, by simp [cuts], hB0⟩
      case round =>
        obtain ⟨k, hk, rfl, ho, hlen, hB⟩ := hrel
        have HLEN := Lib.hid hlen
        clear hlen
        by_cases hlt : k < ls.length
        · obtain ⟨a, A1, c1, rfl, ha, ha1, ha2⟩ := (hr.below hB).at_ hlt
          have hkl : (k : Int) < (ls.length : Int) := by omega
          have hct := cuts_take (z := z) hlt
          have hst := sum_take hlt
          have hsl := sum_take_le ls (k + 1)
          generalize hxl : ls.getD k [] = xl at *
          have hxl2 : xl.length ≤ 60000 := by have := HS.out; omega
          have g2 := mcut_v (Z := x + 1) ha2 rfl ha1 (by omega) HZ1.out HZ2.out HZ.out.symm rfl
          have hml := mcut_length_le (xl.length + 1) z xl HZ1.out
          have HCT := Lib.hid hct
          have HST := Lib.hid hst
          have HSL := Lib.hid hsl
          have HX2 := Lib.hid hxl2
          have HML := Lib.hid hml
          clear hct hst hsl hxl2 hml hxl
          generalize hpk : cuts z (ls.take k) = pk at *
          generalize hmk : mcut (xl.length + 1) z xl = mk at *
          have HPK := Lib.hid hpk
          have HMK := Lib.hid hmk
          clear hpk hmk
          go_wp2_with fail
          refine g2.mono ?_
          rintro e w3 ⟨v3, rfl, o3, hx⟩
          have ho := ho.below hx
          have hB := below_then hB hx
          clear hx g2 ha ha2
          obtain ⟨A3, c3, rfl, hc3, _, r3⟩ := o3.form
          have hBs := hB.size
          clear o3
          go_wp2_with (at_builtin; refine wpList_app rfl _ _ rfl rfl _ w.heap.size _ pk (by rfl) ho A3 c3 mk rfl r3 ?h1 hBs ?h2)
          case h1 => have := HLEN.out; have := HML.out; have := HX2.out; have := HL.out; have := HST.out; have := HSL.out; have := HS.out; omega
          case h2 =>
            intro v4 w4 o4 hg4 _
            have hB4 := ho.grown hB hBs hg4
            clear ho hg4 r3 hB
            go_wp2
            refine ⟨⟨k + 1, by omega, by go_num, ?_, ?_, hB4⟩, by simp [intOf]; omega⟩
            · rw [HCT.out]
              exact o4
            · have := HLEN.out; have := HML.out; have := HST.out
              rw [HCT.out, List.length_append]
              omega
        · have hkl : ¬ (k : Int) < (ls.length : Int) := by omega
          rw [List.take_of_length_le (by omega)] at ho
          have hlen := HLEN.out
          rw [List.take_of_length_le (by omega)] at hlen
          have hpl : (cuts z ls).length ≤ 400000 := by have := HS.out; have := HL.out; omega
          have hml : ∀ m ∈ ls, m.length ≤ 65536 := by
            intro m hm
            have := le_sum_len hm
            have := HS.out
            omega
          obtain ⟨j, hj⟩ : ∃ j : Nat, y % 8 = j := ⟨(y % 8).toNat, by omega⟩
          have hj8 : j < 8 := by omega
          have hall := mall_cuts z HZ1.out HZ2.out ([128, 0, 0, 4, 108, 97, 115, 116].take j) (last_short j hj8) ls hml
          obtain ⟨L8, hL8⟩ : ∃ L8 : List Int, L8 = [128, 0, 0, 4, 108, 97, 115, 116].take j := ⟨_, rfl⟩
          have hlj : L8.length = j := by rw [hL8, List.length_take]; simp; omega
          rw [← hL8] at hall
          have HL8 := Lib.hid hL8
          have HLJ := Lib.hid hlj
          clear hL8 hlj
          have g3 := mput_v (c := 4) (k := 4) (Rd.litM wr [108, 97, 115, 116] (by unfold Bs; decide) (4, 5)) rfl (by decide) (by decide) (show _ = [128, 0, 0, 4, 108, 97, 115, 116] by decide)
          have cv : (convert 22 22 (.slice (some ⟨wr.heap.size, 0, none⟩) 4 4)).run Try.prog (wr.alloc (.cells #[.int .u8 108, .int .u8 97, .int .u8 115, .int .u8 116] 5)) = .ok (.slice (some ⟨wr.heap.size, 0, none⟩) 4 4) (wr.alloc (.cells #[.int .u8 108, .int .u8 97, .int .u8 115, .int .u8 116] 5 (4, 5))) := Go.Joins.run_convert_bytes_const_at (P := Try.prog) wr 22 5 #[.int .u8 108, .int .u8 97, .int .u8 115, .int .u8 116] 4 4 wr.heap.size rfl Try.underlying22 Try.underlying5
          have ho := ho.alloc (.cells #[.int .u8 108, .int .u8 97, .int .u8 115, .int .u8 116] 5 (4, 5))
          have hB := hB.alloc hB.size (.cells #[.int .u8 108, .int .u8 97, .int .u8 115, .int .u8 116] 5 (4, 5))
          generalize cuts z ls = pk at *
          have HPL := Lib.hid hpl
          have HML := Lib.hid hml
          have HALL := Lib.hid hall
          have HJ8 := Lib.hid hj8
          have HJ := Lib.hid hj
          clear hpl hml hall hlen HLEN hj8 hj
          obtain ⟨A1, c1, rfl, hc1, _, _⟩ := ho.form
          go_wp2_with fail
          refine g3.mono ?_
          rintro e w3 ⟨v3, rfl, o3, hx⟩
          have ho := ho.below hx
          have hB := below_then hB hx
          clear hx g3 cv
          obtain ⟨A3, c3, rfl, hc3, _, r3⟩ := o3.form
          have hBs := hB.size
          have q1 : y % 8 = (j : Int) := HJ.out
          have q2 : (j : Int) ≤ 8 := by have := HJ8.out; omega
          have q3 : (8 : Int) ≤ (c3 : Int) := by simp at hc3; omega
          have q4 : j ≤ c3 := by simp at hc3; have := HJ8.out; omega
          have r8 : Rd w3 A3 L8 := by rw [HL8.out]; exact r3.take j
          go_wp2_with (at_builtin; go_loud (refine wpList_app rfl _ _ rfl rfl _ w.heap.size _ pk (by rfl) ho A3 c3 L8 (by rw [HLJ.out]; rfl) r8 ?h1 hBs ?h2))
          case h1 => rw [HLJ.out]; have := HPL.out; have := HJ8.out; omega
          case h2 =>
            intro v4 w4 o4 hg4 _
            have hB4 := ho.grown hB hBs hg4
            obtain ⟨A4, c4, rfl, hc4, _, r4⟩ := o4.form
            have hl4 : (pk ++ L8).length = pk.length + j := by rw [List.length_append, HLJ.out]
            rw [hl4] at hc4
            rw [hl4]
            clear ho hg4 r8 r3 o3 o4 hB
            have g4 := mall_v (N := (pk.length : Int)) (k := pk.length + j) r4 hl4 hc4 (by have := HPL.out; have := HJ8.out; omega) HALL.out rfl
            clear hl4 q1 q2 q3 q4
            go_wp2_with fail
            refine g4.mono ?_
            rintro e w5 ⟨v5, rfl, o5, hx⟩
            have hB := below_then hB4 hx
            clear hx g4 r4 hB4
            obtain ⟨A5, c5, rfl, hc5, _, r5⟩ := o5.formL
            have sm := sameMsgs A5 A c5 c ls ls w5 r5 (hr.below hB) (by have := HL.out; omega) (fun z hz => by have := HLE.out z hz; omega)
            rw [decide_eq_true rfl] at sm
            clear o5 r5 hr
            go_wp2_with fail
            refine sm.mono ?_
            rintro e w6 ⟨rfl, hx⟩
            have hB := below_then hB hx
            clear hx sm
            go_wp2
            go_ret
            exact ⟨rfl, hB⟩
end Go.Proofs.Ytjmganppgojdhaa.Hand
