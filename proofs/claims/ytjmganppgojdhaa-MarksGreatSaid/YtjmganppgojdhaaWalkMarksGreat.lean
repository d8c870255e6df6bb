/- The statement MarksGreat, walked: fragments that tell more bytes than a message may have are refused, as soon as they tell so. -/
import Derived.Test.YtjmganppgojdhaaZeros
import Derived.Test.YtjmganppgojdhaaGreatLaw
import Derived.Test.YtjmganppgojdhaaAlive04
namespace Go.Proofs.Ytjmganppgojdhaa.Hand
open Go.RowKit
set_option linter.unusedVariables false
set_option linter.unusedSimpArgs false

set_option maxRecDepth 100000 in
set_option maxHeartbeats 4000000 in
theorem MarksGreat_walk (x y : Int) (w : World) (hx0 : 0 ≤ x) (hx : x < 4294967296) (hy0 : 0 ≤ y) (hy : y < 4294967296) :
    Calls Try.prog 8 #[.int .u32 x, .int .u32 y] w fun e w' => e = .returned (.bool true) ∧ Below w.heap.size w w' := by
  obtain ⟨k, hk⟩ : ∃ k : Nat, x % 70000 = k := ⟨(x % 70000).toNat, by omega⟩
  have hk2 : k < 70000 := by omega
  go_enter Try.func8, Try.ntmps8
  have hn4 : ¬ 281474976710656 < Builtin.nextslicecap 4 0 * Try.t5.bytes := by decide
  have hG := grownCap_ge w 4 0 5
  have hM := grownCap_le_maxLen w 4 0 5 (by unfold maxLen; omega)
  have hbs : Bs [0, (k : Int) / 65536, (k : Int) / 256 % 256, (k : Int) % 256] := by intro z hz; simp at hz; omega
  go_wp2_with (at_builtin; refine wpList_zeros rfl _ _ rfl rfl _ (w.heap.size + 1) _ [0, (k : Int) / 65536, (k : Int) / 256 % 256, (k : Int) % 256] rfl ?own k rfl (by simp; omega) (by simp) ?hb ?hk)
  case own =>
    have h := (Own.padded (w.alloc (.cells #[.int .u8 0, .int .u8 ((k : Int) / 65536), .int .u8 ((k : Int) / 256 % 256), .int .u8 ((k : Int) % 256)] 5)) _ hbs (grownCap w 4 0 5) hG hM).undrew
    simp only [grownCap, World.size_alloc, List.length_cons, List.length_nil, List.map_cons, List.map_nil] at h
    exact h
  case hb => simp
  case hk =>
    intro v2 w2 o2 hg2
    have hB2 : Below w.heap.size w w2 := ((((Below.refl _ w).alloc (Nat.le_refl _) _).alloc (by simp) _).drew).grown hg2 (by simp; omega) (fun j e => by simp [Value.ownBlock] at e; omega)
    obtain ⟨L2, hL2⟩ : ∃ L2 : List Int, L2 = [0, (k : Int) / 65536, (k : Int) / 256 % 256, (k : Int) % 256] ++ List.replicate k (0 : Int) := ⟨_, rfl⟩
    replace o2 : Own w2 w.heap.size v2 L2 := by
      rw [hL2]
      exact o2.lower (by omega)
    have HK := Lib.hid hk
    clear hk hn4 hbs hg2 hG hM
    have hl2 : L2.length = k + 4 := by rw [hL2]; simp
    have HL2 := Lib.hid hL2
    clear hL2
    have hB2a := hB2.alloc hB2.size (.cells #[.int .u8 (y / 16777216), .int .u8 (y / 65536 % 256), .int .u8 (y / 256 % 256), .int .u8 (y % 256)] 5)
    go_wp2_with (at_builtin; refine wpList_app rfl _ _ rfl rfl _ w.heap.size v2 _ rfl (o2.alloc _) (some ⟨w2.heap.size, 0, none⟩) 4 [y / 16777216, y / 65536 % 256, y / 256 % 256, y % 256] rfl (Rd.lit w2 _ ?bs) (by rw [hl2]; simp; omega) hB2a.size ?hk)
    case bs => intro z hz; simp at hz; omega
    case hk =>
      intro v3 w3 o3 hg3 _
      have hB3 := (o2.alloc _).grown hB2a hB2a.size hg3
      clear o2 hg3 hB2 hB2a
      obtain ⟨A3, c3, rfl, hc3, _, r3⟩ := o3.form
      obtain ⟨L3, hL3⟩ : ∃ L3 : List Int, L3 = L2 ++ [y / 16777216, y / 65536 % 256, y / 256 % 256, y % 256] := ⟨_, rfl⟩
      rw [← hL3] at r3 hc3
      have hl3 : L3.length = k + 8 := by rw [hL3, List.length_append, hl2]; rfl
      have hlaw := great_law k y hk2 hy0 hy L3 (by rw [hL3, HL2.out])
      have G := marksGet A3 c3 L3 w3 r3 hc3 (by omega)
      rw [← hL3]
      clear hL3 o3
      generalize (mget (L3.length + 1) L3 [] 0).2.1 = N at *
      generalize (mget (L3.length + 1) L3 [] 0).1 = M at *
      generalize (mget (L3.length + 1) L3 [] 0).2.2 = E at *
      have HLAW := Lib.hid hlaw
      clear hlaw
      rw [hl3] at G ⊢
      clear hl3 hl2 hc3
      go_wp2_with fail
      refine G.mono ?_
      rintro e w4 ⟨v4, rfl, _, hx4⟩
      have hB4 := below_then hB3 hx4
      clear G hx4 r3
      have fin : ∀ (w5 : World), Below w4.heap.size w4 w5 → Below w.heap.size w w5 := fun w5 h => below_then hB4 h
      have FIN := Lib.hid fin
      clear fin hB4 hB3
      have hlaw := HLAW.out
      by_cases h0 : k = 0
      · rw [if_pos h0] at hlaw
        have c0 : ((k : Int) == 0) = true := by rw [beq_iff_eq]; omega
        subst hlaw
        clear h0 HLAW HL2 HK
        go_wp2_with fail
        refine (alive04 w4).mono ?_
        rintro e w5 ⟨rfl, hx5⟩
        have hB5 := FIN.out w5 hx5
        clear hx5
        go_wp2
        go_ret
        exact ⟨rfl, hB5⟩
      · rw [if_neg h0] at hlaw
        have c0 : ((k : Int) == 0) = false := by rw [beq_eq_false_iff_ne]; omega
        by_cases h1 : 65536 < k
        · rw [if_pos (Or.inl h1)] at hlaw
          have c1 : decide (65536 < (k : Int)) = true := decide_eq_true (by omega)
          subst hlaw
          clear h0 HLAW HL2 HK h1
          go_wp2_with fail
          refine (alive04 w4).mono ?_
          rintro e w5 ⟨rfl, hx5⟩
          have hB5 := FIN.out w5 hx5
          clear hx5
          go_wp2
          go_ret
          exact ⟨rfl, hB5⟩
        · have c1 : decide (65536 < (k : Int)) = false := decide_eq_false (by omega)
          by_cases h2 : y = 0
          · subst h2
            rw [if_neg (by omega), if_pos rfl] at hlaw
            have c2 : decide (65536 < (k : Int) + 0) = false := decide_eq_false (by omega)
            subst hlaw
            clear h0 HLAW HL2 HK h1
            go_wp2_with fail
            refine (alive04 w4).mono ?_
            rintro e w5 ⟨rfl, hx5⟩
            have hB5 := FIN.out w5 hx5
            clear hx5
            go_wp2
            go_ret
            exact ⟨rfl, hB5⟩
          · have c3 : (y == 0) = false := by rw [beq_eq_false_iff_ne]; exact h2
            have c4 : (y != 0) = true := by rw [bne_iff_ne]; exact h2
            by_cases h3 : 65536 < (k : Int) + y % 2147483648
            · rw [if_pos (Or.inr ⟨h3, h2⟩)] at hlaw
              have c2 : decide (65536 < (k : Int) + y % 2147483648) = true := decide_eq_true h3
              subst hlaw
              clear h0 HLAW HL2 HK h1 h2 h3
              go_wp2_with fail
              refine (alive04 w4).mono ?_
              rintro e w5 ⟨rfl, hx5⟩
              have hB5 := FIN.out w5 hx5
              clear hx5
              go_wp2
              go_ret
              exact ⟨rfl, hB5⟩
            · rw [if_neg (by omega), if_neg h2] at hlaw
              have c2 : decide (65536 < (k : Int) + y % 2147483648) = false := decide_eq_false h3
              by_cases h4 : y % 2147483648 = 0
              · rw [if_pos h4] at hlaw
                have c5 : (y % 2147483648 == 0) = true := by rw [beq_iff_eq]; exact h4
                subst hlaw
                clear h0 HLAW HL2 HK h1 h2 h3 h4
                go_wp2_with fail
                refine (alive04 w4).mono ?_
                rintro e w5 ⟨rfl, hx5⟩
                have hB5 := FIN.out w5 hx5
                clear hx5
                go_wp2
                go_ret
                exact ⟨rfl, hB5⟩
              · rw [if_neg h4] at hlaw
                have c5 : (y % 2147483648 == 0) = false := by rw [beq_eq_false_iff_ne]; exact h4
                subst hlaw
                clear h0 HLAW HL2 HK h1 h2 h3 h4
                go_wp2_with fail
                refine (alive04 w4).mono ?_
                rintro e w5 ⟨rfl, hx5⟩
                have hB5 := FIN.out w5 hx5
                clear hx5
                go_wp2
                go_ret
                exact ⟨rfl, hB5⟩
end Go.Proofs.Ytjmganppgojdhaa.Hand
