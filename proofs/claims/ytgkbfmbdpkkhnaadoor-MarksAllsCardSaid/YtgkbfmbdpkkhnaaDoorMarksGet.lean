/- What marks.Get hands back: the first message of bytes, how many bytes it has, the error. -/
import Derived.ScopeJumps
import Derived.WalkMore
import Derived.Test.YtgkbfmbdpkkhnaaDoorApp
import Derived.Test.YtgkbfmbdpkkhnaaDoorGet
namespace Go.Proofs.YtgkbfmbdpkkhnaaDoor.Hand
open Go.RowKit
set_option linter.unusedVariables false
set_option linter.unusedSimpArgs false

/-- The first message of bytes: what is left of them, the message so far, how many bytes are gone; the message, how many bytes it has, the error. -/
def mget : Nat → List Int → List Int → Nat → List Int × Nat × Int
  | 0, _, _, _ => ([], 0, 4)
  | f + 1, r, m, at_ =>
    if r.length < 4 then ([], 0, 4)
    else if num r 4 = 0 then ([], 0, 5)
    else if 65536 < m.length + (num r 4 % 2147483648).toNat then ([], 0, 3)
    else if r.length - 4 < (num r 4 % 2147483648).toNat then ([], 0, 4)
    else if num r 4 < 2147483648 then mget f (r.drop (4 + (num r 4 % 2147483648).toNat)) (m ++ (r.drop 4).take (num r 4 % 2147483648).toNat) (at_ + 4 + (num r 4 % 2147483648).toNat)
    else (m ++ (r.drop 4).take (num r 4 % 2147483648).toNat, at_ + 4 + (num r 4 % 2147483648).toNat, 0)

theorem andNot31 {x : Int} (h0 : 0 ≤ x) (h1 : x < 4294967296) : Go.bits .andNot .u32 x 2147483648 = x % 2147483648 := by
  obtain ⟨n, rfl⟩ := Int.eq_ofNat_of_zero_le h0
  have e := Go.u32_andNot_nat n 2147483648 (by omega) (by decide)
  rw [show ((2147483648 : Nat) : Int) = 2147483648 from rfl] at e
  rw [e, show 4294967295 - 2147483648 = 2 ^ 31 - 1 from rfl, Nat.and_two_pow_sub_one_eq_mod]
  omega

def tailOf : Code → Code
  | .seq _ x => x
  | c => c
theorem wp_skip_seq {P : Program} {x : Code} {Q : Exit → Act → World → Prop} {a : Act} {w : World} (h : x.wp P Q a w) : (Code.skip.seq x).wp P Q a w := wp_seq (wp_skip h)

set_option maxRecDepth 100000 in
set_option maxHeartbeats 4000000 in
theorem marksGet (A : Option Addr) (c : Nat) (l : List Int) (w : World) (hr : Rd w A l) (hc : l.length ≤ c) (hn : l.length ≤ 140737488351232) :
    Calls Tryd.prog 19 #[.slice A l.length c] w fun e w' => ∃ v, e = .returned (.tuple #[v, .int .i64 (mget (l.length + 1) l [] 0).2.1, .int .i64 (mget (l.length + 1) l [] 0).2.2]) ∧ Own w' w.heap.size v (mget (l.length + 1) l [] 0).1 ∧ Below w.heap.size w w' := by
  obtain ⟨R, hR⟩ : ∃ R, R = mget (l.length + 1) l [] 0 := ⟨_, rfl⟩
  rw [← hR]
  have HR := Lib.hid hR
  clear hR
  go_enter Tryd.func19, Tryd.ntmps19
  go_wp2
  refine (fun (pass : ∀ (a : Act) (w : World), _ → Code.wp _ _ _ a w) => wp_scope_jumps 0 (fun a' w' => ∃ (mv : Value) (acc : List Int) (at_ f : Nat) (u5 u6 u7 u8 u9 u10 u11 u12 u13 u14 u15 u16 u17 u18 u19 u20 u21 u22 u23 u24 u25 u26 u27 u28 u29 u30 u31 u32 u33 u34 u35 u36 u37 u38 u39 u40 u41 u42 u43 u44 u45 u46 u47 u48 u49 u50 u51 u52 u53 u54 : Value), a' = { tmps := #[.slice A l.length c, undef, mv, .int .i64 at_, .int .i64 0, u5, u6, u7, u8, u9, u10, u11, u12, u13, u14, u15, u16, u17, u18, u19, u20, u21, u22, u23, u24, u25, u26, u27, u28, u29, u30, u31, u32, u33, u34, u35, u36, u37, u38, u39, u40, u41, u42, u43, u44, u45, u46, u47, u48, u49, u50, u51, u52, u53, u54], defers := [] } ∧ at_ ≤ l.length ∧ (l.drop at_).length < f ∧ acc.length ≤ 65536 ∧ mget f (l.drop at_) acc at_ = R ∧ Own w' w.heap.size mv acc ∧ Below w.heap.size w w') (fun a' _ => l.length - (intOf (a'.tmps.getD 3 undef)).toNat) (rest := Code.seq Code.skip _) rfl ?_ (fun a w h => wp_skip_seq (pass a w h))) ?_
  · have PASS := Lib.hid pass
    clear pass
    go_wp2
    go_step3
    rename_i Q' K hK
    refine hK _ _ (wp_mono (PASS.out _ _ ⟨.slice none 0 0, [], 0, l.length + 1, undef, undef, undef, undef, undef, undef, undef, undef, undef, undef, undef, undef, undef, undef, undef, undef, undef, undef, undef, undef, undef, undef, undef, undef, undef, undef, undef, undef, undef, undef, undef, undef, undef, undef, undef, undef, undef, undef, undef, undef, undef, undef, undef, undef, undef, undef, undef, undef, undef, undef, by rfl, by omega, by simp, by simp, HR.out.symm, Own.nil _ _, Below.refl _ _⟩) ?_)
    intro e a' w' h
    cases e <;> first | exact h | exact ⟨h.1, h.2.1⟩
  · rintro a w1 ⟨mv, acc, at_, f, u5, u6, u7, u8, u9, u10, u11, u12, u13, u14, u15, u16, u17, u18, u19, u20, u21, u22, u23, u24, u25, u26, u27, u28, u29, u30, u31, u32, u33, u34, u35, u36, u37, u38, u39, u40, u41, u42, u43, u44, u45, u46, u47, u48, u49, u50, u51, u52, u53, u54, rfl, hat, hf, hacc, hm, ho, hB⟩
    obtain ⟨f, rfl⟩ : ∃ g, f = g + 1 := ⟨f - 1, by omega⟩
    rw [mget] at hm
    have hrl : (l.drop at_).length = l.length - at_ := List.length_drop
    have hrd := (hr.below hB).drop at_ c hc
    have G := Get _ (c - at_) (l.drop at_) w1 hrd (by omega)
    by_cases h4 : (l.drop at_).length < 4
    · rw [if_pos h4] at hm
      rw [get32_short h4, hrl] at G
      have HM := Lib.hid hm
      clear hm ho hrd
      by_cases hca : c = at_
      · rw [if_pos hca] at G
        subst hca
        rw [Nat.sub_self, show l.length - c = 0 from by omega] at G
        go_wp2_with fail
        refine G.mono ?_
        rintro e w2 ⟨rfl, rfl⟩
        clear G
        go_wp2
        simp only [Exit.jump, Exit.noGoto_ret]
        refine bodyPost_ret (v := .tuple #[.slice none 0 0, .int .i64 0, .int .i64 4]) (by simp [results, Tryd.f19, go_sem]) rfl ⟨_, by rw [← HM.out]; rfl, by rw [← HM.out]; exact Own.nil _ _, hB⟩
      · rw [if_neg hca] at G
        go_wp2_with fail
        refine G.mono ?_
        rintro e w2 ⟨rfl, rfl⟩
        clear G
        go_wp2
        simp only [Exit.jump, Exit.noGoto_ret]
        refine bodyPost_ret (v := .tuple #[.slice none 0 0, .int .i64 0, .int .i64 4]) (by simp [results, Tryd.f19, go_sem]) rfl ⟨_, by rw [← HM.out]; rfl, by rw [← HM.out]; exact Own.nil _ _, hB⟩
    · rw [if_neg h4] at hm
      have h4' : ¬ c = at_ := by omega
      rw [if_neg h4'] at G hrd
      rw [get32_ok (by omega), hrl] at G
      have hx := num4 hrd.1
      have hx0 : num (l.drop at_) 4 = 0 ∨ num (l.drop at_) 4 ≠ 0 := by omega
      have hrest := hrd.drop 4 (c - at_) (by omega)
      rw [List.drop_drop] at hrest
      generalize num (l.drop at_) 4 = x at *
      have ha := andNot31 hx.1 hx.2
      have hw : wrap64 (x % 2147483648) = x % 2147483648 := by unfold wrap64; omega
      by_cases hx0 : x = 0
      · rw [if_pos hx0] at hm
        have HM := Lib.hid hm
        have b1 : (x == 0) = true := by rw [beq_iff_eq]; exact hx0
        subst hx0
        clear hm ho hrd hrest
        go_wp2_with fail
        refine G.mono ?_
        rintro e w2 ⟨rfl, rfl⟩
        clear G
        go_wp2
        simp only [Exit.jump, Exit.noGoto_ret]
        refine bodyPost_ret (v := .tuple #[.slice none 0 0, .int .i64 0, .int .i64 5]) (by simp [results, Tryd.f19, go_sem]) rfl ⟨_, by rw [← HM.out]; rfl, by rw [← HM.out]; exact Own.nil _ _, hB⟩
      · rw [if_neg hx0] at hm
        have b1 : (x == 0) = false := by rw [beq_eq_false_iff_ne]; exact hx0
        obtain ⟨k, hk⟩ := Int.eq_ofNat_of_zero_le (show 0 ≤ x % 2147483648 by omega)
        rw [hk] at hm ha hw
        rw [Int.toNat_natCast] at hm
        obtain ⟨B, d, rfl, hd, hd2, hmr⟩ := ho.form
        by_cases h3 : 65536 < acc.length + k
        · rw [if_pos h3] at hm
          have HM := Lib.hid hm
          have t1 : 65536 < (acc.length : Int) + (k : Int) := by omega
          clear hm ho hrd hrest
          go_wp2_with fail
          refine G.mono ?_
          rintro e w2 ⟨rfl, rfl⟩
          clear G
          go_wp2
          simp only [Exit.jump, Exit.noGoto_ret]
          refine bodyPost_ret (v := .tuple #[.slice none 0 0, .int .i64 0, .int .i64 3]) (by simp [results, Tryd.f19, go_sem]) rfl ⟨_, by rw [← HM.out]; rfl, by rw [← HM.out]; exact Own.nil _ _, hB⟩
        · rw [if_neg h3] at hm
          have t1 : ¬ 65536 < (acc.length : Int) + (k : Int) := by omega
          by_cases h5 : (l.drop at_).length - 4 < k
          · rw [if_pos h5] at hm
            have HM := Lib.hid hm
            have t2 : (l.length : Int) - (at_ : Int) - 4 < (k : Int) := by omega
            clear hm ho hrd hrest
            go_wp2_with fail
            refine G.mono ?_
            rintro e w2 ⟨rfl, rfl⟩
            clear G
            go_wp2
            simp only [Exit.jump, Exit.noGoto_ret]
            refine bodyPost_ret (v := .tuple #[.slice none 0 0, .int .i64 0, .int .i64 4]) (by simp [results, Tryd.f19, go_sem]) rfl ⟨_, by rw [← HM.out]; rfl, by rw [← HM.out]; exact Own.nil _ _, hB⟩
          · rw [if_neg h5] at hm
            have t2 : ¬ (l.length : Int) - (at_ : Int) - 4 < (k : Int) := by omega
            have hrd4 := ((hr.below hB).drop (at_ + 4) c hc).take k
            have hlk : ((l.drop (at_ + 4)).take k).length = k := by rw [List.length_take, List.length_drop]; omega
            have tn : ((at_ : Int) + 4).toNat = at_ + 4 := by omega
            have tk : ((at_ : Int) + 4 + (k : Int)).toNat = at_ + 4 + k := by omega
            have hsz := hB.size
            have HM := Lib.hid hm
            clear hm hrd hrest
            by_cases hcb : c = at_ + 4
            · subst hcb
              obtain rfl : k = 0 := by omega
              have hl : ¬ x < 2147483648 := by omega
              rw [show at_ + 4 - at_ = 4 from by omega] at G
              go_wp2_with fail
              refine G.mono ?_
              rintro e w2 ⟨rfl, rfl⟩
              clear G
              have hm := HM.out
              rw [if_neg (by omega)] at hm
              have HM := Lib.hid hm
              have e3 : ((at_ : Int) + 4 + ((0 : Nat) : Int)) = ((at_ + 4 + 0 : Nat) : Int) := by omega
              clear hm
              go_wp2_with (at_builtin; refine wpList_app rfl _ _ rfl rfl _ w.heap.size (.slice B acc.length d) acc rfl ho A 0 [] rfl (Rd.nil _ A) ?h1 hsz ?h2)
              case h1 => simp; omega
              case h2 =>
                intro v' w5 ho5 hg5 _
                have hB5 := ho.grown hB hsz hg5
                try rw [List.append_nil] at ho5
                clear ho hg5 hrd4
                go_wp2
                simp only [Exit.jump, Exit.noGoto_ret]
                refine bodyPost_ret (v := .tuple #[v', .int .i64 ((at_ : Int) + 4), .int .i64 0]) (by simp [results, Tryd.f19, go_sem]) rfl ⟨v', by rw [← HM.out]; simp, by rw [← HM.out]; simpa using ho5, hB5⟩
            · rw [if_neg hcb] at hrd4
              have e1 : (l.drop at_).drop 4 = l.drop (at_ + 4) := by simp [List.drop_drop, Nat.add_comm]
              have e2 : (l.drop at_).drop (4 + k) = l.drop (at_ + 4 + k) := by simp [List.drop_drop, Nat.add_comm, Nat.add_left_comm]
              have hm := HM.out
              rw [e1, e2] at hm
              have HM := Lib.hid hm
              clear hm e1 e2
              go_wp2_with fail
              refine G.mono ?_
              rintro e w2 ⟨rfl, rfl⟩
              clear G
              go_wp2_with (at_builtin; refine wpList_app rfl _ _ rfl rfl _ w.heap.size (.slice B acc.length d) acc rfl ho (A.map (·.add (at_ + 4))) (c - (at_ + 4)) ((l.drop (at_ + 4)).take k) (by rw [hlk]; rfl) hrd4 ?h1 hsz ?h2)
              case h1 => rw [hlk]; omega
              case h2 =>
                intro v' w5 ho5 hg5 _
                have hB5 := ho.grown hB hsz hg5
                have e3 : ((at_ : Int) + 4 + (k : Int)) = ((at_ + 4 + k : Nat) : Int) := by omega
                have E3 := Lib.hid e3
                clear e3 ho hg5 hrd4
                by_cases hl : x < 2147483648
                · go_wp2
                  go_step3
                  try simp only [Exit.jump]
                  rw [E3.out]
                  have hm := HM.out
                  rw [if_pos hl] at hm
                  refine ⟨rfl, ⟨v', acc ++ (l.drop (at_ + 4)).take k, at_ + 4 + k, f, _, _, _, _, _, _, _, _, _, _, _, _, _, _, _, _, _, _, _, _, _, _, _, _, _, _, _, _, _, _, _, _, _, _, _, _, _, _, _, _, _, _, _, _, _, _, _, _, _, _, rfl, by omega, by rw [List.length_drop]; omega, by rw [List.length_append, hlk]; omega, hm, ho5, hB5⟩, ?_⟩
                  simp [intOf]
                  omega
                · go_wp2
                  simp only [Exit.jump, Exit.noGoto_ret]
                  have hm := HM.out
                  rw [if_neg (by omega)] at hm
                  refine bodyPost_ret (v := .tuple #[v', .int .i64 ((at_ : Int) + 4 + (k : Int)), .int .i64 0]) (by simp [results, Tryd.f19, go_sem]) rfl ⟨v', by rw [← hm, E3.out], by rw [← hm]; exact ho5, hB5⟩
end Go.Proofs.YtgkbfmbdpkkhnaaDoor.Hand
