/- Slices of slices of bytes that read as lists, and the contracts of the statements' helpers SameMessages and MessagesSize. -/
import Derived.Test.YtgkbfmbdpkkhnaaDoorWLast
import Derived.Test.YtgkbfmbdpkkhnaaDoorHelp
import Derived.Test.YtgkbfmbdpkkhnaaDoorMarksAll
namespace Go.Proofs.YtgkbfmbdpkkhnaaDoor.Hand
open Go.RowKit Go.Proofs.YtgkbfmbdpkkhnaaDoorW.PrintLast
set_option linter.unusedVariables false
set_option linter.unusedSimpArgs false

/-- The slice at A, as long as ls, reads as the lists ls. -/
def RdL (w : World) (A : Option Addr) (ls : List (List Int)) : Prop :=
  0 < ls.length → ∃ ad, A = some ad ∧ ∀ j : Nat, j < ls.length → ∃ B c, w.cell? (ad.add j) = some (.slice B (ls.getD j []).length c) ∧ (ls.getD j []).length ≤ c ∧ Rd w B (ls.getD j [])
theorem RdL.nil (w : World) (A : Option Addr) : RdL w A [] := fun h => absurd h (by simp)
theorem RdL.at_ {w : World} {A : Option Addr} {l : List (List Int)} (h : RdL w A l) {k : Nat} (hk : k < l.length) : ∃ ad B c, A = some ad ∧ w.cell? (ad.add k) = some (.slice B (l.getD k []).length c) ∧ (l.getD k []).length ≤ c ∧ Rd w B (l.getD k []) := by
  obtain ⟨ad, e, hc⟩ := h (by omega)
  obtain ⟨B, c, h1, h2, h3⟩ := hc k hk
  exact ⟨ad, B, c, e, h1, h2, h3⟩
theorem RdL.below {w w' : World} {A : Option Addr} {l : List (List Int)} (h : RdL w A l) (hb : Below w.heap.size w w') : RdL w' A l := fun h0 => by
  obtain ⟨ad, e, hc⟩ := h h0
  refine ⟨ad, e, fun j hj => ?_⟩
  obtain ⟨B, c, h1, h2, h3⟩ := hc j hj
  exact ⟨B, c, cell_later hb h1, h2, h3.below hb⟩
theorem getD_take {l : List (List Int)} {k j : Nat} (hj : j < (l.take k).length) : (l.take k).getD j [] = l.getD j [] := by
  have h2 : j < l.length := by rw [List.length_take] at hj; omega
  simp [List.getD, List.getElem?_eq_getElem hj, List.getElem?_eq_getElem h2]
theorem getD_drop {l : List (List Int)} {k j : Nat} : (l.drop k).getD j [] = l.getD (k + j) [] := by
  simp [List.getD]
theorem RdL.take {w : World} {A : Option Addr} {l : List (List Int)} (h : RdL w A l) (k : Nat) : RdL w A (l.take k) := fun h0 => by
  have h1 := h0
  rw [List.length_take] at h1
  obtain ⟨ad, e, hc⟩ := h (by omega)
  refine ⟨ad, e, fun j hj => ?_⟩
  rw [getD_take hj]
  rw [List.length_take] at hj
  exact hc j (by omega)
theorem RdL.drop {w : World} {A : Option Addr} {l : List (List Int)} (h : RdL w A l) (k c : Nat) (hc : l.length ≤ c) : RdL w (if c = k then A else A.map (·.add k)) (l.drop k) := fun h0 => by
  rw [List.length_drop] at h0
  obtain ⟨ad, rfl, hcell⟩ := h (by omega)
  rw [if_neg (by omega)]
  refine ⟨ad.add k, rfl, fun j hj => ?_⟩
  rw [List.length_drop] at hj
  rw [add_of_add, getD_drop]
  exact hcell (k + j) (by omega)
theorem OwnL.formL {w : World} {base : Nat} {v : Value} {ms : List (List Int)} (h : OwnL w base v ms) : ∃ A c, v = .slice A ms.length c ∧ ms.length ≤ c ∧ c ≤ maxLen ∧ RdL w A ms := by
  obtain ⟨ps, rfl, hr, hp⟩ := h
  rcases hr.2 with ⟨rfl, h0⟩ | ⟨g, cap, cur, rfl, _, hg, hn, hm, hs, ht⟩
  · obtain rfl : ps = [] := List.eq_nil_of_length_eq_zero h0
    exact ⟨none, 0, rfl, by simp, by simp, RdL.nil _ _⟩
  · rw [List.length_map]
    refine ⟨_, cap, rfl, hn, hm, fun _ => ⟨_, rfl, fun j hj => ?_⟩⟩
    rw [List.length_map] at hj
    have e : (cur.toList.take (ps.length * 1))[j]? = (ps.map (·.1))[j]? := by rw [ht]
    rw [List.getElem?_take, if_pos (by omega), Array.getElem?_toList, List.getElem?_map, List.getElem?_eq_getElem hj] at e
    have e2 : (ps.map (·.2.1)).getD j [] = (ps[j]).2.1 := by simp [List.getD, List.getElem?_eq_getElem hj]
    obtain ⟨B, c, hv, hc, _, hrd⟩ := (hp _ (List.getElem_mem hj)).form
    rw [e2, add_plain, cell_of_row w g j cur _ (0, 0) hg, e]
    exact ⟨B, c, by simp [hv], hc, hrd⟩

theorem OwnL.form0 {w : World} {base : Nat} {v : Value} {ms : List (List Int)} (h : OwnL w base v ms) (h0 : 0 < ms.length) : ∃ b c, v = .slice (some ⟨b, 0, none⟩) ms.length c ∧ ms.length ≤ c ∧ c ≤ maxLen ∧ RdL w (some ⟨b, 0, none⟩) ms := by
  obtain ⟨A, c, hv, hc, hm, hr⟩ := h.formL
  obtain ⟨ps, hps, hrow, hp⟩ := h
  have hl : ps.length = ms.length := by rw [← hps, List.length_map]
  rcases hrow.2 with ⟨_, h1⟩ | ⟨g, cap, cur, hv2, _⟩
  · omega
  · rw [hv] at hv2
    injection hv2 with e1 _ _
    subst e1
    exact ⟨g, c, hv, hc, hm, hr⟩
theorem RdL.first {w : World} {b : Nat} {m : List Int} {ms : List (List Int)} (h : RdL w (some ⟨b, 0, none⟩) (m :: ms)) : ∃ B c, w.cell? ⟨b, 0, none⟩ = some (.slice B m.length c) ∧ m.length ≤ c ∧ Rd w B m := by
  obtain ⟨ad, B, c, e, h1, h2, h3⟩ := h.at_ (k := 0) (by simp)
  cases e
  exact ⟨B, c, h1, h2, h3⟩

theorem take_stepL (l m : List (List Int)) (k : Nat) (hl : k < l.length) (hm : k < m.length) (h : l.take k = m.take k) (he : l.getD k [] = m.getD k []) : l.take (k + 1) = m.take (k + 1) := by
  have e1 : l.getD k [] = l[k] := by simp [List.getD, List.getElem?_eq_getElem hl]
  have e2 : m.getD k [] = m[k] := by simp [List.getD, List.getElem?_eq_getElem hm]
  rw [List.take_succ_eq_append_getElem hl, List.take_succ_eq_append_getElem hm, h, ← e1, ← e2, he]

set_option maxRecDepth 100000 in
set_option maxHeartbeats 2000000 in
theorem sameMsgs (A B : Option Addr) (c d : Nat) (l m : List (List Int)) (w : World) (hl : RdL w A l) (hm : RdL w B m) (hlc : l.length ≤ 9223372036854775806) (hle : ∀ x ∈ l, x.length ≤ 9223372036854775807) :
    Calls Tryd.prog 29 #[.slice A l.length c, .slice B m.length d] w fun e w' => e = .returned (.bool (decide (l = m))) ∧ Below w.heap.size w w' := by
  by_cases hlen : l.length = m.length
  · have hq : ((l.length : Int) != (m.length : Int)) = false := by rw [bne_eq_false_iff_eq, hlen]
    have Hlen := Lib.hid hlen
    clear hlen
    go_enter Tryd.func29, Tryd.ntmps29
    go_wp2
    clear hq
    go_loopw [5] (fun i wr => ∃ k : Nat, k ≤ l.length ∧ l.take k = m.take k ∧ i = .int .i64 k ∧ Below w.heap.size w wr) (fun i _ => l.length - (intOf i).toNat)
    case atStart => exact ⟨0, Nat.zero_le _, by simp, rfl, Below.refl _ _⟩
    case round =>
      obtain ⟨k, hk, htake, rfl, hB⟩ := hrel
      have Ht := Lib.hid htake
      clear htake
      by_cases hlt : k < l.length
      · obtain ⟨a, A1, c1, rfl, ha, ha1, ha2⟩ := (hl.below hB).at_ hlt
        obtain ⟨b, B1, d1, rfl, hb, hb1, hb2⟩ := (hm.below hB).at_ (by rw [← Hlen.out]; exact hlt)
        have hkm : (k : Int) < (m.length : Int) := by rw [← Hlen.out]; omega
        have hkl : (k : Int) < (l.length : Int) := by omega
        have hle1 : (l.getD k []).length ≤ 9223372036854775807 := by
          have e1 : l.getD k [] = l[k] := by simp [List.getD, List.getElem?_eq_getElem hlt]
          rw [e1]
          exact hle _ (List.getElem_mem hlt)
        have HL := Lib.hid hle1
        clear hle1 hle
        generalize hxl : l.getD k [] = xl at *
        generalize hxm : m.getD k [] = xm at *
        have hd0 : Below wr.heap.size wr wr.drew := below_drawn (n := 1) rfl
        have ra := ha2.below hd0
        have rb := hb2.below hd0
        have hB1 := below_then hB hd0
        have XL := Lib.hid hxl
        have XM := Lib.hid hxm
        clear hxl hxm hd0
        have sm := fun wx h1 h2 => (same A1 B1 c1 d1 xl xm wx h1 h2 HL.out)
        by_cases he : xl = xm
        · have He := Lib.hid he
          rw [decide_eq_true he] at sm
          clear he
          go_wp2_with fail
          refine start_ (n := 10) (S := fun w' => w'.cell? (a.add k) = some (.slice A1 xl.length c1) ∧ w'.cell? (b.add k) = some (.slice B1 xm.length d1)) (ds := [8]) #[false, false, false, false, false, false, false, false, false, false] (by kernel_rfl) rfl rfl ⟨ha, hb⟩ (fun hHeld => ?_)
          refine pure_ (i := 0) (N := some 17) (v := ?_) (a' := ?_) #[true, false, false, false, false, false, false, false, false, false] rfl rfl (by kernel_rfl) (fun _ _ _ h => h) (Or.inl ⟨by rfl, ?_⟩) ?_ ?_
          rotate_left
          · intro w'
            go_simp
            with_reducible rfl
          rotate_left
          · simp only [Act.put, List.setIfInBounds_toArray, List.set_cons_zero, List.set_cons_succ, i64_w, i32_w]
            rfl
          refine pure_ (i := 1) (N := some 18) (v := ?_) (a' := ?_) #[true, true, false, false, false, false, false, false, false, false] rfl rfl (by kernel_rfl) (fun _ _ _ h => h) (Or.inl ⟨by rfl, ?_⟩) ?_ ?_
          rotate_left
          · intro w'
            go_simp
            with_reducible rfl
          rotate_left
          · simp only [Act.put, List.setIfInBounds_toArray, List.set_cons_zero, List.set_cons_succ, i64_w, i32_w]
            rfl
          refine pure_ (i := 2) (N := some 19) (v := ?_) (a' := ?_) #[true, true, true, false, false, false, false, false, false, false] rfl rfl (by kernel_rfl) (fun _ _ _ h => h) (Or.inl ⟨by rfl, ?_⟩) ?_ ?_
          rotate_left
          · intro w'
            go_simp
            with_reducible rfl
          rotate_left
          · simp only [Act.put, List.setIfInBounds_toArray, List.set_cons_zero, List.set_cons_succ, i64_w, i32_w]
            rfl
          refine pure_ (i := 4) (N := some 21) (v := ?_) (a' := ?_) #[true, true, true, false, true, false, false, false, false, false] rfl rfl (by kernel_rfl) (fun _ _ _ h => h) (Or.inl ⟨by rfl, ?_⟩) ?_ ?_
          rotate_left
          · intro w'
            go_simp
            with_reducible rfl
          rotate_left
          · simp only [Act.put, List.setIfInBounds_toArray, List.set_cons_zero, List.set_cons_succ, i64_w, i32_w]
            rfl
          refine pure_ (i := 5) (N := some 22) (v := ?_) (a' := ?_) #[true, true, true, false, true, true, false, false, false, false] rfl rfl (by kernel_rfl) (fun _ _ _ h => h) (Or.inl ⟨by rfl, ?_⟩) ?_ ?_
          rotate_left
          · intro w'
            go_simp
            with_reducible rfl
          rotate_left
          · simp only [Act.put, List.setIfInBounds_toArray, List.set_cons_zero, List.set_cons_succ, i64_w, i32_w]
            rfl
          refine pure_ (i := 6) (N := some 23) (v := ?_) (a' := ?_) #[true, true, true, false, true, true, true, false, false, false] rfl rfl (by kernel_rfl) (fun _ _ _ h => h) (Or.inl ⟨by rfl, ?_⟩) ?_ ?_
          rotate_left
          · intro w'
            go_simp
            with_reducible rfl
          rotate_left
          · simp only [Act.put, List.setIfInBounds_toArray, List.set_cons_zero, List.set_cons_succ, i64_w, i32_w]
            rfl
          refine take_ (i := 3) (N := some 20) (v := ?_) (a' := ?_) #[true, true, true, true, true, true, true, false, false, false] rfl rfl (by kernel_rfl) (fun _ _ _ h => h) (Or.inl ⟨by rfl, ?_⟩) hHeld ?_ ?_
          rotate_left
          · rintro w' ⟨s0, s1⟩
            go_simp
            with_reducible rfl
          rotate_left
          · simp only [Act.put, List.setIfInBounds_toArray, List.set_cons_zero, List.set_cons_succ, i64_w, i32_w]
            rfl
          refine take_ (i := 7) (N := some 24) (v := ?_) (a' := ?_) #[true, true, true, true, true, true, true, true, false, false] rfl rfl (by kernel_rfl) (fun _ _ _ h => h) (Or.inl ⟨by rfl, ?_⟩) hHeld ?_ ?_
          rotate_left
          · rintro w' ⟨s0, s1⟩
            go_simp
            with_reducible rfl
          rotate_left
          · simp only [Act.put, List.setIfInBounds_toArray, List.set_cons_zero, List.set_cons_succ, i64_w, i32_w]
            rfl
          refine last_ (i := 8) (N := some 25) #[true, true, true, true, true, true, true, true, true, false] rfl rfl (by kernel_rfl) (by decide) (fun K hK => ?_)
          refine goes_ Tryd.func12 (by kernel_rfl) rfl #[.slice A1 xl.length c1, .slice B1 xm.length d1] (by rfl) rfl rfl (by simp only [List.map_toArray, List.map_cons, List.map_nil]; rfl) ?_
          with_reducible refine (sm _ ra rb).mono ?_
          rintro e w4 ⟨rfl, nx, hw4⟩
          refine ⟨_, rfl, ?_⟩
          refine hK.out _ _ ?_
          clear hK K
          refine norm_ (a' := ?_) ?_ ?_
          rotate_left
          · show Act.put _ (some 25) _ = _
            simp only [Act.put, List.setIfInBounds_toArray, List.set_cons_zero, List.set_cons_succ, i64_w, i32_w]
            rfl
          refine pure_ (i := 9) (N := some 26) (v := ?_) (a' := ?_) #[true, true, true, true, true, true, true, true, true, true] rfl rfl (by kernel_rfl) (fun _ _ _ h => h) (Or.inl ⟨by rfl, ?_⟩) ?_ ?_
          rotate_left
          · intro w'
            go_simp
            with_reducible rfl
          rotate_left
          · simp only [Act.put, List.setIfInBounds_toArray, List.set_cons_zero, List.set_cons_succ, i64_w, i32_w]
            rfl
          refine done_ (by kernel_rfl) ?_
          have hB2 : Below w.heap.size w w4 := hB1.trans ((below_drawn hw4).mono hB1.size)
          clear hw4
          go_wp2
          exact ⟨⟨k + 1, by omega, take_stepL l m k hlt (by rw [← Hlen.out]; exact hlt) Ht.out (by rw [XL.out, XM.out, He.out]), by go_num, hB2⟩, by simp [intOf]; omega⟩
        · have hne : decide (l = m) = false := decide_eq_false (fun h => he (by rw [← XL.out, ← XM.out, h]))
          have Hne := Lib.hid hne
          rw [decide_eq_false he] at sm
          clear hne he
          go_wp2_with fail
          refine start_ (n := 10) (S := fun w' => w'.cell? (a.add k) = some (.slice A1 xl.length c1) ∧ w'.cell? (b.add k) = some (.slice B1 xm.length d1)) (ds := [8]) #[false, false, false, false, false, false, false, false, false, false] (by kernel_rfl) rfl rfl ⟨ha, hb⟩ (fun hHeld => ?_)
          refine pure_ (i := 0) (N := some 17) (v := ?_) (a' := ?_) #[true, false, false, false, false, false, false, false, false, false] rfl rfl (by kernel_rfl) (fun _ _ _ h => h) (Or.inl ⟨by rfl, ?_⟩) ?_ ?_
          rotate_left
          · intro w'
            go_simp
            with_reducible rfl
          rotate_left
          · simp only [Act.put, List.setIfInBounds_toArray, List.set_cons_zero, List.set_cons_succ, i64_w, i32_w]
            rfl
          refine pure_ (i := 1) (N := some 18) (v := ?_) (a' := ?_) #[true, true, false, false, false, false, false, false, false, false] rfl rfl (by kernel_rfl) (fun _ _ _ h => h) (Or.inl ⟨by rfl, ?_⟩) ?_ ?_
          rotate_left
          · intro w'
            go_simp
            with_reducible rfl
          rotate_left
          · simp only [Act.put, List.setIfInBounds_toArray, List.set_cons_zero, List.set_cons_succ, i64_w, i32_w]
            rfl
          refine pure_ (i := 2) (N := some 19) (v := ?_) (a' := ?_) #[true, true, true, false, false, false, false, false, false, false] rfl rfl (by kernel_rfl) (fun _ _ _ h => h) (Or.inl ⟨by rfl, ?_⟩) ?_ ?_
          rotate_left
          · intro w'
            go_simp
            with_reducible rfl
          rotate_left
          · simp only [Act.put, List.setIfInBounds_toArray, List.set_cons_zero, List.set_cons_succ, i64_w, i32_w]
            rfl
          refine pure_ (i := 4) (N := some 21) (v := ?_) (a' := ?_) #[true, true, true, false, true, false, false, false, false, false] rfl rfl (by kernel_rfl) (fun _ _ _ h => h) (Or.inl ⟨by rfl, ?_⟩) ?_ ?_
          rotate_left
          · intro w'
            go_simp
            with_reducible rfl
          rotate_left
          · simp only [Act.put, List.setIfInBounds_toArray, List.set_cons_zero, List.set_cons_succ, i64_w, i32_w]
            rfl
          refine pure_ (i := 5) (N := some 22) (v := ?_) (a' := ?_) #[true, true, true, false, true, true, false, false, false, false] rfl rfl (by kernel_rfl) (fun _ _ _ h => h) (Or.inl ⟨by rfl, ?_⟩) ?_ ?_
          rotate_left
          · intro w'
            go_simp
            with_reducible rfl
          rotate_left
          · simp only [Act.put, List.setIfInBounds_toArray, List.set_cons_zero, List.set_cons_succ, i64_w, i32_w]
            rfl
          refine pure_ (i := 6) (N := some 23) (v := ?_) (a' := ?_) #[true, true, true, false, true, true, true, false, false, false] rfl rfl (by kernel_rfl) (fun _ _ _ h => h) (Or.inl ⟨by rfl, ?_⟩) ?_ ?_
          rotate_left
          · intro w'
            go_simp
            with_reducible rfl
          rotate_left
          · simp only [Act.put, List.setIfInBounds_toArray, List.set_cons_zero, List.set_cons_succ, i64_w, i32_w]
            rfl
          refine take_ (i := 3) (N := some 20) (v := ?_) (a' := ?_) #[true, true, true, true, true, true, true, false, false, false] rfl rfl (by kernel_rfl) (fun _ _ _ h => h) (Or.inl ⟨by rfl, ?_⟩) hHeld ?_ ?_
          rotate_left
          · rintro w' ⟨s0, s1⟩
            go_simp
            with_reducible rfl
          rotate_left
          · simp only [Act.put, List.setIfInBounds_toArray, List.set_cons_zero, List.set_cons_succ, i64_w, i32_w]
            rfl
          refine take_ (i := 7) (N := some 24) (v := ?_) (a' := ?_) #[true, true, true, true, true, true, true, true, false, false] rfl rfl (by kernel_rfl) (fun _ _ _ h => h) (Or.inl ⟨by rfl, ?_⟩) hHeld ?_ ?_
          rotate_left
          · rintro w' ⟨s0, s1⟩
            go_simp
            with_reducible rfl
          rotate_left
          · simp only [Act.put, List.setIfInBounds_toArray, List.set_cons_zero, List.set_cons_succ, i64_w, i32_w]
            rfl
          refine last_ (i := 8) (N := some 25) #[true, true, true, true, true, true, true, true, true, false] rfl rfl (by kernel_rfl) (by decide) (fun K hK => ?_)
          refine goes_ Tryd.func12 (by kernel_rfl) rfl #[.slice A1 xl.length c1, .slice B1 xm.length d1] (by rfl) rfl rfl (by simp only [List.map_toArray, List.map_cons, List.map_nil]; rfl) ?_
          with_reducible refine (sm _ ra rb).mono ?_
          rintro e w4 ⟨rfl, nx, hw4⟩
          refine ⟨_, rfl, ?_⟩
          refine hK.out _ _ ?_
          clear hK K
          refine norm_ (a' := ?_) ?_ ?_
          rotate_left
          · show Act.put _ (some 25) _ = _
            simp only [Act.put, List.setIfInBounds_toArray, List.set_cons_zero, List.set_cons_succ, i64_w, i32_w]
            rfl
          refine pure_ (i := 9) (N := some 26) (v := ?_) (a' := ?_) #[true, true, true, true, true, true, true, true, true, true] rfl rfl (by kernel_rfl) (fun _ _ _ h => h) (Or.inl ⟨by rfl, ?_⟩) ?_ ?_
          rotate_left
          · intro w'
            go_simp
            with_reducible rfl
          rotate_left
          · simp only [Act.put, List.setIfInBounds_toArray, List.set_cons_zero, List.set_cons_succ, i64_w, i32_w]
            rfl
          refine done_ (by kernel_rfl) ?_
          have hB2 : Below w.heap.size w w4 := hB1.trans ((below_drawn hw4).mono hB1.size)
          clear hw4
          go_wp2
          go_ret
          exact ⟨ret_bool Hne.out.symm, hB2⟩
      · have hkl : ¬ (k : Int) < (l.length : Int) := by omega
        have hyes : decide (l = m) = true := decide_eq_true (by
          have h := Ht.out
          rw [List.take_of_length_le (by omega), List.take_of_length_le (by rw [← Hlen.out]; omega)] at h
          exact h)
        have Hy := Lib.hid hyes
        clear hyes
        go_wp2
        go_ret
        exact ⟨ret_bool Hy.out.symm, hB⟩
  · have hq : ((l.length : Int) != (m.length : Int)) = true := by rw [bne_iff_ne]; omega
    have hne : decide (l = m) = false := decide_eq_false (fun h => hlen (by rw [h]))
    have Hne := Lib.hid hne
    clear hne hlen
    go_enter Tryd.func29, Tryd.ntmps29
    go_wp2
    go_ret
    exact ⟨ret_bool Hne.out.symm, Below.refl _ _⟩

/-- How much there is: the number of lists, and of what is in them. -/
def msize (l : List (List Int)) : Nat := l.length + (l.map (·.length)).sum

end Go.Proofs.YtgkbfmbdpkkhnaaDoor.Hand
