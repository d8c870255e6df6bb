/- slices.Grow of nil, slices.Concat and slices.Clone of bytes: a slice of the call's own; nothing that lay before has turned. -/
import Derived.Lib.AppendZerosOnto
import Derived.Lib.SliceRun
import Derived.Test.YtgkbfmbdpkkhnaaDoorApp
namespace Go.Proofs.YtgkbfmbdpkkhnaaDoor.Hand
open Go.RowKit
set_option linter.unusedVariables false

set_option maxRecDepth 100000 in
set_option maxHeartbeats 1000000 in
theorem grow_nil (n : Nat) (w : World) (hn : n ≤ 140737488351232) :
    Calls Tryd.prog 95 #[.slice none 0 0, .int .i64 n] w fun e w' => ∃ v, e = .returned v ∧ Own w' w.heap.size v [] ∧ Below w.heap.size w w' := by
  have h1 : ¬ ((n : Int) < 0) := by omega
  by_cases h0 : n = 0
  · subst h0
    go_enter Tryd.func95, Tryd.ntmps95
    go_wp2
    go_ret
    exact ⟨_, rfl, Own.nil _ _, Below.refl _ _⟩
  · obtain ⟨i, hi, hz0, hz1, hz2⟩ := info_parts info8
    have hold : (Builtin.firstCells i.size 0 (.slice none 0 0)).run Tryd.prog w.drew = .ok #[] w.drew := run_firstCells_none w.drew i.size 0 0 0
    have hb1 : i.bytes = 1 := hz2
    have hs1 : i.size = 1 := hz1
    have hrz : (Builtin.append_ #[24, 3] 24 #[.slice none 0 0, .int .i64 n]).run Tryd.prog w = .ok (.slice (some ⟨w.heap.size, 0, none⟩) n (grownCap w n 0 5)) (w.drew.alloc (.cells (#[] ++ Builtin.zeroCells (Value.int .u8 0).cells n ++ Builtin.zeroCells (Value.int .u8 0).cells (grownCap w n 0 5 - n)) 5)) := by
      have h := Lib.run_append_grow_zeros (P := Tryd.prog) w 24 3 24 5 i (.int .u8 0) .i64 .i64 Tryd.underlying24 Tryd.underlying3 hi hz0 none 0 0 [] hold n (by omega) (by omega) (by omega) (by omega) (by rw [hb1]; omega) (growslice_fits (by omega) (by rw [hb1]; omega))
      rw [Nat.zero_add] at h
      exact h
    have hG := grownCap_ge w n 0 5
    have hM := grownCap_le_maxLen w n 0 5 (by unfold maxLen; omega)
    generalize grownCap w n 0 5 = G at *
    have hpos : (n : Int) > 0 := by omega
    go_enter Tryd.func95, Tryd.ntmps95
    go_wp2_with (at_builtin; refine Lib.wpList_append_run _ rfl _ _ _ _ rfl _ _ rfl rfl _ _ hrz ?_)
    all_goals go_ret
    refine ⟨_, rfl, ⟨Bs.nil, World.ownsRow_made w _ _ (Nat.le_refl _) hM ?_⟩, (below_drewN ((Below.refl _ w).alloc (Nat.le_refl _) _) 1)⟩
    simp [size_zeroCells]
    omega

/-- A list of slices of bytes: each one's address, its capacity, its bytes. -/
abbrev Parts := List (Option Addr × Nat × List Int)
def pv (p : Option Addr × Nat × List Int) : Value := .slice p.1 p.2.2.length p.2.1
def flat (ps : Parts) : List Int := (ps.map (·.2.2)).flatten
theorem flat_take {ps : Parts} {k : Nat} (h : k < ps.length) : flat (ps.take (k + 1)) = flat (ps.take k) ++ (ps[k]).2.2 := by
  unfold flat
  rw [List.take_succ_eq_append_getElem h]
  simp only [List.map_append, List.flatten_append, List.map_cons, List.map_nil, List.flatten_cons, List.flatten_nil, List.append_nil]
theorem flat_le {ps : Parts} (k : Nat) : (flat (ps.take k)).length ≤ (flat ps).length := by
  have h := congrArg (fun l => (flat l).length) (List.take_append_drop k ps)
  simp only [flat, List.map_append, List.flatten_append, List.length_append] at h ⊢
  omega

set_option maxRecDepth 100000 in
set_option maxHeartbeats 2000000 in
theorem concat (ps : Parts) (ad : Addr) (c : Nat) (w : World) (hc : ∀ k (h : k < ps.length), w.cell? (ad.add k) = some (pv ps[k])) (hr : ∀ k (h : k < ps.length), Rd w (ps[k]).1 (ps[k]).2.2) (hn : (flat ps).length ≤ 140737488351232) (hp : ps.length ≤ 140737488351232) :
    Calls Tryd.prog 90 #[.slice (some ad) ps.length c] w fun e w' => ∃ v, e = .returned v ∧ Own w' w.heap.size v (flat ps) ∧ Below w.heap.size w w' := by
  have HC := Lib.hid hc
  have HR := Lib.hid hr
  clear hc hr
  go_enter Tryd.func90, Tryd.ntmps90
  go_wp2
  go_loop [3, 11] (fun s i => ∃ k : Nat, k ≤ ps.length ∧ i = .int .i64 k ∧ s = .int .i64 (flat (ps.take k)).length) (fun _ i => ps.length - (intOf i).toNat)
  case atStart => exact ⟨0, Nat.zero_le _, rfl, rfl⟩
  case round =>
    obtain ⟨k, hk, rfl, rfl⟩ := hrel
    by_cases hlt : k < ps.length
    · have hkl : (k : Int) < (ps.length : Int) := by omega
      have hcell := HC.out k hlt
      have hf := flat_take hlt
      have hle := flat_le (ps := ps) (k + 1)
      rw [hf, List.length_append] at hle
      have E := Lib.hid hf
      clear hf
      obtain ⟨p, hp⟩ : ∃ p, p = ps[k] := ⟨_, rfl⟩
      rw [← hp] at hcell hle E
      clear hp
      obtain ⟨A, d, m⟩ := p
      unfold pv at hcell
      simp only at hcell hle
      have h0 : ¬ (((flat (ps.take k)).length : Int) + (m.length : Int) < 0) := by omega
      go_wp2
      go_round
      case rel => exact ⟨k + 1, by omega, by go_num, by rw [E.out, List.length_append]; go_num⟩
      case measure => simp [intOf]; omega
    · have hge : ¬ (k : Int) < (ps.length : Int) := by omega
      obtain rfl : k = ps.length := by omega
      rw [List.take_of_length_le (Nat.le_refl _)]
      go_wp2_with fail
      refine (grow_nil _ w hn).mono ?_
      rintro e w1 ⟨v, rfl, ho, hb⟩
      go_wp2
      go_loopw [6, 27] (fun v i wr => ∃ k : Nat, k ≤ ps.length ∧ i = .int .i64 k ∧ Own wr w.heap.size v (flat (ps.take k)) ∧ Below w.heap.size w wr) (fun _ i _ => ps.length - (intOf i).toNat)
      case atStart => exact ⟨0, Nat.zero_le _, rfl, ho, hb⟩
      case round =>
        obtain ⟨k, hk, rfl, ho, hB⟩ := hrel
        have hsz := hB.size
        by_cases hlt : k < ps.length
        · have hkl : (k : Int) < (ps.length : Int) := by omega
          have hcell := cell_later hB (HC.out k hlt)
          have hrd := (HR.out k hlt).below hB
          have hf := flat_take hlt
          have hle := flat_le (ps := ps) (k + 1)
          rw [hf, List.length_append] at hle
          have E := Lib.hid hf
          clear hf
          obtain ⟨p, hp⟩ : ∃ p, p = ps[k] := ⟨_, rfl⟩
          rw [← hp] at hcell hle hrd E
          clear hp
          obtain ⟨A, d, m⟩ := p
          unfold pv at hcell
          simp only at hcell hle hrd
          go_wp2_with (at_builtin; refine wpList_app rfl _ _ rfl rfl _ w.heap.size _ (flat (ps.take k)) (by rfl) ho A d m rfl hrd ?h1 hsz ?h2)
          case h1 => omega
          case h2 =>
            intro v' w5 ho5 hg5 _
            go_wp2
            go_roundw
            case rel => exact ⟨k + 1, by omega, by go_num, by rw [E.out]; exact ho5, ho.grown hB hsz hg5⟩
            case measure => simp [intOf]; omega
        · have hge : ¬ (k : Int) < (ps.length : Int) := by omega
          obtain rfl : k = ps.length := by omega
          rw [List.take_of_length_le (Nat.le_refl _)] at ho
          go_wp2
          go_ret
          exact ⟨_, rfl, ho, hB⟩

set_option maxRecDepth 100000 in
set_option maxHeartbeats 1000000 in
theorem clone (ad : Addr) (c : Nat) (l : List Int) (w : World) (hr : Rd w (some ad) l) (hn : l.length ≤ 140737488351232) :
    Calls Tryd.prog 70 #[.slice (some ad) l.length c] w fun e w' => ∃ v, e = .returned v ∧ Own w' w.heap.size v l ∧ Below w.heap.size w w' := by
  have q22 : ∀ (w : World) (a : Option Addr) (n c n' c' : Nat), (binOp .eql 24 (.slice a n c) (.slice none n' c')).run Tryd.prog w = .ok (.bool a.isNone) w := fun w a n c n' c' => Lib.run_eql_slice_nil w _ _ a n c n' c' Tryd.underlying24
  have ho : Own (w.alloc (.cells #[] 5)) w.heap.size (.slice (some ⟨w.heap.size, 0, none⟩) 0 0) [] := ⟨Bs.nil, World.ownsRow_made w #[] 0 (Nat.le_refl _) (Nat.zero_le _) rfl⟩
  have hB : Below w.heap.size w (w.alloc (.cells #[] 5)) := (Below.refl _ w).alloc (Nat.le_refl _) _
  go_enter Tryd.func70, Tryd.ntmps70
  go_wp2_with (at_builtin; refine wpList_app rfl _ _ rfl rfl _ w.heap.size _ [] (by rfl) ho (some ad) c l rfl (hr.alloc _) ?h1 hB.size ?h2)
  case h1 => simp; omega
  case h2 =>
    intro v' w5 ho5 hg5 _
    go_wp2
    go_ret
    exact ⟨_, rfl, ho5, ho.grown hB hB.size hg5⟩
end Go.Proofs.YtgkbfmbdpkkhnaaDoor.Hand
