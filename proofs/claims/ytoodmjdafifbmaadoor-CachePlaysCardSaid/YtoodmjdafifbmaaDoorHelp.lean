/- The contracts of the statements' helpers SameBytes, TwinBytes and LeftBytes: whether two slices hold the same bytes; a copy in new memory with a mark behind it; whether such a copy is still what it was made of. -/
import Derived.Test.YtoodmjdafifbmaaDoorLib
namespace Go.Proofs.YtoodmjdafifbmaaDoor.Hand
open Go.RowKit

theorem take_step (l m : List Int) (k : Nat) (hl : k < l.length) (hm : k < m.length) (h : l.take k = m.take k) (he : nth l k = nth m k) : l.take (k + 1) = m.take (k + 1) := by
  rw [List.take_succ_eq_append_getElem hl, List.take_succ_eq_append_getElem hm, h, ← gd l k hl, ← gd m k hm, he]

set_option maxRecDepth 100000 in
theorem same (A B : Option Addr) (c d : Nat) (l m : List Int) (w : World) (hl : Rd w A l) (hm : Rd w B m) (hlc : l.length ≤ 9223372036854775807) :
    Calls Tryd.prog 9 #[.slice A l.length c, .slice B m.length d] w fun e w' => e = .returned (.bool (decide (l = m))) ∧ ∃ n, w' = w.drewN n := by
  by_cases hlen : l.length = m.length
  · have hq : ((l.length : Int) != (m.length : Int)) = false := by rw [bne_eq_false_iff_eq, hlen]
    have Hlen := Lib.hid hlen
    clear hlen
    go_enter Tryd.func9, Tryd.ntmps9
    go_wp2
    clear hq
    go_loopw [5] (fun i wr => ∃ k n : Nat, k ≤ l.length ∧ l.take k = m.take k ∧ i = .int .i64 k ∧ wr = w.drewN n) (fun i _ => l.length - (intOf i).toNat)
    case atStart => exact ⟨0, 0, Nat.zero_le _, by simp, rfl, rfl⟩
    case round =>
      obtain ⟨k, n, hk, htake, rfl, rfl⟩ := hrel
      have Ht := Lib.hid htake
      clear htake
      by_cases hlt : k < l.length
      · obtain ⟨a, rfl, ha⟩ := hl.at_ hlt
        obtain ⟨b, rfl, hb⟩ := hm.at_ (by rw [← Hlen.out]; exact hlt)
        have hkm : (k : Int) < (m.length : Int) := by rw [← Hlen.out]; omega
        have hkl : (k : Int) < (l.length : Int) := by omega
        have hla := hl.1.get k
        have hmb := hm.1.get k
        by_cases he : nth l k = nth m k
        · have hbe : (nth l k != nth m k) = false := by rw [bne_eq_false_iff_eq]; exact he
          have He := Lib.hid he
          clear he
          go_wp2
          go_quiet (fail)
          go_wp2
          exact ⟨⟨k + 1, _, by omega, take_step l m k hlt (by rw [← Hlen.out]; exact hlt) Ht.out He.out, by go_num, rfl⟩, by simp [intOf]; omega⟩
        · have hbe : (nth l k != nth m k) = true := by rw [bne_iff_ne]; exact he
          have hne : decide (l = m) = false := decide_eq_false (fun h => he (by rw [h]))
          have Hne := Lib.hid hne
          clear hne he
          go_wp2
          go_quiet (fail)
          go_wp2
          go_ret
          exact ⟨ret_bool Hne.out.symm, _, World.drewN_drewN _ _ _⟩
      · have hkl : ¬ (k : Int) < (l.length : Int) := by omega
        have hyes : decide (l = m) = true := decide_eq_true (by
          have h := Ht.out
          rw [List.take_of_length_le (by omega), List.take_of_length_le (by rw [← Hlen.out]; omega)] at h
          exact h)
        have Hy := Lib.hid hyes
        clear hyes
        go_wp2
        go_ret
        exact ⟨ret_bool Hy.out.symm, _, rfl⟩
  · have hq : ((l.length : Int) != (m.length : Int)) = true := by rw [bne_iff_ne]; omega
    have hne : decide (l = m) = false := decide_eq_false (fun h => hlen (by rw [h]))
    have Hne := Lib.hid hne
    clear hne hlen
    go_enter Tryd.func9, Tryd.ntmps9
    go_wp2
    go_ret
    exact ⟨ret_bool Hne.out.symm, 0, rfl⟩

set_option maxRecDepth 100000 in
set_option maxHeartbeats 1000000 in
/-- TwinBytes(l): a copy in new memory, the mark 77 behind it. -/
theorem twin (A : Option Addr) (c : Nat) (l : List Int) (w : World) (hl : Rd w A l) (hlc : l.length ≤ 140737488351232) :
    Calls Tryd.prog 21 #[.slice A l.length c] w fun e w' => ∃ g cap, e = .returned (.slice (some ⟨g, 0, none⟩) l.length cap) ∧ Own w' w.heap.size (.slice (some ⟨g, 0, none⟩) (l.length + 1) cap) (l ++ [77]) ∧ Below w.heap.size w w' := by
  obtain ⟨i0, hi, hz0, hz1, hz2⟩ := info_parts info8
  have hmk := fun W => run_make_bytes 0 (l.length + 1) (by omega) (by omega) W
  have hmk' : ∀ W, (Instr.makeSlice 24 (.int .i64 0) (.int .i64 ((l.length : Int) + 1))).run Tryd.prog W = .ok (.slice (some ⟨W.heap.size, 0, none⟩) 0 (l.length + 1)) (W.alloc (.cells (madeCells #[.int .u8 0] (l.length + 1)) 5)) := hmk
  clear hmk
  go_enter Tryd.func21, Tryd.ntmps21
  go_wp2
  clear hmk'
  go_loopw [3, 4] (fun v i wr => ∃ k : Nat, k ≤ l.length ∧ i = .int .i64 k ∧ Own wr w.heap.size v (l.take k) ∧ Below w.heap.size w wr) (fun _ i _ => l.length - (intOf i).toNat)
  case atStart =>
    exact ⟨0, Nat.zero_le _, rfl, ⟨Bs.nil, World.ownsRow_made w _ _ (Nat.le_refl _) (by unfold maxLen; omega) (by rw [size_madeCells]; omega)⟩, (Below.refl _ _).alloc (Nat.le_refl _) _⟩
  case round =>
    obtain ⟨k, hk, rfl, ho, hB⟩ := hrel
    have hsz := hB.size
    by_cases hlt : k < l.length
    · obtain ⟨a, rfl, ha⟩ := (hl.below hB).at_ hlt
      have hkl : (k : Int) < (l.length : Int) := by omega
      have hb := hl.1.get k
      have hlk : (l.take k).length = k := by rw [List.length_take]; omega
      have Hlk := Lib.hid hlk
      clear hlk
      go_wp2_with (at_builtin; refine wpList_append_own _ rfl _ _ 24 rfl w.heap.size 5 i0 (.int .u8 0) 1 1 Tryd.underlying24 hi hz0 hz1 hz2 rfl (by decide) _ _ _ rfl (ho.alloc _).2 ⟨_, 0, none⟩ 1 1 [.int .u8 (nth l k)] rfl rfl (cell_one_new _ _ _) (by simp [Value.oneCell']) ?c1 ?c2 ?c3 ?_)
      case c1 => rw [Hlk.out]; unfold maxLen; omega
      case c2 => rw [Hlk.out]; omega
      case c3 => first | omega | (simp; omega)
      intro v' w1 hown' hgrow _
      have ho' : Own w1 w.heap.size v' (l.take k ++ [nth l k]) := ho.after (Bs.cons hb.1 hb.2 Bs.nil) (by rw [Hlk.out, List.map_take]; exact hown')
      have hB' := (ho.alloc _).grown (hB.alloc hsz _) (by simp; omega) hgrow
      have he : l.take k ++ [nth l k] = l.take (k + 1) := by rw [List.take_succ_eq_append_getElem hlt, gd l k hlt]
      rw [he] at ho'
      clear he hown' hgrow
      go_wp2
      go_roundw
      case rel => exact ⟨k + 1, by omega, by go_num, ho', hB'⟩
      case measure => simp [intOf]; omega
    · have hkl : ¬ (k : Int) < (l.length : Int) := by omega
      obtain rfl : k = l.length := by omega
      rw [List.take_length] at ho
      go_wp2_with (at_builtin; refine wpList_append_own _ rfl _ _ 24 rfl w.heap.size 5 i0 (.int .u8 0) 1 1 Tryd.underlying24 hi hz0 hz1 hz2 rfl (by decide) _ _ _ rfl (ho.alloc _).2 ⟨_, 0, none⟩ 1 1 [.int .u8 77] rfl rfl (cell_one_new _ _ _) (by simp [Value.oneCell']) ?c1 ?c2 ?c3 ?_)
      case c1 => unfold maxLen; omega
      case c2 => omega
      case c3 => first | omega | (simp; omega)
      intro v' w1 hown' hgrow _
      have ho' : Own w1 w.heap.size v' (l ++ [77]) := ho.after (Bs.cons (by omega) (by omega) Bs.nil) hown'
      have hB' := (ho.alloc _).grown (hB.alloc hsz _) (by simp; omega) hgrow
      obtain ⟨g, cap, rfl, hcap, hmx⟩ : ∃ g cap, v' = .slice (some ⟨g, 0, none⟩) (l.length + 1) cap ∧ l.length + 1 ≤ cap ∧ cap ≤ maxLen := by
        rcases ho'.2.2 with ⟨_, h0⟩ | ⟨g, cap, cur, rfl, _, _, hn, hm, _⟩
        · simp at h0
        · exact ⟨g, cap, by simp, by simpa using hn, hm⟩
      unfold maxLen at hmx
      clear hown' hgrow
      go_wp2
      go_ret
      exact ⟨g, cap, rfl, ho', hB'⟩

set_option maxRecDepth 100000 in
set_option maxHeartbeats 1000000 in
/-- LeftBytes(t, l): t is still a copy of l, its mark too. -/
theorem left (g cap : Nat) (B : Option Addr) (d : Nat) (l : List Int) (w : World) (ht : Rd w (some ⟨g, 0, none⟩) (l ++ [77])) (hcap : l.length + 1 ≤ cap) (hm : Rd w B l) (hlc : l.length ≤ 140737488351232) :
    Calls Tryd.prog 25 #[.slice (some ⟨g, 0, none⟩) l.length cap, .slice B l.length d] w fun e w' => e = .returned (.bool true) ∧ ∃ n, w' = w.drewN n := by
  have hc1 : ((cap : Int) ≤ (l.length : Int)) = False := by simp only [eq_iff_iff, iff_false]; omega
  have hc2 : decide ((cap : Int) ≤ (l.length : Int)) = false := decide_eq_false (by omega)
  go_enter Tryd.func25, Tryd.ntmps25
  go_wp2
  go_loopw [5] (fun i wr => ∃ k n : Nat, k ≤ l.length ∧ i = .int .i64 k ∧ wr = w.drewN n) (fun i _ => l.length - (intOf i).toNat)
  case atStart => exact ⟨0, 0, Nat.zero_le _, rfl, rfl⟩
  case round =>
    obtain ⟨k, n, hk, rfl, rfl⟩ := hrel
    by_cases hlt : k < l.length
    · obtain ⟨b, rfl, hb⟩ := hm.at_ hlt
      obtain ⟨a, e, ha⟩ := ht.at_ (k := k) (by simp; omega)
      cases e
      have hnk : nth (l ++ [77]) k = nth l k := by rw [gd _ _ (by simp; omega), gd _ _ hlt, List.getElem_append_left]
      rw [hnk, add_plain] at ha
      have hkl : (k : Int) < (l.length : Int) := by omega
      have hla := hm.1.get k
      clear hnk
      go_wp2
      go_quiet (fail)
      go_wp2
      exact ⟨⟨k + 1, _, by omega, by go_num, rfl⟩, by simp [intOf]; omega⟩
    · have hkl : ¬ (k : Int) < (l.length : Int) := by omega
      obtain rfl : k = l.length := by omega
      obtain ⟨a, e, ha⟩ := ht.at_ (k := l.length) (by simp)
      cases e
      have hnk : nth (l ++ [77]) l.length = 77 := by rw [gd _ _ (by simp)]; simp
      rw [hnk, add_plain] at ha
      have hlc1 : (l.length : Int) + 1 ≤ (cap : Int) := by omega
      clear hnk
      go_wp2
      go_ret
      exact ⟨rfl, _, rfl⟩

/-- SameBytes, the lengths told apart. -/
theorem same_n {A B : Option Addr} {c d n k : Nat} {l m : List Int} {w : World} (hl : Rd w A l) (hm : Rd w B m) (hn : l.length = n) (hk : m.length = k) (hlc : n ≤ 9223372036854775807) :
    Calls Tryd.prog 9 #[.slice A n c, .slice B k d] w fun e w' => e = .returned (.bool (decide (l = m))) ∧ ∃ n, w' = w.drewN n := by
  subst hn hk
  exact same A B c d l m w hl hm hlc
/-- Two that are alike. -/
theorem same_yes {A B : Option Addr} {c d n k : Nat} {l m : List Int} {w : World} (hl : Rd w A l) (hm : Rd w B m) (hlm : l = m) (hn : l.length = n) (hk : m.length = k) (hlc : n ≤ 9223372036854775807) :
    Calls Tryd.prog 9 #[.slice A n c, .slice B k d] w fun e w' => e = .returned (.bool true) ∧ ∃ n, w' = w.drewN n := by
  have h := same_n (c := c) (d := d) hl hm hn hk hlc
  rw [decide_eq_true hlm] at h
  exact h
end Go.Proofs.YtoodmjdafifbmaaDoor.Hand
