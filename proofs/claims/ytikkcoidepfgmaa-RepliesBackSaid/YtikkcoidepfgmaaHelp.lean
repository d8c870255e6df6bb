/- The contracts of the statements' helpers SameBytes, TwinBytes and LeftBytes: whether two slices hold the same bytes; a copy in new memory with a mark behind it; whether such a copy is still what it was made of. -/
import Derived.Test.YtikkcoidepfgmaaLib
namespace Go.Proofs.Ytikkcoidepfgmaa.Hand
open Go.RowKit

theorem take_step (l m : List Int) (k : Nat) (hl : k < l.length) (hm : k < m.length) (h : l.take k = m.take k) (he : nth l k = nth m k) : l.take (k + 1) = m.take (k + 1) := by
  rw [List.take_succ_eq_append_getElem hl, List.take_succ_eq_append_getElem hm, h, ← gd l k hl, ← gd m k hm, he]

set_option maxRecDepth 100000 in
theorem same (A B : Option Addr) (c d : Nat) (l m : List Int) (w : World) (hl : Rd w A l) (hm : Rd w B m) (hlc : l.length ≤ 9223372036854775807) :
    Calls Try.prog 12 #[.slice A l.length c, .slice B m.length d] w fun e w' => e = .returned (.bool (decide (l = m))) ∧ ∃ n, w' = w.drewN n := by
  by_cases hlen : l.length = m.length
  · have hq : ((l.length : Int) != (m.length : Int)) = false := by rw [bne_eq_false_iff_eq, hlen]
    have Hlen := Lib.hid hlen
    clear hlen
    go_enter Try.func12, Try.ntmps12
    go_wp2
    clear hq
    go_loopw [5] (fun i wr => ∃ k n : Nat, k ≤ l.length ∧ l.take k = m.take k ∧ i = .int .i64 k ∧ wr = w.drewN n) (fun i _ => l.length - (intOf i).toNat)
    case atStart => exact ⟨0, 0, Nat.zero_le _, by simp, rfl, rfl⟩
    case round =>
      obtain ⟨k, n, hk, htake, rfl, rfl⟩ := hrel
      have Ht := Lib.hid htake
      clear htake
      by_cases hlt : k < l.length
      · obtain ⟨a, rfl, ha⟩ := hl.at_ hlt
        obtain ⟨b, rfl, hb⟩ := hm.at_ (by rw [← Hlen.out]; exact hlt)
        have hkm : (k : Int) < (m.length : Int) := by rw [← Hlen.out]; omega
        have hkl : (k : Int) < (l.length : Int) := by omega
        have hla := hl.1.get k
        have hmb := hm.1.get k
        by_cases he : nth l k = nth m k
        · have hbe : (nth l k != nth m k) = false := by rw [bne_eq_false_iff_eq]; exact he
          have He := Lib.hid he
          clear he
          go_wp2
          go_quiet (fail)
          go_wp2
          exact ⟨⟨k + 1, _, by omega, take_step l m k hlt (by rw [← Hlen.out]; exact hlt) Ht.out He.out, by go_num, rfl⟩, by simp [intOf]; omega⟩
        · have hbe : (nth l k != nth m k) = true := by rw [bne_iff_ne]; exact he
          have hne : decide (l = m) = false := decide_eq_false (fun h => he (by rw [h]))
          have Hne := Lib.hid hne
          clear hne he
          go_wp2
          go_quiet (fail)
          go_wp2
          go_ret
          exact ⟨ret_bool Hne.out.symm, _, World.drewN_drewN _ _ _⟩
      · have hkl : ¬ (k : Int) < (l.length : Int) := by omega
        have hyes : decide (l = m) = true := decide_eq_true (by
          have h := Ht.out
          rw [List.take_of_length_le (by omega), List.take_of_length_le (by rw [← Hlen.out]; omega)] at h
          exact h)
        have Hy := Lib.hid hyes
        clear hyes
        go_wp2
        go_ret
        exact ⟨ret_bool Hy.out.symm, _, rfl⟩
  · have hq : ((l.length : Int) != (m.length : Int)) = true := by rw [bne_iff_ne]; omega
    have hne : decide (l = m) = false := decide_eq_false (fun h => hlen (by rw [h]))
    have Hne := Lib.hid hne
    clear hne hlen
    go_enter Try.func12, Try.ntmps12
    go_wp2
    go_ret
    exact ⟨ret_bool Hne.out.symm, 0, rfl⟩


/-- SameBytes, the lengths told apart. -/
theorem same_n {A B : Option Addr} {c d n k : Nat} {l m : List Int} {w : World} (hl : Rd w A l) (hm : Rd w B m) (hn : l.length = n) (hk : m.length = k) (hlc : n ≤ 9223372036854775807) :
    Calls Try.prog 12 #[.slice A n c, .slice B k d] w fun e w' => e = .returned (.bool (decide (l = m))) ∧ ∃ n, w' = w.drewN n := by
  subst hn hk
  exact same A B c d l m w hl hm hlc
/-- Two that are alike. -/
theorem same_yes {A B : Option Addr} {c d n k : Nat} {l m : List Int} {w : World} (hl : Rd w A l) (hm : Rd w B m) (hlm : l = m) (hn : l.length = n) (hk : m.length = k) (hlc : n ≤ 9223372036854775807) :
    Calls Try.prog 12 #[.slice A n c, .slice B k d] w fun e w' => e = .returned (.bool true) ∧ ∃ n, w' = w.drewN n := by
  have h := same_n (c := c) (d := d) hl hm hn hk hlc
  rw [decide_eq_true hlm] at h
  exact h
end Go.Proofs.Ytikkcoidepfgmaa.Hand
