/- Whether more is to be done than is gone through: the contract of the statement's great. -/
import Derived.Test.YtoodmjdafifbmaaDoorWLast
import Derived.Test.YtoodmjdafifbmaaDoorActs
namespace Go.Proofs.YtoodmjdafifbmaaDoor.Hand
open Go.RowKit Go.Proofs.YtoodmjdafifbmaaDoorW.PrintLast
set_option linter.unusedVariables false
set_option linter.unusedSimpArgs false

def tot : List Act1 → Nat
  | [] => 0
  | x :: l => 1 + x.cl.length + x.rp.length + tot l
theorem tot_append : ∀ l m : List Act1, tot (l ++ m) = tot l + tot m
  | [], m => by simp [tot]
  | x :: l, m => by simp only [List.cons_append, tot, tot_append l m]; omega
theorem tot_take (xs : List Act1) (k : Nat) (h : k < xs.length) : tot (xs.take (k + 1)) = tot (xs.take k) + 1 + xs[k].cl.length + xs[k].rp.length := by
  rw [List.take_succ_eq_append_getElem h, tot_append]
  simp only [tot]
  omega
theorem tot_le : ∀ (xs : List Act1) (k : Nat), (∀ x ∈ xs, x.cl.length ≤ 140737488351232 ∧ x.rp.length ≤ 140737488351232) → tot (xs.take k) ≤ xs.length * 281474976702465
  | [], k, _ => by simp [tot]
  | x :: l, 0, _ => by simp [tot]
  | x :: l, k + 1, h => by
    have h1 := h x (by simp)
    have h2 := tot_le l k (fun y hy => h y (by simp [hy]))
    simp only [List.take_succ_cons, tot, List.length_cons]
    omega
theorem tot_mem : ∀ {xs : List Act1} {x : Act1}, x ∈ xs → x.cl.length ≤ tot xs ∧ x.rp.length ≤ tot xs
  | [], x, h => by simp at h
  | y :: l, x, h => by
    rcases List.mem_cons.1 h with rfl | h
    · simp only [tot]; omega
    · have := tot_mem h
      simp only [tot]; omega
theorem sum_step {t a b T : Int} (ht : t = T) (h0 : 0 ≤ T) (h1 : T ≤ 84442493010739500) (ha : 0 ≤ a ∧ a ≤ 140737488351232) (hb : 0 ≤ b ∧ b ≤ 140737488351232) : wrap64 (wrap64 (wrap64 (t + 1) + a) + b) = T + 1 + a + b := by
  subst ht
  unfold wrap64
  omega
/-- What is told, if it is no. -/
def Small (xs : List Act1) : Prop := xs.length ≤ 300 ∧ ∀ x ∈ xs, x.cl.length ≤ 30000 ∧ x.rp.length ≤ 30000
def GreatEnd (xs : List Act1) (w : World) (e : Ending) (w' : World) : Prop := ∃ b, e = .returned (.bool b) ∧ (b = false → Small xs) ∧ ∃ n, w' = w.drewN n
theorem GreatEnd.yes {xs : List Act1} {w w' : World} {e : Ending} {n : Nat} (h : e = .returned (.bool true)) (hw : w' = w.drewN n) : GreatEnd xs w e w' := ⟨true, h, (fun h => by cases h), n, hw⟩
theorem GreatEnd.no {xs : List Act1} {w w' : World} {e : Ending} {n : Nat} (h : e = .returned (.bool false)) (hs : Small xs) (hw : w' = w.drewN n) : GreatEnd xs w e w' := ⟨false, h, (fun _ => hs), n, hw⟩

set_option maxRecDepth 100000 in
set_option maxHeartbeats 1000000 in
theorem great_ (A : Option Addr) (c : Nat) (xs : List Act1) (w : World) (hx : RdA w A xs) (hm : xs.length ≤ 9223372036854775807) (hb : ∀ x ∈ xs, x.cl.length ≤ 140737488351232 ∧ x.rp.length ≤ 140737488351232) :
    Calls Tryd.prog 14 #[.slice A xs.length c] w (GreatEnd xs w) := by
  have HB := Lib.hid hb
  have HX := Lib.hid hx
  clear hb hx
  go_enter Tryd.func14, Tryd.ntmps14
  go_wp2
  go_loopw [3, 4] (fun z i wr => ∃ (k n : Nat) (t : Int), k ≤ xs.length ∧ i = .int .i64 k ∧ z = .int .i64 t ∧ wr = w.drewN n ∧ Hid (xs.length ≤ 300 → t = tot (xs.take k))) (fun _ i _ => xs.length - (intOf i).toNat)
  case atStart => exact ⟨0, 0, 0, Nat.zero_le _, rfl, rfl, rfl, Lib.hid fun _ => by simp [tot]⟩
  case round =>
    obtain ⟨k, n, t, hk, rfl, rfl, rfl, ht⟩ := hrel
    by_cases hlt : k < xs.length
    · have hkl : (k : Int) < (xs.length : Int) := by omega
      obtain ⟨g, off, rfl, hat⟩ := HX.out (by omega)
      obtain ⟨_, _, A1, c1, B1, d1, k0, k1, k2, k3, _⟩ := hat k hlt
      have HT := Lib.hid (tot_take xs k hlt)
      have HL := Lib.hid (tot_le xs k HB.out)
      have HC := Lib.hid (HB.out _ (List.getElem_mem hlt))
      obtain ⟨y, hy⟩ : ∃ y, y = xs[k] := ⟨_, rfl⟩
      rw [← hy] at k0 k1 k2 k3 HT HC
      clear hy hat
      go_wp2
      go_quiet (fail)
      go_wp2
      refine ⟨⟨k + 1, _, _, by omega, by go_num, rfl, rfl, Lib.hid fun h3 => ?_⟩, by simp [intOf]; omega⟩
      have hT := HT.out
      have hL := HL.out
      have hC := HC.out
      exact (sum_step (a := y.cl.length) (b := y.rp.length) (ht.out h3) (by omega) (by omega) (by omega) (by omega)).trans (by rw [hT]; omega)
    · have hkl : ¬ (k : Int) < (xs.length : Int) := by omega
      obtain rfl : k = xs.length := by omega
      rw [List.take_length] at ht
      by_cases h3 : 300 < (xs.length : Int)
      · go_wp2
        go_ret
        exact .yes rfl rfl
      · obtain rfl := ht.out (by omega)
        by_cases h4 : 30000 < (tot xs : Int)
        · go_wp2
          go_ret
          exact .yes rfl rfl
        · have HS := Lib.hid (show Small xs from ⟨by omega, fun x hx => by have := tot_mem hx; omega⟩)
          go_wp2
          go_ret
          exact .no rfl HS.out rfl
end Go.Proofs.YtoodmjdafifbmaaDoor.Hand
