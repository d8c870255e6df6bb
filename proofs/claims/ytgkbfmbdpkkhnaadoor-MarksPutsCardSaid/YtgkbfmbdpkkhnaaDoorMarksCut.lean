/- What marks.Cut hands back: a message as fragments of so many bytes. -/
import Derived.Test.YtgkbfmbdpkkhnaaDoorApp
import Derived.Test.YtgkbfmbdpkkhnaaDoorMarksPut
namespace Go.Proofs.YtgkbfmbdpkkhnaaDoor.Hand
open Go.RowKit
set_option linter.unusedVariables false
set_option linter.unusedSimpArgs false

/-- A message as fragments of z bytes (fuel first). -/
def mcut : Nat → Nat → List Int → List Int
  | 0, _, _ => []
  | f + 1, z, m => if z < m.length then be (z : Int) 4 ++ m.take z ++ mcut f z (m.drop z) else be ((m.length : Int) + 2147483648) 4 ++ m

def sLen : Value → Nat
  | .slice _ n _ => n
  | _ => 0

set_option maxRecDepth 100000 in
set_option maxHeartbeats 4000000 in
theorem marksCut (A : Option Addr) (c : Nat) (l : List Int) (z : Nat) (w : World) (hr : Rd w A l) (hc : l.length ≤ c) (hn : l.length ≤ 65536) (hz : 1 ≤ z) (hz' : z ≤ 65536) :
    Calls Tryd.prog 32 #[.slice A l.length c, .int .i64 z] w fun e w' => ∃ v, e = .returned (.tuple #[v, .int .i64 0]) ∧ Own w' w.heap.size v (mcut (l.length + 1) z l) ∧ Below w.heap.size w w' := by
  have t1 : ¬ (z : Int) < 1 := by omega
  have t2 : ¬ 65536 < (z : Int) := by omega
  have t3 : ¬ 65536 < (l.length : Int) := by omega
  go_enter Tryd.func32, Tryd.ntmps32
  go_wp2
  go_loopw [0, 6] (fun m v wr => ∃ (B : Option Addr) (d f : Nat) (r done : List Int), m = .slice B r.length d ∧ r.length ≤ d ∧ Rd w B r ∧ r.length < f ∧ done.length + 5 * r.length ≤ 327680 ∧ done ++ mcut f z r = mcut (l.length + 1) z l ∧ Own wr w.heap.size v done ∧ Below w.heap.size w wr) (fun m _ _ => sLen m)
  case atStart => exact ⟨A, c, l.length + 1, l, [], rfl, hc, hr, by omega, by simp; omega, rfl, Own.nil _ _, Below.refl _ _⟩
  case round =>
    obtain ⟨B, d, f, r, done, rfl, hd, hrr, hf, hlen, hm, ho, hB⟩ := hrel
    obtain ⟨f, rfl⟩ : ∃ g, f = g + 1 := ⟨f - 1, by omega⟩
    rw [mcut] at hm
    have hrw := hrr.below hB
    have hsz := hB.size
    by_cases hlt : z < r.length
    · rw [if_pos hlt] at hm
      have HM := Lib.hid hm
      have t4 : (z : Int) < (r.length : Int) := by omega
      have t5 : (z : Int) ≤ (d : Int) := by omega
      have hl : (r.take z).length = z := by rw [List.length_take]; omega
      have hfr := fragment B d (r.take z) 0 wr (hrw.take z) (by omega) (by omega) (Or.inl rfl)
      rw [hl, Int.add_zero] at hfr
      have hz0 : ¬ d = z := by omega
      have hdr := hrr.drop z d (by omega)
      rw [if_neg hz0] at hdr
      clear hm
      go_wp2_with fail
      refine hfr.mono ?_
      rintro e w1 ⟨v1, rfl, o1, hx⟩
      have ho := ho.below hx
      have hsz1 := Nat.le_trans hsz hx.size
      have hB := below_then hB hx
      obtain ⟨A1, d1, rfl, _, _, r1⟩ := o1.form
      have hl1 : (be (z : Int) 4 ++ r.take z).length = 4 + z := by rw [List.length_append, be_length, hl]
      rw [hl1]
      clear hx o1 hfr
      go_wp2_with (at_builtin; refine wpList_app rfl _ _ rfl rfl _ w.heap.size _ done (by rfl) ho A1 d1 (be (z : Int) 4 ++ r.take z) (by rw [hl1]; rfl) r1 ?h1 hsz1 ?h2)
      case h1 => rw [hl1]; omega
      case h2 =>
        intro v' w5 ho5 hg5 _
        have hB5 := ho.grown hB hsz1 hg5
        go_wp2
        go_roundw
        case rel => exact ⟨_, d - z, f, r.drop z, _, by rw [List.length_drop], by rw [List.length_drop]; omega, hdr, by rw [List.length_drop]; omega, by rw [List.length_append, hl1, List.length_drop]; omega, by rw [List.append_assoc]; exact HM.out, ho5, hB5⟩
        case measure => simp [sLen]; omega
    · rw [if_neg hlt] at hm
      have HM := Lib.hid hm
      have t4 : ¬ (z : Int) < (r.length : Int) := by omega
      have hfr := fragment B d r 2147483648 wr hrw hd (by omega) (Or.inr rfl)
      clear hm
      go_wp2_with fail
      refine hfr.mono ?_
      rintro e w1 ⟨v1, rfl, o1, hx⟩
      have ho := ho.below hx
      have hsz1 := Nat.le_trans hsz hx.size
      have hB := below_then hB hx
      obtain ⟨A1, d1, rfl, _, _, r1⟩ := o1.form
      have hl1 : (be ((r.length : Int) + 2147483648) 4 ++ r).length = 4 + r.length := by rw [List.length_append, be_length]
      rw [hl1]
      clear hx o1 hfr
      go_wp2_with (at_builtin; refine wpList_app rfl _ _ rfl rfl _ w.heap.size _ done (by rfl) ho A1 d1 (be ((r.length : Int) + 2147483648) 4 ++ r) (by rw [hl1]; rfl) r1 ?h1 hsz1 ?h2)
      case h1 => rw [hl1]; omega
      case h2 =>
        intro v' w5 ho5 hg5 _
        have hB5 := ho.grown hB hsz1 hg5
        go_wp2
        go_ret2
        exact ⟨_, rfl, by rw [← HM.out]; exact ho5, hB5⟩
end Go.Proofs.YtgkbfmbdpkkhnaaDoor.Hand
