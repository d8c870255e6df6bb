/- What the reference's fragment, Put and Cut of chapter 04 hand back; and what marks.Put, marks.Cut and the reference's answer where they refuse. -/
import Derived.Test.YtgkbfmbdpkkhnaaDoorRefPut
import Derived.Test.YtgkbfmbdpkkhnaaDoorMarksCut
namespace Go.Proofs.YtgkbfmbdpkkhnaaDoor.Hand
open Go.RowKit
set_option linter.unusedVariables false
set_option linter.unusedSimpArgs false

set_option maxRecDepth 100000 in
set_option maxHeartbeats 2000000 in
theorem rfragment (A : Option Addr) (c : Nat) (l : List Int) (b : Bool) (w : World) (hr : Rd w A l) (hc : l.length ≤ c) (hn : l.length ≤ 65536) :
    Calls Tryd.prog 68 #[.slice A l.length c, .bool b] w fun e w' => ∃ v, e = .returned v ∧ Own w' w.heap.size v (be ((l.length : Int) + (if b = true then 2147483648 else 0)) 4 ++ l) ∧ Below w.heap.size w w' := by
  have hw : (l.length : Int) % 4294967296 = (l.length : Int) := by omega
  obtain ⟨n, hN⟩ : ∃ n, n = l.length := ⟨_, rfl⟩
  have HN := Lib.hid hN
  cases b
  · rw [if_neg (by decide), Int.add_zero]
    have g := rput (l.length : Int) w (by omega) (by omega)
    go_enter Tryd.func68, Tryd.ntmps68
    go_wp2_with fail
    refine g.mono ?_
    rintro e w1 ⟨v1, rfl, o1, hB⟩
    clear g
    go_wp2_with (at_builtin; refine wpList_app rfl _ _ rfl rfl _ w.heap.size v1 (be (l.length : Int) 4) rfl o1 A c l rfl (hr.below hB) (by rw [be_length]; omega) hB.size ?_)
    intro v2 w2 o2 hg2 _
    have hB2 := o1.grown hB hB.size hg2
    go_wp2
    go_ret
    exact ⟨_, rfl, o2, hB2⟩
  · rw [if_pos rfl]
    have g := rput ((l.length : Int) + 2147483648) w (by omega) (by omega)
    have hw2 : ((l.length : Int) + 2147483648) % 4294967296 = (l.length : Int) + 2147483648 := by omega
    go_enter Tryd.func68, Tryd.ntmps68
    go_wp2_with fail
    refine g.mono ?_
    rintro e w1 ⟨v1, rfl, o1, hB⟩
    clear g
    go_wp2_with (at_builtin; refine wpList_app rfl _ _ rfl rfl _ w.heap.size v1 (be ((l.length : Int) + 2147483648) 4) rfl o1 A c l rfl (hr.below hB) (by rw [be_length]; omega) hB.size ?_)
    intro v2 w2 o2 hg2 _
    have hB2 := o1.grown hB hB.size hg2
    go_wp2
    go_ret
    exact ⟨_, rfl, o2, hB2⟩

set_option maxRecDepth 100000 in
set_option maxHeartbeats 2000000 in
theorem rmarksPut (A : Option Addr) (c : Nat) (l : List Int) (w : World) (hr : Rd w A l) (hc : l.length ≤ c) (hn : l.length ≤ 65536) :
    Calls Tryd.prog 33 #[.slice A l.length c] w fun e w' => ∃ v, e = .returned (.tuple #[v, .int .i64 0]) ∧ Own w' w.heap.size v (be ((l.length : Int) + 2147483648) 4 ++ l) ∧ Below w.heap.size w w' := by
  have t1 : ¬ 65536 < (l.length : Int) := by omega
  have g := rfragment A c l true w hr hc hn
  rw [if_pos rfl] at g
  go_enter Tryd.func33, Tryd.ntmps33
  go_wp2_with fail
  refine g.mono ?_
  rintro e w1 ⟨v, rfl, ho, hB⟩
  clear g
  go_wp2
  go_ret2
  exact ⟨v, rfl, ho, hB⟩

set_option maxRecDepth 100000 in
set_option maxHeartbeats 4000000 in
theorem rmarksCut (A : Option Addr) (c : Nat) (l : List Int) (z : Nat) (w : World) (hr : Rd w A l) (hc : l.length ≤ c) (hn : l.length ≤ 65536) (hz : 1 ≤ z) (hz' : z ≤ 65536) :
    Calls Tryd.prog 34 #[.slice A l.length c, .int .i64 z] w fun e w' => ∃ v, e = .returned (.tuple #[v, .int .i64 0]) ∧ Own w' w.heap.size v (mcut (l.length + 1) z l) ∧ Below w.heap.size w w' := by
  have t1 : ¬ (z : Int) < 1 := by omega
  have t2 : ¬ 65536 < (z : Int) := by omega
  have t3 : ¬ 65536 < (l.length : Int) := by omega
  go_enter Tryd.func34, Tryd.ntmps34
  go_wp2
  go_loopw [0, 6] (fun m v wr => ∃ (B : Option Addr) (d f : Nat) (r done : List Int), m = .slice B r.length d ∧ r.length ≤ d ∧ Rd w B r ∧ r.length < f ∧ done.length + 5 * r.length ≤ 327680 ∧ done ++ mcut f z r = mcut (l.length + 1) z l ∧ Own wr w.heap.size v done ∧ Below w.heap.size w wr) (fun m _ _ => sLen m)
  case atStart => exact ⟨A, c, l.length + 1, l, [], rfl, hc, hr, by omega, by simp; omega, rfl, Own.nil _ _, Below.refl _ _⟩
  case round =>
    obtain ⟨B, d, f, r, done, rfl, hd, hrr, hf, hlen, hm, ho, hB⟩ := hrel
    obtain ⟨f, rfl⟩ : ∃ g, f = g + 1 := ⟨f - 1, by omega⟩
    rw [mcut] at hm
    have hrw := hrr.below hB
    have hsz := hB.size
    by_cases hlt : z < r.length
    · rw [if_pos hlt] at hm
      have HM := Lib.hid hm
      have t4 : (z : Int) < (r.length : Int) := by omega
      have t5 : (z : Int) ≤ (d : Int) := by omega
      have hl : (r.take z).length = z := by rw [List.length_take]; omega
      have hfr := rfragment B d (r.take z) false wr (hrw.take z) (by omega) (by omega)
      rw [hl, if_neg (by decide), Int.add_zero] at hfr
      have hz0 : ¬ d = z := by omega
      have hdr := hrr.drop z d (by omega)
      rw [if_neg hz0] at hdr
      clear hm
      go_wp2_with fail
      refine hfr.mono ?_
      rintro e w1 ⟨v1, rfl, o1, hx⟩
      have ho := ho.below hx
      have hsz1 := Nat.le_trans hsz hx.size
      have hB := below_then hB hx
      obtain ⟨A1, d1, rfl, _, _, r1⟩ := o1.form
      have hl1 : (be (z : Int) 4 ++ r.take z).length = 4 + z := by rw [List.length_append, be_length, hl]
      rw [hl1]
      clear hx o1 hfr
      go_wp2_with (at_builtin; refine wpList_app rfl _ _ rfl rfl _ w.heap.size _ done (by rfl) ho A1 d1 (be (z : Int) 4 ++ r.take z) (by rw [hl1]; rfl) r1 ?h1 hsz1 ?h2)
      case h1 => rw [hl1]; omega
      case h2 =>
        intro v' w5 ho5 hg5 _
        have hB5 := ho.grown hB hsz1 hg5
        go_wp2
        go_roundw
        case rel => exact ⟨_, d - z, f, r.drop z, _, by rw [List.length_drop], by rw [List.length_drop]; omega, hdr, by rw [List.length_drop]; omega, by rw [List.length_append, hl1, List.length_drop]; omega, by rw [List.append_assoc]; exact HM.out, ho5, hB5⟩
        case measure => simp [sLen]; omega
    · rw [if_neg hlt] at hm
      have HM := Lib.hid hm
      have t4 : ¬ (z : Int) < (r.length : Int) := by omega
      have hfr := rfragment B d r true wr hrw hd (by omega)
      rw [if_pos rfl] at hfr
      clear hm
      go_wp2_with fail
      refine hfr.mono ?_
      rintro e w1 ⟨v1, rfl, o1, hx⟩
      have ho := ho.below hx
      have hsz1 := Nat.le_trans hsz hx.size
      have hB := below_then hB hx
      obtain ⟨A1, d1, rfl, _, _, r1⟩ := o1.form
      have hl1 : (be ((r.length : Int) + 2147483648) 4 ++ r).length = 4 + r.length := by rw [List.length_append, be_length]
      rw [hl1]
      clear hx o1 hfr
      go_wp2_with (at_builtin; refine wpList_app rfl _ _ rfl rfl _ w.heap.size _ done (by rfl) ho A1 d1 (be ((r.length : Int) + 2147483648) 4 ++ r) (by rw [hl1]; rfl) r1 ?h1 hsz1 ?h2)
      case h1 => rw [hl1]; omega
      case h2 =>
        intro v' w5 ho5 hg5 _
        have hB5 := ho.grown hB hsz1 hg5
        go_wp2
        go_ret2
        exact ⟨_, rfl, by rw [← HM.out]; exact ho5, hB5⟩
set_option maxRecDepth 100000 in
theorem mput_long (A : Option Addr) (c : Nat) (l : List Int) (w : World) (hn : 65536 < l.length) :
    Calls Tryd.prog 31 #[.slice A l.length c] w fun e w' => e = .returned (.tuple #[.slice none 0 0, .int .i64 3]) ∧ w' = w := by
  have t1 : 65536 < (l.length : Int) := by omega
  go_enter Tryd.func31, Tryd.ntmps31
  go_wp2
  go_ret2
  exact ⟨rfl, rfl⟩

set_option maxRecDepth 100000 in
theorem rmput_long (A : Option Addr) (c : Nat) (l : List Int) (w : World) (hn : 65536 < l.length) :
    Calls Tryd.prog 33 #[.slice A l.length c] w fun e w' => e = .returned (.tuple #[.slice none 0 0, .int .i64 3]) ∧ w' = w := by
  have t1 : 65536 < (l.length : Int) := by omega
  go_enter Tryd.func33, Tryd.ntmps33
  go_wp2
  go_ret2
  exact ⟨rfl, rfl⟩

set_option maxRecDepth 100000 in
theorem mcut_size (A : Option Addr) (c : Nat) (l : List Int) (z : Int) (w : World) (hz : z < 1 ∨ 65536 < z) :
    Calls Tryd.prog 32 #[.slice A l.length c, .int .i64 z] w fun e w' => e = .returned (.tuple #[.slice none 0 0, .int .i64 1]) ∧ w' = w := by
  go_enter Tryd.func32, Tryd.ntmps32
  rcases hz with h | h
  · go_wp2
    go_ret2
    exact ⟨rfl, rfl⟩
  · have h1 : ¬ z < 1 := by omega
    go_wp2
    go_ret2
    exact ⟨rfl, rfl⟩
set_option maxRecDepth 100000 in
theorem mcut_long (A : Option Addr) (c : Nat) (l : List Int) (z : Int) (w : World) (h1 : ¬ z < 1) (h2 : ¬ 65536 < z) (hn : 65536 < l.length) :
    Calls Tryd.prog 32 #[.slice A l.length c, .int .i64 z] w fun e w' => e = .returned (.tuple #[.slice none 0 0, .int .i64 3]) ∧ w' = w := by
  have t1 : 65536 < (l.length : Int) := by omega
  go_enter Tryd.func32, Tryd.ntmps32
  go_wp2
  go_ret2
  exact ⟨rfl, rfl⟩

set_option maxRecDepth 100000 in
theorem rmcut_size (A : Option Addr) (c : Nat) (l : List Int) (z : Int) (w : World) (hz : z < 1 ∨ 65536 < z) :
    Calls Tryd.prog 34 #[.slice A l.length c, .int .i64 z] w fun e w' => e = .returned (.tuple #[.slice none 0 0, .int .i64 1]) ∧ w' = w := by
  go_enter Tryd.func34, Tryd.ntmps34
  rcases hz with h | h
  · go_wp2
    go_ret2
    exact ⟨rfl, rfl⟩
  · have h1 : ¬ z < 1 := by omega
    go_wp2
    go_ret2
    exact ⟨rfl, rfl⟩
set_option maxRecDepth 100000 in
theorem rmcut_long (A : Option Addr) (c : Nat) (l : List Int) (z : Int) (w : World) (h1 : ¬ z < 1) (h2 : ¬ 65536 < z) (hn : 65536 < l.length) :
    Calls Tryd.prog 34 #[.slice A l.length c, .int .i64 z] w fun e w' => e = .returned (.tuple #[.slice none 0 0, .int .i64 3]) ∧ w' = w := by
  have t1 : 65536 < (l.length : Int) := by omega
  go_enter Tryd.func34, Tryd.ntmps34
  go_wp2
  go_ret2
  exact ⟨rfl, rfl⟩

/-- A message as one fragment; as fragments of z bytes; and the errors. -/
def putF (l : List Int) : List Int × Int := if 65536 < l.length then ([], 3) else (be ((l.length : Int) + 2147483648) 4 ++ l, 0)
def cutF (z : Int) (l : List Int) : List Int × Int := if z < 1 ∨ 65536 < z then ([], 1) else if 65536 < l.length then ([], 3) else (mcut (l.length + 1) z.toNat l, 0)

theorem mputF (A : Option Addr) (c : Nat) (l : List Int) (w : World) (hr : Rd w A l) (hc : l.length ≤ c) :
    Calls Tryd.prog 31 #[.slice A l.length c] w fun e w' => ∃ v, e = .returned (.tuple #[v, .int .i64 (putF l).2]) ∧ Own w' w.heap.size v (putF l).1 ∧ Below w.heap.size w w' := by
  unfold putF
  by_cases h : 65536 < l.length
  · rw [if_pos h]
    refine (mput_long A c l w h).mono ?_
    rintro e w' ⟨rfl, rfl⟩
    exact ⟨_, rfl, Own.nil _ _, Below.refl _ _⟩
  · rw [if_neg h]
    exact marksPut A c l w hr hc (by omega)
theorem rmputF (A : Option Addr) (c : Nat) (l : List Int) (w : World) (hr : Rd w A l) (hc : l.length ≤ c) :
    Calls Tryd.prog 33 #[.slice A l.length c] w fun e w' => ∃ v, e = .returned (.tuple #[v, .int .i64 (putF l).2]) ∧ Own w' w.heap.size v (putF l).1 ∧ Below w.heap.size w w' := by
  unfold putF
  by_cases h : 65536 < l.length
  · rw [if_pos h]
    refine (rmput_long A c l w h).mono ?_
    rintro e w' ⟨rfl, rfl⟩
    exact ⟨_, rfl, Own.nil _ _, Below.refl _ _⟩
  · rw [if_neg h]
    exact rmarksPut A c l w hr hc (by omega)
theorem mcutF (A : Option Addr) (c : Nat) (l : List Int) (z : Int) (w : World) (hr : Rd w A l) (hc : l.length ≤ c) :
    Calls Tryd.prog 32 #[.slice A l.length c, .int .i64 z] w fun e w' => ∃ v, e = .returned (.tuple #[v, .int .i64 (cutF z l).2]) ∧ Own w' w.heap.size v (cutF z l).1 ∧ Below w.heap.size w w' := by
  unfold cutF
  by_cases hz : z < 1 ∨ 65536 < z
  · rw [if_pos hz]
    refine (mcut_size A c l z w hz).mono ?_
    rintro e w' ⟨rfl, rfl⟩
    exact ⟨_, rfl, Own.nil _ _, Below.refl _ _⟩
  · rw [if_neg hz]
    by_cases h : 65536 < l.length
    · rw [if_pos h]
      refine (mcut_long A c l z w (by omega) (by omega) h).mono ?_
      rintro e w' ⟨rfl, rfl⟩
      exact ⟨_, rfl, Own.nil _ _, Below.refl _ _⟩
    · rw [if_neg h]
      have g := marksCut A c l z.toNat w hr hc (by omega) (by omega) (by omega)
      rw [show ((z.toNat : Nat) : Int) = z from by omega] at g
      exact g
theorem rmcutF (A : Option Addr) (c : Nat) (l : List Int) (z : Int) (w : World) (hr : Rd w A l) (hc : l.length ≤ c) :
    Calls Tryd.prog 34 #[.slice A l.length c, .int .i64 z] w fun e w' => ∃ v, e = .returned (.tuple #[v, .int .i64 (cutF z l).2]) ∧ Own w' w.heap.size v (cutF z l).1 ∧ Below w.heap.size w w' := by
  unfold cutF
  by_cases hz : z < 1 ∨ 65536 < z
  · rw [if_pos hz]
    refine (rmcut_size A c l z w hz).mono ?_
    rintro e w' ⟨rfl, rfl⟩
    exact ⟨_, rfl, Own.nil _ _, Below.refl _ _⟩
  · rw [if_neg hz]
    by_cases h : 65536 < l.length
    · rw [if_pos h]
      refine (rmcut_long A c l z w (by omega) (by omega) h).mono ?_
      rintro e w' ⟨rfl, rfl⟩
      exact ⟨_, rfl, Own.nil _ _, Below.refl _ _⟩
    · rw [if_neg h]
      have g := rmarksCut A c l z.toNat w hr hc (by omega) (by omega) (by omega)
      rw [show ((z.toNat : Nat) : Int) = z from by omega] at g
      exact g
end Go.Proofs.YtgkbfmbdpkkhnaaDoor.Hand
