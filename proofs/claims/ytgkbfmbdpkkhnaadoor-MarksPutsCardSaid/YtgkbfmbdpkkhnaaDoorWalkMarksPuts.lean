/- The statement MarksPuts, walked: any message, as one fragment or as many, is put as exactly the documented bytes, or refused; it stays as it was, and the answers are memory of their own. -/
import Derived.Test.YtgkbfmbdpkkhnaaDoorHelp
import Derived.Test.YtgkbfmbdpkkhnaaDoorRefMarksPut
import Derived.Test.YtgkbfmbdpkkhnaaDoorApartOf
namespace Go.Proofs.YtgkbfmbdpkkhnaaDoor.Hand
open Go.RowKit
set_option linter.unusedVariables false
set_option linter.unusedSimpArgs false

/-- A beginning of what a slice owns. -/
theorem own_prefix {w : World} {B n d : Nat} {A : Option Addr} {l m : List Int} (h : Own w B (.slice A (l.length + m.length) d) (l ++ m)) (h0 : 0 < m.length) (hn : n = l.length) : Own w B (.slice A n d) l := by
  subst hn
  refine ⟨fun x hx => h.1 x (List.mem_append_left _ hx), by simp, ?_⟩
  rcases h.2.2 with ⟨e, _⟩ | ⟨g, cap, cur, e, hb, hg, hc, hm, hs, ht⟩
  · injection e with e1 e2 _
    omega
  · injection e with e1 e2 e3
    subst e1 e3
    rw [List.length_append] at hc ht
    refine .inr ⟨g, d, cur, rfl, hb, hg, by omega, hm, hs, ?_⟩
    have h2 := congrArg (List.take l.length) ht
    rw [List.take_take, List.map_append, List.take_left' (by simp)] at h2
    rw [← h2]
    congr 1
    omega
theorem within_same {A : Option Addr} {n m d e lo hi : Nat} (h : Within (.slice A n d) lo hi) : Within (.slice A m e) lo hi := by
  intro g hg
  cases A
  · cases hg
  · exact h g hg
theorem mcut_small : ∀ (f z : Nat) (m : List Int), 1 ≤ z → (mcut f z m).length ≤ 4 + 5 * m.length
  | 0, _, _, _ => by simp [mcut]
  | f + 1, z, m, hz => by
    rw [mcut]
    split
    · have := mcut_small f z (m.drop z) hz
      simp only [List.length_append, be_length, List.length_take]
      rw [List.length_drop] at this
      omega
    · simp [be_length]
      omega
theorem putF_small (l : List Int) : (putF l).1.length ≤ 400000 := by
  unfold putF
  split
  · simp
  · rw [List.length_append, be_length]
    omega
theorem cutF_small (z : Int) (l : List Int) : (cutF z l).1.length ≤ 400000 := by
  unfold cutF
  split
  · simp
  · split
    · simp
    · have := mcut_small (l.length + 1) z.toNat l (by omega)
      simp only
      omega

set_option maxRecDepth 100000 in
set_option maxHeartbeats 4000000 in
theorem MarksPuts_walk (A : Option Addr) (c : Nat) (l : List Int) (z : Int) (w : World) (hr : Rd w A l) (hc : l.length ≤ c) (hsz : l.length ≤ 140737488351232) (hz0 : -9223372036854775808 ≤ z) (hz1 : z ≤ 9223372036854775807) :
    Calls Tryd.prog 7 #[.slice A l.length c, .int .i64 z] w fun e w' => e = .returned (.bool true) ∧ Below w.heap.size w w' := by
  obtain ⟨p, ep, hP⟩ : ∃ p ep, putF l = (p, ep) := ⟨_, _, rfl⟩
  obtain ⟨q, ef, hQ⟩ : ∃ q ef, cutF z l = (q, ef) := ⟨_, _, rfl⟩
  have hp := putF_small l
  have hq := cutF_small z l
  rw [hP] at hp
  rw [hQ] at hq
  simp only at hp hq
  have HPL := Lib.hid hp
  have HQL := Lib.hid hq
  have HP := Lib.hid hP
  have HQ := Lib.hid hQ
  have HSZ := Lib.hid hsz
  clear hp hq hP hQ hsz hz0 hz1
  go_enter Tryd.func7, Tryd.ntmps7
  by_cases hm : 200000 < (l.length : Int)
  · go_wp2
    go_ret
    exact ⟨rfl, Below.refl _ _⟩
  · go_wp2_with fail
    refine (twin A c l w hr HSZ.out).mono ?_
    rintro e w1 ⟨g, cap, rfl, ot, hB⟩
    have W1 := Lib.hid (show Within (.slice (some ⟨g, 0, none⟩) l.length cap) w.heap.size w1.heap.size from within_same ot.within)
    have s1 := Lib.hid hB.size
    have rA := hr.below hB
    obtain ⟨A', c', e1, hc1, _, _⟩ := ot.form
    injection e1 with e1 e2 e3
    subst e1 e3
    rw [List.length_append] at hc1
    simp only [List.length_cons, List.length_nil] at hc1
    clear e2
    have hrl : Rd w1 (some ⟨g, 0, none⟩) l := by have := (own_rd ot).take l.length; rwa [List.take_left] at this
    have g1 := mputF _ cap l w1 hrl (by omega)
    rw [HP.out] at g1
    clear hrl
    go_wp2_with fail
    refine g1.mono ?_
    rintro e w2 ⟨v2, rfl, o2, hz⟩
    have rA := rA.below hz
    have ot := ot.below hz
    have hB := below_then hB hz
    have W2 := Lib.hid o2.within
    have s2 := Lib.hid hz.size
    clear hz g1
    have hrl : Rd w2 (some ⟨g, 0, none⟩) l := by have := (own_rd ot).take l.length; rwa [List.take_left] at this
    have g1 := mcutF _ cap l z w2 hrl (by omega)
    rw [HQ.out] at g1
    clear hrl
    go_wp2_with fail
    refine g1.mono ?_
    rintro e w3 ⟨v3, rfl, o3, hz⟩
    have rA := rA.below hz
    have ot := ot.below hz
    have o2 := o2.below hz
    have hB := below_then hB hz
    have W3 := Lib.hid o3.within
    have s3 := Lib.hid hz.size
    clear hz g1
    have hrl : Rd w3 (some ⟨g, 0, none⟩) l := by have := (own_rd ot).take l.length; rwa [List.take_left] at this
    have g1 := mcutF _ cap l z w3 hrl (by omega)
    rw [HQ.out] at g1
    clear hrl
    go_wp2_with fail
    refine g1.mono ?_
    rintro e w4 ⟨v4, rfl, o4, hz⟩
    have rA := rA.below hz
    have ot := ot.below hz
    have o2 := o2.below hz
    have o3 := o3.below hz
    have hB := below_then hB hz
    have W4 := Lib.hid o4.within
    have s4 := Lib.hid hz.size
    clear hz g1
    obtain ⟨A2, c2, e2, _, _, _⟩ := o2.form
    obtain ⟨A3, c3, e3, _, _, _⟩ := o3.form
    obtain ⟨A4, c4, e4, _, _, _⟩ := o4.form
    subst e2 e3 e4
    have g1 := rmputF A c l w4 rA hc
    rw [HP.out] at g1
    go_wp2_with fail
    refine g1.mono ?_
    rintro e w5 ⟨v5, rfl, o5, hz⟩
    have rA := rA.below hz
    have ot := ot.below hz
    have o2 := o2.below hz
    have o3 := o3.below hz
    have o4 := o4.below hz
    have hB := below_then hB hz
    clear hz g1
    obtain ⟨A5, c5, rfl, _, _, r5⟩ := o5.form
    clear o5
    have g1 := rmcutF A c l z w5 rA hc
    rw [HQ.out] at g1
    go_wp2_with fail
    refine g1.mono ?_
    rintro e w6 ⟨v6, rfl, o6, hz⟩
    have rA := rA.below hz
    have ot := ot.below hz
    have o2 := o2.below hz
    have o3 := o3.below hz
    have o4 := o4.below hz
    have r5 := r5.below hz
    have hB := below_then hB hz
    clear hz g1
    obtain ⟨A6, c6, rfl, _, _, r6⟩ := o6.form
    clear o6
    have q2 : (ep != ep) = false := by simp
    have q3 : (ef != ef) = false := by simp
    go_wp2_with fail
    refine (same_yes (own_rd o2) r5 rfl rfl rfl (by have := HPL.out; omega)).mono ?_
    rintro e w7 ⟨rfl, nx, hz0⟩
    have hz := below_drawn hz0
    clear hz0 r5
    have rA := rA.below hz
    have ot := ot.below hz
    have o2 := o2.below hz
    have o3 := o3.below hz
    have o4 := o4.below hz
    have r6 := r6.below hz
    have hB := below_then hB hz
    clear hz
    go_wp2_with fail
    refine (same_yes (own_rd o3) r6 rfl rfl rfl (by have := HQL.out; omega)).mono ?_
    rintro e w8 ⟨rfl, nx, hz0⟩
    have hz := below_drawn hz0
    clear hz0 r6
    have rA := rA.below hz
    have ot := ot.below hz
    have o2 := o2.below hz
    have o3 := o3.below hz
    have o4 := o4.below hz
    have hB := below_then hB hz
    clear hz
    have lf := left g cap A c l w8 (own_rd ot) (by omega) rA HSZ.out
    go_wp2_with fail
    refine lf.mono ?_
    rintro e w9 ⟨rfl, nx, hz0⟩
    have hz := below_drawn hz0
    clear hz0 lf
    have ot := ot.below hz
    have o2 := o2.below hz
    have o3 := o3.below hz
    have o4 := o4.below hz
    have hB := below_then hB hz
    clear hz rA
    have o1 : Own w9 w.heap.size (.slice (some ⟨g, 0, none⟩) l.length cap) l := own_prefix (m := [77]) ot (by simp) rfl
    clear ot
    have hbk := book_new w9
    have hz : Below w9.heap.size w9 (w9.alloc (.cells #[.int .i64 0, .slice none 0 0, .slice none 0 0, .slice none 0 0, .slice none 0 0, .slice none 0 0, .slice none 0 0, .slice none 0 0] 37)) := (Below.refl _ w9).alloc (Nat.le_refl _) _
    have hKB := Lib.hid (show w.heap.size ≤ w9.heap.size from hB.size)
    have o1 := (o1.below hz).lower (base' := w.heap.size) (Nat.le_refl _)
    have o2 := (o2.below hz).lower (base' := w.heap.size) s1.out
    have o3 := (o3.below hz).lower (base' := w.heap.size) (Nat.le_trans s1.out s2.out)
    have o4 := (o4.below hz).lower (base' := w.heap.size) (Nat.le_trans s1.out (Nat.le_trans s2.out s3.out))
    have hB := below_then hB hz
    have gB := bookBytes w9.heap.size w.heap.size _ [] (some ⟨g, 0, none⟩) l.length cap _ hbk (World.ownsRow_nil _ _ _ _) hKB.out (by simp)
    clear hz hbk
    go_wp2_with fail
    refine gB.mono ?_
    rintro e wb0 ⟨⟨vb, rfl⟩, Vb0, hbk, hrow, hz, hown⟩
    have o1 := hown _ _ _ o1
    have o2 := hown _ _ _ o2
    have o3 := hown _ _ _ o3
    have o4 := hown _ _ _ o4
    have hB := hB.trans hz
    clear gB
    have gB := bookBytes w9.heap.size w.heap.size _ [.slice (some ⟨g, 0, none⟩) l.length cap] A2 p.length c2 _ hbk hrow hKB.out (by simp)
    clear hz hbk hown hrow
    go_wp2_with fail
    refine gB.mono ?_
    rintro e wb1 ⟨⟨vb, rfl⟩, Vb1, hbk, hrow, hz, hown⟩
    have o1 := hown _ _ _ o1
    have o2 := hown _ _ _ o2
    have o3 := hown _ _ _ o3
    have o4 := hown _ _ _ o4
    have hB := hB.trans hz
    clear gB
    have gB := bookBytes w9.heap.size w.heap.size _ [.slice (some ⟨g, 0, none⟩) l.length cap, .slice A2 p.length c2] A3 q.length c3 _ hbk hrow hKB.out (by simp)
    clear hz hbk hown hrow
    go_wp2_with fail
    refine gB.mono ?_
    rintro e wb2 ⟨⟨vb, rfl⟩, Vb2, hbk, hrow, hz, hown⟩
    have o1 := hown _ _ _ o1
    have o2 := hown _ _ _ o2
    have o3 := hown _ _ _ o3
    have o4 := hown _ _ _ o4
    have hB := hB.trans hz
    clear gB
    have gB := bookBytes w9.heap.size w.heap.size _ [.slice (some ⟨g, 0, none⟩) l.length cap, .slice A2 p.length c2, .slice A3 q.length c3] A4 q.length c4 _ hbk hrow hKB.out (by simp)
    clear hz hbk hown hrow
    go_wp2_with fail
    refine gB.mono ?_
    rintro e wb3 ⟨⟨vb, rfl⟩, Vb3, hbk, hrow, hz, hown⟩
    have o1 := hown _ _ _ o1
    have o2 := hown _ _ _ o2
    have o3 := hown _ _ _ o3
    have o4 := hown _ _ _ o4
    have hB := hB.trans hz
    clear gB
    have gA := apart w9.heap.size w.heap.size _ [.slice (some ⟨g, 0, none⟩) l.length cap, .slice A2 p.length c2, .slice A3 q.length c3, .slice A4 q.length c4] (fun j => match j with | 0 => l | 1 => p | 2 => q | _ => q) wb3 hbk hrow (by simp) (by simp) hB.size
      (fun j hj => match j, hj with | 0, _ => o1 | 1, _ => o2 | 2, _ => o3 | 3, _ => o4 | j + 4, hj => absurd hj (by simp))
      (fun j hj => match j, hj with | 0, _ => HSZ.out | 1, _ => Nat.le_trans HPL.out (by decide) | 2, _ => Nat.le_trans HQL.out (by decide) | 3, _ => Nat.le_trans HQL.out (by decide) | j + 4, hj => absurd hj (by simp))
      (distinct_of _ (fun j => match j with | 0 => w.heap.size | 1 => w1.heap.size | 2 => w2.heap.size | 3 => w3.heap.size | _ => w4.heap.size)
        (fun j => match j with | 0 => s1.out | 1 => s2.out | 2 => s3.out | 3 => s4.out | j + 4 => Nat.le_refl _)
        (fun j hj => match j, hj with | 0, _ => W1.out | 1, _ => W2.out | 2, _ => W3.out | 3, _ => W4.out | j + 4, hj => absurd hj (by simp)))
    clear hz hbk hown hrow o1 o2 o3 o4
    go_wp2_with fail
    refine gA.mono ?_
    rintro e wz ⟨rfl, hz⟩
    have hB := hB.trans hz
    clear gA
    go_wp2
    go_ret
    exact ⟨rfl, hB⟩
end Go.Proofs.YtgkbfmbdpkkhnaaDoor.Hand
