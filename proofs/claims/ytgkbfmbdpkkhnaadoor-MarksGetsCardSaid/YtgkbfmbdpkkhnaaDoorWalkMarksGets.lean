/- The statement MarksGets, walked: the message that any bytes begin with is exactly the documented one, or they are refused; they stay as they were, and the answers are memory of their own. -/
import Derived.Test.YtgkbfmbdpkkhnaaDoorHelp
import Derived.Test.YtgkbfmbdpkkhnaaDoorMgetLen
import Derived.Test.YtgkbfmbdpkkhnaaDoorRefMarksGet
import Derived.Test.YtgkbfmbdpkkhnaaDoorApartOf
namespace Go.Proofs.YtgkbfmbdpkkhnaaDoor.Hand
open Go.RowKit
set_option linter.unusedVariables false
set_option linter.unusedSimpArgs false

/-- A beginning of what a slice owns. -/
theorem own_prefix {w : World} {B n d : Nat} {A : Option Addr} {l m : List Int} (h : Own w B (.slice A (l.length + m.length) d) (l ++ m)) (h0 : 0 < m.length) (hn : n = l.length) : Own w B (.slice A n d) l := by
  subst hn
  refine ⟨fun x hx => h.1 x (List.mem_append_left _ hx), by simp, ?_⟩
  rcases h.2.2 with ⟨e, _⟩ | ⟨g, cap, cur, e, hb, hg, hc, hm, hs, ht⟩
  · injection e with e1 e2 _
    omega
  · injection e with e1 e2 e3
    subst e1 e3
    rw [List.length_append] at hc ht
    refine .inr ⟨g, d, cur, rfl, hb, hg, by omega, hm, hs, ?_⟩
    have h2 := congrArg (List.take l.length) ht
    rw [List.take_take, List.map_append, List.take_left' (by simp)] at h2
    rw [← h2]
    congr 1
    omega
theorem within_same {A : Option Addr} {n m d e lo hi : Nat} (h : Within (.slice A n d) lo hi) : Within (.slice A m e) lo hi := by
  intro g hg
  cases A
  · cases hg
  · exact h g hg
theorem mget_fst_len (l : List Int) : (mget (l.length + 1) l [] 0).1.length ≤ 65536 ∨ (mget (l.length + 1) l [] 0).2.2 ≠ 0 := by
  by_cases h : (mget (l.length + 1) l [] 0).2.2 = 0
  · exact .inl (mget_len _ _ _ _ h (by simp))
  · exact .inr h
theorem mget_none : ∀ (f : Nat) (r m : List Int) (at_ : Nat), (mget f r m at_).2.2 ≠ 0 → (mget f r m at_).1 = []
  | 0, _, _, _ => fun _ => rfl
  | f + 1, r, m, at_ => fun h => by
    rw [mget] at h ⊢
    split
    · rfl
    rename_i h1
    rw [if_neg h1] at h
    split
    · rfl
    rename_i h2
    rw [if_neg h2] at h
    split
    · rfl
    rename_i h3
    rw [if_neg h3] at h
    split
    · rfl
    rename_i h4
    rw [if_neg h4] at h
    split
    · rename_i h5
      rw [if_pos h5] at h
      exact mget_none f _ _ _ h
    · rename_i h5
      rw [if_neg h5] at h
      exact absurd rfl h

set_option maxRecDepth 100000 in
set_option maxHeartbeats 4000000 in
theorem MarksGets_walk (A : Option Addr) (c : Nat) (l : List Int) (w : World) (hr : Rd w A l) (hc : l.length ≤ c) (hsz : l.length ≤ 140737488351232) :
    Calls Tryd.prog 4 #[.slice A l.length c] w fun e w' => e = .returned (.bool true) ∧ Below w.heap.size w w' := by
  obtain ⟨m, n, er, hM⟩ : ∃ m n er, mget (l.length + 1) l [] 0 = (m, n, er) := ⟨_, _, _, rfl⟩
  have hml : m.length ≤ 65536 := by
    rcases mget_fst_len l with h | h
    · rw [hM] at h; exact h
    · have := mget_none _ _ _ _ h
      rw [hM] at this
      simp only at this
      rw [this]; simp
  have HML := Lib.hid hml
  have HM := Lib.hid hM
  have HSZ := Lib.hid hsz
  clear hml hM hsz
  go_enter Tryd.func4, Tryd.ntmps4
  by_cases hm : 200000 < (l.length : Int)
  · go_wp2
    go_ret
    exact ⟨rfl, Below.refl _ _⟩
  · go_wp2_with fail
    refine (twin A c l w hr HSZ.out).mono ?_
    rintro e w1 ⟨g, cap, rfl, ot, hB⟩
    have W1 := Lib.hid (show Within (.slice (some ⟨g, 0, none⟩) l.length cap) w.heap.size w1.heap.size from within_same ot.within)
    have s1 := Lib.hid hB.size
    have rA := hr.below hB
    obtain ⟨A', c', e1, hc1, _, _⟩ := ot.form
    injection e1 with e1 e2 e3
    subst e1 e3
    rw [List.length_append] at hc1
    simp only [List.length_cons, List.length_nil] at hc1
    clear e2
    have hrl : Rd w1 (some ⟨g, 0, none⟩) l := by have := (own_rd ot).take l.length; rwa [List.take_left] at this
    have g1 := marksGet _ cap l w1 hrl (by omega) HSZ.out
    rw [HM.out] at g1
    clear hrl
    go_wp2_with fail
    refine g1.mono ?_
    rintro e w2 ⟨v2, rfl, o2, hz⟩
    have rA := rA.below hz
    have ot := ot.below hz
    have hB := below_then hB hz
    have W2 := Lib.hid o2.within
    have s2 := Lib.hid hz.size
    clear hz g1
    have hrl : Rd w2 (some ⟨g, 0, none⟩) l := by have := (own_rd ot).take l.length; rwa [List.take_left] at this
    have g1 := marksGet _ cap l w2 hrl (by omega) HSZ.out
    rw [HM.out] at g1
    clear hrl
    go_wp2_with fail
    refine g1.mono ?_
    rintro e w3 ⟨v3, rfl, o3, hz⟩
    have rA := rA.below hz
    have ot := ot.below hz
    have o2 := o2.below hz
    have hB := below_then hB hz
    have W3 := Lib.hid o3.within
    have s3 := Lib.hid hz.size
    clear hz g1
    have g1 := rmarksGet A c l w3 rA hc HSZ.out
    rw [HM.out] at g1
    obtain ⟨A2, c2, e2, _, _, _⟩ := o2.form
    obtain ⟨A3, c3, e3, _, _, _⟩ := o3.form
    subst e2 e3
    go_wp2_with fail
    refine g1.mono ?_
    rintro e w4 ⟨v4, rfl, o4, hz⟩
    have rA := rA.below hz
    have ot := ot.below hz
    have o2 := o2.below hz
    have o3 := o3.below hz
    have hB := below_then hB hz
    clear hz g1
    obtain ⟨A4, c4, rfl, _, _, r4⟩ := o4.form
    clear o4
    have q1 : ((n : Int) != (n : Int)) = false := by simp
    have q2 : (er != er) = false := by simp
    go_wp2_with fail
    refine (same_yes (own_rd o2) r4 rfl rfl rfl (by have := HML.out; omega)).mono ?_
    rintro e w5 ⟨rfl, nx, hz0⟩
    have hz := below_drawn hz0
    clear hz0 r4
    have rA := rA.below hz
    have ot := ot.below hz
    have o2 := o2.below hz
    have o3 := o3.below hz
    have hB := below_then hB hz
    clear hz
    have lf := left g cap A c l w5 (own_rd ot) (by omega) rA HSZ.out
    go_wp2_with fail
    refine lf.mono ?_
    rintro e w6 ⟨rfl, nx, hz0⟩
    have hz := below_drawn hz0
    clear hz0 lf
    have ot := ot.below hz
    have o2 := o2.below hz
    have o3 := o3.below hz
    have hB := below_then hB hz
    clear hz rA
    have o1 : Own w6 w.heap.size (.slice (some ⟨g, 0, none⟩) l.length cap) l := own_prefix (m := [77]) ot (by simp) rfl
    clear ot
    have hbk := book_new w6
    have hz : Below w6.heap.size w6 (w6.alloc (.cells #[.int .i64 0, .slice none 0 0, .slice none 0 0, .slice none 0 0, .slice none 0 0, .slice none 0 0, .slice none 0 0, .slice none 0 0] 37)) := (Below.refl _ w6).alloc (Nat.le_refl _) _
    have hKB := Lib.hid (show w.heap.size ≤ w6.heap.size from hB.size)
    have o1 := (o1.below hz).lower (base' := w.heap.size) (Nat.le_refl _)
    have o2 := (o2.below hz).lower (base' := w.heap.size) s1.out
    have o3 := (o3.below hz).lower (base' := w.heap.size) (Nat.le_trans s1.out s2.out)
    have hB := below_then hB hz
    have gB := bookBytes w6.heap.size w.heap.size _ [] (some ⟨g, 0, none⟩) l.length cap _ hbk (World.ownsRow_nil _ _ _ _) hKB.out (by simp)
    clear hz hbk
    go_wp2_with fail
    refine gB.mono ?_
    rintro e wb0 ⟨⟨vb, rfl⟩, Vb0, hbk, hrow, hz, hown⟩
    have o1 := hown _ _ _ o1
    have o2 := hown _ _ _ o2
    have o3 := hown _ _ _ o3
    have hB := hB.trans hz
    clear gB
    have gB := bookBytes w6.heap.size w.heap.size _ [.slice (some ⟨g, 0, none⟩) l.length cap] A2 m.length c2 _ hbk hrow hKB.out (by simp)
    clear hz hbk hown hrow
    go_wp2_with fail
    refine gB.mono ?_
    rintro e wb1 ⟨⟨vb, rfl⟩, Vb1, hbk, hrow, hz, hown⟩
    have o1 := hown _ _ _ o1
    have o2 := hown _ _ _ o2
    have o3 := hown _ _ _ o3
    have hB := hB.trans hz
    clear gB
    have gB := bookBytes w6.heap.size w.heap.size _ [.slice (some ⟨g, 0, none⟩) l.length cap, .slice A2 m.length c2] A3 m.length c3 _ hbk hrow hKB.out (by simp)
    clear hz hbk hown hrow
    go_wp2_with fail
    refine gB.mono ?_
    rintro e wb2 ⟨⟨vb, rfl⟩, Vb2, hbk, hrow, hz, hown⟩
    have o1 := hown _ _ _ o1
    have o2 := hown _ _ _ o2
    have o3 := hown _ _ _ o3
    have hB := hB.trans hz
    clear gB
    have gA := apart w6.heap.size w.heap.size _ [.slice (some ⟨g, 0, none⟩) l.length cap, .slice A2 m.length c2, .slice A3 m.length c3] (fun j => match j with | 0 => l | 1 => m | _ => m) wb2 hbk hrow (by simp) (by simp) hB.size
      (fun j hj => match j, hj with | 0, _ => o1 | 1, _ => o2 | 2, _ => o3 | j + 3, hj => absurd hj (by simp))
      (fun j hj => match j, hj with | 0, _ => HSZ.out | 1, _ => Nat.le_trans HML.out (by decide) | 2, _ => Nat.le_trans HML.out (by decide) | j + 3, hj => absurd hj (by simp))
      (distinct_of _ (fun j => match j with | 0 => w.heap.size | 1 => w1.heap.size | 2 => w2.heap.size | _ => w3.heap.size)
        (fun j => match j with | 0 => s1.out | 1 => s2.out | 2 => s3.out | j + 3 => Nat.le_refl _)
        (fun j hj => match j, hj with | 0, _ => W1.out | 1, _ => W2.out | 2, _ => W3.out | j + 3, hj => absurd hj (by simp)))
    clear hz hbk hown hrow o1 o2 o3
    go_wp2_with fail
    refine gA.mono ?_
    rintro e wz ⟨rfl, hz⟩
    have hB := hB.trans hz
    clear gA
    go_wp2
    go_ret
    exact ⟨rfl, hB⟩
end Go.Proofs.YtgkbfmbdpkkhnaaDoor.Hand
