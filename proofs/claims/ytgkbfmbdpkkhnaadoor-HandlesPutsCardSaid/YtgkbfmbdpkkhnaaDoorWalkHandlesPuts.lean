/- The statement HandlesPuts, walked: any handle is put as exactly the documented bytes, or refused; the answers are memory of their own. -/
import Derived.Test.YtgkbfmbdpkkhnaaDoorHelp
import Derived.Test.YtgkbfmbdpkkhnaaDoorHandlePut
import Derived.Test.YtgkbfmbdpkkhnaaDoorRefHandle
import Derived.Test.YtgkbfmbdpkkhnaaDoorApartOf
namespace Go.Proofs.YtgkbfmbdpkkhnaaDoor.Hand
open Go.RowKit
set_option linter.unusedVariables false
set_option linter.unusedSimpArgs false

set_option maxRecDepth 100000 in
set_option maxHeartbeats 2000000 in
theorem rhput (a g : Int) (w : World) (ha : 1 ≤ a) (ha' : a ≤ 1024) (hg : 0 ≤ g) (hg' : g < 4294967296) :
    Calls Tryd.prog 36 #[.agg #[.int .i64 a, .int .u32 g]] w fun e w' => ∃ v, e = .returned (.tuple #[v, .int .i64 0]) ∧ Own w' w.heap.size v (hb a g) ∧ Below w.heap.size w w' := by
  have b1 := Blk.new w 63 #[.int .i64 a, .int .u32 g]
  have hB : Below w.heap.size w (w.alloc (.cells #[.int .i64 a, .int .u32 g] 63)) := (Below.refl _ _).alloc (Nat.le_refl _) _
  have k0 := b1.cell 0 (v := .int .i64 a) rfl
  have k1 := b1.cell 1 (v := .int .u32 g) rfl
  have t1 : ¬ a < 1 := by omega
  have t2 : ¬ 1024 < a := by omega
  have hw : a % 4294967296 = a := by omega
  have gb := rhbytes a g (w.alloc (.cells #[.int .i64 a, .int .u32 g] 63)) (by omega) (by omega) hg hg'
  go_enter Tryd.func36, Tryd.ntmps36
  go_wp2_with fail
  refine gb.mono ?_
  rintro e w1 ⟨v1, rfl, o1, hx⟩
  have hBs := hB.size
  have o1 := o1.lower hBs
  have hB := below_then hB hx
  clear gb hx
  go_wp2
  exact bodyPost_ret (v := .tuple #[v1, .int .i64 0]) (by simp [results, Tryd.f36, go_sem]) rfl ⟨_, rfl, o1, hB⟩

set_option maxRecDepth 100000 in
theorem rhput_bad (a g : Int) (w : World) (ha : a < 1 ∨ 1024 < a) :
    Calls Tryd.prog 36 #[.agg #[.int .i64 a, .int .u32 g]] w fun e w' => e = .returned (.tuple #[.slice none 0 0, .int .i64 1]) ∧ Below w.heap.size w w' := by
  have b1 := Blk.new w 63 #[.int .i64 a, .int .u32 g]
  have hB : Below w.heap.size w (w.alloc (.cells #[.int .i64 a, .int .u32 g] 63)) := (Below.refl _ _).alloc (Nat.le_refl _) _
  have k0 := b1.cell 0 (v := .int .i64 a) rfl
  have k1 := b1.cell 1 (v := .int .u32 g) rfl
  go_enter Tryd.func36, Tryd.ntmps36
  rcases ha with h | h
  · go_wp2
    exact bodyPost_ret (v := .tuple #[.slice none 0 0, .int .i64 1]) (by simp [results, Tryd.f36, go_sem]) rfl ⟨rfl, hB⟩
  · have h1 : ¬ a < 1 := by omega
    go_wp2
    exact bodyPost_ret (v := .tuple #[.slice none 0 0, .int .i64 1]) (by simp [results, Tryd.f36, go_sem]) rfl ⟨rfl, hB⟩

theorem hb_small (a g : Int) : (hb a g).length ≤ 140737488351232 := by rw [hb_length]; decide

set_option maxRecDepth 100000 in
set_option maxHeartbeats 4000000 in
theorem HandlesPuts_walk (a g : Int) (w : World) (ha0 : -9223372036854775808 ≤ a) (ha1 : a ≤ 9223372036854775807) (hg : 0 ≤ g) (hg' : g < 4294967296) :
    Calls Tryd.prog 8 #[.agg #[.int .i64 a, .int .u32 g]] w fun e w' => e = .returned (.bool true) ∧ Below w.heap.size w w' := by
  have b1 := Blk.new w 63 #[.int .i64 a, .int .u32 g]
  have hB : Below w.heap.size w (w.alloc (.cells #[.int .i64 a, .int .u32 g] 63)) := (Below.refl _ _).alloc (Nat.le_refl _) _
  have k0 := b1.cell 0 (v := .int .i64 a) rfl
  have k1 := b1.cell 1 (v := .int .u32 g) rfl
  have sz := hB.size
  go_enter Tryd.func8, Tryd.ntmps8
  by_cases ha : 1 ≤ a ∧ a ≤ 1024
  · have gp := fun wx => hput a g wx ha.1 ha.2 hg hg'
    have gr := fun wx => rhput a g wx ha.1 ha.2 hg hg'
    have GP := Lib.hid gp
    have GR := Lib.hid gr
    clear gp gr ha
    obtain ⟨w0, hw0⟩ : ∃ w0, w0 = w.alloc (.cells #[.int .i64 a, .int .u32 g] 63) := ⟨_, rfl⟩
    go_wp2_with fail
    rw [← hw0] at b1 hB k0 k1 sz ⊢
    have hw0 := Lib.hid hw0
    refine (GP.out w0).mono ?_
    rintro e w1 ⟨v1, rfl, o1, hz⟩
    have W1 := Lib.hid o1.within
    have s1 := Lib.hid hz.size
    have b1 := b1.below hz
    have k0 := b1.cell 0 (v := .int .i64 a) rfl
    have k1 := b1.cell 1 (v := .int .u32 g) rfl
    have hB := below_then hB hz
    clear hz
    go_wp2_with fail
    refine (GP.out w1).mono ?_
    rintro e w2 ⟨v2, rfl, o2, hz⟩
    have W2 := Lib.hid o2.within
    have s2 := Lib.hid hz.size
    have o1 := o1.below hz
    have b1 := b1.below hz
    have k0 := b1.cell 0 (v := .int .i64 a) rfl
    have k1 := b1.cell 1 (v := .int .u32 g) rfl
    have hB := below_then hB hz
    clear hz
    obtain ⟨A1, c1, e1, _, _, _⟩ := o1.form
    obtain ⟨A2, c2, e2, _, _, _⟩ := o2.form
    rw [hb_length] at e1 e2
    subst e1 e2
    have SZ := Lib.hid sz
    clear sz
    go_wp2_with fail
    refine (GR.out w2).mono ?_
    rintro e w5 ⟨v5, rfl, o5, hz⟩
    obtain ⟨A5, c5, rfl, _, _, r5⟩ := o5.form
    rw [hb_length]
    have o1 := o1.below hz
    have o2 := o2.below hz
    have hB := below_then hB hz
    clear hz o5 b1 k0 k1
    go_wp2_with fail
    refine (same_yes (own_rd o1) r5 rfl (hb_length _ _) (hb_length _ _) (by decide)).mono ?_
    rintro e w6 ⟨rfl, nx, hz0⟩
    have hz := below_drawn hz0
    clear hz0
    have o1 := o1.below hz
    have o2 := o2.below hz
    have r5 := r5.below hz
    have hB := below_then hB hz
    clear hz
    go_wp2_with fail
    refine (same_yes (own_rd o2) r5 rfl (hb_length _ _) (hb_length _ _) (by decide)).mono ?_
    rintro e w7 ⟨rfl, nx, hz0⟩
    have hz := below_drawn hz0
    clear hz0 r5
    have o1 := o1.below hz
    have o2 := o2.below hz
    have hB := below_then hB hz
    clear hz
    have hbk := book_new w7
    have hz : Below w7.heap.size w7 (w7.alloc (.cells #[.int .i64 0, .slice none 0 0, .slice none 0 0, .slice none 0 0, .slice none 0 0, .slice none 0 0, .slice none 0 0, .slice none 0 0] 37)) := (Below.refl _ w7).alloc (Nat.le_refl _) _
    have hKB := Lib.hid (show w.heap.size ≤ w7.heap.size from hB.size)
    have o1 := (o1.below hz).lower (base' := w.heap.size) SZ.out
    have o2 := (o2.below hz).lower (base' := w.heap.size) (Nat.le_trans SZ.out s1.out)
    have hB := below_then hB hz
    have gB := bookBytes w7.heap.size w.heap.size _ [] A1 16 c1 _ hbk (World.ownsRow_nil _ _ _ _) hKB.out (by simp)
    clear hz hbk
    go_wp2_with fail
    refine gB.mono ?_
    rintro e wb0 ⟨⟨vb, rfl⟩, Vb0, hbk, hrow, hz, hown⟩
    have o1 := hown _ _ _ o1
    have o2 := hown _ _ _ o2
    have hB := hB.trans hz
    clear gB
    have gB := bookBytes w7.heap.size w.heap.size _ [.slice A1 16 c1] A2 16 c2 _ hbk hrow hKB.out (by simp)
    clear hz hbk hown hrow
    go_wp2_with fail
    refine gB.mono ?_
    rintro e wb1 ⟨⟨vb, rfl⟩, Vb1, hbk, hrow, hz, hown⟩
    have o1 := hown _ _ _ o1
    have o2 := hown _ _ _ o2
    have hB := hB.trans hz
    clear gB
    have gA := apart w7.heap.size w.heap.size _ [.slice A1 16 c1, .slice A2 16 c2] (fun j => match j with | 0 => hb a g | _ => hb a g) wb1 hbk hrow (by simp) (by simp) hB.size
      (fun j hj => match j, hj with | 0, _ => o1 | 1, _ => o2 | j + 2, hj => absurd hj (by simp))
      (fun j hj => match j, hj with | 0, _ => hb_small _ _ | 1, _ => hb_small _ _ | j + 2, hj => absurd hj (by simp))
      (distinct_of _ (fun j => match j with | 0 => w0.heap.size | 1 => w1.heap.size | _ => w2.heap.size)
        (fun j => match j with | 0 => s1.out | 1 => s2.out | j + 2 => Nat.le_refl _)
        (fun j hj => match j, hj with | 0, _ => W1.out | 1, _ => W2.out | j + 2, hj => absurd hj (by simp)))
    clear hz hbk hown hrow o1 o2
    go_wp2_with fail
    refine gA.mono ?_
    rintro e wz ⟨rfl, hz⟩
    have hB := hB.trans hz
    clear gA
    go_wp2
    go_ret
    exact ⟨rfl, hB⟩
  · have gp := fun wx => hput_bad a g wx (by omega)
    have gr := fun wx => rhput_bad a g wx (by omega)
    have GP := Lib.hid gp
    have GR := Lib.hid gr
    clear gp gr ha
    obtain ⟨w0, hw0⟩ : ∃ w0, w0 = w.alloc (.cells #[.int .i64 a, .int .u32 g] 63) := ⟨_, rfl⟩
    go_wp2_with fail
    rw [← hw0] at b1 hB k0 k1 sz ⊢
    have hw0 := Lib.hid hw0
    refine (GP.out w0).mono ?_
    rintro e w1 ⟨rfl, hz⟩
    have b1 := b1.below hz
    have k0 := b1.cell 0 (v := .int .i64 a) rfl
    have k1 := b1.cell 1 (v := .int .u32 g) rfl
    have hB := below_then hB hz
    clear hz sz
    go_wp2_with fail
    refine (GP.out w1).mono ?_
    rintro e w2 ⟨rfl, hz⟩
    have b1 := b1.below hz
    have k0 := b1.cell 0 (v := .int .i64 a) rfl
    have k1 := b1.cell 1 (v := .int .u32 g) rfl
    have hB := below_then hB hz
    clear hz
    go_wp2_with fail
    refine (GR.out w2).mono ?_
    rintro e w5 ⟨rfl, hz⟩
    have hB := below_then hB hz
    clear hz b1 k0 k1
    go_wp2_with fail
    refine (same_yes (A := none) (B := none) (l := []) (m := []) (Rd.nil _ _) (Rd.nil _ _) rfl rfl rfl (by decide)).mono ?_
    rintro e w6 ⟨rfl, nx, hz0⟩
    have hz := below_drawn hz0
    clear hz0
    have hB := below_then hB hz
    clear hz
    go_wp2_with fail
    refine (same_yes (A := none) (B := none) (l := []) (m := []) (Rd.nil _ _) (Rd.nil _ _) rfl rfl rfl (by decide)).mono ?_
    rintro e w7 ⟨rfl, nx, hz0⟩
    have hz := below_drawn hz0
    clear hz0
    have hB := below_then hB hz
    clear hz
    have o1 := Own.nil w7 w.heap.size
    have o2 := Own.nil w7 w.heap.size
    have W1 := Lib.hid (show Within (.slice none 0 0) w.heap.size w.heap.size from fun g hg => by cases hg)
    have W2 := W1
    have s1 := Lib.hid (Nat.le_refl w.heap.size)
    have s2 := s1
    have hbk := book_new w7
    have hz : Below w7.heap.size w7 (w7.alloc (.cells #[.int .i64 0, .slice none 0 0, .slice none 0 0, .slice none 0 0, .slice none 0 0, .slice none 0 0, .slice none 0 0, .slice none 0 0] 37)) := (Below.refl _ w7).alloc (Nat.le_refl _) _
    have hKB := Lib.hid (show w.heap.size ≤ w7.heap.size from hB.size)
    have o1 := (o1.below hz).lower (base' := w.heap.size) (Nat.le_refl _)
    have o2 := (o2.below hz).lower (base' := w.heap.size) (Nat.le_refl _)
    have hB := below_then hB hz
    have gB := bookBytes w7.heap.size w.heap.size _ [] none 0 0 _ hbk (World.ownsRow_nil _ _ _ _) hKB.out (by simp)
    clear hz hbk
    go_wp2_with fail
    refine gB.mono ?_
    rintro e wb0 ⟨⟨vb, rfl⟩, Vb0, hbk, hrow, hz, hown⟩
    have o1 := hown _ _ _ o1
    have o2 := hown _ _ _ o2
    have hB := hB.trans hz
    clear gB
    have gB := bookBytes w7.heap.size w.heap.size _ [.slice none 0 0] none 0 0 _ hbk hrow hKB.out (by simp)
    clear hz hbk hown hrow
    go_wp2_with fail
    refine gB.mono ?_
    rintro e wb1 ⟨⟨vb, rfl⟩, Vb1, hbk, hrow, hz, hown⟩
    have o1 := hown _ _ _ o1
    have o2 := hown _ _ _ o2
    have hB := hB.trans hz
    clear gB
    have gA := apart w7.heap.size w.heap.size _ [.slice none 0 0, .slice none 0 0] (fun j => match j with | 0 => [] | _ => []) wb1 hbk hrow (by simp) (by simp) hB.size
      (fun j hj => match j, hj with | 0, _ => o1 | 1, _ => o2 | j + 2, hj => absurd hj (by simp))
      (fun j hj => match j, hj with | 0, _ => by simp | 1, _ => by simp | j + 2, hj => absurd hj (by simp))
      (distinct_of _ (fun j => match j with | 0 => w.heap.size | 1 => w.heap.size | _ => w.heap.size)
        (fun j => match j with | 0 => s1.out | 1 => s2.out | j + 2 => Nat.le_refl _)
        (fun j hj => match j, hj with | 0, _ => W1.out | 1, _ => W2.out | j + 2, hj => absurd hj (by simp)))
    clear hz hbk hown hrow o1 o2
    go_wp2_with fail
    refine gA.mono ?_
    rintro e wz ⟨rfl, hz⟩
    have hB := hB.trans hz
    clear gA
    go_wp2
    go_ret
    exact ⟨rfl, hB⟩
end Go.Proofs.YtgkbfmbdpkkhnaaDoor.Hand
