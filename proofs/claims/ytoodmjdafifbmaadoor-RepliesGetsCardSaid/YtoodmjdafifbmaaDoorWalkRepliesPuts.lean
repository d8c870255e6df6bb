/- The statement RepliesPuts, walked: any reply is put as exactly the documented bytes, or refused; it stays as it was, and the answers are memory of their own. -/
import Derived.Test.YtoodmjdafifbmaaDoorTwinReply
namespace Go.Proofs.YtoodmjdafifbmaaDoor.Hand
open Go.RowKit
set_option linter.unusedVariables false
set_option linter.unusedSimpArgs false

/-- What Put tells: the bytes, and the error. -/
def putM (xid how low high : Int) (l : List Int) : List Int := if putOK how low high l.length then (if (putL xid how low high l).length ≤ 65536 then putL xid how low high l else []) else []
def putE (xid how low high : Int) (l : List Int) : Int := if putOK how low high l.length then (if (putL xid how low high l).length ≤ 65536 then 0 else 3) else 1
theorem putM_len (xid how low high : Int) (l : List Int) : (putM xid how low high l).length ≤ 65536 := by
  unfold putM
  split
  · split
    · assumption
    · simp
  · simp
theorem RefEnd.uni {base : Nat} {xid how low high : Int} {l : List Int} {e : Ending} {w' : World} (h : RefEnd base xid how low high l e w') : ∃ v, e = .returned (.tuple #[v, .int .i64 (putE xid how low high l)]) ∧ Own w' base v (putM xid how low high l) := by
  unfold RefEnd at h
  unfold putE putM
  by_cases hp : putOK how low high l.length
  · rw [if_pos hp] at h
    rw [if_pos hp, if_pos hp]
    unfold PutEnd at h
    by_cases hl : (putL xid how low high l).length ≤ 65536
    · rw [if_pos hl] at h
      rw [if_pos hl, if_pos hl]
      exact h
    · rw [if_neg hl] at h
      rw [if_neg hl, if_neg hl]
      exact ⟨_, h, Own.nil _ _⟩
  · rw [if_neg hp] at h
    rw [if_neg hp, if_neg hp]
    exact ⟨_, h, Own.nil _ _⟩
theorem put_uni (xid how low high : Int) (A : Option Addr) (c : Nat) (l : List Int) (w : World) (hx : 0 ≤ xid ∧ xid < 4294967296) (hh : 0 ≤ how ∧ how < 4294967296) (hl : 0 ≤ low ∧ low < 4294967296) (hi : 0 ≤ high ∧ high < 4294967296)
    (hr : Rd w A l) (hc : l.length ≤ c) (hn : l.length ≤ 1048000) :
    Calls Tryd.prog 7 #[.agg #[.int .u32 xid, .int .u32 how, .int .u32 low, .int .u32 high, .slice A l.length c]] w fun e w' => (∃ v, e = .returned (.tuple #[v, .int .i64 (putE xid how low high l)]) ∧ Own w' w.heap.size v (putM xid how low high l)) ∧ Below w.heap.size w w' := by
  by_cases hp : putOK how low high l.length
  · refine (Put_good xid how low high A c l w hx.1 hx.2 hh.1 hh.2 hl.1 hl.2 hi.1 hi.2 hr hc hn hp).mono ?_
    rintro e w' ⟨h, hB⟩
    exact ⟨(RefEnd.yes hp h).uni, hB⟩
  · refine (Put_bad xid how low high A c l w hx.1 hx.2 hh.1 hh.2 hl.1 hl.2 hi.1 hi.2 hr hc hn hp).mono ?_
    rintro e w' ⟨h, hB⟩
    exact ⟨(RefEnd.no hp h).uni, hB⟩
theorem ref_uni (xid how low high : Int) (A : Option Addr) (c : Nat) (l : List Int) (w : World) (hx : 0 ≤ xid ∧ xid < 4294967296) (hh : 0 ≤ how ∧ how < 4294967296) (hl : 0 ≤ low ∧ low < 4294967296) (hi : 0 ≤ high ∧ high < 4294967296)
    (hr : Rd w A l) (hc : l.length ≤ c) (hn : l.length ≤ 1048000) :
    Calls Tryd.prog 8 #[.agg #[.int .u32 xid, .int .u32 how, .int .u32 low, .int .u32 high, .slice A l.length c]] w fun e w' => (∃ v, e = .returned (.tuple #[v, .int .i64 (putE xid how low high l)]) ∧ Own w' w.heap.size v (putM xid how low high l)) ∧ Below w.heap.size w w' := by
  refine (ref_put xid how low high A c l w hx hh hl hi hr hc hn).mono ?_
  rintro e w' ⟨h, hB⟩
  exact ⟨h.uni, hB⟩
theorem own_prefix {w : World} {B n d : Nat} {A : Option Addr} {l m : List Int} (h : Own w B (.slice A (l.length + m.length) d) (l ++ m)) (h0 : 0 < m.length) (hn : n = l.length) : Own w B (.slice A n d) l := by
  subst hn
  refine ⟨fun x hx => h.1 x (List.mem_append_left _ hx), by simp, ?_⟩
  rcases h.2.2 with ⟨e, _⟩ | ⟨g, cap, cur, e, hb, hg, hc, hm, hs, ht⟩
  · injection e with e1 e2 _
    omega
  · injection e with e1 e2 e3
    subst e1 e3
    rw [List.length_append] at hc ht
    refine .inr ⟨g, d, cur, rfl, hb, hg, by omega, hm, hs, ?_⟩
    have h2 := congrArg (List.take l.length) ht
    rw [List.take_take, List.map_append, List.take_left' (by simp)] at h2
    rw [← h2]
    congr 1
    omega
theorem within_same {A : Option Addr} {n m d e lo hi : Nat} (h : Within (.slice A n d) lo hi) : Within (.slice A m e) lo hi := by
  intro g hg
  cases A
  · cases hg
  · exact h g hg

set_option maxRecDepth 100000 in
set_option maxHeartbeats 4000000 in
theorem RepliesPuts_walk (xid how low high : Int) (A : Option Addr) (c : Nat) (l : List Int) (w : World) (hx : 0 ≤ xid ∧ xid < 4294967296) (hh : 0 ≤ how ∧ how < 4294967296) (hl : 0 ≤ low ∧ low < 4294967296) (hi : 0 ≤ high ∧ high < 4294967296)
    (hr : Rd w A l) (hc : l.length ≤ c) (hn : l.length ≤ 9223372036854775807) :
    Calls Tryd.prog 3 #[.agg #[.int .u32 xid, .int .u32 how, .int .u32 low, .int .u32 high, .slice A l.length c]] w fun e w' => e = .returned (.bool true) ∧ Below w.heap.size w w' := by
  have b1 := Blk.new w 26 #[.int .u32 xid, .int .u32 how, .int .u32 low, .int .u32 high, .slice A l.length c]
  have hB := (Below.refl w.heap.size w).alloc (Nat.le_refl _) (.cells #[.int .u32 xid, .int .u32 how, .int .u32 low, .int .u32 high, .slice A l.length c] 26)
  have p0 := b1.cell 0 (v := .int .u32 xid) rfl
  have p1 := b1.cell 1 (v := .int .u32 how) rfl
  have p2 := b1.cell 2 (v := .int .u32 low) rfl
  have p3 := b1.cell 3 (v := .int .u32 high) rfl
  have p4 := b1.cell 4 (v := .slice A l.length c) rfl
  have HX := Lib.hid hx
  have HH := Lib.hid hh
  have HL := Lib.hid hl
  have HI := Lib.hid hi
  clear hx hh hl hi
  obtain ⟨M, hM⟩ : ∃ M, M = putM xid how low high l := ⟨_, rfl⟩
  obtain ⟨E, hE⟩ : ∃ E, E = putE xid how low high l := ⟨_, rfl⟩
  have HML := Lib.hid (show M.length ≤ 65536 by rw [hM]; exact putM_len _ _ _ _ _)
  have HM := Lib.hid hM
  have HE := Lib.hid hE
  clear hM hE
  go_enter Tryd.func3, Tryd.ntmps3
  by_cases hlim : 200000 < (l.length : Int)
  · go_wp2
    go_ret
    exact ⟨rfl, hB⟩
  · have HN := Lib.hid (show l.length ≤ 200000 by omega)
    have HT := Lib.hid (twinReply xid how low high A c l _ (hr.below hB) (by have := HN.out; omega))
    go_wp2_with fail
    refine HT.out.mono ?_
    rintro e w1 ⟨g, cap, rfl, ot, hz⟩
    have ot := ot.lower (base' := w.heap.size) hB.size
    have W1 := Lib.hid (show Within (.slice (some ⟨g, 0, none⟩) l.length cap) w.heap.size w1.heap.size from within_same ot.within)
    have b1 := b1.below hz
    have hB := below_then hB hz
    have s1 := Lib.hid hB.size
    obtain ⟨A', c', e1, hc1, _, _⟩ := ot.form
    injection e1 with e1 e2 e3
    subst e1 e3
    rw [List.length_append] at hc1
    simp only [List.length_cons, List.length_nil] at hc1
    have Hcap := Lib.hid (show l.length + 1 ≤ cap from hc1)
    clear e2 hz HT hc1 p0 p1 p2 p3 p4
    have hz := Blk.new w1 26 #[.int .u32 0, .int .u32 0, .int .u32 0, .int .u32 0, .slice none 0 0]
    have z0 := hz.cell 0 (v := .int .u32 0) rfl
    have z1 := hz.cell 1 (v := .int .u32 0) rfl
    have z2 := hz.cell 2 (v := .int .u32 0) rfl
    have z3 := hz.cell 3 (v := .int .u32 0) rfl
    have z4 := hz.cell 4 (v := .slice none 0 0) rfl
    have y0 := hz.frozen 0
    have y1 := hz.frozen 1
    have y2 := hz.frozen 2
    have y3 := hz.frozen 3
    have y4 := hz.frozen 4
    have hal := (Below.refl w1.heap.size w1).alloc (Nat.le_refl _) (.cells #[.int .u32 xid, .int .u32 how, .int .u32 low, .int .u32 high, .slice (some ⟨g, 0, none⟩) l.length cap] 26)
    have b2 := Blk.new w1 26 #[.int .u32 xid, .int .u32 how, .int .u32 low, .int .u32 high, .slice (some ⟨g, 0, none⟩) l.length cap]
    have b1 := b1.below hal
    have ot := ot.below hal
    have hB := below_then hB hal
    have q0 := b2.cell 0 (v := .int .u32 xid) rfl
    have q1 := b2.cell 1 (v := .int .u32 how) rfl
    have q2 := b2.cell 2 (v := .int .u32 low) rfl
    have q3 := b2.cell 3 (v := .int .u32 high) rfl
    have q4 := b2.cell 4 (v := .slice (some ⟨g, 0, none⟩) l.length cap) rfl
    have hrl : Rd (w1.alloc (.cells #[.int .u32 xid, .int .u32 how, .int .u32 low, .int .u32 high, .slice (some ⟨g, 0, none⟩) l.length cap] 26)) (some ⟨g, 0, none⟩) l := by have := (own_rd ot).take l.length; rwa [List.take_left] at this
    have P := put_uni xid how low high _ cap l _ HX.out HH.out HL.out HI.out hrl (by have := Hcap.out; omega) (by have := HN.out; omega)
    rw [← HM.out, ← HE.out] at P
    have HP := Lib.hid P
    have HAS := Lib.hid hal.size
    clear P hrl hal
    go_wp2_with fail
    refine HP.out.mono ?_
    rintro e w2 ⟨⟨v2, rfl, o2⟩, hz⟩
    have o2 := o2.lower (base' := w1.heap.size) HAS.out
    have W2 := Lib.hid o2.within
    have s2 := Lib.hid (Nat.le_trans HAS.out hz.size)
    have b1 := b1.below hz
    have b2 := b2.below hz
    have ot := ot.below hz
    have hB := below_then hB hz
    clear hz HP z0 z1 z2 z3 z4 y0 y1 y2 y3 y4 q0 q1 q2 q3 q4
    have q0 := b2.cell 0 (v := .int .u32 xid) rfl
    have q1 := b2.cell 1 (v := .int .u32 how) rfl
    have q2 := b2.cell 2 (v := .int .u32 low) rfl
    have q3 := b2.cell 3 (v := .int .u32 high) rfl
    have q4 := b2.cell 4 (v := .slice (some ⟨g, 0, none⟩) l.length cap) rfl
    have hrl : Rd w2 (some ⟨g, 0, none⟩) l := by have := (own_rd ot).take l.length; rwa [List.take_left] at this
    have P := put_uni xid how low high _ cap l _ HX.out HH.out HL.out HI.out hrl (by have := Hcap.out; omega) (by have := HN.out; omega)
    rw [← HM.out, ← HE.out] at P
    have HP := Lib.hid P
    clear P hrl
    go_wp2_with fail
    refine HP.out.mono ?_
    rintro e w3 ⟨⟨v3, rfl, o3⟩, hz⟩
    have W3 := Lib.hid o3.within
    have s3 := Lib.hid hz.size
    have b1 := b1.below hz
    have b2 := b2.below hz
    have ot := ot.below hz
    have o2 := o2.below hz
    have hB := below_then hB hz
    clear hz HP q0 q1 q2 q3 q4
    have p0 := b1.cell 0 (v := .int .u32 xid) rfl
    have p1 := b1.cell 1 (v := .int .u32 how) rfl
    have p2 := b1.cell 2 (v := .int .u32 low) rfl
    have p3 := b1.cell 3 (v := .int .u32 high) rfl
    have p4 := b1.cell 4 (v := .slice A l.length c) rfl
    have P := ref_uni xid how low high A c l _ HX.out HH.out HL.out HI.out (hr.below hB) hc (by have := HN.out; omega)
    rw [← HM.out, ← HE.out] at P
    have HP := Lib.hid P
    obtain ⟨A2, c2, e2, _, _, _⟩ := o2.form
    obtain ⟨A3, c3, e3, _, _, _⟩ := o3.form
    subst e2 e3
    clear P
    go_wp2_with fail
    refine HP.out.mono ?_
    rintro e w4 ⟨⟨v4, rfl, o4⟩, hz⟩
    have b1 := b1.below hz
    have b2 := b2.below hz
    have ot := ot.below hz
    have o2 := o2.below hz
    have o3 := o3.below hz
    have hB := below_then hB hz
    clear hz HP p0 p1 p2 p3 p4
    obtain ⟨A4, c4, rfl, _, _, r4⟩ := o4.form
    clear o4
    have q2 : (E != E) = false := by simp
    go_wp2_with fail
    refine (same_yes (own_rd o2) r4 rfl rfl rfl (by have := HML.out; omega)).mono ?_
    rintro e w5 ⟨rfl, nx, hz0⟩
    have hz := below_drawn hz0
    clear hz0
    have b1 := b1.below hz
    have b2 := b2.below hz
    have ot := ot.below hz
    have o2 := o2.below hz
    have o3 := o3.below hz
    have r4 := r4.below hz
    have hB := below_then hB hz
    clear hz
    go_wp2_with fail
    refine (same_yes (own_rd o3) r4 rfl rfl rfl (by have := HML.out; omega)).mono ?_
    rintro e w6 ⟨rfl, nx, hz0⟩
    have hz := below_drawn hz0
    clear hz0 r4
    have b1 := b1.below hz
    have b2 := b2.below hz
    have ot := ot.below hz
    have o2 := o2.below hz
    have o3 := o3.below hz
    have hB := below_then hB hz
    clear hz
    have p0 := b1.cell 0 (v := .int .u32 xid) rfl
    have p1 := b1.cell 1 (v := .int .u32 how) rfl
    have p2 := b1.cell 2 (v := .int .u32 low) rfl
    have p3 := b1.cell 3 (v := .int .u32 high) rfl
    have p4 := b1.cell 4 (v := .slice A l.length c) rfl
    have q0 := b2.cell 0 (v := .int .u32 xid) rfl
    have q1 := b2.cell 1 (v := .int .u32 how) rfl
    have q2 := b2.cell 2 (v := .int .u32 low) rfl
    have q3 := b2.cell 3 (v := .int .u32 high) rfl
    have q4 := b2.cell 4 (v := .slice (some ⟨g, 0, none⟩) l.length cap) rfl
    have q2' : (E != E) = false := by simp
    have lf := Lib.hid (leftReply xid how low high g cap A c l w6 (own_rd ot) Hcap.out (hr.below hB) (by have := HN.out; omega))
    go_wp2_with fail
    refine lf.out.mono ?_
    rintro e w7 ⟨rfl, hz⟩
    have b2 := b2.below hz
    have ot := ot.below hz
    have o2 := o2.below hz
    have o3 := o3.below hz
    have hB := below_then hB hz
    clear hz lf p0 p1 p2 p3 p4 q0 q1 q2 q3 q4 b1 q2'
    have o1 : Own w7 w.heap.size (.slice (some ⟨g, 0, none⟩) l.length cap) l := own_prefix (m := [77]) ot (by simp) rfl
    clear ot
    have hbk := book_new w7
    have hz : Below w7.heap.size w7 (w7.alloc (.cells #[.int .i64 0, .slice none 0 0, .slice none 0 0, .slice none 0 0, .slice none 0 0, .slice none 0 0, .slice none 0 0, .slice none 0 0] 41)) := (Below.refl _ w7).alloc (Nat.le_refl _) _
    have hKB := Lib.hid (show w.heap.size ≤ w7.heap.size from hB.size)
    have o1 := (o1.below hz).lower (base' := w.heap.size) (Nat.le_refl _)
    have o2 := (o2.below hz).lower (base' := w.heap.size) s1.out
    have o3 := (o3.below hz).lower (base' := w.heap.size) (Nat.le_trans s1.out s2.out)
    have hB := below_then hB hz
    have b2 := b2.alloc (.cells #[.int .i64 0, .slice none 0 0, .slice none 0 0, .slice none 0 0, .slice none 0 0, .slice none 0 0, .slice none 0 0, .slice none 0 0] 41)
    have q0 := b2.cell 0 (v := .int .u32 xid) rfl
    have q1 := b2.cell 1 (v := .int .u32 how) rfl
    have q2 := b2.cell 2 (v := .int .u32 low) rfl
    have q3 := b2.cell 3 (v := .int .u32 high) rfl
    have q4 := b2.cell 4 (v := .slice (some ⟨g, 0, none⟩) l.length cap) rfl
    have gB := bookReply w7.heap.size w.heap.size _ [] xid how low high (some ⟨g, 0, none⟩) l.length cap _ hbk (World.ownsRow_nil _ _ _ _) hKB.out (by simp)
    clear hz hbk
    go_wp2_with fail
    refine gB.mono ?_
    rintro e wb0 ⟨⟨vb, rfl⟩, Vb0, hbk, hrow, hz, hown⟩
    have o1 := hown _ _ _ o1
    have o2 := hown _ _ _ o2
    have o3 := hown _ _ _ o3
    have hB := hB.trans hz
    clear gB
    have gB := bookBytes w7.heap.size w.heap.size _ [.slice (some ⟨g, 0, none⟩) l.length cap] A2 M.length c2 _ hbk hrow hKB.out (by simp)
    clear hz hbk hown hrow
    go_wp2_with fail
    refine gB.mono ?_
    rintro e wb1 ⟨⟨vb, rfl⟩, Vb1, hbk, hrow, hz, hown⟩
    have o1 := hown _ _ _ o1
    have o2 := hown _ _ _ o2
    have o3 := hown _ _ _ o3
    have hB := hB.trans hz
    clear gB
    have gB := bookBytes w7.heap.size w.heap.size _ [.slice (some ⟨g, 0, none⟩) l.length cap, .slice A2 M.length c2] A3 M.length c3 _ hbk hrow hKB.out (by simp)
    clear hz hbk hown hrow
    go_wp2_with fail
    refine gB.mono ?_
    rintro e wb2 ⟨⟨vb, rfl⟩, Vb2, hbk, hrow, hz, hown⟩
    have o1 := hown _ _ _ o1
    have o2 := hown _ _ _ o2
    have o3 := hown _ _ _ o3
    have hB := hB.trans hz
    clear gB
    have gA := apart w7.heap.size w.heap.size _ [.slice (some ⟨g, 0, none⟩) l.length cap, .slice A2 M.length c2, .slice A3 M.length c3] (fun j => match j with | 0 => l | 1 => M | _ => M) wb2 hbk hrow (by simp) (by simp) hB.size
      (fun j hj => match j, hj with | 0, _ => o1 | 1, _ => o2 | 2, _ => o3 | j + 3, hj => absurd hj (by simp))
      (fun j hj => match j, hj with | 0, _ => (show l.length ≤ 140737488351232 by have := HN.out; omega) | 1, _ => (show M.length ≤ 140737488351232 by have := HML.out; omega) | 2, _ => (show M.length ≤ 140737488351232 by have := HML.out; omega) | j + 3, hj => absurd hj (by simp))
      (distinct_of _ (fun j => match j with | 0 => w.heap.size | 1 => w1.heap.size | 2 => w2.heap.size | _ => w3.heap.size)
        (fun j => match j with | 0 => s1.out | 1 => s2.out | 2 => s3.out | j + 3 => Nat.le_refl _)
        (fun j hj => match j, hj with | 0, _ => W1.out | 1, _ => W2.out | 2, _ => W3.out | j + 3, hj => absurd hj (by simp)))
    clear hz hbk hown hrow o1 o2 o3
    go_wp2_with fail
    refine gA.mono ?_
    rintro e wz ⟨rfl, hz⟩
    have hB := hB.trans hz
    clear gA
    go_wp2
    go_ret
    exact ⟨rfl, hB⟩
end Go.Proofs.YtoodmjdafifbmaaDoor.Hand
