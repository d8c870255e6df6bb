/- The statements' helper is: the bytes of a reply, and back. -/
import Derived.Test.YtikkcoidepfgmaaRepRow
namespace Go.Proofs.Ytikkcoidepfgmaa.Hand
open Go.RowKit
set_option linter.unusedVariables false
set_option linter.unusedSimpArgs false

/-- Put, where the reply is one and fits. -/
theorem Put_yes (xid how low high : Int) (A : Option Addr) (c : Nat) (body : List Int) (w : World) (hx : 0 ≤ xid ∧ xid < 4294967296) (hh : 0 ≤ how ∧ how < 4294967296) (hl : 0 ≤ low ∧ low < 4294967296) (hi : 0 ≤ high ∧ high < 4294967296)
    (hr : Rd w A body) (hc : body.length ≤ c) (h : putOK how low high body.length) (hn : (putL xid how low high body).length ≤ 65536) :
    Calls Try.prog 9 #[.agg #[.int .u32 xid, .int .u32 how, .int .u32 low, .int .u32 high, .slice A body.length c]] w fun e w' => ∃ Av cv, e = .returned (.tuple #[.slice Av (putL xid how low high body).length cv, .int .i64 0]) ∧ (putL xid how low high body).length ≤ cv ∧ Own w' w.heap.size (.slice Av (putL xid how low high body).length cv) (putL xid how low high body) ∧ Rd w' Av (putL xid how low high body) ∧ Below w.heap.size w w' := by
  have hbl : body.length ≤ 65536 := by
    have : (putL xid how low high body).length = (rw4 [xid, 1] ++ rw4 (rowF how) ++ rw4 ([low, high].take (toldOf how).toNat)).length + body.length := by unfold putL; rw [List.length_append]
    omega
  refine (Put_good xid how low high A c body w hx.1 hx.2 hh.1 hh.2 hl.1 hl.2 hi.1 hi.2 hr hc (by omega) h).mono ?_
  rintro e w' ⟨hE, hB⟩
  unfold PutEnd at hE
  rw [if_pos hn] at hE
  obtain ⟨v, rfl, ho⟩ := hE
  obtain ⟨Av, cv, rfl, h1, _, h2⟩ := ho.form
  exact ⟨Av, cv, rfl, h1, ho, h2, hB⟩
/-- Get, where the bytes are a reply. -/
theorem get_yes (A : Option Addr) (c : Nat) (L : List Int) (w : World) {xid how low high : Int} {body : List Int} (hr : Rd w A L) (hc : L.length ≤ c) (hg : got L = .ok xid how low high body) :
    Calls Try.prog 10 #[.slice A L.length c] w fun e w' => ∃ Ab cb, e = .returned (.tuple #[.agg #[.int .u32 xid, .int .u32 how, .int .u32 low, .int .u32 high, .slice Ab body.length cb], .int .i64 0]) ∧ body.length ≤ cb ∧ Rd w' Ab body ∧ Below w.heap.size w w' := by
  refine (get_all A c L w hr hc).mono ?_
  rintro e w' ⟨hE, hB⟩
  rw [hg] at hE
  obtain ⟨v, rfl, ho⟩ : ∃ v, e = .returned (.tuple #[.agg #[.int .u32 xid, .int .u32 how, .int .u32 low, .int .u32 high, v], .int .i64 0]) ∧ Own w' _ v body := hE
  obtain ⟨Av, cv, rfl, h1, _, h2⟩ := ho.form
  exact ⟨Av, cv, rfl, h1, h2, hB⟩
theorem get_fails (A : Option Addr) (c : Nat) (L : List Int) (w : World) {k : Int} (hr : Rd w A L) (hc : L.length ≤ c) (hg : got L = .no k) :
    Calls Try.prog 10 #[.slice A L.length c] w fun e w' => e = .returned (.tuple #[.agg #[.int .u32 0, .int .u32 0, .int .u32 0, .int .u32 0, .slice none 0 0], .int .i64 k]) ∧ Below w.heap.size w w' := by
  refine (get_all A c L w hr hc).mono ?_
  rintro e w' ⟨hE, hB⟩
  rw [hg] at hE
  exact ⟨hE, hB⟩

set_option maxRecDepth 100000 in
set_option maxHeartbeats 2000000 in
theorem is_yes (xid how low high : Int) (A B : Option Addr) (c d : Nat) (body L : List Int) (w : World) (hx : 0 ≤ xid ∧ xid < 4294967296) (hh : 0 ≤ how ∧ how < 4294967296) (hl : 0 ≤ low ∧ low < 4294967296) (hi : 0 ≤ high ∧ high < 4294967296)
    (hr : Rd w A body) (hc : body.length ≤ c) (h : putOK how low high body.length) (hrb : Rd w B L) (hd : L.length ≤ d) (hL : putL xid how low high body = L) (hn : L.length ≤ 65536) :
    Calls Try.prog 13 #[.agg #[.int .u32 xid, .int .u32 how, .int .u32 low, .int .u32 high, .slice A body.length c], .slice B L.length d] w fun e w' => e = .returned (.bool true) ∧ Below w.heap.size w w' := by
  have b1 := Blk.new w 26 #[.int .u32 xid, .int .u32 how, .int .u32 low, .int .u32 high, .slice A body.length c]
  have hB : Below w.heap.size w (w.alloc (.cells #[.int .u32 xid, .int .u32 how, .int .u32 low, .int .u32 high, .slice A body.length c] 26)) := (Below.refl _ _).alloc (Nat.le_refl _) _
  have P1 := fun wx (q : Rd wx A body) => Put_yes xid how low high A c body wx hx hh hl hi q hc h (by rw [hL]; exact hn)
  have hg : got L = .ok xid how low high body := by rw [← hL]; exact got_put h hx hl hi (by rw [hL]; exact hn)
  have G1 := fun wx (q : Rd wx B L) => get_yes B d L wx q hd hg
  rw [hL] at P1
  have hbl : body.length ≤ 65536 := by
    have : (putL xid how low high body).length = (rw4 [xid, 1] ++ rw4 (rowF how) ++ rw4 ([low, high].take (toldOf how).toNat)).length + body.length := by unfold putL; rw [List.length_append]
    rw [hL] at this
    omega
  have p0 := b1.cell 0 (v := .int .u32 xid) rfl
  have p1 := b1.cell 1 (v := .int .u32 how) rfl
  have p2 := b1.cell 2 (v := .int .u32 low) rfl
  have p3 := b1.cell 3 (v := .int .u32 high) rfl
  have p4 := b1.cell 4 (v := .slice A body.length c) rfl
  have HP := Lib.hid P1
  have HG := Lib.hid G1
  have HBL := Lib.hid hbl
  have HN := Lib.hid hn
  clear hL hn h hg P1 G1 hbl hh hx hl hi
  go_enter Try.func13, Try.ntmps13
  go_wp2_with fail
  refine (HP.out _ (hr.below hB)).mono ?_
  rintro e w1 ⟨Av, cv, rfl, hcv, ov, rv, hB1⟩
  have b1 := b1.below hB1
  have hB := below_then hB hB1
  clear p0 p1 p2 p3 p4 hB1
  go_wp2_with fail
  refine (HG.out _ (hrb.below hB)).mono ?_
  rintro e w2 ⟨Ab, cb, rfl, hcb, rb, hB2⟩
  have b1 := b1.below hB2
  have rv := rv.below hB2
  have hB := below_then hB hB2
  clear hB2 ov HP HG
  have hs0 : Below w2.heap.size w2 (w2.alloc (.cells #[.int .u32 xid, .int .u32 how, .int .u32 low, .int .u32 high, .slice Ab body.length cb] 26)) := (Below.refl _ _).alloc (Nat.le_refl _) _
  have b2 := Blk.new w2 26 #[.int .u32 xid, .int .u32 how, .int .u32 low, .int .u32 high, .slice Ab body.length cb]
  have S1 := same_yes (c := cv) (d := d) (rv.below hs0) ((hrb.below hB).below hs0) rfl rfl rfl (by have := HN.out; omega)
  have b1 := b1.below hs0
  have rb := rb.below hs0
  have hB := below_then hB hs0
  have z0 := (Blk.new w2 26 #[.int .u32 0, .int .u32 0, .int .u32 0, .int .u32 0, .slice none 0 0]).cell 0 (v := .int .u32 0) rfl
  have z1 := (Blk.new w2 26 #[.int .u32 0, .int .u32 0, .int .u32 0, .int .u32 0, .slice none 0 0]).cell 1 (v := .int .u32 0) rfl
  have z2 := (Blk.new w2 26 #[.int .u32 0, .int .u32 0, .int .u32 0, .int .u32 0, .slice none 0 0]).cell 2 (v := .int .u32 0) rfl
  have z3 := (Blk.new w2 26 #[.int .u32 0, .int .u32 0, .int .u32 0, .int .u32 0, .slice none 0 0]).cell 3 (v := .int .u32 0) rfl
  have z4 := (Blk.new w2 26 #[.int .u32 0, .int .u32 0, .int .u32 0, .int .u32 0, .slice none 0 0]).cell 4 (v := .slice none 0 0) rfl
  have y0 := (Blk.new w2 26 #[.int .u32 0, .int .u32 0, .int .u32 0, .int .u32 0, .slice none 0 0]).frozen 0
  have y1 := (Blk.new w2 26 #[.int .u32 0, .int .u32 0, .int .u32 0, .int .u32 0, .slice none 0 0]).frozen 1
  have y2 := (Blk.new w2 26 #[.int .u32 0, .int .u32 0, .int .u32 0, .int .u32 0, .slice none 0 0]).frozen 2
  have y3 := (Blk.new w2 26 #[.int .u32 0, .int .u32 0, .int .u32 0, .int .u32 0, .slice none 0 0]).frozen 3
  have y4 := (Blk.new w2 26 #[.int .u32 0, .int .u32 0, .int .u32 0, .int .u32 0, .slice none 0 0]).frozen 4
  have HS := Lib.hid S1
  clear hs0 S1
  go_wp2_with fail
  refine HS.out.mono ?_
  rintro e w3 ⟨rfl, n, hw3⟩
  have hx3 := below_drawn hw3
  have b1 := b1.below hx3
  have b2 := b2.below hx3
  have hB := below_then hB hx3
  have S2 := sameRep xid how low high Ab A cb c body w3 (rb.below hx3) (hr.below hB) (by have := HBL.out; omega)
  have p0 := b1.cell 0 (v := .int .u32 xid) rfl
  have p1 := b1.cell 1 (v := .int .u32 how) rfl
  have p2 := b1.cell 2 (v := .int .u32 low) rfl
  have p3 := b1.cell 3 (v := .int .u32 high) rfl
  have p4 := b1.cell 4 (v := .slice A body.length c) rfl
  have q0 := b2.cell 0 (v := .int .u32 xid) rfl
  have q1 := b2.cell 1 (v := .int .u32 how) rfl
  have q2 := b2.cell 2 (v := .int .u32 low) rfl
  have q3 := b2.cell 3 (v := .int .u32 high) rfl
  have q4 := b2.cell 4 (v := .slice Ab body.length cb) rfl
  have HS2 := Lib.hid S2
  clear hw3 hx3 S2 HS z0 z1 z2 z3 z4 y0 y1 y2 y3 y4
  go_wp2_with fail
  refine HS2.out.mono ?_
  rintro e w4 ⟨rfl, hB4⟩
  have hB := below_then hB hB4
  clear hB4 HS2
  go_wp2_with fail
  go_ret
  exact ⟨rfl, hB⟩
end Go.Proofs.Ytikkcoidepfgmaa.Hand
