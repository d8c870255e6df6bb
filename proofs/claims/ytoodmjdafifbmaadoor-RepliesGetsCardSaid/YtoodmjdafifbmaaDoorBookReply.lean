/- A Book that is told a reply, what else stays told too; Get in one word with its numbers apart. -/
import Derived.Test.YtoodmjdafifbmaaDoorTwinReply
import Derived.Test.YtoodmjdafifbmaaDoorRepRow
import Derived.Test.YtoodmjdafifbmaaDoorRefGets
namespace Go.Proofs.YtoodmjdafifbmaaDoor.Hand
open Go.RowKit
set_option linter.unusedVariables false
set_option linter.unusedSimpArgs false

set_option maxRecDepth 100000 in
set_option maxHeartbeats 2000000 in
theorem bookReply' {M : Value} (kb B : Nat) (V : Value) (its : List Value) (x h lo hi : Int) (A : Option Addr) (k d : Nat) (w : World) (hb : BookAt w kb its.length V M) (hrow : w.ownsRow B 98 3 V its.length (heldCells 0 its))
    (hB : B ≤ kb) (hn : its.length ≤ 1000000000) :
    Calls Tryd.prog 11 #[.pointer (some ⟨kb, 0, none⟩), .agg #[.int .u32 x, .int .u32 h, .int .u32 lo, .int .u32 hi, .slice A k d]] w fun e w' => (∃ v, e = .returned v) ∧ ∃ V', BookAt w' kb (its.length + 1) V' M ∧ w'.ownsRow B 98 3 V' (its.length + 1) (heldCells 0 (its ++ [.slice A k d])) ∧
      Below B w w' ∧ Others w w' := by
  have hBw : B ≤ w.heap.size := Nat.le_trans hB (Nat.le_of_lt hb.lt)
  have G := bookBytes' (M := M) kb B V its A k d (w.alloc (.cells #[.int .u32 x, .int .u32 h, .int .u32 lo, .int .u32 hi, .slice A k d] 26)) (hb.alloc _) (hrow.alloc _) hB hn
  have b1 := Blk.new w 26 #[.int .u32 x, .int .u32 h, .int .u32 lo, .int .u32 hi, .slice A k d]
  have p4 := b1.cell 4 (v := .slice A k d) rfl
  have HG := Lib.hid G
  clear G
  go_enter Tryd.func11, Tryd.ntmps11
  go_wp2_with fail
  refine HG.out.mono ?_
  rintro e w1 ⟨⟨v, rfl⟩, V', h1, h2, h3, h4⟩
  have H4 := Lib.hid h4
  clear h4 HG
  go_wp2_with fail
  go_end0
  exact ⟨⟨_, rfl⟩, V', h1, h2, ((Below.refl B w).alloc hBw _).trans h3, fun g t cs a b c => H4.out g t cs a b (c.alloc _)⟩

def RR.x : RR → Int | .ok x _ _ _ _ => x | .no _ => 0
def RR.h : RR → Int | .ok _ h _ _ _ => h | .no _ => 0
def RR.lo : RR → Int | .ok _ _ lo _ _ => lo | .no _ => 0
def RR.hi : RR → Int | .ok _ _ _ hi _ => hi | .no _ => 0
def RR.m : RR → List Int | .ok _ _ _ _ m => m | .no _ => []
def RR.e : RR → Int | .ok _ _ _ _ _ => 0 | .no k => k
theorem GetR.uni {base : Nat} {r : RR} {e : Ending} {w' : World} (h : GetR base r e w') : ∃ v, e = .returned (.tuple #[.agg #[.int .u32 r.x, .int .u32 r.h, .int .u32 r.lo, .int .u32 r.hi, v], .int .i64 r.e]) ∧ Own w' base v r.m := by
  cases r with
  | ok x hh lo hi m => exact h
  | no k => exact ⟨_, h, Own.nil _ _⟩
theorem got_m_len (L : List Int) : (got L).m.length ≤ L.length := by
  unfold got
  split
  · split
    · simp [RR.m]
    · split
      · simp [RR.m]
      · show (L.drop _).length ≤ _
        rw [List.length_drop]; omega
  · simp [RR.m]
theorem get_uni (A : Option Addr) (c : Nat) (L : List Int) (w : World) (hr : Rd w A L) (hc : L.length ≤ c) :
    Calls Tryd.prog 26 #[.slice A L.length c] w fun e w' => (∃ v, e = .returned (.tuple #[.agg #[.int .u32 (got L).x, .int .u32 (got L).h, .int .u32 (got L).lo, .int .u32 (got L).hi, v], .int .i64 (got L).e]) ∧ Own w' w.heap.size v (got L).m) ∧ Below w.heap.size w w' := by
  refine (get_all A c L w hr hc).mono ?_
  rintro e w' ⟨h, hB⟩
  exact ⟨h.uni, hB⟩
theorem rget_uni (A : Option Addr) (c : Nat) (L : List Int) (w : World) (hr : Rd w A L) (hc : L.length ≤ c) (hn : L.length ≤ 1048576) :
    Calls Tryd.prog 27 #[.slice A L.length c] w fun e w' => (∃ v, e = .returned (.tuple #[.agg #[.int .u32 (got L).x, .int .u32 (got L).h, .int .u32 (got L).lo, .int .u32 (got L).hi, v], .int .i64 (got L).e]) ∧ Own w' w.heap.size v (got L).m) ∧ Below w.heap.size w w' := by
  refine (ref_get A c L w hr hc hn).mono ?_
  rintro e w' ⟨h, hB⟩
  exact ⟨h.uni, hB⟩
end Go.Proofs.YtoodmjdafifbmaaDoor.Hand
