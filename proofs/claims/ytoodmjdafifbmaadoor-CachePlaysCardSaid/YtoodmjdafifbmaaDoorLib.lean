/- Plain words of this session's own: a slice of bytes that reads as a list, one that the call owns, and how both live on; the contracts of the statements' helpers Beyond and SameBytes. -/
import Derived.Below
import Derived.Deep.Draws
import Derived.Deep.AppendLies
import Derived.Laws.OwnMore
import Derived.Laws.MakeOwn
import Derived.Maps.AppendAt
import Derived.OwnWalk
import Derived.WalkKit
import Derived.LoopTactic
import Derived.KernelRfl
import Derived.Deep.QuietTactic
import Derived.BigQuiet
import Derived.IntWalk
import Derived.Lib.Hide
import Derived.Test.YtoodmjdafifbmaaDoorNum
import Derived.Test.YtoodmjdafifbmaaDoorProg
namespace Go.Proofs.YtoodmjdafifbmaaDoor.Hand
open Go.RowKit

theorem add_plain (g j : Nat) : (⟨g, 0, none⟩ : Addr).add j = ⟨g, j, none⟩ := by unfold Addr.add; split <;> simp_all
theorem add_of_add (a : Addr) (i j : Nat) : (a.add i).add j = a.add (i + j) := by
  unfold Addr.add
  by_cases hi : i = 0 <;> by_cases hj : j = 0 <;> simp [hi, hj, Nat.add_assoc]

theorem ret_bool {a b : Bool} (h : a = b) : Ending.returned (.bool a) = .returned (.bool b) := by rw [h]

/-- The slice at A, as long as l, reads as the bytes l. -/
def Rd (w : World) (A : Option Addr) (l : List Int) : Prop :=
  Bs l ∧ (0 < l.length → ∃ ad, A = some ad ∧ ∀ j : Nat, j < l.length → w.cell? (ad.add j) = some (.int .u8 (nth l j)))
theorem Rd.nil (w : World) (A : Option Addr) : Rd w A [] := ⟨Bs.nil, fun h => absurd h (by simp)⟩
theorem Rd.at_ {w : World} {A : Option Addr} {l : List Int} (h : Rd w A l) {k : Nat} (hk : k < l.length) : ∃ ad, A = some ad ∧ w.cell? (ad.add k) = some (.int .u8 (nth l k)) := by
  obtain ⟨ad, e, hc⟩ := h.2 (by omega)
  exact ⟨ad, e, hc k hk⟩
theorem Rd.keep {w w' : World} {A : Option Addr} {l : List Int} (h : Rd w A l) (hk : ∀ (p : Addr) (v : Value), w.cell? p = some v → w'.cell? p = some v) : Rd w' A l :=
  ⟨h.1, fun h0 => by
    obtain ⟨ad, e, hc⟩ := h.2 h0
    exact ⟨ad, e, fun j hj => hk _ _ (hc j hj)⟩⟩
theorem Rd.below {w w' : World} {A : Option Addr} {l : List Int} (h : Rd w A l) (hb : Below w.heap.size w w') : Rd w' A l :=
  h.keep fun p _ hp => (hb.cell (World.block_lt_of_cell? w p hp)).trans hp
theorem Rd.drewN {w : World} {A : Option Addr} {l : List Int} (h : Rd w A l) (n : Nat) : Rd (w.drewN n) A l := h
theorem Rd.alloc {w : World} {A : Option Addr} {l : List Int} (h : Rd w A l) (o : Obj) : Rd (w.alloc o) A l := h.below ((Below.refl _ w).alloc (Nat.le_refl _) o)
theorem Rd.take {w : World} {A : Option Addr} {l : List Int} (h : Rd w A l) (k : Nat) : Rd w A (l.take k) := by
  refine ⟨h.1.take k, fun h0 => ?_⟩
  rw [List.length_take] at h0
  obtain ⟨ad, e, hc⟩ := h.2 (by omega)
  refine ⟨ad, e, fun j hj => ?_⟩
  rw [List.length_take] at hj
  rw [hc j (by omega), gd _ _ (by omega : j < l.length), gd _ _ (by rw [List.length_take]; omega : j < (l.take k).length), List.getElem_take]
theorem Rd.drop {w : World} {A : Option Addr} {l : List Int} (h : Rd w A l) (k c : Nat) (hc : l.length ≤ c) : Rd w (if c = k then A else A.map (·.add k)) (l.drop k) := by
  refine ⟨h.1.drop k, fun h0 => ?_⟩
  rw [List.length_drop] at h0
  obtain ⟨ad, rfl, hcell⟩ := h.2 (by omega)
  rw [if_neg (by omega)]
  refine ⟨ad.add k, rfl, fun j hj => ?_⟩
  rw [List.length_drop] at hj
  rw [add_of_add, hcell (k + j) (by omega), gd _ _ (by omega : k + j < l.length), gd _ _ (by rw [List.length_drop]; omega : j < (l.drop k).length), List.getElem_drop]

/-- A slice of the call's own (its block from base on) that holds the bytes l. -/
def Own (w : World) (base : Nat) (v : Value) (l : List Int) : Prop := Bs l ∧ w.ownsRow base 5 1 v l.length (l.map (Value.int .u8))
theorem Own.nil (w : World) (base : Nat) : Own w base (.slice none 0 0) [] := ⟨Bs.nil, World.ownsRow_nil _ _ _ _⟩
theorem Own.below {w w' : World} {base : Nat} {v : Value} {l : List Int} (h : Own w base v l) (hb : Below w.heap.size w w') : Own w' base v l :=
  ⟨h.1, h.2.kept (row := none) ⟨hb.os, hb.tape, hb.output, hb.size, fun i hi _ => hb.block i hi⟩ (by cases v.ownBlock <;> simp)⟩
theorem Own.form {w : World} {base : Nat} {v : Value} {l : List Int} (h : Own w base v l) : ∃ A c, v = .slice A l.length c ∧ l.length ≤ c ∧ c ≤ maxLen ∧ Rd w A l := by
  rcases h.2.2 with ⟨rfl, h0⟩ | ⟨g, cap, cur, rfl, _, hg, hn, hm, hs, ht⟩
  · obtain rfl : l = [] := List.eq_nil_of_length_eq_zero h0
    exact ⟨none, 0, rfl, by simp, by simp, Rd.nil _ _⟩
  · refine ⟨_, cap, rfl, hn, hm, h.1, fun _ => ⟨_, rfl, fun j hj => ?_⟩⟩
    rw [add_plain, cell_of_row w g j cur _ (0, 0) hg]
    have e : (cur.toList.take (l.length * 1))[j]? = (l.map (Value.int .u8))[j]? := by rw [ht]
    rw [List.getElem?_take, if_pos (by omega), Array.getElem?_toList, List.getElem?_map, List.getElem?_eq_getElem hj] at e
    rw [e, gd _ _ hj]; rfl

theorem below_drewN {B : Nat} {w w1 : World} (h : Below B w w1) (n : Nat) : Below B w (w1.drewN n) := ⟨h.os, h.tape, h.output, h.size, h.block⟩
theorem below_undrew {w w1 : World} (h : Below w.drew.heap.size w.drew w1) : Below w.heap.size w w1 := ⟨h.os, h.tape, h.output, h.size, h.block⟩
theorem below_drawn {w w1 : World} {n : Nat} (h : w1 = w.drewN n) : Below w.heap.size w w1 := by rw [h]; exact below_drewN (Below.refl _ _) n
theorem cell_later {w w1 : World} (hb : Below w.heap.size w w1) {a : Addr} {v : Value} (h : w.cell? a = some v) : w1.cell? a = some v := (hb.cell (World.block_lt_of_cell? w a h)).trans h
theorem frozen_later {w w1 : World} (hb : Below w.heap.size w w1) {a : Addr} (h : a.block < w.heap.size) (hf : w.frozen? a = false) : w1.frozen? a = false := (hb.frozen h).trans hf
theorem cell_new0 (w : World) (cs : Array Value) (t : TypeId) (i : Nat) {v : Value} (h : cs[i]? = some v) : (w.alloc (.cells cs t)).cell? ⟨w.heap.size, i, none⟩ = some v := by rw [cell_of_row _ _ _ _ _ _ (heap_alloc_new w _)]; exact h
theorem cell_old {w : World} {a : Addr} {v : Value} (h : w.cell? a = some v) (o : Obj) : (w.alloc o).cell? a = some v := cell_later ((Below.refl _ w).alloc (Nat.le_refl _) o) h
theorem below_then {w w1 w2 : World} (h : Below w.heap.size w w1) (k : Below w1.heap.size w1 w2) : Below w.heap.size w w2 :=
  h.trans (k.mono h.size)

theorem Own.base {w : World} {base : Nat} {v : Value} {l : List Int} (h : Own w base v l) : ∀ k, v.ownBlock = some k → base ≤ k := fun k hk => (h.2.lt k hk).1
/-- Behind an append: what is owned now. -/
theorem Own.after {W w1 : World} {base : Nat} {v v' : Value} {l m : List Int} (h : Own W base v l) (hm : Bs m) (ho : w1.ownsRow base 5 1 v' (l.length + m.length) (l.map (Value.int .u8) ++ m.map (Value.int .u8))) : Own w1 base v' (l ++ m) :=
  ⟨h.1.append hm, by rw [List.length_append, List.map_append]; exact ho⟩
theorem Own.grown {w W w1 : World} {base : Nat} {v : Value} {l : List Int} (h : Own W base v l) (hb : Below base w W) (hB : base ≤ W.heap.size) (hg : W.grownBy w1 v.ownBlock) : Below base w w1 := hb.grown hg hB h.base
theorem Own.grown_to {w W w1 : World} {B base : Nat} {v : Value} {l : List Int} (h : Own W base v l) (hb : Below B w W) (hB : B ≤ base) (hW : B ≤ W.heap.size) (hg : W.grownBy w1 v.ownBlock) : Below B w w1 := hb.grown hg hW fun k hk => Nat.le_trans hB (h.base k hk)
theorem Own.alloc {w : World} {base : Nat} {v : Value} {l : List Int} (h : Own w base v l) (o : Obj) : Own (w.alloc o) base v l := ⟨h.1, h.2.alloc o⟩
theorem Own.lower {w : World} {base base' : Nat} {v : Value} {l : List Int} (h : Own w base v l) (hb : base' ≤ base) : Own w base' v l :=
  ⟨h.1, h.2.1, h.2.2.imp id fun ⟨g, cap, cur, e, hg, r⟩ => ⟨g, cap, cur, e, by omega, r⟩⟩

/-- Block g is just the cells cs of element type t, none frozen. -/
def Blk (w : World) (g : Nat) (t : TypeId) (cs : Array Value) : Prop := w.heap[g]? = some (.cells cs t (0, 0))
section
variable {w w' : World} {g : Nat} {t : TypeId} {cs : Array Value}
theorem Blk.lt (h : Blk w g t cs) : g < w.heap.size := (Array.getElem?_eq_some_iff.1 h).1
theorem Blk.cell (h : Blk w g t cs) (i : Nat) {v : Value} (hv : cs[i]? = some v) : w.cell? ⟨g, i, none⟩ = some v := by rw [cell_of_row w g i cs t (0, 0) h]; exact hv
theorem Blk.frozen (h : Blk w g t cs) (i : Nat) : w.frozen? ⟨g, i, none⟩ = false := by
  unfold Blk at h
  simp [World.frozen?, h]
theorem Blk.new (w : World) (t : TypeId) (cs : Array Value) : Blk (w.alloc (.cells cs t)) w.heap.size t cs := heap_alloc_new w _
theorem Blk.alloc (h : Blk w g t cs) (o : Obj) : Blk (w.alloc o) g t cs := (Below.heap_alloc w o g h.lt).trans h
theorem Blk.drew (h : Blk w g t cs) : Blk w.drew g t cs := h
theorem Blk.drewN (h : Blk w g t cs) (n : Nat) : Blk (w.drewN n) g t cs := h
theorem Blk.set_ (h : Blk w g t cs) (i : Nat) (u : Value) : Blk (w.setCell ⟨g, i, none⟩ u) g t (cs.setIfInBounds i u) := by
  unfold Blk at h ⊢
  simp [World.setCell, Array.getElem?_modify, h]
theorem Blk.far (h : Blk w g t cs) {p : Addr} (hp : g ≠ p.block) (u : Value) : Blk (w.setCell p u) g t cs := (Below.heap_setCell w p u g hp).trans h
theorem Blk.below (h : Blk w g t cs) (hb : Below w.heap.size w w') : Blk w' g t cs := (hb.block g h.lt).trans h
theorem Blk.grown {row : Option Nat} (h : Blk w g t cs) (hb : w.grownBy w' row) (hg : some g ≠ row) : Blk w' g t cs := (hb.block g h.lt hg).trans h
theorem Blk.ne_ {g' : Nat} {t' : TypeId} {cs' : Array Value} (h : Blk w g t cs) (h' : Blk w g' t' cs') (hne : t ≠ t') : g ≠ g' := by
  rintro rfl
  unfold Blk at h h'
  rw [h] at h'
  injection h' with h'
  injection h' with _ ht
  exact hne ht
end

/-- A row of bytes is no block of another type. -/
theorem Own.blk_ne {w : World} {base : Nat} {v : Value} {l : List Int} {g : Nat} {t : TypeId} {cs : Array Value} (h : Own w base v l) (hg : Blk w g t cs) (hne : 5 ≠ t) : some g ≠ v.ownBlock := by
  rcases h.2.2 with ⟨rfl, _⟩ | ⟨g', cap, cur, rfl, _, hh, _⟩
  · simp [Value.ownBlock]
  · intro he
    have : g' = g := by simpa [Value.ownBlock] using he.symm
    subst this
    exact Blk.ne_ (t := 5) hh hg hne rfl

/-- A literal []byte. -/
theorem Rd.lit (w : World) (l : List Int) (h : Bs l) : Rd (w.alloc (.cells (l.map (Value.int .u8)).toArray 5)) (some ⟨w.heap.size, 0, none⟩) l := by
  refine ⟨h, fun _ => ⟨_, rfl, fun j hj => ?_⟩⟩
  rw [add_plain, cell_of_row _ _ _ _ _ _ (heap_alloc_new w _)]
  rw [List.getElem?_toArray, List.getElem?_map, List.getElem?_eq_getElem hj, gd _ _ hj]; rfl

theorem info8 : (Tryd.prog.info? 5).map (fun i => (i.zero, i.size, i.bytes)) = some (some (.int .u8 0), 1, 1) := by kernel_rfl

theorem run_make_bytes (n c : Nat) (hnc : n ≤ c) (hc : c ≤ 281474976710656) (w : World) :
    (Instr.makeSlice 24 (.int .i64 (n : Int)) (.int .i64 (c : Int))).run Tryd.prog w = .ok (.slice (some ⟨w.heap.size, 0, none⟩) n c) (w.alloc (.cells (madeCells #[.int .u8 0] c) 5)) := by
  obtain ⟨i, hi, hz0, hz1, hz2⟩ := info_parts info8
  have hr := run_make (P := Tryd.prog) w 24 5 i (.int .u8 0) Tryd.underlying24 hi hz0 .i64 .i64 n c (by omega) (by omega) (by rw [hz2]; omega) (by omega)
  rw [hz1] at hr
  simp only [Int.toNat_natCast, Nat.mul_one] at hr
  exact hr

end Go.Proofs.YtoodmjdafifbmaaDoor.Hand
