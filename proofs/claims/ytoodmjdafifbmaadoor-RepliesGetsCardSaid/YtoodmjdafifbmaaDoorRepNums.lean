/- replies.put: numbers, appended as bytes onto a slice of the call's own. -/
import Derived.Maps.Range
import Derived.Test.YtoodmjdafifbmaaDoorApp
import Derived.Test.YtoodmjdafifbmaaDoorPuts
namespace Go.Proofs.YtoodmjdafifbmaaDoor.Hand
open Go.RowKit
set_option linter.unusedVariables false

/-- The bytes of numbers. -/
def rw4 : List Int → List Int
  | [] => []
  | n :: r => be n 4 ++ rw4 r
theorem rw4_length : ∀ l : List Int, (rw4 l).length = 4 * l.length
  | [] => rfl
  | n :: r => by rw [rw4, List.length_append, be_length, rw4_length r, List.length_cons]; omega
theorem rw4_bs : ∀ l : List Int, Bs (rw4 l)
  | [] => Bs.nil
  | n :: r => (be_bs _ _).append (rw4_bs r)
theorem rw4_append : ∀ l m : List Int, rw4 (l ++ m) = rw4 l ++ rw4 m
  | [], m => rfl
  | n :: r, m => by rw [List.cons_append, rw4, rw4, rw4_append r m, List.append_assoc]
theorem rw4_take {l : List Int} {k : Nat} (h : k < l.length) : rw4 (l.take (k + 1)) = rw4 (l.take k) ++ be (nth l k) 4 := by
  rw [List.take_succ_eq_append_getElem h, rw4_append, gd _ _ h, rw4, rw4, List.append_nil]
/-- Numbers of 32 bits. -/
def U4 (l : List Int) : Prop := ∀ x ∈ l, 0 ≤ x ∧ x < 4294967296
theorem U4.at_ {l : List Int} (h : U4 l) {k : Nat} (hk : k < l.length) : 0 ≤ nth l k ∧ nth l k < 4294967296 := by
  rw [gd _ _ hk]; exact h _ (List.getElem_mem hk)

/-- The slice at A, as long as l, reads as the numbers l. -/
def RdN (w : World) (A : Option Addr) (l : List Int) : Prop :=
  U4 l ∧ (0 < l.length → ∃ ad, A = some ad ∧ ∀ j : Nat, j < l.length → w.cell? (ad.add j) = some (.int .u32 (nth l j)))
theorem RdN.at_ {w : World} {A : Option Addr} {l : List Int} (h : RdN w A l) {k : Nat} (hk : k < l.length) : ∃ ad, A = some ad ∧ w.cell? (ad.add k) = some (.int .u32 (nth l k)) := by
  obtain ⟨ad, e, hc⟩ := h.2 (by omega)
  exact ⟨ad, e, hc k hk⟩
theorem RdN.keep {w w' : World} {A : Option Addr} {l : List Int} (h : RdN w A l) (hk : ∀ (p : Addr) (v : Value), w.cell? p = some v → w'.cell? p = some v) : RdN w' A l :=
  ⟨h.1, fun h0 => by
    obtain ⟨ad, e, hc⟩ := h.2 h0
    exact ⟨ad, e, fun j hj => hk _ _ (hc j hj)⟩⟩
theorem RdN.of_blk {w : World} {g : Nat} {l : List Int} (hu : U4 l) (h : Blk w g 22 (l.map (Value.int .u32)).toArray) : RdN w (some ⟨g, 0, none⟩) l := by
  refine ⟨hu, fun _ => ⟨_, rfl, fun j hj => ?_⟩⟩
  rw [add_plain]
  refine h.cell j ?_
  rw [List.getElem?_toArray, List.getElem?_map, List.getElem?_eq_getElem hj, gd _ _ hj]; rfl
theorem RdN.take {w : World} {A : Option Addr} {l : List Int} (h : RdN w A l) (k : Nat) : RdN w A (l.take k) := by
  refine ⟨fun x hx => h.1 x (List.mem_of_mem_take hx), fun h0 => ?_⟩
  rw [List.length_take] at h0
  obtain ⟨ad, e, hc⟩ := h.2 (by omega)
  refine ⟨ad, e, fun j hj => ?_⟩
  rw [List.length_take] at hj
  rw [hc j (by omega), gd _ _ (by omega : j < l.length), gd _ _ (by rw [List.length_take]; omega : j < (l.take k).length), List.getElem_take]

/-- Nothing that is read lies in the block that turns. -/
theorem RdN.grown {w w' : World} {A : Option Addr} {l : List Int} {row : Option Nat} (h : RdN w A l) (hg : w.grownBy w' row) (hn : ∀ ad, A = some ad → some ad.block ≠ row) : RdN w' A l := by
  refine ⟨h.1, fun h0 => ?_⟩
  obtain ⟨ad, e, hc⟩ := h.2 h0
  refine ⟨ad, e, fun j hj => ?_⟩
  have hk := hc j hj
  have hb : (ad.add j).block = ad.block := by unfold Addr.add; split <;> rfl
  have hlt := World.block_lt_of_cell? w _ hk
  rw [World.cell?_of_block (w := w) (hg.block _ hlt (by rw [hb]; exact hn ad e))]
  exact hk

set_option maxRecDepth 100000 in
set_option maxHeartbeats 2000000 in
theorem repput (w : World) (base : Nat) (v : Value) (l : List Int) (ho : Own w base v l) (A : Option Addr) (c : Nat) (m : List Int) (hr : RdN w A m) (hA : ∀ ad, A = some ad → some ad.block ≠ v.ownBlock)
    (hc : m.length ≤ c) (hl : l.length + 4 * m.length ≤ 1048576) (hbase : base ≤ w.heap.size) :
    Calls Tryd.prog 31 #[v, .slice A m.length c] w fun e w' => ∃ v', e = .returned v' ∧ Own w' base v' (l ++ rw4 m) ∧ w.grownBy w' v.ownBlock ∧ (∀ j, v'.ownBlock = some j → w.heap.size ≤ j ∨ v.ownBlock = some j) := by
  go_enter Tryd.func31, Tryd.ntmps31
  go_wp2
  go_loopw [0, 9] (fun b i wr => ∃ k : Nat, k ≤ m.length ∧ i = .int .i64 k ∧ Own wr base b (l ++ rw4 (m.take k)) ∧ w.grownBy wr v.ownBlock ∧ (∀ j, b.ownBlock = some j → w.heap.size ≤ j ∨ v.ownBlock = some j)) (fun _ i _ => m.length - (intOf i).toNat)
  case atStart => exact ⟨0, Nat.zero_le _, rfl, by simpa [rw4] using ho, World.grownBy.refl _ _, fun j hj => .inr hj⟩
  case round =>
    obtain ⟨k, hk, rfl, hob, hg, hown⟩ := hrel
    have hrr := hr.grown hg hA
    have hsz := hg.size
    by_cases hlt : k < m.length
    · have hkm : (k : Int) < (m.length : Int) := by omega
      obtain ⟨ad, rfl, hcell⟩ := hrr.at_ hlt
      obtain ⟨u0, u1⟩ := hr.1.at_ hlt
      have hst := rw4_take hlt
      have hlen : (l ++ rw4 (m.take k)).length + (be (nth m k) 4).length ≤ 140737488355328 := by rw [List.length_append, rw4_length, List.length_take, be_length]; omega
      generalize nth m k = N at *
      have Hst := Lib.hid hst
      clear hst
      have P1 := fun wx => Put N u0 u1 wx
      go_wp2_with fail
      refine (P1 _).mono ?_
      rintro e w1 ⟨v1, rfl, o1, hx⟩
      have ho1 := hob.below hx
      have hg1 : wr.grownBy w1 none := ⟨hx.os, hx.tape, hx.output, hx.size, fun i hi _ => hx.block i hi⟩
      have hg2 := hg.andThen hg1 (by intro j hj; cases hj)
      have hsz1 := hg1.size
      obtain ⟨A1, d1, rfl, _, _, r1⟩ := o1.form
      rw [be_length]
      clear hx o1 P1
      go_wp2_with (at_builtin; refine wpList_app rfl _ _ rfl rfl _ base _ _ (by rfl) ho1 A1 d1 (be N 4) (by rw [be_length]; rfl) r1 hlen (by omega) ?h2)
      case h2 =>
        intro v' w5 ho5 hg5 hv5
        go_wp2
        refine ⟨⟨k + 1, by omega, by go_num, ?_, ?_, ?_⟩, by simp [intOf]; omega⟩
        · rw [Hst.out]; exact ho5
        · exact hg2.andThen hg5 hown
        · intro j hj
          rcases hv5 with h | h
          · exact hown j (h ▸ hj)
          · rw [h] at hj; cases hj; exact .inl (by omega)
    · have hkm : ¬ (k : Int) < (m.length : Int) := by omega
      obtain rfl : k = m.length := by omega
      rw [List.take_length] at hob
      go_wp2
      go_ret
      exact ⟨_, rfl, hob, hg, hown⟩
end Go.Proofs.YtoodmjdafifbmaaDoor.Hand
