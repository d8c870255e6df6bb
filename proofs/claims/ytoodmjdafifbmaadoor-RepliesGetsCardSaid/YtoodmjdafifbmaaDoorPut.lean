/- What words.put hands back: a slice of the call's own that owns the bytes of a number, the highest first; nothing that lay before has turned. Condition: at most eight bytes are asked for, and the number is one of 64 bits. -/
import Derived.RangeFuncBox
import Derived.RangeFuncNested
import Derived.RangeFuncLeaves
import Derived.Shelf.Abstract
import Derived.WalkKit
import Derived.OwnWalkIn
import Derived.TacticsInMore
import Derived.LoopNIn
import Derived.LoopIn
import Derived.Maps.AppendAt
import Derived.KernelRfl
import Derived.Test.YtoodmjdafifbmaaDoorLib
import Derived.Test.YtoodmjdafifbmaaDoorProg
namespace Go.Proofs.YtoodmjdafifbmaaDoor.Hand
open Go.RowKit Go.Shelf

attribute [local go_sem] Oper.semAt_some

set_option maxHeartbeats 1000000 in
theorem bytes_in (F : Fence) (n : Nat) (hf : F.fn 82) (hro : F.round = none) (a m : Int) (w : World) :
    CallsIn F n Tryd.prog 82 #[.int .u64 a, .int .i64 m] w fun e w' => e = .returned (.func (.func 84) #[] #[.pointer (some ⟨w.heap.size + 1, 0, none⟩), .pointer (some ⟨w.heap.size, 0, none⟩)]) ∧ w' = (w.alloc (.cells #[.int .u64 a] 56)).alloc (.cells #[.int .i64 m] 3) := by
  refine callsIn_of_wp Tryd.func82 rfl hf ?_ hro
  simp only [Tryd.ntmps82, List.size_toArray, List.length_cons, List.length_nil, Nat.reduceAdd, Nat.reduceSub, Array.replicate_succ, Array.replicate_zero, List.push_toArray, List.append_toArray, List.nil_append, List.cons_append]
  gi_wp2
  go_ret
  exact ⟨rfl, rfl⟩

set_option maxRecDepth 100000 in
set_option maxHeartbeats 1000000 in
theorem bytes1_in (F : Fence) (n : Nat) (hf : F.fn 84) (hro : F.round = none) (hn : 1 ≤ n) (l Bn Bm : Nat) (a : Int) (_ha0 : 0 ≤ a) (_ha : a < 18446744073709551616) (m : Nat) (hm : m ≤ 8) (J Jx : List Int → World → Prop)
    (hY : ∀ pre x W, J pre W → pre.length < (be a m).length → YieldAt F (n - 1) Tryd.prog l #[.int .u8 x] W fun e W' =>
      (e = .returned (.bool true) ∧ J (pre ++ [x]) W' ∧ W'.heap[Bn]? = W.heap[Bn]?) ∨ (e = .returned (.bool false) ∧ Jx (pre ++ [x]) W'))
    (W : World) (hBn : W.cell? ⟨Bn, 0, none⟩ = some (.int .u64 a)) (hBm : W.cell? ⟨Bm, 0, none⟩ = some (.int .i64 m)) (h0 : J [] W) :
    CallsIn F n Tryd.prog 84 #[.func (.yield l) #[] #[], .pointer (some ⟨Bm, 0, none⟩), .pointer (some ⟨Bn, 0, none⟩)] W fun e W' => (∃ v, e = .returned v) ∧
      ((∃ ys, ys = be a m ∧ J ys W') ∨ (∃ pre, pre <+: be a m ∧ Jx pre W')) := by
  refine callsIn_of_wp Tryd.func84 rfl hf ?_ hro
  simp only [Tryd.ntmps84, List.size_toArray, List.length_cons, List.length_nil, Nat.reduceAdd, Nat.reduceSub, Array.replicate_succ, Array.replicate_zero, List.push_toArray, List.append_toArray, List.nil_append, List.cons_append]
  gi_wp2
  gi_loopw [4] (fun p wr => ∃ (pre : List Int) (k : Nat), k ≤ 8 ∧ p = .int .i64 ((k : Int) - 1) ∧ be a m = pre ++ be a k ∧ wr.cell? ⟨Bn, 0, none⟩ = some (.int .u64 a) ∧ J pre wr)
    (fun p _ => (intOf p + 1).toNat)
  case atStart => exact ⟨[], m, hm, by simp, rfl, hBn, h0⟩
  case round =>
    obtain ⟨pre, k, hk, rfl, hx, hc, hJs⟩ := hrel
    cases k with
    | zero =>
      gi_wp2
      go_end0
      exact ⟨⟨_, rfl⟩, .inl ⟨pre, by simp [hx, be], hJs⟩⟩
    | succ k =>
      have hlen : pre.length < (be a m).length := by rw [hx]; simp [be]
      obtain ⟨fn, tmps, assign, body, hy, hR⟩ := hY pre (a / 2 ^ (8 * k) % 256) wr hJs hlen
      gi_wp2
      refine hR.mono ?_
      rintro e W3 (⟨rfl, hJ3, hk3⟩ | ⟨rfl, hJx3⟩)
      · have hc3 : W3.cell? ⟨Bn, 0, none⟩ = some (.int .u64 a) := (World.cell?_of_block (a := ⟨Bn, 0, none⟩) hk3).trans hc
        gi_wp2
        go_roundw
        case rel => exact ⟨pre ++ [a / 2 ^ (8 * k) % 256], k, by omega, rfl, by rw [hx]; simp [be], hc3, hJ3⟩
        case measure => simp [intOf]
      · gi_wp2
        refine bodyPost_ret (results_none rfl _ _ _) rfl ?_
        exact ⟨⟨_, rfl⟩, .inr ⟨pre ++ [a / 2 ^ (8 * k) % 256], ⟨be a k, by rw [hx]; simp [be]⟩, hJx3⟩⟩

theorem bytes_stops (F : Fence) (n : Nat) (hf : F.fn 84) (hro : F.round = none) (hn : 1 ≤ n) (Bn Bm : Nat) (a : Int) (ha0 : 0 ≤ a) (ha : a < 18446744073709551616) (m : Nat) (hm : m ≤ 8) (w : World) (hBn : Bn < w.heap.size) (hBm : Bm < w.heap.size)
    (hc : w.cell? ⟨Bn, 0, none⟩ = some (.int .u64 a)) (hd : w.cell? ⟨Bm, 0, none⟩ = some (.int .i64 m)) :
    SeqStopsK F n Tryd.prog 84 #[.pointer (some ⟨Bm, 0, none⟩), .pointer (some ⟨Bn, 0, none⟩)] (fun x : Int => #[Value.int .u8 x]) (fun W W' => W'.heap[Bn]? = W.heap[Bn]?) (fun ys => ys = be a m) (fun pre => pre <+: be a m) (be a m).length w := fun l J Jx W hW _ _ hY h0 =>
  bytes1_in F n hf hro hn l Bn Bm a ha0 ha m hm J Jx hY W ((hW.cell (p := ⟨Bn, 0, none⟩) hBn).trans hc) ((hW.cell (p := ⟨Bm, 0, none⟩) hBm).trans hd) h0

theorem info5 : (Tryd.prog.info? 5).map (fun i => (i.zero, i.size, i.bytes)) = some (some (.int .u8 0), 1, 1) := by kernel_rfl

set_option maxRecDepth 100000 in
set_option maxHeartbeats 2000000 in
theorem put_in (F : Fence) (n : Nat) (h3 : F.fn 79) (h4 : F.fn 82) (h5 : F.fn 84) (hro : F.round = none) (hn : 3 ≤ n) (a : Int) (ha0 : 0 ≤ a) (ha : a < 18446744073709551616) (m : Nat) (hm : m ≤ 8) (w : World) :
    CallsIn F n Tryd.prog 79 #[.int .u64 a, .int .i64 m] w fun e W' => ∃ v, e = .returned v ∧ W'.ownsRow w.heap.size 5 1 v m ((be a m).map (Value.int .u8)) ∧ Below w.heap.size w W' := by
  have h1 : 1 ≤ n := by omega
  obtain ⟨i0, hi, hz0, hz1, hz2⟩ := info_parts info5
  refine callsIn_of_wp_marks Tryd.func79 rfl h3 ?_ hro
  simp only [Tryd.ntmps79, List.size_toArray, List.length_cons, List.length_nil, Nat.reduceAdd, Nat.reduceSub, Array.replicate_succ, Array.replicate_zero, List.push_toArray, List.append_toArray, List.nil_append, List.cons_append]
  gi_wp2_with (gi_at_call 82; refine (bytes_in F (n - 1) h4 hro _ _ _).mono ?_; rintro e w' ⟨rfl, rfl⟩)
  have bO := Boxed.new w 24 (.slice none 0 0)
  have bN := Boxed.new (w.alloc (.cells #[.slice none 0 0] 24)) 56 (.int .u64 a)
  have bM := Boxed.new ((w.alloc (.cells #[.slice none 0 0] 24)).alloc (.cells #[.int .u64 a] 56)) 3 (.int .i64 m)
  simp only [World.size_alloc] at bN bM
  have hB0 : Below w.heap.size w (((w.alloc (.cells #[.slice none 0 0] 24)).alloc (.cells #[.int .u64 a] 56)).alloc (.cells #[.int .i64 m] 3)) := (((Below.refl _ w).alloc (Nat.le_refl _) _).alloc (by simp) _).alloc (by simp; omega) _
  have hbl := be_length a m
  refine wpIn_rangeFunc_ownG hro h1 (gf := 84) (lb := #[.pointer (some ⟨w.heap.size + 1 + 1, 0, none⟩), .pointer (some ⟨w.heap.size + 1, 0, none⟩)]) rfl h5 (enters_of Tryd.func84 (by kernel_rfl) rfl)
    (bytes_stops F (n - 1) h5 hro (by omega) (w.heap.size + 1) (w.heap.size + 1 + 1) a ha0 ha m hm _ (by simp) (by simp) (bN.alloc _).cell bM.cell) (fun h k => k.trans h) (fun W l o o' hl h ho _ => (grownBy_putObj' W l o').block _ (by have := (Array.getElem?_eq_some_iff.1 h).1; simp at hl; omega) (fun e => by cases e; simp at hl; omega)) (Below.refl _ _) (fun _ => rfl)
    (fun pre W => (∃ v, Boxed W w.heap.size 24 v ∧ W.ownsRow w.heap.size 5 1 v pre.length (pre.map (Value.int .u8)) ∧ True) ∧ W.heap[w.heap.size + 1]? = some (.cells #[.int .u64 a] 56 (0, 0)) ∧ Below w.heap.size w W)
    (fun _ _ _ => False)
    (OwnFrom.and (Own.from (holdsRow_own w.heap.size w.heap.size 24 5 1 (fun pre : List Int => pre.length) (fun pre : List Int => pre.map (Value.int .u8)) (fun _ _ => True)) _) (OwnFrom.and (Own.from (boxed_own (w.heap.size + 1) 56 (fun _ => .int .u64 a)) _) (ownFrom_below (Nat.le_refl _) (by simp; omega))))
    (fun _ _ _ _ _ hs _ _ => hs)
    ⟨⟨_, (bO.alloc _).alloc _, World.ownsRow_nil _ _ _ _, trivial⟩, bN.alloc _, hB0⟩
    (fun x => { tmps := #[.int .u64 a, .int .i64 m, undef, undef, .pointer (some ⟨w.heap.size, 0, none⟩), .int .u8 x, .int .u64 a, .int .i64 m, .func (.func 84) #[] #[.pointer (some ⟨w.heap.size + 1 + 1, 0, none⟩), .pointer (some ⟨w.heap.size + 1, 0, none⟩)], .int .u8 x, undef, undef, undef, undef, undef], defers := [] }) ?assign ?body ?done ?stop
  case assign =>
    intro l x W K hK
    gi_wp2
    exact hK
  case body =>
    rintro l pre x W ⟨⟨v, hv, hrow, _⟩, hN, hB⟩ hlt
    have hc := hv.cell
    rw [hbl] at hlt
    gi_wp2_with (gi_at_builtin; refine wpListIn_append_own _ rfl _ _ 24 rfl w.heap.size 5 i0 (.int .u8 0) 1 1 Tryd.underlying24 hi hz0 hz1 hz2 rfl (by decide) _ _ _ rfl (hrow.alloc _) ⟨W.heap.size, 0, none⟩ 1 1 [.int .u8 x] rfl rfl (cell_one_new _ _ _) (by simp [Value.oneCell']) (by unfold maxLen; omega) (by omega) (by have := hB.size; simp; omega) ?_; intro v' w1 hown' hgrow _; obtain ⟨g', cap', rfl⟩ := ownsRow_succ hown'; obtain ⟨hv1, hv2, hr2, hk2, hb2⟩ := hv.appended (by decide) hrow hB.size (Nat.le_refl _) hown' hgrow; have hc1 := hv1.cell; have hf1 := hv1.frozen)
    have hN2 : (w1.setCell ⟨w.heap.size, 0, none⟩ (.slice (some ⟨g', 0, none⟩) (pre.length + 1) cap')).heap[w.heap.size + 1]? = W.heap[w.heap.size + 1]? := by
      have hbN : Boxed W (w.heap.size + 1) 56 (.int .u64 a) := hN
      refine (Below.heap_setCell _ _ _ _ (by simp)).trans ((hgrow.block _ (by have := hbN.lt; simp; omega) (hbN.not_row (by decide) hrow)).trans (Below.heap_alloc _ _ _ hbN.lt))
    exact ⟨hk2.from _, hN2, ⟨_, hv2, by simpa using hr2, trivial⟩, hN2.trans hN, hB.trans hb2⟩
  case done =>
    rintro D ys W hD rfl ⟨⟨v, hv, hrow, _⟩, _, hB⟩ hK
    obtain ⟨A, c, rfl⟩ : ∃ A c, v = .slice A (be a m).length c := by
      rcases hrow.2 with ⟨rfl, h0⟩ | ⟨g, cap, _, rfl, _⟩
      · exact ⟨none, 0, by rw [h0]⟩
      · exact ⟨_, _, rfl⟩
    have hc := hv.cell
    have hf := hv.frozen
    rw [hbl] at hv hrow hc
    gi_wp2
    have hK' := (KeepsOthers.setCell W ⟨w.heap.size, 0, none⟩ (.slice A m c)).same D _ hK rfl
    have hc5 := cell_kept (hv.set (.slice A m c)).cell (grownBy_putObj' _ D (.deferred none)) (fun r e => by cases e; exact ⟨_, hK', rfl⟩)
    have hr2 : (W.setCell ⟨w.heap.size, 0, none⟩ (.slice A m c)).ownsRow w.heap.size 5 1 (.slice A m c) m ((be a m).map (Value.int .u8)) := hrow.kept (grownBy_setCell' W _ _) (.inr (hv.not_row (by decide) hrow).symm)
    refine ⟨by simp, .inl ⟨_, _, rfl, run_takeDeferred hK', ?_⟩⟩
    refine ⟨.slice A m c, ?_, _, rfl, ownsRow_putObj hr2 _ hK' rfl, (hB.setCell (p := ⟨w.heap.size, 0, none⟩) (Nat.le_refl _) _).trans (belowK_b (w := w) (Nat.le_refl _) _ D _ _ (by simp at hD; omega) hK' rfl rfl)⟩
    simp [results, Tryd.f79, go_sem, hc5]
  case stop =>
    rintro D c pre W _ _ h _
    exact h.elim
end Go.Proofs.YtoodmjdafifbmaaDoor.Hand
