/- append(b, more...) onto a slice of bytes that has no room left, whoever owns it: a new row of the call's own. -/
import Derived.Laws.Append
import Derived.Lib.SmallJoins
import Derived.Test.YtoodmjdafifbmaaDoorApp
namespace Go.Proofs.YtoodmjdafifbmaaDoor.Hand
open Go.RowKit
set_option linter.unusedVariables false

theorem rd_cells {w : World} {ad : Addr} {m : List Int} (hr : Rd w (some ad) m) : ∀ j u, (m.map (Value.int .u8))[j]? = some u → w.cell? (ad.add j) = some u := by
  intro j u hu
  rw [List.getElem?_map] at hu
  by_cases hj : j < m.length
  · obtain ⟨ad', e, hc⟩ := hr.at_ hj
    cases e
    rw [List.getElem?_eq_getElem hj, ← gd _ _ hj] at hu
    rw [hc]
    exact hu
  · rw [List.getElem?_eq_none (by omega)] at hu
    cases hu
theorem run_append_full (w : World) (b : Addr) (l : List Int) (hb : Rd w (some b) l) (A : Option Addr) (c : Nat) (m : List Int) (hr : Rd w A m) (hm : 0 < m.length) (h : l.length + m.length ≤ 140737488355328) :
    ∃ v' w', (Builtin.append_ #[24, 24] 24 #[.slice (some b) l.length l.length, .slice A m.length c]).run Tryd.prog w = .ok v' w' ∧ Own w' w.heap.size v' (l ++ m) ∧ Below w.heap.size w w' := by
  obtain ⟨i, hi, hz0, hz1, hz2⟩ := info_parts info8
  have hs1 : i.size = 1 := hz1
  have hb1 : i.bytes = 1 := hz2
  obtain ⟨ad, rfl, _⟩ := hr.2 hm
  have hlt : l.length < l.length + m.length := by omega
  have hrun := run_append_grow (P := Tryd.prog) w 24 24 5 i (.int .u8 0) Tryd.underlying24 hi hz0 b l.length l.length (l.map (Value.int .u8)) (by simp [hs1]) (rd_cells hb) ad m.length c (m.map (Value.int .u8)) (by simp [hs1]) (rd_cells hr) hlt (by omega) (growslice_fits hlt (by rw [hb1]; omega))
  have hge := grownCap_ge w (l.length + m.length) l.length 5
  have hcm := grownCap_le_maxLen w (l.length + m.length) l.length 5 (by unfold maxLen; omega)
  generalize grownCap w (l.length + m.length) l.length 5 = G at *
  refine ⟨_, _, hrun, ⟨hb.1.append hr.1, by simp, .inr ⟨w.heap.size, G, _, by simp, Nat.le_refl _, heap_alloc_new w.drew _, by simp; omega, hcm, ?_, ?_⟩⟩, (Below.refl _ w).trans ((below_drewN (Below.refl _ w) 1).alloc (Nat.le_refl _) _)⟩
  · simp only [Array.size_append, List.size_toArray, size_zeroCells, List.length_map, show (Value.int IntKind.u8 0).cells.size = 1 from rfl]
    omega
  · simp only [Array.toList_append]
    rw [List.map_append, Nat.mul_one, show (l ++ m).length = (l.map (Value.int .u8) ++ m.map (Value.int .u8)).length from by simp]
    exact List.take_left

section
variable {o : Oper} {a : Act}
theorem wpList_full {ops : Array Oper} {rest : List Oper} {Q : Exit → Act → World → Prop} (hgd : o.guard = none) (s x : Operand)
    (ho : o.op = .call { callee := .builtin .append, args := #[s, x], argTypes := #[24, 24] }) (ht : o.type = 24)
    (w : World) (b : Addr) (l : List Int) (hs : a.eval s = .slice (some b) l.length l.length) (hb : Rd w (some b) l) (A : Option Addr) (c : Nat) (m : List Int) (hx : a.eval x = .slice A m.length c) (hr : Rd w A m) (hm : 0 < m.length)
    (hlen : l.length + m.length ≤ 140737488355328)
    (h : ∀ v' w', Own w' w.heap.size v' (l ++ m) → Below w.heap.size w w' → wpList Tryd.prog ops Q rest (a.put o.dst v') w') : wpList Tryd.prog ops Q (o :: rest) a w :=
  wpList_plain hgd fun _ hK => by
    obtain ⟨v', w', hrun, h2, h3⟩ := run_append_full w b l hb A c m hr hm hlen
    unfold Oper.wp execOp
    simp only [ho, ht, resolve, invoke, builtin, Sem.run_bind, Sem.run_pure, Result.andThen_ok, List.map_toArray, List.map_cons, List.map_nil, hs, hx, hrun]
    exact hK _ _ (h v' w' h2 h3)
end
end Go.Proofs.YtoodmjdafifbmaaDoor.Hand
