/- append(l, more...) onto a slice of numbers of the call's own, the source nil, empty or not: what is owned behind it, and which block has turned. -/
import Derived.Test.YtoodmjdafifbmaaDoorLib
import Derived.Test.YtoodmjdafifbmaaDoorRepNums
namespace Go.Proofs.YtoodmjdafifbmaaDoor.Hand
open Go.RowKit

theorem info32 : (Tryd.prog.info? 22).map (fun i => (i.zero, i.size, i.bytes)) = some (some (.int .u32 0), 1, 4) := by kernel_rfl

/-- A slice of the call's own (its block from base on) that holds the numbers l. -/
def OwnN (w : World) (base : Nat) (v : Value) (l : List Int) : Prop := U4 l ∧ w.ownsRow base 22 1 v l.length (l.map (Value.int .u32))
theorem OwnN.nil (w : World) (base : Nat) : OwnN w base (.slice none 0 0) [] := ⟨fun x hx => (by cases hx), World.ownsRow_nil _ _ _ _⟩
theorem OwnN.below {w w' : World} {base : Nat} {v : Value} {l : List Int} (h : OwnN w base v l) (hb : Below w.heap.size w w') : OwnN w' base v l :=
  ⟨h.1, h.2.kept (row := none) ⟨hb.os, hb.tape, hb.output, hb.size, fun i hi _ => hb.block i hi⟩ (by cases v.ownBlock <;> simp)⟩
theorem OwnN.kept {w w' : World} {base : Nat} {v : Value} {l : List Int} {row : Option Nat} (h : OwnN w base v l) (hg : w.grownBy w' row) (hn : ∀ j, v.ownBlock = some j → row ≠ some j) : OwnN w' base v l :=
  ⟨h.1, h.2.kept hg (by
    cases hv : v.ownBlock with
    | none => simp
    | some j => first | exact fun e => hn j hv e | (intro e; exact hn j hv e.symm) | (intro _ e; exact hn j hv e) | (right; exact fun e => hn j hv e.symm) | (right; exact fun e => hn j hv e))⟩
theorem OwnN.form {w : World} {base : Nat} {v : Value} {l : List Int} (h : OwnN w base v l) : ∃ A c, v = .slice A l.length c ∧ l.length ≤ c ∧ c ≤ maxLen ∧ RdN w A l := by
  rcases h.2.2 with ⟨rfl, h0⟩ | ⟨g, cap, cur, rfl, _, hg, hn, hm, hs, ht⟩
  · obtain rfl : l = [] := List.eq_nil_of_length_eq_zero h0
    exact ⟨none, 0, rfl, by simp, by simp, ⟨h.1, fun h0 => absurd h0 (by simp)⟩⟩
  · refine ⟨_, cap, rfl, hn, hm, h.1, fun _ => ⟨_, rfl, fun j hj => ?_⟩⟩
    rw [add_plain, cell_of_row w g j cur _ (0, 0) hg]
    have e : (cur.toList.take (l.length * 1))[j]? = (l.map (Value.int .u32))[j]? := by rw [ht]
    rw [List.getElem?_take, if_pos (by omega), Array.getElem?_toList, List.getElem?_map, List.getElem?_eq_getElem hj] at e
    rw [e, gd _ _ hj]; rfl
theorem OwnN.after {W w1 : World} {base : Nat} {v v' : Value} {l m : List Int} (h : OwnN W base v l) (hm : U4 m) (ho : w1.ownsRow base 22 1 v' (l.length + m.length) (l.map (Value.int .u32) ++ m.map (Value.int .u32))) : OwnN w1 base v' (l ++ m) :=
  ⟨fun x hx => (List.mem_append.1 hx).elim (h.1 x) (hm x), by rw [List.length_append, List.map_append]; exact ho⟩
theorem OwnN.base {w : World} {base : Nat} {v : Value} {l : List Int} (h : OwnN w base v l) : ∀ k, v.ownBlock = some k → base ≤ k := fun k hk => (h.2.lt k hk).1
/-- Its block is one of cells. -/
theorem OwnN.cells {w : World} {base : Nat} {v : Value} {l : List Int} (h : OwnN w base v l) {j : Nat} (hj : v.ownBlock = some j) : ∃ cs, w.heap[j]? = some (.cells cs 22 (0, 0)) := by
  rcases h.2.2 with ⟨rfl, _⟩ | ⟨g', cap, cur, rfl, _, hh, _⟩
  · simp [Value.ownBlock] at hj
  · have : g' = j := by simpa [Value.ownBlock] using hj
    subst this
    exact ⟨_, hh⟩

theorem run_appendN_of_nil (w : World) (base : Nat) (v : Value) (n : Nat) (xs : List Value) (hown : w.ownsRow base 22 1 v n xs) (c : Nat) : (Builtin.append_ #[66, 66] 66 #[v, .slice none 0 c]).run Tryd.prog w = .ok v w := by
  obtain ⟨i, hi, hz0, hz1, hz2⟩ := info_parts info32
  rcases hown.2 with ⟨rfl, rfl⟩ | ⟨g, cap, cur, rfl, _, _, hnc, _⟩
  · simp [Builtin.append_, run_underlying Tryd.underlying66, sizeOf, typeInfo, hi, Builtin.lenOf, Builtin.firstCells]
  · simp [Builtin.append_, run_underlying Tryd.underlying66, sizeOf, typeInfo, hi, Builtin.lenOf, Builtin.firstCells, hnc, storeCells]

theorem run_appendN (w : World) (base : Nat) (v : Value) (l : List Int) (ho : OwnN w base v l) (A : Option Addr) (c : Nat) (m : List Int) (hr : RdN w A m) (h : l.length + m.length ≤ 35184372088832) (hbase : base ≤ w.heap.size) :
    ∃ v' w', (Builtin.append_ #[66, 66] 66 #[v, .slice A m.length c]).run Tryd.prog w = .ok v' w' ∧ OwnN w' base v' (l ++ m) ∧ w.grownBy w' v.ownBlock ∧ (v'.ownBlock = v.ownBlock ∨ v'.ownBlock = some w.heap.size) := by
  obtain ⟨i, hi, hz0, hz1, hz2⟩ := info_parts info32
  rcases A with _ | ad
  · have hm : m = [] := by
      rcases Nat.eq_zero_or_pos m.length with h0 | h0
      · exact List.eq_nil_of_length_eq_zero h0
      · obtain ⟨ad, e, _⟩ := hr.2 h0
        cases e
    subst hm
    exact ⟨v, w, run_appendN_of_nil w base v _ _ ho.2 c, by simpa using ho, World.grownBy.refl w _, .inl rfl⟩
  · have hcells : ∀ j u, (m.map (Value.int .u32))[j]? = some u → w.cell? (ad.add j) = some u := by
      intro j u hu
      rw [List.getElem?_map] at hu
      by_cases hj : j < m.length
      · obtain ⟨ad', e, hc⟩ := hr.at_ hj
        cases e
        rw [List.getElem?_eq_getElem hj, ← gd _ _ hj] at hu
        rw [hc]
        exact hu
      · rw [List.getElem?_eq_none (by omega)] at hu
        cases hu
    obtain ⟨v', w', hrun, h2, h3, _, h5⟩ := run_append_own_at (P := Tryd.prog) w base 66 66 22 i (.int .u32 0) 1 4 Tryd.underlying66 hi hz0 hz1 hz2 rfl (by decide) v l.length _ ho.2 ad m.length c (m.map (Value.int .u32)) (by simp) hcells (by
      intro u hu
      obtain ⟨x, _, rfl⟩ := List.mem_map.1 hu
      rfl) (by unfold maxLen; omega) (by omega) hbase
    exact ⟨v', w', hrun, ho.after hr.1 h2, h3, h5⟩

section
variable {o : Oper} {a : Act}
theorem wp_appN {K : Act → World → Prop} {Q : Exit → Act → World → Prop} (s x : Operand)
    (ho : o.op = .call { callee := .builtin .append, args := #[s, x], argTypes := #[66, 66] }) (ht : o.type = 66)
    (w : World) (base : Nat) (v : Value) (l : List Int) (hs : a.eval s = v) (hown : OwnN w base v l) (A : Option Addr) (c : Nat) (m : List Int) (hx : a.eval x = .slice A m.length c) (hr : RdN w A m)
    (hlen : l.length + m.length ≤ 35184372088832) (hbase : base ≤ w.heap.size)
    (h : ∀ v' w', OwnN w' base v' (l ++ m) → w.grownBy w' v.ownBlock → (v'.ownBlock = v.ownBlock ∨ v'.ownBlock = some w.heap.size) → K (a.put o.dst v') w') : o.wp Tryd.prog a w K Q := by
  obtain ⟨v', w', hrun, h2, h3, h4⟩ := run_appendN w base v l hown A c m hr hlen hbase
  unfold Oper.wp execOp
  simp only [ho, ht, resolve, invoke, builtin, Sem.run_bind, Sem.run_pure, Result.andThen_ok, List.map_toArray, List.map_cons, List.map_nil, hs, hx, hrun]
  exact h v' w' h2 h3 h4

theorem wpList_appN {ops : Array Oper} {rest : List Oper} {Q : Exit → Act → World → Prop} (hgd : o.guard = none) (s x : Operand)
    (ho : o.op = .call { callee := .builtin .append, args := #[s, x], argTypes := #[66, 66] }) (ht : o.type = 66)
    (w : World) (base : Nat) (v : Value) (l : List Int) (hs : a.eval s = v) (hown : OwnN w base v l) (A : Option Addr) (c : Nat) (m : List Int) (hx : a.eval x = .slice A m.length c) (hr : RdN w A m)
    (hlen : l.length + m.length ≤ 35184372088832) (hbase : base ≤ w.heap.size)
    (h : ∀ v' w', OwnN w' base v' (l ++ m) → w.grownBy w' v.ownBlock → (v'.ownBlock = v.ownBlock ∨ v'.ownBlock = some w.heap.size) → wpList Tryd.prog ops Q rest (a.put o.dst v') w') : wpList Tryd.prog ops Q (o :: rest) a w :=
  wpList_plain hgd fun _ hK => wp_appN s x ho ht w base v l hs hown A c m hx hr hlen hbase fun v' w' h2 h3 h4 => hK _ _ (h v' w' h2 h3 h4)
end
end Go.Proofs.YtoodmjdafifbmaaDoor.Hand
