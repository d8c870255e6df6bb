/- append(b, make([]byte, k)...) onto a slice of bytes of the call's own that is not empty. -/
import Derived.Lib.AppendZerosOnto
import Derived.Test.YtjmganppgojdhaaApp
namespace Go.Proofs.Ytjmganppgojdhaa.Hand
open Go.RowKit
set_option linter.unusedVariables false
set_option linter.unusedSimpArgs false

theorem zeros_toList (k : Nat) : (Builtin.zeroCells (Value.int .u8 0).cells k).toList = (List.replicate k (0 : Int)).map (Value.int .u8) := by
  apply List.ext_getElem
  · simp [Builtin.zeroCells, Value.cells]
  · intro n h1 h2
    simp [Builtin.zeroCells, Value.cells, Nat.mod_one]

/-- append(nil, some bytes..) as the walk reckons it. -/
theorem Own.padded (w : World) (l : List Int) (hl : Bs l) (G : Nat) (hG : l.length ≤ G) (hM : G ≤ maxLen) :
    Own (w.alloc (.cells ((l.map (Value.int .u8)).toArray ++ Builtin.zeroCells #[.int .u8 0] (G - l.length)) 5)) w.heap.size (.slice (some ⟨w.heap.size, 0, none⟩) l.length G) l := by
  refine ⟨hl, ?_⟩
  refine ⟨by simp, .inr ⟨w.heap.size, G, _, rfl, Nat.le_refl _, heap_alloc_new w _, hG, hM, ?_, ?_⟩⟩
  · simp [size_zeroCells]
    omega
  · simp
theorem Own.undrew {w : World} {base : Nat} {v : Value} {l : List Int} (h : Own w base v l) : Own w.drew base v l := h

theorem run_append_zeros (w : World) (base : Nat) (v : Value) (l : List Int) (ho : Own w base v l) (k : Nat) (h : l.length + k ≤ 140737488355328) (hl : 0 < l.length) (hbase : base ≤ w.heap.size) :
    ∃ v' w', (Builtin.append_ #[22, 3] 22 #[v, .int .i64 k]).run Try.prog w = .ok v' w' ∧ Own w' base v' (l ++ List.replicate k 0) ∧ w.grownBy w' v.ownBlock := by
  obtain ⟨i, hi, hz0, hz1, hz2⟩ := info_parts info8
  have hbs : Bs (l ++ List.replicate k 0) := ho.1.append (fun x hx => by rw [(List.mem_replicate.1 hx).2]; omega)
  have hown := ho.2
  rcases hown.2 with ⟨rfl, h0⟩ | ⟨g, cap, cur, rfl, hbg, hg, hnc, hcm, hcs, htake⟩
  · omega
  · have hlm : (l.map (Value.int .u8)).length = l.length := by simp
    by_cases hroom : l.length + k ≤ cap
    · have hst := run_storeCells_at Try.prog g l.length 5 ((List.replicate k (0 : Int)).map (Value.int .u8)) 0 cur w hg (by simp; omega) (by intro u hu; obtain ⟨x, _, rfl⟩ := List.mem_map.1 hu; rfl)
      simp only [Nat.add_zero] at hst
      have hr : (Builtin.append_ #[22, 3] 22 #[.slice (some ⟨g, 0, none⟩) l.length cap, .int .i64 k]).run Try.prog w = .ok (.slice (some ⟨g, 0, none⟩) (l.length + k) cap) (w.setRow g (cur.toList.take l.length ++ (List.replicate k (0 : Int)).map (Value.int .u8) ++ cur.toList.drop (l.length + ((List.replicate k (0 : Int)).map (Value.int .u8)).length)).toArray) := by
        have hw : IntKind.i64.wrap (k : Int) = k := by rw [IntKind.wrap_i64]; omega
        have hneg : ¬ ((k : Int) < 0) := by omega
        have h48 : ¬ ((281474976710656 : Int) < (k : Int) * (i.bytes : Int)) := by rw [hz2]; omega
        have hz := zeros_toList k
        by_cases hk : k = 0
        · subst hk
          simp at hst
          simp [Builtin.append_, run_underlying Try.underlying22, run_underlying Try.underlying3, sizeOf, typeInfo, zeroValue, hi, hz0, hz1, hz2, asInt, asIntOf, show IntKind.i64.wrap 0 = 0 from rfl, hnc, Addr.add_lit, hst]
        · simp [Builtin.append_, run_underlying Try.underlying22, run_underlying Try.underlying3, sizeOf, typeInfo, zeroValue, hi, hz0, hz1, hz2, asInt, asIntOf, hw, hneg, hk, hroom, Addr.add_lit]
          rw [if_neg (by omega), zeros_toList, hst]
          simp
      refine ⟨_, _, hr, ⟨hbs, ?_⟩, ⟨rfl, rfl, rfl, by simp, fun j _ hk => setRow_other w g j _ (fun e => hk (by simp [Value.ownBlock, e]))⟩⟩
      rw [List.length_append, List.length_replicate]
      refine ⟨by simp, .inr ⟨g, cap, _, rfl, hbg, setRow_heap w g cur _ _ _ hg, hroom, hcm, ?_, ?_⟩⟩
      · simp
        omega
      · rw [show l.length * 1 = l.length from by omega] at htake
        simp only [List.append_assoc]
        rw [htake, List.map_append, ← List.append_assoc]
        exact List.take_left' (by simp)
    · have holds : ∀ j u, (l.map (Value.int .u8))[j]? = some u → w.cell? ((⟨g, 0, none⟩ : Addr).add j) = some u := hown.cells (g := g) rfl
      have hold : (Builtin.firstCells i.size l.length (.slice (some ⟨g, 0, none⟩) l.length cap)).run Try.prog w.drew = .ok (l.map (Value.int .u8)).toArray w.drew := run_firstCells_some w.drew i.size l.length ⟨g, 0, none⟩ l.length cap (l.map (Value.int .u8)) (by simp [hz1]) holds
      have hr := Lib.run_append_grow_zeros (P := Try.prog) w 22 3 22 5 i (.int .u8 0) .i64 .i64 Try.underlying22 Try.underlying3 hi hz0 (some ⟨g, 0, none⟩) l.length cap _ hold k (by omega) (by omega) (by omega) (by omega) (by rw [hz2]; omega) (growslice_fits (by omega) (by rw [hz2]; omega))
      have hG := grownCap_ge w (l.length + k) cap 5
      have hM := grownCap_le_maxLen w (l.length + k) cap 5 (by unfold maxLen; omega)
      generalize grownCap w (l.length + k) cap 5 = G at *
      refine ⟨_, _, hr, ⟨hbs, ?_⟩, ⟨rfl, rfl, rfl, by simp, fun j hj _ => heap_alloc_old w.drew _ hj⟩⟩
      rw [List.length_append, List.length_replicate]
      refine ⟨by simp, .inr ⟨w.heap.size, G, _, rfl, hbase, heap_alloc_new w.drew _, hG, hM, ?_, ?_⟩⟩
      · simp [size_zeroCells, Value.cells]
        omega
      · simp only [Array.toList_append, zeros_toList]
        rw [List.map_append]
        exact List.take_left' (by simp)

theorem wpList_zeros {ops : Array Oper} {rest : List Oper} {o : Oper} {a : Act} {Q : Exit → Act → World → Prop} (hgd : o.guard = none) (s x : Operand)
    (ho : o.op = .call { callee := .builtin .append, args := #[s, x], argTypes := #[22, 3] }) (ht : o.type = 22)
    (w : World) (base : Nat) (v : Value) (l : List Int) (hs : a.eval s = v) (hown : Own w base v l) (k : Nat) (hx : a.eval x = .int .i64 k)
    (hlen : l.length + k ≤ 140737488355328) (hl : 0 < l.length) (hbase : base ≤ w.heap.size)
    (h : ∀ v' w', Own w' base v' (l ++ List.replicate k 0) → w.grownBy w' v.ownBlock → wpList Try.prog ops Q rest (a.put o.dst v') w') : wpList Try.prog ops Q (o :: rest) a w := by
  obtain ⟨v', w', hr, h2, h3⟩ := run_append_zeros w base v l hown k hlen hl hbase
  exact Lib.wpList_append_run w hgd s x _ _ ho _ _ hs hx v' w' (by rw [ht]; exact hr) (h v' w' h2 h3)
end Go.Proofs.Ytjmganppgojdhaa.Hand
