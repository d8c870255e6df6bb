/- The map of all replies' rows, or of some of them: what it has, how many, what stands at a key, and without one. -/
import Derived.Maps.OwnSet
import Derived.Test.YtoodmjdafifbmaaDoorRepRows
namespace Go.Proofs.YtoodmjdafifbmaaDoor.Hand
open Go.RowKit
open Go.Maps (Keyed)

def keysL : List Int := [0, 1, 2, 3, 4, 100, 101]
/-- The numbers behind the second one that stand fast. -/
def fixedOf (k : Int) : List Int := if k = 100 then [1, 0] else if k = 101 then [1, 1] else [0, 0, 0, k]
/-- How many are told. -/
def toldOf (k : Int) : Int := if k = 2 ∨ k = 100 then 2 else if k = 101 then 1 else 0
def ixOf (k : Int) : Nat := if k < 5 then k.toNat else (k - 95).toNat
def rowK (g : Nat → Nat) (k : Int) : Value := rowV (g (ixOf k)) (fixedOf k).length (toldOf k) (decide (k = 0))
/-- The rows of those keys that p lets in. -/
def mapP (g : Nat → Nat) (p : Int → Bool) : DataW Value := .map ((keysL.filter p).map fun k => (.int .u32 k, .held (rowK g k)))
def rowZ : Value := .agg #[.slice none 0 0, .int .i64 0, .bool false]

theorem has_mapP (g : Nat → Nat) (p : Int → Bool) (x : Int) : Maps.has (mapP g p) (.int .u32 x) = decide (x ∈ keysL.filter p) := by
  rw [Bool.eq_iff_iff]
  simp [mapP, Maps.has, Lit.sameKey]
theorem size_mapP (g : Nat → Nat) (p : Int → Bool) : Maps.size (mapP g p) = (keysL.filter p).length := by simp [mapP, Maps.size]
theorem atKey_keys (g : Nat → Nat) (x : Int) (z : DataW Value) : ∀ ks : List Int, (DataW.map (ks.map fun k => (Lit.int .u32 k, DataW.held (rowK g k)))).atKey (.int .u32 x) z = if x ∈ ks then .held (rowK g x) else z
  | [] => rfl
  | k :: ks => by
    have ih := atKey_keys g x z ks
    unfold DataW.atKey at ih ⊢
    simp only [List.map_cons, List.find?_cons]
    by_cases h : k = x
    · subst h
      simp [Lit.sameKey]
    · have h' : ¬ x = k := fun e => h e.symm
      have e1 : (Lit.int .u32 k).sameKey (.int .u32 x) = false := by simp [Lit.sameKey, h]
      simp only [e1, List.mem_cons, h', false_or]
      exact ih
theorem atKey_mapP (g : Nat → Nat) (p : Int → Bool) (x : Int) (z : DataW Value) : (mapP g p).atKey (.int .u32 x) z = if x ∈ keysL.filter p then .held (rowK g x) else z := atKey_keys g x z _
theorem del_mapP (g : Nat → Nat) (p : Int → Bool) (x : Int) : (mapP g p).del (.int .u32 x) = mapP g (fun k => p k && decide (k ≠ x)) := by
  unfold mapP DataW.del
  simp only [List.filter_map, List.filter_filter]
  congr 2
  refine List.filter_congr fun k _ => ?_
  simp [Lit.sameKey, Bool.and_comm]
theorem mapP_congr (g : Nat → Nat) {p q : Int → Bool} (h : ∀ k ∈ keysL, p k = q k) : mapP g p = mapP g q := by
  unfold mapP
  rw [List.filter_congr h]

/-- Block b of w is the map of the rows that p lets in, whose numbers stand at the blocks g. -/
def MapAt (w : World) (b : Nat) (g : Nat → Nat) (p : Int → Bool) : Prop := w.ownsMap Tryd.prog 23 asSelf b 7 (mapP g p)
/-- The rows' numbers. -/
def NumsAt (w : World) (g : Nat → Nat) : Prop := ∀ k ∈ keysL, Blk w (g (ixOf k)) 22 ((fixedOf k).map (Value.int .u32)).toArray

theorem keyed_u32 {x : Int} (h : 0 ≤ x) (h' : x < 4294967296) : keyOf Tryd.prog 23 (.int .u32 x) = some (.int .u32 x) :=
  Go.Maps.keyOf_int_mk Tryd.underlying23 (by
    have e1 : IntKind.u32.min = 0 := rfl
    have e2 : IntKind.u32.max = 4294967295 := rfl
    show (decide (IntKind.u32.min ≤ x) && decide (x ≤ IntKind.u32.max)) = true
    rw [e1, e2, decide_eq_true h, decide_eq_true (by omega : x ≤ 4294967295)]; rfl)
set_option maxRecDepth 100000 in
theorem zero_row (w : World) : (zeroValue 68).run Tryd.prog w = .ok rowZ w := by rfl

set_option maxRecDepth 100000 in
theorem look2 {w : World} {b : Nat} {g : Nat → Nat} {p : Int → Bool} (h : MapAt w b g p) {x : Int} (h0 : 0 ≤ x) (h1 : x < 4294967296) :
    (Instr.lookup 70 (.map (some b)) (.int .u32 x) true).run Tryd.prog w = .ok (.tuple #[if x ∈ keysL.filter p then rowK g x else rowZ, .bool (decide (x ∈ keysL.filter p))]) w := by
  obtain ⟨v, ps, hrun, hv⟩ := World.ownsMap.look_ok h keyA Tryd.underlying70 (zero_row w) (zd := .held rowZ) (zp := []) rfl (keyed_u32 h0 h1)
  rw [hrun, has_mapP]
  rw [atKey_mapP] at hv
  have hv' : v = if x ∈ keysL.filter p then rowK g x else rowZ := by
    unfold asSelf at hv
    split at hv <;> rename_i hx
    · rw [if_pos hx]; injection hv with hv; injection hv with hv _; injection hv
    · rw [if_neg hx]; injection hv with hv; injection hv with hv _; injection hv
  rw [hv']
set_option maxRecDepth 100000 in
theorem look1 {w : World} {b : Nat} {g : Nat → Nat} {p : Int → Bool} (h : MapAt w b g p) {x : Int} (h0 : 0 ≤ x) (h1 : x < 4294967296) :
    (Instr.lookup 70 (.map (some b)) (.int .u32 x) false).run Tryd.prog w = .ok (if x ∈ keysL.filter p then rowK g x else rowZ) w := by
  obtain ⟨v, ps, hrun, hv⟩ := World.ownsMap.lookup h keyA Tryd.underlying70 (zero_row w) (zd := .held rowZ) (zp := []) rfl (keyed_u32 h0 h1)
  rw [hrun]
  rw [atKey_mapP] at hv
  have hv' : v = if x ∈ keysL.filter p then rowK g x else rowZ := by
    unfold asSelf at hv
    split at hv <;> rename_i hx
    · rw [if_pos hx]; injection hv with hv; injection hv with hv _; injection hv
    · rw [if_neg hx]; injection hv with hv; injection hv with hv _; injection hv
  rw [hv']

theorem MapAt.below {w w' : World} {b : Nat} {g : Nat → Nat} {p : Int → Bool} (h : MapAt w b g p) (hb : Below w.heap.size w w') : MapAt w' b g p :=
  World.ownsMap.kept (row := none) h ⟨hb.os, hb.tape, hb.output, hb.size, fun i hi _ => hb.block i hi⟩ (by simp)
theorem NumsAt.below {w w' : World} {g : Nat → Nat} (h : NumsAt w g) (hb : Below w.heap.size w w') : NumsAt w' g := fun k hk => (h k hk).below hb

theorem rows_all (w : World) : Calls Tryd.prog 29 #[] w fun e w' => ∃ b g, e = .returned (.map (some b)) ∧ w.heap.size ≤ b ∧ (∀ k ∈ keysL, b < g (ixOf k)) ∧ MapAt w' b g (fun _ => true) ∧ NumsAt w' g ∧ Below w.heap.size w w' := by
  refine (rows_ w).mono ?_
  rintro e w' ⟨b, g, rfl, hb, hg, ⟨hm, h0, h1, h2, h3, h4, h5, h6⟩, hB⟩
  refine ⟨b, g, rfl, hb, ?_, hm, ?_, hB⟩
  · intro k hk
    simp only [keysL, List.mem_cons, List.not_mem_nil, or_false] at hk
    rcases hk with rfl | rfl | rfl | rfl | rfl | rfl | rfl <;> exact hg _ (by decide)
  · intro k hk
    simp only [keysL, List.mem_cons, List.not_mem_nil, or_false] at hk
    rcases hk with rfl | rfl | rfl | rfl | rfl | rfl | rfl
    · exact h0
    · exact h1
    · exact h2
    · exact h3
    · exact h4
    · exact h5
    · exact h6
end Go.Proofs.YtoodmjdafifbmaaDoor.Hand
