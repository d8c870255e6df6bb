/- What replies.get does, in plain words; the laws of the rows' map under a range. -/
import Derived.Maps.RangeWalk
import Derived.Test.YtoodmjdafifbmaaDoorRepMap
import Derived.Test.YtoodmjdafifbmaaDoorAppN
namespace Go.Proofs.YtoodmjdafifbmaaDoor.Hand
open Go.RowKit
open Go.Maps (Keyed)

/-- As far as both go, alike. -/
def agree : List Int → List Int → Bool
  | [], _ => true
  | _ :: _, [] => true
  | x :: xs, y :: ys => decide (x = y) && agree xs ys
theorem agree_nil (xs : List Int) : agree xs [] = true := by cases xs <;> rfl
theorem agree_snoc (n : Int) : ∀ xs ys : List Int, agree xs (ys ++ [n]) = (agree xs ys && (decide (¬ ys.length < xs.length) || decide (nth xs ys.length = n)))
  | [], ys => by simp [agree]
  | x :: xs, [] => by
    rw [List.nil_append, agree, agree, agree_nil, List.length_nil, nth_cons0, decide_eq_false (by simp : ¬ ¬ 0 < (x :: xs).length), Bool.and_true, Bool.false_or, Bool.true_and]
  | x :: xs, y :: ys => by
    rw [List.cons_append, agree, agree, agree_snoc n xs ys, List.length_cons, List.length_cons, nth_cons, Bool.and_assoc]
    simp
/-- The row at k fits numbers. -/
def fits (l : List Int) (k : Int) : Bool := agree (fixedOf k) (l.drop 2)
def keysOf (l : List Int) : List Int := keysL.filter (fits l)
/-- One number more (not before the third one): which rows still fit. -/
def fitAt (i : Nat) (n k : Int) : Bool := decide (¬ i < (fixedOf k).length) || decide (nth (fixedOf k) i = n)
theorem fits_snoc {l : List Int} (h : 2 ≤ l.length) (n k : Int) : fits (l ++ [n]) k = (fits l k && fitAt (l.length - 2) n k) := by
  unfold fits fitAt
  rw [List.drop_append_of_le_length h, agree_snoc, List.length_drop]
theorem fits_early {l : List Int} (h : l.length ≤ 2) (k : Int) : fits l k = true := by
  unfold fits
  rw [List.drop_eq_nil_of_le h]
  cases fixedOf k <;> rfl

inductive GR | ok (how : Int) (l : List Int) | no (err : Int)
/-- The row that is alone and whole. -/
def doneKey (l : List Int) : Option Int := match keysOf l with
  | [x] => if (l.length : Int) = 2 + (fixedOf x).length + toldOf x then some x else none
  | _ => none
/-- What replies.get tells. -/
def runG : Nat → List Int → List Int → GR
  | 0, _, _ => .no 4
  | f + 1, l, r => match doneKey l with
    | some x => .ok x l
    | none => if r.length < 4 then .no 4 else if l.length = 1 ∧ num r 4 ≠ 1 then .no 5
      else if keysOf (l ++ [num r 4]) = [] ∨ (keysOf (l ++ [num r 4]) = [101] ∧ l.length = 4 ∧ ¬ (1 ≤ num r 4 ∧ num r 4 ≤ 7)) then .no 5
      else runG f (l ++ [num r 4]) (r.drop 4)
theorem runG_done {f : Nat} {l r : List Int} {x : Int} (h : doneKey l = some x) : runG (f + 1) l r = .ok x l := by rw [runG, h]
theorem runG_short {f : Nat} {l r : List Int} (h : doneKey l = none) (hr : r.length < 4) : runG (f + 1) l r = .no 4 := by rw [runG, h]; simp only []; rw [if_pos hr]
theorem runG_two {f : Nat} {l r : List Int} (h : doneKey l = none) (hr : ¬ r.length < 4) (h2 : l.length = 1 ∧ num r 4 ≠ 1) : runG (f + 1) l r = .no 5 := by rw [runG, h]; simp only []; rw [if_neg hr, if_pos h2]
theorem runG_none {f : Nat} {l r : List Int} (h : doneKey l = none) (hr : ¬ r.length < 4) (h2 : ¬ (l.length = 1 ∧ num r 4 ≠ 1)) (h3 : keysOf (l ++ [num r 4]) = [] ∨ (keysOf (l ++ [num r 4]) = [101] ∧ l.length = 4 ∧ ¬ (1 ≤ num r 4 ∧ num r 4 ≤ 7))) : runG (f + 1) l r = .no 5 := by
  rw [runG, h]; simp only []; rw [if_neg hr, if_neg h2, if_pos h3]
theorem runG_on {f : Nat} {l r : List Int} (h : doneKey l = none) (hr : ¬ r.length < 4) (h2 : ¬ (l.length = 1 ∧ num r 4 ≠ 1)) (h3 : ¬ (keysOf (l ++ [num r 4]) = [] ∨ (keysOf (l ++ [num r 4]) = [101] ∧ l.length = 4 ∧ ¬ (1 ≤ num r 4 ∧ num r 4 ≤ 7)))) : runG (f + 1) l r = runG f (l ++ [num r 4]) (r.drop 4) := by
  rw [runG, h]; simp only []; rw [if_neg hr, if_neg h2, if_neg h3]

/-! ### the map, while it is ranged over -/
def MapIt (w : World) (b r : Nat) (g : Nat → Nat) (p : Int → Bool) (left : Lit → Bool) (cnt : Nat) : Prop := w.ranges Tryd.prog 23 asSelf b r 7 (mapP g p) left cnt
theorem MapIt.owns {w : World} {b r : Nat} {g : Nat → Nat} {p : Int → Bool} {left : Lit → Bool} {cnt : Nat} (h : MapIt w b r g p left cnt) : MapAt w b g p := World.ranges.owns h
def rowAgg (g : Nat → Nat) (x : Int) : Value := .agg #[.slice (some ⟨g (ixOf x), 0, none⟩) (fixedOf x).length (fixedOf x).length, .int .i64 (toldOf x), .bool (decide (x = 0))]
theorem rowK_agg (g : Nat → Nat) (x : Int) : rowK g x = rowAgg g x := rfl

section
variable (w : World) {ops : Array Oper} {rest : List Oper} {o : Oper} {a : Act} {Q : Exit → Act → World → Prop}
set_option maxRecDepth 100000 in
theorem wpList_range_rows (hg : o.guard = none) (m : Operand) (hop : o.op = Op.range 70 m) (b : Nat) (g : Nat → Nat) (p : Int → Bool)
    (hm : a.eval m = .map (some b)) (hown : MapAt w b g p)
    (hK : ∀ w', MapIt w' b w.heap.size g p (fun k => Maps.has (mapP g p) k) (keysL.filter p).length → w.grownBy w' none → w'.heap.size = w.heap.size + 1 → wpList Tryd.prog ops Q rest (a.put o.dst (.pointer (some ⟨w.heap.size, 0, none⟩))) w') :
    wpList Tryd.prog ops Q (o :: rest) a w :=
  wpList_range_own w hg m _ hop _ _ keyA Tryd.underlying70 asSelf b 7 _ hm hown fun w' h1 h2 h3 => hK w' (by rw [← size_mapP g p]; exact h1) h2 h3

set_option maxRecDepth 100000 in
theorem wpList_next_rows (hg : o.guard = none) (it : Operand) (hop : o.op = Op.next it false) (b r : Nat) (g : Nat → Nat) (p : Int → Bool) (left : Lit → Bool) (cnt : Nat)
    (hit : a.eval it = .pointer (some ⟨r, 0, none⟩)) (h : MapIt w b r g p left cnt)
    (hDone : cnt = 0 → (∀ kl, left kl = false) → wpList Tryd.prog ops Q rest (a.put o.dst (.tuple #[.bool false])) w)
    (hMore : ∀ (x : Int) (w' : World) (cnt' : Nat), x ∈ keysL → p x = true → left (.int .u32 x) = true → MapIt w' b r g p (fun z => left z && !z.sameKey (.int .u32 x)) cnt' → cnt' < cnt → w.grownBy w' (some r) → w'.heap.size = w.heap.size →
      (Instr.entry (.pointer (some ⟨r, 0, none⟩))).run Tryd.prog w' = .ok (.tuple #[.int .u32 x, rowAgg g x]) w' → wpList Tryd.prog ops Q rest (a.put o.dst (.tuple #[.bool true, .int .u32 x, rowAgg g x])) w') :
    wpList Tryd.prog ops Q (o :: rest) a w :=
  wpList_next_ranges w hg it hop _ keyA asSelf (Value.int .u32) id
    (fun key kl hkey => by obtain ⟨x, rfl, _⟩ := Maps.keyOf_int_inv Tryd.underlying23 hkey; exact ⟨x, rfl⟩) (fun v y _ => ⟨v, rfl⟩) b r 7 _ left cnt hit h hDone
    (fun x c kl y w' cnt' hkey hlk hv hat hrg hlt hgr hsz hen => by
      obtain ⟨x', ex, rfl, hwx⟩ := Maps.keyOf_int_inv Tryd.underlying23 hkey
      cases ex
      have hy : y = (.held c, []) := by injection hv with hv; exact hv.symm
      subst hy
      have h1 := hat (.nil)
      rw [atKey_mapP] at h1
      by_cases hx : x ∈ keysL.filter p
      · rw [if_pos hx] at h1
        injection h1 with h1
        subst h1
        obtain ⟨h2, h3⟩ := List.mem_filter.1 hx
        exact hMore x w' cnt' h2 h3 hlk hrg hlt hgr hsz hen
      · rw [if_neg hx] at h1
        cases h1)

set_option maxRecDepth 100000 in
theorem wpList_delete_rows (hg : o.guard = none) (m x : Operand) (hop : o.op = Op.call { callee := Callee.builtin Builtin.delete, args := #[m, x], argTypes := #[70, 23] })
    (b r : Nat) (g : Nat → Nat) (p : Int → Bool) (left : Lit → Bool) (cnt : Nat)
    (hm : a.eval m = .map (some b)) (h : MapIt w b r g p left cnt) (y : Int) (h0 : 0 ≤ y) (h1 : y < 4294967296) (hx : a.eval x = .int .u32 y)
    (hK : ∀ w' cnt', MapIt w' b r g (fun k => p k && decide (k ≠ y)) (fun z => left z && !z.sameKey (.int .u32 y)) cnt' → cnt' ≤ cnt → w.grownBy w' (some b) → wpList Tryd.prog ops Q rest (a.put o.dst (.tuple #[])) w') :
    wpList Tryd.prog ops Q (o :: rest) a w :=
  wpList_delete_ranges w hg m x _ _ hop _ keyA Tryd.underlying70 asSelf b r 7 _ left cnt hm h _ _ hx (keyed_u32 h0 h1)
    fun w' cnt' h2 h3 h4 => hK w' cnt' (by rw [del_mapP] at h2; exact h2) h3 h4.grown
end
theorem keys_u32 {x : Int} (h : x ∈ keysL) : 0 ≤ x ∧ x < 4294967296 := by
  simp only [keysL, List.mem_cons, List.not_mem_nil, or_false] at h
  omega
set_option maxRecDepth 100000 in
theorem len_rows {w : World} {b : Nat} {g : Nat → Nat} {p : Int → Bool} (h : MapAt w b g p) (ty : TypeId) :
    (Builtin.len_ #[70] ty #[.map (some b)]).run Tryd.prog w = .ok (.int .i64 ((keysL.filter p).length : Nat)) w := by
  rw [← size_mapP g p]
  exact World.ownsMap.len h Tryd.underlying70 ty
/-- While the rows are looked through, those that do not fit go. -/
theorem MapIt.step {w : World} {b r : Nat} {g : Nat → Nat} {p q : Int → Bool} {left left' : Lit → Bool} {cnt : Nat} (h : MapIt w b r g p left cnt) (hp : ∀ k ∈ keysL, p k = q k) (hl : ∀ z, left z = left' z) : MapIt w b r g q left' cnt := by
  have e : left = left' := funext hl
  subst e
  unfold MapIt at h ⊢
  rw [← mapP_congr g hp]
  exact h
end Go.Proofs.YtoodmjdafifbmaaDoor.Hand
