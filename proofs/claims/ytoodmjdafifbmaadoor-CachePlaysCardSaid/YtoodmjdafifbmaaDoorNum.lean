/- Plain words on bytes and numbers, without Go: the number that bytes tell, the bytes of a number, and that each is the other one's. -/
namespace Go.Proofs.YtoodmjdafifbmaaDoor.Hand

/-- Element j, under a name that the walk leaves alone. -/
def nth (l : List Int) (j : Nat) : Int := l.getD j 0
theorem gd (l : List Int) (j : Nat) (h : j < l.length) : nth l j = l[j] := by simp [nth, List.getD, List.getElem?_eq_getElem h]
theorem gd0 (l : List Int) (j : Nat) (h : l.length ≤ j) : nth l j = 0 := by simp [nth, List.getD, List.getElem?_eq_none h]

/-- Bytes. -/
def Bs (l : List Int) : Prop := ∀ x ∈ l, 0 ≤ x ∧ x < 256
theorem Bs.get {l : List Int} (h : Bs l) (k : Nat) : 0 ≤ nth l k ∧ nth l k < 256 := by
  by_cases hk : k < l.length
  · rw [gd _ _ hk]; exact h _ (List.getElem_mem hk)
  · rw [gd0 _ _ (by omega)]; omega
theorem Bs.take {l : List Int} (h : Bs l) (k : Nat) : Bs (l.take k) := fun x hx => h x (List.mem_of_mem_take hx)
theorem Bs.drop {l : List Int} (h : Bs l) (k : Nat) : Bs (l.drop k) := fun x hx => h x (List.mem_of_mem_drop hx)
theorem Bs.append {l m : List Int} (h : Bs l) (k : Bs m) : Bs (l ++ m) := fun x hx => (List.mem_append.1 hx).elim (h x) (k x)
theorem Bs.nil : Bs [] := fun x hx => by cases hx
theorem Bs.cons {x : Int} {l : List Int} (h0 : 0 ≤ x) (h1 : x < 256) (h : Bs l) : Bs (x :: l) := fun y hy => by
  rcases List.mem_cons.1 hy with rfl | hy
  · exact ⟨h0, h1⟩
  · exact h y hy
theorem Bs.replicate (n : Nat) {x : Int} (h0 : 0 ≤ x) (h1 : x < 256) : Bs (List.replicate n x) := fun y hy => by
  obtain ⟨_, rfl⟩ := List.mem_replicate.1 hy
  exact ⟨h0, h1⟩


theorem nth_cons0 (x : Int) (l : List Int) : nth (x :: l) 0 = x := rfl
theorem nth_cons (x : Int) (l : List Int) (k : Nat) : nth (x :: l) (k + 1) = nth l k := rfl
theorem nth_append_left (l m : List Int) (k : Nat) (h : k < l.length) : nth (l ++ m) k = nth l k := by
  rw [gd _ _ (by rw [List.length_append]; omega), gd _ _ h, List.getElem_append_left]
theorem nth_append_right (l m : List Int) (k : Nat) (h : l.length ≤ k) : nth (l ++ m) k = nth m (k - l.length) := by
  by_cases hk : k < (l ++ m).length
  · rw [gd _ _ hk, List.getElem_append_right h, gd _ _ (by rw [List.length_append] at hk; omega)]
  · rw [gd0 _ _ (by omega), gd0 _ _ (by rw [List.length_append] at hk; omega)]
theorem nth_take (l : List Int) (n k : Nat) (h : k < n) : nth (l.take n) k = nth l k := by
  by_cases hk : k < l.length
  · rw [gd _ _ (by rw [List.length_take]; omega), gd _ _ hk, List.getElem_take]
  · rw [gd0 _ _ (by rw [List.length_take]; omega), gd0 _ _ (by omega)]
theorem nth_drop (l : List Int) (n k : Nat) : nth (l.drop n) k = nth l (n + k) := by
  by_cases hk : n + k < l.length
  · rw [gd _ _ (by rw [List.length_drop]; omega), gd _ _ hk, List.getElem_drop]
  · rw [gd0 _ _ (by rw [List.length_drop]; omega), gd0 _ _ (by omega)]
theorem ext_nth {l m : List Int} (h : l.length = m.length) (hn : ∀ k, k < l.length → nth l k = nth m k) : l = m := by
  refine List.ext_getElem h fun k h1 h2 => ?_
  have e := hn k h1
  rw [gd _ _ h1, gd _ _ h2] at e
  exact e

/-- The number that the first k bytes tell. -/
def num (l : List Int) : Nat → Int
  | 0 => 0
  | k + 1 => num l k * 256 + nth l k
theorem num_zero (l : List Int) : num l 0 = 0 := rfl
theorem num_succ (l : List Int) (k : Nat) : num l (k + 1) = num l k * 256 + nth l k := rfl
theorem num_congr {l m : List Int} (k : Nat) (h : ∀ j, j < k → nth l j = nth m j) : num l k = num m k := by
  induction k with
  | zero => rfl
  | succ k ih => rw [num_succ, num_succ, ih (fun j hj => h j (by omega)), h k (by omega)]
theorem num_bound {l : List Int} (h : Bs l) (k : Nat) : 0 ≤ num l k ∧ num l k < 256 ^ k := by
  induction k with
  | zero => rw [num_zero]; simp
  | succ k ih =>
    have := h.get k
    rw [num_succ, Int.pow_succ]
    omega
theorem num4 {l : List Int} (h : Bs l) : 0 ≤ num l 4 ∧ num l 4 < 4294967296 := num_bound h 4
theorem num8 {l : List Int} (h : Bs l) : 0 ≤ num l 8 ∧ num l 8 < 18446744073709551616 := num_bound h 8

/-- The bytes of a number, the highest first. -/
def be (a : Int) : Nat → List Int
  | 0 => []
  | m + 1 => a / 2 ^ (8 * m) % 256 :: be a m
theorem be_length (a : Int) (m : Nat) : (be a m).length = m := by
  induction m with
  | zero => rfl
  | succ m ih => simp [be, ih]
theorem be_bs (a : Int) (m : Nat) : Bs (be a m) := by
  induction m with
  | zero => exact Bs.nil
  | succ m ih => exact Bs.cons (Int.emod_nonneg _ (by decide)) (Int.emod_lt_of_pos _ (by decide)) ih
theorem be4 (a : Int) : be a 4 = [a / 16777216 % 256, a / 65536 % 256, a / 256 % 256, a % 256] := by simp [be]
theorem be8 (a : Int) : be a 8 = [a / 72057594037927936 % 256, a / 281474976710656 % 256, a / 1099511627776 % 256, a / 4294967296 % 256, a / 16777216 % 256, a / 65536 % 256, a / 256 % 256, a % 256] := by simp [be]
/-- The number of a number's bytes, whatever stands behind them. -/
theorem num_be4 {a : Int} (h0 : 0 ≤ a) (h1 : a < 4294967296) (m : List Int) : num (be a 4 ++ m) 4 = a := by
  rw [be4]
  simp only [num, List.cons_append, nth_cons, nth_cons0]
  omega
theorem num_be8 {a : Int} (h0 : 0 ≤ a) (h1 : a < 18446744073709551616) (m : List Int) : num (be a 8 ++ m) 8 = a := by
  rw [be8]
  simp only [num, List.cons_append, nth_cons, nth_cons0]
  omega
/-- The bytes of the number that bytes tell. -/
theorem be_num4 {l : List Int} (h : Bs l) (hl : 4 ≤ l.length) : be (num l 4) 4 = l.take 4 := by
  refine ext_nth (by rw [be_length, List.length_take]; omega) fun k hk => ?_
  rw [be_length] at hk
  rw [nth_take _ _ _ hk, be4]
  have h0 := h.get 0; have h1 := h.get 1; have h2 := h.get 2; have h3 := h.get 3
  simp only [num]
  match k, hk with
  | 0, _ => simp only [nth_cons0]; omega
  | 1, _ => simp only [nth_cons, nth_cons0]; omega
  | 2, _ => simp only [nth_cons, nth_cons0]; omega
  | 3, _ => simp only [nth_cons, nth_cons0]; omega
theorem be_num8 {l : List Int} (h : Bs l) (hl : 8 ≤ l.length) : be (num l 8) 8 = l.take 8 := by
  refine ext_nth (by rw [be_length, List.length_take]; omega) fun k hk => ?_
  rw [be_length] at hk
  rw [nth_take _ _ _ hk, be8]
  have h0 := h.get 0; have h1 := h.get 1; have h2 := h.get 2; have h3 := h.get 3; have h4 := h.get 4; have h5 := h.get 5; have h6 := h.get 6; have h7 := h.get 7
  simp only [num]
  match k, hk with
  | 0, _ => simp only [nth_cons0]; omega
  | 1, _ => simp only [nth_cons, nth_cons0]; omega
  | 2, _ => simp only [nth_cons, nth_cons0]; omega
  | 3, _ => simp only [nth_cons, nth_cons0]; omega
  | 4, _ => simp only [nth_cons, nth_cons0]; omega
  | 5, _ => simp only [nth_cons, nth_cons0]; omega
  | 6, _ => simp only [nth_cons, nth_cons0]; omega
  | 7, _ => simp only [nth_cons, nth_cons0]; omega

/-- A long number's bytes are its halves'. -/
theorem be8_take (a : Int) : (be a 8).take 4 = be (a / 4294967296) 4 := by
  rw [be8, be4]
  simp only [List.take_succ_cons, List.take_zero, List.cons.injEq, and_true]
  omega
theorem be8_drop (a : Int) : (be a 8).drop 4 = be (a % 4294967296) 4 := by
  rw [be8, be4]
  simp only [List.drop_succ_cons, List.drop_zero, List.cons.injEq, and_true]
  omega
/-- What words.Get, GetLong and GetYes tell. -/
def get32F (l : List Int) : Int × Int := if l.length < 4 then (0, 4) else (num l 4, 0)
def get64F (l : List Int) : Int × Int := if l.length < 8 then (0, 4) else (num l 8, 0)
def getYesF (l : List Int) : Bool × Int := if l.length < 4 then (false, 4) else if 1 < num l 4 then (false, 5) else (num l 4 == 1, 0)
theorem get32_short {l : List Int} (h : l.length < 4) : get32F l = (0, 4) := if_pos h
theorem get32_ok {l : List Int} (h : 4 ≤ l.length) : get32F l = (num l 4, 0) := if_neg (by omega)
theorem get64_short {l : List Int} (h : l.length < 8) : get64F l = (0, 4) := if_pos h
theorem get64_ok {l : List Int} (h : 8 ≤ l.length) : get64F l = (num l 8, 0) := if_neg (by omega)
end Go.Proofs.YtoodmjdafifbmaaDoor.Hand
