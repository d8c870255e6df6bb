/- What replies.Put hands back: a reply's bytes, of the call's own; or the error. -/
import Derived.Test.YtoodmjdafifbmaaDoorWLast
import Derived.Test.YtoodmjdafifbmaaDoorRepMap
import Derived.Test.YtoodmjdafifbmaaDoorRepNums
namespace Go.Proofs.YtoodmjdafifbmaaDoor.Hand
open Go.RowKit Go.Proofs.YtoodmjdafifbmaaDoorW.PrintLast
set_option linter.unusedVariables false
set_option linter.unusedSimpArgs false

/-- The row that stands at a key, or the empty one. -/
def rowP (g : Nat → Nat) (k : Int) : Option Addr := if k ∈ keysL then some ⟨g (ixOf k), 0, none⟩ else none
def rowN (k : Int) : Nat := if k ∈ keysL then (fixedOf k).length else 0
def rowF (k : Int) : List Int := if k ∈ keysL then fixedOf k else []
theorem rowF_length (k : Int) : (rowF k).length = rowN k := by unfold rowF rowN; split <;> rfl
theorem rowK_or (g : Nat → Nat) (k : Int) : (if k ∈ keysL.filter (fun _ => true) then rowK g k else rowZ) = .agg #[.slice (rowP g k) (rowN k) (rowN k), .int .i64 (toldOf k), .bool (decide (k = 0))] := by
  rw [List.filter_eq_self.2 (by simp)]
  unfold rowP rowN
  by_cases h : k ∈ keysL
  · rw [if_pos h, if_pos h, if_pos h]; rfl
  · rw [if_neg h, if_neg h, if_neg h]
    have h0 : ¬ k = 0 := fun e => h (by rw [e]; decide)
    have h2 : ¬ (k = 2 ∨ k = 100) := fun e => h (by rcases e with e | e <;> rw [e] <;> decide)
    have h3 : ¬ k = 101 := fun e => h (by rw [e]; decide)
    unfold toldOf rowZ
    rw [if_neg h2, if_neg h3, decide_eq_false h0]
/-- How Put ends where the reply is one. -/
def PutEnd (base : Nat) (L : List Int) (e : Ending) (w' : World) : Prop := if L.length ≤ 65536 then ∃ v, e = .returned (.tuple #[v, .int .i64 0]) ∧ Own w' base v L else e = .returned (.tuple #[.slice none 0 0, .int .i64 3])
theorem PutEnd.fits {base : Nat} {L : List Int} {e : Ending} {w' : World} {v : Value} (h : L.length ≤ 65536) (he : e = .returned (.tuple #[v, .int .i64 0])) (ho : Own w' base v L) : PutEnd base L e w' := by
  unfold PutEnd
  rw [if_pos h]
  exact ⟨v, he, ho⟩
theorem PutEnd.long {base : Nat} {L : List Int} {e : Ending} {w' : World} (h : ¬ L.length ≤ 65536) (he : e = .returned (.tuple #[.slice none 0 0, .int .i64 3])) : PutEnd base L e w' := by
  unfold PutEnd
  rw [if_neg h]
  exact he
theorem why_ (n : Int) (w : World) : Calls Tryd.prog 30 #[.int .u32 n] w fun e w' => e = .returned (.bool (decide (1 ≤ n ∧ n ≤ 7))) ∧ w = w' := by
  by_cases h1 : 1 ≤ n
  · by_cases h2 : n ≤ 7
    · have e1 : decide (1 ≤ n ∧ n ≤ 7) = true := decide_eq_true ⟨h1, h2⟩
      rw [e1]
      go_enter Tryd.func30, Tryd.ntmps30
      go_wp2
      go_ret
      exact ⟨rfl, rfl⟩
    · have e1 : decide (1 ≤ n ∧ n ≤ 7) = false := decide_eq_false (fun h => h2 h.2)
      rw [e1]
      go_enter Tryd.func30, Tryd.ntmps30
      go_wp2
      go_ret
      exact ⟨rfl, rfl⟩
  · have e1 : decide (1 ≤ n ∧ n ≤ 7) = false := decide_eq_false (fun h => h1 h.1)
    rw [e1]
    go_enter Tryd.func30, Tryd.ntmps30
    go_wp2
    go_ret
    exact ⟨rfl, rfl⟩
/-- A reply's bytes. -/
def putL (xid how low high : Int) (body : List Int) : List Int := rw4 [xid, 1] ++ rw4 (rowF how) ++ rw4 ([low, high].take (toldOf how).toNat) ++ body
theorem rowN_le (k : Int) : rowN k ≤ 4 := by
  unfold rowN fixedOf
  split
  · split
    · simp
    · split <;> simp
  · simp
theorem U4.two {x : Int} (h0 : 0 ≤ x) (h1 : x < 4294967296) : U4 [x, 1] := by
  intro y hy
  simp only [List.mem_cons, List.not_mem_nil, or_false] at hy
  rcases hy with rfl | rfl <;> omega
theorem U4.pair {x y : Int} (h0 : 0 ≤ x) (h1 : x < 4294967296) (g0 : 0 ≤ y) (g1 : y < 4294967296) : U4 [x, y] := by
  intro z hz
  simp only [List.mem_cons, List.not_mem_nil, or_false] at hz
  rcases hz with rfl | rfl <;> omega
theorem _root_.Go.RowKit.Below.asGrown {w w' : World} (h : Below w.heap.size w w') : w.grownBy w' none := ⟨h.os, h.tape, h.output, h.size, fun i hi _ => h.block i hi⟩
theorem _root_.Go.World.grownBy.asBelow {w w' : World} (h : w.grownBy w' none) : Below w.heap.size w w' := ⟨h.os, h.tape, h.output, h.size, fun i hi => h.block i hi (by simp)⟩
theorem repput' (w : World) (base : Nat) (v : Value) (l : List Int) (ho : Own w base v l) (A : Option Addr) (n c : Nat) (m : List Int) (hnc : n ≤ c) (hmn : m.length = n) (hr : RdN w A m) (hA : ∀ ad, A = some ad → some ad.block ≠ v.ownBlock)
    (hl : l.length + 4 * n ≤ 1048576) (hbase : base ≤ w.heap.size) :
    Calls Tryd.prog 31 #[v, .slice A n c] w fun e w' => ∃ v', e = .returned v' ∧ Own w' base v' (l ++ rw4 m) ∧ w.grownBy w' v.ownBlock ∧ (∀ j, v'.ownBlock = some j → w.heap.size ≤ j ∨ v.ownBlock = some j) := by
  subst hmn
  exact repput w base v l ho A _ m hr hA hnc hl hbase
theorem NumsAt.apart {w : World} {g : Nat → Nat} (h : NumsAt w g) {k : Int} {v : Value} (hv : ∀ j, v.ownBlock = some j → w.heap.size ≤ j ∨ (Value.slice none 0 0).ownBlock = some j) : ∀ ad, rowP g k = some ad → some ad.block ≠ v.ownBlock := by
  intro ad had he
  unfold rowP at had
  split at had
  · rename_i hk
    cases had
    have h1 := (h k hk).lt
    rcases hv _ he.symm with h2 | h2
    · simp at h2; omega
    · simp [Value.ownBlock] at h2
  · cases had
theorem in_keys (k : Int) : decide (k ∈ keysL.filter (fun _ => true)) = decide (k ∈ keysL) := by rw [List.filter_eq_self.2 (by simp)]
theorem fixed_u4 {k : Int} (h : k ∈ keysL) : U4 (fixedOf k) := by
  simp only [keysL, List.mem_cons, List.not_mem_nil, or_false] at h
  rcases h with h | h | h | h | h | h | h <;> subst h <;> (show ∀ x ∈ _, _; decide)
theorem rowF_u4 (k : Int) : U4 (rowF k) := by
  unfold rowF
  split <;> rename_i h
  · exact fixed_u4 h
  · intro x hx; cases hx
theorem NumsAt.row {w : World} {g : Nat → Nat} (h : NumsAt w g) (k : Int) : RdN w (rowP g k) (rowF k) := by
  unfold rowP rowF
  split <;> rename_i hk
  · exact RdN.of_blk (fixed_u4 hk) (h k hk)
  · exact ⟨fun x hx => (by cases hx), fun h0 => absurd h0 (by simp)⟩
theorem RdN.below {w w' : World} {A : Option Addr} {l : List Int} (h : RdN w A l) (hb : Below w.heap.size w w') : RdN w' A l :=
  h.keep fun p _ hp => (hb.cell (World.block_lt_of_cell? w p hp)).trans hp
theorem NumsAt.set3 {w : World} {g : Nat → Nat} (h : NumsAt w g) (px : Nat) (u v x : Value) (hp : ∀ k ∈ keysL, g (ixOf k) ≠ px) : NumsAt (((w.setCell ⟨px, 0, none⟩ u).setCell ⟨px, 1, none⟩ v).setCell ⟨px, 2, none⟩ x) g := fun k hk =>
  (((h k hk).far (p := ⟨px, 0, none⟩) (hp k hk) u).far (p := ⟨px, 1, none⟩) (hp k hk) v).far (p := ⟨px, 2, none⟩) (hp k hk) x


set_option maxRecDepth 100000 in
set_option maxHeartbeats 4000000 in
theorem put_two (xid how low high : Int) (A : Option Addr) (c : Nat) (body : List Int) (w : World) (hx0 : 0 ≤ xid) (hx1 : xid < 4294967296) (hh0 : 0 ≤ how) (hh1 : how < 4294967296) (hl0 : 0 ≤ low) (hl1 : low < 4294967296) (hi0 : 0 ≤ high) (hi1 : high < 4294967296)
    (hr : Rd w A body) (hc : body.length ≤ c) (hn : body.length ≤ 1048000) (hk : how ∈ keysL) (h0 : ¬ how = 0) (hq : ¬ how = 101) (ht : toldOf how = 2) (hb : body.length = 0) :
    Calls Tryd.prog 7 #[.agg #[.int .u32 xid, .int .u32 how, .int .u32 low, .int .u32 high, .slice A body.length c]] w fun e w' => PutEnd w.heap.size (putL xid how low high body) e w' ∧ Below w.heap.size w w' := by
  have b1 := Blk.new w 26 #[.int .u32 xid, .int .u32 how, .int .u32 low, .int .u32 high, .slice A body.length c]
  have hB : Below w.heap.size w (w.alloc (.cells #[.int .u32 xid, .int .u32 how, .int .u32 low, .int .u32 high, .slice A body.length c] 26)) := (Below.refl _ _).alloc (Nat.le_refl _) _
  have HK := Lib.hid hk
  have H0 := Lib.hid h0
  have HQ := Lib.hid hq
  have HT := Lib.hid ht
  have HB := Lib.hid hb
  clear hk h0 hq ht hb
  go_enter Tryd.func7, Tryd.ntmps7
  go_wp2_with fail
  generalize w.alloc (.cells #[.int .u32 xid, .int .u32 how, .int .u32 low, .int .u32 high, .slice A body.length c] 26) = W at *
  have hB := below_then hB (below_drawn (w1 := W.drew) (n := 1) rfl)
  have b1 := b1.drew
  have k1 := b1.cell 1 (v := .int .u32 how) rfl
  refine start_ (n := 10) (S := fun w' => w'.cell? ⟨w.heap.size, 1, none⟩ = some (.int .u32 how)) (ds := []) #[false, false, false, false, false, false, false, false, false, false] (by kernel_rfl) rfl rfl (k1) (fun hHeld => ?_)
  refine pure_ (i := 1) (N := some 9) (v := ?_) (a' := ?_) #[false, true, false, false, false, false, false, false, false, false] rfl rfl (by kernel_rfl) (fun _ _ _ h => h) (Or.inl ⟨by rfl, ?_⟩) ?_ ?_
  rotate_left
  · intro w'
    go_simp
    with_reducible rfl
  rotate_left
  · simp only [Act.put, List.setIfInBounds_toArray, List.set_cons_zero, List.set_cons_succ, i64_w, i32_w]
    rfl
  refine take_ (i := 2) (N := some 10) (v := ?_) (a' := ?_) #[false, true, true, false, false, false, false, false, false, false] rfl rfl (by kernel_rfl) (fun _ _ _ h => h) (Or.inl ⟨by rfl, ?_⟩) hHeld ?_ ?_
  rotate_left
  · intro w' s0
    go_simp
    with_reducible rfl
  rotate_left
  · simp only [Act.put, List.setIfInBounds_toArray, List.set_cons_zero, List.set_cons_succ, i64_w, i32_w]
    rfl
  refine join_ (σ := Nat × (Nat → Nat) × Nat) 2 #[true, true, true, true, true, true, true, true, false, false] (fun s' => [(8, .map (some s'.1)), (11, .tuple #[.agg #[.slice (rowP s'.2.1 how) (rowN how) (rowN how), .int .i64 (toldOf how), .bool (decide (how = 0))], .bool (decide (how ∈ keysL))]), (7, .tuple #[.agg #[.slice (rowP s'.2.1 how) (rowN how) (rowN how), .int .i64 (toldOf how), .bool (decide (how = 0))], .bool (decide (how ∈ keysL))]), (12, .agg #[.slice (rowP s'.2.1 how) (rowN how) (rowN how), .int .i64 (toldOf how), .bool (decide (how = 0))]), (13, .bool (decide (how ∈ keysL))), (4, .pointer (some ⟨s'.2.2, 0, none⟩))]) (fun s' w' => w'.cell? ⟨w.heap.size, 1, none⟩ = some (.int .u32 how) ∧ Below w.heap.size w w' ∧ Blk w' w.heap.size 26 #[.int .u32 xid, .int .u32 how, .int .u32 low, .int .u32 high, .slice A body.length c] ∧ Blk w' s'.2.2 68 #[.slice none 0 0, .int .i64 0, .bool false] ∧ w.heap.size < s'.2.2 ∧ NumsAt w' s'.2.1 ∧ (∀ k ∈ keysL, s'.2.1 (ixOf k) ≠ s'.2.2)) ?_ ?_
  rotate_left
  · intro hCont
    refine two_ (i := 0) (j := 7) (Ni := some 8) (Nj := some 4) #[true, true, true, false, false, false, false, false, false, false] #[false, true, true, false, false, false, false, true, false, false] rfl rfl rfl rfl (by kernel_rfl) (by decide) (by decide) (fun K hK => ?_) (fun K hK => ?_)
    · skip
      refine goes_ Tryd.func29 (by kernel_rfl) rfl #[] (by rfl) rfl rfl (by simp only [List.map_toArray, List.map_cons, List.map_nil]) ?_
      with_reducible refine (rows_all _).mono ?_
      rintro e w3 ⟨b, g, rfl, hbb, hgk, hM, hN, hbx⟩
      refine ⟨_, rfl, ?_⟩
      have k1 := cell_later hbx k1
      have b1 := b1.below hbx
      have hB := below_then hB hbx
      refine hK.out _ _ (k1) (fun hHeld => ?_)
      clear hK K
      refine norm_ (a' := ?_) ?_ ?_
      rotate_left
      · show Act.put _ (some 8) _ = _
        simp only [Act.put, List.setIfInBounds_toArray, List.set_cons_zero, List.set_cons_succ, i64_w, i32_w]
        rfl
      refine two_ (i := 3) (j := 7) (Ni := some 11) (Nj := some 4) #[true, true, true, true, false, false, false, false, false, false] #[true, true, true, false, false, false, false, true, false, false] rfl rfl rfl rfl (by kernel_rfl) (by decide) (by decide) (fun K hK => ?_) (fun K hK => ?_)
      · skip
        have hq := look2 hM hh0 hh1
        rw [rowK_or, in_keys] at hq
        refine value_ (w1 := ?_) (v := ?_) (by rfl) rfl ?_ ?_
        rotate_left 2
        · go_simp
          constructor
          · rfl
          · rfl
        clear hq
        refine hK.out _ _ (k1) (fun hHeld => ?_)
        clear hK K
        refine norm_ (a' := ?_) ?_ ?_
        rotate_left
        · show Act.put _ (some 11) _ = _
          simp only [Act.put, List.setIfInBounds_toArray, List.set_cons_zero, List.set_cons_succ, i64_w, i32_w]
          rfl
        refine pure_ (i := 4) (N := some 7) (v := ?_) (a' := ?_) #[true, true, true, true, true, false, false, false, false, false] rfl rfl (by kernel_rfl) (fun _ _ _ h => h) (Or.inl ⟨by rfl, ?_⟩) ?_ ?_
        rotate_left
        · intro w'
          go_simp
          with_reducible rfl
        rotate_left
        · simp only [Act.put, List.setIfInBounds_toArray, List.set_cons_zero, List.set_cons_succ, i64_w, i32_w]
          rfl
        refine pure_ (i := 5) (N := some 12) (v := ?_) (a' := ?_) #[true, true, true, true, true, true, false, false, false, false] rfl rfl (by kernel_rfl) (fun _ _ _ h => h) (Or.inl ⟨by rfl, ?_⟩) ?_ ?_
        rotate_left
        · intro w'
          go_simp
          with_reducible rfl
        rotate_left
        · simp only [Act.put, List.setIfInBounds_toArray, List.set_cons_zero, List.set_cons_succ, i64_w, i32_w]
          rfl
        refine pure_ (i := 6) (N := some 13) (v := ?_) (a' := ?_) #[true, true, true, true, true, true, true, false, false, false] rfl rfl (by kernel_rfl) (fun _ _ _ h => h) (Or.inl ⟨by rfl, ?_⟩) ?_ ?_
        rotate_left
        · intro w'
          go_simp
          with_reducible rfl
        rotate_left
        · simp only [Act.put, List.setIfInBounds_toArray, List.set_cons_zero, List.set_cons_succ, i64_w, i32_w]
          rfl
        refine one_ (i := 7) (N := some 4) #[true, true, true, true, true, true, true, true, false, false] rfl rfl (by kernel_rfl) (by decide) (fun K hK => ?_)
        refine value_ (w1 := ?_) (v := ?_) (by rfl) rfl ?_ ?_
        rotate_left 2
        · go_simp
          constructor
          · rfl
          · rfl
        have hlt : w.heap.size < w3.heap.size := b1.lt
        have bx := Blk.new w3 68 #[.slice none 0 0, .int .i64 0, .bool false]
        have b1 := b1.alloc (.cells #[.slice none 0 0, .int .i64 0, .bool false] 68)
        have k1 := cell_old k1 (.cells #[.slice none 0 0, .int .i64 0, .bool false] 68)
        have hB := hB.alloc hB.size (.cells #[.slice none 0 0, .int .i64 0, .bool false] 68)
        have hpg : ∀ k ∈ keysL, g (ixOf k) ≠ w3.heap.size := fun k hk => by have := (hN k hk).lt; omega
        have hM := hM.below ((Below.refl _ w3).alloc (Nat.le_refl _) (.cells #[.slice none 0 0, .int .i64 0, .bool false] 68))
        have hN := hN.below ((Below.refl _ w3).alloc (Nat.le_refl _) (.cells #[.slice none 0 0, .int .i64 0, .bool false] 68))
        refine hK.out _ _ (k1) (fun hHeld => ?_)
        clear hK K
        refine norm_ (a' := ?_) ?_ ?_
        rotate_left
        · show Act.put _ (some 4) _ = _
          simp only [Act.put, List.setIfInBounds_toArray, List.set_cons_zero, List.set_cons_succ, i64_w, i32_w]
          rfl
        exact norm_ (by simp only [putAll, Act.put, List.setIfInBounds_toArray, List.set_cons_zero, List.set_cons_succ]) (hCont (b, g, w3.heap.size) _ ⟨k1, hB, b1, bx, hlt, hN, hpg⟩)
      · skip
        refine value_ (w1 := ?_) (v := ?_) (by rfl) rfl ?_ ?_
        rotate_left 2
        · go_simp
          constructor
          · rfl
          · rfl
        have hlt : w.heap.size < w3.heap.size := b1.lt
        have bx := Blk.new w3 68 #[.slice none 0 0, .int .i64 0, .bool false]
        have b1 := b1.alloc (.cells #[.slice none 0 0, .int .i64 0, .bool false] 68)
        have k1 := cell_old k1 (.cells #[.slice none 0 0, .int .i64 0, .bool false] 68)
        have hB := hB.alloc hB.size (.cells #[.slice none 0 0, .int .i64 0, .bool false] 68)
        have hpg : ∀ k ∈ keysL, g (ixOf k) ≠ w3.heap.size := fun k hk => by have := (hN k hk).lt; omega
        have hM := hM.below ((Below.refl _ w3).alloc (Nat.le_refl _) (.cells #[.slice none 0 0, .int .i64 0, .bool false] 68))
        have hN := hN.below ((Below.refl _ w3).alloc (Nat.le_refl _) (.cells #[.slice none 0 0, .int .i64 0, .bool false] 68))
        refine hK.out _ _ (k1) (fun hHeld => ?_)
        clear hK K
        refine norm_ (a' := ?_) ?_ ?_
        rotate_left
        · show Act.put _ (some 4) _ = _
          simp only [Act.put, List.setIfInBounds_toArray, List.set_cons_zero, List.set_cons_succ, i64_w, i32_w]
          rfl
        refine one_ (i := 3) (N := some 11) #[true, true, true, true, false, false, false, true, false, false] rfl rfl (by kernel_rfl) (by decide) (fun K hK => ?_)
        have hq := look2 hM hh0 hh1
        rw [rowK_or, in_keys] at hq
        refine value_ (w1 := ?_) (v := ?_) (by rfl) rfl ?_ ?_
        rotate_left 2
        · go_simp
          constructor
          · rfl
          · rfl
        clear hq
        refine hK.out _ _ (k1) (fun hHeld => ?_)
        clear hK K
        refine norm_ (a' := ?_) ?_ ?_
        rotate_left
        · show Act.put _ (some 11) _ = _
          simp only [Act.put, List.setIfInBounds_toArray, List.set_cons_zero, List.set_cons_succ, i64_w, i32_w]
          rfl
        refine pure_ (i := 4) (N := some 7) (v := ?_) (a' := ?_) #[true, true, true, true, true, false, false, true, false, false] rfl rfl (by kernel_rfl) (fun _ _ _ h => h) (Or.inl ⟨by rfl, ?_⟩) ?_ ?_
        rotate_left
        · intro w'
          go_simp
          with_reducible rfl
        rotate_left
        · simp only [Act.put, List.setIfInBounds_toArray, List.set_cons_zero, List.set_cons_succ, i64_w, i32_w]
          rfl
        refine pure_ (i := 5) (N := some 12) (v := ?_) (a' := ?_) #[true, true, true, true, true, true, false, true, false, false] rfl rfl (by kernel_rfl) (fun _ _ _ h => h) (Or.inl ⟨by rfl, ?_⟩) ?_ ?_
        rotate_left
        · intro w'
          go_simp
          with_reducible rfl
        rotate_left
        · simp only [Act.put, List.setIfInBounds_toArray, List.set_cons_zero, List.set_cons_succ, i64_w, i32_w]
          rfl
        refine pure_ (i := 6) (N := some 13) (v := ?_) (a' := ?_) #[true, true, true, true, true, true, true, true, false, false] rfl rfl (by kernel_rfl) (fun _ _ _ h => h) (Or.inl ⟨by rfl, ?_⟩) ?_ ?_
        rotate_left
        · intro w'
          go_simp
          with_reducible rfl
        rotate_left
        · simp only [Act.put, List.setIfInBounds_toArray, List.set_cons_zero, List.set_cons_succ, i64_w, i32_w]
          rfl
        exact norm_ (by simp only [putAll, Act.put, List.setIfInBounds_toArray, List.set_cons_zero, List.set_cons_succ]) (hCont (b, g, w3.heap.size) _ ⟨k1, hB, b1, bx, hlt, hN, hpg⟩)
    · skip
      refine value_ (w1 := ?_) (v := ?_) (by rfl) rfl ?_ ?_
      rotate_left 2
      · go_simp
        constructor
        · rfl
        · rfl
      have hlt : w.heap.size < W.heap.size := b1.lt
      have bx := Blk.new W.drew 68 #[.slice none 0 0, .int .i64 0, .bool false]
      have b1 := b1.alloc (.cells #[.slice none 0 0, .int .i64 0, .bool false] 68)
      have k1 := cell_old k1 (.cells #[.slice none 0 0, .int .i64 0, .bool false] 68)
      have hB := hB.alloc hB.size (.cells #[.slice none 0 0, .int .i64 0, .bool false] 68)
      refine hK.out _ _ (k1) (fun hHeld => ?_)
      clear hK K
      refine norm_ (a' := ?_) ?_ ?_
      rotate_left
      · show Act.put _ (some 4) _ = _
        simp only [Act.put, List.setIfInBounds_toArray, List.set_cons_zero, List.set_cons_succ, i64_w, i32_w]
        rfl
      refine one_ (i := 0) (N := some 8) #[true, true, true, false, false, false, false, true, false, false] rfl rfl (by kernel_rfl) (by decide) (fun K hK => ?_)
      refine goes_ Tryd.func29 (by kernel_rfl) rfl #[] (by rfl) rfl rfl (by simp only [List.map_toArray, List.map_cons, List.map_nil]) ?_
      with_reducible refine (rows_all _).mono ?_
      rintro e w3 ⟨b, g, rfl, hbb, hgk, hM, hN, hbx⟩
      refine ⟨_, rfl, ?_⟩
      have k1 := cell_later hbx k1
      have b1 := b1.below hbx
      have bx := bx.below hbx
      have hpg : ∀ k ∈ keysL, g (ixOf k) ≠ W.drew.heap.size := fun k hk => by have := hgk k hk; simp at hbb ⊢; omega
      have hB := below_then hB hbx
      refine hK.out _ _ (k1) (fun hHeld => ?_)
      clear hK K
      refine norm_ (a' := ?_) ?_ ?_
      rotate_left
      · show Act.put _ (some 8) _ = _
        simp only [Act.put, List.setIfInBounds_toArray, List.set_cons_zero, List.set_cons_succ, i64_w, i32_w]
        rfl
      refine one_ (i := 3) (N := some 11) #[true, true, true, true, false, false, false, true, false, false] rfl rfl (by kernel_rfl) (by decide) (fun K hK => ?_)
      have hq := look2 hM hh0 hh1
      rw [rowK_or, in_keys] at hq
      refine value_ (w1 := ?_) (v := ?_) (by rfl) rfl ?_ ?_
      rotate_left 2
      · go_simp
        constructor
        · rfl
        · rfl
      clear hq
      refine hK.out _ _ (k1) (fun hHeld => ?_)
      clear hK K
      refine norm_ (a' := ?_) ?_ ?_
      rotate_left
      · show Act.put _ (some 11) _ = _
        simp only [Act.put, List.setIfInBounds_toArray, List.set_cons_zero, List.set_cons_succ, i64_w, i32_w]
        rfl
      refine pure_ (i := 4) (N := some 7) (v := ?_) (a' := ?_) #[true, true, true, true, true, false, false, true, false, false] rfl rfl (by kernel_rfl) (fun _ _ _ h => h) (Or.inl ⟨by rfl, ?_⟩) ?_ ?_
      rotate_left
      · intro w'
        go_simp
        with_reducible rfl
      rotate_left
      · simp only [Act.put, List.setIfInBounds_toArray, List.set_cons_zero, List.set_cons_succ, i64_w, i32_w]
        rfl
      refine pure_ (i := 5) (N := some 12) (v := ?_) (a' := ?_) #[true, true, true, true, true, true, false, true, false, false] rfl rfl (by kernel_rfl) (fun _ _ _ h => h) (Or.inl ⟨by rfl, ?_⟩) ?_ ?_
      rotate_left
      · intro w'
        go_simp
        with_reducible rfl
      rotate_left
      · simp only [Act.put, List.setIfInBounds_toArray, List.set_cons_zero, List.set_cons_succ, i64_w, i32_w]
        rfl
      refine pure_ (i := 6) (N := some 13) (v := ?_) (a' := ?_) #[true, true, true, true, true, true, true, true, false, false] rfl rfl (by kernel_rfl) (fun _ _ _ h => h) (Or.inl ⟨by rfl, ?_⟩) ?_ ?_
      rotate_left
      · intro w'
        go_simp
        with_reducible rfl
      rotate_left
      · simp only [Act.put, List.setIfInBounds_toArray, List.set_cons_zero, List.set_cons_succ, i64_w, i32_w]
        rfl
      exact norm_ (by simp only [putAll, Act.put, List.setIfInBounds_toArray, List.set_cons_zero, List.set_cons_succ]) (hCont (b, g, W.heap.size) _ ⟨k1, hB, b1, bx, hlt, hN, hpg⟩)
  clear hB b1
  rintro ⟨b, g, px⟩ w' ⟨k1, hB, b1, bx, hpx, hN, hpg⟩
  have hHeld : w'.cell? ⟨w.heap.size, 1, none⟩ = some (.int .u32 how) := k1
  refine norm_ (a' := ?_) ?_ ?_
  rotate_left
  · simp only [putAll, Act.put, List.setIfInBounds_toArray, List.set_cons_zero, List.set_cons_succ]
    rfl
  refine one_ (i := 8) (N := none) #[true, true, true, true, true, true, true, true, true, false] rfl rfl (by kernel_rfl) (by decide) (fun K hK => ?_)
  have c0 := bx.cell 0 (v := .slice none 0 0) rfl
  have c1 := bx.cell 1 (v := .int .i64 0) rfl
  have c2 := bx.cell 2 (v := .bool false) rfl
  have f0 := bx.frozen 0
  have f1 := bx.frozen 1
  have f2 := bx.frozen 2
  refine skip_ (w1 := ?_) (by rfl) rfl ?_ ?_
  rotate_left
  · go_simp
    rfl
  have bx := ((bx.set_ 0 (.slice (rowP g how) (rowN how) (rowN how))).set_ 1 (.int .i64 (toldOf how))).set_ 2 (.bool (decide (how = 0)))
  have b1 := ((b1.far (p := ⟨px, 0, none⟩) (Nat.ne_of_lt hpx) (.slice (rowP g how) (rowN how) (rowN how))).far (p := ⟨px, 1, none⟩) (Nat.ne_of_lt hpx) (.int .i64 (toldOf how))).far (p := ⟨px, 2, none⟩) (Nat.ne_of_lt hpx) (.bool (decide (how = 0)))
  have hN := hN.set3 px (.slice (rowP g how) (rowN how) (rowN how)) (.int .i64 (toldOf how)) (.bool (decide (how = 0))) hpg
  have hB := ((hB.setCell (p := ⟨px, 0, none⟩) (Nat.le_of_lt hpx) (.slice (rowP g how) (rowN how) (rowN how))).setCell (p := ⟨px, 1, none⟩) (Nat.le_of_lt hpx) (.int .i64 (toldOf how))).setCell (p := ⟨px, 2, none⟩) (Nat.le_of_lt hpx) (.bool (decide (how = 0)))
  have k1 := b1.cell 1 (v := .int .u32 how) rfl
  clear c0 c1 c2 f0 f1 f2
  refine hK.out _ _ (k1) (fun hHeld => ?_)
  clear hK K
  refine pure_ (i := 9) (N := some 5) (v := ?_) (a' := ?_) #[true, true, true, true, true, true, true, true, true, true] rfl rfl (by kernel_rfl) (fun _ _ _ h => h) (Or.inl ⟨by rfl, ?_⟩) ?_ ?_
  rotate_left
  · intro w'
    go_simp
    with_reducible rfl
  rotate_left
  · simp only [Act.put, List.setIfInBounds_toArray, List.set_cons_zero, List.set_cons_succ, i64_w, i32_w]
    rfl
  refine done_ (by kernel_rfl) ?_
  have bx : Blk _ px 68 #[.slice (rowP g how) (rowN how) (rowN how), .int .i64 (toldOf how), .bool (decide (how = 0))] := bx
  generalize ((w'.setCell ⟨px, 0, none⟩ (.slice (rowP g how) (rowN how) (rowN how))).setCell ⟨px, 1, none⟩ (.int .i64 (toldOf how))).setCell ⟨px, 2, none⟩ (.bool (decide (how = 0))) = W2 at *
  clear hHeld
  rw [decide_eq_true HK.out, decide_eq_false H0.out, HT.out]
  rw [decide_eq_false H0.out, HT.out] at bx
  have t0 : ¬ 0 < body.length := by have := HB.out; omega
  have t1 : (how == 101) = false := beq_eq_false_iff_ne.2 HQ.out
  have k0 := b1.cell 0 (v := .int .u32 xid) rfl
  have k2 := b1.cell 2 (v := .int .u32 low) rfl
  have k3 := b1.cell 3 (v := .int .u32 high) rfl
  have k4 := b1.cell 4 (v := .slice A body.length c) rfl
  have c0 := bx.cell 0 (v := .slice (rowP g how) (rowN how) (rowN how)) rfl
  have c1 := bx.cell 1 (v := .int .i64 2) rfl
  have c2 := bx.cell 2 (v := .bool false) rfl
  go_wp2
  clear k2 k3 k4 c1 c2 t0 t1
  have b1 := b1.drew
  have bx := bx.drew
  have hB := below_then hB (below_drawn (w1 := W2.drew) (n := 1) rfl)
  have k0 : W2.drew.cell? _ = _ := k0
  have c0 : W2.drew.cell? _ = _ := c0
  have hN := hN.below (below_drawn (w1 := W2.drew) (n := 1) rfl)
  refine start_ (n := 8) (S := fun w' => w'.cell? ⟨w.heap.size, 0, none⟩ = some (.int .u32 xid) ∧ w'.cell? ⟨px, 0, none⟩ = some (.slice (rowP g how) (rowN how) (rowN how))) (ds := []) #[false, false, false, false, false, false, false, false] (by kernel_rfl) rfl rfl ⟨k0, c0⟩ (fun hHeld => ?_)
  refine pure_ (i := 0) (N := some 58) (v := ?_) (a' := ?_) #[true, false, false, false, false, false, false, false] rfl rfl (by kernel_rfl) (fun _ _ _ h => h) (Or.inl ⟨by rfl, ?_⟩) ?_ ?_
  rotate_left
  · intro w'
    go_simp
    with_reducible rfl
  rotate_left
  · simp only [Act.put, List.setIfInBounds_toArray, List.set_cons_zero, List.set_cons_succ, i64_w, i32_w]
    rfl
  refine pure_ (i := 4) (N := some 62) (v := ?_) (a' := ?_) #[true, false, false, false, true, false, false, false] rfl rfl (by kernel_rfl) (fun _ _ _ h => h) (Or.inl ⟨by rfl, ?_⟩) ?_ ?_
  rotate_left
  · intro w'
    go_simp
    with_reducible rfl
  rotate_left
  · simp only [Act.put, List.setIfInBounds_toArray, List.set_cons_zero, List.set_cons_succ, i64_w, i32_w]
    rfl
  refine take_ (i := 1) (N := some 59) (v := ?_) (a' := ?_) #[true, true, false, false, true, false, false, false] rfl rfl (by kernel_rfl) (fun _ _ _ h => h) (Or.inl ⟨by rfl, ?_⟩) hHeld ?_ ?_
  rotate_left
  · rintro w' ⟨s0, s1⟩
    go_simp
    with_reducible rfl
  rotate_left
  · simp only [Act.put, List.setIfInBounds_toArray, List.set_cons_zero, List.set_cons_succ, i64_w, i32_w]
    rfl
  refine take_ (i := 5) (N := some 63) (v := ?_) (a' := ?_) #[true, true, false, false, true, true, false, false] rfl rfl (by kernel_rfl) (fun _ _ _ h => h) (Or.inl ⟨by rfl, ?_⟩) hHeld ?_ ?_
  rotate_left
  · rintro w' ⟨s0, s1⟩
    go_simp
    with_reducible rfl
  rotate_left
  · simp only [Act.put, List.setIfInBounds_toArray, List.set_cons_zero, List.set_cons_succ, i64_w, i32_w]
    rfl
  refine one_ (i := 2) (N := some 60) #[true, true, true, false, true, true, false, false] rfl rfl (by kernel_rfl) (by decide) (fun K hK => ?_)
  have hlt := b1.lt
  refine value_ (w1 := ?_) (v := ?_) (by rfl) rfl ?_ ?_
  rotate_left 2
  · go_simp
    constructor
    · rfl
    · rfl
  have bs : Blk (W2.alloc (.cells #[.int .u32 xid, .int .u32 1] 22)).drew W2.heap.size 22 #[.int .u32 xid, .int .u32 1] := Blk.new W2 22 #[.int .u32 xid, .int .u32 1]
  have b1 : Blk (W2.alloc (.cells #[.int .u32 xid, .int .u32 1] 22)).drew _ _ _ := b1.alloc (.cells #[.int .u32 xid, .int .u32 1] 22)
  have bx : Blk (W2.alloc (.cells #[.int .u32 xid, .int .u32 1] 22)).drew _ _ _ := bx.alloc (.cells #[.int .u32 xid, .int .u32 1] 22)
  have hN : NumsAt (W2.alloc (.cells #[.int .u32 xid, .int .u32 1] 22)).drew _ := hN.below ((Below.refl _ W2.drew).alloc (Nat.le_refl _) (.cells #[.int .u32 xid, .int .u32 1] 22))
  have hB : Below w.heap.size w (W2.alloc (.cells #[.int .u32 xid, .int .u32 1] 22)).drew := hB.alloc hB.size (.cells #[.int .u32 xid, .int .u32 1] 22)
  have k0 := b1.cell 0 (v := .int .u32 xid) rfl
  have c0 := bx.cell 0 (v := .slice (rowP g how) (rowN how) (rowN how)) rfl
  have hs1 := RdN.of_blk (l := [xid, 1]) (U4.two hx0 hx1) bs
  generalize (W2.alloc (.cells #[.int .u32 xid, .int .u32 1] 22)).drew = w4 at *
  refine hK.out _ _ ⟨k0, c0⟩ (fun hHeld => ?_)
  clear hK K
  refine norm_ (a' := ?_) ?_ ?_
  rotate_left
  · show Act.put _ (some 60) _ = _
    simp only [Act.put, List.setIfInBounds_toArray, List.set_cons_zero, List.set_cons_succ, i64_w, i32_w]
    rfl
  refine one_ (i := 3) (N := some 61) #[true, true, true, true, true, true, false, false] rfl rfl (by kernel_rfl) (by decide) (fun K hK => ?_)
  refine goes_ Tryd.func31 (by kernel_rfl) rfl #[.slice none 0 0, .slice (some ⟨W2.heap.size, 0, none⟩) 2 2] (by rfl) rfl rfl (by simp only [List.map_toArray, List.map_cons, List.map_nil]; rfl) ?_
  with_reducible refine (repput' w4 w.heap.size (.slice none 0 0) [] (Own.nil _ _) (some ⟨W2.heap.size, 0, none⟩) 2 2 [xid, 1] (by omega) rfl hs1 (by simp [Value.ownBlock]) (by simp) hB.size).mono ?_
  rintro e w5 ⟨v5, rfl, o5, hg5, hv5⟩
  refine ⟨_, rfl, ?_⟩
  have hx5 : Below w4.heap.size w4 w5 := ⟨hg5.os, hg5.tape, hg5.output, hg5.size, fun i hi => hg5.block i hi (by simp [Value.ownBlock])⟩
  have k05 := cell_later hx5 k0
  have c05 := cell_later hx5 c0
  refine hK.out _ _ ⟨k05, c05⟩ (fun hHeld => ?_)
  clear hK K
  refine norm_ (a' := ?_) ?_ ?_
  rotate_left
  · show Act.put _ (some 61) _ = _
    simp only [Act.put, List.setIfInBounds_toArray, List.set_cons_zero, List.set_cons_succ, i64_w, i32_w]
    rfl
  refine one_ (i := 6) (N := some 64) #[true, true, true, true, true, true, true, false] rfl rfl (by kernel_rfl) (by decide) (fun K hK => ?_)
  refine goes_ Tryd.func31 (by kernel_rfl) rfl #[v5, .slice (rowP g how) (rowN how) (rowN how)] (by rfl) rfl rfl (by simp only [List.map_toArray, List.map_cons, List.map_nil]; rfl) ?_
  with_reducible refine (repput' w5 w.heap.size v5 _ o5 (rowP g how) (rowN how) (rowN how) (rowF how) (Nat.le_refl _) (rowF_length how) ((hN.row how).below hx5) (hN.apart hv5) (by have := rowN_le how; rw [List.nil_append, rw4_length]; simp; omega) (Nat.le_trans hB.size hx5.size)).mono ?_
  rintro e w6 ⟨v6, rfl, o6, hg6, hv6⟩
  refine ⟨_, rfl, ?_⟩
  have hg46 : w4.grownBy w6 none := (hx5.asGrown).andThen hg6 (fun j hj => by rcases hv5 j hj with h | h; exact .inl h; simp [Value.ownBlock] at h)
  have hx6 := hg46.asBelow
  have k06 := cell_later hx6 k0
  have c06 := cell_later hx6 c0
  refine hK.out _ _ ⟨k06, c06⟩ (fun hHeld => ?_)
  clear hK K
  refine norm_ (a' := ?_) ?_ ?_
  rotate_left
  · show Act.put _ (some 64) _ = _
    simp only [Act.put, List.setIfInBounds_toArray, List.set_cons_zero, List.set_cons_succ, i64_w, i32_w]
    rfl
  refine pure_ (i := 7) (N := some 6) (v := ?_) (a' := ?_) #[true, true, true, true, true, true, true, true] rfl rfl (by kernel_rfl) (fun _ _ _ h => h) (Or.inl ⟨by rfl, ?_⟩) ?_ ?_
  rotate_left
  · intro w'
    go_simp
    with_reducible rfl
  rotate_left
  · simp only [Act.put, List.setIfInBounds_toArray, List.set_cons_zero, List.set_cons_succ, i64_w, i32_w]
    rfl
  refine done_ (by kernel_rfl) ?_
  have b1x := b1.below hx6
  have bxx := bx.below hx6
  have hBx := below_then hB hx6
  have k2 := b1x.cell 2 (v := .int .u32 low) rfl
  have k3 := b1x.cell 3 (v := .int .u32 high) rfl
  have k4 := b1x.cell 4 (v := .slice A body.length c) rfl
  have c1 := bxx.cell 1 (v := .int .i64 2) rfl
  have hv6' : ∀ j, v6.ownBlock = some j → w4.heap.size ≤ j := fun j hj => by
    rcases hv6 j hj with h | h
    · exact Nat.le_trans hx5.size h
    · rcases hv5 j h with h | h
      · exact h
      · simp [Value.ownBlock] at h
  clear hHeld hg5 hg6 hv5 hv6 hg46 k05 c05 k06 c06 hs1 o5
  go_wp2_with fail
  have k2 : w6.drew.cell? _ = _ := k2
  have k3 : w6.drew.cell? _ = _ := k3
  have k4 : w6.drew.cell? _ = _ := k4
  have c1 : w6.drew.cell? _ = _ := c1
  refine start_ (n := 14) (S := fun w' => w'.cell? ⟨w.heap.size, 2, none⟩ = some (.int .u32 low) ∧ w'.cell? ⟨w.heap.size, 3, none⟩ = some (.int .u32 high) ∧ w'.cell? ⟨w.heap.size, 4, none⟩ = some (.slice A body.length c) ∧ w'.cell? ⟨px, 1, none⟩ = some (.int .i64 2)) (ds := []) #[false, false, false, false, false, false, false, false, false, false, false, false, false, false] (by kernel_rfl) rfl rfl ⟨k2, k3, k4, c1⟩ (fun hHeld => ?_)
  refine pure_ (i := 0) (N := some 65) (v := ?_) (a' := ?_) #[true, false, false, false, false, false, false, false, false, false, false, false, false, false] rfl rfl (by kernel_rfl) (fun _ _ _ h => h) (Or.inl ⟨by rfl, ?_⟩) ?_ ?_
  rotate_left
  · intro w'
    go_simp
    with_reducible rfl
  rotate_left
  · simp only [Act.put, List.setIfInBounds_toArray, List.set_cons_zero, List.set_cons_succ, i64_w, i32_w]
    rfl
  refine pure_ (i := 1) (N := some 66) (v := ?_) (a' := ?_) #[true, true, false, false, false, false, false, false, false, false, false, false, false, false] rfl rfl (by kernel_rfl) (fun _ _ _ h => h) (Or.inl ⟨by rfl, ?_⟩) ?_ ?_
  rotate_left
  · intro w'
    go_simp
    with_reducible rfl
  rotate_left
  · simp only [Act.put, List.setIfInBounds_toArray, List.set_cons_zero, List.set_cons_succ, i64_w, i32_w]
    rfl
  refine pure_ (i := 3) (N := some 68) (v := ?_) (a' := ?_) #[true, true, false, true, false, false, false, false, false, false, false, false, false, false] rfl rfl (by kernel_rfl) (fun _ _ _ h => h) (Or.inl ⟨by rfl, ?_⟩) ?_ ?_
  rotate_left
  · intro w'
    go_simp
    with_reducible rfl
  rotate_left
  · simp only [Act.put, List.setIfInBounds_toArray, List.set_cons_zero, List.set_cons_succ, i64_w, i32_w]
    rfl
  refine pure_ (i := 6) (N := some 71) (v := ?_) (a' := ?_) #[true, true, false, true, false, false, true, false, false, false, false, false, false, false] rfl rfl (by kernel_rfl) (fun _ _ _ h => h) (Or.inl ⟨by rfl, ?_⟩) ?_ ?_
  rotate_left
  · intro w'
    go_simp
    with_reducible rfl
  rotate_left
  · simp only [Act.put, List.setIfInBounds_toArray, List.set_cons_zero, List.set_cons_succ, i64_w, i32_w]
    rfl
  refine pure_ (i := 10) (N := some 75) (v := ?_) (a' := ?_) #[true, true, false, true, false, false, true, false, false, false, true, false, false, false] rfl rfl (by kernel_rfl) (fun _ _ _ h => h) (Or.inl ⟨by rfl, ?_⟩) ?_ ?_
  rotate_left
  · intro w'
    go_simp
    with_reducible rfl
  rotate_left
  · simp only [Act.put, List.setIfInBounds_toArray, List.set_cons_zero, List.set_cons_succ, i64_w, i32_w]
    rfl
  refine take_ (i := 2) (N := some 67) (v := ?_) (a' := ?_) #[true, true, true, true, false, false, true, false, false, false, true, false, false, false] rfl rfl (by kernel_rfl) (fun _ _ _ h => h) (Or.inl ⟨by rfl, ?_⟩) hHeld ?_ ?_
  rotate_left
  · rintro w' ⟨s0, s1, s2, s3⟩
    go_simp
    with_reducible rfl
  rotate_left
  · simp only [Act.put, List.setIfInBounds_toArray, List.set_cons_zero, List.set_cons_succ, i64_w, i32_w]
    rfl
  refine take_ (i := 4) (N := some 69) (v := ?_) (a' := ?_) #[true, true, true, true, true, false, true, false, false, false, true, false, false, false] rfl rfl (by kernel_rfl) (fun _ _ _ h => h) (Or.inl ⟨by rfl, ?_⟩) hHeld ?_ ?_
  rotate_left
  · rintro w' ⟨s0, s1, s2, s3⟩
    go_simp
    with_reducible rfl
  rotate_left
  · simp only [Act.put, List.setIfInBounds_toArray, List.set_cons_zero, List.set_cons_succ, i64_w, i32_w]
    rfl
  refine take_ (i := 7) (N := some 72) (v := ?_) (a' := ?_) #[true, true, true, true, true, false, true, true, false, false, true, false, false, false] rfl rfl (by kernel_rfl) (fun _ _ _ h => h) (Or.inl ⟨by rfl, ?_⟩) hHeld ?_ ?_
  rotate_left
  · rintro w' ⟨s0, s1, s2, s3⟩
    go_simp
    with_reducible rfl
  rotate_left
  · simp only [Act.put, List.setIfInBounds_toArray, List.set_cons_zero, List.set_cons_succ, i64_w, i32_w]
    rfl
  refine take_ (i := 11) (N := some 76) (v := ?_) (a' := ?_) #[true, true, true, true, true, false, true, true, false, false, true, true, false, false] rfl rfl (by kernel_rfl) (fun _ _ _ h => h) (Or.inl ⟨by rfl, ?_⟩) hHeld ?_ ?_
  rotate_left
  · rintro w' ⟨s0, s1, s2, s3⟩
    go_simp
    with_reducible rfl
  rotate_left
  · simp only [Act.put, List.setIfInBounds_toArray, List.set_cons_zero, List.set_cons_succ, i64_w, i32_w]
    rfl
  refine one_ (i := 5) (N := some 70) #[true, true, true, true, true, true, true, true, false, false, true, true, false, false] rfl rfl (by kernel_rfl) (by decide) (fun K hK => ?_)
  refine value_ (w1 := ?_) (v := ?_) (by rfl) rfl ?_ ?_
  rotate_left 2
  · go_simp
    constructor
    · rfl
    · rfl
  have hx7 : Below w4.heap.size w4 (w6.alloc (.cells #[.int .u32 low, .int .u32 high] 22)).drew := (hx6.alloc hx6.size (.cells #[.int .u32 low, .int .u32 high] 22)).drew
  have o7 : Own (w6.alloc (.cells #[.int .u32 low, .int .u32 high] 22)).drew w.heap.size v6 _ := o6.alloc (.cells #[.int .u32 low, .int .u32 high] 22)
  have bs : Blk (w6.alloc (.cells #[.int .u32 low, .int .u32 high] 22)).drew w6.heap.size 22 #[.int .u32 low, .int .u32 high] := Blk.new w6 22 #[.int .u32 low, .int .u32 high]
  have hs7 := (RdN.of_blk (l := [low, high]) (U4.pair hl0 hl1 hi0 hi1) bs).take 2
  have hne : ∀ ad, some (⟨w6.heap.size, 0, none⟩ : Addr) = some ad → some ad.block ≠ v6.ownBlock := fun ad h => by (cases h; intro e; have := (o6.2.lt _ e.symm).2; simp at this)
  generalize (w6.alloc (.cells #[.int .u32 low, .int .u32 high] 22)).drew = w7 at *
  have k27 := cell_later hx7 (b1.cell 2 (v := .int .u32 low) rfl)
  have k37 := cell_later hx7 (b1.cell 3 (v := .int .u32 high) rfl)
  have k47 := cell_later hx7 (b1.cell 4 (v := .slice A body.length c) rfl)
  have c17 := cell_later hx7 (bx.cell 1 (v := .int .i64 2) rfl)
  refine hK.out _ _ ⟨k27, k37, k47, c17⟩ (fun hHeld => ?_)
  clear hK K
  refine norm_ (a' := ?_) ?_ ?_
  rotate_left
  · show Act.put _ (some 70) _ = _
    simp only [Act.put, List.setIfInBounds_toArray, List.set_cons_zero, List.set_cons_succ, i64_w, i32_w]
    rfl
  refine pure_ (i := 8) (N := some 73) (v := ?_) (a' := ?_) #[true, true, true, true, true, true, true, true, true, false, true, true, false, false] rfl rfl (by kernel_rfl) (fun _ _ _ h => h) (Or.inl ⟨by rfl, ?_⟩) ?_ ?_
  rotate_left
  · intro w'
    go_simp
    with_reducible rfl
  rotate_left
  · simp only [Act.put, List.setIfInBounds_toArray, List.set_cons_zero, List.set_cons_succ, i64_w, i32_w]
    rfl
  refine one_ (i := 9) (N := some 74) #[true, true, true, true, true, true, true, true, true, true, true, true, false, false] rfl rfl (by kernel_rfl) (by decide) (fun K hK => ?_)
  refine goes_ Tryd.func31 (by kernel_rfl) rfl #[v6, .slice (some ⟨w6.heap.size, 0, none⟩) 2 2] (by rfl) rfl rfl (by simp only [List.map_toArray, List.map_cons, List.map_nil]; rfl) ?_
  with_reducible refine (repput' w7 w.heap.size v6 _ o7 (some ⟨w6.heap.size, 0, none⟩) 2 2 ([low, high].take 2) (by omega) rfl hs7 hne (by have := rowN_le how; simp [rw4_length, rowF_length]; omega) (Nat.le_trans hB.size hx7.size)).mono ?_
  rintro e w8 ⟨v8, rfl, o8, hg8, hv8⟩
  refine ⟨_, rfl, ?_⟩
  have hx8 := (hx7.asGrown.andThen hg8 (fun j hj => .inl (hv6' j hj))).asBelow
  have k28 := cell_later hx8 (b1.cell 2 (v := .int .u32 low) rfl)
  have k38 := cell_later hx8 (b1.cell 3 (v := .int .u32 high) rfl)
  have k48 := cell_later hx8 (b1.cell 4 (v := .slice A body.length c) rfl)
  have c18 := cell_later hx8 (bx.cell 1 (v := .int .i64 2) rfl)
  have hB8 := below_then hB hx8
  refine hK.out _ _ ⟨k28, k38, k48, c18⟩ (fun hHeld => ?_)
  clear hK K
  refine norm_ (a' := ?_) ?_ ?_
  rotate_left
  · show Act.put _ (some 74) _ = _
    simp only [Act.put, List.setIfInBounds_toArray, List.set_cons_zero, List.set_cons_succ, i64_w, i32_w]
    rfl
  refine one_ (i := 12) (N := some 77) #[true, true, true, true, true, true, true, true, true, true, true, true, true, false] rfl rfl (by kernel_rfl) (by decide) (fun K hK => ?_)
  rw [if_pos (by rfl)]
  refine wp_app _ _ rfl rfl _ w.heap.size v8 _ rfl o8 A c body rfl (hr.below hB8) (by have := rowN_le how; simp [rw4_length, rowF_length]; omega) hB8.size ?_
  intro v9 w9 ho9 hg9 hv9
  have hv8' : ∀ j, v8.ownBlock = some j → w4.heap.size ≤ j := fun j hj => by rcases hv8 j hj with h | h; exact Nat.le_trans hx7.size h; exact hv6' j h
  have hx9 := (hx8.asGrown.andThen hg9 (fun j hj => .inl (hv8' j hj))).asBelow
  have k29 := cell_later hx9 (b1.cell 2 (v := .int .u32 low) rfl)
  have k39 := cell_later hx9 (b1.cell 3 (v := .int .u32 high) rfl)
  have k49 := cell_later hx9 (b1.cell 4 (v := .slice A body.length c) rfl)
  have c19 := cell_later hx9 (bx.cell 1 (v := .int .i64 2) rfl)
  have hB9 := below_then hB hx9
  refine hK.out _ _ ⟨k29, k39, k49, c19⟩ (fun hHeld => ?_)
  clear hK K
  refine norm_ (a' := ?_) ?_ ?_
  rotate_left
  · show Act.put _ (some 77) _ = _
    simp only [Act.put, List.setIfInBounds_toArray, List.set_cons_zero, List.set_cons_succ, i64_w, i32_w]
    rfl
  refine pure_ (i := 13) (N := some 6) (v := ?_) (a' := ?_) #[true, true, true, true, true, true, true, true, true, true, true, true, true, true] rfl rfl (by kernel_rfl) (fun _ _ _ h => h) (Or.inl ⟨by rfl, ?_⟩) ?_ ?_
  rotate_left
  · intro w'
    go_simp
    with_reducible rfl
  rotate_left
  · simp only [Act.put, List.setIfInBounds_toArray, List.set_cons_zero, List.set_cons_succ, i64_w, i32_w]
    rfl
  refine done_ (by kernel_rfl) ?_
  have hlen : putL xid how low high body = [] ++ rw4 [xid, 1] ++ rw4 (rowF how) ++ rw4 ([low, high].take 2) ++ body := by unfold putL; rw [HT.out]; rfl
  rw [← hlen] at ho9
  obtain ⟨L, hLd⟩ : ∃ L, L = putL xid how low high body := ⟨_, rfl⟩
  rw [← hLd] at ho9 hlen
  have HD := Lib.hid hLd
  obtain ⟨A9, c9, rfl, _, _, r9⟩ := ho9.form
  clear hLd hHeld hlen hx9 hv8' k29 k39 k49 c19 hg9 hv9 hB8 o8 hg8 hv8 hx8 o7 o6 hv6'
  by_cases hlen : L.length ≤ 65536
  · have ht : ¬ 65536 < (L.length : Int) := by omega
    have HL := Lib.hid hlen
    clear hlen
    go_wp2
    go_ret2
    exact ⟨PutEnd.fits (by rw [← HD.out]; exact HL.out) rfl (by rw [← HD.out]; exact ho9), hB9⟩
  · have ht : 65536 < (L.length : Int) := by omega
    have HL := Lib.hid hlen
    clear hlen
    go_wp2
    go_ret2
    exact ⟨PutEnd.long (by rw [← HD.out]; exact HL.out) rfl, hB9⟩


set_option maxRecDepth 100000 in
set_option maxHeartbeats 4000000 in
theorem put_zero (xid how low high : Int) (A : Option Addr) (c : Nat) (body : List Int) (w : World) (hx0 : 0 ≤ xid) (hx1 : xid < 4294967296) (hh0 : 0 ≤ how) (hh1 : how < 4294967296) (hl0 : 0 ≤ low) (hl1 : low < 4294967296) (hi0 : 0 ≤ high) (hi1 : high < 4294967296)
    (hr : Rd w A body) (hc : body.length ≤ c) (hn : body.length ≤ 1048000) (hk : how ∈ keysL) (h0 : how = 0) (hq : ¬ how = 101) (ht : toldOf how = 0) (hlo : low = 0) (hhi : high = 0) :
    Calls Tryd.prog 7 #[.agg #[.int .u32 xid, .int .u32 how, .int .u32 low, .int .u32 high, .slice A body.length c]] w fun e w' => PutEnd w.heap.size (putL xid how low high body) e w' ∧ Below w.heap.size w w' := by
  have b1 := Blk.new w 26 #[.int .u32 xid, .int .u32 how, .int .u32 low, .int .u32 high, .slice A body.length c]
  have hB : Below w.heap.size w (w.alloc (.cells #[.int .u32 xid, .int .u32 how, .int .u32 low, .int .u32 high, .slice A body.length c] 26)) := (Below.refl _ _).alloc (Nat.le_refl _) _
  have HK := Lib.hid hk
  have H0 := Lib.hid h0
  have HQ := Lib.hid hq
  have HT := Lib.hid ht
  have HLO := Lib.hid hlo
  have HHI := Lib.hid hhi
  clear hk h0 hq ht hlo hhi
  go_enter Tryd.func7, Tryd.ntmps7
  go_wp2_with fail
  generalize w.alloc (.cells #[.int .u32 xid, .int .u32 how, .int .u32 low, .int .u32 high, .slice A body.length c] 26) = W at *
  have hB := below_then hB (below_drawn (w1 := W.drew) (n := 1) rfl)
  have b1 := b1.drew
  have k1 := b1.cell 1 (v := .int .u32 how) rfl
  refine start_ (n := 10) (S := fun w' => w'.cell? ⟨w.heap.size, 1, none⟩ = some (.int .u32 how)) (ds := []) #[false, false, false, false, false, false, false, false, false, false] (by kernel_rfl) rfl rfl (k1) (fun hHeld => ?_)
  refine pure_ (i := 1) (N := some 9) (v := ?_) (a' := ?_) #[false, true, false, false, false, false, false, false, false, false] rfl rfl (by kernel_rfl) (fun _ _ _ h => h) (Or.inl ⟨by rfl, ?_⟩) ?_ ?_
  rotate_left
  · intro w'
    go_simp
    with_reducible rfl
  rotate_left
  · simp only [Act.put, List.setIfInBounds_toArray, List.set_cons_zero, List.set_cons_succ, i64_w, i32_w]
    rfl
  refine take_ (i := 2) (N := some 10) (v := ?_) (a' := ?_) #[false, true, true, false, false, false, false, false, false, false] rfl rfl (by kernel_rfl) (fun _ _ _ h => h) (Or.inl ⟨by rfl, ?_⟩) hHeld ?_ ?_
  rotate_left
  · intro w' s0
    go_simp
    with_reducible rfl
  rotate_left
  · simp only [Act.put, List.setIfInBounds_toArray, List.set_cons_zero, List.set_cons_succ, i64_w, i32_w]
    rfl
  refine join_ (σ := Nat × (Nat → Nat) × Nat) 2 #[true, true, true, true, true, true, true, true, false, false] (fun s' => [(8, .map (some s'.1)), (11, .tuple #[.agg #[.slice (rowP s'.2.1 how) (rowN how) (rowN how), .int .i64 (toldOf how), .bool (decide (how = 0))], .bool (decide (how ∈ keysL))]), (7, .tuple #[.agg #[.slice (rowP s'.2.1 how) (rowN how) (rowN how), .int .i64 (toldOf how), .bool (decide (how = 0))], .bool (decide (how ∈ keysL))]), (12, .agg #[.slice (rowP s'.2.1 how) (rowN how) (rowN how), .int .i64 (toldOf how), .bool (decide (how = 0))]), (13, .bool (decide (how ∈ keysL))), (4, .pointer (some ⟨s'.2.2, 0, none⟩))]) (fun s' w' => w'.cell? ⟨w.heap.size, 1, none⟩ = some (.int .u32 how) ∧ Below w.heap.size w w' ∧ Blk w' w.heap.size 26 #[.int .u32 xid, .int .u32 how, .int .u32 low, .int .u32 high, .slice A body.length c] ∧ Blk w' s'.2.2 68 #[.slice none 0 0, .int .i64 0, .bool false] ∧ w.heap.size < s'.2.2 ∧ NumsAt w' s'.2.1 ∧ (∀ k ∈ keysL, s'.2.1 (ixOf k) ≠ s'.2.2)) ?_ ?_
  rotate_left
  · intro hCont
    refine two_ (i := 0) (j := 7) (Ni := some 8) (Nj := some 4) #[true, true, true, false, false, false, false, false, false, false] #[false, true, true, false, false, false, false, true, false, false] rfl rfl rfl rfl (by kernel_rfl) (by decide) (by decide) (fun K hK => ?_) (fun K hK => ?_)
    · skip
      refine goes_ Tryd.func29 (by kernel_rfl) rfl #[] (by rfl) rfl rfl (by simp only [List.map_toArray, List.map_cons, List.map_nil]) ?_
      with_reducible refine (rows_all _).mono ?_
      rintro e w3 ⟨b, g, rfl, hbb, hgk, hM, hN, hbx⟩
      refine ⟨_, rfl, ?_⟩
      have k1 := cell_later hbx k1
      have b1 := b1.below hbx
      have hB := below_then hB hbx
      refine hK.out _ _ (k1) (fun hHeld => ?_)
      clear hK K
      refine norm_ (a' := ?_) ?_ ?_
      rotate_left
      · show Act.put _ (some 8) _ = _
        simp only [Act.put, List.setIfInBounds_toArray, List.set_cons_zero, List.set_cons_succ, i64_w, i32_w]
        rfl
      refine two_ (i := 3) (j := 7) (Ni := some 11) (Nj := some 4) #[true, true, true, true, false, false, false, false, false, false] #[true, true, true, false, false, false, false, true, false, false] rfl rfl rfl rfl (by kernel_rfl) (by decide) (by decide) (fun K hK => ?_) (fun K hK => ?_)
      · skip
        have hq := look2 hM hh0 hh1
        rw [rowK_or, in_keys] at hq
        refine value_ (w1 := ?_) (v := ?_) (by rfl) rfl ?_ ?_
        rotate_left 2
        · go_simp
          constructor
          · rfl
          · rfl
        clear hq
        refine hK.out _ _ (k1) (fun hHeld => ?_)
        clear hK K
        refine norm_ (a' := ?_) ?_ ?_
        rotate_left
        · show Act.put _ (some 11) _ = _
          simp only [Act.put, List.setIfInBounds_toArray, List.set_cons_zero, List.set_cons_succ, i64_w, i32_w]
          rfl
        refine pure_ (i := 4) (N := some 7) (v := ?_) (a' := ?_) #[true, true, true, true, true, false, false, false, false, false] rfl rfl (by kernel_rfl) (fun _ _ _ h => h) (Or.inl ⟨by rfl, ?_⟩) ?_ ?_
        rotate_left
        · intro w'
          go_simp
          with_reducible rfl
        rotate_left
        · simp only [Act.put, List.setIfInBounds_toArray, List.set_cons_zero, List.set_cons_succ, i64_w, i32_w]
          rfl
        refine pure_ (i := 5) (N := some 12) (v := ?_) (a' := ?_) #[true, true, true, true, true, true, false, false, false, false] rfl rfl (by kernel_rfl) (fun _ _ _ h => h) (Or.inl ⟨by rfl, ?_⟩) ?_ ?_
        rotate_left
        · intro w'
          go_simp
          with_reducible rfl
        rotate_left
        · simp only [Act.put, List.setIfInBounds_toArray, List.set_cons_zero, List.set_cons_succ, i64_w, i32_w]
          rfl
        refine pure_ (i := 6) (N := some 13) (v := ?_) (a' := ?_) #[true, true, true, true, true, true, true, false, false, false] rfl rfl (by kernel_rfl) (fun _ _ _ h => h) (Or.inl ⟨by rfl, ?_⟩) ?_ ?_
        rotate_left
        · intro w'
          go_simp
          with_reducible rfl
        rotate_left
        · simp only [Act.put, List.setIfInBounds_toArray, List.set_cons_zero, List.set_cons_succ, i64_w, i32_w]
          rfl
        refine one_ (i := 7) (N := some 4) #[true, true, true, true, true, true, true, true, false, false] rfl rfl (by kernel_rfl) (by decide) (fun K hK => ?_)
        refine value_ (w1 := ?_) (v := ?_) (by rfl) rfl ?_ ?_
        rotate_left 2
        · go_simp
          constructor
          · rfl
          · rfl
        have hlt : w.heap.size < w3.heap.size := b1.lt
        have bx := Blk.new w3 68 #[.slice none 0 0, .int .i64 0, .bool false]
        have b1 := b1.alloc (.cells #[.slice none 0 0, .int .i64 0, .bool false] 68)
        have k1 := cell_old k1 (.cells #[.slice none 0 0, .int .i64 0, .bool false] 68)
        have hB := hB.alloc hB.size (.cells #[.slice none 0 0, .int .i64 0, .bool false] 68)
        have hpg : ∀ k ∈ keysL, g (ixOf k) ≠ w3.heap.size := fun k hk => by have := (hN k hk).lt; omega
        have hM := hM.below ((Below.refl _ w3).alloc (Nat.le_refl _) (.cells #[.slice none 0 0, .int .i64 0, .bool false] 68))
        have hN := hN.below ((Below.refl _ w3).alloc (Nat.le_refl _) (.cells #[.slice none 0 0, .int .i64 0, .bool false] 68))
        refine hK.out _ _ (k1) (fun hHeld => ?_)
        clear hK K
        refine norm_ (a' := ?_) ?_ ?_
        rotate_left
        · show Act.put _ (some 4) _ = _
          simp only [Act.put, List.setIfInBounds_toArray, List.set_cons_zero, List.set_cons_succ, i64_w, i32_w]
          rfl
        exact norm_ (by simp only [putAll, Act.put, List.setIfInBounds_toArray, List.set_cons_zero, List.set_cons_succ]) (hCont (b, g, w3.heap.size) _ ⟨k1, hB, b1, bx, hlt, hN, hpg⟩)
      · skip
        refine value_ (w1 := ?_) (v := ?_) (by rfl) rfl ?_ ?_
        rotate_left 2
        · go_simp
          constructor
          · rfl
          · rfl
        have hlt : w.heap.size < w3.heap.size := b1.lt
        have bx := Blk.new w3 68 #[.slice none 0 0, .int .i64 0, .bool false]
        have b1 := b1.alloc (.cells #[.slice none 0 0, .int .i64 0, .bool false] 68)
        have k1 := cell_old k1 (.cells #[.slice none 0 0, .int .i64 0, .bool false] 68)
        have hB := hB.alloc hB.size (.cells #[.slice none 0 0, .int .i64 0, .bool false] 68)
        have hpg : ∀ k ∈ keysL, g (ixOf k) ≠ w3.heap.size := fun k hk => by have := (hN k hk).lt; omega
        have hM := hM.below ((Below.refl _ w3).alloc (Nat.le_refl _) (.cells #[.slice none 0 0, .int .i64 0, .bool false] 68))
        have hN := hN.below ((Below.refl _ w3).alloc (Nat.le_refl _) (.cells #[.slice none 0 0, .int .i64 0, .bool false] 68))
        refine hK.out _ _ (k1) (fun hHeld => ?_)
        clear hK K
        refine norm_ (a' := ?_) ?_ ?_
        rotate_left
        · show Act.put _ (some 4) _ = _
          simp only [Act.put, List.setIfInBounds_toArray, List.set_cons_zero, List.set_cons_succ, i64_w, i32_w]
          rfl
        refine one_ (i := 3) (N := some 11) #[true, true, true, true, false, false, false, true, false, false] rfl rfl (by kernel_rfl) (by decide) (fun K hK => ?_)
        have hq := look2 hM hh0 hh1
        rw [rowK_or, in_keys] at hq
        refine value_ (w1 := ?_) (v := ?_) (by rfl) rfl ?_ ?_
        rotate_left 2
        · go_simp
          constructor
          · rfl
          · rfl
        clear hq
        refine hK.out _ _ (k1) (fun hHeld => ?_)
        clear hK K
        refine norm_ (a' := ?_) ?_ ?_
        rotate_left
        · show Act.put _ (some 11) _ = _
          simp only [Act.put, List.setIfInBounds_toArray, List.set_cons_zero, List.set_cons_succ, i64_w, i32_w]
          rfl
        refine pure_ (i := 4) (N := some 7) (v := ?_) (a' := ?_) #[true, true, true, true, true, false, false, true, false, false] rfl rfl (by kernel_rfl) (fun _ _ _ h => h) (Or.inl ⟨by rfl, ?_⟩) ?_ ?_
        rotate_left
        · intro w'
          go_simp
          with_reducible rfl
        rotate_left
        · simp only [Act.put, List.setIfInBounds_toArray, List.set_cons_zero, List.set_cons_succ, i64_w, i32_w]
          rfl
        refine pure_ (i := 5) (N := some 12) (v := ?_) (a' := ?_) #[true, true, true, true, true, true, false, true, false, false] rfl rfl (by kernel_rfl) (fun _ _ _ h => h) (Or.inl ⟨by rfl, ?_⟩) ?_ ?_
        rotate_left
        · intro w'
          go_simp
          with_reducible rfl
        rotate_left
        · simp only [Act.put, List.setIfInBounds_toArray, List.set_cons_zero, List.set_cons_succ, i64_w, i32_w]
          rfl
        refine pure_ (i := 6) (N := some 13) (v := ?_) (a' := ?_) #[true, true, true, true, true, true, true, true, false, false] rfl rfl (by kernel_rfl) (fun _ _ _ h => h) (Or.inl ⟨by rfl, ?_⟩) ?_ ?_
        rotate_left
        · intro w'
          go_simp
          with_reducible rfl
        rotate_left
        · simp only [Act.put, List.setIfInBounds_toArray, List.set_cons_zero, List.set_cons_succ, i64_w, i32_w]
          rfl
        exact norm_ (by simp only [putAll, Act.put, List.setIfInBounds_toArray, List.set_cons_zero, List.set_cons_succ]) (hCont (b, g, w3.heap.size) _ ⟨k1, hB, b1, bx, hlt, hN, hpg⟩)
    · skip
      refine value_ (w1 := ?_) (v := ?_) (by rfl) rfl ?_ ?_
      rotate_left 2
      · go_simp
        constructor
        · rfl
        · rfl
      have hlt : w.heap.size < W.heap.size := b1.lt
      have bx := Blk.new W.drew 68 #[.slice none 0 0, .int .i64 0, .bool false]
      have b1 := b1.alloc (.cells #[.slice none 0 0, .int .i64 0, .bool false] 68)
      have k1 := cell_old k1 (.cells #[.slice none 0 0, .int .i64 0, .bool false] 68)
      have hB := hB.alloc hB.size (.cells #[.slice none 0 0, .int .i64 0, .bool false] 68)
      refine hK.out _ _ (k1) (fun hHeld => ?_)
      clear hK K
      refine norm_ (a' := ?_) ?_ ?_
      rotate_left
      · show Act.put _ (some 4) _ = _
        simp only [Act.put, List.setIfInBounds_toArray, List.set_cons_zero, List.set_cons_succ, i64_w, i32_w]
        rfl
      refine one_ (i := 0) (N := some 8) #[true, true, true, false, false, false, false, true, false, false] rfl rfl (by kernel_rfl) (by decide) (fun K hK => ?_)
      refine goes_ Tryd.func29 (by kernel_rfl) rfl #[] (by rfl) rfl rfl (by simp only [List.map_toArray, List.map_cons, List.map_nil]) ?_
      with_reducible refine (rows_all _).mono ?_
      rintro e w3 ⟨b, g, rfl, hbb, hgk, hM, hN, hbx⟩
      refine ⟨_, rfl, ?_⟩
      have k1 := cell_later hbx k1
      have b1 := b1.below hbx
      have bx := bx.below hbx
      have hpg : ∀ k ∈ keysL, g (ixOf k) ≠ W.drew.heap.size := fun k hk => by have := hgk k hk; simp at hbb ⊢; omega
      have hB := below_then hB hbx
      refine hK.out _ _ (k1) (fun hHeld => ?_)
      clear hK K
      refine norm_ (a' := ?_) ?_ ?_
      rotate_left
      · show Act.put _ (some 8) _ = _
        simp only [Act.put, List.setIfInBounds_toArray, List.set_cons_zero, List.set_cons_succ, i64_w, i32_w]
        rfl
      refine one_ (i := 3) (N := some 11) #[true, true, true, true, false, false, false, true, false, false] rfl rfl (by kernel_rfl) (by decide) (fun K hK => ?_)
      have hq := look2 hM hh0 hh1
      rw [rowK_or, in_keys] at hq
      refine value_ (w1 := ?_) (v := ?_) (by rfl) rfl ?_ ?_
      rotate_left 2
      · go_simp
        constructor
        · rfl
        · rfl
      clear hq
      refine hK.out _ _ (k1) (fun hHeld => ?_)
      clear hK K
      refine norm_ (a' := ?_) ?_ ?_
      rotate_left
      · show Act.put _ (some 11) _ = _
        simp only [Act.put, List.setIfInBounds_toArray, List.set_cons_zero, List.set_cons_succ, i64_w, i32_w]
        rfl
      refine pure_ (i := 4) (N := some 7) (v := ?_) (a' := ?_) #[true, true, true, true, true, false, false, true, false, false] rfl rfl (by kernel_rfl) (fun _ _ _ h => h) (Or.inl ⟨by rfl, ?_⟩) ?_ ?_
      rotate_left
      · intro w'
        go_simp
        with_reducible rfl
      rotate_left
      · simp only [Act.put, List.setIfInBounds_toArray, List.set_cons_zero, List.set_cons_succ, i64_w, i32_w]
        rfl
      refine pure_ (i := 5) (N := some 12) (v := ?_) (a' := ?_) #[true, true, true, true, true, true, false, true, false, false] rfl rfl (by kernel_rfl) (fun _ _ _ h => h) (Or.inl ⟨by rfl, ?_⟩) ?_ ?_
      rotate_left
      · intro w'
        go_simp
        with_reducible rfl
      rotate_left
      · simp only [Act.put, List.setIfInBounds_toArray, List.set_cons_zero, List.set_cons_succ, i64_w, i32_w]
        rfl
      refine pure_ (i := 6) (N := some 13) (v := ?_) (a' := ?_) #[true, true, true, true, true, true, true, true, false, false] rfl rfl (by kernel_rfl) (fun _ _ _ h => h) (Or.inl ⟨by rfl, ?_⟩) ?_ ?_
      rotate_left
      · intro w'
        go_simp
        with_reducible rfl
      rotate_left
      · simp only [Act.put, List.setIfInBounds_toArray, List.set_cons_zero, List.set_cons_succ, i64_w, i32_w]
        rfl
      exact norm_ (by simp only [putAll, Act.put, List.setIfInBounds_toArray, List.set_cons_zero, List.set_cons_succ]) (hCont (b, g, W.heap.size) _ ⟨k1, hB, b1, bx, hlt, hN, hpg⟩)
  clear hB b1
  rintro ⟨b, g, px⟩ w' ⟨k1, hB, b1, bx, hpx, hN, hpg⟩
  have hHeld : w'.cell? ⟨w.heap.size, 1, none⟩ = some (.int .u32 how) := k1
  refine norm_ (a' := ?_) ?_ ?_
  rotate_left
  · simp only [putAll, Act.put, List.setIfInBounds_toArray, List.set_cons_zero, List.set_cons_succ]
    rfl
  refine one_ (i := 8) (N := none) #[true, true, true, true, true, true, true, true, true, false] rfl rfl (by kernel_rfl) (by decide) (fun K hK => ?_)
  have c0 := bx.cell 0 (v := .slice none 0 0) rfl
  have c1 := bx.cell 1 (v := .int .i64 0) rfl
  have c2 := bx.cell 2 (v := .bool false) rfl
  have f0 := bx.frozen 0
  have f1 := bx.frozen 1
  have f2 := bx.frozen 2
  refine skip_ (w1 := ?_) (by rfl) rfl ?_ ?_
  rotate_left
  · go_simp
    rfl
  have bx := ((bx.set_ 0 (.slice (rowP g how) (rowN how) (rowN how))).set_ 1 (.int .i64 (toldOf how))).set_ 2 (.bool (decide (how = 0)))
  have b1 := ((b1.far (p := ⟨px, 0, none⟩) (Nat.ne_of_lt hpx) (.slice (rowP g how) (rowN how) (rowN how))).far (p := ⟨px, 1, none⟩) (Nat.ne_of_lt hpx) (.int .i64 (toldOf how))).far (p := ⟨px, 2, none⟩) (Nat.ne_of_lt hpx) (.bool (decide (how = 0)))
  have hN := hN.set3 px (.slice (rowP g how) (rowN how) (rowN how)) (.int .i64 (toldOf how)) (.bool (decide (how = 0))) hpg
  have hB := ((hB.setCell (p := ⟨px, 0, none⟩) (Nat.le_of_lt hpx) (.slice (rowP g how) (rowN how) (rowN how))).setCell (p := ⟨px, 1, none⟩) (Nat.le_of_lt hpx) (.int .i64 (toldOf how))).setCell (p := ⟨px, 2, none⟩) (Nat.le_of_lt hpx) (.bool (decide (how = 0)))
  have k1 := b1.cell 1 (v := .int .u32 how) rfl
  clear c0 c1 c2 f0 f1 f2
  refine hK.out _ _ (k1) (fun hHeld => ?_)
  clear hK K
  refine pure_ (i := 9) (N := some 5) (v := ?_) (a' := ?_) #[true, true, true, true, true, true, true, true, true, true] rfl rfl (by kernel_rfl) (fun _ _ _ h => h) (Or.inl ⟨by rfl, ?_⟩) ?_ ?_
  rotate_left
  · intro w'
    go_simp
    with_reducible rfl
  rotate_left
  · simp only [Act.put, List.setIfInBounds_toArray, List.set_cons_zero, List.set_cons_succ, i64_w, i32_w]
    rfl
  refine done_ (by kernel_rfl) ?_
  have bx : Blk _ px 68 #[.slice (rowP g how) (rowN how) (rowN how), .int .i64 (toldOf how), .bool (decide (how = 0))] := bx
  generalize ((w'.setCell ⟨px, 0, none⟩ (.slice (rowP g how) (rowN how) (rowN how))).setCell ⟨px, 1, none⟩ (.int .i64 (toldOf how))).setCell ⟨px, 2, none⟩ (.bool (decide (how = 0))) = W2 at *
  clear hHeld
  rw [decide_eq_true HK.out, decide_eq_true H0.out, HT.out]
  rw [decide_eq_true H0.out, HT.out] at bx
  have t0 : (low != 0) = false := bne_eq_false_iff_eq.2 HLO.out
  have t1 : (high != 0) = false := bne_eq_false_iff_eq.2 HHI.out
  have t2 : (how == 101) = false := beq_eq_false_iff_ne.2 HQ.out
  have k0 := b1.cell 0 (v := .int .u32 xid) rfl
  have k2 := b1.cell 2 (v := .int .u32 low) rfl
  have k3 := b1.cell 3 (v := .int .u32 high) rfl
  have k4 := b1.cell 4 (v := .slice A body.length c) rfl
  have c0 := bx.cell 0 (v := .slice (rowP g how) (rowN how) (rowN how)) rfl
  have c1 := bx.cell 1 (v := .int .i64 0) rfl
  have c2 := bx.cell 2 (v := .bool true) rfl
  go_wp2
  clear k2 k3 k4 c1 c2 t0 t1 t2
  have b1 := b1.drew
  have bx := bx.drew
  have hB := below_then hB (below_drawn (w1 := W2.drew) (n := 1) rfl)
  have k0 : W2.drew.cell? _ = _ := k0
  have c0 : W2.drew.cell? _ = _ := c0
  have hN := hN.below (below_drawn (w1 := W2.drew) (n := 1) rfl)
  refine start_ (n := 8) (S := fun w' => w'.cell? ⟨w.heap.size, 0, none⟩ = some (.int .u32 xid) ∧ w'.cell? ⟨px, 0, none⟩ = some (.slice (rowP g how) (rowN how) (rowN how))) (ds := []) #[false, false, false, false, false, false, false, false] (by kernel_rfl) rfl rfl ⟨k0, c0⟩ (fun hHeld => ?_)
  refine pure_ (i := 0) (N := some 58) (v := ?_) (a' := ?_) #[true, false, false, false, false, false, false, false] rfl rfl (by kernel_rfl) (fun _ _ _ h => h) (Or.inl ⟨by rfl, ?_⟩) ?_ ?_
  rotate_left
  · intro w'
    go_simp
    with_reducible rfl
  rotate_left
  · simp only [Act.put, List.setIfInBounds_toArray, List.set_cons_zero, List.set_cons_succ, i64_w, i32_w]
    rfl
  refine pure_ (i := 4) (N := some 62) (v := ?_) (a' := ?_) #[true, false, false, false, true, false, false, false] rfl rfl (by kernel_rfl) (fun _ _ _ h => h) (Or.inl ⟨by rfl, ?_⟩) ?_ ?_
  rotate_left
  · intro w'
    go_simp
    with_reducible rfl
  rotate_left
  · simp only [Act.put, List.setIfInBounds_toArray, List.set_cons_zero, List.set_cons_succ, i64_w, i32_w]
    rfl
  refine take_ (i := 1) (N := some 59) (v := ?_) (a' := ?_) #[true, true, false, false, true, false, false, false] rfl rfl (by kernel_rfl) (fun _ _ _ h => h) (Or.inl ⟨by rfl, ?_⟩) hHeld ?_ ?_
  rotate_left
  · rintro w' ⟨s0, s1⟩
    go_simp
    with_reducible rfl
  rotate_left
  · simp only [Act.put, List.setIfInBounds_toArray, List.set_cons_zero, List.set_cons_succ, i64_w, i32_w]
    rfl
  refine take_ (i := 5) (N := some 63) (v := ?_) (a' := ?_) #[true, true, false, false, true, true, false, false] rfl rfl (by kernel_rfl) (fun _ _ _ h => h) (Or.inl ⟨by rfl, ?_⟩) hHeld ?_ ?_
  rotate_left
  · rintro w' ⟨s0, s1⟩
    go_simp
    with_reducible rfl
  rotate_left
  · simp only [Act.put, List.setIfInBounds_toArray, List.set_cons_zero, List.set_cons_succ, i64_w, i32_w]
    rfl
  refine one_ (i := 2) (N := some 60) #[true, true, true, false, true, true, false, false] rfl rfl (by kernel_rfl) (by decide) (fun K hK => ?_)
  have hlt := b1.lt
  refine value_ (w1 := ?_) (v := ?_) (by rfl) rfl ?_ ?_
  rotate_left 2
  · go_simp
    constructor
    · rfl
    · rfl
  have bs : Blk (W2.alloc (.cells #[.int .u32 xid, .int .u32 1] 22)).drew W2.heap.size 22 #[.int .u32 xid, .int .u32 1] := Blk.new W2 22 #[.int .u32 xid, .int .u32 1]
  have b1 : Blk (W2.alloc (.cells #[.int .u32 xid, .int .u32 1] 22)).drew _ _ _ := b1.alloc (.cells #[.int .u32 xid, .int .u32 1] 22)
  have bx : Blk (W2.alloc (.cells #[.int .u32 xid, .int .u32 1] 22)).drew _ _ _ := bx.alloc (.cells #[.int .u32 xid, .int .u32 1] 22)
  have hN : NumsAt (W2.alloc (.cells #[.int .u32 xid, .int .u32 1] 22)).drew _ := hN.below ((Below.refl _ W2.drew).alloc (Nat.le_refl _) (.cells #[.int .u32 xid, .int .u32 1] 22))
  have hB : Below w.heap.size w (W2.alloc (.cells #[.int .u32 xid, .int .u32 1] 22)).drew := hB.alloc hB.size (.cells #[.int .u32 xid, .int .u32 1] 22)
  have k0 := b1.cell 0 (v := .int .u32 xid) rfl
  have c0 := bx.cell 0 (v := .slice (rowP g how) (rowN how) (rowN how)) rfl
  have hs1 := RdN.of_blk (l := [xid, 1]) (U4.two hx0 hx1) bs
  generalize (W2.alloc (.cells #[.int .u32 xid, .int .u32 1] 22)).drew = w4 at *
  refine hK.out _ _ ⟨k0, c0⟩ (fun hHeld => ?_)
  clear hK K
  refine norm_ (a' := ?_) ?_ ?_
  rotate_left
  · show Act.put _ (some 60) _ = _
    simp only [Act.put, List.setIfInBounds_toArray, List.set_cons_zero, List.set_cons_succ, i64_w, i32_w]
    rfl
  refine one_ (i := 3) (N := some 61) #[true, true, true, true, true, true, false, false] rfl rfl (by kernel_rfl) (by decide) (fun K hK => ?_)
  refine goes_ Tryd.func31 (by kernel_rfl) rfl #[.slice none 0 0, .slice (some ⟨W2.heap.size, 0, none⟩) 2 2] (by rfl) rfl rfl (by simp only [List.map_toArray, List.map_cons, List.map_nil]; rfl) ?_
  with_reducible refine (repput' w4 w.heap.size (.slice none 0 0) [] (Own.nil _ _) (some ⟨W2.heap.size, 0, none⟩) 2 2 [xid, 1] (by omega) rfl hs1 (by simp [Value.ownBlock]) (by simp) hB.size).mono ?_
  rintro e w5 ⟨v5, rfl, o5, hg5, hv5⟩
  refine ⟨_, rfl, ?_⟩
  have hx5 : Below w4.heap.size w4 w5 := ⟨hg5.os, hg5.tape, hg5.output, hg5.size, fun i hi => hg5.block i hi (by simp [Value.ownBlock])⟩
  have k05 := cell_later hx5 k0
  have c05 := cell_later hx5 c0
  refine hK.out _ _ ⟨k05, c05⟩ (fun hHeld => ?_)
  clear hK K
  refine norm_ (a' := ?_) ?_ ?_
  rotate_left
  · show Act.put _ (some 61) _ = _
    simp only [Act.put, List.setIfInBounds_toArray, List.set_cons_zero, List.set_cons_succ, i64_w, i32_w]
    rfl
  refine one_ (i := 6) (N := some 64) #[true, true, true, true, true, true, true, false] rfl rfl (by kernel_rfl) (by decide) (fun K hK => ?_)
  refine goes_ Tryd.func31 (by kernel_rfl) rfl #[v5, .slice (rowP g how) (rowN how) (rowN how)] (by rfl) rfl rfl (by simp only [List.map_toArray, List.map_cons, List.map_nil]; rfl) ?_
  with_reducible refine (repput' w5 w.heap.size v5 _ o5 (rowP g how) (rowN how) (rowN how) (rowF how) (Nat.le_refl _) (rowF_length how) ((hN.row how).below hx5) (hN.apart hv5) (by have := rowN_le how; rw [List.nil_append, rw4_length]; simp; omega) (Nat.le_trans hB.size hx5.size)).mono ?_
  rintro e w6 ⟨v6, rfl, o6, hg6, hv6⟩
  refine ⟨_, rfl, ?_⟩
  have hg46 : w4.grownBy w6 none := (hx5.asGrown).andThen hg6 (fun j hj => by rcases hv5 j hj with h | h; exact .inl h; simp [Value.ownBlock] at h)
  have hx6 := hg46.asBelow
  have k06 := cell_later hx6 k0
  have c06 := cell_later hx6 c0
  refine hK.out _ _ ⟨k06, c06⟩ (fun hHeld => ?_)
  clear hK K
  refine norm_ (a' := ?_) ?_ ?_
  rotate_left
  · show Act.put _ (some 64) _ = _
    simp only [Act.put, List.setIfInBounds_toArray, List.set_cons_zero, List.set_cons_succ, i64_w, i32_w]
    rfl
  refine pure_ (i := 7) (N := some 6) (v := ?_) (a' := ?_) #[true, true, true, true, true, true, true, true] rfl rfl (by kernel_rfl) (fun _ _ _ h => h) (Or.inl ⟨by rfl, ?_⟩) ?_ ?_
  rotate_left
  · intro w'
    go_simp
    with_reducible rfl
  rotate_left
  · simp only [Act.put, List.setIfInBounds_toArray, List.set_cons_zero, List.set_cons_succ, i64_w, i32_w]
    rfl
  refine done_ (by kernel_rfl) ?_
  have b1x := b1.below hx6
  have bxx := bx.below hx6
  have hBx := below_then hB hx6
  have k2 := b1x.cell 2 (v := .int .u32 low) rfl
  have k3 := b1x.cell 3 (v := .int .u32 high) rfl
  have k4 := b1x.cell 4 (v := .slice A body.length c) rfl
  have c1 := bxx.cell 1 (v := .int .i64 0) rfl
  have hv6' : ∀ j, v6.ownBlock = some j → w4.heap.size ≤ j := fun j hj => by
    rcases hv6 j hj with h | h
    · exact Nat.le_trans hx5.size h
    · rcases hv5 j h with h | h
      · exact h
      · simp [Value.ownBlock] at h
  clear hHeld hg5 hg6 hv5 hv6 hg46 k05 c05 k06 c06 hs1 o5
  go_wp2_with fail
  have k2 : w6.drew.cell? _ = _ := k2
  have k3 : w6.drew.cell? _ = _ := k3
  have k4 : w6.drew.cell? _ = _ := k4
  have c1 : w6.drew.cell? _ = _ := c1
  refine start_ (n := 14) (S := fun w' => w'.cell? ⟨w.heap.size, 2, none⟩ = some (.int .u32 low) ∧ w'.cell? ⟨w.heap.size, 3, none⟩ = some (.int .u32 high) ∧ w'.cell? ⟨w.heap.size, 4, none⟩ = some (.slice A body.length c) ∧ w'.cell? ⟨px, 1, none⟩ = some (.int .i64 0)) (ds := []) #[false, false, false, false, false, false, false, false, false, false, false, false, false, false] (by kernel_rfl) rfl rfl ⟨k2, k3, k4, c1⟩ (fun hHeld => ?_)
  refine pure_ (i := 0) (N := some 65) (v := ?_) (a' := ?_) #[true, false, false, false, false, false, false, false, false, false, false, false, false, false] rfl rfl (by kernel_rfl) (fun _ _ _ h => h) (Or.inl ⟨by rfl, ?_⟩) ?_ ?_
  rotate_left
  · intro w'
    go_simp
    with_reducible rfl
  rotate_left
  · simp only [Act.put, List.setIfInBounds_toArray, List.set_cons_zero, List.set_cons_succ, i64_w, i32_w]
    rfl
  refine pure_ (i := 1) (N := some 66) (v := ?_) (a' := ?_) #[true, true, false, false, false, false, false, false, false, false, false, false, false, false] rfl rfl (by kernel_rfl) (fun _ _ _ h => h) (Or.inl ⟨by rfl, ?_⟩) ?_ ?_
  rotate_left
  · intro w'
    go_simp
    with_reducible rfl
  rotate_left
  · simp only [Act.put, List.setIfInBounds_toArray, List.set_cons_zero, List.set_cons_succ, i64_w, i32_w]
    rfl
  refine pure_ (i := 3) (N := some 68) (v := ?_) (a' := ?_) #[true, true, false, true, false, false, false, false, false, false, false, false, false, false] rfl rfl (by kernel_rfl) (fun _ _ _ h => h) (Or.inl ⟨by rfl, ?_⟩) ?_ ?_
  rotate_left
  · intro w'
    go_simp
    with_reducible rfl
  rotate_left
  · simp only [Act.put, List.setIfInBounds_toArray, List.set_cons_zero, List.set_cons_succ, i64_w, i32_w]
    rfl
  refine pure_ (i := 6) (N := some 71) (v := ?_) (a' := ?_) #[true, true, false, true, false, false, true, false, false, false, false, false, false, false] rfl rfl (by kernel_rfl) (fun _ _ _ h => h) (Or.inl ⟨by rfl, ?_⟩) ?_ ?_
  rotate_left
  · intro w'
    go_simp
    with_reducible rfl
  rotate_left
  · simp only [Act.put, List.setIfInBounds_toArray, List.set_cons_zero, List.set_cons_succ, i64_w, i32_w]
    rfl
  refine pure_ (i := 10) (N := some 75) (v := ?_) (a' := ?_) #[true, true, false, true, false, false, true, false, false, false, true, false, false, false] rfl rfl (by kernel_rfl) (fun _ _ _ h => h) (Or.inl ⟨by rfl, ?_⟩) ?_ ?_
  rotate_left
  · intro w'
    go_simp
    with_reducible rfl
  rotate_left
  · simp only [Act.put, List.setIfInBounds_toArray, List.set_cons_zero, List.set_cons_succ, i64_w, i32_w]
    rfl
  refine take_ (i := 2) (N := some 67) (v := ?_) (a' := ?_) #[true, true, true, true, false, false, true, false, false, false, true, false, false, false] rfl rfl (by kernel_rfl) (fun _ _ _ h => h) (Or.inl ⟨by rfl, ?_⟩) hHeld ?_ ?_
  rotate_left
  · rintro w' ⟨s0, s1, s2, s3⟩
    go_simp
    with_reducible rfl
  rotate_left
  · simp only [Act.put, List.setIfInBounds_toArray, List.set_cons_zero, List.set_cons_succ, i64_w, i32_w]
    rfl
  refine take_ (i := 4) (N := some 69) (v := ?_) (a' := ?_) #[true, true, true, true, true, false, true, false, false, false, true, false, false, false] rfl rfl (by kernel_rfl) (fun _ _ _ h => h) (Or.inl ⟨by rfl, ?_⟩) hHeld ?_ ?_
  rotate_left
  · rintro w' ⟨s0, s1, s2, s3⟩
    go_simp
    with_reducible rfl
  rotate_left
  · simp only [Act.put, List.setIfInBounds_toArray, List.set_cons_zero, List.set_cons_succ, i64_w, i32_w]
    rfl
  refine take_ (i := 7) (N := some 72) (v := ?_) (a' := ?_) #[true, true, true, true, true, false, true, true, false, false, true, false, false, false] rfl rfl (by kernel_rfl) (fun _ _ _ h => h) (Or.inl ⟨by rfl, ?_⟩) hHeld ?_ ?_
  rotate_left
  · rintro w' ⟨s0, s1, s2, s3⟩
    go_simp
    with_reducible rfl
  rotate_left
  · simp only [Act.put, List.setIfInBounds_toArray, List.set_cons_zero, List.set_cons_succ, i64_w, i32_w]
    rfl
  refine take_ (i := 11) (N := some 76) (v := ?_) (a' := ?_) #[true, true, true, true, true, false, true, true, false, false, true, true, false, false] rfl rfl (by kernel_rfl) (fun _ _ _ h => h) (Or.inl ⟨by rfl, ?_⟩) hHeld ?_ ?_
  rotate_left
  · rintro w' ⟨s0, s1, s2, s3⟩
    go_simp
    with_reducible rfl
  rotate_left
  · simp only [Act.put, List.setIfInBounds_toArray, List.set_cons_zero, List.set_cons_succ, i64_w, i32_w]
    rfl
  refine one_ (i := 5) (N := some 70) #[true, true, true, true, true, true, true, true, false, false, true, true, false, false] rfl rfl (by kernel_rfl) (by decide) (fun K hK => ?_)
  refine value_ (w1 := ?_) (v := ?_) (by rfl) rfl ?_ ?_
  rotate_left 2
  · go_simp
    constructor
    · rfl
    · rfl
  have hx7 : Below w4.heap.size w4 (w6.alloc (.cells #[.int .u32 low, .int .u32 high] 22)).drew := (hx6.alloc hx6.size (.cells #[.int .u32 low, .int .u32 high] 22)).drew
  have o7 : Own (w6.alloc (.cells #[.int .u32 low, .int .u32 high] 22)).drew w.heap.size v6 _ := o6.alloc (.cells #[.int .u32 low, .int .u32 high] 22)
  have bs : Blk (w6.alloc (.cells #[.int .u32 low, .int .u32 high] 22)).drew w6.heap.size 22 #[.int .u32 low, .int .u32 high] := Blk.new w6 22 #[.int .u32 low, .int .u32 high]
  have hs7 := (RdN.of_blk (l := [low, high]) (U4.pair hl0 hl1 hi0 hi1) bs).take 0
  have hne : ∀ ad, some (⟨w6.heap.size, 0, none⟩ : Addr) = some ad → some ad.block ≠ v6.ownBlock := fun ad h => by (cases h; intro e; have := (o6.2.lt _ e.symm).2; simp at this)
  generalize (w6.alloc (.cells #[.int .u32 low, .int .u32 high] 22)).drew = w7 at *
  have k27 := cell_later hx7 (b1.cell 2 (v := .int .u32 low) rfl)
  have k37 := cell_later hx7 (b1.cell 3 (v := .int .u32 high) rfl)
  have k47 := cell_later hx7 (b1.cell 4 (v := .slice A body.length c) rfl)
  have c17 := cell_later hx7 (bx.cell 1 (v := .int .i64 0) rfl)
  refine hK.out _ _ ⟨k27, k37, k47, c17⟩ (fun hHeld => ?_)
  clear hK K
  refine norm_ (a' := ?_) ?_ ?_
  rotate_left
  · show Act.put _ (some 70) _ = _
    simp only [Act.put, List.setIfInBounds_toArray, List.set_cons_zero, List.set_cons_succ, i64_w, i32_w]
    rfl
  refine pure_ (i := 8) (N := some 73) (v := ?_) (a' := ?_) #[true, true, true, true, true, true, true, true, true, false, true, true, false, false] rfl rfl (by kernel_rfl) (fun _ _ _ h => h) (Or.inl ⟨by rfl, ?_⟩) ?_ ?_
  rotate_left
  · intro w'
    go_simp
    with_reducible rfl
  rotate_left
  · simp only [Act.put, List.setIfInBounds_toArray, List.set_cons_zero, List.set_cons_succ, i64_w, i32_w]
    rfl
  refine one_ (i := 9) (N := some 74) #[true, true, true, true, true, true, true, true, true, true, true, true, false, false] rfl rfl (by kernel_rfl) (by decide) (fun K hK => ?_)
  refine goes_ Tryd.func31 (by kernel_rfl) rfl #[v6, .slice (some ⟨w6.heap.size, 0, none⟩) 0 2] (by rfl) rfl rfl (by simp only [List.map_toArray, List.map_cons, List.map_nil]; rfl) ?_
  with_reducible refine (repput' w7 w.heap.size v6 _ o7 (some ⟨w6.heap.size, 0, none⟩) 0 2 ([low, high].take 0) (by omega) rfl hs7 hne (by have := rowN_le how; simp [rw4_length, rowF_length]; omega) (Nat.le_trans hB.size hx7.size)).mono ?_
  rintro e w8 ⟨v8, rfl, o8, hg8, hv8⟩
  refine ⟨_, rfl, ?_⟩
  have hx8 := (hx7.asGrown.andThen hg8 (fun j hj => .inl (hv6' j hj))).asBelow
  have k28 := cell_later hx8 (b1.cell 2 (v := .int .u32 low) rfl)
  have k38 := cell_later hx8 (b1.cell 3 (v := .int .u32 high) rfl)
  have k48 := cell_later hx8 (b1.cell 4 (v := .slice A body.length c) rfl)
  have c18 := cell_later hx8 (bx.cell 1 (v := .int .i64 0) rfl)
  have hB8 := below_then hB hx8
  refine hK.out _ _ ⟨k28, k38, k48, c18⟩ (fun hHeld => ?_)
  clear hK K
  refine norm_ (a' := ?_) ?_ ?_
  rotate_left
  · show Act.put _ (some 74) _ = _
    simp only [Act.put, List.setIfInBounds_toArray, List.set_cons_zero, List.set_cons_succ, i64_w, i32_w]
    rfl
  refine one_ (i := 12) (N := some 77) #[true, true, true, true, true, true, true, true, true, true, true, true, true, false] rfl rfl (by kernel_rfl) (by decide) (fun K hK => ?_)
  rw [if_pos (by rfl)]
  refine wp_app _ _ rfl rfl _ w.heap.size v8 _ rfl o8 A c body rfl (hr.below hB8) (by have := rowN_le how; simp [rw4_length, rowF_length]; omega) hB8.size ?_
  intro v9 w9 ho9 hg9 hv9
  have hv8' : ∀ j, v8.ownBlock = some j → w4.heap.size ≤ j := fun j hj => by rcases hv8 j hj with h | h; exact Nat.le_trans hx7.size h; exact hv6' j h
  have hx9 := (hx8.asGrown.andThen hg9 (fun j hj => .inl (hv8' j hj))).asBelow
  have k29 := cell_later hx9 (b1.cell 2 (v := .int .u32 low) rfl)
  have k39 := cell_later hx9 (b1.cell 3 (v := .int .u32 high) rfl)
  have k49 := cell_later hx9 (b1.cell 4 (v := .slice A body.length c) rfl)
  have c19 := cell_later hx9 (bx.cell 1 (v := .int .i64 0) rfl)
  have hB9 := below_then hB hx9
  refine hK.out _ _ ⟨k29, k39, k49, c19⟩ (fun hHeld => ?_)
  clear hK K
  refine norm_ (a' := ?_) ?_ ?_
  rotate_left
  · show Act.put _ (some 77) _ = _
    simp only [Act.put, List.setIfInBounds_toArray, List.set_cons_zero, List.set_cons_succ, i64_w, i32_w]
    rfl
  refine pure_ (i := 13) (N := some 6) (v := ?_) (a' := ?_) #[true, true, true, true, true, true, true, true, true, true, true, true, true, true] rfl rfl (by kernel_rfl) (fun _ _ _ h => h) (Or.inl ⟨by rfl, ?_⟩) ?_ ?_
  rotate_left
  · intro w'
    go_simp
    with_reducible rfl
  rotate_left
  · simp only [Act.put, List.setIfInBounds_toArray, List.set_cons_zero, List.set_cons_succ, i64_w, i32_w]
    rfl
  refine done_ (by kernel_rfl) ?_
  have hlen : putL xid how low high body = [] ++ rw4 [xid, 1] ++ rw4 (rowF how) ++ rw4 ([low, high].take 0) ++ body := by unfold putL; rw [HT.out]; rfl
  rw [← hlen] at ho9
  obtain ⟨L, hLd⟩ : ∃ L, L = putL xid how low high body := ⟨_, rfl⟩
  rw [← hLd] at ho9 hlen
  have HD := Lib.hid hLd
  obtain ⟨A9, c9, rfl, _, _, r9⟩ := ho9.form
  clear hLd hHeld hlen hx9 hv8' k29 k39 k49 c19 hg9 hv9 hB8 o8 hg8 hv8 hx8 o7 o6 hv6'
  by_cases hlen : L.length ≤ 65536
  · have ht : ¬ 65536 < (L.length : Int) := by omega
    have HL := Lib.hid hlen
    clear hlen
    go_wp2
    go_ret2
    exact ⟨PutEnd.fits (by rw [← HD.out]; exact HL.out) rfl (by rw [← HD.out]; exact ho9), hB9⟩
  · have ht : 65536 < (L.length : Int) := by omega
    have HL := Lib.hid hlen
    clear hlen
    go_wp2
    go_ret2
    exact ⟨PutEnd.long (by rw [← HD.out]; exact HL.out) rfl, hB9⟩


set_option maxRecDepth 100000 in
set_option maxHeartbeats 4000000 in
theorem put_plain (xid how low high : Int) (A : Option Addr) (c : Nat) (body : List Int) (w : World) (hx0 : 0 ≤ xid) (hx1 : xid < 4294967296) (hh0 : 0 ≤ how) (hh1 : how < 4294967296) (hl0 : 0 ≤ low) (hl1 : low < 4294967296) (hi0 : 0 ≤ high) (hi1 : high < 4294967296)
    (hr : Rd w A body) (hc : body.length ≤ c) (hn : body.length ≤ 1048000) (hk : how ∈ keysL) (h0 : ¬ how = 0) (hq : ¬ how = 101) (ht : toldOf how = 0) (hb : body.length = 0) (hlo : low = 0) (hhi : high = 0) :
    Calls Tryd.prog 7 #[.agg #[.int .u32 xid, .int .u32 how, .int .u32 low, .int .u32 high, .slice A body.length c]] w fun e w' => PutEnd w.heap.size (putL xid how low high body) e w' ∧ Below w.heap.size w w' := by
  have b1 := Blk.new w 26 #[.int .u32 xid, .int .u32 how, .int .u32 low, .int .u32 high, .slice A body.length c]
  have hB : Below w.heap.size w (w.alloc (.cells #[.int .u32 xid, .int .u32 how, .int .u32 low, .int .u32 high, .slice A body.length c] 26)) := (Below.refl _ _).alloc (Nat.le_refl _) _
  have HK := Lib.hid hk
  have H0 := Lib.hid h0
  have HQ := Lib.hid hq
  have HT := Lib.hid ht
  have HB := Lib.hid hb
  have HLO := Lib.hid hlo
  have HHI := Lib.hid hhi
  clear hk h0 hq ht hb hlo hhi
  go_enter Tryd.func7, Tryd.ntmps7
  go_wp2_with fail
  generalize w.alloc (.cells #[.int .u32 xid, .int .u32 how, .int .u32 low, .int .u32 high, .slice A body.length c] 26) = W at *
  have hB := below_then hB (below_drawn (w1 := W.drew) (n := 1) rfl)
  have b1 := b1.drew
  have k1 := b1.cell 1 (v := .int .u32 how) rfl
  refine start_ (n := 10) (S := fun w' => w'.cell? ⟨w.heap.size, 1, none⟩ = some (.int .u32 how)) (ds := []) #[false, false, false, false, false, false, false, false, false, false] (by kernel_rfl) rfl rfl (k1) (fun hHeld => ?_)
  refine pure_ (i := 1) (N := some 9) (v := ?_) (a' := ?_) #[false, true, false, false, false, false, false, false, false, false] rfl rfl (by kernel_rfl) (fun _ _ _ h => h) (Or.inl ⟨by rfl, ?_⟩) ?_ ?_
  rotate_left
  · intro w'
    go_simp
    with_reducible rfl
  rotate_left
  · simp only [Act.put, List.setIfInBounds_toArray, List.set_cons_zero, List.set_cons_succ, i64_w, i32_w]
    rfl
  refine take_ (i := 2) (N := some 10) (v := ?_) (a' := ?_) #[false, true, true, false, false, false, false, false, false, false] rfl rfl (by kernel_rfl) (fun _ _ _ h => h) (Or.inl ⟨by rfl, ?_⟩) hHeld ?_ ?_
  rotate_left
  · intro w' s0
    go_simp
    with_reducible rfl
  rotate_left
  · simp only [Act.put, List.setIfInBounds_toArray, List.set_cons_zero, List.set_cons_succ, i64_w, i32_w]
    rfl
  refine join_ (σ := Nat × (Nat → Nat) × Nat) 2 #[true, true, true, true, true, true, true, true, false, false] (fun s' => [(8, .map (some s'.1)), (11, .tuple #[.agg #[.slice (rowP s'.2.1 how) (rowN how) (rowN how), .int .i64 (toldOf how), .bool (decide (how = 0))], .bool (decide (how ∈ keysL))]), (7, .tuple #[.agg #[.slice (rowP s'.2.1 how) (rowN how) (rowN how), .int .i64 (toldOf how), .bool (decide (how = 0))], .bool (decide (how ∈ keysL))]), (12, .agg #[.slice (rowP s'.2.1 how) (rowN how) (rowN how), .int .i64 (toldOf how), .bool (decide (how = 0))]), (13, .bool (decide (how ∈ keysL))), (4, .pointer (some ⟨s'.2.2, 0, none⟩))]) (fun s' w' => w'.cell? ⟨w.heap.size, 1, none⟩ = some (.int .u32 how) ∧ Below w.heap.size w w' ∧ Blk w' w.heap.size 26 #[.int .u32 xid, .int .u32 how, .int .u32 low, .int .u32 high, .slice A body.length c] ∧ Blk w' s'.2.2 68 #[.slice none 0 0, .int .i64 0, .bool false] ∧ w.heap.size < s'.2.2 ∧ NumsAt w' s'.2.1 ∧ (∀ k ∈ keysL, s'.2.1 (ixOf k) ≠ s'.2.2)) ?_ ?_
  rotate_left
  · intro hCont
    refine two_ (i := 0) (j := 7) (Ni := some 8) (Nj := some 4) #[true, true, true, false, false, false, false, false, false, false] #[false, true, true, false, false, false, false, true, false, false] rfl rfl rfl rfl (by kernel_rfl) (by decide) (by decide) (fun K hK => ?_) (fun K hK => ?_)
    · skip
      refine goes_ Tryd.func29 (by kernel_rfl) rfl #[] (by rfl) rfl rfl (by simp only [List.map_toArray, List.map_cons, List.map_nil]) ?_
      with_reducible refine (rows_all _).mono ?_
      rintro e w3 ⟨b, g, rfl, hbb, hgk, hM, hN, hbx⟩
      refine ⟨_, rfl, ?_⟩
      have k1 := cell_later hbx k1
      have b1 := b1.below hbx
      have hB := below_then hB hbx
      refine hK.out _ _ (k1) (fun hHeld => ?_)
      clear hK K
      refine norm_ (a' := ?_) ?_ ?_
      rotate_left
      · show Act.put _ (some 8) _ = _
        simp only [Act.put, List.setIfInBounds_toArray, List.set_cons_zero, List.set_cons_succ, i64_w, i32_w]
        rfl
      refine two_ (i := 3) (j := 7) (Ni := some 11) (Nj := some 4) #[true, true, true, true, false, false, false, false, false, false] #[true, true, true, false, false, false, false, true, false, false] rfl rfl rfl rfl (by kernel_rfl) (by decide) (by decide) (fun K hK => ?_) (fun K hK => ?_)
      · skip
        have hq := look2 hM hh0 hh1
        rw [rowK_or, in_keys] at hq
        refine value_ (w1 := ?_) (v := ?_) (by rfl) rfl ?_ ?_
        rotate_left 2
        · go_simp
          constructor
          · rfl
          · rfl
        clear hq
        refine hK.out _ _ (k1) (fun hHeld => ?_)
        clear hK K
        refine norm_ (a' := ?_) ?_ ?_
        rotate_left
        · show Act.put _ (some 11) _ = _
          simp only [Act.put, List.setIfInBounds_toArray, List.set_cons_zero, List.set_cons_succ, i64_w, i32_w]
          rfl
        refine pure_ (i := 4) (N := some 7) (v := ?_) (a' := ?_) #[true, true, true, true, true, false, false, false, false, false] rfl rfl (by kernel_rfl) (fun _ _ _ h => h) (Or.inl ⟨by rfl, ?_⟩) ?_ ?_
        rotate_left
        · intro w'
          go_simp
          with_reducible rfl
        rotate_left
        · simp only [Act.put, List.setIfInBounds_toArray, List.set_cons_zero, List.set_cons_succ, i64_w, i32_w]
          rfl
        refine pure_ (i := 5) (N := some 12) (v := ?_) (a' := ?_) #[true, true, true, true, true, true, false, false, false, false] rfl rfl (by kernel_rfl) (fun _ _ _ h => h) (Or.inl ⟨by rfl, ?_⟩) ?_ ?_
        rotate_left
        · intro w'
          go_simp
          with_reducible rfl
        rotate_left
        · simp only [Act.put, List.setIfInBounds_toArray, List.set_cons_zero, List.set_cons_succ, i64_w, i32_w]
          rfl
        refine pure_ (i := 6) (N := some 13) (v := ?_) (a' := ?_) #[true, true, true, true, true, true, true, false, false, false] rfl rfl (by kernel_rfl) (fun _ _ _ h => h) (Or.inl ⟨by rfl, ?_⟩) ?_ ?_
        rotate_left
        · intro w'
          go_simp
          with_reducible rfl
        rotate_left
        · simp only [Act.put, List.setIfInBounds_toArray, List.set_cons_zero, List.set_cons_succ, i64_w, i32_w]
          rfl
        refine one_ (i := 7) (N := some 4) #[true, true, true, true, true, true, true, true, false, false] rfl rfl (by kernel_rfl) (by decide) (fun K hK => ?_)
        refine value_ (w1 := ?_) (v := ?_) (by rfl) rfl ?_ ?_
        rotate_left 2
        · go_simp
          constructor
          · rfl
          · rfl
        have hlt : w.heap.size < w3.heap.size := b1.lt
        have bx := Blk.new w3 68 #[.slice none 0 0, .int .i64 0, .bool false]
        have b1 := b1.alloc (.cells #[.slice none 0 0, .int .i64 0, .bool false] 68)
        have k1 := cell_old k1 (.cells #[.slice none 0 0, .int .i64 0, .bool false] 68)
        have hB := hB.alloc hB.size (.cells #[.slice none 0 0, .int .i64 0, .bool false] 68)
        have hpg : ∀ k ∈ keysL, g (ixOf k) ≠ w3.heap.size := fun k hk => by have := (hN k hk).lt; omega
        have hM := hM.below ((Below.refl _ w3).alloc (Nat.le_refl _) (.cells #[.slice none 0 0, .int .i64 0, .bool false] 68))
        have hN := hN.below ((Below.refl _ w3).alloc (Nat.le_refl _) (.cells #[.slice none 0 0, .int .i64 0, .bool false] 68))
        refine hK.out _ _ (k1) (fun hHeld => ?_)
        clear hK K
        refine norm_ (a' := ?_) ?_ ?_
        rotate_left
        · show Act.put _ (some 4) _ = _
          simp only [Act.put, List.setIfInBounds_toArray, List.set_cons_zero, List.set_cons_succ, i64_w, i32_w]
          rfl
        exact norm_ (by simp only [putAll, Act.put, List.setIfInBounds_toArray, List.set_cons_zero, List.set_cons_succ]) (hCont (b, g, w3.heap.size) _ ⟨k1, hB, b1, bx, hlt, hN, hpg⟩)
      · skip
        refine value_ (w1 := ?_) (v := ?_) (by rfl) rfl ?_ ?_
        rotate_left 2
        · go_simp
          constructor
          · rfl
          · rfl
        have hlt : w.heap.size < w3.heap.size := b1.lt
        have bx := Blk.new w3 68 #[.slice none 0 0, .int .i64 0, .bool false]
        have b1 := b1.alloc (.cells #[.slice none 0 0, .int .i64 0, .bool false] 68)
        have k1 := cell_old k1 (.cells #[.slice none 0 0, .int .i64 0, .bool false] 68)
        have hB := hB.alloc hB.size (.cells #[.slice none 0 0, .int .i64 0, .bool false] 68)
        have hpg : ∀ k ∈ keysL, g (ixOf k) ≠ w3.heap.size := fun k hk => by have := (hN k hk).lt; omega
        have hM := hM.below ((Below.refl _ w3).alloc (Nat.le_refl _) (.cells #[.slice none 0 0, .int .i64 0, .bool false] 68))
        have hN := hN.below ((Below.refl _ w3).alloc (Nat.le_refl _) (.cells #[.slice none 0 0, .int .i64 0, .bool false] 68))
        refine hK.out _ _ (k1) (fun hHeld => ?_)
        clear hK K
        refine norm_ (a' := ?_) ?_ ?_
        rotate_left
        · show Act.put _ (some 4) _ = _
          simp only [Act.put, List.setIfInBounds_toArray, List.set_cons_zero, List.set_cons_succ, i64_w, i32_w]
          rfl
        refine one_ (i := 3) (N := some 11) #[true, true, true, true, false, false, false, true, false, false] rfl rfl (by kernel_rfl) (by decide) (fun K hK => ?_)
        have hq := look2 hM hh0 hh1
        rw [rowK_or, in_keys] at hq
        refine value_ (w1 := ?_) (v := ?_) (by rfl) rfl ?_ ?_
        rotate_left 2
        · go_simp
          constructor
          · rfl
          · rfl
        clear hq
        refine hK.out _ _ (k1) (fun hHeld => ?_)
        clear hK K
        refine norm_ (a' := ?_) ?_ ?_
        rotate_left
        · show Act.put _ (some 11) _ = _
          simp only [Act.put, List.setIfInBounds_toArray, List.set_cons_zero, List.set_cons_succ, i64_w, i32_w]
          rfl
        refine pure_ (i := 4) (N := some 7) (v := ?_) (a' := ?_) #[true, true, true, true, true, false, false, true, false, false] rfl rfl (by kernel_rfl) (fun _ _ _ h => h) (Or.inl ⟨by rfl, ?_⟩) ?_ ?_
        rotate_left
        · intro w'
          go_simp
          with_reducible rfl
        rotate_left
        · simp only [Act.put, List.setIfInBounds_toArray, List.set_cons_zero, List.set_cons_succ, i64_w, i32_w]
          rfl
        refine pure_ (i := 5) (N := some 12) (v := ?_) (a' := ?_) #[true, true, true, true, true, true, false, true, false, false] rfl rfl (by kernel_rfl) (fun _ _ _ h => h) (Or.inl ⟨by rfl, ?_⟩) ?_ ?_
        rotate_left
        · intro w'
          go_simp
          with_reducible rfl
        rotate_left
        · simp only [Act.put, List.setIfInBounds_toArray, List.set_cons_zero, List.set_cons_succ, i64_w, i32_w]
          rfl
        refine pure_ (i := 6) (N := some 13) (v := ?_) (a' := ?_) #[true, true, true, true, true, true, true, true, false, false] rfl rfl (by kernel_rfl) (fun _ _ _ h => h) (Or.inl ⟨by rfl, ?_⟩) ?_ ?_
        rotate_left
        · intro w'
          go_simp
          with_reducible rfl
        rotate_left
        · simp only [Act.put, List.setIfInBounds_toArray, List.set_cons_zero, List.set_cons_succ, i64_w, i32_w]
          rfl
        exact norm_ (by simp only [putAll, Act.put, List.setIfInBounds_toArray, List.set_cons_zero, List.set_cons_succ]) (hCont (b, g, w3.heap.size) _ ⟨k1, hB, b1, bx, hlt, hN, hpg⟩)
    · skip
      refine value_ (w1 := ?_) (v := ?_) (by rfl) rfl ?_ ?_
      rotate_left 2
      · go_simp
        constructor
        · rfl
        · rfl
      have hlt : w.heap.size < W.heap.size := b1.lt
      have bx := Blk.new W.drew 68 #[.slice none 0 0, .int .i64 0, .bool false]
      have b1 := b1.alloc (.cells #[.slice none 0 0, .int .i64 0, .bool false] 68)
      have k1 := cell_old k1 (.cells #[.slice none 0 0, .int .i64 0, .bool false] 68)
      have hB := hB.alloc hB.size (.cells #[.slice none 0 0, .int .i64 0, .bool false] 68)
      refine hK.out _ _ (k1) (fun hHeld => ?_)
      clear hK K
      refine norm_ (a' := ?_) ?_ ?_
      rotate_left
      · show Act.put _ (some 4) _ = _
        simp only [Act.put, List.setIfInBounds_toArray, List.set_cons_zero, List.set_cons_succ, i64_w, i32_w]
        rfl
      refine one_ (i := 0) (N := some 8) #[true, true, true, false, false, false, false, true, false, false] rfl rfl (by kernel_rfl) (by decide) (fun K hK => ?_)
      refine goes_ Tryd.func29 (by kernel_rfl) rfl #[] (by rfl) rfl rfl (by simp only [List.map_toArray, List.map_cons, List.map_nil]) ?_
      with_reducible refine (rows_all _).mono ?_
      rintro e w3 ⟨b, g, rfl, hbb, hgk, hM, hN, hbx⟩
      refine ⟨_, rfl, ?_⟩
      have k1 := cell_later hbx k1
      have b1 := b1.below hbx
      have bx := bx.below hbx
      have hpg : ∀ k ∈ keysL, g (ixOf k) ≠ W.drew.heap.size := fun k hk => by have := hgk k hk; simp at hbb ⊢; omega
      have hB := below_then hB hbx
      refine hK.out _ _ (k1) (fun hHeld => ?_)
      clear hK K
      refine norm_ (a' := ?_) ?_ ?_
      rotate_left
      · show Act.put _ (some 8) _ = _
        simp only [Act.put, List.setIfInBounds_toArray, List.set_cons_zero, List.set_cons_succ, i64_w, i32_w]
        rfl
      refine one_ (i := 3) (N := some 11) #[true, true, true, true, false, false, false, true, false, false] rfl rfl (by kernel_rfl) (by decide) (fun K hK => ?_)
      have hq := look2 hM hh0 hh1
      rw [rowK_or, in_keys] at hq
      refine value_ (w1 := ?_) (v := ?_) (by rfl) rfl ?_ ?_
      rotate_left 2
      · go_simp
        constructor
        · rfl
        · rfl
      clear hq
      refine hK.out _ _ (k1) (fun hHeld => ?_)
      clear hK K
      refine norm_ (a' := ?_) ?_ ?_
      rotate_left
      · show Act.put _ (some 11) _ = _
        simp only [Act.put, List.setIfInBounds_toArray, List.set_cons_zero, List.set_cons_succ, i64_w, i32_w]
        rfl
      refine pure_ (i := 4) (N := some 7) (v := ?_) (a' := ?_) #[true, true, true, true, true, false, false, true, false, false] rfl rfl (by kernel_rfl) (fun _ _ _ h => h) (Or.inl ⟨by rfl, ?_⟩) ?_ ?_
      rotate_left
      · intro w'
        go_simp
        with_reducible rfl
      rotate_left
      · simp only [Act.put, List.setIfInBounds_toArray, List.set_cons_zero, List.set_cons_succ, i64_w, i32_w]
        rfl
      refine pure_ (i := 5) (N := some 12) (v := ?_) (a' := ?_) #[true, true, true, true, true, true, false, true, false, false] rfl rfl (by kernel_rfl) (fun _ _ _ h => h) (Or.inl ⟨by rfl, ?_⟩) ?_ ?_
      rotate_left
      · intro w'
        go_simp
        with_reducible rfl
      rotate_left
      · simp only [Act.put, List.setIfInBounds_toArray, List.set_cons_zero, List.set_cons_succ, i64_w, i32_w]
        rfl
      refine pure_ (i := 6) (N := some 13) (v := ?_) (a' := ?_) #[true, true, true, true, true, true, true, true, false, false] rfl rfl (by kernel_rfl) (fun _ _ _ h => h) (Or.inl ⟨by rfl, ?_⟩) ?_ ?_
      rotate_left
      · intro w'
        go_simp
        with_reducible rfl
      rotate_left
      · simp only [Act.put, List.setIfInBounds_toArray, List.set_cons_zero, List.set_cons_succ, i64_w, i32_w]
        rfl
      exact norm_ (by simp only [putAll, Act.put, List.setIfInBounds_toArray, List.set_cons_zero, List.set_cons_succ]) (hCont (b, g, W.heap.size) _ ⟨k1, hB, b1, bx, hlt, hN, hpg⟩)
  clear hB b1
  rintro ⟨b, g, px⟩ w' ⟨k1, hB, b1, bx, hpx, hN, hpg⟩
  have hHeld : w'.cell? ⟨w.heap.size, 1, none⟩ = some (.int .u32 how) := k1
  refine norm_ (a' := ?_) ?_ ?_
  rotate_left
  · simp only [putAll, Act.put, List.setIfInBounds_toArray, List.set_cons_zero, List.set_cons_succ]
    rfl
  refine one_ (i := 8) (N := none) #[true, true, true, true, true, true, true, true, true, false] rfl rfl (by kernel_rfl) (by decide) (fun K hK => ?_)
  have c0 := bx.cell 0 (v := .slice none 0 0) rfl
  have c1 := bx.cell 1 (v := .int .i64 0) rfl
  have c2 := bx.cell 2 (v := .bool false) rfl
  have f0 := bx.frozen 0
  have f1 := bx.frozen 1
  have f2 := bx.frozen 2
  refine skip_ (w1 := ?_) (by rfl) rfl ?_ ?_
  rotate_left
  · go_simp
    rfl
  have bx := ((bx.set_ 0 (.slice (rowP g how) (rowN how) (rowN how))).set_ 1 (.int .i64 (toldOf how))).set_ 2 (.bool (decide (how = 0)))
  have b1 := ((b1.far (p := ⟨px, 0, none⟩) (Nat.ne_of_lt hpx) (.slice (rowP g how) (rowN how) (rowN how))).far (p := ⟨px, 1, none⟩) (Nat.ne_of_lt hpx) (.int .i64 (toldOf how))).far (p := ⟨px, 2, none⟩) (Nat.ne_of_lt hpx) (.bool (decide (how = 0)))
  have hN := hN.set3 px (.slice (rowP g how) (rowN how) (rowN how)) (.int .i64 (toldOf how)) (.bool (decide (how = 0))) hpg
  have hB := ((hB.setCell (p := ⟨px, 0, none⟩) (Nat.le_of_lt hpx) (.slice (rowP g how) (rowN how) (rowN how))).setCell (p := ⟨px, 1, none⟩) (Nat.le_of_lt hpx) (.int .i64 (toldOf how))).setCell (p := ⟨px, 2, none⟩) (Nat.le_of_lt hpx) (.bool (decide (how = 0)))
  have k1 := b1.cell 1 (v := .int .u32 how) rfl
  clear c0 c1 c2 f0 f1 f2
  refine hK.out _ _ (k1) (fun hHeld => ?_)
  clear hK K
  refine pure_ (i := 9) (N := some 5) (v := ?_) (a' := ?_) #[true, true, true, true, true, true, true, true, true, true] rfl rfl (by kernel_rfl) (fun _ _ _ h => h) (Or.inl ⟨by rfl, ?_⟩) ?_ ?_
  rotate_left
  · intro w'
    go_simp
    with_reducible rfl
  rotate_left
  · simp only [Act.put, List.setIfInBounds_toArray, List.set_cons_zero, List.set_cons_succ, i64_w, i32_w]
    rfl
  refine done_ (by kernel_rfl) ?_
  have bx : Blk _ px 68 #[.slice (rowP g how) (rowN how) (rowN how), .int .i64 (toldOf how), .bool (decide (how = 0))] := bx
  generalize ((w'.setCell ⟨px, 0, none⟩ (.slice (rowP g how) (rowN how) (rowN how))).setCell ⟨px, 1, none⟩ (.int .i64 (toldOf how))).setCell ⟨px, 2, none⟩ (.bool (decide (how = 0))) = W2 at *
  clear hHeld
  rw [decide_eq_true HK.out, decide_eq_false H0.out, HT.out]
  rw [decide_eq_false H0.out, HT.out] at bx
  have t0 : ¬ 0 < body.length := by have := HB.out; omega
  have t1 : (low != 0) = false := bne_eq_false_iff_eq.2 HLO.out
  have t2 : (high != 0) = false := bne_eq_false_iff_eq.2 HHI.out
  have t3 : (how == 101) = false := beq_eq_false_iff_ne.2 HQ.out
  have k0 := b1.cell 0 (v := .int .u32 xid) rfl
  have k2 := b1.cell 2 (v := .int .u32 low) rfl
  have k3 := b1.cell 3 (v := .int .u32 high) rfl
  have k4 := b1.cell 4 (v := .slice A body.length c) rfl
  have c0 := bx.cell 0 (v := .slice (rowP g how) (rowN how) (rowN how)) rfl
  have c1 := bx.cell 1 (v := .int .i64 0) rfl
  have c2 := bx.cell 2 (v := .bool false) rfl
  go_wp2
  clear k2 k3 k4 c1 c2 t0 t1 t2 t3
  have b1 := b1.drew
  have bx := bx.drew
  have hB := below_then hB (below_drawn (w1 := W2.drew) (n := 1) rfl)
  have k0 : W2.drew.cell? _ = _ := k0
  have c0 : W2.drew.cell? _ = _ := c0
  have hN := hN.below (below_drawn (w1 := W2.drew) (n := 1) rfl)
  refine start_ (n := 8) (S := fun w' => w'.cell? ⟨w.heap.size, 0, none⟩ = some (.int .u32 xid) ∧ w'.cell? ⟨px, 0, none⟩ = some (.slice (rowP g how) (rowN how) (rowN how))) (ds := []) #[false, false, false, false, false, false, false, false] (by kernel_rfl) rfl rfl ⟨k0, c0⟩ (fun hHeld => ?_)
  refine pure_ (i := 0) (N := some 58) (v := ?_) (a' := ?_) #[true, false, false, false, false, false, false, false] rfl rfl (by kernel_rfl) (fun _ _ _ h => h) (Or.inl ⟨by rfl, ?_⟩) ?_ ?_
  rotate_left
  · intro w'
    go_simp
    with_reducible rfl
  rotate_left
  · simp only [Act.put, List.setIfInBounds_toArray, List.set_cons_zero, List.set_cons_succ, i64_w, i32_w]
    rfl
  refine pure_ (i := 4) (N := some 62) (v := ?_) (a' := ?_) #[true, false, false, false, true, false, false, false] rfl rfl (by kernel_rfl) (fun _ _ _ h => h) (Or.inl ⟨by rfl, ?_⟩) ?_ ?_
  rotate_left
  · intro w'
    go_simp
    with_reducible rfl
  rotate_left
  · simp only [Act.put, List.setIfInBounds_toArray, List.set_cons_zero, List.set_cons_succ, i64_w, i32_w]
    rfl
  refine take_ (i := 1) (N := some 59) (v := ?_) (a' := ?_) #[true, true, false, false, true, false, false, false] rfl rfl (by kernel_rfl) (fun _ _ _ h => h) (Or.inl ⟨by rfl, ?_⟩) hHeld ?_ ?_
  rotate_left
  · rintro w' ⟨s0, s1⟩
    go_simp
    with_reducible rfl
  rotate_left
  · simp only [Act.put, List.setIfInBounds_toArray, List.set_cons_zero, List.set_cons_succ, i64_w, i32_w]
    rfl
  refine take_ (i := 5) (N := some 63) (v := ?_) (a' := ?_) #[true, true, false, false, true, true, false, false] rfl rfl (by kernel_rfl) (fun _ _ _ h => h) (Or.inl ⟨by rfl, ?_⟩) hHeld ?_ ?_
  rotate_left
  · rintro w' ⟨s0, s1⟩
    go_simp
    with_reducible rfl
  rotate_left
  · simp only [Act.put, List.setIfInBounds_toArray, List.set_cons_zero, List.set_cons_succ, i64_w, i32_w]
    rfl
  refine one_ (i := 2) (N := some 60) #[true, true, true, false, true, true, false, false] rfl rfl (by kernel_rfl) (by decide) (fun K hK => ?_)
  have hlt := b1.lt
  refine value_ (w1 := ?_) (v := ?_) (by rfl) rfl ?_ ?_
  rotate_left 2
  · go_simp
    constructor
    · rfl
    · rfl
  have bs : Blk (W2.alloc (.cells #[.int .u32 xid, .int .u32 1] 22)).drew W2.heap.size 22 #[.int .u32 xid, .int .u32 1] := Blk.new W2 22 #[.int .u32 xid, .int .u32 1]
  have b1 : Blk (W2.alloc (.cells #[.int .u32 xid, .int .u32 1] 22)).drew _ _ _ := b1.alloc (.cells #[.int .u32 xid, .int .u32 1] 22)
  have bx : Blk (W2.alloc (.cells #[.int .u32 xid, .int .u32 1] 22)).drew _ _ _ := bx.alloc (.cells #[.int .u32 xid, .int .u32 1] 22)
  have hN : NumsAt (W2.alloc (.cells #[.int .u32 xid, .int .u32 1] 22)).drew _ := hN.below ((Below.refl _ W2.drew).alloc (Nat.le_refl _) (.cells #[.int .u32 xid, .int .u32 1] 22))
  have hB : Below w.heap.size w (W2.alloc (.cells #[.int .u32 xid, .int .u32 1] 22)).drew := hB.alloc hB.size (.cells #[.int .u32 xid, .int .u32 1] 22)
  have k0 := b1.cell 0 (v := .int .u32 xid) rfl
  have c0 := bx.cell 0 (v := .slice (rowP g how) (rowN how) (rowN how)) rfl
  have hs1 := RdN.of_blk (l := [xid, 1]) (U4.two hx0 hx1) bs
  generalize (W2.alloc (.cells #[.int .u32 xid, .int .u32 1] 22)).drew = w4 at *
  refine hK.out _ _ ⟨k0, c0⟩ (fun hHeld => ?_)
  clear hK K
  refine norm_ (a' := ?_) ?_ ?_
  rotate_left
  · show Act.put _ (some 60) _ = _
    simp only [Act.put, List.setIfInBounds_toArray, List.set_cons_zero, List.set_cons_succ, i64_w, i32_w]
    rfl
  refine one_ (i := 3) (N := some 61) #[true, true, true, true, true, true, false, false] rfl rfl (by kernel_rfl) (by decide) (fun K hK => ?_)
  refine goes_ Tryd.func31 (by kernel_rfl) rfl #[.slice none 0 0, .slice (some ⟨W2.heap.size, 0, none⟩) 2 2] (by rfl) rfl rfl (by simp only [List.map_toArray, List.map_cons, List.map_nil]; rfl) ?_
  with_reducible refine (repput' w4 w.heap.size (.slice none 0 0) [] (Own.nil _ _) (some ⟨W2.heap.size, 0, none⟩) 2 2 [xid, 1] (by omega) rfl hs1 (by simp [Value.ownBlock]) (by simp) hB.size).mono ?_
  rintro e w5 ⟨v5, rfl, o5, hg5, hv5⟩
  refine ⟨_, rfl, ?_⟩
  have hx5 : Below w4.heap.size w4 w5 := ⟨hg5.os, hg5.tape, hg5.output, hg5.size, fun i hi => hg5.block i hi (by simp [Value.ownBlock])⟩
  have k05 := cell_later hx5 k0
  have c05 := cell_later hx5 c0
  refine hK.out _ _ ⟨k05, c05⟩ (fun hHeld => ?_)
  clear hK K
  refine norm_ (a' := ?_) ?_ ?_
  rotate_left
  · show Act.put _ (some 61) _ = _
    simp only [Act.put, List.setIfInBounds_toArray, List.set_cons_zero, List.set_cons_succ, i64_w, i32_w]
    rfl
  refine one_ (i := 6) (N := some 64) #[true, true, true, true, true, true, true, false] rfl rfl (by kernel_rfl) (by decide) (fun K hK => ?_)
  refine goes_ Tryd.func31 (by kernel_rfl) rfl #[v5, .slice (rowP g how) (rowN how) (rowN how)] (by rfl) rfl rfl (by simp only [List.map_toArray, List.map_cons, List.map_nil]; rfl) ?_
  with_reducible refine (repput' w5 w.heap.size v5 _ o5 (rowP g how) (rowN how) (rowN how) (rowF how) (Nat.le_refl _) (rowF_length how) ((hN.row how).below hx5) (hN.apart hv5) (by have := rowN_le how; rw [List.nil_append, rw4_length]; simp; omega) (Nat.le_trans hB.size hx5.size)).mono ?_
  rintro e w6 ⟨v6, rfl, o6, hg6, hv6⟩
  refine ⟨_, rfl, ?_⟩
  have hg46 : w4.grownBy w6 none := (hx5.asGrown).andThen hg6 (fun j hj => by rcases hv5 j hj with h | h; exact .inl h; simp [Value.ownBlock] at h)
  have hx6 := hg46.asBelow
  have k06 := cell_later hx6 k0
  have c06 := cell_later hx6 c0
  refine hK.out _ _ ⟨k06, c06⟩ (fun hHeld => ?_)
  clear hK K
  refine norm_ (a' := ?_) ?_ ?_
  rotate_left
  · show Act.put _ (some 64) _ = _
    simp only [Act.put, List.setIfInBounds_toArray, List.set_cons_zero, List.set_cons_succ, i64_w, i32_w]
    rfl
  refine pure_ (i := 7) (N := some 6) (v := ?_) (a' := ?_) #[true, true, true, true, true, true, true, true] rfl rfl (by kernel_rfl) (fun _ _ _ h => h) (Or.inl ⟨by rfl, ?_⟩) ?_ ?_
  rotate_left
  · intro w'
    go_simp
    with_reducible rfl
  rotate_left
  · simp only [Act.put, List.setIfInBounds_toArray, List.set_cons_zero, List.set_cons_succ, i64_w, i32_w]
    rfl
  refine done_ (by kernel_rfl) ?_
  have b1x := b1.below hx6
  have bxx := bx.below hx6
  have hBx := below_then hB hx6
  have k2 := b1x.cell 2 (v := .int .u32 low) rfl
  have k3 := b1x.cell 3 (v := .int .u32 high) rfl
  have k4 := b1x.cell 4 (v := .slice A body.length c) rfl
  have c1 := bxx.cell 1 (v := .int .i64 0) rfl
  have hv6' : ∀ j, v6.ownBlock = some j → w4.heap.size ≤ j := fun j hj => by
    rcases hv6 j hj with h | h
    · exact Nat.le_trans hx5.size h
    · rcases hv5 j h with h | h
      · exact h
      · simp [Value.ownBlock] at h
  clear hHeld hg5 hg6 hv5 hv6 hg46 k05 c05 k06 c06 hs1 o5
  go_wp2_with fail
  have k2 : w6.drew.cell? _ = _ := k2
  have k3 : w6.drew.cell? _ = _ := k3
  have k4 : w6.drew.cell? _ = _ := k4
  have c1 : w6.drew.cell? _ = _ := c1
  refine start_ (n := 14) (S := fun w' => w'.cell? ⟨w.heap.size, 2, none⟩ = some (.int .u32 low) ∧ w'.cell? ⟨w.heap.size, 3, none⟩ = some (.int .u32 high) ∧ w'.cell? ⟨w.heap.size, 4, none⟩ = some (.slice A body.length c) ∧ w'.cell? ⟨px, 1, none⟩ = some (.int .i64 0)) (ds := []) #[false, false, false, false, false, false, false, false, false, false, false, false, false, false] (by kernel_rfl) rfl rfl ⟨k2, k3, k4, c1⟩ (fun hHeld => ?_)
  refine pure_ (i := 0) (N := some 65) (v := ?_) (a' := ?_) #[true, false, false, false, false, false, false, false, false, false, false, false, false, false] rfl rfl (by kernel_rfl) (fun _ _ _ h => h) (Or.inl ⟨by rfl, ?_⟩) ?_ ?_
  rotate_left
  · intro w'
    go_simp
    with_reducible rfl
  rotate_left
  · simp only [Act.put, List.setIfInBounds_toArray, List.set_cons_zero, List.set_cons_succ, i64_w, i32_w]
    rfl
  refine pure_ (i := 1) (N := some 66) (v := ?_) (a' := ?_) #[true, true, false, false, false, false, false, false, false, false, false, false, false, false] rfl rfl (by kernel_rfl) (fun _ _ _ h => h) (Or.inl ⟨by rfl, ?_⟩) ?_ ?_
  rotate_left
  · intro w'
    go_simp
    with_reducible rfl
  rotate_left
  · simp only [Act.put, List.setIfInBounds_toArray, List.set_cons_zero, List.set_cons_succ, i64_w, i32_w]
    rfl
  refine pure_ (i := 3) (N := some 68) (v := ?_) (a' := ?_) #[true, true, false, true, false, false, false, false, false, false, false, false, false, false] rfl rfl (by kernel_rfl) (fun _ _ _ h => h) (Or.inl ⟨by rfl, ?_⟩) ?_ ?_
  rotate_left
  · intro w'
    go_simp
    with_reducible rfl
  rotate_left
  · simp only [Act.put, List.setIfInBounds_toArray, List.set_cons_zero, List.set_cons_succ, i64_w, i32_w]
    rfl
  refine pure_ (i := 6) (N := some 71) (v := ?_) (a' := ?_) #[true, true, false, true, false, false, true, false, false, false, false, false, false, false] rfl rfl (by kernel_rfl) (fun _ _ _ h => h) (Or.inl ⟨by rfl, ?_⟩) ?_ ?_
  rotate_left
  · intro w'
    go_simp
    with_reducible rfl
  rotate_left
  · simp only [Act.put, List.setIfInBounds_toArray, List.set_cons_zero, List.set_cons_succ, i64_w, i32_w]
    rfl
  refine pure_ (i := 10) (N := some 75) (v := ?_) (a' := ?_) #[true, true, false, true, false, false, true, false, false, false, true, false, false, false] rfl rfl (by kernel_rfl) (fun _ _ _ h => h) (Or.inl ⟨by rfl, ?_⟩) ?_ ?_
  rotate_left
  · intro w'
    go_simp
    with_reducible rfl
  rotate_left
  · simp only [Act.put, List.setIfInBounds_toArray, List.set_cons_zero, List.set_cons_succ, i64_w, i32_w]
    rfl
  refine take_ (i := 2) (N := some 67) (v := ?_) (a' := ?_) #[true, true, true, true, false, false, true, false, false, false, true, false, false, false] rfl rfl (by kernel_rfl) (fun _ _ _ h => h) (Or.inl ⟨by rfl, ?_⟩) hHeld ?_ ?_
  rotate_left
  · rintro w' ⟨s0, s1, s2, s3⟩
    go_simp
    with_reducible rfl
  rotate_left
  · simp only [Act.put, List.setIfInBounds_toArray, List.set_cons_zero, List.set_cons_succ, i64_w, i32_w]
    rfl
  refine take_ (i := 4) (N := some 69) (v := ?_) (a' := ?_) #[true, true, true, true, true, false, true, false, false, false, true, false, false, false] rfl rfl (by kernel_rfl) (fun _ _ _ h => h) (Or.inl ⟨by rfl, ?_⟩) hHeld ?_ ?_
  rotate_left
  · rintro w' ⟨s0, s1, s2, s3⟩
    go_simp
    with_reducible rfl
  rotate_left
  · simp only [Act.put, List.setIfInBounds_toArray, List.set_cons_zero, List.set_cons_succ, i64_w, i32_w]
    rfl
  refine take_ (i := 7) (N := some 72) (v := ?_) (a' := ?_) #[true, true, true, true, true, false, true, true, false, false, true, false, false, false] rfl rfl (by kernel_rfl) (fun _ _ _ h => h) (Or.inl ⟨by rfl, ?_⟩) hHeld ?_ ?_
  rotate_left
  · rintro w' ⟨s0, s1, s2, s3⟩
    go_simp
    with_reducible rfl
  rotate_left
  · simp only [Act.put, List.setIfInBounds_toArray, List.set_cons_zero, List.set_cons_succ, i64_w, i32_w]
    rfl
  refine take_ (i := 11) (N := some 76) (v := ?_) (a' := ?_) #[true, true, true, true, true, false, true, true, false, false, true, true, false, false] rfl rfl (by kernel_rfl) (fun _ _ _ h => h) (Or.inl ⟨by rfl, ?_⟩) hHeld ?_ ?_
  rotate_left
  · rintro w' ⟨s0, s1, s2, s3⟩
    go_simp
    with_reducible rfl
  rotate_left
  · simp only [Act.put, List.setIfInBounds_toArray, List.set_cons_zero, List.set_cons_succ, i64_w, i32_w]
    rfl
  refine one_ (i := 5) (N := some 70) #[true, true, true, true, true, true, true, true, false, false, true, true, false, false] rfl rfl (by kernel_rfl) (by decide) (fun K hK => ?_)
  refine value_ (w1 := ?_) (v := ?_) (by rfl) rfl ?_ ?_
  rotate_left 2
  · go_simp
    constructor
    · rfl
    · rfl
  have hx7 : Below w4.heap.size w4 (w6.alloc (.cells #[.int .u32 low, .int .u32 high] 22)).drew := (hx6.alloc hx6.size (.cells #[.int .u32 low, .int .u32 high] 22)).drew
  have o7 : Own (w6.alloc (.cells #[.int .u32 low, .int .u32 high] 22)).drew w.heap.size v6 _ := o6.alloc (.cells #[.int .u32 low, .int .u32 high] 22)
  have bs : Blk (w6.alloc (.cells #[.int .u32 low, .int .u32 high] 22)).drew w6.heap.size 22 #[.int .u32 low, .int .u32 high] := Blk.new w6 22 #[.int .u32 low, .int .u32 high]
  have hs7 := (RdN.of_blk (l := [low, high]) (U4.pair hl0 hl1 hi0 hi1) bs).take 0
  have hne : ∀ ad, some (⟨w6.heap.size, 0, none⟩ : Addr) = some ad → some ad.block ≠ v6.ownBlock := fun ad h => by (cases h; intro e; have := (o6.2.lt _ e.symm).2; simp at this)
  generalize (w6.alloc (.cells #[.int .u32 low, .int .u32 high] 22)).drew = w7 at *
  have k27 := cell_later hx7 (b1.cell 2 (v := .int .u32 low) rfl)
  have k37 := cell_later hx7 (b1.cell 3 (v := .int .u32 high) rfl)
  have k47 := cell_later hx7 (b1.cell 4 (v := .slice A body.length c) rfl)
  have c17 := cell_later hx7 (bx.cell 1 (v := .int .i64 0) rfl)
  refine hK.out _ _ ⟨k27, k37, k47, c17⟩ (fun hHeld => ?_)
  clear hK K
  refine norm_ (a' := ?_) ?_ ?_
  rotate_left
  · show Act.put _ (some 70) _ = _
    simp only [Act.put, List.setIfInBounds_toArray, List.set_cons_zero, List.set_cons_succ, i64_w, i32_w]
    rfl
  refine pure_ (i := 8) (N := some 73) (v := ?_) (a' := ?_) #[true, true, true, true, true, true, true, true, true, false, true, true, false, false] rfl rfl (by kernel_rfl) (fun _ _ _ h => h) (Or.inl ⟨by rfl, ?_⟩) ?_ ?_
  rotate_left
  · intro w'
    go_simp
    with_reducible rfl
  rotate_left
  · simp only [Act.put, List.setIfInBounds_toArray, List.set_cons_zero, List.set_cons_succ, i64_w, i32_w]
    rfl
  refine one_ (i := 9) (N := some 74) #[true, true, true, true, true, true, true, true, true, true, true, true, false, false] rfl rfl (by kernel_rfl) (by decide) (fun K hK => ?_)
  refine goes_ Tryd.func31 (by kernel_rfl) rfl #[v6, .slice (some ⟨w6.heap.size, 0, none⟩) 0 2] (by rfl) rfl rfl (by simp only [List.map_toArray, List.map_cons, List.map_nil]; rfl) ?_
  with_reducible refine (repput' w7 w.heap.size v6 _ o7 (some ⟨w6.heap.size, 0, none⟩) 0 2 ([low, high].take 0) (by omega) rfl hs7 hne (by have := rowN_le how; simp [rw4_length, rowF_length]; omega) (Nat.le_trans hB.size hx7.size)).mono ?_
  rintro e w8 ⟨v8, rfl, o8, hg8, hv8⟩
  refine ⟨_, rfl, ?_⟩
  have hx8 := (hx7.asGrown.andThen hg8 (fun j hj => .inl (hv6' j hj))).asBelow
  have k28 := cell_later hx8 (b1.cell 2 (v := .int .u32 low) rfl)
  have k38 := cell_later hx8 (b1.cell 3 (v := .int .u32 high) rfl)
  have k48 := cell_later hx8 (b1.cell 4 (v := .slice A body.length c) rfl)
  have c18 := cell_later hx8 (bx.cell 1 (v := .int .i64 0) rfl)
  have hB8 := below_then hB hx8
  refine hK.out _ _ ⟨k28, k38, k48, c18⟩ (fun hHeld => ?_)
  clear hK K
  refine norm_ (a' := ?_) ?_ ?_
  rotate_left
  · show Act.put _ (some 74) _ = _
    simp only [Act.put, List.setIfInBounds_toArray, List.set_cons_zero, List.set_cons_succ, i64_w, i32_w]
    rfl
  refine one_ (i := 12) (N := some 77) #[true, true, true, true, true, true, true, true, true, true, true, true, true, false] rfl rfl (by kernel_rfl) (by decide) (fun K hK => ?_)
  rw [if_pos (by rfl)]
  refine wp_app _ _ rfl rfl _ w.heap.size v8 _ rfl o8 A c body rfl (hr.below hB8) (by have := rowN_le how; simp [rw4_length, rowF_length]; omega) hB8.size ?_
  intro v9 w9 ho9 hg9 hv9
  have hv8' : ∀ j, v8.ownBlock = some j → w4.heap.size ≤ j := fun j hj => by rcases hv8 j hj with h | h; exact Nat.le_trans hx7.size h; exact hv6' j h
  have hx9 := (hx8.asGrown.andThen hg9 (fun j hj => .inl (hv8' j hj))).asBelow
  have k29 := cell_later hx9 (b1.cell 2 (v := .int .u32 low) rfl)
  have k39 := cell_later hx9 (b1.cell 3 (v := .int .u32 high) rfl)
  have k49 := cell_later hx9 (b1.cell 4 (v := .slice A body.length c) rfl)
  have c19 := cell_later hx9 (bx.cell 1 (v := .int .i64 0) rfl)
  have hB9 := below_then hB hx9
  refine hK.out _ _ ⟨k29, k39, k49, c19⟩ (fun hHeld => ?_)
  clear hK K
  refine norm_ (a' := ?_) ?_ ?_
  rotate_left
  · show Act.put _ (some 77) _ = _
    simp only [Act.put, List.setIfInBounds_toArray, List.set_cons_zero, List.set_cons_succ, i64_w, i32_w]
    rfl
  refine pure_ (i := 13) (N := some 6) (v := ?_) (a' := ?_) #[true, true, true, true, true, true, true, true, true, true, true, true, true, true] rfl rfl (by kernel_rfl) (fun _ _ _ h => h) (Or.inl ⟨by rfl, ?_⟩) ?_ ?_
  rotate_left
  · intro w'
    go_simp
    with_reducible rfl
  rotate_left
  · simp only [Act.put, List.setIfInBounds_toArray, List.set_cons_zero, List.set_cons_succ, i64_w, i32_w]
    rfl
  refine done_ (by kernel_rfl) ?_
  have hlen : putL xid how low high body = [] ++ rw4 [xid, 1] ++ rw4 (rowF how) ++ rw4 ([low, high].take 0) ++ body := by unfold putL; rw [HT.out]; rfl
  rw [← hlen] at ho9
  obtain ⟨L, hLd⟩ : ∃ L, L = putL xid how low high body := ⟨_, rfl⟩
  rw [← hLd] at ho9 hlen
  have HD := Lib.hid hLd
  obtain ⟨A9, c9, rfl, _, _, r9⟩ := ho9.form
  clear hLd hHeld hlen hx9 hv8' k29 k39 k49 c19 hg9 hv9 hB8 o8 hg8 hv8 hx8 o7 o6 hv6'
  by_cases hlen : L.length ≤ 65536
  · have ht : ¬ 65536 < (L.length : Int) := by omega
    have HL := Lib.hid hlen
    clear hlen
    go_wp2
    go_ret2
    exact ⟨PutEnd.fits (by rw [← HD.out]; exact HL.out) rfl (by rw [← HD.out]; exact ho9), hB9⟩
  · have ht : 65536 < (L.length : Int) := by omega
    have HL := Lib.hid hlen
    clear hlen
    go_wp2
    go_ret2
    exact ⟨PutEnd.long (by rw [← HD.out]; exact HL.out) rfl, hB9⟩


set_option maxRecDepth 100000 in
set_option maxHeartbeats 4000000 in
theorem put_one (xid how low high : Int) (A : Option Addr) (c : Nat) (body : List Int) (w : World) (hx0 : 0 ≤ xid) (hx1 : xid < 4294967296) (hh0 : 0 ≤ how) (hh1 : how < 4294967296) (hl0 : 0 ≤ low) (hl1 : low < 4294967296) (hi0 : 0 ≤ high) (hi1 : high < 4294967296)
    (hr : Rd w A body) (hc : body.length ≤ c) (hn : body.length ≤ 1048000) (hk : how ∈ keysL) (h0 : ¬ how = 0) (hq : how = 101) (ht : toldOf how = 1) (hb : body.length = 0) (hhi : high = 0) (hwy : 1 ≤ low ∧ low ≤ 7) :
    Calls Tryd.prog 7 #[.agg #[.int .u32 xid, .int .u32 how, .int .u32 low, .int .u32 high, .slice A body.length c]] w fun e w' => PutEnd w.heap.size (putL xid how low high body) e w' ∧ Below w.heap.size w w' := by
  have b1 := Blk.new w 26 #[.int .u32 xid, .int .u32 how, .int .u32 low, .int .u32 high, .slice A body.length c]
  have hB : Below w.heap.size w (w.alloc (.cells #[.int .u32 xid, .int .u32 how, .int .u32 low, .int .u32 high, .slice A body.length c] 26)) := (Below.refl _ _).alloc (Nat.le_refl _) _
  have HK := Lib.hid hk
  have H0 := Lib.hid h0
  have HQ := Lib.hid hq
  have HT := Lib.hid ht
  have HB := Lib.hid hb
  have HHI := Lib.hid hhi
  have HWY := Lib.hid hwy
  clear hk h0 hq ht hb hhi hwy
  go_enter Tryd.func7, Tryd.ntmps7
  go_wp2_with fail
  generalize w.alloc (.cells #[.int .u32 xid, .int .u32 how, .int .u32 low, .int .u32 high, .slice A body.length c] 26) = W at *
  have hB := below_then hB (below_drawn (w1 := W.drew) (n := 1) rfl)
  have b1 := b1.drew
  have k1 := b1.cell 1 (v := .int .u32 how) rfl
  refine start_ (n := 10) (S := fun w' => w'.cell? ⟨w.heap.size, 1, none⟩ = some (.int .u32 how)) (ds := []) #[false, false, false, false, false, false, false, false, false, false] (by kernel_rfl) rfl rfl (k1) (fun hHeld => ?_)
  refine pure_ (i := 1) (N := some 9) (v := ?_) (a' := ?_) #[false, true, false, false, false, false, false, false, false, false] rfl rfl (by kernel_rfl) (fun _ _ _ h => h) (Or.inl ⟨by rfl, ?_⟩) ?_ ?_
  rotate_left
  · intro w'
    go_simp
    with_reducible rfl
  rotate_left
  · simp only [Act.put, List.setIfInBounds_toArray, List.set_cons_zero, List.set_cons_succ, i64_w, i32_w]
    rfl
  refine take_ (i := 2) (N := some 10) (v := ?_) (a' := ?_) #[false, true, true, false, false, false, false, false, false, false] rfl rfl (by kernel_rfl) (fun _ _ _ h => h) (Or.inl ⟨by rfl, ?_⟩) hHeld ?_ ?_
  rotate_left
  · intro w' s0
    go_simp
    with_reducible rfl
  rotate_left
  · simp only [Act.put, List.setIfInBounds_toArray, List.set_cons_zero, List.set_cons_succ, i64_w, i32_w]
    rfl
  refine join_ (σ := Nat × (Nat → Nat) × Nat) 2 #[true, true, true, true, true, true, true, true, false, false] (fun s' => [(8, .map (some s'.1)), (11, .tuple #[.agg #[.slice (rowP s'.2.1 how) (rowN how) (rowN how), .int .i64 (toldOf how), .bool (decide (how = 0))], .bool (decide (how ∈ keysL))]), (7, .tuple #[.agg #[.slice (rowP s'.2.1 how) (rowN how) (rowN how), .int .i64 (toldOf how), .bool (decide (how = 0))], .bool (decide (how ∈ keysL))]), (12, .agg #[.slice (rowP s'.2.1 how) (rowN how) (rowN how), .int .i64 (toldOf how), .bool (decide (how = 0))]), (13, .bool (decide (how ∈ keysL))), (4, .pointer (some ⟨s'.2.2, 0, none⟩))]) (fun s' w' => w'.cell? ⟨w.heap.size, 1, none⟩ = some (.int .u32 how) ∧ Below w.heap.size w w' ∧ Blk w' w.heap.size 26 #[.int .u32 xid, .int .u32 how, .int .u32 low, .int .u32 high, .slice A body.length c] ∧ Blk w' s'.2.2 68 #[.slice none 0 0, .int .i64 0, .bool false] ∧ w.heap.size < s'.2.2 ∧ NumsAt w' s'.2.1 ∧ (∀ k ∈ keysL, s'.2.1 (ixOf k) ≠ s'.2.2)) ?_ ?_
  rotate_left
  · intro hCont
    refine two_ (i := 0) (j := 7) (Ni := some 8) (Nj := some 4) #[true, true, true, false, false, false, false, false, false, false] #[false, true, true, false, false, false, false, true, false, false] rfl rfl rfl rfl (by kernel_rfl) (by decide) (by decide) (fun K hK => ?_) (fun K hK => ?_)
    · skip
      refine goes_ Tryd.func29 (by kernel_rfl) rfl #[] (by rfl) rfl rfl (by simp only [List.map_toArray, List.map_cons, List.map_nil]) ?_
      with_reducible refine (rows_all _).mono ?_
      rintro e w3 ⟨b, g, rfl, hbb, hgk, hM, hN, hbx⟩
      refine ⟨_, rfl, ?_⟩
      have k1 := cell_later hbx k1
      have b1 := b1.below hbx
      have hB := below_then hB hbx
      refine hK.out _ _ (k1) (fun hHeld => ?_)
      clear hK K
      refine norm_ (a' := ?_) ?_ ?_
      rotate_left
      · show Act.put _ (some 8) _ = _
        simp only [Act.put, List.setIfInBounds_toArray, List.set_cons_zero, List.set_cons_succ, i64_w, i32_w]
        rfl
      refine two_ (i := 3) (j := 7) (Ni := some 11) (Nj := some 4) #[true, true, true, true, false, false, false, false, false, false] #[true, true, true, false, false, false, false, true, false, false] rfl rfl rfl rfl (by kernel_rfl) (by decide) (by decide) (fun K hK => ?_) (fun K hK => ?_)
      · skip
        have hq := look2 hM hh0 hh1
        rw [rowK_or, in_keys] at hq
        refine value_ (w1 := ?_) (v := ?_) (by rfl) rfl ?_ ?_
        rotate_left 2
        · go_simp
          constructor
          · rfl
          · rfl
        clear hq
        refine hK.out _ _ (k1) (fun hHeld => ?_)
        clear hK K
        refine norm_ (a' := ?_) ?_ ?_
        rotate_left
        · show Act.put _ (some 11) _ = _
          simp only [Act.put, List.setIfInBounds_toArray, List.set_cons_zero, List.set_cons_succ, i64_w, i32_w]
          rfl
        refine pure_ (i := 4) (N := some 7) (v := ?_) (a' := ?_) #[true, true, true, true, true, false, false, false, false, false] rfl rfl (by kernel_rfl) (fun _ _ _ h => h) (Or.inl ⟨by rfl, ?_⟩) ?_ ?_
        rotate_left
        · intro w'
          go_simp
          with_reducible rfl
        rotate_left
        · simp only [Act.put, List.setIfInBounds_toArray, List.set_cons_zero, List.set_cons_succ, i64_w, i32_w]
          rfl
        refine pure_ (i := 5) (N := some 12) (v := ?_) (a' := ?_) #[true, true, true, true, true, true, false, false, false, false] rfl rfl (by kernel_rfl) (fun _ _ _ h => h) (Or.inl ⟨by rfl, ?_⟩) ?_ ?_
        rotate_left
        · intro w'
          go_simp
          with_reducible rfl
        rotate_left
        · simp only [Act.put, List.setIfInBounds_toArray, List.set_cons_zero, List.set_cons_succ, i64_w, i32_w]
          rfl
        refine pure_ (i := 6) (N := some 13) (v := ?_) (a' := ?_) #[true, true, true, true, true, true, true, false, false, false] rfl rfl (by kernel_rfl) (fun _ _ _ h => h) (Or.inl ⟨by rfl, ?_⟩) ?_ ?_
        rotate_left
        · intro w'
          go_simp
          with_reducible rfl
        rotate_left
        · simp only [Act.put, List.setIfInBounds_toArray, List.set_cons_zero, List.set_cons_succ, i64_w, i32_w]
          rfl
        refine one_ (i := 7) (N := some 4) #[true, true, true, true, true, true, true, true, false, false] rfl rfl (by kernel_rfl) (by decide) (fun K hK => ?_)
        refine value_ (w1 := ?_) (v := ?_) (by rfl) rfl ?_ ?_
        rotate_left 2
        · go_simp
          constructor
          · rfl
          · rfl
        have hlt : w.heap.size < w3.heap.size := b1.lt
        have bx := Blk.new w3 68 #[.slice none 0 0, .int .i64 0, .bool false]
        have b1 := b1.alloc (.cells #[.slice none 0 0, .int .i64 0, .bool false] 68)
        have k1 := cell_old k1 (.cells #[.slice none 0 0, .int .i64 0, .bool false] 68)
        have hB := hB.alloc hB.size (.cells #[.slice none 0 0, .int .i64 0, .bool false] 68)
        have hpg : ∀ k ∈ keysL, g (ixOf k) ≠ w3.heap.size := fun k hk => by have := (hN k hk).lt; omega
        have hM := hM.below ((Below.refl _ w3).alloc (Nat.le_refl _) (.cells #[.slice none 0 0, .int .i64 0, .bool false] 68))
        have hN := hN.below ((Below.refl _ w3).alloc (Nat.le_refl _) (.cells #[.slice none 0 0, .int .i64 0, .bool false] 68))
        refine hK.out _ _ (k1) (fun hHeld => ?_)
        clear hK K
        refine norm_ (a' := ?_) ?_ ?_
        rotate_left
        · show Act.put _ (some 4) _ = _
          simp only [Act.put, List.setIfInBounds_toArray, List.set_cons_zero, List.set_cons_succ, i64_w, i32_w]
          rfl
        exact norm_ (by simp only [putAll, Act.put, List.setIfInBounds_toArray, List.set_cons_zero, List.set_cons_succ]) (hCont (b, g, w3.heap.size) _ ⟨k1, hB, b1, bx, hlt, hN, hpg⟩)
      · skip
        refine value_ (w1 := ?_) (v := ?_) (by rfl) rfl ?_ ?_
        rotate_left 2
        · go_simp
          constructor
          · rfl
          · rfl
        have hlt : w.heap.size < w3.heap.size := b1.lt
        have bx := Blk.new w3 68 #[.slice none 0 0, .int .i64 0, .bool false]
        have b1 := b1.alloc (.cells #[.slice none 0 0, .int .i64 0, .bool false] 68)
        have k1 := cell_old k1 (.cells #[.slice none 0 0, .int .i64 0, .bool false] 68)
        have hB := hB.alloc hB.size (.cells #[.slice none 0 0, .int .i64 0, .bool false] 68)
        have hpg : ∀ k ∈ keysL, g (ixOf k) ≠ w3.heap.size := fun k hk => by have := (hN k hk).lt; omega
        have hM := hM.below ((Below.refl _ w3).alloc (Nat.le_refl _) (.cells #[.slice none 0 0, .int .i64 0, .bool false] 68))
        have hN := hN.below ((Below.refl _ w3).alloc (Nat.le_refl _) (.cells #[.slice none 0 0, .int .i64 0, .bool false] 68))
        refine hK.out _ _ (k1) (fun hHeld => ?_)
        clear hK K
        refine norm_ (a' := ?_) ?_ ?_
        rotate_left
        · show Act.put _ (some 4) _ = _
          simp only [Act.put, List.setIfInBounds_toArray, List.set_cons_zero, List.set_cons_succ, i64_w, i32_w]
          rfl
        refine one_ (i := 3) (N := some 11) #[true, true, true, true, false, false, false, true, false, false] rfl rfl (by kernel_rfl) (by decide) (fun K hK => ?_)
        have hq := look2 hM hh0 hh1
        rw [rowK_or, in_keys] at hq
        refine value_ (w1 := ?_) (v := ?_) (by rfl) rfl ?_ ?_
        rotate_left 2
        · go_simp
          constructor
          · rfl
          · rfl
        clear hq
        refine hK.out _ _ (k1) (fun hHeld => ?_)
        clear hK K
        refine norm_ (a' := ?_) ?_ ?_
        rotate_left
        · show Act.put _ (some 11) _ = _
          simp only [Act.put, List.setIfInBounds_toArray, List.set_cons_zero, List.set_cons_succ, i64_w, i32_w]
          rfl
        refine pure_ (i := 4) (N := some 7) (v := ?_) (a' := ?_) #[true, true, true, true, true, false, false, true, false, false] rfl rfl (by kernel_rfl) (fun _ _ _ h => h) (Or.inl ⟨by rfl, ?_⟩) ?_ ?_
        rotate_left
        · intro w'
          go_simp
          with_reducible rfl
        rotate_left
        · simp only [Act.put, List.setIfInBounds_toArray, List.set_cons_zero, List.set_cons_succ, i64_w, i32_w]
          rfl
        refine pure_ (i := 5) (N := some 12) (v := ?_) (a' := ?_) #[true, true, true, true, true, true, false, true, false, false] rfl rfl (by kernel_rfl) (fun _ _ _ h => h) (Or.inl ⟨by rfl, ?_⟩) ?_ ?_
        rotate_left
        · intro w'
          go_simp
          with_reducible rfl
        rotate_left
        · simp only [Act.put, List.setIfInBounds_toArray, List.set_cons_zero, List.set_cons_succ, i64_w, i32_w]
          rfl
        refine pure_ (i := 6) (N := some 13) (v := ?_) (a' := ?_) #[true, true, true, true, true, true, true, true, false, false] rfl rfl (by kernel_rfl) (fun _ _ _ h => h) (Or.inl ⟨by rfl, ?_⟩) ?_ ?_
        rotate_left
        · intro w'
          go_simp
          with_reducible rfl
        rotate_left
        · simp only [Act.put, List.setIfInBounds_toArray, List.set_cons_zero, List.set_cons_succ, i64_w, i32_w]
          rfl
        exact norm_ (by simp only [putAll, Act.put, List.setIfInBounds_toArray, List.set_cons_zero, List.set_cons_succ]) (hCont (b, g, w3.heap.size) _ ⟨k1, hB, b1, bx, hlt, hN, hpg⟩)
    · skip
      refine value_ (w1 := ?_) (v := ?_) (by rfl) rfl ?_ ?_
      rotate_left 2
      · go_simp
        constructor
        · rfl
        · rfl
      have hlt : w.heap.size < W.heap.size := b1.lt
      have bx := Blk.new W.drew 68 #[.slice none 0 0, .int .i64 0, .bool false]
      have b1 := b1.alloc (.cells #[.slice none 0 0, .int .i64 0, .bool false] 68)
      have k1 := cell_old k1 (.cells #[.slice none 0 0, .int .i64 0, .bool false] 68)
      have hB := hB.alloc hB.size (.cells #[.slice none 0 0, .int .i64 0, .bool false] 68)
      refine hK.out _ _ (k1) (fun hHeld => ?_)
      clear hK K
      refine norm_ (a' := ?_) ?_ ?_
      rotate_left
      · show Act.put _ (some 4) _ = _
        simp only [Act.put, List.setIfInBounds_toArray, List.set_cons_zero, List.set_cons_succ, i64_w, i32_w]
        rfl
      refine one_ (i := 0) (N := some 8) #[true, true, true, false, false, false, false, true, false, false] rfl rfl (by kernel_rfl) (by decide) (fun K hK => ?_)
      refine goes_ Tryd.func29 (by kernel_rfl) rfl #[] (by rfl) rfl rfl (by simp only [List.map_toArray, List.map_cons, List.map_nil]) ?_
      with_reducible refine (rows_all _).mono ?_
      rintro e w3 ⟨b, g, rfl, hbb, hgk, hM, hN, hbx⟩
      refine ⟨_, rfl, ?_⟩
      have k1 := cell_later hbx k1
      have b1 := b1.below hbx
      have bx := bx.below hbx
      have hpg : ∀ k ∈ keysL, g (ixOf k) ≠ W.drew.heap.size := fun k hk => by have := hgk k hk; simp at hbb ⊢; omega
      have hB := below_then hB hbx
      refine hK.out _ _ (k1) (fun hHeld => ?_)
      clear hK K
      refine norm_ (a' := ?_) ?_ ?_
      rotate_left
      · show Act.put _ (some 8) _ = _
        simp only [Act.put, List.setIfInBounds_toArray, List.set_cons_zero, List.set_cons_succ, i64_w, i32_w]
        rfl
      refine one_ (i := 3) (N := some 11) #[true, true, true, true, false, false, false, true, false, false] rfl rfl (by kernel_rfl) (by decide) (fun K hK => ?_)
      have hq := look2 hM hh0 hh1
      rw [rowK_or, in_keys] at hq
      refine value_ (w1 := ?_) (v := ?_) (by rfl) rfl ?_ ?_
      rotate_left 2
      · go_simp
        constructor
        · rfl
        · rfl
      clear hq
      refine hK.out _ _ (k1) (fun hHeld => ?_)
      clear hK K
      refine norm_ (a' := ?_) ?_ ?_
      rotate_left
      · show Act.put _ (some 11) _ = _
        simp only [Act.put, List.setIfInBounds_toArray, List.set_cons_zero, List.set_cons_succ, i64_w, i32_w]
        rfl
      refine pure_ (i := 4) (N := some 7) (v := ?_) (a' := ?_) #[true, true, true, true, true, false, false, true, false, false] rfl rfl (by kernel_rfl) (fun _ _ _ h => h) (Or.inl ⟨by rfl, ?_⟩) ?_ ?_
      rotate_left
      · intro w'
        go_simp
        with_reducible rfl
      rotate_left
      · simp only [Act.put, List.setIfInBounds_toArray, List.set_cons_zero, List.set_cons_succ, i64_w, i32_w]
        rfl
      refine pure_ (i := 5) (N := some 12) (v := ?_) (a' := ?_) #[true, true, true, true, true, true, false, true, false, false] rfl rfl (by kernel_rfl) (fun _ _ _ h => h) (Or.inl ⟨by rfl, ?_⟩) ?_ ?_
      rotate_left
      · intro w'
        go_simp
        with_reducible rfl
      rotate_left
      · simp only [Act.put, List.setIfInBounds_toArray, List.set_cons_zero, List.set_cons_succ, i64_w, i32_w]
        rfl
      refine pure_ (i := 6) (N := some 13) (v := ?_) (a' := ?_) #[true, true, true, true, true, true, true, true, false, false] rfl rfl (by kernel_rfl) (fun _ _ _ h => h) (Or.inl ⟨by rfl, ?_⟩) ?_ ?_
      rotate_left
      · intro w'
        go_simp
        with_reducible rfl
      rotate_left
      · simp only [Act.put, List.setIfInBounds_toArray, List.set_cons_zero, List.set_cons_succ, i64_w, i32_w]
        rfl
      exact norm_ (by simp only [putAll, Act.put, List.setIfInBounds_toArray, List.set_cons_zero, List.set_cons_succ]) (hCont (b, g, W.heap.size) _ ⟨k1, hB, b1, bx, hlt, hN, hpg⟩)
  clear hB b1
  rintro ⟨b, g, px⟩ w' ⟨k1, hB, b1, bx, hpx, hN, hpg⟩
  have hHeld : w'.cell? ⟨w.heap.size, 1, none⟩ = some (.int .u32 how) := k1
  refine norm_ (a' := ?_) ?_ ?_
  rotate_left
  · simp only [putAll, Act.put, List.setIfInBounds_toArray, List.set_cons_zero, List.set_cons_succ]
    rfl
  refine one_ (i := 8) (N := none) #[true, true, true, true, true, true, true, true, true, false] rfl rfl (by kernel_rfl) (by decide) (fun K hK => ?_)
  have c0 := bx.cell 0 (v := .slice none 0 0) rfl
  have c1 := bx.cell 1 (v := .int .i64 0) rfl
  have c2 := bx.cell 2 (v := .bool false) rfl
  have f0 := bx.frozen 0
  have f1 := bx.frozen 1
  have f2 := bx.frozen 2
  refine skip_ (w1 := ?_) (by rfl) rfl ?_ ?_
  rotate_left
  · go_simp
    rfl
  have bx := ((bx.set_ 0 (.slice (rowP g how) (rowN how) (rowN how))).set_ 1 (.int .i64 (toldOf how))).set_ 2 (.bool (decide (how = 0)))
  have b1 := ((b1.far (p := ⟨px, 0, none⟩) (Nat.ne_of_lt hpx) (.slice (rowP g how) (rowN how) (rowN how))).far (p := ⟨px, 1, none⟩) (Nat.ne_of_lt hpx) (.int .i64 (toldOf how))).far (p := ⟨px, 2, none⟩) (Nat.ne_of_lt hpx) (.bool (decide (how = 0)))
  have hN := hN.set3 px (.slice (rowP g how) (rowN how) (rowN how)) (.int .i64 (toldOf how)) (.bool (decide (how = 0))) hpg
  have hB := ((hB.setCell (p := ⟨px, 0, none⟩) (Nat.le_of_lt hpx) (.slice (rowP g how) (rowN how) (rowN how))).setCell (p := ⟨px, 1, none⟩) (Nat.le_of_lt hpx) (.int .i64 (toldOf how))).setCell (p := ⟨px, 2, none⟩) (Nat.le_of_lt hpx) (.bool (decide (how = 0)))
  have k1 := b1.cell 1 (v := .int .u32 how) rfl
  clear c0 c1 c2 f0 f1 f2
  refine hK.out _ _ (k1) (fun hHeld => ?_)
  clear hK K
  refine pure_ (i := 9) (N := some 5) (v := ?_) (a' := ?_) #[true, true, true, true, true, true, true, true, true, true] rfl rfl (by kernel_rfl) (fun _ _ _ h => h) (Or.inl ⟨by rfl, ?_⟩) ?_ ?_
  rotate_left
  · intro w'
    go_simp
    with_reducible rfl
  rotate_left
  · simp only [Act.put, List.setIfInBounds_toArray, List.set_cons_zero, List.set_cons_succ, i64_w, i32_w]
    rfl
  refine done_ (by kernel_rfl) ?_
  have bx : Blk _ px 68 #[.slice (rowP g how) (rowN how) (rowN how), .int .i64 (toldOf how), .bool (decide (how = 0))] := bx
  generalize ((w'.setCell ⟨px, 0, none⟩ (.slice (rowP g how) (rowN how) (rowN how))).setCell ⟨px, 1, none⟩ (.int .i64 (toldOf how))).setCell ⟨px, 2, none⟩ (.bool (decide (how = 0))) = W2 at *
  clear hHeld
  rw [decide_eq_true HK.out, decide_eq_false H0.out, HT.out]
  rw [decide_eq_false H0.out, HT.out] at bx
  have t0 : ¬ 0 < body.length := by have := HB.out; omega
  have t1 : (high != 0) = false := bne_eq_false_iff_eq.2 HHI.out
  have t2 : (how == 101) = true := beq_iff_eq.2 HQ.out
  have k0 := b1.cell 0 (v := .int .u32 xid) rfl
  have k2 := b1.cell 2 (v := .int .u32 low) rfl
  have k3 := b1.cell 3 (v := .int .u32 high) rfl
  have k4 := b1.cell 4 (v := .slice A body.length c) rfl
  have c0 := bx.cell 0 (v := .slice (rowP g how) (rowN how) (rowN how)) rfl
  have c1 := bx.cell 1 (v := .int .i64 1) rfl
  have c2 := bx.cell 2 (v := .bool false) rfl
  go_wp2_with fail
  refine (why_ low _).mono ?_
  rintro e wy ⟨rfl, rfl⟩
  rw [decide_eq_true HWY.out]
  go_wp2
  clear k2 k3 k4 c1 c2 t0 t1 t2
  have b1 := b1.drew
  have bx := bx.drew
  have hB := below_then hB (below_drawn (w1 := W2.drew) (n := 1) rfl)
  have k0 : W2.drew.cell? _ = _ := k0
  have c0 : W2.drew.cell? _ = _ := c0
  have hN := hN.below (below_drawn (w1 := W2.drew) (n := 1) rfl)
  refine start_ (n := 8) (S := fun w' => w'.cell? ⟨w.heap.size, 0, none⟩ = some (.int .u32 xid) ∧ w'.cell? ⟨px, 0, none⟩ = some (.slice (rowP g how) (rowN how) (rowN how))) (ds := []) #[false, false, false, false, false, false, false, false] (by kernel_rfl) rfl rfl ⟨k0, c0⟩ (fun hHeld => ?_)
  refine pure_ (i := 0) (N := some 58) (v := ?_) (a' := ?_) #[true, false, false, false, false, false, false, false] rfl rfl (by kernel_rfl) (fun _ _ _ h => h) (Or.inl ⟨by rfl, ?_⟩) ?_ ?_
  rotate_left
  · intro w'
    go_simp
    with_reducible rfl
  rotate_left
  · simp only [Act.put, List.setIfInBounds_toArray, List.set_cons_zero, List.set_cons_succ, i64_w, i32_w]
    rfl
  refine pure_ (i := 4) (N := some 62) (v := ?_) (a' := ?_) #[true, false, false, false, true, false, false, false] rfl rfl (by kernel_rfl) (fun _ _ _ h => h) (Or.inl ⟨by rfl, ?_⟩) ?_ ?_
  rotate_left
  · intro w'
    go_simp
    with_reducible rfl
  rotate_left
  · simp only [Act.put, List.setIfInBounds_toArray, List.set_cons_zero, List.set_cons_succ, i64_w, i32_w]
    rfl
  refine take_ (i := 1) (N := some 59) (v := ?_) (a' := ?_) #[true, true, false, false, true, false, false, false] rfl rfl (by kernel_rfl) (fun _ _ _ h => h) (Or.inl ⟨by rfl, ?_⟩) hHeld ?_ ?_
  rotate_left
  · rintro w' ⟨s0, s1⟩
    go_simp
    with_reducible rfl
  rotate_left
  · simp only [Act.put, List.setIfInBounds_toArray, List.set_cons_zero, List.set_cons_succ, i64_w, i32_w]
    rfl
  refine take_ (i := 5) (N := some 63) (v := ?_) (a' := ?_) #[true, true, false, false, true, true, false, false] rfl rfl (by kernel_rfl) (fun _ _ _ h => h) (Or.inl ⟨by rfl, ?_⟩) hHeld ?_ ?_
  rotate_left
  · rintro w' ⟨s0, s1⟩
    go_simp
    with_reducible rfl
  rotate_left
  · simp only [Act.put, List.setIfInBounds_toArray, List.set_cons_zero, List.set_cons_succ, i64_w, i32_w]
    rfl
  refine one_ (i := 2) (N := some 60) #[true, true, true, false, true, true, false, false] rfl rfl (by kernel_rfl) (by decide) (fun K hK => ?_)
  have hlt := b1.lt
  refine value_ (w1 := ?_) (v := ?_) (by rfl) rfl ?_ ?_
  rotate_left 2
  · go_simp
    constructor
    · rfl
    · rfl
  have bs : Blk (W2.alloc (.cells #[.int .u32 xid, .int .u32 1] 22)).drew W2.heap.size 22 #[.int .u32 xid, .int .u32 1] := Blk.new W2 22 #[.int .u32 xid, .int .u32 1]
  have b1 : Blk (W2.alloc (.cells #[.int .u32 xid, .int .u32 1] 22)).drew _ _ _ := b1.alloc (.cells #[.int .u32 xid, .int .u32 1] 22)
  have bx : Blk (W2.alloc (.cells #[.int .u32 xid, .int .u32 1] 22)).drew _ _ _ := bx.alloc (.cells #[.int .u32 xid, .int .u32 1] 22)
  have hN : NumsAt (W2.alloc (.cells #[.int .u32 xid, .int .u32 1] 22)).drew _ := hN.below ((Below.refl _ W2.drew).alloc (Nat.le_refl _) (.cells #[.int .u32 xid, .int .u32 1] 22))
  have hB : Below w.heap.size w (W2.alloc (.cells #[.int .u32 xid, .int .u32 1] 22)).drew := hB.alloc hB.size (.cells #[.int .u32 xid, .int .u32 1] 22)
  have k0 := b1.cell 0 (v := .int .u32 xid) rfl
  have c0 := bx.cell 0 (v := .slice (rowP g how) (rowN how) (rowN how)) rfl
  have hs1 := RdN.of_blk (l := [xid, 1]) (U4.two hx0 hx1) bs
  generalize (W2.alloc (.cells #[.int .u32 xid, .int .u32 1] 22)).drew = w4 at *
  refine hK.out _ _ ⟨k0, c0⟩ (fun hHeld => ?_)
  clear hK K
  refine norm_ (a' := ?_) ?_ ?_
  rotate_left
  · show Act.put _ (some 60) _ = _
    simp only [Act.put, List.setIfInBounds_toArray, List.set_cons_zero, List.set_cons_succ, i64_w, i32_w]
    rfl
  refine one_ (i := 3) (N := some 61) #[true, true, true, true, true, true, false, false] rfl rfl (by kernel_rfl) (by decide) (fun K hK => ?_)
  refine goes_ Tryd.func31 (by kernel_rfl) rfl #[.slice none 0 0, .slice (some ⟨W2.heap.size, 0, none⟩) 2 2] (by rfl) rfl rfl (by simp only [List.map_toArray, List.map_cons, List.map_nil]; rfl) ?_
  with_reducible refine (repput' w4 w.heap.size (.slice none 0 0) [] (Own.nil _ _) (some ⟨W2.heap.size, 0, none⟩) 2 2 [xid, 1] (by omega) rfl hs1 (by simp [Value.ownBlock]) (by simp) hB.size).mono ?_
  rintro e w5 ⟨v5, rfl, o5, hg5, hv5⟩
  refine ⟨_, rfl, ?_⟩
  have hx5 : Below w4.heap.size w4 w5 := ⟨hg5.os, hg5.tape, hg5.output, hg5.size, fun i hi => hg5.block i hi (by simp [Value.ownBlock])⟩
  have k05 := cell_later hx5 k0
  have c05 := cell_later hx5 c0
  refine hK.out _ _ ⟨k05, c05⟩ (fun hHeld => ?_)
  clear hK K
  refine norm_ (a' := ?_) ?_ ?_
  rotate_left
  · show Act.put _ (some 61) _ = _
    simp only [Act.put, List.setIfInBounds_toArray, List.set_cons_zero, List.set_cons_succ, i64_w, i32_w]
    rfl
  refine one_ (i := 6) (N := some 64) #[true, true, true, true, true, true, true, false] rfl rfl (by kernel_rfl) (by decide) (fun K hK => ?_)
  refine goes_ Tryd.func31 (by kernel_rfl) rfl #[v5, .slice (rowP g how) (rowN how) (rowN how)] (by rfl) rfl rfl (by simp only [List.map_toArray, List.map_cons, List.map_nil]; rfl) ?_
  with_reducible refine (repput' w5 w.heap.size v5 _ o5 (rowP g how) (rowN how) (rowN how) (rowF how) (Nat.le_refl _) (rowF_length how) ((hN.row how).below hx5) (hN.apart hv5) (by have := rowN_le how; rw [List.nil_append, rw4_length]; simp; omega) (Nat.le_trans hB.size hx5.size)).mono ?_
  rintro e w6 ⟨v6, rfl, o6, hg6, hv6⟩
  refine ⟨_, rfl, ?_⟩
  have hg46 : w4.grownBy w6 none := (hx5.asGrown).andThen hg6 (fun j hj => by rcases hv5 j hj with h | h; exact .inl h; simp [Value.ownBlock] at h)
  have hx6 := hg46.asBelow
  have k06 := cell_later hx6 k0
  have c06 := cell_later hx6 c0
  refine hK.out _ _ ⟨k06, c06⟩ (fun hHeld => ?_)
  clear hK K
  refine norm_ (a' := ?_) ?_ ?_
  rotate_left
  · show Act.put _ (some 64) _ = _
    simp only [Act.put, List.setIfInBounds_toArray, List.set_cons_zero, List.set_cons_succ, i64_w, i32_w]
    rfl
  refine pure_ (i := 7) (N := some 6) (v := ?_) (a' := ?_) #[true, true, true, true, true, true, true, true] rfl rfl (by kernel_rfl) (fun _ _ _ h => h) (Or.inl ⟨by rfl, ?_⟩) ?_ ?_
  rotate_left
  · intro w'
    go_simp
    with_reducible rfl
  rotate_left
  · simp only [Act.put, List.setIfInBounds_toArray, List.set_cons_zero, List.set_cons_succ, i64_w, i32_w]
    rfl
  refine done_ (by kernel_rfl) ?_
  have b1x := b1.below hx6
  have bxx := bx.below hx6
  have hBx := below_then hB hx6
  have k2 := b1x.cell 2 (v := .int .u32 low) rfl
  have k3 := b1x.cell 3 (v := .int .u32 high) rfl
  have k4 := b1x.cell 4 (v := .slice A body.length c) rfl
  have c1 := bxx.cell 1 (v := .int .i64 1) rfl
  have hv6' : ∀ j, v6.ownBlock = some j → w4.heap.size ≤ j := fun j hj => by
    rcases hv6 j hj with h | h
    · exact Nat.le_trans hx5.size h
    · rcases hv5 j h with h | h
      · exact h
      · simp [Value.ownBlock] at h
  clear hHeld hg5 hg6 hv5 hv6 hg46 k05 c05 k06 c06 hs1 o5
  go_wp2_with fail
  have k2 : w6.drew.cell? _ = _ := k2
  have k3 : w6.drew.cell? _ = _ := k3
  have k4 : w6.drew.cell? _ = _ := k4
  have c1 : w6.drew.cell? _ = _ := c1
  refine start_ (n := 14) (S := fun w' => w'.cell? ⟨w.heap.size, 2, none⟩ = some (.int .u32 low) ∧ w'.cell? ⟨w.heap.size, 3, none⟩ = some (.int .u32 high) ∧ w'.cell? ⟨w.heap.size, 4, none⟩ = some (.slice A body.length c) ∧ w'.cell? ⟨px, 1, none⟩ = some (.int .i64 1)) (ds := []) #[false, false, false, false, false, false, false, false, false, false, false, false, false, false] (by kernel_rfl) rfl rfl ⟨k2, k3, k4, c1⟩ (fun hHeld => ?_)
  refine pure_ (i := 0) (N := some 65) (v := ?_) (a' := ?_) #[true, false, false, false, false, false, false, false, false, false, false, false, false, false] rfl rfl (by kernel_rfl) (fun _ _ _ h => h) (Or.inl ⟨by rfl, ?_⟩) ?_ ?_
  rotate_left
  · intro w'
    go_simp
    with_reducible rfl
  rotate_left
  · simp only [Act.put, List.setIfInBounds_toArray, List.set_cons_zero, List.set_cons_succ, i64_w, i32_w]
    rfl
  refine pure_ (i := 1) (N := some 66) (v := ?_) (a' := ?_) #[true, true, false, false, false, false, false, false, false, false, false, false, false, false] rfl rfl (by kernel_rfl) (fun _ _ _ h => h) (Or.inl ⟨by rfl, ?_⟩) ?_ ?_
  rotate_left
  · intro w'
    go_simp
    with_reducible rfl
  rotate_left
  · simp only [Act.put, List.setIfInBounds_toArray, List.set_cons_zero, List.set_cons_succ, i64_w, i32_w]
    rfl
  refine pure_ (i := 3) (N := some 68) (v := ?_) (a' := ?_) #[true, true, false, true, false, false, false, false, false, false, false, false, false, false] rfl rfl (by kernel_rfl) (fun _ _ _ h => h) (Or.inl ⟨by rfl, ?_⟩) ?_ ?_
  rotate_left
  · intro w'
    go_simp
    with_reducible rfl
  rotate_left
  · simp only [Act.put, List.setIfInBounds_toArray, List.set_cons_zero, List.set_cons_succ, i64_w, i32_w]
    rfl
  refine pure_ (i := 6) (N := some 71) (v := ?_) (a' := ?_) #[true, true, false, true, false, false, true, false, false, false, false, false, false, false] rfl rfl (by kernel_rfl) (fun _ _ _ h => h) (Or.inl ⟨by rfl, ?_⟩) ?_ ?_
  rotate_left
  · intro w'
    go_simp
    with_reducible rfl
  rotate_left
  · simp only [Act.put, List.setIfInBounds_toArray, List.set_cons_zero, List.set_cons_succ, i64_w, i32_w]
    rfl
  refine pure_ (i := 10) (N := some 75) (v := ?_) (a' := ?_) #[true, true, false, true, false, false, true, false, false, false, true, false, false, false] rfl rfl (by kernel_rfl) (fun _ _ _ h => h) (Or.inl ⟨by rfl, ?_⟩) ?_ ?_
  rotate_left
  · intro w'
    go_simp
    with_reducible rfl
  rotate_left
  · simp only [Act.put, List.setIfInBounds_toArray, List.set_cons_zero, List.set_cons_succ, i64_w, i32_w]
    rfl
  refine take_ (i := 2) (N := some 67) (v := ?_) (a' := ?_) #[true, true, true, true, false, false, true, false, false, false, true, false, false, false] rfl rfl (by kernel_rfl) (fun _ _ _ h => h) (Or.inl ⟨by rfl, ?_⟩) hHeld ?_ ?_
  rotate_left
  · rintro w' ⟨s0, s1, s2, s3⟩
    go_simp
    with_reducible rfl
  rotate_left
  · simp only [Act.put, List.setIfInBounds_toArray, List.set_cons_zero, List.set_cons_succ, i64_w, i32_w]
    rfl
  refine take_ (i := 4) (N := some 69) (v := ?_) (a' := ?_) #[true, true, true, true, true, false, true, false, false, false, true, false, false, false] rfl rfl (by kernel_rfl) (fun _ _ _ h => h) (Or.inl ⟨by rfl, ?_⟩) hHeld ?_ ?_
  rotate_left
  · rintro w' ⟨s0, s1, s2, s3⟩
    go_simp
    with_reducible rfl
  rotate_left
  · simp only [Act.put, List.setIfInBounds_toArray, List.set_cons_zero, List.set_cons_succ, i64_w, i32_w]
    rfl
  refine take_ (i := 7) (N := some 72) (v := ?_) (a' := ?_) #[true, true, true, true, true, false, true, true, false, false, true, false, false, false] rfl rfl (by kernel_rfl) (fun _ _ _ h => h) (Or.inl ⟨by rfl, ?_⟩) hHeld ?_ ?_
  rotate_left
  · rintro w' ⟨s0, s1, s2, s3⟩
    go_simp
    with_reducible rfl
  rotate_left
  · simp only [Act.put, List.setIfInBounds_toArray, List.set_cons_zero, List.set_cons_succ, i64_w, i32_w]
    rfl
  refine take_ (i := 11) (N := some 76) (v := ?_) (a' := ?_) #[true, true, true, true, true, false, true, true, false, false, true, true, false, false] rfl rfl (by kernel_rfl) (fun _ _ _ h => h) (Or.inl ⟨by rfl, ?_⟩) hHeld ?_ ?_
  rotate_left
  · rintro w' ⟨s0, s1, s2, s3⟩
    go_simp
    with_reducible rfl
  rotate_left
  · simp only [Act.put, List.setIfInBounds_toArray, List.set_cons_zero, List.set_cons_succ, i64_w, i32_w]
    rfl
  refine one_ (i := 5) (N := some 70) #[true, true, true, true, true, true, true, true, false, false, true, true, false, false] rfl rfl (by kernel_rfl) (by decide) (fun K hK => ?_)
  refine value_ (w1 := ?_) (v := ?_) (by rfl) rfl ?_ ?_
  rotate_left 2
  · go_simp
    constructor
    · rfl
    · rfl
  have hx7 : Below w4.heap.size w4 (w6.alloc (.cells #[.int .u32 low, .int .u32 high] 22)).drew := (hx6.alloc hx6.size (.cells #[.int .u32 low, .int .u32 high] 22)).drew
  have o7 : Own (w6.alloc (.cells #[.int .u32 low, .int .u32 high] 22)).drew w.heap.size v6 _ := o6.alloc (.cells #[.int .u32 low, .int .u32 high] 22)
  have bs : Blk (w6.alloc (.cells #[.int .u32 low, .int .u32 high] 22)).drew w6.heap.size 22 #[.int .u32 low, .int .u32 high] := Blk.new w6 22 #[.int .u32 low, .int .u32 high]
  have hs7 := (RdN.of_blk (l := [low, high]) (U4.pair hl0 hl1 hi0 hi1) bs).take 1
  have hne : ∀ ad, some (⟨w6.heap.size, 0, none⟩ : Addr) = some ad → some ad.block ≠ v6.ownBlock := fun ad h => by (cases h; intro e; have := (o6.2.lt _ e.symm).2; simp at this)
  generalize (w6.alloc (.cells #[.int .u32 low, .int .u32 high] 22)).drew = w7 at *
  have k27 := cell_later hx7 (b1.cell 2 (v := .int .u32 low) rfl)
  have k37 := cell_later hx7 (b1.cell 3 (v := .int .u32 high) rfl)
  have k47 := cell_later hx7 (b1.cell 4 (v := .slice A body.length c) rfl)
  have c17 := cell_later hx7 (bx.cell 1 (v := .int .i64 1) rfl)
  refine hK.out _ _ ⟨k27, k37, k47, c17⟩ (fun hHeld => ?_)
  clear hK K
  refine norm_ (a' := ?_) ?_ ?_
  rotate_left
  · show Act.put _ (some 70) _ = _
    simp only [Act.put, List.setIfInBounds_toArray, List.set_cons_zero, List.set_cons_succ, i64_w, i32_w]
    rfl
  refine pure_ (i := 8) (N := some 73) (v := ?_) (a' := ?_) #[true, true, true, true, true, true, true, true, true, false, true, true, false, false] rfl rfl (by kernel_rfl) (fun _ _ _ h => h) (Or.inl ⟨by rfl, ?_⟩) ?_ ?_
  rotate_left
  · intro w'
    go_simp
    with_reducible rfl
  rotate_left
  · simp only [Act.put, List.setIfInBounds_toArray, List.set_cons_zero, List.set_cons_succ, i64_w, i32_w]
    rfl
  refine one_ (i := 9) (N := some 74) #[true, true, true, true, true, true, true, true, true, true, true, true, false, false] rfl rfl (by kernel_rfl) (by decide) (fun K hK => ?_)
  refine goes_ Tryd.func31 (by kernel_rfl) rfl #[v6, .slice (some ⟨w6.heap.size, 0, none⟩) 1 2] (by rfl) rfl rfl (by simp only [List.map_toArray, List.map_cons, List.map_nil]; rfl) ?_
  with_reducible refine (repput' w7 w.heap.size v6 _ o7 (some ⟨w6.heap.size, 0, none⟩) 1 2 ([low, high].take 1) (by omega) rfl hs7 hne (by have := rowN_le how; simp [rw4_length, rowF_length]; omega) (Nat.le_trans hB.size hx7.size)).mono ?_
  rintro e w8 ⟨v8, rfl, o8, hg8, hv8⟩
  refine ⟨_, rfl, ?_⟩
  have hx8 := (hx7.asGrown.andThen hg8 (fun j hj => .inl (hv6' j hj))).asBelow
  have k28 := cell_later hx8 (b1.cell 2 (v := .int .u32 low) rfl)
  have k38 := cell_later hx8 (b1.cell 3 (v := .int .u32 high) rfl)
  have k48 := cell_later hx8 (b1.cell 4 (v := .slice A body.length c) rfl)
  have c18 := cell_later hx8 (bx.cell 1 (v := .int .i64 1) rfl)
  have hB8 := below_then hB hx8
  refine hK.out _ _ ⟨k28, k38, k48, c18⟩ (fun hHeld => ?_)
  clear hK K
  refine norm_ (a' := ?_) ?_ ?_
  rotate_left
  · show Act.put _ (some 74) _ = _
    simp only [Act.put, List.setIfInBounds_toArray, List.set_cons_zero, List.set_cons_succ, i64_w, i32_w]
    rfl
  refine one_ (i := 12) (N := some 77) #[true, true, true, true, true, true, true, true, true, true, true, true, true, false] rfl rfl (by kernel_rfl) (by decide) (fun K hK => ?_)
  rw [if_pos (by rfl)]
  refine wp_app _ _ rfl rfl _ w.heap.size v8 _ rfl o8 A c body rfl (hr.below hB8) (by have := rowN_le how; simp [rw4_length, rowF_length]; omega) hB8.size ?_
  intro v9 w9 ho9 hg9 hv9
  have hv8' : ∀ j, v8.ownBlock = some j → w4.heap.size ≤ j := fun j hj => by rcases hv8 j hj with h | h; exact Nat.le_trans hx7.size h; exact hv6' j h
  have hx9 := (hx8.asGrown.andThen hg9 (fun j hj => .inl (hv8' j hj))).asBelow
  have k29 := cell_later hx9 (b1.cell 2 (v := .int .u32 low) rfl)
  have k39 := cell_later hx9 (b1.cell 3 (v := .int .u32 high) rfl)
  have k49 := cell_later hx9 (b1.cell 4 (v := .slice A body.length c) rfl)
  have c19 := cell_later hx9 (bx.cell 1 (v := .int .i64 1) rfl)
  have hB9 := below_then hB hx9
  refine hK.out _ _ ⟨k29, k39, k49, c19⟩ (fun hHeld => ?_)
  clear hK K
  refine norm_ (a' := ?_) ?_ ?_
  rotate_left
  · show Act.put _ (some 77) _ = _
    simp only [Act.put, List.setIfInBounds_toArray, List.set_cons_zero, List.set_cons_succ, i64_w, i32_w]
    rfl
  refine pure_ (i := 13) (N := some 6) (v := ?_) (a' := ?_) #[true, true, true, true, true, true, true, true, true, true, true, true, true, true] rfl rfl (by kernel_rfl) (fun _ _ _ h => h) (Or.inl ⟨by rfl, ?_⟩) ?_ ?_
  rotate_left
  · intro w'
    go_simp
    with_reducible rfl
  rotate_left
  · simp only [Act.put, List.setIfInBounds_toArray, List.set_cons_zero, List.set_cons_succ, i64_w, i32_w]
    rfl
  refine done_ (by kernel_rfl) ?_
  have hlen : putL xid how low high body = [] ++ rw4 [xid, 1] ++ rw4 (rowF how) ++ rw4 ([low, high].take 1) ++ body := by unfold putL; rw [HT.out]; rfl
  rw [← hlen] at ho9
  obtain ⟨L, hLd⟩ : ∃ L, L = putL xid how low high body := ⟨_, rfl⟩
  rw [← hLd] at ho9 hlen
  have HD := Lib.hid hLd
  obtain ⟨A9, c9, rfl, _, _, r9⟩ := ho9.form
  clear hLd hHeld hlen hx9 hv8' k29 k39 k49 c19 hg9 hv9 hB8 o8 hg8 hv8 hx8 o7 o6 hv6'
  by_cases hlen : L.length ≤ 65536
  · have ht : ¬ 65536 < (L.length : Int) := by omega
    have HL := Lib.hid hlen
    clear hlen
    go_wp2
    go_ret2
    exact ⟨PutEnd.fits (by rw [← HD.out]; exact HL.out) rfl (by rw [← HD.out]; exact ho9), hB9⟩
  · have ht : 65536 < (L.length : Int) := by omega
    have HL := Lib.hid hlen
    clear hlen
    go_wp2
    go_ret2
    exact ⟨PutEnd.long (by rw [← HD.out]; exact HL.out) rfl, hB9⟩


end Go.Proofs.YtoodmjdafifbmaaDoor.Hand
