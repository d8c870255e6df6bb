/- The cache: what it holds, and the contracts of New, there, Len and Find. -/
import Derived.Lib.BufferWrite
import Derived.Deep.DeepCutAuto
import Derived.Test.YtoodmjdafifbmaaDoorQue
import Derived.Test.YtoodmjdafifbmaaDoorCacheMap
namespace Go.Proofs.YtoodmjdafifbmaaDoor.Hand
open Go.RowKit
set_option linter.unusedVariables false
set_option linter.unusedSimpArgs false

abbrev Key := Int × List Int
def kcells : List Key → List Value
  | [] => []
  | k :: ks => .int .u64 k.1 :: .string (strOf k.2) :: kcells ks
theorem kcells_length : ∀ ks : List Key, (kcells ks).length = ks.length * 2
  | [] => rfl
  | k :: ks => by simp [kcells, kcells_length ks]; omega
theorem kcells_append : ∀ ks l : List Key, kcells (ks ++ l) = kcells ks ++ kcells l
  | [], l => rfl
  | k :: ks, l => by simp [kcells, kcells_append ks l]

/-- w' is w, but for the blocks cb, mb, and that of r. -/
structure But (w w' : World) (cb mb : Nat) (r : Option Nat) : Prop where
  os : w'.os = w.os
  tape : w'.tape = w.tape
  output : w'.output = w.output
  size : w.heap.size ≤ w'.heap.size
  block : ∀ i, i < w.heap.size → i ≠ cb → i ≠ mb → some i ≠ r → w'.heap[i]? = w.heap[i]?

/-- The cache at cb: of N calls; the calls ks, in order; their replies m. -/
structure CacheIs (w : World) (base cb mb : Nat) (N cnt : Nat) (v : Value) (ks : List Key) (m : Int → List Int → Option (List Int)) : Prop where
  blk : Blk w cb 79 #[.int .i64 N, .map (some mb), v]
  map : MapIs w mb cnt m
  row : Que w base 85 2 v ks.length (kcells ks)
  cb_ge : base ≤ cb
  mb_ge : base ≤ mb
  ne : mb ≠ cb
  ne1 : v.ownBlock ≠ some cb
  ne2 : v.ownBlock ≠ some mb
  ok : ∀ k ∈ ks, okKey k.1 k.2
  pos : 1 ≤ N
  most : N ≤ 1000000
  len : ks.length ≤ cnt
  bs : ∀ f s r, m f s = some r → Bs r ∧ r.length ≤ 1000000

theorem MapIs.same {w w' : World} {mb cnt : Nat} {m : Int → List Int → Option (List Int)} (h : MapIs w mb cnt m) (e : w'.heap[mb]? = w.heap[mb]?) : MapIs w' mb cnt m := by
  obtain ⟨D, h1, ⟨es, clock, e1, e2, e3, e4⟩, h3⟩ := h
  exact ⟨D, h1, ⟨es, clock, e.trans e1, e2, e3, e4⟩, h3⟩
theorem CacheIs.kept {w w' : World} {base cb mb N cnt : Nat} {v : Value} {ks : List Key} {m : Int → List Int → Option (List Int)} (h : CacheIs w base cb mb N cnt v ks m)
    (hos : w'.os = w.os) (htp : w'.tape = w.tape) (hout : w'.output = w.output) (hsz : w.heap.size ≤ w'.heap.size)
    (hk : ∀ i, i < w.heap.size → i = cb ∨ i = mb ∨ v.ownBlock = some i → w'.heap[i]? = w.heap[i]?) : CacheIs w' base cb mb N cnt v ks m := by
  refine ⟨(hk cb h.blk.lt (.inl rfl)).trans h.blk, ?_, h.row.kept fun g hg => hk g (h.row.lt hg) (.inr (.inr hg)), h.cb_ge, h.mb_ge, h.ne, h.ne1, h.ne2, h.ok, h.pos, h.most, h.len, h.bs⟩
  obtain ⟨D, h1, ⟨es, clock, e1, e2, e3, e4⟩, h3⟩ := h.map
  exact ⟨D, h1, ⟨es, clock, (hk mb h.map.lt (.inr (.inl rfl))).trans e1, e2, e3, e4⟩, h3⟩
theorem CacheIs.below {w w' : World} {base cb mb N cnt : Nat} {v : Value} {ks : List Key} {m : Int → List Int → Option (List Int)} (h : CacheIs w base cb mb N cnt v ks m) (hb : Below w.heap.size w w') : CacheIs w' base cb mb N cnt v ks m :=
  h.kept hb.os hb.tape hb.output hb.size fun i hi _ => hb.block i hi
theorem CacheIs.alloc {w : World} {base cb mb N cnt : Nat} {v : Value} {ks : List Key} {m : Int → List Int → Option (List Int)} (h : CacheIs w base cb mb N cnt v ks m) (o : Obj) : CacheIs (w.alloc o) base cb mb N cnt v ks m := h.below ((Below.refl _ w).alloc (Nat.le_refl _) o)

set_option maxRecDepth 100000 in
set_option maxHeartbeats 1000000 in
theorem cache_new (n : Nat) (w : World) (h0 : 1 ≤ n) (h1 : n ≤ 64) :
    Calls Tryd.prog 16 #[.int .i64 n] w fun e w' => e = .returned (.tuple #[.pointer (some ⟨w.heap.size + 1, 0, none⟩), .int .i64 0]) ∧ CacheIs w' w.heap.size (w.heap.size + 1) w.heap.size n 0 (.slice none 0 0) [] (fun _ _ => none) ∧ Below w.heap.size w w' := by
  have g0 : ¬ ((n : Int) < 1) := by omega
  have g1 : ¬ ((n : Int) > 64) := by omega
  have g2 : ¬ ((64 : Int) < n) := by omega
  have hb1 : Blk ((w.alloc (.map #[] 0)).alloc (.cells #[.int .i64 n, .map (some w.heap.size), .slice none 0 0] 79)) (w.heap.size + 1) 79 #[.int .i64 n, .map (some w.heap.size), .slice none 0 0] := by
    have h := Blk.new (w.alloc (.map #[] 0)) 79 #[.int .i64 n, .map (some w.heap.size), .slice none 0 0]
    have e : (w.alloc (.map #[] 0)).heap.size = w.heap.size + 1 := by simp
    rw [e] at h
    exact h
  go_enter Tryd.func16, Tryd.ntmps16
  go_wp2
  rw [run_makeMap]
  have m0 := MapIs.made w
  have B0 : Below w.heap.size w (w.alloc (.map #[] 0)) := (Below.refl _ w).alloc (Nat.le_refl _) _
  have e : (w.alloc (.map #[] 0)).heap.size = w.heap.size + 1 := by simp
  generalize w.alloc (.map #[] 0) = x0 at *
  go_wp2
  rw [← e] at hb1
  go_ret2
  refine ⟨rfl, ?_, B0.alloc B0.size _⟩
  rw [e] at hb1
  refine ⟨hb1, m0.below ((Below.refl _ x0).alloc (Nat.le_refl _) _), Que.nil _ _ _ _, by omega, by omega, by omega, by simp [Value.ownBlock], by simp [Value.ownBlock], fun k hk => (by cases hk), h0, by omega, by simp, fun f s r h => (by cases h)⟩

set_option maxRecDepth 100000 in
theorem cache_there (w : World) (base cb mb N cnt : Nat) (v : Value) (ks : List Key) (m : Int → List Int → Option (List Int)) (h : CacheIs w base cb mb N cnt v ks m) :
    Calls Tryd.prog 55 #[.pointer (some ⟨cb, 0, none⟩)] w fun e w' => e = .returned (.bool true) ∧ w' = w := by
  have hc : w.cell? ⟨cb, 0, none⟩ = some (.int .i64 N) := h.blk.cell 0 rfl
  have hp : (0 : Int) < N := by have := h.pos; omega
  go_enter Tryd.func55, Tryd.ntmps55
  go_wp2
  go_ret
  have hd : decide (0 < N) = true := decide_eq_true h.pos
  exact ⟨ret_bool hd, rfl⟩

set_option maxRecDepth 100000 in
theorem cache_len (w : World) (base cb mb N cnt : Nat) (v : Value) (ks : List Key) (m : Int → List Int → Option (List Int)) (h : CacheIs w base cb mb N cnt v ks m) :
    Calls Tryd.prog 20 #[.pointer (some ⟨cb, 0, none⟩)] w fun e w' => e = .returned (.int .i64 ks.length) ∧ w' = w := by
  obtain ⟨A, c, e1, e2, e3, _⟩ := h.row.form
  have hc : w.cell? ⟨cb, 2, none⟩ = some v := h.blk.cell 2 rfl
  rw [e1] at hc
  go_enter Tryd.func20, Tryd.ntmps20
  go_wp2_with fail
  refine (cache_there w base cb mb N cnt v ks m h).mono ?_
  rintro e w1 ⟨rfl, rfl⟩
  go_wp2
  go_ret
  exact ⟨rfl, rfl⟩

theorem strOf_cells {l : List Int} (h : Bs l) : Lib.byteCells (strOf l).data.toList = l.map (Value.int .u8) := by
  rw [strOf_data]
  unfold Lib.byteCells u8s
  rw [List.map_map]
  refine List.map_congr_left fun x hx => ?_
  have := h x hx
  simp only [Function.comp_apply, UInt8.toNat_ofNat']
  rw [Nat.mod_eq_of_lt (by omega), Int.toNat_of_nonneg this.1]
/-- copy(out, s) into a row just made. -/
theorem run_copy_str (ty : TypeId) (w : World) (g : Nat) (l : List Int) (hl : Bs l) (hm : l.length ≤ maxLen) (cur : Array Value) (hg : w.heap[g]? = some (.cells cur 5 (0, 0))) (hc : cur.size = l.length) :
    ∃ w', (Builtin.copy_ #[24, 9] ty #[.slice (some ⟨g, 0, none⟩) l.length l.length, .string (strOf l)]).run Tryd.prog w = .ok (.int .i64 l.length) w' ∧ Own w' g (.slice (some ⟨g, 0, none⟩) l.length l.length) l ∧ w.grownBy w' (some g) := by
  have hz := strOf_size l
  have hi : (Tryd.prog.info? 5).map (·.size) = some 1 := by
    obtain ⟨i, hi, _, h1, _⟩ := info_parts info8
    rw [hi]; simp [h1]
  have hr := Lib.run_copy_row_string (P := Tryd.prog) w 24 9 ty 5 g 0 l.length l.length (strOf l) cur 5 Tryd.underlying24 hi hg (by omega) (by omega)
  rw [hz] at hr
  refine ⟨_, hr, ⟨hl, by simp, .inr ⟨g, l.length, _, rfl, Nat.le_refl _, setRow_heap w g cur _ _ _ hg, Nat.le_refl _, hm, ?_, ?_⟩⟩, ⟨rfl, rfl, rfl, by simp [World.setRow], fun k _ hk => setRow_other w g k _ (fun e => hk (by simp [e]))⟩⟩
  · have hcl : (Lib.byteCells (strOf l).data.toList).length = l.length := by rw [strOf_cells hl]; simp
    simp only [List.size_toArray, List.length_append, List.length_take, List.length_drop, Array.length_toList, hcl]
    omega
  · rw [strOf_cells hl, List.take_zero, List.nil_append, Nat.mul_one]
    exact List.take_left' (by simp)

def FindEnd (base : Nat) (o : Option (List Int)) (e : Ending) (w' : World) : Prop := match o with
  | none => e = .returned (.tuple #[.slice none 0 0, .bool false])
  | some r => ∃ x, e = .returned (.tuple #[x, .bool true]) ∧ Own w' base x r
theorem FindEnd.none {base : Nat} {o : Option (List Int)} {e : Ending} {w' : World} (h : o = .none) (he : e = .returned (.tuple #[.slice .none 0 0, .bool false])) : FindEnd base o e w' := by
  subst h; exact he
theorem FindEnd.some {base : Nat} {o : Option (List Int)} {e : Ending} {w' : World} {r : List Int} {x : Value} (h : o = .some r) (he : e = .returned (.tuple #[x, .bool true])) (hx : Own w' base x r) : FindEnd base o e w' := by
  subst h; exact ⟨x, he, hx⟩

set_option maxRecDepth 100000 in
set_option maxHeartbeats 2000000 in
theorem cache_find (w : World) (base cb mb N cnt : Nat) (v : Value) (ks : List Key) (m : Int → List Int → Option (List Int)) (h : CacheIs w base cb mb N cnt v ks m)
    (f : Int) (A : Option Addr) (c : Nat) (l : List Int) (hl : Rd w A l) (hk : okKey f l) :
    Calls Tryd.prog 18 #[.pointer (some ⟨cb, 0, none⟩), .int .u64 f, .slice A l.length c] w fun e w' => Below w.heap.size w w' ∧ FindEnd w.heap.size (m f l) e w' := by
  have hc : w.cell? ⟨cb, 1, none⟩ = some (.map (some mb)) := h.blk.cell 1 rfl
  have hs : ∀ n, (convert 24 9 (.slice A l.length c)).run Tryd.prog (w.drewN n) = .ok (.string (strOf l)) (w.drewN n) := fun n => run_str (w.drewN n) A c l (hl.drewN n)
  obtain ⟨t, ht⟩ : ∃ t, t = strOf ((m f l).getD []) := ⟨_, rfl⟩
  obtain ⟨b, hb⟩ : ∃ b, b = (m f l).isSome := ⟨_, rfl⟩
  have hm : ∀ n, (Instr.lookup 76 (.map (some mb)) (.agg #[.int .u64 f, .string (strOf l)]) true).run Tryd.prog (w.drewN n) = .ok (.tuple #[.string t, .bool b]) (w.drewN n) := fun n => by
    rw [ht, hb]
    exact MapIs.look (w := w.drewN n) h.map hk
  obtain ⟨o, ho⟩ : ∃ o, o = m f l := ⟨_, rfl⟩
  have hbs := h.bs f l
  rw [← ho] at ht hb hbs ⊢
  have HT := Lib.hid ht
  have HO := Lib.hid ho
  clear ht ho
  go_enter Tryd.func18, Tryd.ntmps18
  go_wp2_with fail
  refine (cache_there w base cb mb N cnt v ks m h).mono ?_
  rintro e w1 ⟨rfl, rfl⟩
  go_wp2
  go_quiet (fail)
  clear hm hs
  cases o with
  | none =>
    simp only [Option.isSome_none] at hb
    subst hb
    go_wp2
    go_ret2
    exact ⟨below_drewN (Below.refl _ w1) nq, .none rfl rfl⟩
  | some r =>
    obtain ⟨hr, hrl⟩ := hbs r rfl
    simp only [Option.isSome_some] at hb
    subst hb
    obtain rfl : t = strOf r := HT.out
    clear HT hbs
    have hz := strOf_size r
    have hmk : ∀ W : World, (Instr.makeSlice 24 (.int .i64 (r.length : Int)) (.int .i64 (r.length : Int))).run Tryd.prog W = .ok (.slice (some ⟨W.heap.size, 0, none⟩) r.length r.length) (W.alloc (.cells (madeCells #[.int .u8 0] r.length) 5)) := fun W => run_make_bytes r.length r.length (Nat.le_refl _) (by omega) W
    have hrm : r.length ≤ maxLen := by unfold maxLen; omega
    go_wp2
    obtain ⟨w2, hrun, o2, hg2⟩ := run_copy_str 3 ((w1.drewN nq).alloc (.cells (madeCells #[.int .u8 0] r.length) 5)) w1.heap.size r hr hrm (madeCells #[.int .u8 0] r.length) (heap_alloc_new (w1.drewN nq) _) (by rw [size_madeCells] <;> simp)
    have hB : Below w1.heap.size w1 w2 := ((below_drewN (Below.refl _ w1) nq).alloc (Nat.le_refl _) _).grown hg2 (by simp) (fun k hk => by injection hk with hk; exact Nat.le_of_eq hk)
    rw [hrun]
    clear hrun hmk hg2
    go_wp2
    go_ret2
    exact ⟨hB, .some rfl rfl o2⟩
end Go.Proofs.YtoodmjdafifbmaaDoor.Hand
