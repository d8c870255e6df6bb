/- The cache in plain words: the last so many that were added, in order. -/
import Derived.Test.YtjmganppgojdhaaCacheLives
namespace Go.Proofs.Ytjmganppgojdhaa.Hand
open Go.RowKit
set_option linter.unusedVariables false
set_option linter.unusedSimpArgs false

def kOf (x : Int) : Key := (x % 3, [x])
theorem kOf_inj {x y : Int} (h : kOf x = kOf y) : x = y := by
  unfold kOf at h
  injection h with _ h
  injection h
theorem mem_kOf {rows : List Int} {x : Int} : kOf x ∈ rows.map kOf ↔ x ∈ rows := by
  constructor
  · intro h
    obtain ⟨y, hy, e⟩ := List.mem_map.1 h
    exact kOf_inj e ▸ hy
  · exact fun h => List.mem_map.2 ⟨x, h, rfl⟩
theorem okOf {x : Int} (h0 : 0 ≤ x) (h1 : x < 256) : okKey (x % 3) [x] := ok_lit _ _ ⟨Int.emod_nonneg _ (by decide), Int.emod_lt_of_pos _ (by decide)⟩ h0 h1
def rowNext (N : Nat) (rows : List Int) (x : Int) : List Int := if N < rows.length + 1 then (rows ++ [x]).tail else rows ++ [x]
/-- What is remembered: just the rows. -/
structure MR (N : Nat) (rows : List Int) (m : Int → List Int → Option (List Int)) : Prop where
  has : ∀ f s, (m f s).isSome = true ↔ (f, s) ∈ rows.map kOf
  nodup : rows.Nodup
  len : rows.length ≤ N
  bs : Bs rows
theorem MR.start {N : Nat} : MR N [] (fun _ _ => none) := ⟨by simp, List.nodup_nil, Nat.zero_le _, Bs.nil⟩
theorem MR.find {N : Nat} {rows : List Int} {m : Int → List Int → Option (List Int)} (h : MR N rows m) (x : Int) : (m (x % 3) [x]).isSome = decide (x ∈ rows) := by
  rw [Bool.eq_iff_iff, h.has, decide_eq_true_eq]
  exact mem_kOf
theorem MR.none {N : Nat} {rows : List Int} {m : Int → List Int → Option (List Int)} (h : MR N rows m) {x : Int} (hx : x ∉ rows) : m (x % 3) [x] = .none := by
  have := h.find x
  rw [decide_eq_false hx] at this
  exact Option.not_isSome_iff_eq_none.1 (by rw [this]; decide)
theorem next_ks {N : Nat} {rows : List Int} {x : Int} : addKs N (rows.map kOf) (x % 3, [x]) = (rowNext N rows x).map kOf := by
  unfold addKs rowNext
  rw [List.length_map]
  have e : rows.map kOf ++ [(x % 3, [x])] = (rows ++ [x]).map kOf := by rw [List.map_append]; rfl
  split
  · rw [e, List.map_tail]
  · rw [e]
theorem MR.next {N : Nat} {rows : List Int} {m : Int → List Int → Option (List Int)} (h : MR N rows m) (hN : 1 ≤ N) {x : Int} (h0 : 0 ≤ x) (h1 : x < 256) (hx : x ∉ rows) (r : List Int) : MR N (rowNext N rows x) (addM N (rows.map kOf) m (x % 3) [x] r) := by
  have hnd : (rows ++ [x]).Nodup := by
    rw [List.nodup_append]
    exact ⟨h.nodup, (by simp), fun a ha b hb => by rw [List.mem_singleton] at hb; subst hb; rintro rfl; exact hx ha⟩
  have hbs : Bs (rows ++ [x]) := h.bs.append (Bs.cons h0 h1 Bs.nil)
  have hup : ∀ f s, (upd m (x % 3) [x] (some r) f s).isSome = true ↔ (f, s) ∈ (rows ++ [x]).map kOf := by
    intro f s
    rw [List.map_append, List.mem_append, ← h.has f s]
    unfold upd
    split
    · rename_i e
      obtain ⟨rfl, rfl⟩ := e
      simp [kOf]
    · rename_i e
      simp only [List.map_cons, List.map_nil, List.mem_singleton, kOf, Prod.mk.injEq]
      exact ⟨.inl, fun h => h.elim id fun h => absurd h e⟩
  by_cases hf : N < rows.length + 1
  · obtain ⟨y, ys, hq⟩ : ∃ y ys, rows ++ [x] = y :: ys := by
      cases hq : rows ++ [x] with
      | nil => simp at hq
      | cons a b => exact ⟨a, b, rfl⟩
    have hq' : rows.map kOf ++ [(x % 3, [x])] = kOf y :: ys.map kOf := by
      have := congrArg (List.map kOf) hq
      rw [List.map_append] at this
      exact this
    have er : rowNext N rows x = ys := by unfold rowNext; rw [if_pos hf, hq]; rfl
    rw [er, addM_full (by rw [List.length_map]; exact hf) hq']
    have hl := congrArg List.length hq
    simp only [List.length_append, List.length_cons, List.length_nil] at hl
    rw [hq] at hnd hbs hup
    refine ⟨fun f s => ?_, (List.nodup_cons.1 hnd).2, by have := h.len; omega, fun z hz => hbs z (List.mem_cons_of_mem _ hz)⟩
    have hy := (List.nodup_cons.1 hnd).1
    unfold upd
    by_cases e : f = (kOf y).1 ∧ s = (kOf y).2
    · rw [if_pos e]
      obtain ⟨rfl, rfl⟩ := e
      refine ⟨fun h => (by simp at h), fun h => ?_⟩
      exact absurd (mem_kOf.1 h) hy
    · rw [if_neg e]
      have := hup f s
      unfold upd at this
      rw [this, List.map_cons, List.mem_cons]
      refine ⟨fun h => h.elim (fun h => absurd ⟨congrArg Prod.fst h, congrArg Prod.snd h⟩ e) id, .inr⟩
  · have er : rowNext N rows x = rows ++ [x] := if_neg hf
    rw [er, addM_no (by rw [List.length_map]; exact hf)]
    exact ⟨hup, hnd, by rw [List.length_append]; simp; omega, hbs⟩

/-- Ahead of a round: the cache remembers rows; the slice rv holds rr. -/
structure CL (w : World) (cb mb N cnt : Nat) (vc : Value) (rows : List Int) (m : Int → List Int → Option (List Int)) (rv : Value) (rr : List Int) (wr : World) : Prop where
  is : CacheIs wr w.heap.size cb mb N cnt vc (rows.map kOf) m
  mr : MR N rows m
  row : Que wr w.heap.size 5 1 rv rr.length (rr.map (Value.int .u8))
  below : Below w.heap.size w wr
section
variable {w wr wx : World} {cb mb N cnt : Nat} {vc rv : Value} {rows rr : List Int} {m : Int → List Int → Option (List Int)}
theorem CL.later (h : CL w cb mb N cnt vc rows m rv rr wr) (hb : Below wr.heap.size wr wx) : CL w cb mb N cnt vc rows m rv rr wx :=
  ⟨h.is.below hb, h.mr, h.row.below hb, below_then h.below hb⟩
theorem CL.drewN (h : CL w cb mb N cnt vc rows m rv rr wr) (n : Nat) : CL w cb mb N cnt vc rows m rv rr (wr.drewN n) := h.later (below_drewN (Below.refl _ wr) n)
theorem Que.but {base B n : Nat} {v x : Value} {ks : List Key} {xs : List Value} {w w' : World} (h : CacheIs w base cb mb N cnt v ks m) (b : But w w' cb mb v.ownBlock) (o : Que w B 5 1 x n xs) : Que w' B 5 1 x n xs :=
  o.kept fun g hg => by
    obtain ⟨_, cs, e⟩ := o.cells hg
    exact ne_cells h b e (by decide) (by decide)
theorem CacheIs.row_ {base B n : Nat} {v x : Value} {ks : List Key} {xs : List Value} {w w' : World} (h : CacheIs w base cb mb N cnt v ks m) (o : Que w B 5 1 x n xs) (g : w.grownBy w' x.ownBlock) : CacheIs w' base cb mb N cnt v ks m :=
  h.kept g.os g.tape g.output g.size fun i hi hor => g.block i hi fun e => by
    obtain ⟨_, cs, hg⟩ := o.cells e.symm
    rcases hor with rfl | rfl | hv
    · have := h.blk
      unfold Blk at this
      rw [this] at hg
      injection hg with hg
      injection hg with _ e
      exact absurd e (by decide)
    · obtain ⟨D, _, ⟨es, clock, e1, _⟩, _⟩ := h.map
      rw [e1] at hg
      injection hg with hg
      cases hg
    · obtain ⟨_, cs', e'⟩ := h.row.cells hv
      rw [e'] at hg
      injection hg with hg
      injection hg with _ e
      exact absurd e (by decide)
theorem cl_known (H : CL w cb mb N cnt vc rows m rv rr wr) (hcnt : cnt ≤ 1000) (y : Int) (hy : y ∈ rows) (A B : Option Addr) (c d : Nat) (r : List Int) (ha : Rd wr A [y]) (hb : Rd wr B r) (hrl : r.length ≤ 1000) :
    Calls Try.prog 11 #[.pointer (some ⟨cb, 0, none⟩), .int .u64 (y % 3), .slice A 1 c, .slice B r.length d] wr fun e w' => e = .returned (.int .i64 7) ∧ CL w cb mb N cnt vc rows m rv rr w' := by
  have hyb := ha.1 y (by simp)
  refine (cache_add _ _ _ _ _ _ _ _ _ H.is H.below.size (by omega) (y % 3) _ c [y] ha (okOf hyb.1 hyb.2) _ d r hb (by omega)).mono ?_
  rintro e w' (⟨_, he, hb⟩ | ⟨h1, _, _⟩)
  · exact ⟨he, H.later hb⟩
  · have := H.mr.find y
    rw [h1, decide_eq_true hy] at this
    cases this
theorem cl_fresh (H : CL w cb mb N cnt vc rows m rv rr wr) (hcnt : cnt ≤ 1000) (hN : 1 ≤ N) (y : Int) (hy : y ∉ rows) (A B : Option Addr) (c d : Nat) (r : List Int) (ha : Rd wr A [y]) (hb : Rd wr B r) (hrl : r.length ≤ 1000) :
    Calls Try.prog 11 #[.pointer (some ⟨cb, 0, none⟩), .int .u64 (y % 3), .slice A 1 c, .slice B r.length d] wr fun e w' => e = .returned (.int .i64 0) ∧ ∃ vc' m', CL w cb mb N (cnt + 1) vc' (rowNext N rows y) m' rv rr w' := by
  have hyb := ha.1 y (by simp)
  refine (cache_add _ _ _ _ _ _ _ _ _ H.is H.below.size (by omega) (y % 3) _ c [y] ha (okOf hyb.1 hyb.2) _ d r hb (by omega)).mono ?_
  rintro e w' (⟨h1, _, _⟩ | ⟨_, he, v', had⟩)
  · rw [H.mr.none hy] at h1
    cases h1
  · refine ⟨he, v', _, ?_, H.mr.next hN hyb.1 hyb.2 hy r, H.row.but H.is had.but, H.below.trans (had.below H.is H.below.size)⟩
    have := had.is
    rw [next_ks] at this
    exact this
theorem cl_find (H : CL w cb mb N cnt vc rows m rv rr wr) (y : Int) (A : Option Addr) (c : Nat) (ha : Rd wr A [y]) :
    Calls Try.prog 12 #[.pointer (some ⟨cb, 0, none⟩), .int .u64 (y % 3), .slice A 1 c] wr fun e w' => ∃ v, e = .returned (.tuple #[v, .bool (decide (y ∈ rows))]) ∧ CL w cb mb N cnt vc rows m rv rr w' := by
  have hyb := ha.1 y (by simp)
  refine (cache_find _ _ _ _ _ _ _ _ _ H.is (y % 3) _ c [y] ha (okOf hyb.1 hyb.2)).mono ?_
  rintro e w' ⟨hb, he⟩
  have hf := H.mr.find y
  rw [← hf]
  cases hq : m (y % 3) [y] with
  | none =>
    rw [hq] at he
    exact ⟨_, he, H.later hb⟩
  | some r =>
    rw [hq] at he
    obtain ⟨x, he, _⟩ := he
    exact ⟨x, he, H.later hb⟩
end
theorem u64mod {y : Int} (hy : 0 ≤ y ∧ y < 256) : IntKind.u64.wrap (y.tmod 3) = y % 3 := by
  rw [Int.tmod_eq_emod_of_nonneg hy.1]
  have h1 := Int.emod_nonneg y (by decide : (3 : Int) ≠ 0)
  have h2 := Int.emod_lt_of_pos y (by decide : (0 : Int) < 3)
  rw [IntKind.wrap_u64]
  omega
section
variable {w wr wx : World} {cb mb N cnt : Nat} {vc rv : Value} {rows rr : List Int} {m : Int → List Int → Option (List Int)}
theorem cl_known' (H : CL w cb mb N cnt vc rows m rv rr wr) (hcnt : cnt ≤ 1000) (y : Int) (hy : y ∈ rows) (A B : Option Addr) (c d : Nat) (r1 r2 : Int) (ha : Rd wr A [y]) (hb : Rd wr B [r1, r2]) :
    Calls Try.prog 11 #[.pointer (some ⟨cb, 0, none⟩), .int .u64 (IntKind.u64.wrap (y.tmod 3)), .slice A 1 c, .slice B 2 d] wr fun e w' => e = .returned (.int .i64 7) ∧ CL w cb mb N cnt vc rows m rv rr w' := by
  rw [u64mod (ha.1 y (by simp))]
  exact cl_known H hcnt y hy A B c d [r1, r2] ha hb (by simp)
theorem cl_fresh' (H : CL w cb mb N cnt vc rows m rv rr wr) (hcnt : cnt ≤ 1000) (hN : 1 ≤ N) (y : Int) (hy : y ∉ rows) (A B : Option Addr) (c d : Nat) (r1 r2 : Int) (ha : Rd wr A [y]) (hb : Rd wr B [r1, r2]) :
    Calls Try.prog 11 #[.pointer (some ⟨cb, 0, none⟩), .int .u64 (IntKind.u64.wrap (y.tmod 3)), .slice A 1 c, .slice B 2 d] wr fun e w' => e = .returned (.int .i64 0) ∧ ∃ vc' m', CL w cb mb N (cnt + 1) vc' (rowNext N rows y) m' rv rr w' := by
  rw [u64mod (ha.1 y (by simp))]
  exact cl_fresh H hcnt hN y hy A B c d [r1, r2] ha hb (by simp)
end
theorem dec_take {rows : List Int} {j : Nat} (h : j < rows.length) (y : Int) : decide (y ∈ rows.take (j + 1)) = (decide (y ∈ rows.take j) || (nth rows j == y)) := by
  rw [List.take_succ_eq_append_getElem h, ← gd _ _ h, Bool.eq_iff_iff]
  simp only [decide_eq_true_eq, Bool.or_eq_true, List.mem_append, List.mem_singleton, beq_iff_eq]
  exact ⟨fun h => h.imp id Eq.symm, fun h => h.imp id Eq.symm⟩
theorem Rd.one {w : World} {a : Addr} {y : Int} (h : w.cell? a = some (.int .u8 y)) (hy : 0 ≤ y ∧ y < 256) : Rd w (some a) [y] := by
  refine ⟨Bs.cons hy.1 hy.2 Bs.nil, fun _ => ⟨_, rfl, fun j hj => ?_⟩⟩
  have hj0 : j < 1 := hj
  obtain rfl : j = 0 := by omega
  have e : a.add 0 = a := by simp [Addr.add]
  rw [e]
  exact h
section
variable {w wx w5 : World} {cb mb N cnt : Nat} {vc rv v5 : Value} {rows rr : List Int} {m : Int → List Int → Option (List Int)}
theorem CL.app {y : Int} (h : CL w cb mb N cnt vc rows m rv rr wx) (q : Que w5 w.heap.size 5 1 v5 (rr.length + 1) (rr.map (Value.int .u8) ++ [.int .u8 y])) (g : wx.grownBy w5 rv.ownBlock) : CL w cb mb N cnt vc rows m v5 (rr ++ [y]) w5 :=
  ⟨h.is.row_ h.row g, h.mr, by rw [List.length_append, List.map_append]; exact q, h.below.grown g h.below.size fun k hk => (h.row.cells hk).1⟩
theorem CL.cut {z : Int} {zs : List Int} (h : CL w cb mb N cnt vc rows m rv (z :: zs) wx) : ∃ A c, rv = .slice (some A) (zs.length + 1) c ∧ 1 ≤ c ∧ CL w cb mb N cnt vc rows m (.slice (if c = 1 then some A else some (A.add 1)) zs.length (c - 1)) zs wx := by
  have hq : Que wx w.heap.size 5 1 rv (zs.length + 1) (Value.int .u8 z :: zs.map (Value.int .u8)) := h.row
  obtain ⟨A, c, e, h1, _, q, _⟩ := hq.tail
  exact ⟨A, c, e, h1, h.is, h.mr, q, h.below⟩
end
theorem run_cut1b (w : World) (A : Addr) (n c : Nat) (hn : 1 ≤ c) : (Instr.slice 22 (.slice (some A) (n + 1) c) (some (.int .i64 1)) none none).run Try.prog w = .ok (.slice (if c = 1 then some A else some (A.add 1)) n (c - 1)) w := by
  obtain ⟨i, hi, _, h2, _⟩ := info_parts info8
  have h2 : i.size = 1 := h2
  have he : Try.prog.elem 22 = 5 := by simp [Program.elem, Try.underlying22]
  rw [run_slice_l w 22 (some A) (n + 1) c (by rw [he]; exact Try.underlying22) .i64 1 (by decide) (by omega)]
  simp [he, sizeOf, typeInfo, hi, h2, sliced]
theorem rowNext_full {N : Nat} {rows : List Int} {y z : Int} {zs : List Int} (h : N < rows.length + 1) (e : rows ++ [y] = z :: zs) : rowNext N rows y = zs := by unfold rowNext; rw [if_pos h, e]; rfl
theorem rowNext_no {N : Nat} {rows : List Int} {y : Int} (h : ¬ N < rows.length + 1) : rowNext N rows y = rows ++ [y] := if_neg h
theorem wrap8 (k : Int) : 0 ≤ IntKind.u8.wrap k ∧ IntKind.u8.wrap k < 256 := by rw [IntKind.wrap_u8]; omega
theorem run_cut8 (w : World) (A : Addr) (n c k : Nat) (hk : k < n) (hc : n ≤ c) (hn : n ≤ 1000) : (Instr.slice 22 (.slice (some A) n c) (some (.int .i64 (k : Int))) (some (.int .i64 (wrap64 ((k : Int) + 1)))) none).run Try.prog w = .ok (.slice (some (A.add k)) 1 (c - k)) w := by
  obtain ⟨i, hi, _, h2, _⟩ := info_parts info8
  have h2 : i.size = 1 := h2
  have he : Try.prog.elem 22 = 5 := by simp [Program.elem, Try.underlying22]
  have hw : wrap64 ((k : Int) + 1) = (k : Int) + 1 := by unfold wrap64; omega
  rw [hw, run_slice_lh w 22 (some A) n c (by rw [he]; exact Try.underlying22) .i64 .i64 k (k + 1) (by omega) (by omega) (by omega)]
  have h1 : ¬ c = k := by omega
  have h3 : ((k : Int) + 1).toNat - k = 1 := by omega
  simp [he, sizeOf, typeInfo, hi, h2, sliced, h1, h3]
theorem Que.rd {w : World} {base : Nat} {v : Value} {rows : List Int} (h : Que w base 5 1 v rows.length (rows.map (Value.int .u8))) (hb : Bs rows) : ∃ A c, v = .slice A rows.length c ∧ rows.length ≤ c ∧ Rd w A rows := by
  obtain ⟨A, c, e, h1, _, hc⟩ := h.form
  refine ⟨A, c, e, h1, hb, fun h0 => ?_⟩
  obtain ⟨g, off, rfl, _, hc⟩ := hc h0
  refine ⟨_, rfl, fun j hj => ?_⟩
  rw [Addr.add_lit, hc j (by omega), List.getElem?_map, List.getElem?_eq_getElem hj, gd _ _ hj]
  rfl
end Go.Proofs.Ytjmganppgojdhaa.Hand
