/- The statements' lives: some answers that the chapter fixes. -/
import Derived.Lib.SlBytesConst
import Derived.Test.YtoodmjdafifbmaaDoorCacheAdd
namespace Go.Proofs.YtoodmjdafifbmaaDoor.Hand
open Go.RowKit
set_option linter.unusedVariables false
set_option linter.unusedSimpArgs false

theorem But.below {w w' : World} {base cb mb : Nat} {r : Option Nat} (h : But w w' cb mb r) (h1 : base ≤ cb) (h2 : base ≤ mb) (h3 : ∀ k, r = some k → base ≤ k) (hb : base ≤ w.heap.size) : Below base w w' :=
  ⟨h.os, h.tape, h.output, h.size, fun i hi => h.block i (Nat.lt_of_lt_of_le hi hb) (by omega) (by omega) (fun e => by have := h3 i e.symm; omega)⟩
theorem Added.below {w : World} {base cb mb N cnt : Nat} {v v' : Value} {ks : List Key} {m : Int → List Int → Option (List Int)} {f : Int} {l r : List Int} {w' : World} (h : CacheIs w base cb mb N cnt v ks m) (a : Added w base cb mb N cnt v ks m f l r w' v') (hb : base ≤ w.heap.size) : Below base w w' :=
  a.but.below h.cb_ge h.mb_ge (fun k hk => (h.row.cells hk).1) hb
theorem Rd.litc (w : World) (b : Int) (h0 : 0 ≤ b) (h1 : b < 256) : Rd (w.alloc (.cells #[.int .u8 b] 5 (1, 2))) (some ⟨w.heap.size, 0, none⟩) [b] := by
  refine ⟨fun x hx => (by rw [List.mem_singleton] at hx; omega), fun _ => ⟨_, rfl, fun j hj => ?_⟩⟩
  rw [add_plain, cell_of_row _ _ _ #[.int .u8 b] 5 (1, 2) (by show (w.heap.push _)[w.heap.size]? = _; simp)]
  have hj0 : j < 1 := hj
  have : j = 0 := by omega
  subst this
  rfl
theorem ok_lit (f b : Int) (hf : 0 ≤ f ∧ f < 3) (h0 : 0 ≤ b) (h1 : b < 256) : okKey f [b] := ⟨⟨hf.1, by omega⟩, Bs.cons h0 h1 Bs.nil, by simp⟩

abbrev M0 : Int → List Int → Option (List Int) := fun _ _ => none
abbrev M1 := upd M0 1 [97] (some [120])
abbrev M2 := upd M1 1 [98] (some [121])
abbrev M3 := upd (upd M2 1 [99] (some [122])) 1 [97] none
abbrev Q1 : List Key := [(1, [97])]
abbrev Q2 : List Key := [(1, [97]), (1, [98])]
abbrev Q3 : List Key := [(1, [98]), (1, [99])]

theorem kc1 (w : World) (C : Array Value) (n c : Nat) : (convert 24 24 (.slice (some ⟨w.heap.size, 0, none⟩) n c)).run Tryd.prog (w.alloc (.cells C 5)) = .ok (.slice (some ⟨w.heap.size, 0, none⟩) n c) (w.alloc (.cells C 5 (C.size, C.size + 1))) :=
  Lib.run_convert_bytes_const (P := Tryd.prog) w 24 5 C n c Tryd.underlying24 Tryd.underlying5
theorem kc2 (w : World) (o : Obj) (C : Array Value) (n c : Nat) : (convert 24 24 (.slice (some ⟨w.heap.size + 1, 0, none⟩) n c)).run Tryd.prog ((w.alloc o).alloc (.cells C 5)) = .ok (.slice (some ⟨w.heap.size + 1, 0, none⟩) n c) ((w.alloc o).alloc (.cells C 5 (C.size, C.size + 1))) := by
  have h := kc1 (w.alloc o) C n c
  have e : (w.alloc o).heap.size = w.heap.size + 1 := by simp
  rw [e] at h
  exact h
abbrev lit1w (w : World) (a : Int) : World := w.alloc (.cells #[.int .u8 a] 5 (1, 2))
abbrev lit2w (w : World) (a b : Int) : World := (lit1w w a).alloc (.cells #[.int .u8 b] 5 (1, 2))
theorem lit1b (w : World) (a : Int) : Below w.heap.size w (lit1w w a) := (Below.refl _ w).alloc (Nat.le_refl _) _
theorem lit2b (w : World) (a b : Int) : Below w.heap.size w (lit2w w a b) := (lit1b w a).alloc (lit1b w a).size _
theorem lit2r (w : World) (a b : Int) (ha : 0 ≤ a ∧ a < 256) (hb : 0 ≤ b ∧ b < 256) : Rd (lit2w w a b) (some ⟨w.heap.size, 0, none⟩) [a] ∧ Rd (lit2w w a b) (some ⟨w.heap.size + 1, 0, none⟩) [b] := by
  refine ⟨(Rd.litc w a ha.1 ha.2).alloc _, ?_⟩
  have h := Rd.litc (lit1w w a) b hb.1 hb.2
  have e : (lit1w w a).heap.size = w.heap.size + 1 := by simp [lit1w]
  rw [e] at h
  exact h
theorem ne_cells {t : TypeId} {w w' : World} {base cb mb N cnt : Nat} {v : Value} {ks : List Key} {m : Int → List Int → Option (List Int)} (h : CacheIs w base cb mb N cnt v ks m) (b : But w w' cb mb v.ownBlock) {g : Nat} {cs : Array Value} {fr : Nat × Nat} (hg : w.heap[g]? = some (.cells cs t fr)) (h1 : t ≠ 79) (h2 : t ≠ 85) : w'.heap[g]? = w.heap[g]? := by
  refine b.block g (Array.getElem?_eq_some_iff.1 hg).1 ?_ ?_ ?_
  · rintro rfl
    have := h.blk
    unfold Blk at this
    rw [this] at hg
    injection hg with hg
    injection hg with _ e
    exact h1 e.symm
  · rintro rfl
    obtain ⟨D, _, ⟨es, clock, e1, _⟩, _⟩ := h.map
    rw [e1] at hg
    injection hg with hg
    cases hg
  · intro e
    obtain ⟨_, cs', e'⟩ := h.row.cells e.symm
    rw [e'] at hg
    injection hg with hg
    injection hg with _ e
    exact h2 e.symm
theorem Own.but {w w' : World} {base cb mb N cnt B : Nat} {v x : Value} {ks : List Key} {m : Int → List Int → Option (List Int)} {l : List Int} (h : CacheIs w base cb mb N cnt v ks m) (b : But w w' cb mb v.ownBlock) (o : Own w B x l) : Own w' B x l := by
  refine ⟨o.1, o.2.1, o.2.2.imp id fun ⟨g, cap, cur, e, hB, hg, r⟩ => ⟨g, cap, cur, e, hB, ?_, r⟩⟩
  rw [ne_cells h b hg (by decide) (by decide)]
  exact hg

/-- A cache made since; and a slice x of the call's own that still holds l. -/
def Have (w0 w : World) (cb mb N cnt : Nat) (ks : List Key) (m : Int → List Int → Option (List Int)) (x : Value) (l : List Int) : Prop := ∃ v, CacheIs w w0.heap.size cb mb N cnt v ks m ∧ Below w0.heap.size w0 w ∧ Own w w0.heap.size x l
theorem Have.below {w0 w w' : World} {cb mb N cnt : Nat} {ks : List Key} {m : Int → List Int → Option (List Int)} {x : Value} {l : List Int} (h : Have w0 w cb mb N cnt ks m x l) (hb : Below w.heap.size w w') : Have w0 w' cb mb N cnt ks m x l := by
  obtain ⟨v, h, hB, o⟩ := h
  exact ⟨v, h.below hb, below_then hB hb, o.below hb⟩
section
variable {w0 w : World} {cb mb N cnt : Nat} {ks ks' : List Key} {m m' : Int → List Int → Option (List Int)} {x : Value} {l : List Int}
theorem have_add (h : Have w0 w cb mb N cnt ks m x l) (hcnt : cnt < 1000)
    (a b : Int) (ha : 0 ≤ a ∧ a < 256) (hb : 0 ≤ b ∧ b < 256) (hm : m 1 [a] = none) (e1 : addKs N ks (1, [a]) = ks') (e2 : addM N ks m 1 [a] [b] = m') :
    Calls Tryd.prog 19 #[.pointer (some ⟨cb, 0, none⟩), .int .u64 1, .slice (some ⟨w.heap.size, 0, none⟩) 1 1, .slice (some ⟨w.heap.size + 1, 0, none⟩) 1 1] (lit2w w a b) fun e w' => e = .returned (.int .i64 0) ∧ Have w0 w' cb mb N (cnt + 1) ks' m' x l := by
  obtain ⟨v, h, hB, o⟩ := h.below (lit2b w a b)
  obtain ⟨r1, r2⟩ := lit2r w a b ha hb
  refine (cache_add _ _ _ _ _ _ _ _ _ h hB.size (by omega) 1 _ 1 [a] r1 (ok_lit 1 a (by decide) ha.1 ha.2) _ 1 [b] r2 (by simp)).mono ?_
  rintro e w' (⟨h1, _, _⟩ | ⟨_, he, v', had⟩)
  · rw [hm] at h1; cases h1
  · refine ⟨he, v', ?_, hB.trans (had.below h hB.size), o.but h had.but⟩
    have := had.is
    rw [e1, e2] at this
    exact this
theorem have_again (h : Have w0 w cb mb N cnt ks m x l) (hcnt : cnt < 1000)
    (a b : Int) (ha : 0 ≤ a ∧ a < 256) (hb : 0 ≤ b ∧ b < 256) (hm : (m 1 [a]).isSome = true) :
    Calls Tryd.prog 19 #[.pointer (some ⟨cb, 0, none⟩), .int .u64 1, .slice (some ⟨w.heap.size, 0, none⟩) 1 1, .slice (some ⟨w.heap.size + 1, 0, none⟩) 1 1] (lit2w w a b) fun e w' => e = .returned (.int .i64 7) ∧ Have w0 w' cb mb N cnt ks m x l := by
  have hh := h.below (lit2b w a b)
  obtain ⟨v, h, hB, o⟩ := id hh
  obtain ⟨r1, r2⟩ := lit2r w a b ha hb
  refine (cache_add _ _ _ _ _ _ _ _ _ h hB.size (by omega) 1 _ 1 [a] r1 (ok_lit 1 a (by decide) ha.1 ha.2) _ 1 [b] r2 (by simp)).mono ?_
  rintro e w' (⟨_, he, hb⟩ | ⟨h1, _, _⟩)
  · exact ⟨he, hh.below hb⟩
  · rw [h1] at hm; cases hm
theorem have_no (h : Have w0 w cb mb N cnt ks m x l)
    (f : Int) (hf : 0 ≤ f ∧ f < 3) (a : Int) (ha : 0 ≤ a ∧ a < 256) (hm : m f [a] = none) :
    Calls Tryd.prog 18 #[.pointer (some ⟨cb, 0, none⟩), .int .u64 f, .slice (some ⟨w.heap.size, 0, none⟩) 1 1] (lit1w w a) fun e w' => e = .returned (.tuple #[.slice none 0 0, .bool false]) ∧ Have w0 w' cb mb N cnt ks m x l := by
  have hh := h.below (lit1b w a)
  obtain ⟨v, h, hB, o⟩ := id hh
  refine (cache_find _ _ _ _ _ _ _ _ _ h f _ 1 [a] (Rd.litc w a ha.1 ha.2) (ok_lit f a hf ha.1 ha.2)).mono ?_
  rintro e w' ⟨hb, he⟩
  rw [hm] at he
  exact ⟨he, hh.below hb⟩
theorem have_yes (h : Have w0 w cb mb N cnt ks m x l)
    (f : Int) (hf : 0 ≤ f ∧ f < 3) (a b : Int) (ha : 0 ≤ a ∧ a < 256) (hm : m f [a] = some [b]) :
    Calls Tryd.prog 18 #[.pointer (some ⟨cb, 0, none⟩), .int .u64 f, .slice (some ⟨w.heap.size, 0, none⟩) 1 1] (lit1w w a) fun e w' => ∃ X c, e = .returned (.tuple #[.slice X 1 c, .bool true]) ∧ Have w0 w' cb mb N cnt ks m (.slice X 1 c) [b] := by
  obtain ⟨v, h, hB, _⟩ := h.below (lit1b w a)
  refine (cache_find _ _ _ _ _ _ _ _ _ h f _ 1 [a] (Rd.litc w a ha.1 ha.2) (ok_lit f a hf ha.1 ha.2)).mono ?_
  rintro e w' ⟨hb, he⟩
  rw [hm] at he
  obtain ⟨x, he, hx⟩ := he
  obtain ⟨X, c, rfl, _, _, hr⟩ := hx.form
  exact ⟨X, c, he, v, h.below hb, below_then hB hb, hx.lower hB.size⟩
theorem have_len (h : Have w0 w cb mb N cnt ks m x l) : Calls Tryd.prog 20 #[.pointer (some ⟨cb, 0, none⟩)] w fun e w' => e = .returned (.int .i64 ks.length) ∧ w' = w := by
  obtain ⟨v, h, _, _⟩ := h
  exact cache_len w _ cb mb N cnt v ks m h
end

set_option maxRecDepth 100000 in
set_option maxHeartbeats 4000000 in
theorem lives_ (w : World) : Calls Tryd.prog 15 #[] w fun e w' => e = .returned (.bool true) ∧ Below w.heap.size w w' := by
  have k1 := kc1
  have k2 := kc2
  go_enter Tryd.func15, Tryd.ntmps15
  go_wp2_with fail
  refine (cache_new 2 w (by decide) (by decide)).mono ?_
  rintro e w1 ⟨rfl, h1, hB1⟩
  have H := Lib.hid (show Have w w1 (w.heap.size + 1) w.heap.size 2 0 [] M0 (.slice none 0 0) [] from ⟨_, h1, hB1, Own.nil _ _⟩)
  clear h1 hB1
  generalize hcb : w.heap.size + 1 = cb at *
  generalize hmb : w.heap.size = mb at *
  go_wp2_with fail
  refine (have_add (ks' := Q1) (m' := M1) H.out (by decide) 97 120 (by decide) (by decide) (by decide) rfl rfl).mono ?_
  rintro e w2 ⟨rfl, h⟩
  have H := Lib.hid h
  clear h
  go_wp2_with fail
  refine (have_yes H.out 1 (by decide) 97 120 (by decide) (by decide)).mono ?_
  rintro e w3 ⟨X, c, rfl, h⟩
  have H := Lib.hid h
  clear h
  go_wp2_with fail
  refine (have_no H.out 2 (by decide) 97 (by decide) (by decide)).mono ?_
  rintro e w4 ⟨rfl, h⟩
  have H := Lib.hid h
  clear h
  go_wp2_with fail
  refine (have_again H.out (by decide) 97 121 (by decide) (by decide) (by decide)).mono ?_
  rintro e w5 ⟨rfl, h⟩
  have H := Lib.hid h
  clear h
  go_wp2_with fail
  refine (have_add (ks' := Q2) (m' := M2) H.out (by decide) 98 121 (by decide) (by decide) (by decide) rfl rfl).mono ?_
  rintro e w6 ⟨rfl, h⟩
  have H := Lib.hid h
  clear h
  go_wp2_with fail
  refine (have_add (ks' := Q3) (m' := M3) H.out (by decide) 99 122 (by decide) (by decide) (by decide) rfl rfl).mono ?_
  rintro e w7 ⟨rfl, h⟩
  have H := Lib.hid h
  clear h
  go_wp2_with fail
  refine (have_no H.out 1 (by decide) 97 (by decide) (by decide)).mono ?_
  rintro e w8 ⟨rfl, h⟩
  have hs : (convert 24 9 (.slice X 1 c)).run Tryd.prog w8 = .ok (.string ⟨#[120]⟩) w8 := by
    obtain ⟨_, _, _, o⟩ := h
    obtain ⟨A, d, e, _, _, r⟩ := o.form
    injection e with e1 e2 e3
    subst e1 e3
    exact run_str w8 _ _ [120] r
  have H := Lib.hid h
  clear h
  go_wp2_with fail
  refine (have_len H.out).mono ?_
  rintro e w9 ⟨rfl, rfl⟩
  go_wp2
  go_ret
  obtain ⟨_, _, hB, _⟩ := H.out
  exact ⟨rfl, hB⟩
end Go.Proofs.YtoodmjdafifbmaaDoor.Hand
