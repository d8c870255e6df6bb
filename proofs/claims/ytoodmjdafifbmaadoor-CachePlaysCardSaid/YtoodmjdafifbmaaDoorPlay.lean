/- What CachePlays does in a round, told of both caches and the Book: the contracts in the form in which the walk takes them. -/
import Derived.Test.YtoodmjdafifbmaaDoorRefCacheAdd
import Derived.Test.YtoodmjdafifbmaaDoorActsGreat
import Derived.Test.YtoodmjdafifbmaaDoorHelp
import Derived.Test.YtoodmjdafifbmaaDoorBookZero
import Derived.Test.YtoodmjdafifbmaaDoorApartOf
namespace Go.Proofs.YtoodmjdafifbmaaDoor.Hand
open Go.RowKit
set_option linter.unusedVariables false
set_option linter.unusedSimpArgs false

/-- Cells of other types than the cache's stay; cells of other types than the reference's stay, and maps. -/
def KeptC (w w' : World) : Prop := ∀ (g : Nat) (cs : Array Value) (t : TypeId) (fr : Nat × Nat), t ≠ 79 → t ≠ 85 → w.heap[g]? = some (.cells cs t fr) → w'.heap[g]? = some (.cells cs t fr)
def KeptR (w w' : World) : Prop := ∀ (g : Nat) (o : Obj), (∀ (cs : Array Value) (t : TypeId) (fr : Nat × Nat), o = Obj.cells cs t fr → t ≠ 82 ∧ t ≠ 87) → w.heap[g]? = some o → w'.heap[g]? = some o
theorem lt_of {w : World} {g : Nat} {o : Obj} (h : w.heap[g]? = some o) : g < w.heap.size := (Array.getElem?_eq_some_iff.1 h).1
theorem KeptC.below {w w' : World} (h : Below w.heap.size w w') : KeptC w w' := fun g cs t fr _ _ e => (h.block g (lt_of e)).trans e
theorem KeptR.below {w w' : World} (h : Below w.heap.size w w') : KeptR w w' := fun g o _ e => (h.block g (lt_of e)).trans e

theorem own_to {w w' : World} {B : Nat} {v : Value} {l : List Int} (h : Own w B v l) (hk : ∀ (g : Nat) (cs : Array Value), w.heap[g]? = some (.cells cs 5 (0, 0)) → w'.heap[g]? = some (.cells cs 5 (0, 0))) : Own w' B v l :=
  ⟨h.1, h.2.1, h.2.2.imp id fun ⟨g, cap, cur, e, hB, hg, r⟩ => ⟨g, cap, cur, e, hB, hk g _ hg, r⟩⟩
theorem row_to {w w' : World} {B size n : Nat} {e : TypeId} {v : Value} {xs : List Value} (h : w.ownsRow B e size v n xs) (hk : ∀ (g : Nat) (cs : Array Value), w.heap[g]? = some (.cells cs e (0, 0)) → w'.heap[g]? = some (.cells cs e (0, 0))) : w'.ownsRow B e size v n xs :=
  ⟨h.1, h.2.imp id fun ⟨g, cap, cur, e, hB, hg, r⟩ => ⟨g, cap, cur, e, hB, hk g _ hg, r⟩⟩
theorem row_lower {w : World} {B B' size n : Nat} {e : TypeId} {v : Value} {xs : List Value} (h : w.ownsRow B e size v n xs) (hb : B' ≤ B) : w.ownsRow B' e size v n xs :=
  ⟨h.1, h.2.imp id fun ⟨g, cap, cur, e, hB, hg, r⟩ => ⟨g, cap, cur, e, by omega, hg, r⟩⟩
theorem que_to {w w' : World} {B size n : Nat} {e : TypeId} {v : Value} {xs : List Value} (h : Que w B e size v n xs) (hk : ∀ (g : Nat) (cs : Array Value), w.heap[g]? = some (.cells cs e (0, 0)) → w'.heap[g]? = some (.cells cs e (0, 0))) : Que w' B e size v n xs :=
  ⟨h.1, h.2.imp id fun ⟨g, off, cap, cur, e, hB, hg, r⟩ => ⟨g, off, cap, cur, e, hB, hk g _ hg, r⟩⟩
section
variable {w w' : World} {base cb mb rb N cnt : Nat} {v : Value} {ks : List Key} {m : Int → List Int → Option (List Int)} {rs : Rem}
theorem RefIs.to (h : RefIs w base rb N v rs) (hk : ∀ (g : Nat) (cs : Array Value) (t : TypeId), t = 82 ∨ t = 87 → w.heap[g]? = some (.cells cs t (0, 0)) → w'.heap[g]? = some (.cells cs t (0, 0))) : RefIs w' base rb N v rs :=
  ⟨hk _ _ _ (.inl rfl) h.blk, que_to h.row fun g cs e => hk _ _ _ (.inr rfl) e, h.rb_ge, h.ne, h.pos, h.most, h.bs⟩
theorem CacheIs.to (h : CacheIs w base cb mb N cnt v ks m) (hk : ∀ (g : Nat) (cs : Array Value) (t : TypeId), t = 79 ∨ t = 85 → w.heap[g]? = some (.cells cs t (0, 0)) → w'.heap[g]? = some (.cells cs t (0, 0))) (hm : w'.heap[mb]? = w.heap[mb]?) : CacheIs w' base cb mb N cnt v ks m :=
  ⟨hk _ _ _ (.inl rfl) h.blk, h.map.same hm, que_to h.row fun g cs e => hk _ _ _ (.inr rfl) e, h.cb_ge, h.mb_ge, h.ne, h.ne1, h.ne2, h.ok, h.pos, h.most, h.len, h.bs⟩
theorem CacheIs.lower {base' : Nat} (h : CacheIs w base cb mb N cnt v ks m) (hb : base' ≤ base) : CacheIs w base' cb mb N cnt v ks m :=
  ⟨h.blk, h.map, ⟨h.row.1, h.row.2.imp id fun ⟨g, off, cap, cur, e, hB, hg, r⟩ => ⟨g, off, cap, cur, e, by omega, hg, r⟩⟩, Nat.le_trans hb h.cb_ge, Nat.le_trans hb h.mb_ge, h.ne, h.ne1, h.ne2, h.ok, h.pos, h.most, h.len, h.bs⟩
theorem RefIs.lower {base' : Nat} (h : RefIs w base rb N v rs) (hb : base' ≤ base) : RefIs w base' rb N v rs :=
  ⟨h.blk, ⟨h.row.1, h.row.2.imp id fun ⟨g, off, cap, cur, e, hB, hg, r⟩ => ⟨g, off, cap, cur, e, by omega, hg, r⟩⟩, Nat.le_trans hb h.rb_ge, h.ne, h.pos, h.most, h.bs⟩
theorem CacheIs.map_at (h : CacheIs w base cb mb N cnt v ks m) : ∃ es clock, w.heap[mb]? = some (.map es clock) := by
  obtain ⟨D, _, ⟨es, clock, e1, _⟩, _⟩ := h.map
  exact ⟨es, clock, e1⟩
theorem RefIs.kept_r (h : RefIs w base rb N v rs) (b : But w w' rb rb v.ownBlock) : KeptR w w' := fun g o ho e => by
  have hg := lt_of e
  refine (b.block g hg ?_ ?_ ?_).trans e
  · rintro rfl
    have := h.blk
    unfold Blk at this
    rw [this] at e
    injection e with e
    exact (ho _ _ _ e.symm).1 rfl
  · rintro rfl
    have := h.blk
    unfold Blk at this
    rw [this] at e
    injection e with e
    exact (ho _ _ _ e.symm).1 rfl
  · intro e2
    obtain ⟨_, cs, e3⟩ := h.row.cells e2.symm
    rw [e3] at e
    injection e with e
    exact (ho _ _ _ e.symm).2 rfl
theorem But.kept_c (h : CacheIs w base cb mb N cnt v ks m) (b : But w w' cb mb v.ownBlock) : KeptC w w' := fun g cs t fr h1 h2 e => (ne_cells h b e h1 h2).trans e
end

def remAdd (N : Nat) (rs : Rem) (k : Key) (r : List Int) : Rem := if (look rs k.1 k.2).isSome then rs else remNext N rs k r
def addE (rs : Rem) (f : Int) (s : List Int) : Int := if (look rs f s).isSome then 7 else 0
section
variable {w : World} {base cb mb rb N cnt : Nat} {vc vr : Value} {m : Int → List Int → Option (List Int)} {rs : Rem}
theorem cAdd (h : CacheIs w base cb mb N cnt vc (keysOf rs) m) (p : PR N rs m) (hN : 1 ≤ N) (hbase : base ≤ w.heap.size) (hcnt : cnt < 1000000)
    (f : Int) (A : Option Addr) (c : Nat) (s : List Int) (hl : Rd w A s) (hk : okKey f s) (B : Option Addr) (d : Nat) (r : List Int) (hr : Rd w B r) (hrl : r.length ≤ 1000000) :
    Calls Tryd.prog 19 #[.pointer (some ⟨cb, 0, none⟩), .int .u64 f, .slice A s.length c, .slice B r.length d] w fun e w' => e = .returned (.int .i64 (addE rs f s)) ∧
      ∃ vc' m', CacheIs w' base cb mb N (cnt + 1) vc' (keysOf (remAdd N rs (f, s) r)) m' ∧ PR N (remAdd N rs (f, s) r) m' ∧ KeptC w w' ∧ Below base w w' := by
  refine (cache_add w base cb mb N cnt vc (keysOf rs) m h hbase hcnt f A c s hl hk B d r hr hrl).mono ?_
  unfold addE remAdd
  rintro e w' (⟨h1, he, hb⟩ | ⟨h1, he, v', had⟩)
  · rw [p.look] at h1
    rw [if_pos h1, if_pos h1]
    have h2 := h.below hb
    exact ⟨he, vc, m, ⟨h2.blk, (by obtain ⟨D, a, b, c⟩ := h2.map; obtain ⟨es, clock, e1, e2, e3, e4⟩ := b; exact ⟨D, a, ⟨es, clock, e1, e2, by omega, e4⟩, c⟩), h2.row, h2.cb_ge, h2.mb_ge, h2.ne, h2.ne1, h2.ne2, h2.ok, h2.pos, h2.most, by have := h2.len; omega, h2.bs⟩, p, KeptC.below hb, hb.mono hbase⟩
  · have h3 := h1
    rw [p.look] at h1
    rw [h1]
    refine ⟨he, v', _, ?_, p.next hN h3 r, But.kept_c h had.but, had.below h hbase⟩
    have := had.is
    rw [next_keys (r := r)] at this
    exact this
theorem rAdd (h : RefIs w base rb N vr rs) (hlen : rs.length ≤ N) (hbase : base ≤ w.heap.size)
    (f : Int) (A : Option Addr) (c : Nat) (s : List Int) (hl : Rd w A s) (hk : okKey f s) (B : Option Addr) (d : Nat) (r : List Int) (hr : Rd w B r) (hrl : r.length ≤ 1000000) :
    Calls Tryd.prog 22 #[.pointer (some ⟨rb, 0, none⟩), .int .u64 f, .slice A s.length c, .slice B r.length d] w fun e w' => e = .returned (.int .i64 (addE rs f s)) ∧
      ∃ vr', RefIs w' base rb N vr' (remAdd N rs (f, s) r) ∧ KeptR w w' ∧ Below base w w' := by
  refine (ref_add w base rb N vr rs h hbase hlen f A c s hl hk B d r hr hrl).mono ?_
  unfold addE remAdd
  rintro e w' (⟨h1, he, hb⟩ | ⟨h1, he, v', hr, b⟩)
  · rw [if_pos h1, if_pos h1]
    exact ⟨he, vr, h.below hb, KeptR.below hb, hb.mono hbase⟩
  · rw [h1]
    exact ⟨he, v', hr, h.kept_r b, b.below h.rb_ge h.rb_ge (fun k hk => (h.row.cells hk).1) hbase⟩
def findL (rs : Rem) (f : Int) (s : List Int) : List Int := (look rs f s).getD []
def findB (rs : Rem) (f : Int) (s : List Int) : Bool := (look rs f s).isSome
theorem findL_le (h : CacheIs w base cb mb N cnt vc (keysOf rs) m) (p : PR N rs m) (f : Int) (s : List Int) : (findL rs f s).length ≤ 1000000 := by
  unfold findL
  rw [← p.look]
  cases hq : m f s with
  | none => simp
  | some r => exact (h.bs f s r hq).2
theorem cFind (h : CacheIs w base cb mb N cnt vc (keysOf rs) m) (p : PR N rs m) (f : Int) (A : Option Addr) (c : Nat) (s : List Int) (hl : Rd w A s) (hk : okKey f s) :
    Calls Tryd.prog 18 #[.pointer (some ⟨cb, 0, none⟩), .int .u64 f, .slice A s.length c] w fun e w' =>
      ∃ X d, e = .returned (.tuple #[.slice X (findL rs f s).length d, .bool (findB rs f s)]) ∧ Own w' w.heap.size (.slice X (findL rs f s).length d) (findL rs f s) ∧ Below w.heap.size w w' := by
  refine (cache_find w base cb mb N cnt vc (keysOf rs) m h f A c s hl hk).mono ?_
  rintro e w' ⟨hb, he⟩
  rw [p.look] at he
  unfold findL findB
  cases hq : look rs f s with
  | none =>
    rw [hq] at he
    exact ⟨none, 0, he, Own.nil _ _, hb⟩
  | some r =>
    rw [hq] at he
    obtain ⟨x, he, ho⟩ := he
    obtain ⟨X, d, rfl, _⟩ := ho.form
    exact ⟨X, d, he, ho, hb⟩
theorem rFind (h : RefIs w base rb N vr rs) (f : Int) (A : Option Addr) (c : Nat) (s : List Int) (hl : Rd w A s) :
    Calls Tryd.prog 23 #[.pointer (some ⟨rb, 0, none⟩), .int .u64 f, .slice A s.length c] w fun e w' =>
      ∃ X d, e = .returned (.tuple #[.slice X (findL rs f s).length d, .bool (findB rs f s)]) ∧ Rd w' X (findL rs f s) ∧ Below w.heap.size w w' := by
  refine (ref_find w base rb N vr rs h f A c s hl).mono ?_
  rintro e w' ⟨hb, he⟩
  unfold findL findB
  cases hq : look rs f s with
  | none =>
    rw [hq] at he
    exact ⟨none, 0, he, Rd.nil _ _, hb⟩
  | some r =>
    rw [hq] at he
    obtain ⟨X, d, he, ho⟩ := he
    exact ⟨X, d, he, ho, hb⟩
end

theorem cLen {w : World} {base cb mb N cnt : Nat} {vc : Value} {m : Int → List Int → Option (List Int)} {rs : Rem} (h : CacheIs w base cb mb N cnt vc (keysOf rs) m) :
    Calls Tryd.prog 20 #[.pointer (some ⟨cb, 0, none⟩)] w fun e w' => e = .returned (.int .i64 rs.length) ∧ w' = w := by
  have := cache_len w base cb mb N cnt vc (keysOf rs) m h
  rw [keysOf_length] at this
  exact this
theorem own_pre {w : World} {B d : Nat} {A : Option Addr} {l m : List Int} (h : Own w B (.slice A (l.length + m.length) d) (l ++ m)) (h0 : 0 < m.length) : Own w B (.slice A l.length d) l := by
  refine ⟨fun x hx => h.1 x (List.mem_append_left _ hx), by simp, ?_⟩
  rcases h.2.2 with ⟨e, _⟩ | ⟨g, cap, cur, e, hb, hg, hc, hm, hs, ht⟩
  · injection e with e1 e2 _
    omega
  · injection e with e1 e2 e3
    subst e1 e3
    rw [List.length_append] at hc ht
    refine .inr ⟨g, d, cur, rfl, hb, hg, by omega, hm, hs, ?_⟩
    have h2 := congrArg (List.take l.length) ht
    rw [List.take_take, List.map_append, List.take_left' (by simp)] at h2
    rw [← h2]
    congr 1
    omega
theorem KeptC.own {w w' : World} {B : Nat} {v : Value} {l : List Int} (hk : KeptC w w') (h : Own w B v l) : Own w' B v l := own_to h fun g cs e => hk g cs _ _ (by decide) (by decide) e
theorem KeptR.own {w w' : World} {B : Nat} {v : Value} {l : List Int} (hk : KeptR w w') (h : Own w B v l) : Own w' B v l := own_to h fun g cs e => hk g _ (fun cs' t' fr' e' => by injection e' with _ e' _; subst e'; exact ⟨by decide, by decide⟩) e
theorem KeptR.cache {w w' : World} {base cb mb N cnt : Nat} {vc : Value} {m : Int → List Int → Option (List Int)} {ks : List Key} (hk : KeptR w w') (h : CacheIs w base cb mb N cnt vc ks m) : CacheIs w' base cb mb N cnt vc ks m := by
  obtain ⟨es, clock, e⟩ := h.map_at
  exact h.to (fun g cs t ht e => hk g _ (fun cs' t' fr' e' => by injection e' with _ e' _; subst e'; rcases ht with rfl | rfl <;> exact ⟨by decide, by decide⟩) e) ((hk mb _ (fun _ _ _ e' => by cases e') e).trans e.symm)

/-- The Book, and what it was told. -/
structure BK (w : World) (kb B : Nat) (V : Value) (xs : List (Value × List Int)) : Prop where
  book : BookAt w kb (xs.map (·.1)).length V
  row : w.ownsRow kb 98 3 V (xs.map (·.1)).length (heldCells 0 (xs.map (·.1)))
  own : ∀ p ∈ xs, Own w B p.1 p.2 ∧ p.2.length ≤ 140737488351232
  pw : xs.Pairwise fun p q => ∀ g, p.1.ownBlock = some g → q.1.ownBlock ≠ some g
  ge : B ≤ kb
  zero : xs = [] → V = .slice none 0 0
section
variable {w w' : World} {kb B : Nat} {V : Value} {xs : List (Value × List Int)}
theorem BK.start (w : World) (hB : B ≤ w.heap.size) : BK (w.alloc (.cells #[.int .i64 0, .slice none 0 0, .slice none 0 0, .slice none 0 0, .slice none 0 0, .slice none 0 0, .slice none 0 0, .slice none 0 0] 41)) w.heap.size B (.slice none 0 0) [] :=
  ⟨book_new w, World.ownsRow_nil _ _ _ _, by simp, .nil, hB, fun _ => rfl⟩
theorem BK.to (h : BK w kb B V xs) (hk : ∀ (g : Nat) (cs : Array Value) (t : TypeId), t = 41 ∨ t = 98 ∨ t = 5 → w.heap[g]? = some (.cells cs t (0, 0)) → w'.heap[g]? = some (.cells cs t (0, 0))) : BK w' kb B V xs :=
  ⟨hk _ _ _ (.inl rfl) h.book, row_to h.row fun g cs e => hk _ _ _ (.inr (.inl rfl)) e, fun p hp => ⟨own_to (h.own p hp).1 fun g cs e => hk _ _ _ (.inr (.inr rfl)) e, (h.own p hp).2⟩, h.pw, h.ge, h.zero⟩
theorem BK.below (h : BK w kb B V xs) (hb : Below w.heap.size w w') : BK w' kb B V xs := h.to fun g cs t _ e => (hb.block g (lt_of e)).trans e
theorem BK.kept_c (h : BK w kb B V xs) (hk : KeptC w w') : BK w' kb B V xs := h.to fun g cs t ht e => hk g cs t _ (by rcases ht with rfl | rfl | rfl <;> decide) (by rcases ht with rfl | rfl | rfl <;> decide) e
theorem BK.kept_r (h : BK w kb B V xs) (hk : KeptR w w') : BK w' kb B V xs := h.to fun g cs t ht e => hk g _ (fun cs' t' fr' e' => by injection e' with _ e' _; subst e'; rcases ht with rfl | rfl | rfl <;> exact ⟨by decide, by decide⟩) e
theorem BK.lt (h : BK w kb B V xs) : ∀ p ∈ xs, ∀ g, p.1.ownBlock = some g → g < w.heap.size := fun p hp g hg => ((h.own p hp).1.2.lt g hg).2
theorem BK.add (h : BK w kb B V xs) {A : Option Addr} {k d : Nat} {l : List Int} (o : Own w B (.slice A k d) l) (hl : l.length ≤ 140737488351232) (hd : ∀ p ∈ xs, ∀ g, p.1.ownBlock = some g → (Value.slice A k d).ownBlock ≠ some g) (hn : xs.length ≤ 1000000000) :
    Calls Tryd.prog 12 #[.pointer (some ⟨kb, 0, none⟩), .slice A k d] w fun e w' => (∃ v, e = .returned v) ∧ ∃ V', BK w' kb B V' (xs ++ [(.slice A k d, l)]) ∧ Below kb w w' ∧ Others w w' := by
  refine (bookBytes' kb kb V (xs.map (·.1)) A k d w h.book h.row (Nat.le_refl _) (by rw [List.length_map]; exact hn)).mono ?_
  rintro e w' ⟨he, V', h1, h2, h3, h4⟩
  have em : (xs ++ [((.slice A k d : Value), l)]).map (·.1) = xs.map (·.1) ++ [.slice A k d] := by rw [List.map_append]; rfl
  have el : (xs.map (·.1)).length + 1 = ((xs ++ [((.slice A k d : Value), l)]).map (·.1)).length := by simp
  rw [el] at h1 h2
  refine ⟨he, V', ⟨h1, by rw [em] at h2 ⊢; exact h2, fun p hp => ?_, ?_, h.ge, fun e => absurd e (by simp)⟩, h3, h4⟩
  · rcases List.mem_append.1 hp with hp | hp
    · exact ⟨h4.own (h.own p hp).1, (h.own p hp).2⟩
    · obtain rfl : p = (.slice A k d, l) := by simpa using hp
      exact ⟨h4.own o, hl⟩
  · rw [List.pairwise_append]
    refine ⟨h.pw, List.pairwise_singleton _ _, fun p hp q hq => ?_⟩
    obtain rfl : q = (.slice A k d, l) := by simpa using hq
    exact hd p hp
theorem BK.apart (h : BK w kb B V xs) (hn : xs.length ≤ 1000000000) (hB : B ≤ w.heap.size) :
    Calls Tryd.prog 13 #[.pointer (some ⟨kb, 0, none⟩)] w fun e w' => e = .returned (.bool true) ∧ Below B w w' := by
  by_cases h0 : xs = []
  · subst h0
    obtain rfl := h.zero rfl
    refine (apart0 kb _ w h.book).mono ?_
    rintro e w' ⟨he, rfl⟩
    exact ⟨he, Below.refl _ _⟩
  · have hne : 0 < (xs.map (·.1)).length := by
      rw [List.length_map]
      exact List.length_pos_iff.2 h0
    have gd1 : ∀ j (hj : j < xs.length), (xs.map (·.1)).getD j (.slice none 0 0) = xs[j].1 := fun j hj => by simp [List.getD, List.getElem?_eq_getElem hj]
    refine Hand.apart kb B V (xs.map (·.1)) (fun j => (xs.map (·.2)).getD j []) w h.book (row_lower h.row h.ge) hne (by rw [List.length_map]; exact hn) hB ?_ ?_ ?_
    · intro j hj
      rw [List.length_map] at hj
      rw [gd1 j hj]
      have := (h.own _ (List.getElem_mem hj)).1
      simpa [List.getD, List.getElem?_eq_getElem hj] using this
    · intro j hj
      rw [List.length_map] at hj
      have := (h.own _ (List.getElem_mem hj)).2
      simpa [List.getD, List.getElem?_eq_getElem hj] using this
    · intro i j hi hj hij g h1 h2
      rw [List.length_map] at hi hj
      rw [gd1 i hi] at h1
      rw [gd1 j hj] at h2
      rcases Nat.lt_or_gt_of_ne hij with hlt | hlt
      · exact List.pairwise_iff_getElem.1 h.pw i j hi hj hlt g h1 h2
      · exact List.pairwise_iff_getElem.1 h.pw j i hj hi hlt g h2 h1
end
end Go.Proofs.YtoodmjdafifbmaaDoor.Hand
