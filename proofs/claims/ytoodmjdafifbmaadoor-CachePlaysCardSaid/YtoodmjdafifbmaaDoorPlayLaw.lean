/- What a cache remembers, in plain words: calls with their replies, in order; what is found, what stands behind an addition. -/
import Derived.Test.YtoodmjdafifbmaaDoorCacheLives
namespace Go.Proofs.YtoodmjdafifbmaaDoor.Hand
open Go.RowKit
set_option linter.unusedVariables false

abbrev Rem := List (Key × List Int)
/-- What is found of a call. -/
def look (rs : Rem) (f : Int) (s : List Int) : Option (List Int) := (rs.find? fun e => decide (e.1 = (f, s))).map (·.2)
def keysOf (rs : Rem) : List Key := rs.map (·.1)
def remNext (N : Nat) (rs : Rem) (k : Key) (r : List Int) : Rem := if N < rs.length + 1 then (rs ++ [(k, r)]).tail else rs ++ [(k, r)]
theorem keysOf_length (rs : Rem) : (keysOf rs).length = rs.length := List.length_map ..
theorem look_nil (f : Int) (s : List Int) : look [] f s = none := rfl
theorem look_cons (e : Key × List Int) (rs : Rem) (f : Int) (s : List Int) : look (e :: rs) f s = if e.1 = (f, s) then some e.2 else look rs f s := by
  unfold look
  rw [List.find?_cons]
  by_cases h : e.1 = (f, s)
  · simp [h]
  · simp [h]
theorem look_append (l : Rem) (e : Key × List Int) (f : Int) (s : List Int) : look (l ++ [e]) f s = match look l f s with | some r => some r | none => if e.1 = (f, s) then some e.2 else none := by
  induction l with
  | nil => rw [List.nil_append, look_cons, look_nil]
  | cons x l ih =>
    rw [List.cons_append, look_cons, look_cons, ih]
    split <;> rfl
theorem look_none {rs : Rem} {f : Int} {s : List Int} : look rs f s = none ↔ (f, s) ∉ keysOf rs := by
  induction rs with
  | nil => simp [look_nil, keysOf]
  | cons x l ih =>
    rw [look_cons]
    unfold keysOf at ih ⊢
    rw [List.map_cons, List.mem_cons]
    by_cases h : x.1 = (f, s)
    · rw [if_pos h]
      simp [h]
    · rw [if_neg h, ih]
      constructor
      · rintro h1 (h2 | h2)
        · exact h h2.symm
        · exact h1 h2
      · exact fun h1 h2 => h1 (.inr h2)
theorem look_mem {rs : Rem} {f : Int} {s r : List Int} (h : look rs f s = some r) : ((f, s), r) ∈ rs := by
  induction rs with
  | nil => rw [look_nil] at h; cases h
  | cons x l ih =>
    rw [look_cons] at h
    by_cases h1 : x.1 = (f, s)
    · rw [if_pos h1] at h
      injection h with h
      obtain ⟨a, b⟩ := x
      simp only at h1 h
      rw [← h1, ← h]
      exact List.mem_cons_self
    · rw [if_neg h1] at h
      exact List.mem_cons_of_mem _ (ih h)

/-- m tells what rs remembers; no call twice, no more than N. -/
structure PR (N : Nat) (rs : Rem) (m : Int → List Int → Option (List Int)) : Prop where
  look : ∀ f s, m f s = look rs f s
  nodup : (keysOf rs).Nodup
  len : rs.length ≤ N
theorem PR.start (N : Nat) : PR N [] (fun _ _ => none) := ⟨fun f s => rfl, List.nodup_nil, Nat.zero_le _⟩
theorem next_keys {N : Nat} {rs : Rem} {k : Key} {r : List Int} : addKs N (keysOf rs) k = keysOf (remNext N rs k r) := by
  unfold addKs remNext
  rw [keysOf_length]
  have e : keysOf rs ++ [k] = keysOf (rs ++ [(k, r)]) := by unfold keysOf; rw [List.map_append]; rfl
  split
  · rw [e]
    unfold keysOf
    rw [List.map_tail]
  · rw [e]
theorem PR.next {N : Nat} {rs : Rem} {m : Int → List Int → Option (List Int)} (h : PR N rs m) (hN : 1 ≤ N) {f : Int} {s : List Int} (hx : m f s = none) (r : List Int) : PR N (remNext N rs (f, s) r) (addM N (keysOf rs) m f s r) := by
  have hx := hx
  rw [h.look, look_none] at hx
  have hnd : (keysOf (rs ++ [((f, s), r)])).Nodup := by
    unfold keysOf at hx ⊢
    rw [List.map_append, List.nodup_append]
    exact ⟨h.nodup, by simp, fun a ha b hb => by simp only [List.map_cons, List.map_nil, List.mem_singleton] at hb; subst hb; rintro rfl; exact hx ha⟩
  have hup : ∀ g t, upd m f s (some r) g t = Hand.look (rs ++ [((f, s), r)]) g t := by
    intro g t
    rw [look_append]
    unfold upd
    by_cases e : g = f ∧ t = s
    · obtain ⟨rfl, rfl⟩ := e
      rw [if_pos ⟨rfl, rfl⟩, look_none.2 hx]
      simp
    · rw [if_neg e, h.look]
      cases hq : Hand.look rs g t with
      | some y => rfl
      | none =>
        have : ¬ (f, s) = (g, t) := fun h => e (by injection h with h1 h2; exact ⟨h1.symm, h2.symm⟩)
        simp [this]
  by_cases hf : N < rs.length + 1
  · obtain ⟨y, ys, hq⟩ : ∃ y ys, rs ++ [((f, s), r)] = y :: ys := by
      cases hq : rs ++ [((f, s), r)] with
      | nil => simp at hq
      | cons a b => exact ⟨a, b, rfl⟩
    have hq' : keysOf rs ++ [(f, s)] = y.1 :: keysOf ys := by
      have := congrArg keysOf hq
      unfold keysOf at this ⊢
      rw [List.map_append] at this
      exact this
    have er : remNext N rs (f, s) r = ys := by unfold remNext; rw [if_pos hf, hq]; rfl
    rw [er, addM_full (by rw [keysOf_length]; exact hf) hq']
    have hl := congrArg List.length hq
    simp only [List.length_append, List.length_cons, List.length_nil] at hl
    rw [hq] at hnd hup
    have hny : y.1 ∉ keysOf ys := (List.nodup_cons.1 hnd).1
    refine ⟨fun g t => ?_, (List.nodup_cons.1 hnd).2, by have := h.len; omega⟩
    have h1 := hup g t
    rw [look_cons] at h1
    rw [show upd (upd m f s (some r)) y.1.1 y.1.2 none g t = if g = y.1.1 ∧ t = y.1.2 then none else upd m f s (some r) g t from rfl]
    by_cases e : g = y.1.1 ∧ t = y.1.2
    · rw [if_pos e]
      obtain ⟨rfl, rfl⟩ := e
      exact (look_none.2 hny).symm
    · rw [if_neg e, h1, if_neg]
      intro h2
      rw [h2] at e
      exact e ⟨rfl, rfl⟩
  · have er : remNext N rs (f, s) r = rs ++ [((f, s), r)] := if_neg hf
    rw [er, addM_no (by rw [keysOf_length]; exact hf)]
    exact ⟨hup, hnd, by rw [List.length_append]; simp; omega⟩
end Go.Proofs.YtoodmjdafifbmaaDoor.Hand
