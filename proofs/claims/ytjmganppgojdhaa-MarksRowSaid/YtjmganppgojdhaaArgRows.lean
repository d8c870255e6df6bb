/- Reading of an argument that is a slice of slices of bytes. -/
import Derived.Deep.Matrix
import Derived.Test.YtjmganppgojdhaaArg
import Derived.Test.YtjmganppgojdhaaMsgs
namespace Go.Proofs.Ytjmganppgojdhaa.Hand
open Go.ChangeShapes Go.WideShapes Go.ChangeAt Go.RowKit

theorem mem_weightsAll {H : Type} {P : Program} {e : TypeId} {d : DataW H} {n : Nat} : ∀ {ds : List (DataW H)}, d ∈ ds → n ∈ d.weights P e → n ∈ DataW.weightsAll P e ds
  | [], h, _ => by simp at h
  | x :: ds, h, hn => by
    simp only [DataW.weightsAll, List.mem_append]
    rcases List.mem_cons.1 h with rfl | h
    · exact Or.inl hn
    · exact Or.inr (mem_weightsAll h hn)

section
variable {H : Type} {enc : TypeId × Value → H} {W : World} {base : Nat} {hd : Bool} {v : Value} {d : DataW H} {p : List MemPlace}

theorem open_rows (hv : Value.okWide Try.prog W .any base 44 v) (h : DataW.Trod enc Try.prog W 0 (fun _ => true) hd 44 v d p) {ts : List TypeId} {ds : List (DataW H)}
    (hsz : (DataW.weightsEach Try.prog ts ds).all (· ≤ reachBytes) = true) {j : Nat} (ht : ts[j]? = some 44) (hdj : ds[j]? = some d) :
    ∃ A c ls, v = .slice A ls.length c ∧ RdL W A ls ∧ ls.length ≤ c ∧ c ≤ maxLen ∧ ∀ x ∈ ls, x.length ≤ 140737488351232 := by
  obtain ⟨a, len, cap, rfl⟩ := okWide_slice Try.underlying44 hv
  obtain ⟨fuel, hf⟩ := h
  rcases Deep.open_int_rows Try.underlying44 Try.underlying22 Try.underlying5 (by kernel_rfl) (by kernel_rfl) hf with ⟨hcs, _⟩ | ⟨x, l, c, A, L, C, Z, hcs, _, hl, hm, hx, hrow⟩
  · simp [Value.cells] at hcs
    obtain ⟨rfl, rfl, rfl⟩ := hcs
    exact ⟨none, 0, [], rfl, RdL.nil _ _, Nat.le_refl _, Nat.zero_le _, by simp⟩
  · simp [Value.cells] at hcs
    obtain ⟨rfl, rfl, rfl⟩ := hcs
    have hlen : ((List.range len).map fun r => (Z r).take (L r)).length = len := by simp
    have hget : ∀ r, r < len → ((List.range len).map fun r => (Z r).take (L r)).getD r [] = (Z r).take (L r) := by
      intro r hr
      simp [List.getD, List.getElem?_map, List.getElem?_range hr]
    have hzl : ∀ r, r < len → ((Z r).take (L r)).length = L r := by
      intro r hr
      obtain ⟨_, h1, _, h3, _⟩ := hrow r (by omega)
      rw [List.length_take, h3]
      omega
    refine ⟨some x, cap, (List.range len).map fun r => (Z r).take (L r), by rw [hlen], fun _ => ⟨x, rfl, fun r hr => ?_⟩, by rw [hlen]; exact hl, hm, ?_⟩
    · rw [hlen] at hr
      rw [hget r hr, hzl r hr]
      obtain ⟨h0, h1, h2, h3, h4, h5, h6⟩ := hrow r (by omega)
      refine ⟨A r, C r, h0, h1, fun n hn => wf_u8 (h4 n (List.mem_of_mem_take hn)), fun hpos => ?_⟩
      rw [hzl r hr] at hpos
      cases hA : A r with
      | none => have := h5 hA; omega
      | some a' =>
        refine ⟨a', rfl, fun k hk => ?_⟩
        rw [hzl r hr] at hk
        rw [(h6 a' hA).2 k (by omega), nth_take _ _ _ hk]
        rfl
    · intro y hy
      obtain ⟨r, hr, rfl⟩ := List.mem_map.1 hy
      have hr := List.mem_range.1 hr
      obtain ⟨h0, h1, h2, h3, h4, h5, h6⟩ := hrow r (by omega)
      rw [hzl r hr]
      cases hA : A r with
      | none => have := h5 hA; omega
      | some a' =>
        obtain ⟨hx, _⟩ := Prod.mk.inj hx
        subst hx
        have z := List.all_eq_true.1 hsz _ (DataW.weights_mem_each ht hdj ((Z r).length) (by
          simp only [DataW.weights, Try.underlying44]
          refine List.mem_cons.2 (.inr (List.mem_append.2 (.inl (mem_weightsAll (List.mem_map.2 ⟨r, List.mem_range.2 hr, rfl⟩) ?_))))
          rw [hA]
          simp only [Deep.intRow, DataW.weights, Try.underlying22]
          rw [show Try.prog.bytesOf 5 = 1 from by kernel_rfl]
          simp [lits]
          omega))
        have z2 : (Z r).length ≤ reachBytes := by simpa using z
        have z3 : reachBytes = 140737488351232 := rfl
        omega
end
end Go.Proofs.Ytjmganppgojdhaa.Hand
