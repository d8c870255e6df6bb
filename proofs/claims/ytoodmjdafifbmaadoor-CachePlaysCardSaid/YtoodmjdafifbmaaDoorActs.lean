/- Reading of an argument that is a slice of what is done with a cache. -/
import Derived.Deep.Slices
import Derived.Test.YtoodmjdafifbmaaDoorArgReply
namespace Go.Proofs.YtoodmjdafifbmaaDoor.Hand
open Go.RowKit Go.WideShapes Go.ChangeShapes Go.Joins Go.ChangeAt

/-- What is done: its kind, who, the call, the reply. -/
structure Act1 where
  kd : Int
  fr : Int
  cl : List Int
  rp : List Int
/-- The four cells from o on of block g. -/
def ActAt (w : World) (g o : Nat) (x : Act1) : Prop :=
  (0 ≤ x.kd ∧ x.kd < 256) ∧ (0 ≤ x.fr ∧ x.fr < 18446744073709551616) ∧ ∃ A c B d, w.cell? ⟨g, o, none⟩ = some (.int .u8 x.kd) ∧ w.cell? ⟨g, o + 1, none⟩ = some (.int .u64 x.fr) ∧ w.cell? ⟨g, o + 2, none⟩ = some (.slice A x.cl.length c) ∧
    w.cell? ⟨g, o + 3, none⟩ = some (.slice B x.rp.length d) ∧ Rd w A x.cl ∧ Rd w B x.rp ∧ x.cl.length ≤ c ∧ c ≤ maxLen ∧ x.rp.length ≤ d ∧ d ≤ maxLen
/-- The slice at A, as long as xs, reads as xs. -/
def RdA (w : World) (A : Option Addr) (xs : List Act1) : Prop := 0 < xs.length → ∃ g off, A = some ⟨g, off, none⟩ ∧ ∀ j (h : j < xs.length), ActAt w g (off + j * 4) xs[j]
theorem ActAt.below {w w' : World} {g o : Nat} {x : Act1} (h : ActAt w g o x) (hb : Below w.heap.size w w') : ActAt w' g o x := by
  obtain ⟨h1, h2, A, c, B, d, k0, k1, k2, k3, r1, r2, r⟩ := h
  exact ⟨h1, h2, A, c, B, d, cell_later hb k0, cell_later hb k1, cell_later hb k2, cell_later hb k3, r1.below hb, r2.below hb, r⟩
theorem RdA.nil (w : World) (A : Option Addr) : RdA w A [] := fun h => absurd h (by simp)
theorem RdA.below {w w' : World} {A : Option Addr} {xs : List Act1} (h : RdA w A xs) (hb : Below w.heap.size w w') : RdA w' A xs := fun h0 => by
  obtain ⟨g, off, e, h⟩ := h h0
  exact ⟨g, off, e, fun j hj => (h j hj).below hb⟩
theorem spot_none {w : World} {a : Addr} {v : Value} (h : w.cell? a = some v) : a = ⟨a.block, a.off, none⟩ := by
  obtain ⟨b, o, s⟩ := a
  cases s with
  | none => rfl
  | some s =>
    unfold World.cell? at h
    split at h
    · simp at h
    · cases h
theorem add_block (a : Addr) (n : Nat) : (a.add n).block = a.block := by unfold Addr.add; split <;> rfl
theorem add_off (a : Addr) (n : Nat) : (a.add n).off = a.off + n := by
  unfold Addr.add
  split
  · rename_i h; simp [h]
  · rfl
theorem cell_lit {w : World} {a : Addr} {n : Nat} {v : Value} (h : w.cell? (a.add n) = some v) : w.cell? ⟨a.block, a.off + n, none⟩ = some v := by
  rw [spot_none h, add_block, add_off] at h
  exact h

instance : Inhabited Act1 := ⟨⟨0, 0, [], []⟩⟩
theorem mem_weightsAll' {H : Type} {P : Program} {e : TypeId} {d : DataW H} {n : Nat} : ∀ {ds : List (DataW H)}, d ∈ ds → n ∈ d.weights P e → n ∈ DataW.weightsAll P e ds
  | [], h, _ => by simp at h
  | x :: ds, h, hn => by
    simp only [DataW.weightsAll, List.mem_append]
    rcases List.mem_cons.1 h with rfl | h
    · exact Or.inl hn
    · exact Or.inr (mem_weightsAll' h hn)
section
variable {H : Type} {enc : TypeId × Value → H} {W : World} {base : Nat} {hd : Bool} {v : Value} {d : DataW H} {p : List MemPlace}
theorem sized_bytes_cell {n : Nat} {y : DataW H × List MemPlace} {A : Option Addr} {len c : Nat} (hf : DataW.trod enc Tryd.prog W 0 (fun _ => true) hd n 24 [.slice A len c] = some y) (hs : ∀ k ∈ y.1.weights Tryd.prog 24, k ≤ reachBytes) : len ≤ 140737488351232 := by
  rcases open_ints Tryd.underlying24 Tryd.underlying5 (by kernel_rfl) hf with ⟨hcs, _⟩ | ⟨x, l, c, zs, hcs, _, hl, _, hz, hx, _, _⟩
  · simp at hcs
    obtain ⟨rfl, rfl, rfl⟩ := hcs
    simp
  · simp at hcs
    obtain ⟨rfl, rfl, rfl⟩ := hcs
    subst hx
    have z := hs (((lits (H := H) .u8 (zs.take len)).length + (lits (H := H) .u8 (zs.drop len)).length) * Tryd.prog.bytesOf 5) (by simp only [DataW.weights, Tryd.underlying24]; exact List.mem_cons_self)
    rw [show Tryd.prog.bytesOf 5 = 1 from by kernel_rfl] at z
    have hl2 : len ≤ zs.length := by
      rw [hz]
      split
      · exact hl
      · exact Nat.le_refl _
    have h1 : (lits (H := H) .u8 (zs.take len)).length + (lits (H := H) .u8 (zs.drop len)).length = zs.length := by
      simp [lits]
      omega
    rw [h1, Nat.mul_one] at z
    exact Nat.le_trans hl2 z
set_option maxRecDepth 100000 in
theorem open_acts (hv : Value.okWide Tryd.prog W .any base 46 v) (h : DataW.Trod enc Tryd.prog W 0 (fun _ => true) hd 46 v d p) {ts : List TypeId} {ds : List (DataW H)}
    (hsz : (DataW.weightsEach Tryd.prog ts ds).all (· ≤ reachBytes) = true) {j : Nat} (ht : ts[j]? = some 46) (hdj : ds[j]? = some d) :
    ∃ A c xs, v = .slice A xs.length c ∧ RdA W A xs ∧ xs.length ≤ c ∧ c ≤ maxLen ∧ ∀ x ∈ xs, x.cl.length ≤ 140737488351232 ∧ x.rp.length ≤ 140737488351232 := by
  obtain ⟨a, len, cap, rfl⟩ := okWide_slice Tryd.underlying46 hv
  obtain ⟨fuel, hf⟩ := h
  rcases Deep.open_slice Tryd.underlying46 hf with ⟨hcs, _⟩ | ⟨x, l, c, m, n, D, Pl, hcs, _, hl, hm, hmm, hxe, hx⟩
  · simp [Value.cells] at hcs
    obtain ⟨rfl, rfl, rfl⟩ := hcs
    exact ⟨none, 0, [], rfl, RdA.nil _ _, Nat.le_refl _, Nat.zero_le _, by simp⟩
  · simp [Value.cells] at hcs
    obtain ⟨rfl, rfl, rfl⟩ := hcs
    obtain ⟨rfl, _⟩ := Prod.mk.inj hxe
    have hC : Tryd.prog.cellsOf 60 = 4 := by kernel_rfl
    have each : ∀ i, i < len → ∃ y : Act1, ActAt W x.block (x.off + i * 4) y ∧ (i = 0 → x = ⟨x.block, x.off, none⟩) ∧ y.cl.length ≤ 140737488351232 ∧ y.rp.length ≤ 140737488351232 := by
      intro i hi
      obtain ⟨cs, h1, h2⟩ := hx i (by rw [hmm]; simp; omega)
      rw [hC] at h1
      obtain ⟨_, hlen, hcell⟩ := World.cells?_some h1
      obtain ⟨ys, k, _, hdi, _, hyl, hfs⟩ := DataW.trod_struct Tryd.underlying60 h2
      obtain ⟨hdi, _⟩ := Prod.mk.inj hdi
      have hw : ∀ k ∈ (D i).weights Tryd.prog 60, k ≤ reachBytes := fun k hk => by
        have z := List.all_eq_true.1 hsz _ (DataW.weights_mem_each ht hdj k (by
          simp only [DataW.weights, Tryd.underlying46]
          exact List.mem_cons.2 (.inr (List.mem_append.2 (.inl (mem_weightsAll' (List.mem_map.2 ⟨i, List.mem_range.2 hi, rfl⟩) hk))))))
        simpa using z
      rw [hdi] at hw
      have u1 : Tryd.prog.cellsOf 5 = 1 := by kernel_rfl
      have u2 : Tryd.prog.cellsOf 56 = 1 := by kernel_rfl
      have u3 : Tryd.prog.cellsOf 24 = 1 := by kernel_rfl
      match ys, hyl, cs, hlen with
      | [y0, y1, y2, y3], _, [v0, v1, v2, v3], _ =>
        have hw2 : ∀ k ∈ y2.1.weights Tryd.prog 24, k ≤ reachBytes := fun k hk => hw k (by
          simp only [DataW.weights, Tryd.underlying60]
          exact DataW.weights_mem_each (j := 2) rfl rfl k hk)
        have hw3 : ∀ k ∈ y3.1.weights Tryd.prog 24, k ≤ reachBytes := fun k hk => hw k (by
          simp only [DataW.weights, Tryd.underlying60]
          exact DataW.weights_mem_each (j := 3) rfl rfl k hk)
        have g0 := hfs 0 _ rfl
        have g1 := hfs 1 _ rfl
        have g2 := hfs 2 _ rfl
        have g3 := hfs 3 _ rfl
        simp [u1, u2, u3] at g0 g1 g2 g3
        have e0 := hcell 0 (by omega)
        have e1 := hcell 1 (by omega)
        have e2 := hcell 2 (by omega)
        have e3 := hcell 3 (by omega)
        rw [Deep.add_add] at e0 e1 e2 e3
        obtain ⟨a0, f0, _, w0⟩ := DataW.trod_int Tryd.underlying5 g0
        simp only [List.cons.injEq, and_true] at f0
        subst f0
        obtain ⟨a1, f1, _, w1⟩ := DataW.trod_int Tryd.underlying56 g1
        simp only [List.cons.injEq, and_true] at f1
        subst f1
        obtain ⟨A, c, l, rfl, r1, r2, r3⟩ := open_bytes_cell (v := v2) g2
        obtain ⟨B, d', l', rfl, s1, s2, s3⟩ := open_bytes_cell (v := v3) g3
        exact ⟨⟨a0, a1, l, l'⟩, ⟨wf_u8 w0, wf_u64 w1, A, c, B, d', cell_lit (by simpa using e0), cell_lit e1, cell_lit e2, cell_lit e3, r1, s1, r2, r3, s2, s3⟩, (fun hi0 => by subst hi0; have e := spot_none e0; rw [add_block, add_off] at e; have : x.add (0 * 4 + 0) = x := rfl; rw [this] at e; exact e), sized_bytes_cell g2 hw2, sized_bytes_cell g3 hw3⟩
    obtain ⟨f, hfn⟩ := Deep.choose_lt each
    have hlen : ((List.range len).map f).length = len := by simp
    refine ⟨some x, cap, (List.range len).map f, by rw [hlen], fun h0 => ⟨x.block, x.off, (by rw [hlen] at h0; exact congrArg some ((hfn 0 h0).2.1 rfl)), fun j hj => ?_⟩, by rw [hlen]; exact hl, hm, fun y hy => ?_⟩
    · rw [hlen] at hj
      simpa using (hfn j hj).1
    · obtain ⟨i, hi, rfl⟩ := List.mem_map.1 hy
      exact (hfn i (List.mem_range.1 hi)).2.2
end
end Go.Proofs.YtoodmjdafifbmaaDoor.Hand
