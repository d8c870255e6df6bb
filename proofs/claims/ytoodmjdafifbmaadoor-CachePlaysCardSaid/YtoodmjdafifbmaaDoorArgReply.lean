/- Reading of a reply as an argument. -/
import Derived.Lib.SmallJoins
import Derived.Test.YtoodmjdafifbmaaDoorArg
namespace Go.Proofs.YtoodmjdafifbmaaDoor.Hand
open Go.RowKit Go.WideShapes Go.ChangeShapes Go.Joins Go.ChangeAt
variable {H : Type} {enc : TypeId × Value → H} {W : World} {base : Nat} {sp : Nat → Bool} {hd : Bool} {v : Value} {d : DataW H} {p : List MemPlace}

theorem open_bytes_cell {n : Nat} {y : DataW H × List MemPlace} (hf : DataW.trod enc Tryd.prog W 0 sp hd n 24 [v] = some y) :
    ∃ A c l, v = .slice A l.length c ∧ Rd W A l ∧ l.length ≤ c ∧ c ≤ maxLen := by
  rcases open_ints Tryd.underlying24 Tryd.underlying5 (by kernel_rfl) hf with ⟨hcs, _⟩ | ⟨x, len, cap, zs, hcs, _, hl, hm, hz, _, hcell, hwz⟩
  · simp at hcs
    subst hcs
    exact ⟨none, 0, [], rfl, Rd.nil _ _, Nat.le_refl _, Nat.zero_le _⟩
  · simp at hcs
    subst hcs
    have hz' : len ≤ zs.length := by
      rw [hz]
      split
      · exact hl
      · exact Nat.le_refl _
    have hlen : (zs.take len).length = len := by rw [List.length_take]; omega
    refine ⟨some x, cap, zs.take len, by rw [hlen], ⟨fun n hn => ?_, fun _ => ⟨x, rfl, fun j hj => ?_⟩⟩, by omega, hm⟩
    · exact wf_u8 (hwz n (List.mem_of_mem_take hn))
    · rw [hlen] at hj
      rw [hcell j (by omega), nth_take _ _ _ hj]
      rfl
theorem open_u32_cell {n : Nat} {y : DataW H × List MemPlace} {t : TypeId} (ht : Tryd.prog.underlying t = some (.int .u32)) (hf : DataW.trod enc Tryd.prog W 0 sp hd n t [v] = some y) :
    ∃ a, v = .int .u32 a ∧ 0 ≤ a ∧ a < 4294967296 := by
  obtain ⟨a, f, _, hw⟩ := DataW.trod_int ht hf
  simp only [List.cons.injEq, and_true] at f
  subst f
  exact ⟨a, rfl, (wf_u32 hw).1, (wf_u32 hw).2⟩

set_option maxRecDepth 100000 in
theorem open_reply (hv : Value.okWide Tryd.prog W .any base 26 v) (h : DataW.Trod enc Tryd.prog W 0 sp hd 26 v d p) :
    ∃ xid how low high A c l, v = .agg #[.int .u32 xid, .int .u32 how, .int .u32 low, .int .u32 high, .slice A l.length c] ∧ (0 ≤ xid ∧ xid < 4294967296) ∧ (0 ≤ how ∧ how < 4294967296) ∧ (0 ≤ low ∧ low < 4294967296) ∧ (0 ≤ high ∧ high < 4294967296) ∧ Rd W A l ∧ l.length ≤ c ∧ c ≤ maxLen := by
  obtain ⟨cs, rfl, hsz⟩ := okWide_struct Tryd.underlying26 hv
  have hC : Tryd.prog.cellsOf 26 = 5 := by kernel_rfl
  have hs5 := hsz.trans hC
  obtain ⟨l0⟩ := cs
  match l0, hs5 with
  | [c0, c1, c2, c3, c4], _ =>
    obtain ⟨fuel, hf⟩ := h
    obtain ⟨xs, n, _, _, _, hlen, hfs⟩ := DataW.trod_struct Tryd.underlying26 hf
    have u1 : Tryd.prog.cellsOf 22 = 1 := by kernel_rfl
    have u2 : Tryd.prog.cellsOf 23 = 1 := by kernel_rfl
    have u3 : Tryd.prog.cellsOf 24 = 1 := by kernel_rfl
    match xs, hlen with
    | [y0, y1, y2, y3, y4], _ =>
      have h0 := hfs 0 _ rfl
      have h1 := hfs 1 _ rfl
      have h2 := hfs 2 _ rfl
      have h3 := hfs 3 _ rfl
      have h4 := hfs 4 _ rfl
      obtain ⟨a0, rfl, b0⟩ := open_u32_cell Tryd.underlying22 (v := c0) (by simpa [Value.cells, u1, u2, u3] using h0)
      obtain ⟨a1, rfl, b1⟩ := open_u32_cell Tryd.underlying23 (v := c1) (by simpa [Value.cells, u1, u2, u3] using h1)
      obtain ⟨a2, rfl, b2⟩ := open_u32_cell Tryd.underlying22 (v := c2) (by simpa [Value.cells, u1, u2, u3] using h2)
      obtain ⟨a3, rfl, b3⟩ := open_u32_cell Tryd.underlying22 (v := c3) (by simpa [Value.cells, u1, u2, u3] using h3)
      obtain ⟨A, c, l, rfl, r1, r2, r3⟩ := open_bytes_cell (v := c4) (by simpa [Value.cells, u1, u2, u3] using h4)
      exact ⟨a0, a1, a2, a3, A, c, l, rfl, b0, b1, b2, b3, r1, r2, r3⟩
end Go.Proofs.YtoodmjdafifbmaaDoor.Hand
