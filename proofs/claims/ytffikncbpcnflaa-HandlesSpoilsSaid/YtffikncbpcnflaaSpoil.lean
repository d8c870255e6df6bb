/- Plain laws: a handle's bytes, up to four of them side by side changed. -/
import Derived.Test.YtffikncbpcnflaaAlive08
import Derived.Test.YtffikncbpcnflaaCrcLaw
namespace Go.Proofs.Ytffikncbpcnflaa.Hand
open Go.RowKit
set_option linter.unusedVariables false

/-- 'xor' of two bytes. -/
def xr (a b : Int) : Int := ((a.toNat ^^^ b.toNat : Nat) : Int)
theorem xr_byte {a b : Int} (ha : 0 ≤ a ∧ a < 256) (hb : 0 ≤ b ∧ b < 256) : 0 ≤ xr a b ∧ xr a b < 256 := by
  have := byte_xor (a := a.toNat) (b := b.toNat) (by omega) (by omega)
  unfold xr
  omega
theorem xr_zero {a : Int} (ha : 0 ≤ a) : xr a 0 = a := by
  unfold xr
  rw [show (0 : Int).toNat = 0 from rfl, Nat.xor_zero]
  omega
theorem xr_eq {a b : Int} (ha : 0 ≤ a) (hb : 0 ≤ b) (h : xr a b = a) : b = 0 := by
  unfold xr at h
  have h2 : a.toNat ^^^ b.toNat = a.toNat := by omega
  have h3 := congrArg (a.toNat ^^^ ·) h2
  simp only [← Nat.xor_assoc, Nat.xor_self, Nat.zero_xor] at h3
  omega
/-- j bytes from the k-th on, changed. -/
def sp (l : List Int) (k : Nat) (bs : List Int) : Nat → List Int
  | 0 => l
  | j + 1 => (sp l k bs j).set (k + j) (xr (nth (sp l k bs j) (k + j)) (nth bs j))
theorem sp_length (l : List Int) (k : Nat) (bs : List Int) (j : Nat) : (sp l k bs j).length = l.length := by
  induction j with
  | zero => rfl
  | succ j ih => rw [sp, List.length_set, ih]
theorem nth_set (l : List Int) (i : Nat) (x : Int) (n : Nat) : nth (l.set i x) n = if n = i ∧ i < l.length then x else nth l n := by
  unfold nth
  rw [List.getD_eq_getElem?_getD, List.getD_eq_getElem?_getD, List.getElem?_set]
  by_cases h : i = n
  · subst h
    by_cases h2 : i < l.length
    · simp [h2]
    · simp [h2, List.getElem?_eq_none (by omega : l.length ≤ i)]
  · rw [if_neg h, if_neg (by omega)]
theorem sp_nth {l : List Int} {k : Nat} {bs : List Int} {j : Nat} (h : k + j ≤ l.length) (n : Nat) : nth (sp l k bs j) n = if k ≤ n ∧ n < k + j then xr (nth l n) (nth bs (n - k)) else nth l n := by
  induction j with
  | zero => rw [if_neg (by omega)]; rfl
  | succ j ih =>
    rw [sp, nth_set, sp_length]
    by_cases h1 : n = k + j
    · subst h1
      rw [if_pos ⟨rfl, by omega⟩, ih (by omega), if_neg (by omega), if_pos ⟨by omega, by omega⟩, show k + j - k = j from by omega]
    · rw [if_neg (by omega), ih (by omega)]
      by_cases h2 : k ≤ n ∧ n < k + j
      · rw [if_pos h2, if_pos ⟨h2.1, by omega⟩]
      · rw [if_neg h2, if_neg (by omega)]
theorem sp_bs {l : List Int} (hl : Bs l) {k : Nat} {bs : List Int} (hb : Bs bs) {j : Nat} (h : k + j ≤ l.length) : Bs (sp l k bs j) := by
  intro x hx
  obtain ⟨i, hi, rfl⟩ := List.mem_iff_getElem.1 hx
  rw [← gd _ _ hi, sp_nth h]
  split
  · exact xr_byte (hl.get i) (hb.get _)
  · exact hl.get i
theorem sp_same {l : List Int} (hl : Bs l) {k : Nat} {bs : List Int} {j : Nat} (h : k + j ≤ l.length) (hz : ∀ t, t < j → nth bs t = 0) : sp l k bs j = l := by
  refine ext_nth (sp_length _ _ _ _) fun n hn => ?_
  rw [sp_nth h]
  split
  · rw [hz _ (by omega), xr_zero (hl.get n).1]
  · rfl
theorem sp_ne {l : List Int} (hl : Bs l) {k : Nat} {bs : List Int} (hb : Bs bs) {j : Nat} (h : k + j ≤ l.length) {t : Nat} (ht : t < j) (hz : nth bs t ≠ 0) : sp l k bs j ≠ l := by
  intro e
  have h1 := sp_nth (bs := bs) h (k + t)
  rw [e, if_pos ⟨by omega, by omega⟩, show k + t - k = t from by omega] at h1
  exact hz (xr_eq (hl.get _).1 (hb.get _).1 h1.symm)

theorem drop4 {l : List Int} {k : Nat} (h : k + 4 ≤ l.length) : l.drop k = [nth l k, nth l (k + 1), nth l (k + 2), nth l (k + 3)] ++ l.drop (k + 4) := by
  rw [List.drop_eq_getElem_cons (by omega), List.drop_eq_getElem_cons (by omega), List.drop_eq_getElem_cons (by omega), List.drop_eq_getElem_cons (by omega)]
  rw [gd l k (by omega), gd l (k + 1) (by omega), gd l (k + 2) (by omega), gd l (k + 3) (by omega)]
  rfl
theorem toNat_lt {l : List Int} (h : Bs l) : ∀ c ∈ l.map Int.toNat, c < 256 := by
  intro c hc
  obtain ⟨x, hx, rfl⟩ := List.mem_map.1 hc
  have := h x hx
  omega
/-- Two lists that agree outside of four places side by side, and of one sum, are one. -/
theorem window {l m : List Int} (hl : Bs l) (hm : Bs m) (hlm : l.length = m.length) {k : Nat} (hk : k + 4 ≤ l.length) (ha : ∀ n, (n < k ∨ k + 4 ≤ n) → nth l n = nth m n) (h : crcS 4294967295 l = crcS 4294967295 m) : l = m := by
  have e1 : l.take k = m.take k := ext_nth (by simp; omega) fun n hn => by
    rw [List.length_take] at hn
    rw [nth_take _ _ _ (by omega), nth_take _ _ _ (by omega), ha n (by omega)]
  have e2 : l.drop (k + 4) = m.drop (k + 4) := ext_nth (by simp; omega) fun n hn => by
    rw [nth_drop, nth_drop, ha _ (by omega)]
  have s : ∀ l : List Int, k + 4 ≤ l.length → crcS 4294967295 l = crcS (crcS (crcS 4294967295 (l.take k)) [nth l k, nth l (k + 1), nth l (k + 2), nth l (k + 3)]) (l.drop (k + 4)) := fun l hk => by
    rw [← crcS_append, ← crcS_append, ← drop4 hk, List.take_append_drop]
  rw [s l hk, s m (by omega), e1, e2] at h
  have hX := crcS_lt (hm.take k) (x := 4294967295) (by decide)
  generalize crcS 4294967295 (m.take k) = X at *
  have hq : ∀ {l : List Int}, Bs l → ∀ n, Bs [nth l n, nth l (n + 1), nth l (n + 2), nth l (n + 3)] := fun hl n => (Bs.cons (hl.get _).1 (hl.get _).2 (Bs.cons (hl.get _).1 (hl.get _).2 (Bs.cons (hl.get _).1 (hl.get _).2 (Bs.cons (hl.get _).1 (hl.get _).2 Bs.nil))))
  have h2 : crcS X [nth l k, nth l (k + 1), nth l (k + 2), nth l (k + 3)] = crcS X [nth m k, nth m (k + 1), nth m (k + 2), nth m (k + 3)] := by
    rw [crcS_T _ (List.drop _ _), crcS_T _ (List.drop _ _)] at h
    exact crcT_inj (toNat_lt (hm.drop _)) (crcS_lt (hq hl k) hX) (crcS_lt (hq hm k) hX) h
  rw [crcS_T, crcS_T] at h2
  simp only [List.map_cons, List.map_nil] at h2
  have b : ∀ {l : List Int}, Bs l → ∀ n, (nth l n).toNat < 256 := fun hl n => by have := hl.get n; omega
  obtain ⟨h0, h1, h3, h4⟩ := burst hX (b hl _) (b hl _) (b hl _) (b hl _) (b hm _) (b hm _) (b hm _) (b hm _) h2
  have c : ∀ n, (nth l n).toNat = (nth m n).toNat → nth l n = nth m n := fun n e => by have := hl.get n; have := hm.get n; omega
  refine ext_nth hlm fun n hn => ?_
  by_cases hw : n < k ∨ k + 4 ≤ n
  · exact ha n hw
  · obtain rfl | rfl | rfl | rfl : n = k ∨ n = k + 1 ∨ n = k + 2 ∨ n = k + 3 := by omega
    · exact c _ h0
    · exact c _ h1
    · exact c _ h3
    · exact c _ h4
theorem crc_eqS {l m : List Int} (hl : Bs l) (hm : Bs m) (h : crc l = crc m) : crcS 4294967295 l = crcS 4294967295 m := by
  have h1 := crcS_lt hl (x := 4294967295) (by decide)
  have h2 := crcS_lt hm (x := 4294967295) (by decide)
  unfold crc at h
  omega
theorem hb_take12 (a g : Int) : (Hand.hb a g).take 12 = h12 a g := by
  unfold Hand.hb
  rw [List.take_append_of_le_length (by rw [h12_length]; omega), List.take_of_length_le (by rw [h12_length]; omega)]
theorem hb_drop12 (a g : Int) : (Hand.hb a g).drop 12 = be (crc (h12 a g)) 4 := by
  unfold Hand.hb
  rw [List.drop_append_of_le_length (by rw [h12_length]; omega), List.drop_eq_nil_of_le (by rw [h12_length]; omega), List.nil_append]
/-- Changed, it is the bytes of no handle. -/
theorem spoiled {a g : Int} (ha : 1 ≤ a) (ha' : a ≤ 1024) (hg : 0 ≤ g) (hg' : g < 4294967296) {k : Nat} {bs : List Int} (hb : Bs bs) {j : Nat} (hj : j ≤ 4) (hkj : k + j ≤ 16) (hw : 12 ≤ k ∨ k + j ≤ 12) {t : Nat} (ht : t < j) (hz : nth bs t ≠ 0) : ¬ hOK (sp (Hand.hb a g) k bs j) := by
  intro hO
  have hl := hb_bs a g
  have hlen := hb_length a g
  have hkl : k + j ≤ (Hand.hb a g).length := by omega
  have hne := sp_ne (k := k) hl hb hkl ht hz
  have hnth := fun n => sp_nth (l := Hand.hb a g) (bs := bs) (k := k) (j := j) hkl n
  have hbs := sp_bs hl hb (k := k) (j := j) (by omega)
  have hsl := sp_length (Hand.hb a g) k bs j
  have hE := hO.2.2.2
  generalize sp (Hand.hb a g) k bs j = L at *
  rcases hw with hw | hw
  · have hN : hNode L = a := by
      have h1 := hNode_hb (g := g) (show 0 ≤ a by omega) (show a < 4294967296 by omega) []
      rw [List.append_nil] at h1
      rw [← h1]
      unfold hNode
      exact num_congr 4 fun n hn => by rw [nth_drop, nth_drop, hnth, if_neg (by omega)]
    have hG : hGen L = g := by
      have h1 := hGen_hb (a := a) hg hg' []
      rw [List.append_nil] at h1
      rw [← h1]
      unfold hGen
      exact num_congr 4 fun n hn => by rw [nth_drop, nth_drop, hnth, if_neg (by omega)]
    rw [hN, hG] at hE
    exact hne hE.symm
  · have ht : L.drop 12 = (Hand.hb a g).drop 12 := ext_nth (by simp; omega) fun n hn => by rw [nth_drop, nth_drop, hnth, if_neg (by omega)]
    have hT : L.take 12 = h12 (hNode L) (hGen L) := by
      have := hb_take12 (hNode L) (hGen L)
      rwa [hE] at this
    have hD : L.drop 12 = be (crc (h12 (hNode L) (hGen L))) 4 := by
      have := hb_drop12 (hNode L) (hGen L)
      rwa [hE] at this
    rw [hD, hb_drop12] at ht
    have b1 := crc_bound (h12_bs (hNode L) (hGen L))
    have b2 := crc_bound (h12_bs a g)
    have hc : crc (h12 (hNode L) (hGen L)) = crc (h12 a g) := by rw [← num_be4 b1.1 b1.2 [], ← num_be4 b2.1 b2.2 [], ht]
    have hS := crc_eqS (h12_bs _ _) (h12_bs _ _) hc
    have hW : L.take 12 = (Hand.hb a g).take 12 := by
      rw [← hT, ← hb_take12 a g] at hS
      refine window (hbs.take 12) (hl.take 12) (by simp; omega) (k := min k 8) (by simp; omega) (fun n hn => ?_) hS
      by_cases h12 : n < 12
      · rw [nth_take _ _ _ h12, nth_take _ _ _ h12, hnth, if_neg (by omega)]
      · rw [gd0 _ _ (by simp; omega), gd0 _ _ (by simp; omega)]
    refine hne ?_
    rw [← List.take_append_drop 12 L, ← List.take_append_drop 12 (Hand.hb a g), hW, hD, ht, hb_drop12]
end Go.Proofs.Ytffikncbpcnflaa.Hand
