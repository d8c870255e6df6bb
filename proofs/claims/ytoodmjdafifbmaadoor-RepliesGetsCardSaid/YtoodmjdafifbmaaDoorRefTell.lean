/- The reference's told, whatever has been read so far; and what replies.get makes of the same numbers. -/
import Derived.Test.YtoodmjdafifbmaaDoorRefTold
namespace Go.Proofs.YtoodmjdafifbmaaDoor.Hand
open Go.RowKit
set_option linter.unusedVariables false
set_option linter.unusedSimpArgs false

/-- Numbers that want more behind them. -/
inductive Pre : List Int → Prop
  | p0 : Pre []
  | p1 (x : Int) : Pre [x]
  | p2 (x : Int) : Pre [x, 1]
  | p3a (x : Int) : Pre [x, 1, 0]
  | p3b (x : Int) : Pre [x, 1, 1]
  | p4a (x : Int) : Pre [x, 1, 0, 0]
  | p4b (x : Int) : Pre [x, 1, 1, 0]
  | p4c (x : Int) : Pre [x, 1, 1, 1]
  | p5a (x : Int) : Pre [x, 1, 0, 0, 0]
  | p5b (x lo : Int) : Pre [x, 1, 1, 0, lo]
  | p6 (x : Int) : Pre [x, 1, 0, 0, 0, 2]
  | p7 (x lo : Int) : Pre [x, 1, 0, 0, 0, 2, lo]
def badEnd (l : List Int) (n : Int) : Prop := keysOf (l ++ [n]) = [] ∨ (keysOf (l ++ [n]) = [101] ∧ l.length = 4 ∧ ¬ (1 ≤ n ∧ n ≤ 7))
/-- told, of these numbers, tells so. -/
def Tells (l : List Int) (h lo hi : Int) (mo ok : Bool) : Prop := ∀ (ad : Addr) (c : Nat) (w : World), RdN w (some ad) l → l.length ≤ c →
  Calls Tryd.prog 59 #[.slice (some ad) l.length c] w fun e w' => e = .returned (.tuple #[.agg #[.int .u32 (nth l 0), .int .u32 h, .int .u32 lo, .int .u32 hi, .slice none 0 0], .bool mo, .bool ok]) ∧ Below w.heap.size w w'
theorem RdN.c0 {w : World} {ad : Addr} {l : List Int} (h : RdN w (some ad) l) (hl : 0 < l.length) : w.cell? ad = some (.int .u32 (nth l 0)) := by
  obtain ⟨ad', e, hc⟩ := h.at_ hl
  cases e
  rwa [addr_add0] at hc
theorem RdN.cS {w : World} {ad : Addr} {l : List Int} (h : RdN w (some ad) l) (j : Nat) (hl : j + 1 < l.length) : w.cell? ⟨ad.block, ad.off + (j + 1), none⟩ = some (.int .u32 (nth l (j + 1))) := by
  obtain ⟨ad', e, hc⟩ := h.at_ hl
  cases e
  rwa [addr_succ] at hc
/-- What one number more does. -/
def Step (l : List Int) (n : Int) : Prop := ∃ h lo hi mo ok, Tells (l ++ [n]) h lo hi mo ok ∧ doneKey l = none ∧
  ((ok = false ∧ ((l.length = 1 ∧ n ≠ 1) ∨ badEnd l n)) ∨ (ok = true ∧ mo = true ∧ ¬ (l.length = 1 ∧ n ≠ 1) ∧ ¬ badEnd l n ∧ Pre (l ++ [n])) ∨
    (ok = true ∧ mo = false ∧ ¬ (l.length = 1 ∧ n ≠ 1) ∧ ¬ badEnd l n ∧ doneKey (l ++ [n]) = some h ∧ lowOf h (l ++ [n]) = lo ∧ highOf h (l ++ [n]) = hi))

theorem step_any {l : List Int} (hp : Pre l) (n : Int) (hb : 0 ≤ n ∧ n < 4294967296) : Step l n := by
  cases hp with
  | p0 =>
    refine ⟨0, 0, 0, true, true, fun ad c w r hc => told_1 n ad c w (r.c0 (by simp)) , rfl, ?_⟩
    have e : keysOf ([] ++ [n]) = [0, 1, 2, 3, 4, 100, 101] := rfl
    exact .inr (.inl ⟨rfl, rfl, by simp, (by rintro (b | ⟨b, b2, b3⟩); exact absurd (e.symm.trans b) (by decide); exact absurd (e.symm.trans b) (by decide)), .p1 n⟩)
  | p1 x =>
    by_cases hn : n = 1
    · subst hn
      refine ⟨0, 0, 0, true, true, fun ad c w r hc => told_2more x ad c w (r.c0 (by simp)) (r.cS 0 (by simp)) , rfl, ?_⟩
      have e : keysOf ([x] ++ [1]) = [0, 1, 2, 3, 4, 100, 101] := rfl
      exact .inr (.inl ⟨rfl, rfl, by simp, (by rintro (b | ⟨b, b2, b3⟩); exact absurd (e.symm.trans b) (by decide); exact absurd (e.symm.trans b) (by decide)), .p2 x⟩)
    · have hn' : ¬ 1 = n := fun e => hn e.symm
      refine ⟨0, 0, 0, false, false, fun ad c w r hc => told_2no x n ad c w (r.c0 (by simp)) (r.cS 0 (by simp)) hn, rfl, ?_⟩
      exact .inl ⟨rfl, .inl ⟨rfl, hn⟩⟩
  | p2 x =>
    by_cases hn : n = 0
    · subst hn
      refine ⟨0, 0, 0, true, true, fun ad c w r hc => told_3more x 0 ad c w (r.c0 (by simp)) (r.cS 0 (by simp)) (r.cS 1 (by simp)) (by decide), rfl, ?_⟩
      have e : keysOf ([x, 1] ++ [0]) = [0, 1, 2, 3, 4] := rfl
      exact .inr (.inl ⟨rfl, rfl, by simp, (by rintro (b | ⟨b, b2, b3⟩); exact absurd (e.symm.trans b) (by decide); exact absurd (e.symm.trans b) (by decide)), .p3a x⟩)
    · have hn' : ¬ 0 = n := fun e => hn e.symm
      by_cases hm : n = 1
      · subst hm
        refine ⟨0, 0, 0, true, true, fun ad c w r hc => told_3more x 1 ad c w (r.c0 (by simp)) (r.cS 0 (by simp)) (r.cS 1 (by simp)) (by decide), rfl, ?_⟩
        have e : keysOf ([x, 1] ++ [1]) = [100, 101] := rfl
        exact .inr (.inl ⟨rfl, rfl, by simp, (by rintro (b | ⟨b, b2, b3⟩); exact absurd (e.symm.trans b) (by decide); exact absurd (e.symm.trans b) (by decide)), .p3b x⟩)
      · have hm' : ¬ 1 = n := fun e => hm e.symm
        refine ⟨0, 0, 0, false, false, fun ad c w r hc => told_3no x n ad c w (r.c0 (by simp)) (r.cS 0 (by simp)) (r.cS 1 (by simp)) (by omega), rfl, ?_⟩
        have e : keysOf ([x, 1] ++ [n]) = [] := (by simp [keysOf, keysL, fits, fixedOf, agree, hn, hn', hm, hm'])
        exact .inl ⟨rfl, .inr (.inl e)⟩
  | p3a x =>
    by_cases hn : n = 0
    · subst hn
      refine ⟨0, 0, 0, true, true, fun ad c w r hc => told_acc x ad c w 4 0 0 0 true true (by simp) hc (fun wx hb => acc_1more x 0 ⟨ad.block, ad.off + 3, none⟩ (c - 3) wx (cell_later hb (r.cS 2 (by simp))) rfl) (r.c0 (by simp)) (r.cS 0 (by simp)) (r.cS 1 (by simp)), rfl, ?_⟩
      have e : keysOf ([x, 1, 0] ++ [0]) = [0, 1, 2, 3, 4] := rfl
      exact .inr (.inl ⟨rfl, rfl, by simp, (by rintro (b | ⟨b, b2, b3⟩); exact absurd (e.symm.trans b) (by decide); exact absurd (e.symm.trans b) (by decide)), .p4a x⟩)
    · have hn' : ¬ 0 = n := fun e => hn e.symm
      refine ⟨0, 0, 0, false, false, fun ad c w r hc => told_acc x ad c w 4 0 0 0 false false (by simp) hc (fun wx hb => acc_1no x n ⟨ad.block, ad.off + 3, none⟩ (c - 3) wx (cell_later hb (r.cS 2 (by simp))) hn) (r.c0 (by simp)) (r.cS 0 (by simp)) (r.cS 1 (by simp)), rfl, ?_⟩
      have e : keysOf ([x, 1, 0] ++ [n]) = [] := (by simp [keysOf, keysL, fits, fixedOf, agree, hn, hn'])
      exact .inl ⟨rfl, .inr (.inl e)⟩
  | p3b x =>
    by_cases hn : n = 0
    · subst hn
      refine ⟨0, 0, 0, true, true, fun ad c w r hc => told_den x ad c w 4 0 0 0 true true (by simp) hc (fun wx hb => den_1more x 0 ⟨ad.block, ad.off + 3, none⟩ (c - 3) wx (cell_later hb (r.cS 2 (by simp))) (by decide)) (r.c0 (by simp)) (r.cS 0 (by simp)) (r.cS 1 (by simp)), rfl, ?_⟩
      have e : keysOf ([x, 1, 1] ++ [0]) = [100] := rfl
      exact .inr (.inl ⟨rfl, rfl, by simp, (by rintro (b | ⟨b, b2, b3⟩); exact absurd (e.symm.trans b) (by decide); exact absurd (e.symm.trans b) (by decide)), .p4b x⟩)
    · have hn' : ¬ 0 = n := fun e => hn e.symm
      by_cases hm : n = 1
      · subst hm
        refine ⟨0, 0, 0, true, true, fun ad c w r hc => told_den x ad c w 4 0 0 0 true true (by simp) hc (fun wx hb => den_1more x 1 ⟨ad.block, ad.off + 3, none⟩ (c - 3) wx (cell_later hb (r.cS 2 (by simp))) (by decide)) (r.c0 (by simp)) (r.cS 0 (by simp)) (r.cS 1 (by simp)), rfl, ?_⟩
        have e : keysOf ([x, 1, 1] ++ [1]) = [101] := rfl
        exact .inr (.inl ⟨rfl, rfl, by simp, (by rintro (b | ⟨b, b2, b3⟩); exact absurd (e.symm.trans b) (by decide); exact absurd b2 (by simp)), .p4c x⟩)
      · have hm' : ¬ 1 = n := fun e => hm e.symm
        refine ⟨0, 0, 0, false, false, fun ad c w r hc => told_den x ad c w 4 0 0 0 false false (by simp) hc (fun wx hb => den_1no x n ⟨ad.block, ad.off + 3, none⟩ (c - 3) wx (cell_later hb (r.cS 2 (by simp))) (by omega)) (r.c0 (by simp)) (r.cS 0 (by simp)) (r.cS 1 (by simp)), rfl, ?_⟩
        have e : keysOf ([x, 1, 1] ++ [n]) = [] := (by simp [keysOf, keysL, fits, fixedOf, agree, hn, hn', hm, hm'])
        exact .inl ⟨rfl, .inr (.inl e)⟩
  | p4a x =>
    by_cases hn : n = 0
    · subst hn
      refine ⟨0, 0, 0, true, true, fun ad c w r hc => told_acc x ad c w 5 0 0 0 true true (by simp) hc (fun wx hb => acc_2more x 0 0 ⟨ad.block, ad.off + 3, none⟩ (c - 3) wx (cell_later hb (r.cS 2 (by simp))) (cell_later hb (r.cS 3 (by simp))) rfl) (r.c0 (by simp)) (r.cS 0 (by simp)) (r.cS 1 (by simp)), rfl, ?_⟩
      have e : keysOf ([x, 1, 0, 0] ++ [0]) = [0, 1, 2, 3, 4] := rfl
      exact .inr (.inl ⟨rfl, rfl, by simp, (by rintro (b | ⟨b, b2, b3⟩); exact absurd (e.symm.trans b) (by decide); exact absurd (e.symm.trans b) (by decide)), .p5a x⟩)
    · have hn' : ¬ 0 = n := fun e => hn e.symm
      refine ⟨0, 0, 0, false, false, fun ad c w r hc => told_acc x ad c w 5 0 0 0 false false (by simp) hc (fun wx hb => acc_2no x 0 n ⟨ad.block, ad.off + 3, none⟩ (c - 3) wx (cell_later hb (r.cS 2 (by simp))) (cell_later hb (r.cS 3 (by simp))) hn) (r.c0 (by simp)) (r.cS 0 (by simp)) (r.cS 1 (by simp)), rfl, ?_⟩
      have e : keysOf ([x, 1, 0, 0] ++ [n]) = [] := (by simp [keysOf, keysL, fits, fixedOf, agree, hn, hn'])
      exact .inl ⟨rfl, .inr (.inl e)⟩
  | p4b x =>
    refine ⟨100, n, 0, true, true, fun ad c w r hc => told_den x ad c w 5 100 n 0 true true (by simp) hc (fun wx hb => den_2more x n ⟨ad.block, ad.off + 3, none⟩ (c - 3) wx (cell_later hb (r.cS 2 (by simp))) (cell_later hb (r.cS 3 (by simp))) ) (r.c0 (by simp)) (r.cS 0 (by simp)) (r.cS 1 (by simp)), rfl, ?_⟩
    have e : keysOf ([x, 1, 1, 0] ++ [n]) = [100] := rfl
    exact .inr (.inl ⟨rfl, rfl, by simp, (by rintro (b | ⟨b, b2, b3⟩); exact absurd (e.symm.trans b) (by decide); exact absurd (e.symm.trans b) (by decide)), .p5b x n⟩)
  | p4c x =>
    by_cases hw : 1 ≤ n ∧ n ≤ 7
    · refine ⟨101, n, 0, false, true, fun ad c w r hc => told_den x ad c w 5 101 n 0 false true (by simp) hc (fun wx hb => den_why x n ⟨ad.block, ad.off + 3, none⟩ (c - 3) wx (cell_later hb (r.cS 2 (by simp))) (cell_later hb (r.cS 3 (by simp))) hw.1 hw.2) (r.c0 (by simp)) (r.cS 0 (by simp)) (r.cS 1 (by simp)), rfl, ?_⟩
      have e : keysOf ([x, 1, 1, 1] ++ [n]) = [101] := rfl
      exact .inr (.inr ⟨rfl, rfl, by simp, (by rintro (b | ⟨b, b2, b3⟩); exact absurd (e.symm.trans b) (by decide); exact b3 hw), rfl, rfl, rfl⟩)
    · by_cases h1 : 1 ≤ n
      · refine ⟨101, n, 0, false, false, fun ad c w r hc => told_den x ad c w 5 101 n 0 false false (by simp) hc (fun wx hb => den_high x n ⟨ad.block, ad.off + 3, none⟩ (c - 3) wx (cell_later hb (r.cS 2 (by simp))) (cell_later hb (r.cS 3 (by simp))) h1 (fun h => hw ⟨h1, h⟩)) (r.c0 (by simp)) (r.cS 0 (by simp)) (r.cS 1 (by simp)), rfl, ?_⟩
        have e : keysOf ([x, 1, 1, 1] ++ [n]) = [101] := rfl
        exact .inl ⟨rfl, .inr (.inr ⟨e, rfl, hw⟩)⟩
      · refine ⟨101, n, 0, false, false, fun ad c w r hc => told_den x ad c w 5 101 n 0 false false (by simp) hc (fun wx hb => den_low x n ⟨ad.block, ad.off + 3, none⟩ (c - 3) wx (cell_later hb (r.cS 2 (by simp))) (cell_later hb (r.cS 3 (by simp))) h1) (r.c0 (by simp)) (r.cS 0 (by simp)) (r.cS 1 (by simp)), rfl, ?_⟩
        have e : keysOf ([x, 1, 1, 1] ++ [n]) = [101] := rfl
        exact .inl ⟨rfl, .inr (.inr ⟨e, rfl, hw⟩)⟩
  | p5a x =>
    by_cases hn : n = 0
    · subst hn
      refine ⟨0, 0, 0, false, true, fun ad c w r hc => told_acc x ad c w 6 0 0 0 false true (by simp) hc (fun wx hb => acc_3zero x 0 0 ⟨ad.block, ad.off + 3, none⟩ (c - 3) wx (cell_later hb (r.cS 2 (by simp))) (cell_later hb (r.cS 3 (by simp))) (cell_later hb (r.cS 4 (by simp))) ) (r.c0 (by simp)) (r.cS 0 (by simp)) (r.cS 1 (by simp)), rfl, ?_⟩
      have e : keysOf ([x, 1, 0, 0, 0] ++ [0]) = [0] := rfl
      exact .inr (.inr ⟨rfl, rfl, by simp, (by rintro (b | ⟨b, b2, b3⟩); exact absurd (e.symm.trans b) (by decide); exact absurd (e.symm.trans b) (by decide)), rfl, rfl, rfl⟩)
    · have hn' : ¬ 0 = n := fun e => hn e.symm
      by_cases h1 : n = 1
      · subst h1
        refine ⟨1, 0, 0, false, true, fun ad c w r hc => told_acc x ad c w 6 1 0 0 false true (by simp) hc (fun wx hb => acc_3done x 0 0 1 ⟨ad.block, ad.off + 3, none⟩ (c - 3) wx (cell_later hb (r.cS 2 (by simp))) (cell_later hb (r.cS 3 (by simp))) (cell_later hb (r.cS 4 (by simp))) (by decide) (by decide) (by decide)) (r.c0 (by simp)) (r.cS 0 (by simp)) (r.cS 1 (by simp)), rfl, ?_⟩
        have e : keysOf ([x, 1, 0, 0, 0] ++ [1]) = [1] := rfl
        exact .inr (.inr ⟨rfl, rfl, by simp, (by rintro (b | ⟨b, b2, b3⟩); exact absurd (e.symm.trans b) (by decide); exact absurd (e.symm.trans b) (by decide)), rfl, rfl, rfl⟩)
      by_cases h2 : n = 2
      · subst h2
        refine ⟨2, 0, 0, true, true, fun ad c w r hc => told_acc x ad c w 6 2 0 0 true true (by simp) hc (fun wx hb => acc_3more x 0 0 ⟨ad.block, ad.off + 3, none⟩ (c - 3) wx (cell_later hb (r.cS 2 (by simp))) (cell_later hb (r.cS 3 (by simp))) (cell_later hb (r.cS 4 (by simp))) ) (r.c0 (by simp)) (r.cS 0 (by simp)) (r.cS 1 (by simp)), rfl, ?_⟩
        have e : keysOf ([x, 1, 0, 0, 0] ++ [2]) = [2] := rfl
        exact .inr (.inl ⟨rfl, rfl, by simp, (by rintro (b | ⟨b, b2, b3⟩); exact absurd (e.symm.trans b) (by decide); exact absurd (e.symm.trans b) (by decide)), .p6 x⟩)
      by_cases h3 : n = 3
      · subst h3
        refine ⟨3, 0, 0, false, true, fun ad c w r hc => told_acc x ad c w 6 3 0 0 false true (by simp) hc (fun wx hb => acc_3done x 0 0 3 ⟨ad.block, ad.off + 3, none⟩ (c - 3) wx (cell_later hb (r.cS 2 (by simp))) (cell_later hb (r.cS 3 (by simp))) (cell_later hb (r.cS 4 (by simp))) (by decide) (by decide) (by decide)) (r.c0 (by simp)) (r.cS 0 (by simp)) (r.cS 1 (by simp)), rfl, ?_⟩
        have e : keysOf ([x, 1, 0, 0, 0] ++ [3]) = [3] := rfl
        exact .inr (.inr ⟨rfl, rfl, by simp, (by rintro (b | ⟨b, b2, b3⟩); exact absurd (e.symm.trans b) (by decide); exact absurd (e.symm.trans b) (by decide)), rfl, rfl, rfl⟩)
      by_cases h4 : n = 4
      · subst h4
        refine ⟨4, 0, 0, false, true, fun ad c w r hc => told_acc x ad c w 6 4 0 0 false true (by simp) hc (fun wx hb => acc_3done x 0 0 4 ⟨ad.block, ad.off + 3, none⟩ (c - 3) wx (cell_later hb (r.cS 2 (by simp))) (cell_later hb (r.cS 3 (by simp))) (cell_later hb (r.cS 4 (by simp))) (by decide) (by decide) (by decide)) (r.c0 (by simp)) (r.cS 0 (by simp)) (r.cS 1 (by simp)), rfl, ?_⟩
        have e : keysOf ([x, 1, 0, 0, 0] ++ [4]) = [4] := rfl
        exact .inr (.inr ⟨rfl, rfl, by simp, (by rintro (b | ⟨b, b2, b3⟩); exact absurd (e.symm.trans b) (by decide); exact absurd (e.symm.trans b) (by decide)), rfl, rfl, rfl⟩)
      have h1' : ¬ 1 = n := fun e => h1 e.symm
      have h2' : ¬ 2 = n := fun e => h2 e.symm
      have h3' : ¬ 3 = n := fun e => h3 e.symm
      have h4' : ¬ 4 = n := fun e => h4 e.symm
      refine ⟨n, 0, 0, false, false, fun ad c w r hc => told_acc x ad c w 6 n 0 0 false false (by simp) hc (fun wx hb => acc_3no x 0 0 n ⟨ad.block, ad.off + 3, none⟩ (c - 3) wx (cell_later hb (r.cS 2 (by simp))) (cell_later hb (r.cS 3 (by simp))) (cell_later hb (r.cS 4 (by simp))) hn (by omega)) (r.c0 (by simp)) (r.cS 0 (by simp)) (r.cS 1 (by simp)), rfl, ?_⟩
      have e : keysOf ([x, 1, 0, 0, 0] ++ [n]) = [] := (by simp [keysOf, keysL, fits, fixedOf, agree, hn, hn', h1, h2, h3, h4, h1', h2', h3', h4'])
      exact .inl ⟨rfl, .inr (.inl e)⟩
  | p5b x lo =>
    refine ⟨100, lo, n, false, true, fun ad c w r hc => told_den x ad c w 6 100 lo n false true (by simp) hc (fun wx hb => den_3done x lo n ⟨ad.block, ad.off + 3, none⟩ (c - 3) wx (cell_later hb (r.cS 2 (by simp))) (cell_later hb (r.cS 3 (by simp))) (cell_later hb (r.cS 4 (by simp))) ) (r.c0 (by simp)) (r.cS 0 (by simp)) (r.cS 1 (by simp)), rfl, ?_⟩
    have e : keysOf ([x, 1, 1, 0, lo] ++ [n]) = [100] := rfl
    exact .inr (.inr ⟨rfl, rfl, by simp, (by rintro (b | ⟨b, b2, b3⟩); exact absurd (e.symm.trans b) (by decide); exact absurd (e.symm.trans b) (by decide)), rfl, rfl, rfl⟩)
  | p6 x =>
    by_cases hn : n = 0
    · subst hn
      refine ⟨2, 0, 0, true, true, fun ad c w r hc => told_acc x ad c w 7 2 0 0 true true (by simp) hc (fun wx hb => acc_4morez x 0 0 0 ⟨ad.block, ad.off + 3, none⟩ (c - 3) wx (cell_later hb (r.cS 2 (by simp))) (cell_later hb (r.cS 3 (by simp))) (cell_later hb (r.cS 4 (by simp))) (cell_later hb (r.cS 5 (by simp))) rfl) (r.c0 (by simp)) (r.cS 0 (by simp)) (r.cS 1 (by simp)), rfl, ?_⟩
      have e : keysOf ([x, 1, 0, 0, 0, 2] ++ [0]) = [2] := rfl
      exact .inr (.inl ⟨rfl, rfl, by simp, (by rintro (b | ⟨b, b2, b3⟩); exact absurd (e.symm.trans b) (by decide); exact absurd (e.symm.trans b) (by decide)), .p7 x 0⟩)
    · have hn' : ¬ 0 = n := fun e => hn e.symm
      refine ⟨2, 0, 0, true, true, fun ad c w r hc => told_acc x ad c w 7 2 0 0 true true (by simp) hc (fun wx hb => acc_4moren x 0 0 n ⟨ad.block, ad.off + 3, none⟩ (c - 3) wx (cell_later hb (r.cS 2 (by simp))) (cell_later hb (r.cS 3 (by simp))) (cell_later hb (r.cS 4 (by simp))) (cell_later hb (r.cS 5 (by simp))) hn) (r.c0 (by simp)) (r.cS 0 (by simp)) (r.cS 1 (by simp)), rfl, ?_⟩
      have e : keysOf ([x, 1, 0, 0, 0, 2] ++ [n]) = [2] := rfl
      exact .inr (.inl ⟨rfl, rfl, by simp, (by rintro (b | ⟨b, b2, b3⟩); exact absurd (e.symm.trans b) (by decide); exact absurd (e.symm.trans b) (by decide)), .p7 x n⟩)
  | p7 x lo =>
    by_cases hn : n = 0
    · subst hn
      refine ⟨2, lo, 0, false, true, fun ad c w r hc => told_acc x ad c w 8 2 lo 0 false true (by simp) hc (fun wx hb => acc_5donez x 0 0 lo 0 ⟨ad.block, ad.off + 3, none⟩ (c - 3) wx (cell_later hb (r.cS 2 (by simp))) (cell_later hb (r.cS 3 (by simp))) (cell_later hb (r.cS 4 (by simp))) (cell_later hb (r.cS 5 (by simp))) (cell_later hb (r.cS 6 (by simp))) rfl) (r.c0 (by simp)) (r.cS 0 (by simp)) (r.cS 1 (by simp)), rfl, ?_⟩
      have e : keysOf ([x, 1, 0, 0, 0, 2, lo] ++ [0]) = [2] := rfl
      exact .inr (.inr ⟨rfl, rfl, by simp, (by rintro (b | ⟨b, b2, b3⟩); exact absurd (e.symm.trans b) (by decide); exact absurd (e.symm.trans b) (by decide)), rfl, rfl, rfl⟩)
    · have hn' : ¬ 0 = n := fun e => hn e.symm
      refine ⟨2, lo, n, false, true, fun ad c w r hc => told_acc x ad c w 8 2 lo n false true (by simp) hc (fun wx hb => acc_5donen x 0 0 lo n ⟨ad.block, ad.off + 3, none⟩ (c - 3) wx (cell_later hb (r.cS 2 (by simp))) (cell_later hb (r.cS 3 (by simp))) (cell_later hb (r.cS 4 (by simp))) (cell_later hb (r.cS 5 (by simp))) (cell_later hb (r.cS 6 (by simp))) hn) (r.c0 (by simp)) (r.cS 0 (by simp)) (r.cS 1 (by simp)), rfl, ?_⟩
      have e : keysOf ([x, 1, 0, 0, 0, 2, lo] ++ [n]) = [2] := rfl
      exact .inr (.inr ⟨rfl, rfl, by simp, (by rintro (b | ⟨b, b2, b3⟩); exact absurd (e.symm.trans b) (by decide); exact absurd (e.symm.trans b) (by decide)), rfl, rfl, rfl⟩)
end Go.Proofs.YtoodmjdafifbmaaDoor.Hand
