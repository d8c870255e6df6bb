/- The cache's map: its keys are a number and a text; what stands where, in plain words. -/
import Derived.DeepKeys4
import Derived.Maps.OwnSet
import Derived.Test.YtoodmjdafifbmaaDoorStr
namespace Go.Proofs.YtoodmjdafifbmaaDoor.Hand
open Go.RowKit
open Go.Maps (Keyed)
set_option linter.unusedVariables false

theorem ck_laid : laidOutB Tryd.prog = true := by kernel_rfl
theorem ck_row : (85 : TypeId) < Tryd.prog.types.size := of_decide_eq_true (by kernel_rfl)
theorem ck_wide : (match Tryd.prog.underlying 85 with | some (.array _ _) | some (.struct _) => true | _ => false) = true := by rw [Tryd.underlying85]
set_option maxRecDepth 100000 in
theorem keyC : Keyed Tryd.prog 85 := Keyed.of_law (deep_law_laid ck_laid (m := 2) (by omega) ck_row (by kernel_rfl) ck_wide)
/-- A map's elements, each as itself. -/
def asSelf (v : Value) : Option (DataW Value × List MemPlace) := some (.held v, [])

/-- A key. -/
def kv (f : Int) (s : List Int) : Value := .agg #[.int .u64 f, .string (strOf s)]
/-- Keys that may be. -/
def okKey (f : Int) (s : List Int) : Prop := (0 ≤ f ∧ f < 18446744073709551616) ∧ Bs s ∧ s.length ≤ 1000000
noncomputable def lit (f : Int) (s : List Int) : Lit := (keyOf Tryd.prog 85 (kv f s)).getD (.bool false)
theorem strOf_size (s : List Int) : (strOf s).size = s.length := by
  have h := congrArg List.length (strOf_data s)
  simpa [u8s] using h
theorem wf_u64_mk {f : Int} (h0 : 0 ≤ f) (h1 : f < 18446744073709551616) : (Lit.int .u64 f).wf = true := by
  have e1 : IntKind.u64.min = 0 := rfl
  have e2 : IntKind.u64.max = 18446744073709551615 := rfl
  show (decide (IntKind.u64.min ≤ f) && decide (f ≤ IntKind.u64.max)) = true
  rw [e1, e2, decide_eq_true h0, decide_eq_true (by omega : f ≤ 18446744073709551615)]; rfl

theorem lits2 (d : Nat) {f : Int} {b : ByteArray} (hc : Tryd.prog.cellsOf 85 = 2) (c1 : Tryd.prog.cellsOf 56 = 1) (c2 : Tryd.prog.cellsOf 9 = 1) (hw : (Lit.int .u64 f).wf = true) (hsz : b.size ≤ maxLen) :
    Tryd.prog.keyLits (d + 3) 85 [.int .u64 f, .string b] = some [.int .u64 f, .string b.data.toList] := by
  have k1 : Tryd.prog.keyLits (d + 2) 56 [.int .u64 f] = some [.int .u64 f] := by simp [Program.keyLits, Tryd.underlying56, hw]
  have k2 : Tryd.prog.keyLits (d + 2) 9 [.string b] = some [.string b.data.toList] := by simp [Program.keyLits, Tryd.underlying9, hsz]
  unfold Program.keyLits
  rw [Tryd.underlying85]
  simp [hc, c1, c2, k1, k2]

set_option maxRecDepth 100000 in
theorem lit_of {f : Int} {s : List Int} (h : okKey f s) : keyOf Tryd.prog 85 (kv f s) = some (lit f s) := by
  have hs : ∃ l, keyOf Tryd.prog 85 (kv f s) = some l := by
    have hsz : (strOf s).size ≤ maxLen := by
      rw [strOf_size]
      have := h.2.2
      unfold maxLen
      omega
    have hk : Tryd.prog.keyType 85 = true := by kernel_rfl
    have hc : Tryd.prog.cellsOf 85 = 2 := by kernel_rfl
    have c1 : Tryd.prog.cellsOf 56 = 1 := by kernel_rfl
    have c2 : Tryd.prog.cellsOf 9 = 1 := by kernel_rfl
    have hw := wf_u64_mk h.1.1 h.1.2
    have hts : 2 ≤ Tryd.prog.types.size := of_decide_eq_true (by kernel_rfl)
    obtain ⟨d, hd⟩ : ∃ d, Tryd.prog.types.size + 1 = d + 3 := ⟨Tryd.prog.types.size - 2, by omega⟩
    have hl := lits2 d hc c1 c2 hw hsz
    refine ⟨.string (keyBytes [.int .u64 f, .string (strOf s).data.toList]), ?_⟩
    unfold keyOf
    rw [Tryd.underlying85, hd]
    have hf : Value.formed Tryd.prog 85 (kv f s) = true := by simp [kv, Value.formed, Tryd.underlying85, hc]
    have ht : (kv f s).cells.toList = [.int .u64 f, .string (strOf s)] := rfl
    simp only [hk, hf, ht, hl, Bool.and_self, if_true, Option.map_some]
  obtain ⟨l, hl⟩ := hs
  unfold lit
  rw [hl]
  rfl

theorem kv_inj {f g : Int} {s t : List Int} (hs : Bs s) (ht : Bs t) (h : kv f s = kv g t) : f = g ∧ s = t := by
  unfold kv at h
  injection h with h
  have h := congrArg Array.toList h
  simp only [List.cons.injEq, and_true] at h
  obtain ⟨h1, h2⟩ := h
  injection h1 with _ h1
  injection h2 with h2
  refine ⟨h1, u8s_inj hs ht ?_⟩
  rw [← strOf_data, ← strOf_data, h2]
theorem lit_inj {f g : Int} {s t : List Int} (h : okKey f s) (h' : okKey g t) (e : lit f s = lit g t) : f = g ∧ s = t := by
  have a := lit_of h
  have b := lit_of h'
  rw [← e] at b
  exact kv_inj h.2.1 h'.2.1 (keyC.inj a b)

/-- Block mb of w is a map of at most n entries: at the key (f, s) stands the text m f s, if any. -/
def MapIs (w : World) (mb n : Nat) (m : Int → List Int → Option (List Int)) : Prop :=
  ∃ D, Go.Maps.IsMap D ∧ w.ownsMap Tryd.prog 85 asSelf mb n D ∧ ∀ f s, okKey f s → ∀ z, D.atKey (lit f s) z = match m f s with | some r => .held (.string (strOf r)) | none => z
/-- One key's text changed. -/
def upd (m : Int → List Int → Option (List Int)) (f : Int) (s : List Int) (r : Option (List Int)) : Int → List Int → Option (List Int) := fun g t => if g = f ∧ t = s then r else m g t

theorem MapIs.made (w : World) : MapIs (w.alloc (.map #[] 0)) w.heap.size 0 (fun _ _ => none) := ⟨_, Go.Maps.isMap_empty, World.ownsMap_made _ _ _ _, fun _ _ _ _ => rfl⟩
theorem MapIs.lt {w : World} {mb n : Nat} {m : Int → List Int → Option (List Int)} (h : MapIs w mb n m) : mb < w.heap.size := by
  obtain ⟨D, _, h, _⟩ := h
  exact h.lt
theorem MapIs.kept {w w' : World} {mb n : Nat} {m : Int → List Int → Option (List Int)} {row : Option Nat} (h : MapIs w mb n m) (hg : w.grownBy w' row) (hne : some mb ≠ row) : MapIs w' mb n m := by
  obtain ⟨D, h1, h2, h3⟩ := h
  exact ⟨D, h1, h2.kept hg hne, h3⟩
theorem MapIs.below {w w' : World} {mb n : Nat} {m : Int → List Int → Option (List Int)} (h : MapIs w mb n m) (hb : Below w.heap.size w w') : MapIs w' mb n m :=
  h.kept (row := none) ⟨hb.os, hb.tape, hb.output, hb.size, fun i hi _ => hb.block i hi⟩ (by simp)

set_option maxRecDepth 100000 in
theorem MapIs.look {w : World} {mb n : Nat} {m : Int → List Int → Option (List Int)} (h : MapIs w mb n m) {f : Int} {s : List Int} (hk : okKey f s) :
    (Instr.lookup 76 (.map (some mb)) (kv f s) true).run Tryd.prog w = .ok (.tuple #[.string (strOf ((m f s).getD [])), .bool (m f s).isSome]) w := by
  obtain ⟨D, h1, h2, h3⟩ := h
  obtain ⟨v, ps, hrun, hv⟩ := World.ownsMap.look_ok h2 keyC Tryd.underlying76 (z := .string (strOf [])) (by rfl) (zd := .held (.string (strOf []))) (zp := []) rfl (lit_of hk)
  rw [hrun]
  have h4 := h3 f s hk
  cases hm : m f s with
  | none =>
    rw [hm] at h4
    rw [Go.Maps.has_false_of_atKey h4]
    rw [h4] at hv
    have : v = .string (strOf []) := by unfold asSelf at hv; injection hv with hv; injection hv with hv _; injection hv
    rw [this]; rfl
  | some r =>
    rw [hm] at h4
    rw [Go.Maps.has_true_of_atKey h4]
    rw [h4] at hv
    have : v = .string (strOf r) := by unfold asSelf at hv; injection hv with hv; injection hv with hv _; injection hv
    rw [this]; rfl
set_option maxRecDepth 100000 in
theorem MapIs.store {w : World} {mb n : Nat} {m : Int → List Int → Option (List Int)} (h : MapIs w mb n m) (hn : n < 1000000) {f : Int} {s : List Int} (hk : okKey f s) (r : List Int) :
    ∃ w', (Instr.mapUpdate 76 (.map (some mb)) (kv f s) (.string (strOf r))).run Tryd.prog w = .ok () w' ∧ MapIs w' mb (n + 1) (upd m f s (some r)) ∧ w.grownBy w' (some mb) := by
  obtain ⟨D, h1, h2, h3⟩ := h
  obtain ⟨w', hrun, h4, hg⟩ := h2.update keyC Tryd.underlying76 (by unfold maxLen; omega) (lit_of hk) (val := .string (strOf r)) (d := .held (.string (strOf r))) (ps := []) rfl
  refine ⟨w', hrun, ⟨_, h1.put _ _, h4, fun g t hgt z => ?_⟩, hg⟩
  unfold upd
  by_cases e : g = f ∧ t = s
  · obtain ⟨rfl, rfl⟩ := e
    rw [if_pos ⟨rfl, rfl⟩, Go.Maps.atKey_put_same h1 (keyC.key (lit_of hk))]
  · rw [if_neg e, Go.Maps.atKey_put_other (fun hl => e (lit_inj hgt hk hl)), h3 g t hgt]
set_option maxRecDepth 100000 in
theorem MapIs.drop {w : World} {mb n : Nat} {m : Int → List Int → Option (List Int)} (h : MapIs w mb n m) {f : Int} {s : List Int} (hk : okKey f s) (ty : TypeId) :
    ∃ w', (Builtin.delete_ #[76, 85] ty #[.map (some mb), kv f s]).run Tryd.prog w = .ok (.tuple #[]) w' ∧ MapIs w' mb n (upd m f s none) ∧ w.grownBy w' (some mb) := by
  obtain ⟨D, h1, h2, h3⟩ := h
  obtain ⟨w', hrun, h4, hg⟩ := World.ownsMap.drop h2 keyC Tryd.underlying76 (lit_of hk) ty
  refine ⟨w', hrun, ⟨_, h1.del _, h4, fun g t hgt z => ?_⟩, hg.grown⟩
  unfold upd
  by_cases e : g = f ∧ t = s
  · obtain ⟨rfl, rfl⟩ := e
    rw [if_pos ⟨rfl, rfl⟩, Go.Maps.atKey_del_same]
  · rw [if_neg e, Go.Maps.atKey_del_other (fun hl => e (lit_inj hgt hk hl)), h3 g t hgt]
end Go.Proofs.YtoodmjdafifbmaaDoor.Hand
