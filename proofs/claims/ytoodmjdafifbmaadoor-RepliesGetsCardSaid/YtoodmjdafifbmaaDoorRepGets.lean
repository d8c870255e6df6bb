/- What replies.Get hands back: the reply that bytes are, its body of the call's own; or the error. -/
import Derived.Test.YtoodmjdafifbmaaDoorWLast
import Derived.Test.YtoodmjdafifbmaaDoorCat
import Derived.Test.YtoodmjdafifbmaaDoorRepGet
namespace Go.Proofs.YtoodmjdafifbmaaDoor.Hand
open Go.RowKit Go.Proofs.YtoodmjdafifbmaaDoorW.PrintLast
set_option linter.unusedVariables false
set_option linter.unusedSimpArgs false

def xCells (g : Nat → Nat) (k : Int) : Array Value := #[.slice (rowP g k) (rowN k) (rowN k), .int .i64 (toldOf k), .bool (decide (k = 0))]
def zCells : Array Value := #[.int .u32 0, .int .u32 0, .int .u32 0, .int .u32 0, .slice none 0 0]
theorem rowK_or1 (g : Nat → Nat) (k : Int) : (if k ∈ keysL.filter (fun _ => true) then rowK g k else rowZ) = .agg (xCells g k) := rowK_or g k
/-- The reply that is none. -/
def repZ : Value := .agg #[.int .u32 0, .int .u32 0, .int .u32 0, .int .u32 0, .slice none 0 0]
def lowOf (how : Int) (l : List Int) : Int := if 1 ≤ toldOf how then nth l (2 + (fixedOf how).length) else 0
def highOf (how : Int) (l : List Int) : Int := if 2 ≤ toldOf how then nth l (2 + (fixedOf how).length + 1) else 0
/-- The reply while its told numbers are laid in. -/
def loCells (xid how lo hi : Int) (v : Value) (j : Nat) : Array Value := #[.int .u32 xid, .int .u32 how, .int .u32 (if 0 < j then lo else 0), .int .u32 (if 1 < j then hi else 0), v]
def GetsOk (base : Nat) (how : Int) (l body : List Int) (e : Ending) (w' : World) : Prop :=
  if how ≠ 0 ∧ 0 < body.length then e = .returned (.tuple #[repZ, .int .i64 5])
  else ∃ v, e = .returned (.tuple #[.agg #[.int .u32 (nth l 0), .int .u32 how, .int .u32 (lowOf how l), .int .u32 (highOf how l), v], .int .i64 0]) ∧ Own w' base v body
theorem GetsOk.bad {base : Nat} {how : Int} {l body : List Int} {e : Ending} {w' : World} (h : how ≠ 0 ∧ 0 < body.length) (he : e = .returned (.tuple #[repZ, .int .i64 5])) : GetsOk base how l body e w' := by
  unfold GetsOk; rw [if_pos h]; exact he
theorem GetsOk.good {base : Nat} {how : Int} {l body : List Int} {e : Ending} {w' : World} {v : Value} {lo hi : Int} (h : ¬ (how ≠ 0 ∧ 0 < body.length)) (hl : lowOf how l = lo) (hh : highOf how l = hi) (he : e = .returned (.tuple #[.agg #[.int .u32 (nth l 0), .int .u32 how, .int .u32 lo, .int .u32 hi, v], .int .i64 0])) (ho : Own w' base v body) : GetsOk base how l body e w' := by
  unfold GetsOk; rw [if_neg h, hl, hh]; exact ⟨v, he, ho⟩
theorem wrap_small {n : Int} (h0 : 0 ≤ n) (h1 : n < 4611686018427387904) : wrap64 n = n := by unfold wrap64; omega
theorem addr_add0 (a : Addr) : a.add 0 = a := by unfold Addr.add; simp
theorem addr_succ (a : Addr) (n : Nat) : a.add (n + 1) = ⟨a.block, a.off + (n + 1), none⟩ := by unfold Addr.add; simp
theorem grownBy_setAny (W : World) (g o : Nat) (u : Value) : W.grownBy (W.setCell ⟨g, o, none⟩ u) (some g) :=
  ⟨rfl, rfl, rfl, by simp, fun k hk hn => Below.heap_setCell W _ u k (fun e => hn (by rw [e]))⟩
theorem Own.setAny {w : World} {base : Nat} {v : Value} {l : List Int} (h : Own w base v l) (g o : Nat) (u : Value) (hne : some g ≠ v.ownBlock) : Own (w.setCell ⟨g, o, none⟩ u) base v l :=
  ⟨h.1, h.2.kept (grownBy_setAny w g o u) (.inr (fun e => hne e.symm))⟩

theorem OwnN.not_blk {w : World} {base : Nat} {v : Value} {l : List Int} {g : Nat} {t : TypeId} {cs : Array Value} (h : OwnN w base v l) (hg : Blk w g t cs) (hne : 22 ≠ t) : some g ≠ v.ownBlock := by
  intro e
  obtain ⟨cs', hc⟩ := h.cells e.symm
  exact (show Blk w g 22 cs' from hc).ne_ hg hne rfl
theorem OwnN.cells_at {w w' : World} {base : Nat} {ad : Addr} {n c : Nat} {l : List Int} {row : Option Nat} (h : OwnN w base (.slice (some ad) n c) l) (hg : w.grownBy w' row) (hn : row ≠ (Value.slice (some ad) n c).ownBlock) :
    ∀ k, k < l.length → w'.cell? (ad.add k) = some (.int .u32 (nth l k)) := by
  intro k hk
  obtain ⟨A, c', e, _, _, hr⟩ := (h.kept hg (fun j hj e => hn (by rw [e, hj]))).form
  obtain ⟨ad', e2, hc⟩ := hr.at_ hk
  cases e
  cases e2
  exact hc

set_option maxRecDepth 100000 in
set_option maxHeartbeats 4000000 in
theorem gets_ok (A : Option Addr) (c : Nat) (L : List Int) (w : World) (how : Int) (l : List Int) (hr : Rd w A L) (hc : L.length ≤ c) (hn : L.length ≤ 65536)
    (hrun : runG (L.length + 1) [] L = .ok how l) (h4 : 4 * l.length ≤ L.length) (hk : how ∈ keysL) (hl : (l.length : Int) = 2 + (fixedOf how).length + toldOf how) :
    Calls Tryd.prog 26 #[.slice A L.length c] w fun e w' => GetsOk w.heap.size how l (L.drop (4 * l.length)) e w' ∧ Below w.heap.size w w' := by
  have hB0 : Below w.heap.size w (w.alloc (.cells zCells 26)) := (Below.refl _ _).alloc (Nat.le_refl _) _
  have hb2 := Blk.new w 26 zCells
  have hg := get_ A c L _ (hr.below hB0) hc (by omega)
  have hlim : ¬ 65536 < (L.length : Int) := by omega
  rw [hrun] at hg
  have HK := Lib.hid hk
  have HL := Lib.hid hl
  have HR := Lib.hid hrun
  have H4 := Lib.hid h4
  have HG := Lib.hid hg
  have HB0 := Lib.hid hB0
  have HB2 := Lib.hid hb2
  clear hk hl hrun h4 hg hB0 hb2
  unfold zCells at HG HB0 HB2
  go_enter Tryd.func26, Tryd.ntmps26
  go_wp2_with fail
  refine HG.out.mono ?_
  rintro e w1 ⟨hE, hB1⟩
  obtain ⟨v, rfl, ho⟩ : ∃ v, e = .returned (.tuple #[.int .u32 how, v, .int .i64 0]) ∧ OwnN w1 _ v l := hE
  have HB2 := Lib.hid (HB2.out.below hB1)
  have HB1 := Lib.hid (below_then HB0.out hB1)
  clear hB1 HB0 HG
  go_wp2_with fail
  refine (rows_all _).mono ?_
  rintro e w2 ⟨b, g, rfl, hbb, hgk, hM, hN, hB⟩
  obtain ⟨hx0, hx1⟩ := keys_u32 HK.out
  have hq := look1 hM hx0 hx1
  rw [rowK_or1, xCells] at hq
  have ho2 := ho.below hB
  have HB2 := Lib.hid (HB2.out.below hB)
  have HB1 := Lib.hid (below_then HB1.out hB)
  have B0 := Blk.new w2 68 #[.slice none 0 0, .int .i64 0, .bool false]
  have c0 := B0.cell 0 (v := .slice none 0 0) rfl
  have c1 := B0.cell 1 (v := .int .i64 0) rfl
  have c2 := B0.cell 2 (v := .bool false) rfl
  have f0 := B0.frozen 0
  have f1 := B0.frozen 1
  have f2 := B0.frozen 2
  clear ho hbb hgk hM hN hB
  go_upto_region 7 with fail
  obtain ⟨hs1, hs2, hs3⟩ := row_small how
  have hll2 : 2 ≤ l.length := by have := HL.out; omega
  obtain ⟨A3, c3, rfl, hc3, _, hr3⟩ := ho2.form
  obtain ⟨ad3, rfl, hcell3⟩ := hr3.2 (by omega)
  obtain ⟨ad, rfl, _⟩ := hr.2 (by have := H4.out; omega)
  have bx := Blk.new w2 68 #[.slice (rowP g how) (rowN how) (rowN how), .int .i64 (toldOf how), .bool (decide (how = 0))]
  have hBW := HB1.out.alloc HB1.out.size (.cells #[.slice (rowP g how) (rowN how) (rowN how), .int .i64 (toldOf how), .bool (decide (how = 0))] 68)
  have hb2W := HB2.out.alloc (.cells #[.slice (rowP g how) (rowN how) (rowN how), .int .i64 (toldOf how), .bool (decide (how = 0))] 68)
  have hoW := ho2.below ((Below.refl _ w2).alloc (Nat.le_refl _) (.cells #[.slice (rowP g how) (rowN how) (rowN how), .int .i64 (toldOf how), .bool (decide (how = 0))] 68))
  have hpx := HB2.out.lt
  clear hq B0 c0 c1 c2 f0 f1 f2 HB1 HB2 hs1 hs2 hs3 ho2 hr3 hcell3
  obtain ⟨px, hpxe⟩ : ∃ px, px = w2.heap.size := ⟨_, rfl⟩
  rw [← hpxe] at bx hpx ⊢
  have hpW : px < (w2.alloc (.cells #[.slice (rowP g how) (rowN how) (rowN how), .int .i64 (toldOf how), .bool (decide (how = 0))] 68)).heap.size := by rw [hpxe]; simp
  clear hpxe
  generalize w2.alloc (.cells #[.slice (rowP g how) (rowN how) (rowN how), .int .i64 (toldOf how), .bool (decide (how = 0))] 68) = W at *
  obtain ⟨ll, hle⟩ : ∃ ll, ll = l.length := ⟨_, rfl⟩
  have H4' : 4 * ll ≤ L.length := by rw [hle]; exact H4.out
  have hll2 : 2 ≤ ll := by omega
  have hcl : ll ≤ c3 := by omega
  have k0 : W.cell? ad3 = some (.int .u32 (nth l 0)) := by
    have hW3 := hoW.form
    obtain ⟨A4, c4, e4, _, _, h4⟩ := hW3
    obtain ⟨ad4, e5, hc4⟩ := h4.2 (by omega)
    cases e4
    cases e5
    have := hc4 0 (by omega)
    rwa [addr_add0] at this
  rw [← hle] at hc3 hoW ⊢
  have HLE := Lib.hid hle
  clear hle hc3
  have HX := Lib.hid bx
  have HB := Lib.hid hBW
  have H2 := Lib.hid hb2W
  have HO := Lib.hid hoW
  have hdr := (hr.below hBW).drop (4 * ll) c hc
  have hq : (L.drop (4 * ll)).length = L.length - 4 * ll := List.length_drop
  obtain ⟨body, hbo⟩ : ∃ body, body = L.drop (4 * ll) := ⟨_, rfl⟩
  rw [← hbo] at hdr hq
  have HBO := Lib.hid hbo
  clear hbo
  have hwb : w.heap.size ≤ W.heap.size := hBW.size
  have hrw := hr.below hBW
  clear bx hBW hb2W hoW
  go_cut [8] (fun p wx => ∃ pr Ab cb, p = .pointer (some ⟨pr, 0, none⟩) ∧ Blk wx pr 26 #[.int .u32 (nth l 0), .int .u32 how, .int .u32 0, .int .u32 0, .slice Ab body.length cb] ∧ Own wx w.heap.size (.slice Ab body.length cb) body ∧ Below W.heap.size W wx ∧ W.heap.size ≤ pr)
  case first =>
    have hll0 : 0 < ll := by omega
    have hw4 : wrap64 (4 * (ll : Int)) = 4 * (ll : Int) := by unfold wrap64; omega
    have hw5 : (4 * (ll : Int)).toNat = 4 * ll := by omega
    have hw6 : 4 * (ll : Int) ≤ (L.length : Int) := by omega
    have hw7 : 0 ≤ 4 * (ll : Int) := by omega
    have hWB : Below W.heap.size W W.drew := below_drawn (w1 := W.drew) (n := 1) rfl
    have hwr : W.heap.size ≤ W.heap.size := Nat.le_refl _
    have k0w := k0
    have k0 : W.drew.cell? _ = _ := k0
    by_cases hcz : c = 4 * ll
    · rw [if_pos hcz] at hdr
      have hz' : L.length - 4 * ll = 0 := by omega
      have hdr : Rd W.drew (some ad) body := hdr
      have cl := fun wx (h : Rd wx (some ad) body) => clone ad 0 body wx h (by rw [hq]; omega)
      rw [hq, hz'] at cl
      have HQ := Lib.hid hq
      clear hq
      subst hcz
      refine start_ (n := 13) (S := fun w' => w'.cell? ad3 = some (.int .u32 (nth l 0))) (ds := []) #[false, false, false, false, false, false, false, false, false, false, false, false, false] (by kernel_rfl) rfl rfl (k0) (fun hHeld => ?_)
      refine pure_ (i := 0) (N := some 28) (v := ?_) (a' := ?_) #[true, false, false, false, false, false, false, false, false, false, false, false, false] rfl rfl (by kernel_rfl) (fun _ _ _ h => h) (Or.inl ⟨by rfl, ?_⟩) ?_ ?_
      rotate_left
      · intro w'
        go_simp
        with_reducible rfl
      rotate_left
      · simp only [Act.put, List.setIfInBounds_toArray, List.set_cons_zero, List.set_cons_succ, i64_w, i32_w]
        rfl
      refine pure_ (i := 1) (N := some 29) (v := ?_) (a' := ?_) #[true, true, false, false, false, false, false, false, false, false, false, false, false] rfl rfl (by kernel_rfl) (fun _ _ _ h => h) (Or.inl ⟨by rfl, ?_⟩) ?_ ?_
      rotate_left
      · intro w'
        go_simp
        with_reducible rfl
      rotate_left
      · simp only [Act.put, List.setIfInBounds_toArray, List.set_cons_zero, List.set_cons_succ, i64_w, i32_w]
        rfl
      refine pure_ (i := 3) (N := some 31) (v := ?_) (a' := ?_) #[true, true, false, true, false, false, false, false, false, false, false, false, false] rfl rfl (by kernel_rfl) (fun _ _ _ h => h) (Or.inl ⟨by rfl, ?_⟩) ?_ ?_
      rotate_left
      · intro w'
        go_simp
        with_reducible rfl
      rotate_left
      · simp only [Act.put, List.setIfInBounds_toArray, List.set_cons_zero, List.set_cons_succ, i64_w, i32_w]
        rfl
      refine pure_ (i := 4) (N := some 32) (v := ?_) (a' := ?_) #[true, true, false, true, true, false, false, false, false, false, false, false, false] rfl rfl (by kernel_rfl) (fun _ _ _ h => h) (Or.inl ⟨by rfl, ?_⟩) ?_ ?_
      rotate_left
      · intro w'
        go_simp
        with_reducible rfl
      rotate_left
      · simp only [Act.put, List.setIfInBounds_toArray, List.set_cons_zero, List.set_cons_succ, i64_w, i32_w]
        rfl
      refine pure_ (i := 5) (N := some 33) (v := ?_) (a' := ?_) #[true, true, false, true, true, true, false, false, false, false, false, false, false] rfl rfl (by kernel_rfl) (fun _ _ _ h => h) (Or.inl ⟨by rfl, ?_⟩) ?_ ?_
      rotate_left
      · intro w'
        go_simp
        with_reducible rfl
      rotate_left
      · simp only [Act.put, List.setIfInBounds_toArray, List.set_cons_zero, List.set_cons_succ, i64_w, i32_w]
        rfl
      refine pure_ (i := 6) (N := some 34) (v := ?_) (a' := ?_) #[true, true, false, true, true, true, true, false, false, false, false, false, false] rfl rfl (by kernel_rfl) (fun _ _ _ h => h) (Or.inl ⟨by rfl, ?_⟩) ?_ ?_
      rotate_left
      · intro w'
        go_simp
        with_reducible rfl
      rotate_left
      · simp only [Act.put, List.setIfInBounds_toArray, List.set_cons_zero, List.set_cons_succ, i64_w, i32_w]
        rfl
      refine pure_ (i := 7) (N := some 35) (v := ?_) (a' := ?_) #[true, true, false, true, true, true, true, true, false, false, false, false, false] rfl rfl (by kernel_rfl) (fun _ _ _ h => h) (Or.inl ⟨by rfl, ?_⟩) ?_ ?_
      rotate_left
      · intro w'
        go_simp
        with_reducible rfl
      rotate_left
      · simp only [Act.put, List.setIfInBounds_toArray, List.set_cons_zero, List.set_cons_succ, i64_w, i32_w]
        rfl
      refine pure_ (i := 8) (N := some 36) (v := ?_) (a' := ?_) #[true, true, false, true, true, true, true, true, true, false, false, false, false] rfl rfl (by kernel_rfl) (fun _ _ _ h => h) (Or.inl ⟨by rfl, ?_⟩) ?_ ?_
      rotate_left
      · intro w'
        go_simp
        with_reducible rfl
      rotate_left
      · simp only [Act.put, List.setIfInBounds_toArray, List.set_cons_zero, List.set_cons_succ, i64_w, i32_w]
        rfl
      refine take_ (i := 2) (N := some 30) (v := ?_) (a' := ?_) #[true, true, true, true, true, true, true, true, true, false, false, false, false] rfl rfl (by kernel_rfl) (fun _ _ _ h => h) (Or.inl ⟨by rfl, ?_⟩) hHeld ?_ ?_
      rotate_left
      · intro w' s0
        go_simp
        with_reducible rfl
      rotate_left
      · simp only [Act.put, List.setIfInBounds_toArray, List.set_cons_zero, List.set_cons_succ, i64_w, i32_w]
        rfl
      refine join_ (σ := Option Addr × Nat × Nat) 1 #[true, true, true, true, true, true, true, true, true, true, true, true, false] (fun s' => [(37, .slice s'.1 body.length s'.2.1), (38, .agg #[.int .u32 (nth l 0), .int .u32 how, .int .u32 0, .int .u32 0, .slice s'.1 body.length s'.2.1]), (8, .pointer (some ⟨s'.2.2, 0, none⟩))]) (fun s' w' => w'.cell? ad3 = some (.int .u32 (nth l 0)) ∧ Below W.heap.size W w' ∧ Own w' w.heap.size (.slice s'.1 body.length s'.2.1) body ∧ Blk w' s'.2.2 26 #[.int .u32 0, .int .u32 0, .int .u32 0, .int .u32 0, .slice none 0 0] ∧ W.heap.size ≤ s'.2.2 ∧ some s'.2.2 ≠ (Value.slice s'.1 body.length s'.2.1).ownBlock) ?_ ?_
      rotate_left
      · intro hCont
        refine two_ (i := 9) (j := 11) (Ni := some 37) (Nj := some 8) #[true, true, true, true, true, true, true, true, true, true, false, false, false] #[true, true, true, true, true, true, true, true, true, false, false, true, false] rfl rfl rfl rfl (by kernel_rfl) (by decide) (by decide) (fun K hK => ?_) (fun K hK => ?_)
        · skip
          refine goes_ Tryd.func57 (by kernel_rfl) rfl #[.slice (some ad) 0 0] (by rfl) rfl rfl (by simp only [List.map_toArray, List.map_cons, List.map_nil]; rfl) ?_
          with_reducible refine (cl _ hdr).mono ?_
          rintro e w4 ⟨vb, rfl, ob, hx4⟩
          refine ⟨_, rfl, ?_⟩
          have k0 := cell_later hx4 k0
          have hwo := Nat.le_trans hwb hWB.size
          have hWB := below_then hWB hx4
          obtain ⟨Ab, cb, rfl, _, _, _⟩ := ob.form
          have ob := ob.lower hwo
          refine hK.out _ _ (k0) (fun hHeld => ?_)
          clear hK K
          refine norm_ (a' := ?_) ?_ ?_
          rotate_left
          · show Act.put _ (some 37) _ = _
            simp only [Act.put, List.setIfInBounds_toArray, List.set_cons_zero, List.set_cons_succ, i64_w, i32_w]
            rfl
          refine pure_ (i := 10) (N := some 38) (v := ?_) (a' := ?_) #[true, true, true, true, true, true, true, true, true, true, true, false, false] rfl rfl (by kernel_rfl) (fun _ _ _ h => h) (Or.inl ⟨by rfl, ?_⟩) ?_ ?_
          rotate_left
          · intro w'
            go_simp
            with_reducible rfl
          rotate_left
          · simp only [Act.put, List.setIfInBounds_toArray, List.set_cons_zero, List.set_cons_succ, i64_w, i32_w]
            rfl
          refine one_ (i := 11) (N := some 8) #[true, true, true, true, true, true, true, true, true, true, true, true, false] rfl rfl (by kernel_rfl) (by decide) (fun K hK => ?_)
          refine value_ (w1 := ?_) (v := ?_) (by rfl) rfl ?_ ?_
          rotate_left 2
          · go_simp
            constructor
            · rfl
            · rfl
          have br := Blk.new w4 26 #[.int .u32 0, .int .u32 0, .int .u32 0, .int .u32 0, .slice none 0 0]
          have k0 := cell_old k0 (.cells #[.int .u32 0, .int .u32 0, .int .u32 0, .int .u32 0, .slice none 0 0] 26)
          have hWB := hWB.alloc hWB.size (.cells #[.int .u32 0, .int .u32 0, .int .u32 0, .int .u32 0, .slice none 0 0] 26)
          have hwr : W.heap.size ≤ w4.heap.size := hx4.size
          have hbr : some w4.heap.size ≠ (Value.slice Ab body.length cb).ownBlock := fun e => by (have := (ob.2.lt _ e.symm).2; omega)
          have ob := ob.alloc (.cells #[.int .u32 0, .int .u32 0, .int .u32 0, .int .u32 0, .slice none 0 0] 26)
          refine hK.out _ _ (k0) (fun hHeld => ?_)
          clear hK K
          refine norm_ (a' := ?_) ?_ ?_
          rotate_left
          · show Act.put _ (some 8) _ = _
            simp only [Act.put, List.setIfInBounds_toArray, List.set_cons_zero, List.set_cons_succ, i64_w, i32_w]
            rfl
          exact norm_ (by simp only [putAll, Act.put, List.setIfInBounds_toArray, List.set_cons_zero, List.set_cons_succ]) (hCont (Ab, cb, w4.heap.size) _ ⟨k0, hWB, ob, br, hwr, hbr⟩)
        · skip
          refine value_ (w1 := ?_) (v := ?_) (by rfl) rfl ?_ ?_
          rotate_left 2
          · go_simp
            constructor
            · rfl
            · rfl
          have br := Blk.new W.drew 26 #[.int .u32 0, .int .u32 0, .int .u32 0, .int .u32 0, .slice none 0 0]
          have k0 := cell_old k0 (.cells #[.int .u32 0, .int .u32 0, .int .u32 0, .int .u32 0, .slice none 0 0] 26)
          have hWB := hWB.alloc hWB.size (.cells #[.int .u32 0, .int .u32 0, .int .u32 0, .int .u32 0, .slice none 0 0] 26)
          have hdr : Rd (W.alloc (.cells #[.int .u32 0, .int .u32 0, .int .u32 0, .int .u32 0, .slice none 0 0] 26)).drew (some ad) body := hdr.below ((Below.refl _ W.drew).alloc (Nat.le_refl _) (.cells #[.int .u32 0, .int .u32 0, .int .u32 0, .int .u32 0, .slice none 0 0] 26))
          refine hK.out _ _ (k0) (fun hHeld => ?_)
          clear hK K
          refine norm_ (a' := ?_) ?_ ?_
          rotate_left
          · show Act.put _ (some 8) _ = _
            simp only [Act.put, List.setIfInBounds_toArray, List.set_cons_zero, List.set_cons_succ, i64_w, i32_w]
            rfl
          refine one_ (i := 9) (N := some 37) #[true, true, true, true, true, true, true, true, true, true, false, true, false] rfl rfl (by kernel_rfl) (by decide) (fun K hK => ?_)
          refine goes_ Tryd.func57 (by kernel_rfl) rfl #[.slice (some ad) 0 0] (by rfl) rfl rfl (by simp only [List.map_toArray, List.map_cons, List.map_nil]; rfl) ?_
          with_reducible refine (cl _ hdr).mono ?_
          rintro e w4 ⟨vb, rfl, ob, hx4⟩
          refine ⟨_, rfl, ?_⟩
          have k0 := cell_later hx4 k0
          have hwo := Nat.le_trans hwb hWB.size
          have hWB := below_then hWB hx4
          obtain ⟨Ab, cb, rfl, _, _, _⟩ := ob.form
          have br := br.below hx4
          have hbr : some W.heap.size ≠ (Value.slice Ab body.length cb).ownBlock := fun e => by (have h1 := (ob.2.lt _ e.symm).1; have h2 : (W.alloc (.cells #[.int .u32 0, .int .u32 0, .int .u32 0, .int .u32 0, .slice none 0 0] 26)).drew.heap.size = W.heap.size + 1 := (by show (W.alloc _).heap.size = _; simp); omega)
          have ob := ob.lower hwo
          refine hK.out _ _ (k0) (fun hHeld => ?_)
          clear hK K
          refine norm_ (a' := ?_) ?_ ?_
          rotate_left
          · show Act.put _ (some 37) _ = _
            simp only [Act.put, List.setIfInBounds_toArray, List.set_cons_zero, List.set_cons_succ, i64_w, i32_w]
            rfl
          refine pure_ (i := 10) (N := some 38) (v := ?_) (a' := ?_) #[true, true, true, true, true, true, true, true, true, true, true, true, false] rfl rfl (by kernel_rfl) (fun _ _ _ h => h) (Or.inl ⟨by rfl, ?_⟩) ?_ ?_
          rotate_left
          · intro w'
            go_simp
            with_reducible rfl
          rotate_left
          · simp only [Act.put, List.setIfInBounds_toArray, List.set_cons_zero, List.set_cons_succ, i64_w, i32_w]
            rfl
          exact norm_ (by simp only [putAll, Act.put, List.setIfInBounds_toArray, List.set_cons_zero, List.set_cons_succ]) (hCont (Ab, cb, W.heap.size) _ ⟨k0, hWB, ob, br, hwr, hbr⟩)
      clear hWB
      rintro ⟨Ab, cb, pr⟩ w' ⟨k0, hWB, ob, br, hpr, hbr⟩
      have hHeld : w'.cell? ad3 = some (.int .u32 (nth l 0)) := k0
      refine norm_ (a' := ?_) ?_ ?_
      rotate_left
      · simp only [putAll, Act.put, List.setIfInBounds_toArray, List.set_cons_zero, List.set_cons_succ]
        rfl
      refine one_ (i := 12) (N := none) #[true, true, true, true, true, true, true, true, true, true, true, true, true] rfl rfl (by kernel_rfl) (by decide) (fun K hK => ?_)
      have c0 := br.cell 0 (v := .int .u32 0) rfl
      have c1 := br.cell 1 (v := .int .u32 0) rfl
      have c2 := br.cell 2 (v := .int .u32 0) rfl
      have c3 := br.cell 3 (v := .int .u32 0) rfl
      have c4 := br.cell 4 (v := .slice none 0 0) rfl
      have f0 := br.frozen 0
      have f1 := br.frozen 1
      have f2 := br.frozen 2
      have f3 := br.frozen 3
      have f4 := br.frozen 4
      refine skip_ (w1 := ?_) (by rfl) rfl ?_ ?_
      rotate_left
      · go_simp
        rfl
      have br := (((((br.set_ 0 (.int .u32 (nth l 0))).set_ 1 (.int .u32 how)).set_ 2 (.int .u32 0)).set_ 3 (.int .u32 0)).set_ 4 (.slice Ab body.length cb))
      have hWB := (((((hWB.setCell (p := ⟨pr, 0, none⟩) hpr (.int .u32 (nth l 0))).setCell (p := ⟨pr, 1, none⟩) hpr (.int .u32 how)).setCell (p := ⟨pr, 2, none⟩) hpr (.int .u32 0)).setCell (p := ⟨pr, 3, none⟩) hpr (.int .u32 0)).setCell (p := ⟨pr, 4, none⟩) hpr (.slice Ab body.length cb))
      have ob := (((((ob.setAny pr 0 (.int .u32 (nth l 0)) hbr).setAny pr 1 (.int .u32 how) hbr).setAny pr 2 (.int .u32 0) hbr).setAny pr 3 (.int .u32 0) hbr).setAny pr 4 (.slice Ab body.length cb) hbr)
      have k0 := cell_later hWB k0w
      refine hK.out _ _ (k0) (fun hHeld => ?_)
      clear hK K
      refine done_ (by kernel_rfl) ?_
      go_wp2_with fail
      go_meet
      exact ⟨pr, Ab, cb, rfl, br, ob, hWB, hpr⟩
    · rw [if_neg hcz] at hdr
      have hdr : Rd W.drew (some (ad.add (4 * ll))) body := hdr
      have cl := fun wx (h : Rd wx (some (ad.add (4 * ll))) body) => clone (ad.add (4 * ll)) (c - 4 * ll) body wx h (by rw [hq]; omega)
      rw [hq] at cl
      have HQ := Lib.hid hq
      clear hq
      refine start_ (n := 13) (S := fun w' => w'.cell? ad3 = some (.int .u32 (nth l 0))) (ds := []) #[false, false, false, false, false, false, false, false, false, false, false, false, false] (by kernel_rfl) rfl rfl (k0) (fun hHeld => ?_)
      refine pure_ (i := 0) (N := some 28) (v := ?_) (a' := ?_) #[true, false, false, false, false, false, false, false, false, false, false, false, false] rfl rfl (by kernel_rfl) (fun _ _ _ h => h) (Or.inl ⟨by rfl, ?_⟩) ?_ ?_
      rotate_left
      · intro w'
        go_simp
        with_reducible rfl
      rotate_left
      · simp only [Act.put, List.setIfInBounds_toArray, List.set_cons_zero, List.set_cons_succ, i64_w, i32_w]
        rfl
      refine pure_ (i := 1) (N := some 29) (v := ?_) (a' := ?_) #[true, true, false, false, false, false, false, false, false, false, false, false, false] rfl rfl (by kernel_rfl) (fun _ _ _ h => h) (Or.inl ⟨by rfl, ?_⟩) ?_ ?_
      rotate_left
      · intro w'
        go_simp
        with_reducible rfl
      rotate_left
      · simp only [Act.put, List.setIfInBounds_toArray, List.set_cons_zero, List.set_cons_succ, i64_w, i32_w]
        rfl
      refine pure_ (i := 3) (N := some 31) (v := ?_) (a' := ?_) #[true, true, false, true, false, false, false, false, false, false, false, false, false] rfl rfl (by kernel_rfl) (fun _ _ _ h => h) (Or.inl ⟨by rfl, ?_⟩) ?_ ?_
      rotate_left
      · intro w'
        go_simp
        with_reducible rfl
      rotate_left
      · simp only [Act.put, List.setIfInBounds_toArray, List.set_cons_zero, List.set_cons_succ, i64_w, i32_w]
        rfl
      refine pure_ (i := 4) (N := some 32) (v := ?_) (a' := ?_) #[true, true, false, true, true, false, false, false, false, false, false, false, false] rfl rfl (by kernel_rfl) (fun _ _ _ h => h) (Or.inl ⟨by rfl, ?_⟩) ?_ ?_
      rotate_left
      · intro w'
        go_simp
        with_reducible rfl
      rotate_left
      · simp only [Act.put, List.setIfInBounds_toArray, List.set_cons_zero, List.set_cons_succ, i64_w, i32_w]
        rfl
      refine pure_ (i := 5) (N := some 33) (v := ?_) (a' := ?_) #[true, true, false, true, true, true, false, false, false, false, false, false, false] rfl rfl (by kernel_rfl) (fun _ _ _ h => h) (Or.inl ⟨by rfl, ?_⟩) ?_ ?_
      rotate_left
      · intro w'
        go_simp
        with_reducible rfl
      rotate_left
      · simp only [Act.put, List.setIfInBounds_toArray, List.set_cons_zero, List.set_cons_succ, i64_w, i32_w]
        rfl
      refine pure_ (i := 6) (N := some 34) (v := ?_) (a' := ?_) #[true, true, false, true, true, true, true, false, false, false, false, false, false] rfl rfl (by kernel_rfl) (fun _ _ _ h => h) (Or.inl ⟨by rfl, ?_⟩) ?_ ?_
      rotate_left
      · intro w'
        go_simp
        with_reducible rfl
      rotate_left
      · simp only [Act.put, List.setIfInBounds_toArray, List.set_cons_zero, List.set_cons_succ, i64_w, i32_w]
        rfl
      refine pure_ (i := 7) (N := some 35) (v := ?_) (a' := ?_) #[true, true, false, true, true, true, true, true, false, false, false, false, false] rfl rfl (by kernel_rfl) (fun _ _ _ h => h) (Or.inl ⟨by rfl, ?_⟩) ?_ ?_
      rotate_left
      · intro w'
        go_simp
        with_reducible rfl
      rotate_left
      · simp only [Act.put, List.setIfInBounds_toArray, List.set_cons_zero, List.set_cons_succ, i64_w, i32_w]
        rfl
      refine pure_ (i := 8) (N := some 36) (v := ?_) (a' := ?_) #[true, true, false, true, true, true, true, true, true, false, false, false, false] rfl rfl (by kernel_rfl) (fun _ _ _ h => h) (Or.inl ⟨by rfl, ?_⟩) ?_ ?_
      rotate_left
      · intro w'
        go_simp
        with_reducible rfl
      rotate_left
      · simp only [Act.put, List.setIfInBounds_toArray, List.set_cons_zero, List.set_cons_succ, i64_w, i32_w]
        rfl
      refine take_ (i := 2) (N := some 30) (v := ?_) (a' := ?_) #[true, true, true, true, true, true, true, true, true, false, false, false, false] rfl rfl (by kernel_rfl) (fun _ _ _ h => h) (Or.inl ⟨by rfl, ?_⟩) hHeld ?_ ?_
      rotate_left
      · intro w' s0
        go_simp
        with_reducible rfl
      rotate_left
      · simp only [Act.put, List.setIfInBounds_toArray, List.set_cons_zero, List.set_cons_succ, i64_w, i32_w]
        rfl
      refine join_ (σ := Option Addr × Nat × Nat) 1 #[true, true, true, true, true, true, true, true, true, true, true, true, false] (fun s' => [(37, .slice s'.1 body.length s'.2.1), (38, .agg #[.int .u32 (nth l 0), .int .u32 how, .int .u32 0, .int .u32 0, .slice s'.1 body.length s'.2.1]), (8, .pointer (some ⟨s'.2.2, 0, none⟩))]) (fun s' w' => w'.cell? ad3 = some (.int .u32 (nth l 0)) ∧ Below W.heap.size W w' ∧ Own w' w.heap.size (.slice s'.1 body.length s'.2.1) body ∧ Blk w' s'.2.2 26 #[.int .u32 0, .int .u32 0, .int .u32 0, .int .u32 0, .slice none 0 0] ∧ W.heap.size ≤ s'.2.2 ∧ some s'.2.2 ≠ (Value.slice s'.1 body.length s'.2.1).ownBlock) ?_ ?_
      rotate_left
      · intro hCont
        refine two_ (i := 9) (j := 11) (Ni := some 37) (Nj := some 8) #[true, true, true, true, true, true, true, true, true, true, false, false, false] #[true, true, true, true, true, true, true, true, true, false, false, true, false] rfl rfl rfl rfl (by kernel_rfl) (by decide) (by decide) (fun K hK => ?_) (fun K hK => ?_)
        · skip
          refine goes_ Tryd.func57 (by kernel_rfl) rfl #[.slice (some (ad.add (4 * ll))) (L.length - 4 * ll) (c - 4 * ll)] (by rfl) rfl rfl (by simp only [List.map_toArray, List.map_cons, List.map_nil]; rfl) ?_
          with_reducible refine (cl _ hdr).mono ?_
          rintro e w4 ⟨vb, rfl, ob, hx4⟩
          refine ⟨_, rfl, ?_⟩
          have k0 := cell_later hx4 k0
          have hwo := Nat.le_trans hwb hWB.size
          have hWB := below_then hWB hx4
          obtain ⟨Ab, cb, rfl, _, _, _⟩ := ob.form
          have ob := ob.lower hwo
          refine hK.out _ _ (k0) (fun hHeld => ?_)
          clear hK K
          refine norm_ (a' := ?_) ?_ ?_
          rotate_left
          · show Act.put _ (some 37) _ = _
            simp only [Act.put, List.setIfInBounds_toArray, List.set_cons_zero, List.set_cons_succ, i64_w, i32_w]
            rfl
          refine pure_ (i := 10) (N := some 38) (v := ?_) (a' := ?_) #[true, true, true, true, true, true, true, true, true, true, true, false, false] rfl rfl (by kernel_rfl) (fun _ _ _ h => h) (Or.inl ⟨by rfl, ?_⟩) ?_ ?_
          rotate_left
          · intro w'
            go_simp
            with_reducible rfl
          rotate_left
          · simp only [Act.put, List.setIfInBounds_toArray, List.set_cons_zero, List.set_cons_succ, i64_w, i32_w]
            rfl
          refine one_ (i := 11) (N := some 8) #[true, true, true, true, true, true, true, true, true, true, true, true, false] rfl rfl (by kernel_rfl) (by decide) (fun K hK => ?_)
          refine value_ (w1 := ?_) (v := ?_) (by rfl) rfl ?_ ?_
          rotate_left 2
          · go_simp
            constructor
            · rfl
            · rfl
          have br := Blk.new w4 26 #[.int .u32 0, .int .u32 0, .int .u32 0, .int .u32 0, .slice none 0 0]
          have k0 := cell_old k0 (.cells #[.int .u32 0, .int .u32 0, .int .u32 0, .int .u32 0, .slice none 0 0] 26)
          have hWB := hWB.alloc hWB.size (.cells #[.int .u32 0, .int .u32 0, .int .u32 0, .int .u32 0, .slice none 0 0] 26)
          have hwr : W.heap.size ≤ w4.heap.size := hx4.size
          have hbr : some w4.heap.size ≠ (Value.slice Ab body.length cb).ownBlock := fun e => by (have := (ob.2.lt _ e.symm).2; omega)
          have ob := ob.alloc (.cells #[.int .u32 0, .int .u32 0, .int .u32 0, .int .u32 0, .slice none 0 0] 26)
          refine hK.out _ _ (k0) (fun hHeld => ?_)
          clear hK K
          refine norm_ (a' := ?_) ?_ ?_
          rotate_left
          · show Act.put _ (some 8) _ = _
            simp only [Act.put, List.setIfInBounds_toArray, List.set_cons_zero, List.set_cons_succ, i64_w, i32_w]
            rfl
          exact norm_ (by simp only [putAll, Act.put, List.setIfInBounds_toArray, List.set_cons_zero, List.set_cons_succ]) (hCont (Ab, cb, w4.heap.size) _ ⟨k0, hWB, ob, br, hwr, hbr⟩)
        · skip
          refine value_ (w1 := ?_) (v := ?_) (by rfl) rfl ?_ ?_
          rotate_left 2
          · go_simp
            constructor
            · rfl
            · rfl
          have br := Blk.new W.drew 26 #[.int .u32 0, .int .u32 0, .int .u32 0, .int .u32 0, .slice none 0 0]
          have k0 := cell_old k0 (.cells #[.int .u32 0, .int .u32 0, .int .u32 0, .int .u32 0, .slice none 0 0] 26)
          have hWB := hWB.alloc hWB.size (.cells #[.int .u32 0, .int .u32 0, .int .u32 0, .int .u32 0, .slice none 0 0] 26)
          have hdr : Rd (W.alloc (.cells #[.int .u32 0, .int .u32 0, .int .u32 0, .int .u32 0, .slice none 0 0] 26)).drew (some (ad.add (4 * ll))) body := hdr.below ((Below.refl _ W.drew).alloc (Nat.le_refl _) (.cells #[.int .u32 0, .int .u32 0, .int .u32 0, .int .u32 0, .slice none 0 0] 26))
          refine hK.out _ _ (k0) (fun hHeld => ?_)
          clear hK K
          refine norm_ (a' := ?_) ?_ ?_
          rotate_left
          · show Act.put _ (some 8) _ = _
            simp only [Act.put, List.setIfInBounds_toArray, List.set_cons_zero, List.set_cons_succ, i64_w, i32_w]
            rfl
          refine one_ (i := 9) (N := some 37) #[true, true, true, true, true, true, true, true, true, true, false, true, false] rfl rfl (by kernel_rfl) (by decide) (fun K hK => ?_)
          refine goes_ Tryd.func57 (by kernel_rfl) rfl #[.slice (some (ad.add (4 * ll))) (L.length - 4 * ll) (c - 4 * ll)] (by rfl) rfl rfl (by simp only [List.map_toArray, List.map_cons, List.map_nil]; rfl) ?_
          with_reducible refine (cl _ hdr).mono ?_
          rintro e w4 ⟨vb, rfl, ob, hx4⟩
          refine ⟨_, rfl, ?_⟩
          have k0 := cell_later hx4 k0
          have hwo := Nat.le_trans hwb hWB.size
          have hWB := below_then hWB hx4
          obtain ⟨Ab, cb, rfl, _, _, _⟩ := ob.form
          have br := br.below hx4
          have hbr : some W.heap.size ≠ (Value.slice Ab body.length cb).ownBlock := fun e => by (have h1 := (ob.2.lt _ e.symm).1; have h2 : (W.alloc (.cells #[.int .u32 0, .int .u32 0, .int .u32 0, .int .u32 0, .slice none 0 0] 26)).drew.heap.size = W.heap.size + 1 := (by show (W.alloc _).heap.size = _; simp); omega)
          have ob := ob.lower hwo
          refine hK.out _ _ (k0) (fun hHeld => ?_)
          clear hK K
          refine norm_ (a' := ?_) ?_ ?_
          rotate_left
          · show Act.put _ (some 37) _ = _
            simp only [Act.put, List.setIfInBounds_toArray, List.set_cons_zero, List.set_cons_succ, i64_w, i32_w]
            rfl
          refine pure_ (i := 10) (N := some 38) (v := ?_) (a' := ?_) #[true, true, true, true, true, true, true, true, true, true, true, true, false] rfl rfl (by kernel_rfl) (fun _ _ _ h => h) (Or.inl ⟨by rfl, ?_⟩) ?_ ?_
          rotate_left
          · intro w'
            go_simp
            with_reducible rfl
          rotate_left
          · simp only [Act.put, List.setIfInBounds_toArray, List.set_cons_zero, List.set_cons_succ, i64_w, i32_w]
            rfl
          exact norm_ (by simp only [putAll, Act.put, List.setIfInBounds_toArray, List.set_cons_zero, List.set_cons_succ]) (hCont (Ab, cb, W.heap.size) _ ⟨k0, hWB, ob, br, hwr, hbr⟩)
      clear hWB
      rintro ⟨Ab, cb, pr⟩ w' ⟨k0, hWB, ob, br, hpr, hbr⟩
      have hHeld : w'.cell? ad3 = some (.int .u32 (nth l 0)) := k0
      refine norm_ (a' := ?_) ?_ ?_
      rotate_left
      · simp only [putAll, Act.put, List.setIfInBounds_toArray, List.set_cons_zero, List.set_cons_succ]
        rfl
      refine one_ (i := 12) (N := none) #[true, true, true, true, true, true, true, true, true, true, true, true, true] rfl rfl (by kernel_rfl) (by decide) (fun K hK => ?_)
      have c0 := br.cell 0 (v := .int .u32 0) rfl
      have c1 := br.cell 1 (v := .int .u32 0) rfl
      have c2 := br.cell 2 (v := .int .u32 0) rfl
      have c3 := br.cell 3 (v := .int .u32 0) rfl
      have c4 := br.cell 4 (v := .slice none 0 0) rfl
      have f0 := br.frozen 0
      have f1 := br.frozen 1
      have f2 := br.frozen 2
      have f3 := br.frozen 3
      have f4 := br.frozen 4
      refine skip_ (w1 := ?_) (by rfl) rfl ?_ ?_
      rotate_left
      · go_simp
        rfl
      have br := (((((br.set_ 0 (.int .u32 (nth l 0))).set_ 1 (.int .u32 how)).set_ 2 (.int .u32 0)).set_ 3 (.int .u32 0)).set_ 4 (.slice Ab body.length cb))
      have hWB := (((((hWB.setCell (p := ⟨pr, 0, none⟩) hpr (.int .u32 (nth l 0))).setCell (p := ⟨pr, 1, none⟩) hpr (.int .u32 how)).setCell (p := ⟨pr, 2, none⟩) hpr (.int .u32 0)).setCell (p := ⟨pr, 3, none⟩) hpr (.int .u32 0)).setCell (p := ⟨pr, 4, none⟩) hpr (.slice Ab body.length cb))
      have ob := (((((ob.setAny pr 0 (.int .u32 (nth l 0)) hbr).setAny pr 1 (.int .u32 how) hbr).setAny pr 2 (.int .u32 0) hbr).setAny pr 3 (.int .u32 0) hbr).setAny pr 4 (.slice Ab body.length cb) hbr)
      have k0 := cell_later hWB k0w
      refine hK.out _ _ (k0) (fun hHeld => ?_)
      clear hK K
      refine done_ (by kernel_rfl) ?_
      go_wp2_with fail
      go_meet
      exact ⟨pr, Ab, cb, rfl, br, ob, hWB, hpr⟩
  case rest =>
    obtain ⟨pr, Ab, cb, rfl, hbr, hob, hWx, hpr⟩ := hcut
    have hb2 := H2.out.below hWx
    have hbx := HX.out.below hWx
    have hBx := below_then HB.out hWx
    have hox := HO.out.below hWx
    have r4 := hbr.cell 4 (v := .slice Ab body.length cb) rfl
    have x2 := hbx.cell 2 (v := .bool (decide (how = 0))) rfl
    have hlt2 : w.heap.size < pr := Nat.lt_of_lt_of_le hpx (Nat.le_trans (Nat.le_of_lt hpW) hpr)
    have hne2 : w.heap.size ≠ pr := Nat.ne_of_lt hlt2
    have hxr : px ≠ pr := Nat.ne_of_lt (Nat.lt_of_lt_of_le hpW hpr)
    have z0 := hb2.cell 0 (v := .int .u32 0) rfl
    have z1 := hb2.cell 1 (v := .int .u32 0) rfl
    have z2 := hb2.cell 2 (v := .int .u32 0) rfl
    have z3 := hb2.cell 3 (v := .int .u32 0) rfl
    have z4 := hb2.cell 4 (v := .slice none 0 0) rfl
    have y0 := hb2.frozen 0
    have y1 := hb2.frozen 1
    have y2 := hb2.frozen 2
    have y3 := hb2.frozen 3
    have y4 := hb2.frozen 4
    have HBO2 := Lib.hid (show body = L.drop (4 * l.length) by rw [HBO.out, HLE.out])
    generalize wc = wo at *
    obtain ⟨T, hT, hT2⟩ : ∃ T : Nat, toldOf how = T ∧ T ≤ 2 := ⟨(toldOf how).toNat, by have := (row_small how).2; omega, by have := (row_small how).2; omega⟩
    obtain ⟨fn, hfn, hfn4⟩ : ∃ fn : Nat, rowN how = fn ∧ fn ≤ 4 := ⟨_, rfl, rowN_le how⟩
    have hfx : (fixedOf how).length = fn := by rw [← hfn]; unfold rowN; rw [if_pos HK.out]
    have hlT : ll = 2 + fn + T := by have := HL.out; rw [hfx, hT, ← HLE.out] at this; omega
    have x0 := hbx.cell 0 (v := .slice (rowP g how) (rowN how) (rowN how)) rfl
    have x1 := hbx.cell 1 (v := .int .i64 (toldOf how)) rfl
    rw [hfn] at x0 hbx
    rw [hT] at x1 hbx
    have HT := Lib.hid hT
    have HF := Lib.hid hfx
    have HLT := Lib.hid hlT
    have HQ := Lib.hid hq
    have HXB := Lib.hid hbx
    clear hT hfn hfx hlT hq hbx
    go_upto_region 8 with fail
    go_cut [47] (fun t wx => t = .bool (decide (how ≠ 0 ∧ 0 < body.length)) ∧ wx = wo)
    case first =>
      by_cases h0 : how = 0
      · have HD := Lib.hid (decide_eq_false (p := how ≠ 0 ∧ 0 < body.length) (fun h => h.1 h0))
        rw [decide_eq_true h0] at x2
        clear h0
        go_wp2_with fail
        go_meet
        exact ⟨by rw [HD.out], rfl⟩
      · rw [decide_eq_false h0] at x2
        by_cases h1 : 0 < body.length
        · have HD := Lib.hid (decide_eq_true (p := how ≠ 0 ∧ 0 < body.length) ⟨h0, h1⟩)
          clear h0
          go_wp2_with fail
          go_meet
          exact ⟨by rw [HD.out], rfl⟩
        · have HD := Lib.hid (decide_eq_false (p := how ≠ 0 ∧ 0 < body.length) (fun h => h1 h.2))
          clear h0
          go_wp2_with fail
          go_meet
          exact ⟨by rw [HD.out], rfl⟩
    case rest =>
    obtain ⟨rfl, rfl⟩ := hcut
    generalize wc = wo at *
    by_cases hbad : how ≠ 0 ∧ 0 < body.length
    · have HBAD := Lib.hid hbad
      rw [decide_eq_true hbad]
      clear hbad
      go_wp2
      have hfin := ((((hb2.set_ 0 (.int .u32 0)).set_ 1 (.int .u32 0)).set_ 2 (.int .u32 0)).set_ 3 (.int .u32 0)).set_ 4 (.slice none 0 0)
      have q0 := hfin.cell 0 (v := .int .u32 0) rfl
      have q1 := hfin.cell 1 (v := .int .u32 0) rfl
      have q2 := hfin.cell 2 (v := .int .u32 0) rfl
      have q3 := hfin.cell 3 (v := .int .u32 0) rfl
      have q4 := hfin.cell 4 (v := .slice none 0 0) rfl
      have hBf := ((((hBx.setCell (p := ⟨w.heap.size, 0, none⟩) (Nat.le_refl _) (.int .u32 0)).setCell (p := ⟨w.heap.size, 1, none⟩) (Nat.le_refl _) (.int .u32 0)).setCell (p := ⟨w.heap.size, 2, none⟩) (Nat.le_refl _) (.int .u32 0)).setCell (p := ⟨w.heap.size, 3, none⟩) (Nat.le_refl _) (.int .u32 0)).setCell (p := ⟨w.heap.size, 4, none⟩) (Nat.le_refl _) (.slice none 0 0)
      exact bodyPost_ret (v := .tuple #[repZ, .int .i64 5]) (by simp [results, Tryd.f26, go_sem, q0, q1, q2, q3, q4, repZ]) rfl ⟨by rw [← HBO2.out]; exact GetsOk.bad HBAD.out rfl, hBf⟩
    · have HBAD := Lib.hid hbad
      rw [decide_eq_false hbad]
      clear hbad
      go_upto_region 10 with fail
      go_cut [54, 55, 56] (fun s n i wx => ∃ pb, s = .slice (some ⟨pb, 0, none⟩) T 2 ∧ n = .int .i64 T ∧ i = .int .i64 0 ∧ Blk wx pb 91 #[.pointer (some ⟨pr, 2, none⟩), .pointer (some ⟨pr, 3, none⟩)] ∧ Below wo.heap.size wo wx ∧ wo.heap.size ≤ pb)
      case first =>
        have x1' := cell_old x1 (.cells #[.pointer (some ⟨pr, 2, none⟩), .pointer (some ⟨pr, 3, none⟩)] 91)
        go_wp2_with fail
        go_meet
        exact ⟨_, rfl, rfl, rfl, Blk.new wo 91 #[.pointer (some ⟨pr, 2, none⟩), .pointer (some ⟨pr, 3, none⟩)], (Below.refl _ wo).alloc (Nat.le_refl _) _, Nat.le_refl _⟩
      case rest =>
        obtain ⟨pb, rfl, rfl, rfl, hpbk, hW10, hpb⟩ := hcut
        have hprW : pr < wo.heap.size := hbr.lt
        have hbr1 := hbr.below hW10
        have hxb1 := HXB.out.below hW10
        have hb21 := hb2.below hW10
        have hob1 := hob.below hW10
        have hbx1 := below_then hBx hW10
        have hox1 := hox.below hW10
        have hneo : some pr ≠ (Value.slice Ab body.length cb).ownBlock := hob.blk_ne hbr (by decide)
        clear hbr HXB hb2 hob hBx hox x0 x1 x2 r4 z0 z1 z2 z3 z4 y0 y1 y2 y3 y4
        have H1 := Lib.hid hbr1
        have H2 := Lib.hid hxb1
        have H3 := Lib.hid hb21
        have H4 := Lib.hid hob1
        have H5 := Lib.hid hbx1
        have H6 := Lib.hid hox1
        have H7 := Lib.hid hpbk
        clear hbr1 hxb1 hb21 hob1 hbx1 hox1 hpbk
        go_wp2_with fail
        go_loopg [56] T (fun k i wx => ∃ j : Nat, i = .int .i64 j ∧ k + j = T ∧ wc.grownBy wx (some pr) ∧ Blk wx pr 26 (loCells (nth l 0) how (nth l (2 + fn)) (nth l (2 + fn + 1)) (.slice Ab body.length cb) j))
        case atStart => exact ⟨0, rfl, by omega, World.grownBy.refl _ _, H1.out⟩
        case round =>
          obtain ⟨j, rfl, hkj, hgw, hbl⟩ := hrel
          have hpb8 : Blk wr pb 91 #[.pointer (some ⟨pr, 2, none⟩), .pointer (some ⟨pr, 3, none⟩)] := H7.out.grown hgw (by intro e; injection e with e; omega)
          by_cases hjT : j < T
          · have hjT' : (j : Int) < (T : Int) := by omega
            have hx8 := (H2.out.grown hgw (by intro e; injection e with e; exact hxr e)).cell 0 (v := .slice (rowP g how) fn fn) rfl
            have hc6 := H6.out.cells_at hgw (H6.out.not_blk H1.out (by decide))
            have hj : j = 0 ∨ j = 1 := by omega
            rcases hj with hj | hj
            · subst hj
              have pj : wr.cell? ⟨pb, 0, none⟩ = some (.pointer (some ⟨pr, 2, none⟩)) := (hpb8.cell 0 rfl)
              have lj := hc6 (2 + fn) (by have := HLT.out; have := HLE.out; omega)
              have fj := hbl.frozen 2
              have cj := hbl.cell 2 (v := .int .u32 0) rfl
              have hin : 2 + (fn : Int) < (ll : Int) := by have := HLT.out; omega
              have HB9 := Lib.hid hbl
              have HG9 := Lib.hid hgw
              have HK9 := Lib.hid hkj
              clear hbl hgw hkj hc6 hpb8
              go_wp2_with fail
              go_roundg (T - 1)
              case measure => have := HK9.out; omega
              case rel => exact ⟨1, by first | rfl | go_num, by have := HK9.out; omega, HG9.out.andThen (grownBy_setAny wr pr 2 _) (fun q hq => .inr hq), HB9.out.set_ 2 _⟩
            · subst hj
              have pj : wr.cell? ⟨pb, 1, none⟩ = some (.pointer (some ⟨pr, 3, none⟩)) := (hpb8.cell 1 rfl)
              have lj := hc6 (2 + fn + 1) (by have := HLT.out; have := HLE.out; omega)
              have lj : wr.cell? ⟨ad3.block, ad3.off + (2 + fn + 1), none⟩ = some (.int .u32 (nth l (2 + fn + 1))) := by rw [← addr_succ]; exact lj
              have fj := hbl.frozen 3
              have cj := hbl.cell 3 (v := .int .u32 0) rfl
              have hin : 2 + (fn : Int) + 1 < (ll : Int) := by have := HLT.out; omega
              have HB9 := Lib.hid hbl
              have HG9 := Lib.hid hgw
              have HK9 := Lib.hid hkj
              clear hbl hgw hkj hc6 hpb8
              go_wp2_with fail
              go_roundg (T - 2)
              case measure => have := HK9.out; omega
              case rel => exact ⟨2, by first | rfl | go_num, by have := HK9.out; omega, HG9.out.andThen (grownBy_setAny wr pr 3 _) (fun q hq => .inr hq), HB9.out.set_ 3 _⟩
          · have hjT' : ¬ (j : Int) < (T : Int) := by omega
            obtain rfl : j = T := by omega
            have q0 := hbl.cell 0 (v := .int .u32 (nth l 0)) rfl
            have q1 := hbl.cell 1 (v := .int .u32 how) rfl
            have q2 := hbl.cell 2 (v := .int .u32 (if 0 < j then nth l (2 + fn) else 0)) rfl
            have q3 := hbl.cell 3 (v := .int .u32 (if 1 < j then nth l (2 + fn + 1) else 0)) rfl
            have q4 := hbl.cell 4 (v := .slice Ab body.length cb) rfl
            obtain ⟨lo, hlo⟩ : ∃ lo, lo = if 0 < j then nth l (2 + fn) else 0 := ⟨_, rfl⟩
            obtain ⟨hi, hhi⟩ : ∃ hi, hi = if 1 < j then nth l (2 + fn + 1) else 0 := ⟨_, rfl⟩
            rw [← hlo] at q2
            rw [← hhi] at q3
            have HLO := Lib.hid hlo
            have HHI := Lib.hid hhi
            clear hlo hhi
            have hb28 := H3.out.grown hgw (by intro e; injection e with e; exact hne2 e)
            have hBx8 := H5.out.grown hgw H5.out.size (fun q hq => by cases hq; exact Nat.le_of_lt hlt2)
            have hob8 : Own wr w.heap.size (.slice Ab body.length cb) body := ⟨H4.out.1, H4.out.2.kept hgw (.inr (fun e => hneo e.symm))⟩
            have hn2 : some w.heap.size ≠ (Value.slice Ab body.length cb).ownBlock := hob8.blk_ne hb28 (by decide)
            have z0 := hb28.cell 0 (v := .int .u32 0) rfl
            have z1 := hb28.cell 1 (v := .int .u32 0) rfl
            have z2 := hb28.cell 2 (v := .int .u32 0) rfl
            have z3 := hb28.cell 3 (v := .int .u32 0) rfl
            have z4 := hb28.cell 4 (v := .slice none 0 0) rfl
            have y0 := hb28.frozen 0
            have y1 := hb28.frozen 1
            have y2 := hb28.frozen 2
            have y3 := hb28.frozen 3
            have y4 := hb28.frozen 4
            clear hbl hgw hkj hjT hpb8
            go_wp2_with fail
            have hfin := ((((hb28.set_ 0 (.int .u32 (nth l 0))).set_ 1 (.int .u32 how)).set_ 2 (.int .u32 lo)).set_ 3 (.int .u32 hi)).set_ 4 (.slice Ab body.length cb)
            have e0 := hfin.cell 0 (v := .int .u32 (nth l 0)) rfl
            have e1 := hfin.cell 1 (v := .int .u32 how) rfl
            have e2 := hfin.cell 2 (v := .int .u32 lo) rfl
            have e3 := hfin.cell 3 (v := .int .u32 hi) rfl
            have e4 := hfin.cell 4 (v := .slice Ab body.length cb) rfl
            have hBf := ((((hBx8.setCell (p := ⟨w.heap.size, 0, none⟩) (Nat.le_refl _) (.int .u32 (nth l 0))).setCell (p := ⟨w.heap.size, 1, none⟩) (Nat.le_refl _) (.int .u32 how)).setCell (p := ⟨w.heap.size, 2, none⟩) (Nat.le_refl _) (.int .u32 lo)).setCell (p := ⟨w.heap.size, 3, none⟩) (Nat.le_refl _) (.int .u32 hi)).setCell (p := ⟨w.heap.size, 4, none⟩) (Nat.le_refl _) (.slice Ab body.length cb)
            have hobf := ((((hob8.setAny w.heap.size 0 (.int .u32 (nth l 0)) hn2).setAny w.heap.size 1 (.int .u32 how) hn2).setAny w.heap.size 2 (.int .u32 lo) hn2).setAny w.heap.size 3 (.int .u32 hi) hn2).setAny w.heap.size 4 (.slice Ab body.length cb) hn2
            exact bodyPost_ret (v := .tuple #[.agg #[.int .u32 (nth l 0), .int .u32 how, .int .u32 lo, .int .u32 hi, .slice Ab body.length cb], .int .i64 0]) (by simp [results, Tryd.f26, go_sem, e0, e1, e2, e3, e4]) rfl ⟨by rw [← HBO2.out]; exact GetsOk.good HBAD.out (by rw [HLO.out]; unfold lowOf; rw [HT.out, HF.out]; by_cases h : 0 < j <;> simp [h] <;> omega) (by rw [HHI.out]; unfold highOf; rw [HT.out, HF.out]; by_cases h : 1 < j <;> simp [h] <;> omega) rfl hobf, hBf⟩
end Go.Proofs.YtoodmjdafifbmaaDoor.Hand
