/- What marks.All hands back: the messages of bytes, how many bytes they have, and the error behind them. -/
import Derived.RangeFuncBox
import Derived.RangeFuncNested
import Derived.RangeFuncLeaves
import Derived.Shelf.Abstract
import Derived.OwnWalkIn
import Derived.TacticsInMore
import Derived.LoopNIn
import Derived.LoopIn
import Derived.Maps.OwnIn
import Derived.Test.YtgkbfmbdpkkhnaaDoorWLast
import Derived.Test.YtgkbfmbdpkkhnaaDoorRange
import Derived.Test.YtgkbfmbdpkkhnaaDoorMarksGet
namespace Go.Proofs.YtgkbfmbdpkkhnaaDoor.Hand
open Go.RowKit Go.Proofs.YtgkbfmbdpkkhnaaDoorW.PrintLast
set_option linter.unusedVariables false
set_option linter.unusedSimpArgs false

attribute [local go_sem] Oper.semAt_some

/-- The messages of bytes, how many bytes each has; the error of the next one. -/
def msgs : Nat → List Int → List (List Int × Nat) × Int
  | 0, _ => ([], 4)
  | f + 1, r =>
    if (mget (r.length + 1) r [] 0).2.2 = 0 then ((((mget (r.length + 1) r [] 0).1, (mget (r.length + 1) r [] 0).2.1)) :: (msgs f (r.drop (mget (r.length + 1) r [] 0).2.1)).1, (msgs f (r.drop (mget (r.length + 1) r [] 0).2.1)).2)
    else ([], (mget (r.length + 1) r [] 0).2.2)

theorem mget_fits : ∀ (f : Nat) (r m : List Int) (at_ : Nat), (mget f r m at_).2.2 = 0 → at_ + 4 ≤ (mget f r m at_).2.1 ∧ (mget f r m at_).2.1 ≤ at_ + r.length
  | 0, _, _, _ => fun h => by simp [mget] at h
  | f + 1, r, m, at_ => fun h => by
    rw [mget] at h ⊢
    split at h
    · simp at h
    split at h
    · simp at h
    split at h
    · simp at h
    split at h
    · simp at h
    rename_i h1 h2 h3 h4
    rw [if_neg h1, if_neg h2, if_neg h3, if_neg h4]
    split at h
    · rename_i h5
      rw [if_pos h5]
      have := mget_fits f _ _ _ h
      rw [List.length_drop] at this
      omega
    · rename_i h5
      rw [if_neg h5]
      refine ⟨?_, ?_⟩ <;> simp only <;> omega

/-- What marks.All hands back: the messages, how many bytes, the error. -/
def mall (r : List Int) : List (List Int) × Nat × Int :=
  (((msgs (r.length + 1) r).1.map (·.1)), ((msgs (r.length + 1) r).1.map (·.2)).sum, if (msgs (r.length + 1) r).2 = 4 then 0 else (msgs (r.length + 1) r).2)

set_option maxRecDepth 100000 in
set_option maxHeartbeats 2000000 in
theorem messages1 (n : Nat) (hn : 1 ≤ n) (lY bb eb ee : Nat) (A : Option Addr) (c : Nat) (l : List Int) (we : World) (hr : Rd we A l) (hc : l.length ≤ c) (hlen : l.length ≤ 140737488351232)
    (T : Nat → Prop) (hT : ∀ k, T k ↔ k = bb ∨ k = ee) (hne : bb ≠ ee) (hn1 : we.heap.size ≤ bb) (hn2 : we.heap.size ≤ ee) (hn3 : eb ≠ bb) (hn4 : eb ≠ ee)
    (J : List (Value × List Int × Nat) → World → Prop) (hJ : Rests T J) (W : World) (Z : Nat) (hZ : Z ≤ W.heap.size)
    (hB : Below we.heap.size we W) (hbb : Blk W bb 24 #[.slice A l.length c]) (heb : Blk W eb 77 #[.pointer (some ⟨ee, 0, none⟩)]) (hee : Blk W ee 42 #[.int .i64 0])
    (Fact : List (Value × List Int × Nat) → (Value × List Int × Nat) → World → Prop)
    (hFact : ∀ (pre : List (Value × List Int × Nat)) (v : Value) (m : List Int) (k : Nat) (X : World), Own X Z v m → pre.length ≤ l.length → (pre.map (·.2.2)).sum + k ≤ l.length → (∀ p ∈ pre, ∀ g, p.1.ownBlock = some g → v.ownBlock ≠ some g) → Fact pre (v, m, k) X)
    (hY : ∀ pre x W1, J pre W1 → Fact pre x W1 → YieldAt Fence.wide (n - 1) Tryd.prog lY #[x.1, .int .i64 x.2.2] W1 fun e W' => e = .returned (.bool true) ∧ J (pre ++ [x]) W' ∧ Below we.heap.size W1 W' ∧ W'.heap[bb]? = W1.heap[bb]? ∧ W'.heap[eb]? = W1.heap[eb]? ∧ W'.heap[ee]? = W1.heap[ee]?)
    (h0 : J [] W) :
    CallsIn Fence.wide n Tryd.prog 89 #[.func (.yield lY) #[] #[], .pointer (some ⟨bb, 0, none⟩), .pointer (some ⟨eb, 0, none⟩)] W fun e W' => (∃ v, e = .returned v) ∧
      ∃ xs, (xs.map (fun x => (x.2.1, x.2.2)) = (msgs (l.length + 1) l).1 ∧ W'.heap[ee]? = some (.cells #[.int .i64 (msgs (l.length + 1) l).2] 42 (0, 0)) ∧ Below we.heap.size we W') ∧ J xs W' := by
  obtain ⟨R, hR⟩ : ∃ R, R = msgs (l.length + 1) l := ⟨_, rfl⟩
  rw [← hR]
  have HR := Lib.hid hR
  clear hR
  refine callsIn_of_wp Tryd.func89 rfl trivial ?_ rfl
  simp only [Tryd.ntmps89, List.size_toArray, List.length_cons, List.length_nil, Nat.reduceAdd, Nat.reduceSub, Array.replicate_succ, Array.replicate_zero, List.push_toArray, List.append_toArray, List.nil_append, List.cons_append]
  gi_wp2
  gi_loopw [4] (fun _ wr => ∃ (pre : List (Value × List Int × Nat)) (r : List Int) (A' : Option Addr) (c' f : Nat), Z ≤ wr.heap.size ∧ J pre wr ∧ Below we.heap.size we wr ∧ Blk wr bb 24 #[.slice A' r.length c'] ∧ Blk wr eb 77 #[.pointer (some ⟨ee, 0, none⟩)] ∧ Blk wr ee 42 #[.int .i64 0] ∧ Rd we A' r ∧ r.length ≤ c' ∧ r.length < f ∧ r.length + (pre.map (·.2.2)).sum = l.length ∧ pre.length + r.length ≤ l.length ∧ pre.map (fun x => (x.2.1, x.2.2)) ++ (msgs f r).1 = R.1 ∧ (msgs f r).2 = R.2 ∧ Hid (∀ p ∈ pre, ∀ g, p.1.ownBlock = some g → g < wr.heap.size))
    (fun _ wr => match wr.cell? ⟨bb, 0, none⟩ with | some (.slice _ k _) => k | _ => 0)
  case atStart =>
    refine ⟨[], l, A, c, l.length + 1, hZ, h0, hB, hbb, heb, hee, hr, hc, by omega, by simp, by simp, ?_, ?_, Lib.hid (fun p hp => by simp at hp)⟩
    · rw [HR.out]; rfl
    · rw [HR.out]
  case round =>
    obtain ⟨pre, r, A', c', f, hZr, hJr, hBr, hbr, her, hzr, hrr, hcr, hf, hsum, hpl, hm1, hm2, HPB⟩ := hrel
    obtain ⟨f, rfl⟩ : ∃ g, f = g + 1 := ⟨f - 1, by omega⟩
    have kb := hbr.cell 0 (v := .slice A' r.length c') rfl
    have ke := her.cell 0 (v := .pointer (some ⟨ee, 0, none⟩)) rfl
    have hrw : Rd wr A' r := hrr.below hBr
    have HM1 := Lib.hid hm1
    have HM2 := Lib.hid hm2
    clear hm1 hm2
    have HL := Lib.hid hlen
    have HS := Lib.hid hsum
    have HP := Lib.hid hpl
    clear hlen hsum hpl
    gi_wp2_with fail
    refine ⟨trivial, ?_⟩
    refine (callsIn_wide.2 (marksGet A' c' r wr hrw hcr (by have := HL.out; have := HS.out; omega))).mono ?_
    rintro e w1 ⟨v, rfl, ho, hB1⟩
    have kb0 := kb
    have HV := Lib.hid (fun g (hg : v.ownBlock = some g) => ho.2.lt g hg)
    have hJ1 := hJ _ _ _ none hJr ⟨hB1.os, hB1.tape, hB1.output, hB1.size, fun k hk _ => hB1.block k hk⟩ (fun k e => by cases e)
    replace hbr := hbr.below hB1
    replace her := her.below hB1
    replace hzr := hzr.below hB1
    replace kb := hbr.cell 0 (v := .slice A' r.length c') rfl
    replace ke := her.cell 0 (v := .pointer (some ⟨ee, 0, none⟩)) rfl
    have kz := hzr.cell 0 (v := .int .i64 0) rfl
    have kzf := hzr.frozen 0
    have kbf := hbr.frozen 0
    have hB2 := hBr.trans (hB1.mono hBr.size)
    have FIT := Lib.hid (fun h => mget_fits (r.length + 1) r [] 0 h)
    rw [msgs] at HM1 HM2
    generalize hM : mget (r.length + 1) r [] 0 = M at *
    obtain ⟨m, k, er⟩ := M
    simp only at HM1 HM2 FIT ho ⊢
    by_cases he : er = 0
    · subst he
      have hfit := FIT.out rfl
      have hm1 := HM1.out
      have hm2 := HM2.out
      rw [if_pos rfl] at hm1 hm2
      have hYk := hY pre (v, m, k) w1 hJ1 (hFact pre v m k w1 (ho.lower hZr) (by have := HP.out; omega) (by have := HS.out; omega) (fun p hp g hg e => by have := HPB.out p hp g hg; have := (HV.out g e).1; omega))
      have HN1 := Lib.hid hm1
      have HN2 := Lib.hid hm2
      clear hm1 hm2
      clear hY hFact hr hc hbb heb hee hrw
      obtain ⟨fn, tmps, assign, body, hy, hR⟩ := hYk
      gi_wp2
      refine hR.mono ?_
      rintro e W3 ⟨rfl, hJ3, hB3, hb3, he3, hz3⟩
      have HF := Lib.hid hfit
      clear hfit
      replace hbr : Blk W3 bb 24 #[.slice A' r.length c'] := hb3.trans hbr
      replace her : Blk W3 eb 77 #[.pointer (some ⟨ee, 0, none⟩)] := he3.trans her
      replace hzr : Blk W3 ee 42 #[.int .i64 0] := hz3.trans hzr
      replace kb := hbr.cell 0 (v := .slice A' r.length c') rfl
      replace kbf := hbr.frozen 0
      have b1 : (k : Int) ≤ (r.length : Int) := by have := HF.out; omega
      have b2 : ((r.length : Nat) : Int) ≤ (c' : Int) := by omega
      have b3 : (0 : Int) ≤ (k : Int) := by omega
      gi_wp2
      have hf4 := HF.out
      have hsum := HS.out
      have hpl := HP.out
      have hm1 := HN1.out
      have hm2 := HN2.out
      have hlk : (r.drop k).length = r.length - k := List.length_drop
      have hB4 := hB2.trans hB3
      have hbs := hbr.set_ 0 (.slice (if c' = k then A' else Option.map (fun x => x.add k) A') (r.length - k) (c' - k))
      refine ⟨⟨pre ++ [(v, m, k)], r.drop k, _, c' - k, f, by rw [World.size_setCell]; have := hB1.size; have := hB3.size; omega, hJ _ _ _ (some bb) hJ3 (grownBy_setCell' W3 bb _) (fun k e => by cases e; exact (hT _).2 (.inl rfl)), hB4.setCell hn1 _, ?_, her.far hn3 _, hzr.far (fun e => hne e.symm) _, hrr.drop k c' hcr, by rw [hlk]; omega, by rw [hlk]; omega, by simp; omega, by simp; omega, ?_, ?_, Lib.hid fun p hp g hg => ?_⟩, ?_⟩
      · rw [hlk]
        exact hbs
      · rw [← hm1]; simp
      · rw [← hm2]
      · rw [World.size_setCell]
        have q1 := hB1.size
        have q3 := hB3.size
        rcases List.mem_append.1 hp with hp | hp
        · have := HPB.out p hp g hg
          omega
        · obtain rfl : p = (v, m, k) := by simpa using hp
          have := (HV.out g hg).2
          omega
      · rw [hbs.cell 0 (v := .slice (if c' = k then A' else Option.map (fun x => x.add k) A') (r.length - k) (c' - k)) rfl, kb0]
        simp only
        omega
    · gi_wp2
      have hm1 := HM1.out
      have hm2 := HM2.out
      rw [if_neg he] at hm1 hm2
      refine bodyPost_ret (results_none rfl _ _ _) rfl ⟨⟨_, rfl⟩, pre, ⟨by simpa using hm1, ?_, hB2.setCell hn2 _⟩, hJ _ _ _ (some ee) hJ1 (grownBy_setCell' w1 ee _) (fun k e => by cases e; exact (hT _).2 (.inr rfl))⟩
      rw [← hm2]
      exact hzr.set_ 0 _
theorem messages_in (n : Nat) (A : Option Addr) (k c : Nat) (p : Option Addr) (w : World) :
    CallsIn Fence.wide n Tryd.prog 65 #[.slice A k c, .pointer p] w fun e w' => e = .returned (.func (.func 89) #[] #[.pointer (some ⟨w.heap.size, 0, none⟩), .pointer (some ⟨w.heap.size + 1, 0, none⟩)]) ∧ w' = (w.alloc (.cells #[.slice A k c] 24)).alloc (.cells #[.pointer p] 77) := by
  refine callsIn_of_wp Tryd.func65 rfl trivial ?_ rfl
  simp only [Tryd.ntmps65, List.size_toArray, List.length_cons, List.length_nil, Nat.reduceAdd, Nat.reduceSub, Array.replicate_succ, Array.replicate_zero, List.push_toArray, List.append_toArray, List.nil_append, List.cons_append]
  gi_wp2
  go_ret
  exact ⟨rfl, rfl⟩

theorem row_lower {w : World} {B B' : Nat} {e : TypeId} {v : Value} {n : Nat} {xs : List Value} (h : w.ownsRow B e 1 v n xs) (hb : B' ≤ B) : w.ownsRow B' e 1 v n xs :=
  ⟨h.1, h.2.imp id fun ⟨g, cap, cur, e, hg, r⟩ => ⟨g, cap, cur, e, by omega, r⟩⟩
theorem row_rests {X Y : World} {B : Nat} {e : TypeId} {v : Value} {n : Nat} {xs : List Value} {row : Option Nat} (h : X.ownsRow B e 1 v n xs) (hg : X.grownBy Y row) (hr : ∀ r, row = some r → r < B ∨ ∃ o : Obj, X.heap[r]? = some o ∧ o.isCells = false) : Y.ownsRow B e 1 v n xs := by
  refine h.kept hg ?_
  rcases h.2 with ⟨rfl, _⟩ | ⟨g, cap, cur, rfl, hb, hgb, _⟩
  · exact .inl rfl
  · refine .inr fun e' => ?_
    rcases hr g (by simpa [Value.ownBlock] using e'.symm) with h1 | ⟨o, ho, hc⟩
    · omega
    · rw [hgb] at ho; cases ho; cases hc
theorem row_apart {X Y : World} {B B' : Nat} {e e' : TypeId} {v u : Value} {n n' : Nat} {xs xs' : List Value} (h : X.ownsRow B e 1 v n xs) (hu : X.ownsRow B' e' 1 u n' xs') (hne : e ≠ e') (hg : X.grownBy Y u.ownBlock) : Y.ownsRow B e 1 v n xs := by
  refine h.kept hg ?_
  rcases h.2 with ⟨rfl, _⟩ | ⟨g, cap, cur, rfl, hb, hgb, _⟩
  · exact .inl rfl
  · refine .inr fun he => ?_
    rcases hu.2 with ⟨rfl, _⟩ | ⟨g', cap', cur', rfl, hb', hgb', _⟩
    · simp [Value.ownBlock] at he
    · have : g = g' := by simpa [Value.ownBlock] using he
      subst this
      rw [hgb] at hgb'
      cases hgb'
      exact hne rfl
theorem Blk.rests {X Y : World} {g : Nat} {t : TypeId} {cs : Array Value} {row : Option Nat} (h : Blk X g t cs) (hg : X.grownBy Y row) (hr : ∀ r, row = some r → r ≠ g ∨ ∃ o : Obj, X.heap[r]? = some o ∧ o.isCells = false) : Blk Y g t cs := by
  refine h.grown hg fun e => ?_
  rcases hr g e.symm with h1 | ⟨o, ho, hc⟩
  · exact h1 rfl
  · unfold Blk at h
    rw [h] at ho; cases ho; cases hc

/-- A slice of the call's own whose elements are slices of the call's own. -/
def Rowed (X : World) (B : Nat) (v : Value) (ps : List (Value × List Int × Nat)) : Prop := X.ownsRow B 24 1 v ps.length (ps.map (·.1)) ∧ ∀ p ∈ ps, Own X B p.1 p.2.1
/-- No two of them in one block. -/
def Dist (ps : List (Value × List Int × Nat)) : Prop := ps.Pairwise fun p q => ∀ g, p.1.ownBlock = some g → q.1.ownBlock ≠ some g
theorem dist_snoc {ps : List (Value × List Int × Nat)} {x : Value × List Int × Nat} (h : Dist ps) (hx : ∀ p ∈ ps, ∀ g, p.1.ownBlock = some g → x.1.ownBlock ≠ some g) : Dist (ps ++ [x]) :=
  List.pairwise_append.2 ⟨h, List.pairwise_singleton _ _, fun p hp q hq => by rw [List.mem_singleton.1 hq]; exact hx p hp⟩
def OwnD (X : World) (B : Nat) (v : Value) (ms : List (List Int)) : Prop := ∃ ps, ps.map (·.2.1) = ms ∧ Rowed X B v ps ∧ Dist ps
def OwnL (X : World) (B : Nat) (v : Value) (ms : List (List Int)) : Prop := ∃ ps, ps.map (·.2.1) = ms ∧ Rowed X B v ps
theorem Rowed.rests {X Y : World} {B : Nat} {v : Value} {ps : List (Value × List Int × Nat)} {row : Option Nat} (h : Rowed X B v ps) (hg : X.grownBy Y row) (hr : ∀ r, row = some r → r < B ∨ ∃ o : Obj, X.heap[r]? = some o ∧ o.isCells = false) : Rowed Y B v ps :=
  ⟨row_rests h.1 hg hr, fun p hp => ⟨(h.2 p hp).1, row_rests (h.2 p hp).2 hg hr⟩⟩
theorem Rowed.lower {X : World} {B B' : Nat} {v : Value} {ps : List (Value × List Int × Nat)} (h : Rowed X B v ps) (hb : B' ≤ B) : Rowed X B' v ps := ⟨row_lower h.1 hb, fun p hp => (h.2 p hp).lower hb⟩
theorem Rowed.below {X Y : World} {B : Nat} {v : Value} {ps : List (Value × List Int × Nat)} (h : Rowed X B v ps) (hb : Below X.heap.size X Y) : Rowed Y B v ps :=
  h.rests (row := none) ⟨hb.os, hb.tape, hb.output, hb.size, fun i hi _ => hb.block i hi⟩ (fun _ e => by cases e)
theorem OwnL.below {X Y : World} {B : Nat} {v : Value} {ms : List (List Int)} (h : OwnL X B v ms) (hb : Below X.heap.size X Y) : OwnL Y B v ms := by
  obtain ⟨ps, e, hr⟩ := h
  exact ⟨ps, e, hr.below hb⟩
theorem OwnL.lower {X : World} {B B' : Nat} {v : Value} {ms : List (List Int)} (h : OwnL X B v ms) (hb : B' ≤ B) : OwnL X B' v ms := by
  obtain ⟨ps, e, hr⟩ := h
  exact ⟨ps, e, hr.lower hb⟩

theorem info22 : (Tryd.prog.info? 24).map (fun i => (i.zero, i.size, i.bytes)) = some (some (.slice none 0 0), 1, 24) := by kernel_rfl

theorem setCell_same {w : World} {g : Nat} {t : TypeId} {v : Value} (h : Blk w g t #[v]) : w.setCell ⟨g, 0, none⟩ v = w := by
  have e : (w.setCell ⟨g, 0, none⟩ v).heap = w.heap := by
    apply Array.ext_getElem?
    intro i
    by_cases hi : i = g
    · subst hi
      unfold Blk at h
      simp [World.setCell, Array.getElem?_modify, h]
    · exact Below.heap_setCell w _ v i (by simpa using hi)
  unfold World.setCell at e ⊢
  simp only at e
  rw [e]

set_option maxRecDepth 100000 in
set_option maxHeartbeats 4000000 in
theorem marksAllD (A : Option Addr) (c : Nat) (l : List Int) (w : World) (hr : Rd w A l) (hc : l.length ≤ c) (hlen : l.length ≤ 4398046511104) :
    Calls Tryd.prog 27 #[.slice A l.length c] w fun e w' => ∃ v, e = .returned (.tuple #[v, .int .i64 (mall l).2.1, .int .i64 (mall l).2.2]) ∧ OwnD w' w.heap.size v (mall l).1 ∧ Below w.heap.size w w' := by
  refine (callsIn_wide (n := 9)).1 ?_
  obtain ⟨i0, hi, hz0, hz1, hz2⟩ := info_parts info22
  refine callsIn_of_wp_marks Tryd.func27 rfl trivial ?_ rfl
  simp only [Tryd.ntmps27, List.size_toArray, List.length_cons, List.length_nil, Nat.reduceAdd, Nat.reduceSub, Array.replicate_succ, Array.replicate_zero, List.push_toArray, List.append_toArray, List.nil_append, List.cons_append]
  gi_wp2_with fail
  refine ⟨trivial, ?_⟩
  refine (messages_in _ A l.length c _ _).mono ?_
  rintro e w2 ⟨rfl, hw2⟩
  obtain ⟨B, hBe⟩ : ∃ B, B = w.heap.size := ⟨_, rfl⟩
  simp only [World.size_alloc, ← hBe] at hw2 ⊢
  have bL : Blk w2 B 53 #[.slice none 0 0] := by rw [hw2, hBe]; exact ((((Blk.new _ _ _).alloc _).alloc _).alloc _).alloc _
  have bA : Blk w2 (B + 1) 3 #[.int .i64 0] := by
    rw [hw2, hBe]
    have := (((Blk.new (w.alloc (.cells #[.slice none 0 0] 53)) 3 #[.int .i64 0]).alloc (.cells #[.int .i64 0] 42)).alloc (.cells #[.slice A l.length c] 24)).alloc (.cells #[.pointer (some ⟨w.heap.size + 1 + 1, 0, none⟩)] 77)
    simp only [World.size_alloc] at this
    exact this
  have b2 : Blk w2 (B + 2) 42 #[.int .i64 0] := by
    rw [hw2, hBe]
    have := ((Blk.new ((w.alloc (.cells #[.slice none 0 0] 53)).alloc (.cells #[.int .i64 0] 3)) 42 #[.int .i64 0]).alloc (.cells #[.slice A l.length c] 24)).alloc (.cells #[.pointer (some ⟨w.heap.size + 1 + 1, 0, none⟩)] 77)
    simp only [World.size_alloc] at this
    exact this
  have b3 : Blk w2 (B + 3) 24 #[.slice A l.length c] := by
    rw [hw2, hBe]
    have := ((Blk.new (((w.alloc (.cells #[.slice none 0 0] 53)).alloc (.cells #[.int .i64 0] 3)).alloc (.cells #[.int .i64 0] 42)) 24 #[.slice A l.length c])).alloc (.cells #[.pointer (some ⟨w.heap.size + 1 + 1, 0, none⟩)] 77)
    simp only [World.size_alloc] at this
    exact this
  have b4 : Blk w2 (B + 4) 77 #[.pointer (some ⟨B + 2, 0, none⟩)] := by
    rw [hw2, hBe]
    have := (Blk.new ((((w.alloc (.cells #[.slice none 0 0] 53)).alloc (.cells #[.int .i64 0] 3)).alloc (.cells #[.int .i64 0] 42)).alloc (.cells #[.slice A l.length c] 24)) 77 #[.pointer (some ⟨w.heap.size + 1 + 1, 0, none⟩)])
    simp only [World.size_alloc] at this
    exact this
  have hB2 : Below w.heap.size w w2 := by
    rw [hw2]
    exact (((((Below.refl _ w).alloc (Nat.le_refl _) _).alloc (by simp) _).alloc (by simp; omega) _).alloc (by simp; omega) _).alloc (by simp; omega) _
  have hsz2 : w2.heap.size = B + 5 := by rw [hw2, hBe]; simp
  have lt4 := b4.lt
  clear hw2
  have HB := Lib.hid hBe
  have HZ := Lib.hid hsz2
  clear hBe hsz2
  gi_wp2
  have H0 := Lib.hid hlen
  have hBe := HB.out
  have hsz2 := HZ.out
  refine rangeFunc_rests (by omega : 1 ≤ 9) (gf := 89) (lb := #[.pointer (some ⟨B + 1 + 1 + 1, 0, none⟩), .pointer (some ⟨B + 1 + 1 + 1 + 1, 0, none⟩)]) rfl (enters_of Tryd.func89 (by kernel_rfl) rfl)
    (fun x : Value × List Int × Nat => #[x.1, .int .i64 x.2.2]) (fun _ => rfl) (fun r => r = B + 3 ∨ r = B + 2) (by rintro r (rfl | rfl) <;> omega)
    (fun X Y => Below B X Y ∧ Y.heap[B + 3]? = X.heap[B + 3]? ∧ Y.heap[B + 4]? = X.heap[B + 4]? ∧ Y.heap[B + 2]? = X.heap[B + 2]?)
    (fun h k => ⟨h.1.trans k.1, k.2.1.trans h.2.1, k.2.2.1.trans h.2.2.1, k.2.2.2.trans h.2.2.2⟩)
    (fun W j o' hj hj2 => ⟨(Below.refl _ W).grown (grownBy_putObj' W j o') (by omega) (fun k e => by cases e; omega), World.putObj_heap_other (by omega), World.putObj_heap_other (by omega), World.putObj_heap_other (by omega)⟩)
    (fun pre x W => Own W w2.heap.size x.1 x.2.1 ∧ pre.length ≤ l.length ∧ (pre.map (·.2.2)).sum + x.2.2 ≤ l.length ∧ ∀ p ∈ pre, ∀ g, p.1.ownBlock = some g → x.1.ownBlock ≠ some g)
    (fun pre x s X Y row h hg hr => ⟨⟨h.1.1, row_rests h.1.2 hg fun r e => .inr (hr r e).2⟩, h.2⟩)
    (fun xs W => xs.map (fun x => (x.2.1, x.2.2)) = (msgs (l.length + 1) l).1 ∧ W.heap[B + 2]? = some (.cells #[.int .i64 (msgs (l.length + 1) l).2] 42 (0, 0)) ∧ Below w.heap.size w W)
    (fun xs X Y row h hg hr => ⟨h.1, Blk.rests (g := B + 2) h.2.1 hg fun r e => .inr (hr r e).2, h.2.2.grown hg (by have := h.2.2.size; omega) fun k e => by have := (hr k e).1; omega⟩)
    ?seq
    (fun pre W => (∃ v, Blk W B 53 #[v] ∧ Rowed W w2.heap.size v pre) ∧ Blk W (B + 1) 3 #[.int .i64 ((pre.map (·.2.2)).sum : Nat)] ∧ w2.heap.size ≤ W.heap.size ∧ Dist pre)
    (fun pre X Y row h hg hr => by
      obtain ⟨⟨v, h1, h2⟩, h3, h4, h5⟩ := h
      exact ⟨⟨v, h1.rests hg fun r e => .inr (hr r e).2, h2.rests hg fun r e => .inr (hr r e).2⟩, h3.rests hg fun r e => .inr (hr r e).2, Nat.le_trans h4 hg.size, h5⟩)
    (fun pre X Y row h hg hr => by
      obtain ⟨⟨v, h1, h2⟩, h3, h4, h5⟩ := h
      exact ⟨⟨v, h1.rests hg fun r e => .inl (by rcases hr r e with rfl | rfl <;> omega), h2.rests hg fun r e => .inl (by rcases hr r e with rfl | rfl <;> omega)⟩, h3.rests hg fun r e => .inl (by rcases hr r e with rfl | rfl <;> omega), Nat.le_trans h4 hg.size, h5⟩)
    ⟨⟨_, bL, World.ownsRow_nil _ _ _ _, fun p hp => by simp at hp⟩, bA, Nat.le_refl _, List.Pairwise.nil⟩
    (fun x => { tmps := #[.slice A l.length c, undef, .pointer (some ⟨B, 0, none⟩), .pointer (some ⟨B + 1, 0, none⟩), .pointer (some ⟨B + 1 + 1, 0, none⟩), x.1, .int .i64 x.2.2, .slice A l.length c, .func (.func 89) #[] #[.pointer (some ⟨B + 1 + 1 + 1, 0, none⟩), .pointer (some ⟨B + 1 + 1 + 1 + 1, 0, none⟩)], x.1, .int .i64 x.2.2, undef, undef, undef, undef, undef, undef, undef, undef, undef, undef, undef, undef], defers := [] })
    ?assign ?body ?done
  case seq =>
    intro l' J W hBW hJ hY h0
    refine (messages1 (9 - 1) (by omega) l' (B + 3) (B + 4) (B + 2) A c l w hr hc (by omega) _ (fun k => Iff.rfl) (by omega) (by omega) (by omega) (by omega) (by omega) J hJ W w2.heap.size hBW.size
      (hB2.trans (hBW.mono (by omega))) (b3.below hBW) (b4.below hBW) (b2.below hBW) (fun pre x W => Own W w2.heap.size x.1 x.2.1 ∧ pre.length ≤ l.length ∧ (pre.map (·.2.2)).sum + x.2.2 ≤ l.length ∧ ∀ p ∈ pre, ∀ g, p.1.ownBlock = some g → x.1.ownBlock ≠ some g) (fun pre v m k X ho h1 h2 h3 => ⟨ho, h1, h2, h3⟩) (fun pre x W1 hj hx => ?_) h0).mono ?_
    · rw [← hBe]
      exact hY pre x W1 hj hx
    · rintro e W' ⟨hv, xs, h1, h2⟩
      exact ⟨hv, xs, h1, h2⟩
  case assign =>
    clear hBe hsz2
    intro l' x W K hK
    gi_wp2
    exact hK
  case body =>
    rintro l' pre ⟨xv, xm, xk⟩ W ⟨⟨v, hbL, hrow⟩, hbA, hsz, hdp⟩ ⟨hox, hpl, hsum, hdi⟩ hW
    have HDN := Lib.hid (dist_snoc hdp hdi)
    clear hdp hdi
    simp only at hox hsum ⊢
    obtain ⟨Ax, cx, rfl, hcx, hmx, hrx⟩ := hox.form
    have hbL4 := hbL.lt
    have hl64 : pre.length + 1 ≤ 4398046511105 := by omega
    have HS := Lib.hid hsum
    clear hsum hBe hsz2 hlen
    have kL := hbL.cell 0 (v := v) rfl
    have kA := hbA.cell 0 (v := .int .i64 ((pre.map (·.2.2)).sum : Nat)) rfl
    gi_wp2_with (gi_at_builtin; refine wpListIn_append_own_at _ rfl _ _ 53 rfl w2.heap.size 24 i0 (.slice none 0 0) 1 24 Tryd.underlying53 hi hz0 hz1 hz2 rfl (by decide) v pre.length (pre.map (·.1)) rfl (hrow.1.alloc _) ⟨W.heap.size, 0, none⟩ 1 1 [.slice Ax xm.length cx] rfl rfl (cell_one_new _ _ _) (by simp [Value.oneCell']) (by unfold maxLen; omega) (by omega) (by simp; omega) ?_; intro v' w1 hown' hgrow _ _; obtain ⟨g', cap', rfl⟩ := ownsRow_succ hown'; have hbL1 := (hbL.alloc (.cells #[.slice Ax xm.length cx] 24)).grown hgrow (Boxed.not_row (t := 53) hbL (by decide) hrow.1); have hbA1 := (hbA.alloc (.cells #[.slice Ax xm.length cx] 24)).grown hgrow (Boxed.not_row (t := 3) hbA (by decide) hrow.1); have kL1 := hbL1.cell 0 (v := v) rfl; have kf1 := hbL1.frozen 0; have hbA2 := hbA1.far (p := ⟨B, 0, none⟩) (by simp) (.slice (some ⟨g', 0, none⟩) (pre.length + 1) cap'); have kA2 := hbA2.cell 0 (v := .int .i64 ((pre.map (·.2.2)).sum : Nat)) rfl; have kf2 := hbA2.frozen 0)
    have hBe := HB.out
    have hsz2 := HZ.out
    have hsum := HS.out
    obtain ⟨-, -, -, hk3, hb3⟩ := Boxed.appended (t := 53) (n₀ := B) hbL (by decide) (row_lower hrow.1 (by omega)) (by omega) (Nat.le_refl _) (row_lower hown' (by omega)) hgrow
    have hlow : ∀ k, v.ownBlock = some k → w2.heap.size ≤ k := fun k hk => (hrow.1.lt k hk).1
    have far : ∀ k, k < w2.heap.size → k ≠ B → k ≠ B + 1 → (((w1.setCell ⟨B, 0, none⟩ (.slice (some ⟨g', 0, none⟩) (pre.length + 1) cap')).setCell ⟨B + 1, 0, none⟩ (.int .i64 (wrap64 (((pre.map (·.2.2)).sum : Nat) + (xk : Int)))))).heap[k]? = W.heap[k]? := fun k h1 h2 h3 =>
      (Below.heap_setCell _ _ _ _ h3).trans ((Below.heap_setCell _ _ _ _ h2).trans ((hgrow.block k (by simp; omega) (fun e => by have := hlow k e.symm; omega)).trans (Below.heap_alloc W _ k (by omega))))
    have hown4 : ∀ p : Value × List Int × Nat, Own W w2.heap.size p.1 p.2.1 → Own (((w1.setCell ⟨B, 0, none⟩ (.slice (some ⟨g', 0, none⟩) (pre.length + 1) cap')).setCell ⟨B + 1, 0, none⟩ (.int .i64 (wrap64 (((pre.map (·.2.2)).sum : Nat) + (xk : Int)))))) w2.heap.size p.1 p.2.1 := fun p hp =>
      ⟨hp.1, row_rests (row_rests (row_apart (hp.2.alloc _) (hrow.1.alloc _) (by decide) hgrow) (grownBy_setCell' w1 B _) fun r e => by cases e; exact .inl (by omega)) (grownBy_setCell' _ (B + 1) _) fun r e => by cases e; exact .inl (by omega)⟩
    refine ⟨(hk3.trans (KeepsOthers.setCell _ _ _)).from _, ⟨hb3.setCell (by simp) _, far _ (by omega) (by omega) (by omega), far _ (by omega) (by omega) (by omega), far _ (by omega) (by omega) (by omega)⟩, ⟨_, (hbL1.set_ 0 _).far (by simp) _, ?_, ?_⟩, ?_, ?_, HDN.out⟩
    · refine row_rests (row_rests ?_ (grownBy_setCell' w1 B _) fun r e => by cases e; exact .inl (by omega)) (grownBy_setCell' _ (B + 1) _) fun r e => by cases e; exact .inl (by omega)
      simpa using hown'
    · intro p hp
      rcases List.mem_append.1 hp with hp | hp
      · exact hown4 p (hrow.2 p hp)
      · obtain rfl : p = (.slice Ax xm.length cx, xm, xk) := by simpa using hp
        exact hown4 _ hox
    · have := hbA2.set_ 0 (.int .i64 (wrap64 (((pre.map (·.2.2)).sum : Nat) + (xk : Int))))
      have e : wrap64 (((pre.map (·.2.2)).sum : Nat) + (xk : Int)) = ((pre.map (·.2.2)).sum : Nat) + (xk : Int) := by
        have := H0.out
        unfold wrap64
        omega
      rw [e] at this ⊢
      exact this
    · have := hgrow.size
      simp at this ⊢
      omega
  case done =>
    rintro D xs W hD ⟨hx1, hx2, hx3⟩ ⟨⟨v, hbL, hrow⟩, hbA, hsz, hdp⟩ hK
    have HDP := Lib.hid hdp
    clear hdp
    obtain ⟨Av, nv, cv, rfl⟩ : ∃ A n c, v = .slice A n c := by
      rcases hrow.1.2 with ⟨rfl, _⟩ | ⟨g, cap, _, rfl, _⟩
      · exact ⟨_, _, _, rfl⟩
      · exact ⟨_, _, _, rfl⟩
    have k2 : W.cell? ⟨B + 2, 0, none⟩ = some (.int .i64 (msgs (l.length + 1) l).2) := Blk.cell (g := B + 2) hx2 0 rfl
    have kL := hbL.cell 0 (v := .slice Av nv cv) rfl
    have kA := hbA.cell 0 (v := .int .i64 ((xs.map (·.2.2)).sum : Nat)) rfl
    have kf := Blk.frozen (g := B + 2) hx2 0
    clear hBe hsz2 hlen
    have HX := Lib.hid hx1
    clear hx1
    generalize hM : (msgs (l.length + 1) l).2 = er at *
    have HM := Lib.hid hM
    clear hM
    by_cases he : er = 4
    · subst he
      gi_wp2_with fail
      have bL := hbL.far (p := ⟨B + 1 + 1, 0, none⟩) (by simp; omega) (.int .i64 0)
      have bA := hbA.far (p := ⟨B + 1 + 1, 0, none⟩) (by simp) (.int .i64 0)
      have bE := Blk.set_ (g := B + 1 + 1) hx2 0 (.int .i64 0)
      have hBV := hx3.setCell (p := ⟨B + 1 + 1, 0, none⟩) (by have := HB.out; simp; omega) (.int .i64 0)
      have hrV := hrow.rests (grownBy_setCell' W (B + 1 + 1) (.int .i64 0)) (fun r e => by cases e; exact .inl (by have := HZ.out; omega))
      have hKV := (KeepsOthers.setCell W ⟨B + 1 + 1, 0, none⟩ (.int .i64 0)).same D _ hK rfl
      generalize W.setCell ⟨B + 1 + 1, 0, none⟩ (.int .i64 0) = V at *
      clear hbL hbA kL kA k2 kf hx2 hx3 hrow hK hsz
      have kL := bL.cell 0 (v := .slice Av nv cv) rfl
      have kA := bA.cell 0 (v := .int .i64 ((xs.map (·.2.2)).sum : Nat)) rfl
      have kE := bE.cell 0 (v := .int .i64 0) rfl
      have fL := bL.frozen 0
      have fA := bA.frozen 0
      have fE := bE.frozen 0
      rename_i K9 hK9
      refine wpIn_wide.2 (wp_mono (Q := Exit.then K9 (fun _ _ _ => False)) ?_ (fun e a' w' h => by cases e <;> first | exact h | exact h.elim))
      refine start_ (n := 6) (S := fun w' => w'.cell? ⟨B, 0, none⟩ = some (.slice Av nv cv) ∧ w'.cell? ⟨B + 1, 0, none⟩ = some (.int .i64 ((xs.map (·.2.2)).sum : Nat)) ∧ w'.cell? ⟨B + 1 + 1, 0, none⟩ = some (.int .i64 0) ∧ Blk w' B 53 #[.slice Av nv cv] ∧ Blk w' (B + 1) 3 #[.int .i64 ((xs.map (·.2.2)).sum : Nat)] ∧ Blk w' (B + 1 + 1) 42 #[.int .i64 0] ∧ Hid (w' = V.drew)) (ds := []) #[false, false, false, false, false, false] (by kernel_rfl) rfl rfl ⟨kL, kA, kE, bL, bA, bE, Lib.hid rfl⟩ (fun hHeld => ?_)
      refine take_ (i := 0) (N := some 20) (v := ?_) (a' := ?_) #[true, false, false, false, false, false] rfl rfl (by kernel_rfl) (fun _ _ _ h => h) (Or.inl ⟨by rfl, ?_⟩) hHeld ?_ ?_
      rotate_left
      · rintro w' ⟨s0, s1, s2, s3, s4, s5, s6⟩
        go_simp
        with_reducible rfl
      rotate_left
      · simp only [Act.put, List.setIfInBounds_toArray, List.set_cons_zero, List.set_cons_succ, i64_w, i32_w]
        rfl
      refine take_ (i := 1) (N := some 21) (v := ?_) (a' := ?_) #[true, true, false, false, false, false] rfl rfl (by kernel_rfl) (fun _ _ _ h => h) (Or.inl ⟨by rfl, ?_⟩) hHeld ?_ ?_
      rotate_left
      · rintro w' ⟨s0, s1, s2, s3, s4, s5, s6⟩
        go_simp
        with_reducible rfl
      rotate_left
      · simp only [Act.put, List.setIfInBounds_toArray, List.set_cons_zero, List.set_cons_succ, i64_w, i32_w]
        rfl
      refine take_ (i := 2) (N := some 22) (v := ?_) (a' := ?_) #[true, true, true, false, false, false] rfl rfl (by kernel_rfl) (fun _ _ _ h => h) (Or.inl ⟨by rfl, ?_⟩) hHeld ?_ ?_
      rotate_left
      · rintro w' ⟨s0, s1, s2, s3, s4, s5, s6⟩
        go_simp
        with_reducible rfl
      rotate_left
      · simp only [Act.put, List.setIfInBounds_toArray, List.set_cons_zero, List.set_cons_succ, i64_w, i32_w]
        rfl
      refine one_ (i := 3) (N := none) #[true, true, true, true, false, false] rfl rfl (by kernel_rfl) (by decide) (fun K hK => ?_)
      refine skip_ (w1 := ?_) (by rfl) rfl ?_ ?_
      rotate_left
      · go_simp
        rfl
      rw [setCell_same bL]
      refine hK.out _ _ ⟨hHeld.1, hHeld.2.1, hHeld.2.2.1, hHeld.2.2.2.1, hHeld.2.2.2.2.1, hHeld.2.2.2.2.2.1, hHeld.2.2.2.2.2.2⟩ (fun hHeld => ?_)
      clear hK K
      refine one_ (i := 4) (N := none) #[true, true, true, true, true, false] rfl rfl (by kernel_rfl) (by decide) (fun K hK => ?_)
      refine skip_ (w1 := ?_) (by rfl) rfl ?_ ?_
      rotate_left
      · go_simp
        rfl
      rw [setCell_same bA]
      refine hK.out _ _ ⟨hHeld.1, hHeld.2.1, hHeld.2.2.1, hHeld.2.2.2.1, hHeld.2.2.2.2.1, hHeld.2.2.2.2.2.1, hHeld.2.2.2.2.2.2⟩ (fun hHeld => ?_)
      clear hK K
      refine one_ (i := 5) (N := none) #[true, true, true, true, true, true] rfl rfl (by kernel_rfl) (by decide) (fun K hK => ?_)
      refine skip_ (w1 := ?_) (by rfl) rfl ?_ ?_
      rotate_left
      · go_simp
        rfl
      rw [setCell_same bE]
      refine hK.out _ _ ⟨hHeld.1, hHeld.2.1, hHeld.2.2.1, hHeld.2.2.2.1, hHeld.2.2.2.2.1, hHeld.2.2.2.2.2.1, hHeld.2.2.2.2.2.2⟩ (fun hHeld => ?_)
      clear hK K
      refine done_ (by kernel_rfl) ?_
      refine hK9 _ _ ?_
      gi_wp2
      have hKD : V.drew.heap[D]? = some (.deferred (some [])) := hKV
      have hrow2 : ∀ r, some D = some r → w2.heap.size ≤ r ∧ ∃ o : Obj, V.drew.heap[r]? = some o ∧ o.isCells = false := fun r e => by
        cases e
        exact ⟨hD, _, hKD, rfl⟩
      have q0 := (Blk.rests (show Blk V.drew B _ _ from bL) (grownBy_putObj' V.drew D (.deferred none)) fun r e => .inr (hrow2 r e).2).cell 0 (v := .slice Av nv cv) rfl
      have q1 := (Blk.rests (show Blk V.drew (B + 1) _ _ from bA) (grownBy_putObj' V.drew D (.deferred none)) fun r e => .inr (hrow2 r e).2).cell 0 (v := .int .i64 ((xs.map (·.2.2)).sum : Nat)) rfl
      have q2 := (Blk.rests (show Blk V.drew (B + 1 + 1) _ _ from bE) (grownBy_putObj' V.drew D (.deferred none)) fun r e => .inr (hrow2 r e).2).cell 0 (v := .int .i64 0) rfl
      have hrD := Rowed.rests (show Rowed V.drew _ _ _ from hrV) (grownBy_putObj' V.drew D (.deferred none)) fun r e => .inr (hrow2 r e).2
      have hBD : Below w.heap.size w V.drew := hBV.drew
      have hBD2 := hBD.grown (grownBy_putObj' V.drew D (.deferred none)) hBD.size fun k e => by have := (hrow2 k e).1; have := hB2.size; omega
      have hx1 := HX.out
      have e1 : ((xs.map (·.2.2)).sum : Nat) = (mall l).2.1 := by
        unfold mall
        rw [← hx1]
        simp [List.map_map, Function.comp_def]
      have e2 : xs.map (·.2.1) = (mall l).1 := by
        unfold mall
        rw [← hx1]
        simp [List.map_map, Function.comp_def]
      have e3 : (mall l).2.2 = 0 := by
        unfold mall
        simp [HM.out]
      refine ⟨by simp, .inl ⟨_, _, rfl, run_takeDeferred hKD, .tuple #[.slice Av nv cv, .int .i64 ((xs.map (·.2.2)).sum : Nat), .int .i64 0], ?_, _, by rw [e1, e3], ⟨xs, e2, hrD.lower hB2.size, HDP.out⟩, hBD2⟩⟩
      simp [results, Tryd.f27, go_sem, q0, q1, q2]
    · have bL := hbL
      have bA := hbA
      have bE : Blk W (B + 1 + 1) 42 #[.int .i64 er] := hx2
      have hBV := hx3
      have hrV := hrow
      have hKV := hK
      have kE := k2
      have HE := Lib.hid he
      gi_wp2_with fail
      have fL := bL.frozen 0
      have fA := bA.frozen 0
      have fE := bE.frozen 0
      rename_i K9 hK9
      refine wpIn_wide.2 (wp_mono (Q := Exit.then K9 (fun _ _ _ => False)) ?_ (fun e a' w' h => by cases e <;> first | exact h | exact h.elim))
      refine start_ (n := 6) (S := fun w' => w'.cell? ⟨B, 0, none⟩ = some (.slice Av nv cv) ∧ w'.cell? ⟨B + 1, 0, none⟩ = some (.int .i64 ((xs.map (·.2.2)).sum : Nat)) ∧ w'.cell? ⟨B + 1 + 1, 0, none⟩ = some (.int .i64 er) ∧ Blk w' B 53 #[.slice Av nv cv] ∧ Blk w' (B + 1) 3 #[.int .i64 ((xs.map (·.2.2)).sum : Nat)] ∧ Blk w' (B + 1 + 1) 42 #[.int .i64 er] ∧ Hid (w' = W.drew)) (ds := []) #[false, false, false, false, false, false] (by kernel_rfl) rfl rfl ⟨kL, kA, kE, bL, bA, bE, Lib.hid rfl⟩ (fun hHeld => ?_)
      refine take_ (i := 0) (N := some 20) (v := ?_) (a' := ?_) #[true, false, false, false, false, false] rfl rfl (by kernel_rfl) (fun _ _ _ h => h) (Or.inl ⟨by rfl, ?_⟩) hHeld ?_ ?_
      rotate_left
      · rintro w' ⟨s0, s1, s2, s3, s4, s5, s6⟩
        go_simp
        with_reducible rfl
      rotate_left
      · simp only [Act.put, List.setIfInBounds_toArray, List.set_cons_zero, List.set_cons_succ, i64_w, i32_w]
        rfl
      refine take_ (i := 1) (N := some 21) (v := ?_) (a' := ?_) #[true, true, false, false, false, false] rfl rfl (by kernel_rfl) (fun _ _ _ h => h) (Or.inl ⟨by rfl, ?_⟩) hHeld ?_ ?_
      rotate_left
      · rintro w' ⟨s0, s1, s2, s3, s4, s5, s6⟩
        go_simp
        with_reducible rfl
      rotate_left
      · simp only [Act.put, List.setIfInBounds_toArray, List.set_cons_zero, List.set_cons_succ, i64_w, i32_w]
        rfl
      refine take_ (i := 2) (N := some 22) (v := ?_) (a' := ?_) #[true, true, true, false, false, false] rfl rfl (by kernel_rfl) (fun _ _ _ h => h) (Or.inl ⟨by rfl, ?_⟩) hHeld ?_ ?_
      rotate_left
      · rintro w' ⟨s0, s1, s2, s3, s4, s5, s6⟩
        go_simp
        with_reducible rfl
      rotate_left
      · simp only [Act.put, List.setIfInBounds_toArray, List.set_cons_zero, List.set_cons_succ, i64_w, i32_w]
        rfl
      refine one_ (i := 3) (N := none) #[true, true, true, true, false, false] rfl rfl (by kernel_rfl) (by decide) (fun K hK => ?_)
      refine skip_ (w1 := ?_) (by rfl) rfl ?_ ?_
      rotate_left
      · go_simp
        rfl
      rw [setCell_same bL]
      refine hK.out _ _ ⟨hHeld.1, hHeld.2.1, hHeld.2.2.1, hHeld.2.2.2.1, hHeld.2.2.2.2.1, hHeld.2.2.2.2.2.1, hHeld.2.2.2.2.2.2⟩ (fun hHeld => ?_)
      clear hK K
      refine one_ (i := 4) (N := none) #[true, true, true, true, true, false] rfl rfl (by kernel_rfl) (by decide) (fun K hK => ?_)
      refine skip_ (w1 := ?_) (by rfl) rfl ?_ ?_
      rotate_left
      · go_simp
        rfl
      rw [setCell_same bA]
      refine hK.out _ _ ⟨hHeld.1, hHeld.2.1, hHeld.2.2.1, hHeld.2.2.2.1, hHeld.2.2.2.2.1, hHeld.2.2.2.2.2.1, hHeld.2.2.2.2.2.2⟩ (fun hHeld => ?_)
      clear hK K
      refine one_ (i := 5) (N := none) #[true, true, true, true, true, true] rfl rfl (by kernel_rfl) (by decide) (fun K hK => ?_)
      refine skip_ (w1 := ?_) (by rfl) rfl ?_ ?_
      rotate_left
      · go_simp
        rfl
      rw [setCell_same bE]
      refine hK.out _ _ ⟨hHeld.1, hHeld.2.1, hHeld.2.2.1, hHeld.2.2.2.1, hHeld.2.2.2.2.1, hHeld.2.2.2.2.2.1, hHeld.2.2.2.2.2.2⟩ (fun hHeld => ?_)
      clear hK K
      refine done_ (by kernel_rfl) ?_
      refine hK9 _ _ ?_
      gi_wp2
      have hKD : W.drew.heap[D]? = some (.deferred (some [])) := hKV
      have hrow2 : ∀ r, some D = some r → w2.heap.size ≤ r ∧ ∃ o : Obj, W.drew.heap[r]? = some o ∧ o.isCells = false := fun r e => by
        cases e
        exact ⟨hD, _, hKD, rfl⟩
      have q0 := (Blk.rests (show Blk W.drew B _ _ from bL) (grownBy_putObj' W.drew D (.deferred none)) fun r e => .inr (hrow2 r e).2).cell 0 (v := .slice Av nv cv) rfl
      have q1 := (Blk.rests (show Blk W.drew (B + 1) _ _ from bA) (grownBy_putObj' W.drew D (.deferred none)) fun r e => .inr (hrow2 r e).2).cell 0 (v := .int .i64 ((xs.map (·.2.2)).sum : Nat)) rfl
      have q2 := (Blk.rests (show Blk W.drew (B + 1 + 1) _ _ from bE) (grownBy_putObj' W.drew D (.deferred none)) fun r e => .inr (hrow2 r e).2).cell 0 (v := .int .i64 er) rfl
      have hrD := Rowed.rests (show Rowed W.drew _ _ _ from hrV) (grownBy_putObj' W.drew D (.deferred none)) fun r e => .inr (hrow2 r e).2
      have hBD : Below w.heap.size w W.drew := hBV.drew
      have hBD2 := hBD.grown (grownBy_putObj' W.drew D (.deferred none)) hBD.size fun k e => by have := (hrow2 k e).1; have := hB2.size; omega
      have hx1 := HX.out
      have e1 : ((xs.map (·.2.2)).sum : Nat) = (mall l).2.1 := by
        unfold mall
        rw [← hx1]
        simp [List.map_map, Function.comp_def]
      have e2 : xs.map (·.2.1) = (mall l).1 := by
        unfold mall
        rw [← hx1]
        simp [List.map_map, Function.comp_def]
      have e3 : (mall l).2.2 = er := by
        unfold mall
        simp [HM.out, HE.out]
      refine ⟨by simp, .inl ⟨_, _, rfl, run_takeDeferred hKD, .tuple #[.slice Av nv cv, .int .i64 ((xs.map (·.2.2)).sum : Nat), .int .i64 er], ?_, _, by rw [e1, e3], ⟨xs, e2, hrD.lower hB2.size, HDP.out⟩, hBD2⟩⟩
      simp [results, Tryd.f27, go_sem, q0, q1, q2]

theorem marksAll (A : Option Addr) (c : Nat) (l : List Int) (w : World) (hr : Rd w A l) (hc : l.length ≤ c) (hlen : l.length ≤ 4398046511104) :
    Calls Tryd.prog 27 #[.slice A l.length c] w fun e w' => ∃ v, e = .returned (.tuple #[v, .int .i64 (mall l).2.1, .int .i64 (mall l).2.2]) ∧ OwnL w' w.heap.size v (mall l).1 ∧ Below w.heap.size w w' := by
  refine (marksAllD A c l w hr hc hlen).mono ?_
  rintro e w1 ⟨v, h1, ⟨ps, h2, h3, _⟩, h4⟩
  exact ⟨v, h1, ⟨ps, h2, h3⟩, h4⟩
end Go.Proofs.YtgkbfmbdpkkhnaaDoor.Hand
