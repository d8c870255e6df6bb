/- What replies.get hands back. -/
import Derived.Deep.DeepCutAuto
import Derived.Deep.Light
import Derived.Test.YtoodmjdafifbmaaDoorGet
import Derived.Test.YtoodmjdafifbmaaDoorRepFit
import Derived.Test.YtoodmjdafifbmaaDoorRepPut
namespace Go.Proofs.YtoodmjdafifbmaaDoor.Hand
open Go.RowKit
open Go.Maps (Keyed)
set_option linter.unusedVariables false
set_option linter.unusedSimpArgs false

def GetEnd (base : Nat) (r : GR) (e : Ending) (w' : World) : Prop := match r with
  | .ok how l => ∃ v, e = .returned (.tuple #[.int .u32 how, v, .int .i64 0]) ∧ OwnN w' base v l
  | .no k => e = .returned (.tuple #[.int .u32 0, .slice none 0 0, .int .i64 k])
theorem GetEnd.ok {base : Nat} {r : GR} {how : Int} {l : List Int} {v : Value} {e : Ending} {w' : World} (h : r = .ok how l) (he : e = .returned (.tuple #[.int .u32 how, v, .int .i64 0])) (ho : OwnN w' base v l) : GetEnd base r e w' := by
  subst h; exact ⟨v, he, ho⟩
theorem GetEnd.no {base : Nat} {r : GR} {k : Int} {e : Ending} {w' : World} (h : r = .no k) (he : e = .returned (.tuple #[.int .u32 0, .slice none 0 0, .int .i64 k])) : GetEnd base r e w' := by
  subst h; exact he

def rowCells (g : Nat → Nat) (x : Int) : Array Value := #[.slice (some ⟨g (ixOf x), 0, none⟩) (fixedOf x).length (fixedOf x).length, .int .i64 (toldOf x), .bool (decide (x = 0))]
/-- Ahead of a round: so many numbers have been read. -/
structure GInv (w : World) (L : List Int) (b : Nat) (g : Nat → Nat) (gk : Nat) (how : Int) (l : List Int) (lv : Value) (wr : World) : Prop where
  h0 : 0 ≤ how
  h1 : how < 4294967296
  own : OwnN wr w.heap.size lv l
  map : MapAt wr b g (fits l)
  nums : NumsAt wr g
  below : Below w.heap.size w wr
  apart : ∀ k ∈ keysL, some (g (ixOf k)) ≠ lv.ownBlock
  len : 4 * l.length ≤ L.length
  left : L.length - 4 * l.length < gk
  run : runG gk l (L.drop (4 * l.length)) = runG (L.length + 1) [] L
  one : ∀ x, keysOf l = [x] → how = x
  base : w.heap.size ≤ b
  gb : ∀ k ∈ keysL, b < g (ixOf k)

theorem GInv.later {w : World} {L : List Int} {b : Nat} {g : Nat → Nat} {gk : Nat} {how : Int} {l : List Int} {lv : Value} {wr wx : World} (h : GInv w L b g gk how l lv wr) (hb : Below wr.heap.size wr wx) : GInv w L b g gk how l lv wx :=
  ⟨h.h0, h.h1, h.own.below hb, h.map.below hb, h.nums.below hb, below_then h.below hb, h.apart, h.len, h.left, h.run, h.one, h.base, h.gb⟩

theorem row_small (k : Int) : (fixedOf k).length ≤ 4 ∧ 0 ≤ toldOf k ∧ toldOf k ≤ 2 := by
  refine ⟨?_, ?_, ?_⟩
  · unfold fixedOf
    split
    · simp
    · split <;> simp
  · unfold toldOf
    split
    · simp
    · split <;> simp
  · unfold toldOf
    split
    · simp
    · split <;> simp
theorem doneKey_one {l : List Int} {k : Int} (hk : k ∈ keysOf l) (h : (keysOf l).length = 1) : doneKey l = if (l.length : Int) = 2 + (fixedOf k).length + toldOf k then some k else none := by
  unfold doneKey
  generalize keysOf l = ks at *
  match ks, h with
  | [x], _ =>
    obtain rfl : k = x := by simpa using hk
    rfl
theorem doneKey_many {l : List Int} (h : ¬ (keysOf l).length = 1) : doneKey l = none := by
  unfold doneKey
  generalize keysOf l = ks at *
  match ks, h with
  | [], _ => rfl
  | [x], h => exact absurd rfl h
  | x :: y :: r, _ => rfl
theorem doneKey_out {l : List Int} {k : Int} (hk : ¬ k ∈ keysOf l) (h : ∀ x, keysOf l = [x] → k = x) : doneKey l = none := by
  refine doneKey_many fun e => ?_
  match hks : keysOf l, e with
  | [x], _ =>
    have := h x hks
    subst this
    rw [hks] at hk
    exact hk (by simp)

theorem GInv.done {w : World} {L : List Int} {b : Nat} {g : Nat → Nat} {gk : Nat} {how : Int} {l : List Int} {lv : Value} {wr : World} (h : GInv w L b g gk how l lv wr) {x : Int} (hx : doneKey l = some x) : how = x := by
  refine h.one x ?_
  unfold doneKey at hx
  generalize keysOf l = ks at *
  match ks, hx with
  | [], hx => cases hx
  | [y], hx =>
    simp only [] at hx
    split at hx
    · injection hx with hx; rw [hx]
    · cases hx
  | y :: z :: r, hx => cases hx

theorem MapAt.not_own {w : World} {b : Nat} {g : Nat → Nat} {p : Int → Bool} (h : MapAt w b g p) {base : Nat} {v : Value} {l : List Int} (ho : OwnN w base v l) : some b ≠ v.ownBlock := by
  intro e
  obtain ⟨cs, hc⟩ := ho.cells e.symm
  obtain ⟨es, clock, hm, _⟩ := h
  rw [hm] at hc
  cases hc

/-- In a round: one number more has been read. -/
structure GMid (w : World) (b : Nat) (g : Nat → Nat) (l' : List Int) (p : Int → Bool) (lv : Value) (wr : World) : Prop where
  own : OwnN wr w.heap.size lv l'
  map : MapAt wr b g p
  nums : NumsAt wr g
  below : Below w.heap.size w wr
  apart : ∀ k ∈ keysL, some (g (ixOf k)) ≠ lv.ownBlock
theorem NumsAt.kept {w w' : World} {g : Nat → Nat} {row : Option Nat} (h : NumsAt w g) (hg : w.grownBy w' row) (hn : ∀ k ∈ keysL, some (g (ixOf k)) ≠ row) : NumsAt w' g := fun k hk => (h k hk).grown hg (hn k hk)
theorem GMid.turn {w : World} {b : Nat} {g : Nat → Nat} {l' : List Int} {p q : Int → Bool} {lv : Value} {wr : World} (h : GMid w b g l' p lv wr) (hp : ∀ k ∈ keysL, p k = q k) : GMid w b g l' q lv wr :=
  ⟨h.own, by have hm := h.map; unfold MapAt at hm ⊢; rw [← mapP_congr g hp]; exact hm, h.nums, h.below, h.apart⟩
theorem GMid.turned {w : World} {b : Nat} {g : Nat → Nat} {l' : List Int} {p q : Int → Bool} {lv : Value} {wc wr : World} (h : GMid w b g l' p lv wc) (hg : wc.grownBy wr (some b)) (hm : MapAt wr b g q) (gb : ∀ k ∈ keysL, b < g (ixOf k)) (hb : w.heap.size ≤ b) : GMid w b g l' q lv wr :=
  ⟨h.own.kept hg (fun j hj e => h.map.not_own h.own (by rw [e, hj])), hm, h.nums.kept hg (fun k hk e => by injection e with e; have := gb k hk; omega),
    h.below.grown hg h.below.size (fun k hk => by cases hk; exact hb), h.apart⟩
theorem GMid.later {w : World} {b : Nat} {g : Nat → Nat} {l' : List Int} {p : Int → Bool} {lv : Value} {wc wr : World} (h : GMid w b g l' p lv wc) (hg : wc.grownBy wr none) (hm : MapAt wr b g p) : GMid w b g l' p lv wr :=
  ⟨h.own.kept hg (fun j hj e => by cases e), hm, h.nums.kept hg (fun k hk e => by cases e), h.below.grown hg h.below.size (fun k hk => by cases hk), h.apart⟩
theorem keep_step {l : List Int} {i : Nat} {n x : Int} {left : Lit → Bool} (h : fitAt i n x = true) (k : Int) :
    (fits l k && (left (.int .u32 k) || fitAt i n k)) = (fits l k && ((left (.int .u32 k) && !(Lit.int .u32 k).sameKey (.int .u32 x)) || fitAt i n k)) := by
  by_cases hk : k = x
  · subst hk; rw [h]; simp
  · have e : (Lit.int .u32 k).sameKey (.int .u32 x) = false := by simp [Lit.sameKey, hk]
    rw [e]; simp
theorem del_step {l : List Int} {i : Nat} {n x : Int} {left : Lit → Bool} (h : fitAt i n x = false) (k : Int) :
    (fits l k && (left (.int .u32 k) || fitAt i n k) && !decide (k = x)) = (fits l k && ((left (.int .u32 k) && !(Lit.int .u32 k).sameKey (.int .u32 x)) || fitAt i n k)) := by
  by_cases hk : k = x
  · subst hk; rw [h]; simp [Lit.sameKey]
  · have e : (Lit.int .u32 k).sameKey (.int .u32 x) = false := by simp [Lit.sameKey, hk]
    rw [e]; simp [hk]
theorem keysOf_one {l : List Int} {hw : Int} (hone : ∀ x, keysOf l = [x] → hw = x) (h : (keysOf l).length = 1) : keysOf l = [hw] := by
  match hks : keysOf l, h with
  | [x], _ => rw [hone x hks]
theorem badEnd_false {l : List Int} {hw : Int} {c : Prop} (hone : ∀ x, keysOf l = [x] → hw = x) (h0 : ¬ (keysOf l).length = 0) (h : hw ≠ 101 ∨ ¬ (keysOf l).length = 1 ∨ ¬ c) : ¬ (keysOf l = [] ∨ (keysOf l = [101] ∧ c)) := by
  rintro (e | ⟨e, hc⟩)
  · rw [e] at h0; exact h0 rfl
  · rcases h with h | h | h
    · exact h (hone _ e)
    · rw [e] at h; exact h rfl
    · exact h hc
theorem GInv.mid {w : World} {L : List Int} {b : Nat} {g : Nat → Nat} {gk : Nat} {how : Int} {l : List Int} {A3 : Option Addr} {c3 ll : Nat} {wc wa w5 : World} {n : Int} {v5 : Value}
    (h : GInv w L b g gk how l (.slice A3 l.length c3) wc) (hnb : 0 ≤ n ∧ n < 4294967296) (hal : Below wc.heap.size wc wa) (hll : ll = l.length) (ho : OwnN wa w.heap.size (.slice A3 ll c3) l)
    (hg : wa.grownBy w5 (Value.slice A3 ll c3).ownBlock) (ho5 : OwnN w5 w.heap.size v5 (l ++ [n])) (hv : v5.ownBlock = (Value.slice A3 ll c3).ownBlock ∨ v5.ownBlock = some wa.heap.size) : GMid w b g (l ++ [n]) (fits l) v5 w5 := by
  subst hll
  have hm := h.map.below hal
  have hn := h.nums.below hal
  have hb := below_then h.below hal
  refine ⟨ho5, World.ownsMap.kept hm hg (hm.not_own ho), hn.kept hg h.apart, hb.grown hg hb.size ho.base, fun k hk => ?_⟩
  rcases hv with e | e
  · rw [e]; exact h.apart k hk
  · rw [e]
    intro e2
    have := (hn k hk).lt
    injection e2 with e2
    omega

set_option maxRecDepth 100000 in
set_option maxHeartbeats 4000000 in
theorem get_ (A : Option Addr) (c : Nat) (L : List Int) (w : World) (hr : Rd w A L) (hc : L.length ≤ c) (hn : L.length ≤ 1048576) :
    Calls Tryd.prog 56 #[.slice A L.length c] w fun e w' => GetEnd w.heap.size (runG (L.length + 1) [] L) e w' ∧ Below w.heap.size w w' := by
  go_enter Tryd.func56, Tryd.ntmps56
  go_wp2_with fail
  refine (rows_all w).mono ?_
  rintro e w1 ⟨b, g, rfl, hbb, hgk, hM, hN, hB⟩
  have hinv : GInv w L b g (L.length + 1) 0 [] (.slice none 0 0) w1 := ⟨by omega, by omega, OwnN.nil _ _, by
      unfold MapAt at hM ⊢
      rw [mapP_congr g (q := fits []) (fun k _ => by rw [fits_early (by simp)])] at hM
      exact hM, hN, hB, fun k _ => by simp [Value.ownBlock], by simp, by simp, by simp, fun x h => by
      have e : keysOf [] = keysL := by unfold keysOf; exact List.filter_eq_self.2 (fun k _ => fits_early (by simp) k)
      rw [e] at h; unfold keysL at h; exact absurd (congrArg List.length h) (by simp), hbb, hgk⟩
  clear hM hN hB hgk
  go_wp2_with fail
  go_loopg [2, 3] (L.length + 1) (fun gk h lv wr => ∃ how l, h = .int .u32 how ∧ GInv w L b g gk how l lv wr)
  case atStart => exact ⟨0, [], rfl, hinv⟩
  case round =>
    obtain ⟨how, l, rfl, hI⟩ := hrel
    clear hinv hbb
    have hl2 := look2 hI.map hI.h0 hI.h1
    have HI := Lib.hid hI
    clear hI
    go_upto_region 2 with fail
    go_cut [2, 3, 6, 7] (fun h lw x ok wx => ∃ px, h = .int .u32 how ∧ lw = u3 ∧ x = .pointer (some ⟨px, 0, none⟩) ∧ ok = .bool (decide (how ∈ keysOf l)) ∧ (how ∈ keysOf l → Blk wx px 68 (rowCells g how)) ∧ GInv w L b g gk how l u3 wx)
    case first =>
      have B0 := Blk.new wr 68 #[.slice none 0 0, .int .i64 0, .bool false]
      have c0 := B0.cell 0 (v := .slice none 0 0) rfl
      have c1 := B0.cell 1 (v := .int .i64 0) rfl
      have c2 := B0.cell 2 (v := .bool false) rfl
      have f0 := B0.frozen 0
      have f1 := B0.frozen 1
      have f2 := B0.frozen 2
      by_cases hk : how ∈ keysOf l
      · have hk' : how ∈ keysL.filter (fits l) := hk
        rw [if_pos hk', decide_eq_true hk', rowK_agg, rowAgg] at hl2
        have HK := Lib.hid hk
        clear hk hk'
        go_wp2_with fail
        go_meet
        exact ⟨_, rfl, rfl, rfl, by rw [decide_eq_true HK.out], fun _ => Blk.new wr 68 (rowCells g how), HI.out.later ((Below.refl _ wr).alloc (Nat.le_refl _) _)⟩
      · have hk' : ¬ how ∈ keysL.filter (fits l) := hk
        rw [if_neg hk', decide_eq_false hk', rowZ] at hl2
        have HK := Lib.hid hk
        clear hk hk'
        go_wp2_with fail
        go_meet
        exact ⟨_, rfl, rfl, rfl, by rw [decide_eq_false HK.out], fun h => absurd h HK.out, HI.out.later ((Below.refl _ wr).alloc (Nat.le_refl _) _)⟩
    case rest =>
      clear hl2 HI
      obtain ⟨px, rfl, rfl, rfl, rfl, hpx, hI⟩ := hcut
      have hlen := len_rows hI.map 3
      obtain ⟨A3, c3, rfl, hc3, _, hr3⟩ := hI.own.form
      go_upto_region 3 with fail
      go_cut [7, 38] (fun _ t wx => t = .bool (doneKey l).isSome ∧ wx = wc)
      case first =>
        by_cases hk : how ∈ keysOf l
        · have hb := hpx hk
          have c0 := hb.cell 0 (v := .slice (some ⟨g (ixOf how), 0, none⟩) (fixedOf how).length (fixedOf how).length) rfl
          have c1 := hb.cell 1 (v := .int .i64 (toldOf how)) rfl
          obtain ⟨hn4, ht0, ht2⟩ := row_small how
          by_cases h1 : (keysOf l).length = 1
          · have hd := doneKey_one hk h1
            rw [decide_eq_true hk]
            have h1' : (((keysL.filter (fits l)).length : Nat) : Int) = 1 := by
              have e : (keysL.filter (fits l)).length = 1 := h1
              rw [e]; rfl
            rw [h1'] at hlen
            have HD := Lib.hid hd
            generalize (fixedOf how).length = fn at *
            generalize toldOf how = ft at *
            generalize l.length = ll at *
            clear hI hk h1 hd h1' hpx hb
            by_cases he : (ll : Int) = 2 + (fn : Int) + ft
            · have HE := Lib.hid he
              have he' : ((ll : Int) == 2 + (fn : Int) + ft) = true := beq_iff_eq.2 he
              clear he
              go_wp2_with fail
              go_meet
              exact ⟨by rw [HD.out, if_pos HE.out]; rfl, rfl⟩
            · have HE := Lib.hid he
              have he' : ((ll : Int) == 2 + (fn : Int) + ft) = false := beq_eq_false_iff_ne.2 he
              clear he
              go_wp2_with fail
              go_meet
              exact ⟨by rw [HD.out, if_neg HE.out]; rfl, rfl⟩
          · have HD := Lib.hid (doneKey_many h1)
            rw [decide_eq_true hk]
            obtain ⟨N, hN⟩ : ∃ N, N = (keysL.filter (fits l)).length := ⟨_, rfl⟩
            have h1' : ((N : Int) == 1) = false := by
              rw [beq_eq_false_iff_ne, hN]
              intro e
              exact h1 (by have : (keysOf l).length = (keysL.filter (fits l)).length := rfl; omega)
            rw [← hN] at hlen
            clear hI hk h1 hpx hb hN
            go_wp2_with fail
            go_meet
            exact ⟨by rw [HD.out]; rfl, rfl⟩
        · have HD := Lib.hid (doneKey_out hk hI.one)
          rw [decide_eq_false hk]
          clear hI hk hpx hlen
          go_wp2_with fail
          go_meet
          exact ⟨by rw [HD.out]; rfl, rfl⟩
      case rest =>
        obtain ⟨rfl, rfl⟩ := hcut
        clear hlen hpx
        obtain ⟨f, rfl⟩ : ∃ f, gk = f + 1 := ⟨gk - 1, by have := hI.left; omega⟩
        have hrun := hI.run
        by_cases hd : ∃ x, doneKey l = some x
        · obtain ⟨x, hd⟩ := hd
          obtain rfl := hI.done hd
          rw [runG_done hd] at hrun
          rw [hd]
          have HI := Lib.hid hI
          have HR := Lib.hid hrun
          clear hI hrun hd
          go_wp2_with fail
          go_ret3
          exact ⟨GetEnd.ok HR.out.symm rfl HI.out.own, HI.out.below⟩
        · have hd : doneKey l = none := by
            cases h : doneKey l with
            | none => rfl
            | some x => exact absurd ⟨x, h⟩ hd
          rw [hd]
          have HD := Lib.hid hd
          have hlen := hI.len
          have hrw := hr.below hI.below
          obtain ⟨ll, hll⟩ : ∃ ll, ll = l.length := ⟨_, rfl⟩
          rw [← hll] at hlen hc3 ⊢
          have HL := Lib.hid hll
          have HI := Lib.hid hI
          have HR := Lib.hid hrun
          clear hI hrun hd hll
          have hq : (L.drop (4 * ll)).length = L.length - 4 * ll := List.length_drop
          have hq' : (L.drop (4 * ll)).length ≤ c - 4 * ll := by omega
          go_upto_region 5 with fail
          go_cut [8, 9] (fun x e wx => x = .int .u32 (get32F (L.drop (4 * ll))).1 ∧ e = .int .i64 (get32F (L.drop (4 * ll))).2 ∧ wx = wc)
          case first =>
            have hdr := hrw.drop (4 * ll) c hc
            have g4 := fun wx h => Get (if c = 4 * ll then A else A.map (·.add (4 * ll))) (c - 4 * ll) (L.drop (4 * ll)) wx h hq'
            rw [hq] at g4
            clear hq hq'
            by_cases hcz : c = 4 * ll
            · rw [if_pos hcz] at hdr
              rw [if_pos hcz] at g4
              have hz' : L.length - 4 * ll = 0 := by omega
              have hz'' : c - 4 * ll = 0 := by omega
              rw [hz', hz''] at g4
              subst hcz
              go_wp2_with fail
              refine (g4 _ hdr).mono ?_
              rintro e w2 ⟨rfl, rfl⟩
              go_wp2_with fail
              go_meet
              exact ⟨rfl, rfl, rfl⟩
            · rw [if_neg hcz] at hdr
              rw [if_neg hcz] at g4
              go_wp2_with fail
              refine (g4 _ hdr).mono ?_
              rintro e w2 ⟨rfl, rfl⟩
              go_wp2_with fail
              go_meet
              exact ⟨rfl, rfl, rfl⟩
          case rest =>
            obtain ⟨rfl, rfl, rfl⟩ := hcut
            clear hrw hr3
            by_cases hsh : L.length - 4 * ll < 4
            · rw [get32_short (by rw [hq]; exact hsh)]
              go_wp2_with fail
              go_ret3
              exact ⟨GetEnd.no (HR.out.symm.trans (runG_short HD.out (by rw [← HL.out, hq]; exact hsh))) rfl, HI.out.below⟩
            · rw [get32_ok (by rw [hq]; omega)]
              have hnb := num4 (hr.drop (4 * ll) c hc).1
              obtain ⟨n, hn⟩ : ∃ n, n = num (L.drop (4 * ll)) 4 := ⟨_, rfl⟩
              rw [← hn] at hnb ⊢
              have HN := Lib.hid hn
              have HS := Lib.hid hsh
              have HQ := Lib.hid hq
              clear hn hsh hq
              have ho : OwnN (wc.alloc (.cells #[.int .u32 n] 22)) w.heap.size (.slice A3 ll c3) l := by
                rw [HL.out]
                exact HI.out.own.below ((Below.refl _ wc).alloc (Nat.le_refl _) _)
              have hs : RdN (wc.alloc (.cells #[.int .u32 n] 22)) (some ⟨wc.heap.size, 0, none⟩) [n] := RdN.of_blk (l := [n]) (fun x hx => by
                obtain rfl : x = n := by simpa using hx
                exact hnb) (Blk.new wc 22 #[.int .u32 n])
              have hall : l.length + [n].length ≤ 35184372088832 := by
                rw [← HL.out]; simp; omega
              have hbase : w.heap.size ≤ (wc.alloc (.cells #[.int .u32 n] 22)).heap.size := by
                have := HI.out.below.size
                simp
                omega
              have hal : (Below wc.heap.size wc (wc.alloc (.cells #[.int .u32 n] 22))) := (Below.refl _ wc).alloc (Nat.le_refl _) _
              have HAL := Lib.hid hal
              clear hal
              go_upto_region 8 with fail
              go_wp2_with (at_builtin; refine wpList_appN rfl _ _ rfl rfl _ w.heap.size _ l (by rfl) ho (some ⟨wc.heap.size, 0, none⟩) 1 [n] (by rfl) hs hall hbase ?h2)
              case h2 =>
                intro v5 w5 ho5 hg5 hv5
                have hm5 := HI.out.mid hnb HAL.out HL.out ho hg5 ho5 (by rw [World.size_alloc]; exact hv5)
                clear ho hs hall hbase hg5 ho5 hv5 HAL
                obtain ⟨A5, c5, rfl, _, _, _⟩ := hm5.own.form
                have hl5 : (l ++ [n]).length = ll + 1 := by rw [HL.out]; simp
                rw [hl5] at hm5 ⊢
                clear hl5
                have HM := Lib.hid hm5
                clear hm5
                go_upto_region 9 with fail
                go_cut [10] (fun t wx => t = .int .i64 ((ll : Int) - 2) ∧ wx = w5)
                case first =>
                  go_wp2_with fail
                  go_meet
                  exact ⟨by go_num, rfl⟩
                case rest =>
                  obtain ⟨rfl, rfl⟩ := hcut
                  go_upto_region 10 with fail
                  go_cut [65] (fun t wx => t = .bool (decide (ll = 1 ∧ n ≠ 1)) ∧ wx = wc)
                  case first =>
                    by_cases h1 : ll = 1
                    · subst h1
                      by_cases hn1 : n = 1
                      · have hh := decide_eq_false (p := (1 : Nat) = 1 ∧ n ≠ 1) (fun h => h.2 hn1)
                        have HH := Lib.hid hh
                        have hn1' : (n != 1) = false := by simp [hn1]
                        clear hh hn1
                        go_wp2_with fail
                        go_meet
                        exact ⟨by rw [HH.out], rfl⟩
                      · have hh := decide_eq_true (p := (1 : Nat) = 1 ∧ n ≠ 1) ⟨rfl, hn1⟩
                        have HH := Lib.hid hh
                        have hn1' : (n != 1) = true := by simp [hn1]
                        clear hh hn1
                        go_wp2_with fail
                        go_meet
                        exact ⟨by rw [HH.out], rfl⟩
                    · have hh := decide_eq_false (p := ll = 1 ∧ n ≠ 1) (fun h => h1 h.1)
                      have HH := Lib.hid hh
                      have h1' : ((ll : Int) - 2 == -1) = false := by rw [beq_eq_false_iff_ne]; omega
                      clear hh h1
                      go_wp2_with fail
                      go_meet
                      exact ⟨by rw [HH.out], rfl⟩
                  case rest =>
                    obtain ⟨rfl, rfl⟩ := hcut
                    by_cases h2 : ll = 1 ∧ n ≠ 1
                    · rw [decide_eq_true h2]
                      have H2 := Lib.hid h2
                      clear h2
                      go_wp2_with fail
                      go_ret3
                      exact ⟨GetEnd.no (HR.out.symm.trans (runG_two HD.out (by rw [← HL.out, HQ.out]; exact HS.out) (by rw [← HL.out, ← HN.out]; exact H2.out))) rfl, HM.out.below⟩
                    · rw [decide_eq_false h2]
                      have H2 := Lib.hid h2
                      clear h2
                      go_upto_if 67 with fail
                      go_cut [10, 67] (fun _ _ wx => GMid w b g (l ++ [n]) (fits (l ++ [n])) (.slice A5 (ll + 1) c5) wx)
                      case first =>
                        by_cases h3 : ll < 2
                        · have h3' : ¬ (0 : Int) ≤ (ll : Int) - 2 := by omega
                          have HF := Lib.hid (show ∀ k ∈ keysL, fits l k = fits (l ++ [n]) k from fun k _ => by rw [fits_early (by rw [← HL.out]; omega), fits_early (by simp; rw [← HL.out]; omega)])
                          clear h3
                          go_wp2_with fail
                          go_meet
                          exact HM.out.turn HF.out
                        · obtain ⟨i, rfl⟩ : ∃ i, ll = i + 2 := ⟨ll - 2, by omega⟩
                          have hi : ((i + 2 : Nat) : Int) - 2 = (i : Int) := by omega
                          rw [hi]
                          have h3' : (0 : Int) ≤ (i : Int) := by omega
                          have hmap := HM.out.map
                          clear h3 hi
                          go_wp2_with (at_range; refine wpList_range_rows _ rfl _ rfl b g (fits l) rfl hmap ?hr)
                          case hr =>
                            intro w6 hit hg6 hs6
                            have H6 := Lib.hid hg6
                            have HT := Lib.hid (hit.step (q := fun x => fits l x && (Maps.has (mapP g (fits l)) (.int .u32 x) || fitAt i n x)) (fun k hk => by
                              rw [has_mapP]
                              cases hf : fits l k
                              · rfl
                              · rw [decide_eq_true (List.mem_filter.2 ⟨hk, hf⟩)]; rfl) (fun _ => rfl))
                            clear hit hg6 hmap
                            try go_frame
                            go_wp2_with fail
                            go_loopg [70] ((keysL.filter (fits l)).length) (fun k _ wr => ∃ left, MapIt wr b wc.heap.size g (fun x => fits l x && (left (.int .u32 x) || fitAt i n x)) left k ∧ wc.grownBy wr (some b) ∧ wc.heap.size < wr.heap.size)
                            case atStart => exact ⟨_, HT.out, H6.out.but _, by omega⟩
                            case round =>
                              obtain ⟨left, hit, hgw, hsz⟩ := hrel
                              go_wp2_with (at_next; refine wpList_next_rows _ rfl _ rfl b wc.heap.size g _ left gk rfl hit ?hd ?hm)
                              case hd =>
                                intro _ hl0
                                go_wp2_with fail
                                go_meet
                                exact HM.out.turned hgw ((hit.step (q := fits (l ++ [n])) (fun k _ => by
                                  rw [hl0, Bool.false_or, fits_snoc (by rw [← HL.out]; omega), ← HL.out, Nat.add_sub_cancel]) (fun _ => rfl)).owns) HI.out.gb HI.out.base
                              case hm =>
                                intro x w7 cnt' hxk hxp _ hxl hit7 hlt hg7 hs7 hen
                                unfold rowAgg at hen
                                have hgx : wc.grownBy w7 (some b) := hgw.andThen hg7 (fun j hj => by cases hj; exact .inl (Nat.le_refl _))
                                have hgx8 : wc.grownBy (w7.alloc (.cells (rowCells g x) 68)) (some b) := hgx.andThen (World.grownBy_alloc w7 _ none) (fun j hj => by cases hj)
                                have hit8 : MapIt (w7.alloc (.cells (rowCells g x) 68)) b wc.heap.size g _ _ cnt' := World.ranges.alloc hit7 (.cells (rowCells g x) 68)
                                have hblk := (HM.out.nums x hxk).grown hgx8 (by intro e; injection e with e; have := HI.out.gb x hxk; omega)
                                obtain ⟨hx0, hx1⟩ := keys_u32 hxk
                                have hsz8 : wc.heap.size < (w7.alloc (.cells (rowCells g x) 68)).heap.size := by simp; omega
                                unfold rowCells at hgx8 hit8 hblk hsz8
                                have hcell := fun (hif : i < (fixedOf x).length) => hblk.cell i (v := .int .u32 (nth (fixedOf x) i)) (by rw [List.getElem?_toArray, List.getElem?_map, List.getElem?_eq_getElem hif, gd _ _ hif]; rfl)
                                have hfit : fitAt i n x = (decide (¬ i < (fixedOf x).length) || decide (nth (fixedOf x) i = n)) := rfl
                                have hrow4 := (row_small x).1
                                have HG := Lib.hid hgx8
                                have HT8 := Lib.hid hit8
                                have HSZ := Lib.hid hsz8
                                have HX := Lib.hid (And.intro hxk (And.intro hlt (And.intro hx0 hx1)))
                                clear hit hgw hsz hxk hxp hxl hit7 hlt hg7 hs7 hgx hgx8 hit8 hblk hsz8
                                by_cases hif : i < (fixedOf x).length
                                · have hc8 := hcell hif
                                  have hif' : (i : Int) < ((fixedOf x).length : Int) := by omega
                                  rw [decide_eq_false (by simpa using hif), Bool.false_or] at hfit
                                  clear hcell
                                  generalize (fixedOf x).length = fn at *
                                  generalize nth (fixedOf x) i = y at *
                                  by_cases hy : y = n
                                  · subst hy
                                    rw [decide_eq_true rfl] at hfit
                                    have HF := Lib.hid hfit
                                    have hyn : (y != y) = false := by simp
                                    clear hfit
                                    go_wp2_with fail
                                    go_roundg cnt'
                                    case measure => exact HX.out.2.1
                                    case rel => exact ⟨_, HT8.out.step (fun k _ => keep_step HF.out k) (fun _ => rfl), HG.out, HSZ.out⟩
                                  · rw [decide_eq_false hy] at hfit
                                    have HF := Lib.hid hfit
                                    have hyn : (y != n) = true := by simp [hy]
                                    clear hfit hy
                                    go_wp2_with (at_delete; refine wpList_delete_rows _ rfl _ _ rfl b wc.heap.size g _ _ cnt' rfl HT8.out x HX.out.2.2.1 HX.out.2.2.2 rfl ?hdel)
                                    case hdel =>
                                      intro w9 cnt9 hit9 hle9 hg9
                                      have HG9 := Lib.hid (HG.out.andThen hg9 (fun j hj => .inr hj))
                                      have HS9 := Lib.hid (Nat.lt_of_lt_of_le HSZ.out hg9.size)
                                      have HT9 := Lib.hid hit9
                                      have HL9 := Lib.hid (Nat.lt_of_le_of_lt hle9 HX.out.2.1)
                                      clear hit9 hle9 hg9
                                      go_wp2_with fail
                                      go_roundg cnt9
                                      case measure => exact HL9.out
                                      case rel => exact ⟨_, HT9.out.step (fun k _ => del_step HF.out k) (fun _ => rfl), HG9.out, HS9.out⟩
                                · have hif' : ¬ (i : Int) < ((fixedOf x).length : Int) := by omega
                                  rw [decide_eq_true hif, Bool.true_or] at hfit
                                  have HF := Lib.hid hfit
                                  clear hfit hcell
                                  generalize (fixedOf x).length = fn at *
                                  go_wp2_with fail
                                  go_roundg cnt'
                                  case measure => exact HX.out.2.1
                                  case rel => exact ⟨_, HT8.out.step (fun k _ => keep_step HF.out k) (fun _ => rfl), HG.out, HSZ.out⟩
                      case rest =>
                        have HC := Lib.hid hcut
                        have hmap := hcut.map
                        clear hcut HM
                        obtain ⟨l', hl'⟩ : ∃ l', l' = l ++ [n] := ⟨_, rfl⟩
                        rw [← hl'] at HC hmap
                        have HLL := Lib.hid hl'
                        clear hl'
                        go_wp2_with (at_range; refine wpList_range_rows _ rfl _ rfl b g (fits l') rfl hmap ?hr2)
                        case hr2 =>
                          intro w6 hit hg6 hs6
                          have H6 := Lib.hid hg6
                          have HT := Lib.hid hit
                          have HU := Lib.hid (And.intro HI.out.h0 HI.out.h1)
                          clear hit hg6 hmap hs6
                          try go_frame
                          go_wp2_with fail
                          go_loopg [2] ((keysL.filter (fits l')).length) (fun k h wr => ∃ left hw, h = .int .u32 hw ∧ 0 ≤ hw ∧ hw < 4294967296 ∧ MapIt wr b wc.heap.size g (fits l') left k ∧ wc.grownBy wr none ∧ (∀ x, keysOf l' = [x] → left (.int .u32 x) = true ∨ hw = x))
                          case atStart => exact ⟨_, how, rfl, HU.out.1, HU.out.2, HT.out, H6.out, fun x hx => .inl (by
                            rw [has_mapP]
                            refine decide_eq_true ?_
                            have e : keysL.filter (fits l') = keysOf l' := rfl
                            rw [e, hx]; simp)⟩
                          case round =>
                            obtain ⟨left, hw, rfl, hw0, hw1, hit, hgw, hlx⟩ := hrel
                            have HX := Lib.hid hlx
                            clear hlx HU H6
                            go_wp2_with (at_next; refine wpList_next_rows _ rfl _ rfl b wc.heap.size g _ left gk rfl hit ?hd2 ?hm2)
                            case hm2 =>
                              intro x w7 cnt' hxk hxp hxl hit7 hlt hg7 hs7 hen
                              unfold rowAgg at hen
                              obtain ⟨hx0, hx1⟩ := keys_u32 hxk
                              have HA := Lib.hid (And.intro hxk (And.intro hxp (And.intro hlt (hgw.andThen hg7 (fun j hj => by cases hj; exact .inl (Nat.le_refl _))))))
                              have HB := Lib.hid hit7
                              clear hit hgw hxk hxp hxl hit7 hlt hg7 hs7
                              go_wp2_with fail
                              go_roundg cnt'
                              case measure => exact HA.out.2.2.1
                              case rel =>
                                refine ⟨_, x, rfl, hx0, hx1, HB.out, HA.out.2.2.2, fun y hy => .inr ?_⟩
                                have hm : x ∈ keysOf l' := List.mem_filter.2 ⟨HA.out.1, HA.out.2.1⟩
                                rw [hy] at hm
                                simpa using hm
                            case hd2 =>
                              intro _ hl0
                              have hone : ∀ x, keysOf l' = [x] → hw = x := fun x hx => by
                                rcases HX.out x hx with h | h
                                · rw [hl0] at h; cases h
                                · exact h
                              have HM := Lib.hid (HC.out.later hgw hit.owns)
                              have HO := Lib.hid hone
                              clear hit hgw hl0 hone HX HC
                              have hlen := len_rows HM.out.map 3
                              go_upto_region 22 with fail
                              go_cut [119] (fun t wx => t = .bool (decide (keysOf l' = [] ∨ (keysOf l' = [101] ∧ ll = 4 ∧ ¬ (1 ≤ n ∧ n ≤ 7)))) ∧ wx = wr)
                              case first =>
                                have hks : (keysL.filter (fits l')).length = (keysOf l').length := rfl
                                rw [hks] at hlen
                                obtain ⟨N, hN⟩ : ∃ N, N = (keysOf l').length := ⟨_, rfl⟩
                                rw [← hN] at hlen
                                have HN2 := Lib.hid hN
                                clear hks hN
                                by_cases hz : N = 0
                                · subst hz
                                  have HD2 := Lib.hid (decide_eq_true (p := keysOf l' = [] ∨ (keysOf l' = [101] ∧ ll = 4 ∧ ¬ (1 ≤ n ∧ n ≤ 7))) (.inl (List.eq_nil_of_length_eq_zero HN2.out.symm)))
                                  go_wp2_with fail
                                  go_meet
                                  exact ⟨by rw [HD2.out], rfl⟩
                                · have hz' : ((N : Int) == 0) = false := by rw [beq_eq_false_iff_ne]; omega
                                  have HZ := Lib.hid (show ¬ (keysOf l').length = 0 by rw [← HN2.out]; exact hz)
                                  clear hz
                                  by_cases hq : hw = 101
                                  · have hq' : (hw == 101) = true := beq_iff_eq.2 hq
                                    have HQ2 := Lib.hid hq
                                    clear hq
                                    by_cases h1 : N = 1
                                    · subst h1
                                      have HK := Lib.hid (show keysOf l' = [101] by rw [keysOf_one HO.out HN2.out.symm, HQ2.out])
                                      clear hz'
                                      by_cases h4 : ll = 4
                                      · have h4' : ((ll : Int) + 1 == 5) = true := by rw [beq_iff_eq]; omega
                                        have H4 := Lib.hid h4
                                        clear h4
                                        by_cases hwy : 1 ≤ n ∧ n ≤ 7
                                        · have HW := Lib.hid hwy
                                          have HD2 := Lib.hid (decide_eq_false (badEnd_false (c := ll = 4 ∧ ¬ (1 ≤ n ∧ n ≤ 7)) HO.out HZ.out (.inr (.inr (fun h => h.2 hwy)))))
                                          clear hwy
                                          go_wp2_with fail
                                          refine (why_ n _).mono ?_
                                          rintro e wy ⟨rfl, rfl⟩
                                          rw [decide_eq_true HW.out]
                                          go_wp2_with fail
                                          go_meet
                                          exact ⟨by rw [HD2.out], rfl⟩
                                        · have HW := Lib.hid hwy
                                          have HD2 := Lib.hid (decide_eq_true (p := keysOf l' = [] ∨ (keysOf l' = [101] ∧ ll = 4 ∧ ¬ (1 ≤ n ∧ n ≤ 7))) (.inr ⟨HK.out, H4.out, hwy⟩))
                                          clear hwy
                                          go_wp2_with fail
                                          refine (why_ n _).mono ?_
                                          rintro e wy ⟨rfl, rfl⟩
                                          rw [decide_eq_false HW.out]
                                          go_wp2_with fail
                                          go_meet
                                          exact ⟨by rw [HD2.out], rfl⟩
                                      · have h4' : ((ll : Int) + 1 == 5) = false := by rw [beq_eq_false_iff_ne]; omega
                                        have HD2 := Lib.hid (decide_eq_false (badEnd_false (c := ll = 4 ∧ ¬ (1 ≤ n ∧ n ≤ 7)) HO.out HZ.out (.inr (.inr (fun h => h4 h.1)))))
                                        clear h4
                                        go_wp2_with fail
                                        go_meet
                                        exact ⟨by rw [HD2.out], rfl⟩
                                    · have h1' : ((N : Int) == 1) = false := by rw [beq_eq_false_iff_ne]; omega
                                      have HD2 := Lib.hid (decide_eq_false (badEnd_false (c := ll = 4 ∧ ¬ (1 ≤ n ∧ n ≤ 7)) HO.out HZ.out (.inr (.inl (by rw [← HN2.out]; exact h1)))))
                                      clear h1
                                      go_wp2_with fail
                                      go_meet
                                      exact ⟨by rw [HD2.out], rfl⟩
                                  · have hq' : (hw == 101) = false := beq_eq_false_iff_ne.2 hq
                                    have HD2 := Lib.hid (decide_eq_false (badEnd_false (c := ll = 4 ∧ ¬ (1 ≤ n ∧ n ≤ 7)) HO.out HZ.out (.inl hq)))
                                    clear hq
                                    go_wp2_with fail
                                    go_meet
                                    exact ⟨by rw [HD2.out], rfl⟩
                              case rest =>
                                obtain ⟨rfl, rfl⟩ := hcut
                                clear hlen
                                by_cases hbad : keysOf l' = [] ∨ (keysOf l' = [101] ∧ ll = 4 ∧ ¬ (1 ≤ n ∧ n ≤ 7))
                                · rw [decide_eq_true hbad]
                                  have HB := Lib.hid hbad
                                  clear hbad
                                  go_wp2_with fail
                                  go_ret3
                                  exact ⟨GetEnd.no (HR.out.symm.trans (runG_none HD.out (by rw [← HL.out, HQ.out]; exact HS.out) (by rw [← HL.out, ← HN.out]; exact H2.out) (by rw [← HL.out, ← HN.out, ← HLL.out]; exact HB.out))) rfl, HM.out.below⟩
                                · rw [decide_eq_false hbad]
                                  have HB := Lib.hid hbad
                                  clear hbad
                                  go_wp2_with fail
                                  go_roundg f
                                  case measure => exact Nat.lt_succ_self f
                                  case rel =>
                                    have hlen' : l'.length = ll + 1 := by rw [HLL.out, HL.out]; simp
                                    have h4 := HS.out
                                    have hleft := HI.out.left
                                    rw [← HL.out] at hleft
                                    have hgo := HR.out.symm.trans (runG_on HD.out (by rw [← HL.out, HQ.out]; exact HS.out) (by rw [← HL.out, ← HN.out]; exact H2.out) (by rw [← HL.out, ← HN.out, ← HLL.out]; exact HB.out))
                                    rw [← HL.out, ← HN.out, ← HLL.out, List.drop_drop] at hgo
                                    exact ⟨hw, l', rfl, hw0, hw1, HM.out.own, HM.out.map, HM.out.nums, HM.out.below, HM.out.apart, by rw [hlen']; omega, by rw [hlen']; omega, by rw [hlen', Nat.mul_add]; exact hgo.symm, HO.out, HI.out.base, HI.out.gb⟩
end Go.Proofs.YtoodmjdafifbmaaDoor.Hand
