/- What the reference of chapter 07 hands back for Put: the bytes of a reply; or the error. -/
import Derived.Deep.DeepCutAuto
import Derived.Deep.CutBlock
import Derived.Test.YtoodmjdafifbmaaDoorRefNums
import Derived.Test.YtoodmjdafifbmaaDoorRepSum
namespace Go.Proofs.YtoodmjdafifbmaaDoor.Hand
open Go.RowKit Go.Proofs.YtoodmjdafifbmaaDoorW.PrintLast
set_option linter.unusedVariables false
set_option linter.unusedSimpArgs false

/-- How Put ends, whatever the reply. -/
def RefEnd (base : Nat) (xid how low high : Int) (body : List Int) (e : Ending) (w' : World) : Prop :=
  if putOK how low high body.length then PutEnd base (putL xid how low high body) e w' else e = .returned (.tuple #[.slice none 0 0, .int .i64 1])
theorem RefEnd.no {base : Nat} {xid how low high : Int} {body : List Int} {e : Ending} {w' : World} (h : ¬ putOK how low high body.length) (he : e = .returned (.tuple #[.slice none 0 0, .int .i64 1])) : RefEnd base xid how low high body e w' := by
  unfold RefEnd; rw [if_neg h]; exact he
theorem RefEnd.yes {base : Nat} {xid how low high : Int} {body : List Int} {e : Ending} {w' : World} (h : putOK how low high body.length) (he : PutEnd base (putL xid how low high body) e w') : RefEnd base xid how low high body e w' := by
  unfold RefEnd; rw [if_pos h]; exact he
theorem putOK_ref {how low high : Int} {n : Nat} (hk : how ∈ keysL) (h1 : ¬ (how ≠ 0 ∧ 0 < n)) (h2 : ¬ ((¬ (how = 2 ∨ how = 100) ∧ high ≠ 0) ∨ (¬ (how = 2 ∨ how = 100) ∧ how ≠ 101 ∧ low ≠ 0))) (hw : how = 101 → 1 ≤ low ∧ low ≤ 7) : putOK how low high n := by
  refine ⟨hk, ?_, ?_, ?_, hw⟩
  · omega
  · intro hT
    unfold toldOf at hT
    split at hT
    · omega
    · split at hT <;> omega
  · intro hT
    unfold toldOf at hT
    split at hT
    · omega
    · split at hT <;> omega
theorem putOK_no1 {how low high : Int} {n : Nat} (h1 : how ≠ 0 ∧ 0 < n) : ¬ putOK how low high n := fun h => by have := h.2.1; omega
theorem putOK_no2 {how low high : Int} {n : Nat} (h2 : ((¬ (how = 2 ∨ how = 100) ∧ high ≠ 0) ∨ (¬ (how = 2 ∨ how = 100) ∧ how ≠ 101 ∧ low ≠ 0))) : ¬ putOK how low high n := fun h => by
  obtain ⟨_, _, a, b, _⟩ := h
  unfold toldOf at a b
  rcases h2 with ⟨c, d⟩ | ⟨c, d, e⟩
  · rw [if_neg c] at b
    refine d (b ?_)
    split <;> omega
  · rw [if_neg c, if_neg d] at a
    exact e (a (by omega))

theorem U4.of2 {low high : Int} (hl : 0 ≤ low ∧ low < 4294967296) (hi : 0 ≤ high ∧ high < 4294967296) {m : List Int} (h : m.all (fun x => decide (x = low) || decide (x = high) || (decide (0 ≤ x) && decide (x < 4294967296))) = true) : U4 m := fun y hy => by
  have := List.all_eq_true.1 h y hy
  simp at this
  rcases this with (e | e) | e
  · rw [e]; exact hl
  · rw [e]; exact hi
  · exact e

set_option maxRecDepth 100000 in
set_option maxHeartbeats 4000000 in
theorem ref_put (xid how low high : Int) (A : Option Addr) (c : Nat) (body : List Int) (w : World) (hx : 0 ≤ xid ∧ xid < 4294967296) (hh : 0 ≤ how ∧ how < 4294967296) (hl : 0 ≤ low ∧ low < 4294967296) (hi : 0 ≤ high ∧ high < 4294967296)
    (hr : Rd w A body) (hc : body.length ≤ c) (hn : body.length ≤ 1048000) :
    Calls Tryd.prog 8 #[.agg #[.int .u32 xid, .int .u32 how, .int .u32 low, .int .u32 high, .slice A body.length c]] w fun e w' => RefEnd w.heap.size xid how low high body e w' ∧ Below w.heap.size w w' := by
  have b1 := Blk.new w 26 #[.int .u32 xid, .int .u32 how, .int .u32 low, .int .u32 high, .slice A body.length c]
  have hB := (Below.refl w.heap.size w).alloc (Nat.le_refl _) (.cells #[.int .u32 xid, .int .u32 how, .int .u32 low, .int .u32 high, .slice A body.length c] 26)
  have o2 := OwnN.made (w.alloc (.cells #[.int .u32 xid, .int .u32 how, .int .u32 low, .int .u32 high, .slice A body.length c] 26)) [xid, 1] (U4.two hx.1 hx.2) (by simp)
  have o2 := o2.lower (base' := w.heap.size) hB.size
  have hal := (Below.refl (w.alloc (.cells #[.int .u32 xid, .int .u32 how, .int .u32 low, .int .u32 high, .slice A body.length c] 26)).heap.size _).alloc (Nat.le_refl _) (.cells #[.int .u32 xid, .int .u32 1] 22)
  have p0 := b1.cell 0 (v := .int .u32 xid) rfl
  have HO := Lib.hid (show OwnN ((w.alloc (.cells #[.int .u32 xid, .int .u32 how, .int .u32 low, .int .u32 high, .slice A body.length c] 26)).alloc (.cells #[.int .u32 xid, .int .u32 1] 22)) w.heap.size (.slice (some ⟨w.heap.size + 1, 0, none⟩) 2 2) [xid, 1] by rw [World.size_alloc] at o2; exact o2)
  have HB := Lib.hid (below_then hB hal)
  have H1 := Lib.hid (b1.below hal)
  have HX := Lib.hid hx
  have HH := Lib.hid hh
  have HL := Lib.hid hl
  have HI := Lib.hid hi
  clear hx hh hl hi b1 hB o2 hal
  go_enter Tryd.func8, Tryd.ntmps8
  go_upto_region 2 with fail
  generalize (w.alloc (.cells #[.int .u32 xid, .int .u32 how, .int .u32 low, .int .u32 high, .slice A body.length c] 26)).alloc (.cells #[.int .u32 xid, .int .u32 1] 22) = w1 at *
  clear p0
  have p0 := H1.out.cell 0 (v := .int .u32 xid) rfl
  have p1 := H1.out.cell 1 (v := .int .u32 how) rfl
  have p2 := H1.out.cell 2 (v := .int .u32 low) rfl
  have p3 := H1.out.cell 3 (v := .int .u32 high) rfl
  have p4 := H1.out.cell 4 (v := .slice A body.length c) rfl
  go_cut [18] (fun t wx => t = .bool (decide (how ≠ 0 ∧ 0 < body.length)) ∧ wx = w1)
  case first =>
    by_cases h0 : how = 0
    · have HD := Lib.hid (decide_eq_false (p := how ≠ 0 ∧ 0 < body.length) (fun h => h.1 h0))
      have q0 : (how != 0) = false := by simp [h0]
      clear h0
      go_wp2_with fail
      go_meet
      exact ⟨by rw [HD.out], rfl⟩
    · have q0 : (how != 0) = true := by simp [h0]
      by_cases h1 : 0 < body.length
      · have HD := Lib.hid (decide_eq_true (p := how ≠ 0 ∧ 0 < body.length) ⟨h0, h1⟩)
        clear h0
        go_wp2_with fail
        go_meet
        exact ⟨by rw [HD.out], rfl⟩
      · have HD := Lib.hid (decide_eq_false (p := how ≠ 0 ∧ 0 < body.length) (fun h => h1 h.2))
        clear h0
        go_wp2_with fail
        go_meet
        exact ⟨by rw [HD.out], rfl⟩
  case rest =>
  obtain ⟨rfl, rfl⟩ := hcut
  by_cases hb1 : how ≠ 0 ∧ 0 < body.length
  · rw [decide_eq_true hb1]
    have HN := Lib.hid (putOK_no1 (low := low) (high := high) hb1)
    clear hb1
    go_wp2_with fail
    go_ret2
    exact ⟨RefEnd.no HN.out rfl, HB.out⟩
  · rw [decide_eq_false hb1]
    have HN1 := Lib.hid hb1
    clear hb1
    go_upto_region 4 with fail
    go_cut [5] (fun t wx => t = .bool (decide (how = 2 ∨ how = 100)) ∧ wx = wc)
    case first =>
      by_cases h2 : how = 2
      · have HD := Lib.hid (decide_eq_true (p := how = 2 ∨ how = 100) (.inl h2))
        have h2' : (how == 2) = true := beq_iff_eq.2 h2
        clear h2
        go_wp2_with fail
        go_meet
        exact ⟨by rw [HD.out], rfl⟩
      · have h2' : (how == 2) = false := beq_eq_false_iff_ne.2 h2
        by_cases h3 : how = 100
        · have HD := Lib.hid (decide_eq_true (p := how = 2 ∨ how = 100) (.inr h3))
          have h3' : (how == 100) = true := beq_iff_eq.2 h3
          clear h2 h3
          go_wp2_with fail
          go_meet
          exact ⟨by rw [HD.out], rfl⟩
        · have HD := Lib.hid (decide_eq_false (p := how = 2 ∨ how = 100) (by omega))
          have h3' : (how == 100) = false := beq_eq_false_iff_ne.2 h3
          clear h2 h3
          go_wp2_with fail
          go_meet
          exact ⟨by rw [HD.out], rfl⟩
    case rest =>
    obtain ⟨rfl, rfl⟩ := hcut
    obtain ⟨P, hP⟩ : ∃ P, P = decide (how = 2 ∨ how = 100) := ⟨_, rfl⟩
    rw [← hP]
    have HP2 := Lib.hid hP
    clear hP
    go_upto_region 5 with fail
    go_cut [5, 47] (fun _ t wx => t = .bool (decide ((¬ (how = 2 ∨ how = 100) ∧ high ≠ 0) ∨ (¬ (how = 2 ∨ how = 100) ∧ how ≠ 101 ∧ low ≠ 0))) ∧ wx = wc)
    case first =>
      by_cases c2 : how = 2 ∨ how = 100
      · rw [HP2.out, decide_eq_true (p := how = 2 ∨ how = 100) (c2)]
        have HD := Lib.hid (decide_eq_false (p := ((¬ (how = 2 ∨ how = 100) ∧ high ≠ 0) ∨ (¬ (how = 2 ∨ how = 100) ∧ how ≠ 101 ∧ low ≠ 0))) (by omega))
        clear c2
        go_wp2_with fail
        go_meet
        exact ⟨by rw [HD.out], rfl⟩
      · rw [HP2.out, decide_eq_false (p := how = 2 ∨ how = 100) (c2)]
        by_cases c3 : high = 0
        · by_cases c4 : how = 101
          · have HD := Lib.hid (decide_eq_false (p := ((¬ (how = 2 ∨ how = 100) ∧ high ≠ 0) ∨ (¬ (how = 2 ∨ how = 100) ∧ how ≠ 101 ∧ low ≠ 0))) (by omega))
            have q0 : (high != 0) = false := by simp [c3]
            have q1 : (how != 101) = false := by simp [c4]
            clear c2 c3 c4
            go_wp2_with fail
            go_meet
            exact ⟨by rw [HD.out], rfl⟩
          · by_cases c5 : low = 0
            · have HD := Lib.hid (decide_eq_false (p := ((¬ (how = 2 ∨ how = 100) ∧ high ≠ 0) ∨ (¬ (how = 2 ∨ how = 100) ∧ how ≠ 101 ∧ low ≠ 0))) (by omega))
              have q0 : (high != 0) = false := by simp [c3]
              have q1 : (how != 101) = true := by simp [c4]
              have q2 : (low != 0) = false := by simp [c5]
              clear c2 c3 c4 c5
              go_wp2_with fail
              go_meet
              exact ⟨by rw [HD.out], rfl⟩
            · have HD := Lib.hid (decide_eq_true (p := ((¬ (how = 2 ∨ how = 100) ∧ high ≠ 0) ∨ (¬ (how = 2 ∨ how = 100) ∧ how ≠ 101 ∧ low ≠ 0))) (by omega))
              have q0 : (high != 0) = false := by simp [c3]
              have q1 : (how != 101) = true := by simp [c4]
              have q2 : (low != 0) = true := by simp [c5]
              clear c2 c3 c4 c5
              go_wp2_with fail
              go_meet
              exact ⟨by rw [HD.out], rfl⟩
        · have HD := Lib.hid (decide_eq_true (p := ((¬ (how = 2 ∨ how = 100) ∧ high ≠ 0) ∨ (¬ (how = 2 ∨ how = 100) ∧ how ≠ 101 ∧ low ≠ 0))) (by omega))
          have q0 : (high != 0) = true := by simp [c3]
          clear c2 c3
          go_wp2_with fail
          go_meet
          exact ⟨by rw [HD.out], rfl⟩
    case rest =>
    obtain ⟨rfl, rfl⟩ := hcut
    by_cases hb2 : ((¬ (how = 2 ∨ how = 100) ∧ high ≠ 0) ∨ (¬ (how = 2 ∨ how = 100) ∧ how ≠ 101 ∧ low ≠ 0))
    · rw [decide_eq_true hb2]
      have HN := Lib.hid (putOK_no2 (n := body.length) hb2)
      clear hb2
      go_wp2_with fail
      go_ret2
      exact ⟨RefEnd.no HN.out rfl, HB.out⟩
    · rw [decide_eq_false hb2]
      have HN2 := Lib.hid hb2
      clear hb2
      go_upto_block 0 with fail
      go_cut [4] (fun lv wx => putOK how low high body.length ∧ OwnN wx w.heap.size lv (goodL xid how low high) ∧ Below w.heap.size w wx ∧ Blk wx w.heap.size 26 #[.int .u32 xid, .int .u32 how, .int .u32 low, .int .u32 high, .slice A body.length c])
      case first =>
        by_cases h0 : how = 0
        · subst h0
          have HK := Lib.hid (putOK_ref (low := low) (high := high) (n := body.length) (by decide) HN1.out HN2.out (fun h => absurd h (by decide)))
          have ho := HO.out.below ((Below.refl wc.heap.size wc).alloc (Nat.le_refl _) (.cells #[.int .u32 0, .int .u32 0, .int .u32 0, .int .u32 0] 22))
          have hs : RdN (wc.alloc (.cells #[.int .u32 0, .int .u32 0, .int .u32 0, .int .u32 0] 22)) (some ⟨wc.heap.size, 0, none⟩) [0, 0, 0, 0] := RdN.of_blk (l := [0, 0, 0, 0]) (U4.of2 HL.out HI.out (by simp)) (Blk.new wc 22 #[.int .u32 0, .int .u32 0, .int .u32 0, .int .u32 0])
          have hbase : w.heap.size ≤ (wc.alloc (.cells #[.int .u32 0, .int .u32 0, .int .u32 0, .int .u32 0] 22)).heap.size := (HB.out.alloc HB.out.size _).size
          have HB2 := Lib.hid (HB.out.alloc HB.out.size (.cells #[.int .u32 0, .int .u32 0, .int .u32 0, .int .u32 0] 22))
          have H12 := Lib.hid (H1.out.alloc (.cells #[.int .u32 0, .int .u32 0, .int .u32 0, .int .u32 0] 22))
          go_wp2_with (at_builtin; refine wpList_appN rfl _ _ rfl rfl _ w.heap.size _ _ (by rfl) ho (some ⟨wc.heap.size, 0, none⟩) 4 [0, 0, 0, 0] (by rfl) hs (by simp) hbase ?ha)
          case ha =>
            intro v5 w5 ho5 hg5 _
            have HB5 := Lib.hid (HB2.out.grown hg5 HB2.out.size ho.base)
            have H15 := Lib.hid (H12.out.grown hg5 (ho.not_blk H12.out (by decide)))
            have HO5 := Lib.hid ho5
            clear ho hs hbase ho5 hg5
            go_wp2_with fail
            go_meet
            exact ⟨HK.out, HO5.out, HB5.out, H15.out⟩
        · skip
          by_cases h1 : how = 1
          · subst h1
            have HK := Lib.hid (putOK_ref (low := low) (high := high) (n := body.length) (by decide) HN1.out HN2.out (fun h => absurd h (by decide)))
            have ho := HO.out.below ((Below.refl wc.heap.size wc).alloc (Nat.le_refl _) (.cells #[.int .u32 0, .int .u32 0, .int .u32 0, .int .u32 1] 22))
            have hs : RdN (wc.alloc (.cells #[.int .u32 0, .int .u32 0, .int .u32 0, .int .u32 1] 22)) (some ⟨wc.heap.size, 0, none⟩) [0, 0, 0, 1] := RdN.of_blk (l := [0, 0, 0, 1]) (U4.of2 HL.out HI.out (by simp)) (Blk.new wc 22 #[.int .u32 0, .int .u32 0, .int .u32 0, .int .u32 1])
            have hbase : w.heap.size ≤ (wc.alloc (.cells #[.int .u32 0, .int .u32 0, .int .u32 0, .int .u32 1] 22)).heap.size := (HB.out.alloc HB.out.size _).size
            have HB2 := Lib.hid (HB.out.alloc HB.out.size (.cells #[.int .u32 0, .int .u32 0, .int .u32 0, .int .u32 1] 22))
            have H12 := Lib.hid (H1.out.alloc (.cells #[.int .u32 0, .int .u32 0, .int .u32 0, .int .u32 1] 22))
            go_wp2_with (at_builtin; refine wpList_appN rfl _ _ rfl rfl _ w.heap.size _ _ (by rfl) ho (some ⟨wc.heap.size, 0, none⟩) 4 [0, 0, 0, 1] (by rfl) hs (by simp) hbase ?ha)
            case ha =>
              intro v5 w5 ho5 hg5 _
              have HB5 := Lib.hid (HB2.out.grown hg5 HB2.out.size ho.base)
              have H15 := Lib.hid (H12.out.grown hg5 (ho.not_blk H12.out (by decide)))
              have HO5 := Lib.hid ho5
              clear ho hs hbase ho5 hg5
              go_wp2_with fail
              go_meet
              exact ⟨HK.out, HO5.out, HB5.out, H15.out⟩
          · skip
            by_cases h3 : how = 3
            · subst h3
              have HK := Lib.hid (putOK_ref (low := low) (high := high) (n := body.length) (by decide) HN1.out HN2.out (fun h => absurd h (by decide)))
              have ho := HO.out.below ((Below.refl wc.heap.size wc).alloc (Nat.le_refl _) (.cells #[.int .u32 0, .int .u32 0, .int .u32 0, .int .u32 3] 22))
              have hs : RdN (wc.alloc (.cells #[.int .u32 0, .int .u32 0, .int .u32 0, .int .u32 3] 22)) (some ⟨wc.heap.size, 0, none⟩) [0, 0, 0, 3] := RdN.of_blk (l := [0, 0, 0, 3]) (U4.of2 HL.out HI.out (by simp)) (Blk.new wc 22 #[.int .u32 0, .int .u32 0, .int .u32 0, .int .u32 3])
              have hbase : w.heap.size ≤ (wc.alloc (.cells #[.int .u32 0, .int .u32 0, .int .u32 0, .int .u32 3] 22)).heap.size := (HB.out.alloc HB.out.size _).size
              have HB2 := Lib.hid (HB.out.alloc HB.out.size (.cells #[.int .u32 0, .int .u32 0, .int .u32 0, .int .u32 3] 22))
              have H12 := Lib.hid (H1.out.alloc (.cells #[.int .u32 0, .int .u32 0, .int .u32 0, .int .u32 3] 22))
              go_wp2_with (at_builtin; refine wpList_appN rfl _ _ rfl rfl _ w.heap.size _ _ (by rfl) ho (some ⟨wc.heap.size, 0, none⟩) 4 [0, 0, 0, 3] (by rfl) hs (by simp) hbase ?ha)
              case ha =>
                intro v5 w5 ho5 hg5 _
                have HB5 := Lib.hid (HB2.out.grown hg5 HB2.out.size ho.base)
                have H15 := Lib.hid (H12.out.grown hg5 (ho.not_blk H12.out (by decide)))
                have HO5 := Lib.hid ho5
                clear ho hs hbase ho5 hg5
                go_wp2_with fail
                go_meet
                exact ⟨HK.out, HO5.out, HB5.out, H15.out⟩
            · skip
              by_cases h4 : how = 4
              · subst h4
                have HK := Lib.hid (putOK_ref (low := low) (high := high) (n := body.length) (by decide) HN1.out HN2.out (fun h => absurd h (by decide)))
                have ho := HO.out.below ((Below.refl wc.heap.size wc).alloc (Nat.le_refl _) (.cells #[.int .u32 0, .int .u32 0, .int .u32 0, .int .u32 4] 22))
                have hs : RdN (wc.alloc (.cells #[.int .u32 0, .int .u32 0, .int .u32 0, .int .u32 4] 22)) (some ⟨wc.heap.size, 0, none⟩) [0, 0, 0, 4] := RdN.of_blk (l := [0, 0, 0, 4]) (U4.of2 HL.out HI.out (by simp)) (Blk.new wc 22 #[.int .u32 0, .int .u32 0, .int .u32 0, .int .u32 4])
                have hbase : w.heap.size ≤ (wc.alloc (.cells #[.int .u32 0, .int .u32 0, .int .u32 0, .int .u32 4] 22)).heap.size := (HB.out.alloc HB.out.size _).size
                have HB2 := Lib.hid (HB.out.alloc HB.out.size (.cells #[.int .u32 0, .int .u32 0, .int .u32 0, .int .u32 4] 22))
                have H12 := Lib.hid (H1.out.alloc (.cells #[.int .u32 0, .int .u32 0, .int .u32 0, .int .u32 4] 22))
                go_wp2_with (at_builtin; refine wpList_appN rfl _ _ rfl rfl _ w.heap.size _ _ (by rfl) ho (some ⟨wc.heap.size, 0, none⟩) 4 [0, 0, 0, 4] (by rfl) hs (by simp) hbase ?ha)
                case ha =>
                  intro v5 w5 ho5 hg5 _
                  have HB5 := Lib.hid (HB2.out.grown hg5 HB2.out.size ho.base)
                  have H15 := Lib.hid (H12.out.grown hg5 (ho.not_blk H12.out (by decide)))
                  have HO5 := Lib.hid ho5
                  clear ho hs hbase ho5 hg5
                  go_wp2_with fail
                  go_meet
                  exact ⟨HK.out, HO5.out, HB5.out, H15.out⟩
              · skip
                by_cases h2 : how = 2
                · subst h2
                  have HK := Lib.hid (putOK_ref (low := low) (high := high) (n := body.length) (by decide) HN1.out HN2.out (fun h => absurd h (by decide)))
                  have ho := HO.out.below ((Below.refl wc.heap.size wc).alloc (Nat.le_refl _) (.cells #[.int .u32 0, .int .u32 0, .int .u32 0, .int .u32 2, .int .u32 low, .int .u32 high] 22))
                  have hs : RdN (wc.alloc (.cells #[.int .u32 0, .int .u32 0, .int .u32 0, .int .u32 2, .int .u32 low, .int .u32 high] 22)) (some ⟨wc.heap.size, 0, none⟩) [0, 0, 0, 2, low, high] := RdN.of_blk (l := [0, 0, 0, 2, low, high]) (U4.of2 HL.out HI.out (by simp)) (Blk.new wc 22 #[.int .u32 0, .int .u32 0, .int .u32 0, .int .u32 2, .int .u32 low, .int .u32 high])
                  have hbase : w.heap.size ≤ (wc.alloc (.cells #[.int .u32 0, .int .u32 0, .int .u32 0, .int .u32 2, .int .u32 low, .int .u32 high] 22)).heap.size := (HB.out.alloc HB.out.size _).size
                  have HB2 := Lib.hid (HB.out.alloc HB.out.size (.cells #[.int .u32 0, .int .u32 0, .int .u32 0, .int .u32 2, .int .u32 low, .int .u32 high] 22))
                  have H12 := Lib.hid (H1.out.alloc (.cells #[.int .u32 0, .int .u32 0, .int .u32 0, .int .u32 2, .int .u32 low, .int .u32 high] 22))
                  go_wp2_with (at_builtin; refine wpList_appN rfl _ _ rfl rfl _ w.heap.size _ _ (by rfl) ho (some ⟨wc.heap.size, 0, none⟩) 6 [0, 0, 0, 2, low, high] (by rfl) hs (by simp) hbase ?ha)
                  case ha =>
                    intro v5 w5 ho5 hg5 _
                    have HB5 := Lib.hid (HB2.out.grown hg5 HB2.out.size ho.base)
                    have H15 := Lib.hid (H12.out.grown hg5 (ho.not_blk H12.out (by decide)))
                    have HO5 := Lib.hid ho5
                    clear ho hs hbase ho5 hg5
                    go_wp2_with fail
                    go_meet
                    exact ⟨HK.out, HO5.out, HB5.out, H15.out⟩
                · skip
                  by_cases h100 : how = 100
                  · subst h100
                    have HK := Lib.hid (putOK_ref (low := low) (high := high) (n := body.length) (by decide) HN1.out HN2.out (fun h => absurd h (by decide)))
                    have ho := HO.out.below ((Below.refl wc.heap.size wc).alloc (Nat.le_refl _) (.cells #[.int .u32 1, .int .u32 0, .int .u32 low, .int .u32 high] 22))
                    have hs : RdN (wc.alloc (.cells #[.int .u32 1, .int .u32 0, .int .u32 low, .int .u32 high] 22)) (some ⟨wc.heap.size, 0, none⟩) [1, 0, low, high] := RdN.of_blk (l := [1, 0, low, high]) (U4.of2 HL.out HI.out (by simp)) (Blk.new wc 22 #[.int .u32 1, .int .u32 0, .int .u32 low, .int .u32 high])
                    have hbase : w.heap.size ≤ (wc.alloc (.cells #[.int .u32 1, .int .u32 0, .int .u32 low, .int .u32 high] 22)).heap.size := (HB.out.alloc HB.out.size _).size
                    have HB2 := Lib.hid (HB.out.alloc HB.out.size (.cells #[.int .u32 1, .int .u32 0, .int .u32 low, .int .u32 high] 22))
                    have H12 := Lib.hid (H1.out.alloc (.cells #[.int .u32 1, .int .u32 0, .int .u32 low, .int .u32 high] 22))
                    go_wp2_with (at_builtin; refine wpList_appN rfl _ _ rfl rfl _ w.heap.size _ _ (by rfl) ho (some ⟨wc.heap.size, 0, none⟩) 4 [1, 0, low, high] (by rfl) hs (by simp) hbase ?ha)
                    case ha =>
                      intro v5 w5 ho5 hg5 _
                      have HB5 := Lib.hid (HB2.out.grown hg5 HB2.out.size ho.base)
                      have H15 := Lib.hid (H12.out.grown hg5 (ho.not_blk H12.out (by decide)))
                      have HO5 := Lib.hid ho5
                      clear ho hs hbase ho5 hg5
                      go_wp2_with fail
                      go_meet
                      exact ⟨HK.out, HO5.out, HB5.out, H15.out⟩
                  · skip
                    by_cases h101 : how = 101
                    · subst h101
                      by_cases hw : 1 ≤ low ∧ low ≤ 7
                      · have HW := Lib.hid hw
                        have m1 : ¬ low < 1 := by omega
                        have m2 : ¬ 7 < low := by omega
                        clear hw
                        have HK := Lib.hid (putOK_ref (low := low) (high := high) (n := body.length) (by decide) HN1.out HN2.out (fun _ => HW.out))
                        have ho := HO.out.below ((Below.refl wc.heap.size wc).alloc (Nat.le_refl _) (.cells #[.int .u32 1, .int .u32 1, .int .u32 low] 22))
                        have hs : RdN (wc.alloc (.cells #[.int .u32 1, .int .u32 1, .int .u32 low] 22)) (some ⟨wc.heap.size, 0, none⟩) [1, 1, low] := RdN.of_blk (l := [1, 1, low]) (U4.of2 HL.out HI.out (by simp)) (Blk.new wc 22 #[.int .u32 1, .int .u32 1, .int .u32 low])
                        have hbase : w.heap.size ≤ (wc.alloc (.cells #[.int .u32 1, .int .u32 1, .int .u32 low] 22)).heap.size := (HB.out.alloc HB.out.size _).size
                        have HB2 := Lib.hid (HB.out.alloc HB.out.size (.cells #[.int .u32 1, .int .u32 1, .int .u32 low] 22))
                        have H12 := Lib.hid (H1.out.alloc (.cells #[.int .u32 1, .int .u32 1, .int .u32 low] 22))
                        go_wp2_with (at_builtin; refine wpList_appN rfl _ _ rfl rfl _ w.heap.size _ _ (by rfl) ho (some ⟨wc.heap.size, 0, none⟩) 3 [1, 1, low] (by rfl) hs (by simp) hbase ?ha)
                        case ha =>
                          intro v5 w5 ho5 hg5 _
                          have HB5 := Lib.hid (HB2.out.grown hg5 HB2.out.size ho.base)
                          have H15 := Lib.hid (H12.out.grown hg5 (ho.not_blk H12.out (by decide)))
                          have HO5 := Lib.hid ho5
                          clear ho hs hbase ho5 hg5
                          go_wp2_with fail
                          go_meet
                          exact ⟨HK.out, HO5.out, HB5.out, H15.out⟩
                      · have HN := Lib.hid (show ¬ putOK 101 low high body.length from fun h => hw (h.2.2.2.2 rfl))
                        by_cases m1 : low < 1
                        · clear hw
                          go_wp2_with fail
                          go_ret2
                          exact ⟨RefEnd.no HN.out rfl, HB.out⟩
                        · have m2 : 7 < low := by omega
                          clear hw
                          go_wp2_with fail
                          go_ret2
                          exact ⟨RefEnd.no HN.out rfl, HB.out⟩
                    · have HN := Lib.hid (show ¬ putOK how low high body.length from fun h => by have := h.1; simp only [keysL, List.mem_cons, List.not_mem_nil, or_false] at this; omega)
                      have e0 : (how == 0) = false := beq_eq_false_iff_ne.2 h0
                      have e1 : (how == 1) = false := beq_eq_false_iff_ne.2 h1
                      have e3 : (how == 3) = false := beq_eq_false_iff_ne.2 h3
                      have e4 : (how == 4) = false := beq_eq_false_iff_ne.2 h4
                      have e2 : (how == 2) = false := beq_eq_false_iff_ne.2 h2
                      have e100 : (how == 100) = false := beq_eq_false_iff_ne.2 h100
                      have e101 : (how == 101) = false := beq_eq_false_iff_ne.2 h101
                      clear h0 h1 h2 h3 h4 h100 h101
                      go_wp2_with fail
                      go_ret2
                      exact ⟨RefEnd.no HN.out rfl, HB.out⟩
      case rest =>
        obtain ⟨hok, ho, hB4, h14⟩ := hcut
        have HK := Lib.hid hok
        have hgl := goodL_length (xid := xid) (low := low) (high := high) hok.1
        obtain ⟨A4, c4, rfl, _, _, r4⟩ := ho.form
        have HG := Lib.hid (rnumbers A4 c4 (goodL xid how low high) wc.drew r4 (by omega))
        have hput := putL_good (xid := xid) (low := low) (high := high) hok.1 body
        have k4 := h14.cell 4 (v := .slice A body.length c) rfl
        have hr4 := hr.below hB4
        obtain ⟨gl, hgle⟩ : ∃ gl, gl = goodL xid how low high := ⟨_, rfl⟩
        rw [← hgle] at HG hput hgl ho ⊢
        have HGL := Lib.hid hgl.2.1
        have HPU := Lib.hid hput
        clear hok hgl hput hgle p0 p1 p2 p3 p4
        go_upto_region 22 with fail
        have k4 : wc.drew.cell? _ = _ := k4
        refine start_ (n := 6) (S := fun w' => w'.cell? ⟨w.heap.size, 4, none⟩ = some (.slice A body.length c)) (ds := []) #[false, false, false, false, false, false] (by kernel_rfl) rfl rfl (k4) (fun hHeld => ?_)
        refine pure_ (i := 0) (N := some 93) (v := ?_) (a' := ?_) #[true, false, false, false, false, false] rfl rfl (by kernel_rfl) (fun _ _ _ h => h) (Or.inl ⟨by rfl, ?_⟩) ?_ ?_
        rotate_left
        · intro w'
          go_simp
          with_reducible rfl
        rotate_left
        · simp only [Act.put, List.setIfInBounds_toArray, List.set_cons_zero, List.set_cons_succ, i64_w, i32_w]
          rfl
        refine pure_ (i := 2) (N := some 95) (v := ?_) (a' := ?_) #[true, false, true, false, false, false] rfl rfl (by kernel_rfl) (fun _ _ _ h => h) (Or.inl ⟨by rfl, ?_⟩) ?_ ?_
        rotate_left
        · intro w'
          go_simp
          with_reducible rfl
        rotate_left
        · simp only [Act.put, List.setIfInBounds_toArray, List.set_cons_zero, List.set_cons_succ, i64_w, i32_w]
          rfl
        refine take_ (i := 3) (N := some 96) (v := ?_) (a' := ?_) #[true, false, true, true, false, false] rfl rfl (by kernel_rfl) (fun _ _ _ h => h) (Or.inl ⟨by rfl, ?_⟩) hHeld ?_ ?_
        rotate_left
        · intro w' s0
          go_simp
          with_reducible rfl
        rotate_left
        · simp only [Act.put, List.setIfInBounds_toArray, List.set_cons_zero, List.set_cons_succ, i64_w, i32_w]
          rfl
        refine one_ (i := 1) (N := some 94) #[true, true, true, true, false, false] rfl rfl (by kernel_rfl) (by decide) (fun K hK => ?_)
        refine goes_ Tryd.func32 (by kernel_rfl) rfl #[.slice A4 gl.length c4] (by rfl) rfl rfl (by simp only [List.map_toArray, List.map_cons, List.map_nil]; rfl) ?_
        with_reducible refine (HG.out).mono ?_
        rintro e w5 ⟨v5, rfl, o5, hx5⟩
        refine ⟨_, rfl, ?_⟩
        have k5 := cell_later hx5 k4
        have hB5 : Below w.heap.size w w5 := below_then hB4 ⟨hx5.os, hx5.tape, hx5.output, hx5.size, hx5.block⟩
        have o5 := o5.lower (base' := w.heap.size) hB4.size
        refine hK.out _ _ (k5) (fun hHeld => ?_)
        clear hK K
        refine norm_ (a' := ?_) ?_ ?_
        rotate_left
        · show Act.put _ (some 94) _ = _
          simp only [Act.put, List.setIfInBounds_toArray, List.set_cons_zero, List.set_cons_succ, i64_w, i32_w]
          rfl
        refine one_ (i := 4) (N := some 97) #[true, true, true, true, true, false] rfl rfl (by kernel_rfl) (by decide) (fun K hK => ?_)
        rw [if_pos (by rfl)]
        refine wp_app _ _ rfl rfl _ w.heap.size v5 (rw4 gl) rfl o5 A c body rfl (hr.below hB5) (by rw [rw4_length]; have := HGL.out; omega) hB5.size ?_
        intro v6 w6 o6 hg6 _
        have hB6 := o5.grown hB5 hB5.size hg6
        have h15 := (h14.below (w' := w5) ⟨hx5.os, hx5.tape, hx5.output, hx5.size, hx5.block⟩).grown hg6 (o5.blk_ne (h14.below (w' := w5) ⟨hx5.os, hx5.tape, hx5.output, hx5.size, hx5.block⟩) (by decide))
        have k6 := h15.cell 4 (v := .slice A body.length c) rfl
        refine hK.out _ _ (k6) (fun hHeld => ?_)
        clear hK K
        refine norm_ (a' := ?_) ?_ ?_
        rotate_left
        · show Act.put _ (some 97) _ = _
          simp only [Act.put, List.setIfInBounds_toArray, List.set_cons_zero, List.set_cons_succ, i64_w, i32_w]
          rfl
        refine pure_ (i := 5) (N := some 6) (v := ?_) (a' := ?_) #[true, true, true, true, true, true] rfl rfl (by kernel_rfl) (fun _ _ _ h => h) (Or.inl ⟨by rfl, ?_⟩) ?_ ?_
        rotate_left
        · intro w'
          go_simp
          with_reducible rfl
        rotate_left
        · simp only [Act.put, List.setIfInBounds_toArray, List.set_cons_zero, List.set_cons_succ, i64_w, i32_w]
          rfl
        refine done_ (by kernel_rfl) ?_
        rw [← HPU.out] at o6
        obtain ⟨L, hLd⟩ : ∃ L, L = putL xid how low high body := ⟨_, rfl⟩
        rw [← hLd] at o6
        have HD := Lib.hid hLd
        obtain ⟨A9, c9, rfl, _, _, r9⟩ := o6.form
        clear hLd hHeld k6 k5 k4 hg6 o5 hx5 h15 HPU
        by_cases hlen : L.length ≤ 65536
        · have ht : ¬ 65536 < (L.length : Int) := by omega
          have HLN := Lib.hid hlen
          clear hlen
          go_wp2_with fail
          go_ret2
          exact ⟨RefEnd.yes HK.out (PutEnd.fits (by rw [← HD.out]; exact HLN.out) rfl (by rw [← HD.out]; exact o6)), hB6⟩
        · have ht : 65536 < (L.length : Int) := by omega
          have HLN := Lib.hid hlen
          clear hlen
          go_wp2_with fail
          go_ret2
          exact ⟨RefEnd.yes HK.out (PutEnd.long (by rw [← HD.out]; exact HLN.out) rfl), hB6⟩
end Go.Proofs.YtoodmjdafifbmaaDoor.Hand
