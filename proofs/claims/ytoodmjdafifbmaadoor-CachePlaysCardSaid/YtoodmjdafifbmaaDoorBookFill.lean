/- The Book's lists of bytes: what fillByte does: each list is written over with its mark. -/
import Derived.Test.YtoodmjdafifbmaaDoorWLast
import Derived.Lib.SmallJoins
import Derived.Test.YtoodmjdafifbmaaDoorApp
namespace Go.Proofs.YtoodmjdafifbmaaDoor.Hand
open Go.RowKit Go.Proofs.YtoodmjdafifbmaaDoorW.PrintLast
set_option linter.unusedVariables false
set_option linter.unusedSimpArgs false

/-- The mark of the list number n. -/
def mk (n : Nat) : Int := 1 + (n : Int) % 250
theorem mk_bounds (n : Nat) : 0 ≤ mk n ∧ mk n < 256 := by unfold mk; omega
def marks (n k : Nat) : List Int := List.replicate k (mk n)
theorem marks_bs (n k : Nat) : Bs (marks n k) := fun x hx => by rw [(List.mem_replicate.1 hx).2]; exact mk_bounds n
theorem marks_length (n k : Nat) : (marks n k).length = k := List.length_replicate

/-- The Book at block kb: how many lists, the slice of those of bytes, that of those of messages; no others. -/
def BookAt (w : World) (kb : Nat) (n : Nat) (V : Value) (M : Value := .slice none 0 0) : Prop :=
  Blk w kb 41 #[.int .i64 n, V, .slice none 0 0, .slice none 0 0, M, .slice none 0 0, .slice none 0 0, .slice none 0 0]

/-- The blocks of P that w has are as they were. -/
def Still (P : Nat → Prop) (w w' : World) : Prop := ∀ g, g < w.heap.size → P g → w'.heap[g]? = w.heap[g]?
theorem Still.refl (P : Nat → Prop) (w : World) : Still P w w := fun _ _ _ => rfl
theorem Still.below {P : Nat → Prop} {w X Y : World} (h : Still P w X) (hs : w.heap.size ≤ X.heap.size) (hb : Below X.heap.size X Y) : Still P w Y := fun g h1 h2 => (hb.block g (by omega)).trans (h g h1 h2)
theorem Still.grown {P : Nat → Prop} {w X Y : World} {r : Nat} (h : Still P w X) (hs : w.heap.size ≤ X.heap.size) (hg : X.grownBy Y (some r)) (hr : r < w.heap.size → ¬ P r) : Still P w Y := fun g h1 h2 =>
  (hg.block g (by omega) (fun e => by cases e; exact hr h1 h2)).trans (h g h1 h2)
theorem Still.setCell {P : Nat → Prop} {w X : World} (h : Still P w X) {p : Addr} (hr : p.block < w.heap.size → ¬ P p.block) (u : Value) : Still P w (X.setCell p u) := fun g h1 h2 =>
  (Below.heap_setCell X p u g (fun e => by subst e; exact hr h1 h2)).trans (h g h1 h2)
theorem Still.blk {P : Nat → Prop} {w X : World} (h : Still P w X) {g : Nat} {t : TypeId} {cs : Array Value} (hb : Blk w g t cs) (hp : P g) : Blk X g t cs := (h g (Blk.lt hb) hp).trans hb

/-- The row of what is held at block rb: list number j + 1, and what was put behind it. -/
def RowAt (w : World) (rb Z : Nat) (lv uv : Nat → Value) : Prop :=
  ∃ cs, Blk w rb 98 cs ∧ ∀ j, j < Z → cs[j * 3]? = some (lv j) ∧ cs[j * 3 + 1]? = some (uv j) ∧ cs[j * 3 + 2]? = some (.int .i64 ((j : Int) + 1))

theorem RowAt.cells {w : World} {rb Z : Nat} {lv uv : Nat → Value} (h : RowAt w rb Z lv uv) {j : Nat} (hj : j < Z) :
    w.cell? ⟨rb, j * 3, none⟩ = some (lv j) ∧ w.cell? ⟨rb, j * 3 + 1, none⟩ = some (uv j) ∧ w.cell? ⟨rb, j * 3 + 2, none⟩ = some (.int .i64 ((j : Int) + 1)) := by
  obtain ⟨cs, hb, hc⟩ := h
  obtain ⟨h0, h1, h2⟩ := hc j hj
  exact ⟨hb.cell _ h0, hb.cell _ h1, hb.cell _ h2⟩
theorem RowAt.below {w w' : World} {rb Z : Nat} {lv uv : Nat → Value} (h : RowAt w rb Z lv uv) (hb : Below w.heap.size w w') : RowAt w' rb Z lv uv := by
  obtain ⟨cs, h1, h2⟩ := h
  exact ⟨cs, h1.below hb, h2⟩
theorem RowAt.far {w : World} {rb Z : Nat} {lv uv : Nat → Value} (h : RowAt w rb Z lv uv) {p : Addr} (hp : rb ≠ p.block) (u : Value) : RowAt (w.setCell p u) rb Z lv uv := by
  obtain ⟨cs, h1, h2⟩ := h
  exact ⟨cs, h1.far hp u, h2⟩

theorem grownBy_setCell_any (W : World) (g o : Nat) (u : Value) : W.grownBy (W.setCell ⟨g, o, none⟩ u) (some g) :=
  ⟨rfl, rfl, rfl, by simp, fun k hk hn => Below.heap_setCell W _ u k (fun e => hn (by rw [e]))⟩
theorem own_kept {w w' : World} {B : Nat} {v : Value} {l : List Int} {row : Option Nat} (h : Own w B v l) (hg : w.grownBy w' row) (hne : ∀ g, v.ownBlock = some g → row ≠ some g) : Own w' B v l :=
  ⟨h.1, h.2.kept hg (by
    cases hv : v.ownBlock with
    | none => exact .inl rfl
    | some g => exact .inr fun e => hne g hv e.symm)⟩
theorem own_store {w : World} {base q d n : Nat} {l : List Int} (h : Own w base (.slice (some ⟨q, 0, none⟩) n d) l) (hn : l.length = n) (j : Nat) {x : Int} (hx : 0 ≤ x ∧ x < 256) :
    Own (w.setCell ⟨q, j, none⟩ (.int .u8 x)) base (.slice (some ⟨q, 0, none⟩) n d) (l.set j x) ∧ w.grownBy (w.setCell ⟨q, j, none⟩ (.int .u8 x)) (some q) := by
  subst hn
  have h2 := h.2.stored j (.int .u8 x)
  refine ⟨⟨fun y hy => ?_, ?_⟩, h2.2⟩
  · rcases List.mem_or_eq_of_mem_set hy with hy | rfl
    · exact h.1 y hy
    · exact hx
  · rw [List.length_set, List.map_set]
    exact h2.1
theorem own_rd {w : World} {base n d : Nat} {A : Option Addr} {l : List Int} (h : Own w base (.slice A n d) l) : Rd w A l := by
  obtain ⟨B, c, hv, _, _, hr⟩ := h.form
  injection hv with e1 _ _
  rw [e1]
  exact hr
theorem own_some {w : World} {base n d : Nat} {A : Option Addr} {l : List Int} (h : Own w base (.slice A n d) l) (h0 : 0 < l.length) : ∃ g, A = some ⟨g, 0, none⟩ ∧ base ≤ g ∧ g < w.heap.size ∧ ∃ cs, Blk w g 5 cs := by
  rcases h.2.2 with ⟨_, h1⟩ | ⟨g, cap, cur, hv, hb, hg, _⟩
  · omega
  · injection hv with e1 _ _
    exact ⟨g, e1, hb, (Array.getElem?_eq_some_iff.1 hg).1, cur, hg⟩
theorem marks_step (n m : Nat) (l : List Int) (hm : m < l.length) : (marks n m ++ l.drop m).set m (mk n) = marks n (m + 1) ++ l.drop (m + 1) := by
  rw [List.set_append_right _ _ (by rw [marks_length]; exact Nat.le_refl _), marks_length, Nat.sub_self, List.drop_eq_getElem_cons hm, List.set_cons_zero]
  unfold marks
  rw [List.replicate_succ', List.append_assoc]
  rfl

theorem markByte (n : Nat) (w : World) (hn : n ≤ 1000000000000) :
    Calls Tryd.prog 62 #[.int .i64 n] w fun e w' => e = .returned (.int .u8 (mk n)) ∧ w' = w := by
  go_enter Tryd.func62, Tryd.ntmps62
  have e : ((n : Int).tmod 250) = (n : Int) % 250 := Int.tmod_eq_emod_of_nonneg (by omega)
  go_wp2
  go_ret
  unfold mk
  exact ⟨rfl, rfl⟩

set_option maxRecDepth 100000 in
set_option maxHeartbeats 2000000 in
theorem fillByte {M : Value} (P : Nat → Prop) (kb rb Z n c B : Nat) (lv uv : Nat → Value) (L : Nat → List Int) (w : World) (hZ0 : 0 < Z) (hZ2 : Z ≤ 1000000000) (hc : Z ≤ c)
    (hb : BookAt w kb n (.slice (some ⟨rb, 0, none⟩) Z c) M) (hrow : RowAt w rb Z lv uv) (hB : B ≤ w.heap.size) (hu : ∀ j, j < Z → ∃ A m d, uv j = .slice A m d)
    (ho : ∀ j, j < Z → Own w B (lv j) (L j)) (hd : ∀ i j, i < Z → j < Z → i ≠ j → ∀ g, (lv i).ownBlock = some g → (lv j).ownBlock ≠ some g) (hP : ∀ j g, j < Z → (lv j).ownBlock = some g → ¬ P g) :
    Calls Tryd.prog 34 #[.pointer (some ⟨kb, 0, none⟩)] w fun e w' => (∃ v, e = .returned v) ∧ BookAt w' kb n (.slice (some ⟨rb, 0, none⟩) Z c) M ∧ RowAt w' rb Z lv uv ∧
      (∀ j, j < Z → Own w' B (lv j) (marks (j + 1) (L j).length)) ∧ Below B w w' ∧ Still P w w' := by
  have HD := Lib.hid hd
  have HP := Lib.hid hP
  clear hd hP
  go_enter Tryd.func34, Tryd.ntmps34
  have HO := Lib.hid ho
  clear ho
  go_wp2
  go_loopw [2] (fun i wr => ∃ k : Nat, k ≤ Z ∧ i = .int .i64 k ∧ BookAt wr kb n (.slice (some ⟨rb, 0, none⟩) Z c) M ∧ RowAt wr rb Z lv uv ∧ (∀ j, j < Z → Own wr B (lv j) (if j < k then marks (j + 1) (L j).length else L j)) ∧ Below B w wr ∧ w.heap.size ≤ wr.heap.size ∧ Still P w wr) (fun i _ => Z - (intOf i).toNat)
  case atStart => exact ⟨0, Nat.zero_le _, rfl, hb, hrow, fun j hj => by simpa using HO.out j hj, Below.refl _ _, Nat.le_refl _, Still.refl _ _⟩
  case round =>
    obtain ⟨k, hk, rfl, hbr, hrr, hor, hB1, hsz, hst1⟩ := hrel
    rename World => wo
    have HOR := Lib.hid hor
    clear hor
    have k1 := Blk.cell hbr 1 (v := .slice (some ⟨rb, 0, none⟩) Z c) rfl
    by_cases hlt : k < Z
    · have hki : (k : Int) < (Z : Int) := by omega
      obtain ⟨c0, c1, c2⟩ := hrr.cells hlt
      have hok := HOR.out k hlt
      rw [if_neg (by omega)] at hok
      obtain ⟨A, d, hlv, hd1, hd2, hrd⟩ := hok.form
      obtain ⟨UA, un, uc, huv⟩ := hu k hlt
      rw [hlv] at c0 hok
      rw [huv] at c1
      have HLV := Lib.hid hlv
      have HUV := Lib.hid huv
      clear hlv huv
      have hlk : (L k).length ≤ d := hd1
      go_wp2
      go_loopw [4] (fun q ws => ∃ m : Nat, m ≤ (L k).length ∧ q = .int .i64 m ∧ Blk ws wo.heap.size 98 #[.slice A (L k).length d, .slice UA un uc, .int .i64 ((k : Int) + 1)] ∧ BookAt ws kb n (.slice (some ⟨rb, 0, none⟩) Z c) M ∧ RowAt ws rb Z lv uv ∧ Own ws B (.slice A (L k).length d) (marks (k + 1) m ++ (L k).drop m) ∧ (∀ j, j < Z → j ≠ k → Own ws B (lv j) (if j < k then marks (j + 1) (L j).length else L j)) ∧ Below B w ws ∧ wo.heap.size < ws.heap.size ∧ Still P w ws) (fun q _ => (L k).length - (intOf q).toNat)
      case atStart =>
        refine ⟨0, Nat.zero_le _, rfl, Blk.new _ _ _, Blk.alloc hbr _, hrr.below ((Below.refl _ wo).alloc (Nat.le_refl _) _), ?_, fun j hj _ => (HOR.out j hj).alloc _, hB1.alloc (by omega) _, by simp, hst1.below hsz ((Below.refl _ wo).alloc (Nat.le_refl _) _)⟩
        simpa [marks] using hok.alloc _
      case round =>
        obtain ⟨m, hm, rfl, hbh, hbs, hrs, hos, hoj, hBs, hss, hst2⟩ := hrel
        have HOJ := Lib.hid hoj
        clear hoj
        have f0 := hbh.cell 0 (v := .slice A (L k).length d) rfl
        have f2 := hbh.cell 2 (v := .int .i64 ((k : Int) + 1)) rfl
        have hll : (marks (k + 1) m ++ (L k).drop m).length = (L k).length := by rw [List.length_append, marks_length, List.length_drop]; omega
        by_cases hml : m < (L k).length
        · have hmi : (m : Int) < ((L k).length : Int) := by omega
          obtain ⟨g, rfl, hgB, hgs, cs, hgc⟩ := own_some hos (by omega)
          have hmx : (m : Int) + 1 ≤ 9223372036854775807 := by
            have : maxLen = 9223372036854775807 := rfl
            omega
          have mb := fun wx => markByte (k + 1) wx (by omega)
          rw [show (((k + 1 : Nat)) : Int) = (k : Int) + 1 from rfl] at mb
          have st := own_store hos hll m (mk_bounds (k + 1))
          rw [marks_step _ _ _ hml] at st
          have gc : wr.cell? ⟨g, m, none⟩ = some (.int .u8 (nth (marks (k + 1) m ++ (L k).drop m) m)) := by
            obtain ⟨ad, e, hcell⟩ := (own_rd hos).at_ (k := m) (by omega)
            cases e
            rwa [add_plain] at hcell
          have fz : wr.frozen? ⟨g, m, none⟩ = false := hgc.frozen m
          have HMB := Lib.hid mb
          have HST := Lib.hid st
          have HLL := Lib.hid hll
          clear mb st hll hok
          generalize hN : (L k).length = N at *
          have HN := Lib.hid hN
          clear hN
          go_wp2_with fail
          refine start_ (n := 8) (S := fun w' => w'.cell? ⟨wo.heap.size, 0, none⟩ = some (.slice (some ⟨g, 0, none⟩) N d) ∧ w'.cell? ⟨wo.heap.size, 2, none⟩ = some (.int .i64 ((k : Int) + 1))) (ds := [7]) #[false, false, false, false, false, false, false, false] (by kernel_rfl) rfl rfl ⟨f0, f2⟩ (fun hHeld => ?_)
          refine pure_ (i := 0) (N := some 28) (v := ?_) (a' := ?_) #[true, false, false, false, false, false, false, false] rfl rfl (by kernel_rfl) (fun _ _ _ h => h) (Or.inl ⟨by rfl, ?_⟩) ?_ ?_
          rotate_left
          · intro w'
            go_simp
            with_reducible rfl
          rotate_left
          · simp only [Act.put, List.setIfInBounds_toArray, List.set_cons_zero, List.set_cons_succ, i64_w, i32_w]
            rfl
          refine pure_ (i := 2) (N := some 30) (v := ?_) (a' := ?_) #[true, false, true, false, false, false, false, false] rfl rfl (by kernel_rfl) (fun _ _ _ h => h) (Or.inl ⟨by rfl, ?_⟩) ?_ ?_
          rotate_left
          · intro w'
            go_simp
            with_reducible rfl
          rotate_left
          · simp only [Act.put, List.setIfInBounds_toArray, List.set_cons_zero, List.set_cons_succ, i64_w, i32_w]
            rfl
          refine pure_ (i := 3) (N := some 31) (v := ?_) (a' := ?_) #[true, false, true, true, false, false, false, false] rfl rfl (by kernel_rfl) (fun _ _ _ h => h) (Or.inl ⟨by rfl, ?_⟩) ?_ ?_
          rotate_left
          · intro w'
            go_simp
            with_reducible rfl
          rotate_left
          · simp only [Act.put, List.setIfInBounds_toArray, List.set_cons_zero, List.set_cons_succ, i64_w, i32_w]
            rfl
          refine take_ (i := 1) (N := some 29) (v := ?_) (a' := ?_) #[true, true, true, true, false, false, false, false] rfl rfl (by kernel_rfl) (fun _ _ _ h => h) (Or.inl ⟨by rfl, ?_⟩) hHeld ?_ ?_
          rotate_left
          · rintro w' ⟨s0, s1⟩
            go_simp
            with_reducible rfl
          rotate_left
          · simp only [Act.put, List.setIfInBounds_toArray, List.set_cons_zero, List.set_cons_succ, i64_w, i32_w]
            rfl
          refine take_ (i := 4) (N := some 32) (v := ?_) (a' := ?_) #[true, true, true, true, true, false, false, false] rfl rfl (by kernel_rfl) (fun _ _ _ h => h) (Or.inl ⟨by rfl, ?_⟩) hHeld ?_ ?_
          rotate_left
          · rintro w' ⟨s0, s1⟩
            go_simp
            with_reducible rfl
          rotate_left
          · simp only [Act.put, List.setIfInBounds_toArray, List.set_cons_zero, List.set_cons_succ, i64_w, i32_w]
            rfl
          refine one_ (i := 5) (N := some 33) #[true, true, true, true, true, true, false, false] rfl rfl (by kernel_rfl) (by decide) (fun K hK => ?_)
          refine goes_ Tryd.func62 (by kernel_rfl) rfl #[.int .i64 ((k : Int) + 1)] (by rfl) rfl rfl (by simp only [List.map_toArray, List.map_cons, List.map_nil]; rfl) ?_
          with_reducible refine (HMB.out _).mono ?_
          rintro e w4 ⟨rfl, rfl⟩
          refine ⟨_, rfl, ?_⟩
          refine hK.out _ _ ⟨f0, f2⟩ (fun hHeld => ?_)
          clear hK K
          refine norm_ (a' := ?_) ?_ ?_
          rotate_left
          · show Act.put _ (some 33) _ = _
            simp only [Act.put, List.setIfInBounds_toArray, List.set_cons_zero, List.set_cons_succ, i64_w, i32_w]
            rfl
          refine pure_ (i := 6) (N := some 34) (v := ?_) (a' := ?_) #[true, true, true, true, true, true, true, false] rfl rfl (by kernel_rfl) (fun _ _ _ h => h) (Or.inl ⟨by rfl, ?_⟩) ?_ ?_
          rotate_left
          · intro w'
            go_simp
            with_reducible rfl
          rotate_left
          · simp only [Act.put, List.setIfInBounds_toArray, List.set_cons_zero, List.set_cons_succ, i64_w, i32_w]
            rfl
          refine last_ (i := 7) (N := none) #[true, true, true, true, true, true, true, true] rfl rfl (by kernel_rfl) (by decide) (fun K hK => ?_)
          refine skip_ (w1 := ?_) (by rfl) rfl ?_ ?_
          rotate_left
          · go_simp
            rfl
          refine hK.out _ _ ?_
          clear hK K
          refine done_ (by kernel_rfl) ?_
          go_wp2
          have st := HST.out
          have hll := HLL.out
          have hN := HN.out
          have hgh : wo.heap.size ≠ g := hbh.ne_ hgc (by decide)
          have hgk : kb ≠ g := Blk.ne_ hbs hgc (by decide)
          obtain ⟨rcs, hrc, hrv⟩ := hrs
          have hgr : rb ≠ g := hrc.ne_ hgc (by decide)
          have hB5 : Below B w (wr.setCell ⟨g, m, none⟩ (.int .u8 (mk (k + 1)))) := hBs.setCell hgB _
          refine ⟨⟨m + 1, by omega, by go_num, hbh.far (p := ⟨g, m, none⟩) hgh _, Blk.far hbs (p := ⟨g, m, none⟩) hgk _, ⟨rcs, hrc.far (p := ⟨g, m, none⟩) hgr _, hrv⟩, st.1, fun j hj hjk => ?_, below_drewN hB5 1, ?_, ?_⟩, ?_⟩
          · show Own (wr.setCell ⟨g, m, none⟩ (.int .u8 (mk (k + 1)))) B (lv j) _
            refine own_kept (HOJ.out j hj hjk) st.2 fun g' hg' e => ?_
            cases e
            exact HD.out j k hj hlt hjk _ hg' (by rw [HLV.out]; rfl)
          · show wo.heap.size < (wr.setCell _ _).heap.size
            rw [World.size_setCell]
            exact hss
          · show Still P w (wr.setCell _ _)
            exact hst2.setCell (fun _ => HP.out k g hlt (by rw [HLV.out]; rfl)) _
          · simp [intOf]
            omega
        · have hmi : ¬ (m : Int) < ((L k).length : Int) := by omega
          clear hok hll
          go_wp2
          refine ⟨⟨k + 1, by omega, by go_num, hbs, hrs, fun j hj => ?_, hBs, by omega, hst2⟩, by simp [intOf]; omega⟩
          by_cases hjk : j = k
          · subst hjk
            rw [if_pos (by omega), HLV.out]
            rw [List.drop_of_length_le (by omega), List.append_nil] at hos
            rw [show (L j).length = m from by omega]
            rw [show (L j).length = m from by omega] at hos
            exact hos
          · have := HOJ.out j hj hjk
            by_cases hjl : j < k
            · rw [if_pos hjl] at this
              rwa [if_pos (by omega)]
            · rw [if_neg hjl] at this
              rwa [if_neg (by omega)]
    · have hki : ¬ (k : Int) < (Z : Int) := by omega
      go_wp2
      go_end0
      refine ⟨⟨_, rfl⟩, hbr, hrr, fun j hj => ?_, hB1, hst1⟩
      have := HOR.out j hj
      rwa [if_pos (by omega)] at this
end Go.Proofs.YtoodmjdafifbmaaDoor.Hand
