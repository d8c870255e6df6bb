/- The Book's lists of bytes: what growByte does: forty more of its mark are put behind each list; the list itself reads as it did. -/
import Derived.Lib.AppendZerosOnto
import Derived.Test.YtoodmjdafifbmaaDoorBookFill
import Derived.Test.YtoodmjdafifbmaaDoorFull
namespace Go.Proofs.YtoodmjdafifbmaaDoor.Hand
open Go.RowKit Go.Proofs.YtoodmjdafifbmaaDoorW.PrintLast
set_option linter.unusedVariables false
set_option linter.unusedSimpArgs false

/-- A slice that reads as l. -/
def Reads (w : World) (v : Value) (l : List Int) : Prop := ∃ A d, v = .slice A l.length d ∧ l.length ≤ d ∧ Rd w A l
theorem Reads.below {w w' : World} {v : Value} {l : List Int} (h : Reads w v l) (hb : Below w.heap.size w w') : Reads w' v l := by
  obtain ⟨A, d, e, hd, hr⟩ := h
  exact ⟨A, d, e, hd, hr.below hb⟩
theorem Reads.kept {w w' : World} {v : Value} {l : List Int} {g : Nat} (h : Reads w v l) (hg : w.grownBy w' (some g)) (hne : v.ownBlock ≠ some g) : Reads w' v l := by
  obtain ⟨A, d, rfl, hd, hr⟩ := h
  refine ⟨A, d, rfl, hd, hr.1, fun h0 => ?_⟩
  obtain ⟨ad, rfl, hc⟩ := hr.2 h0
  refine ⟨ad, rfl, fun j hj => ?_⟩
  have hb : (ad.add j).block = ad.block := by unfold Addr.add; split <;> rfl
  have hlt := World.block_lt_of_cell? w _ (hc j hj)
  rw [← hc j hj]
  refine World.cell?_of_block (hg.block _ hlt ?_)
  rw [hb]
  intro e
  exact hne (by rw [← e]; rfl)
theorem Reads.still {P : Nat → Prop} {w w' : World} {v : Value} {l : List Int} (h : Reads w v l) (hs : Still P w w') (hP : ∀ g, v.ownBlock = some g → P g) : Reads w' v l := by
  obtain ⟨A, d, rfl, hd, hr⟩ := h
  refine ⟨A, d, rfl, hd, hr.1, fun h0 => ?_⟩
  obtain ⟨ad, rfl, hc⟩ := hr.2 h0
  refine ⟨ad, rfl, fun j hj => ?_⟩
  have hb : (ad.add j).block = ad.block := by unfold Addr.add; split <;> rfl
  have hlt := World.block_lt_of_cell? w _ (hc j hj)
  rw [← hc j hj]
  refine World.cell?_of_block (hs _ hlt ?_)
  rw [hb]
  exact hP _ rfl
theorem Reads.lt {w : World} {v : Value} {l : List Int} (h : Reads w v l) (h0 : 0 < l.length) : ∀ g, v.ownBlock = some g → g < w.heap.size := by
  obtain ⟨A, d, rfl, hd, hr⟩ := h
  obtain ⟨ad, rfl, hc⟩ := hr.2 h0
  intro g hg
  have := World.block_lt_of_cell? w _ (hc 0 h0)
  simp [Value.ownBlock] at hg
  unfold Addr.add at this
  simp at this
  omega
theorem own_reads {w : World} {B : Nat} {v : Value} {l : List Int} (h : Own w B v l) : Reads w v l := by
  obtain ⟨A, d, e, hd, _, hr⟩ := h.form
  exact ⟨A, d, e, hd, hr⟩

/-- append of one byte: in place, or into new memory. -/
theorem append1 (w : World) (base : Nat) (x : Value) (l : List Int) (ho : Own w base x l) (s c : Nat) (y : Int) (hr : Rd w (some ⟨s, 0, none⟩) [y]) (h : l.length + 1 ≤ 140737488355328) (hbase : base ≤ w.heap.size) :
    ∃ v' w', (Builtin.append_ #[24, 24] 24 #[x, .slice (some ⟨s, 0, none⟩) 1 c]).run Tryd.prog w = .ok v' w' ∧ Own w' base v' (l ++ [y]) ∧
      ((∃ g d, x = .slice (some ⟨g, 0, none⟩) l.length d ∧ v' = .slice (some ⟨g, 0, none⟩) (l.length + 1) d ∧ w.grownBy w' (some g)) ∨ ((∃ g, v'.ownBlock = some g ∧ w.heap.size ≤ g) ∧ Below w.heap.size w w')) := by
  obtain ⟨i, hi, hz0, hz1, hz2⟩ := info_parts info8
  rcases ho.2.2 with ⟨rfl, h0⟩ | ⟨g, cap, cur, rfl, hbg, hg, hnc, hcm, hcs, htake⟩
  · obtain ⟨v', w', h1, h2, h3, h4⟩ := run_append w base (.slice none 0 0) l ho (some ⟨s, 0, none⟩) c [y] hr (by simpa using h) hbase
    refine ⟨v', w', h1, h2, .inr ⟨?_, ⟨h3.os, h3.tape, h3.output, h3.size, fun k hk => h3.block k hk (by simp [Value.ownBlock])⟩⟩⟩
    rcases h4 with h4 | h4
    · exfalso
      rcases h2.2.2 with ⟨_, h5⟩ | ⟨g, cap, cur, rfl, _⟩
      · simp at h5
      · simp [Value.ownBlock] at h4
    · exact ⟨_, h4, Nat.le_refl _⟩
  · by_cases hlt : l.length < cap
    · obtain ⟨w', h1, h2, h3⟩ := run_append_fits (P := Tryd.prog) w base 24 24 5 i 1 Tryd.underlying24 hi hz1 g l.length cap _ ho.2 ⟨s, 0, none⟩ 1 c ([y].map (Value.int .u8)) (by simp) (rd_cells hr) (by intro u hu; obtain ⟨z, _, rfl⟩ := List.mem_map.1 hu; rfl) (by omega)
      exact ⟨_, w', h1, ho.after hr.1 h2, .inl ⟨g, cap, rfl, rfl, h3⟩⟩
    · have hcap : cap = l.length := by omega
      subst hcap
      obtain ⟨A, d, hv, _, _, hrd⟩ := ho.form
      injection hv with e1 _ _
      subst e1
      obtain ⟨v', w', h1, h2, h3⟩ := run_append_full w ⟨g, 0, none⟩ l hrd (some ⟨s, 0, none⟩) c [y] hr (by simp) (by simpa using h)
      refine ⟨v', w', h1, h2.lower hbase, .inr ⟨?_, h3⟩⟩
      rcases h2.2.2 with ⟨_, h5⟩ | ⟨g', cap', cur', rfl, hb', _⟩
      · simp at h5
      · exact ⟨g', rfl, hb'⟩

theorem marks_snoc (n k : Nat) : marks n k ++ [mk n] = marks n (k + 1) := by
  unfold marks
  rw [List.replicate_succ']
theorem RowAt.store {w : World} {rb Z : Nat} {lv uv : Nat → Value} (h : RowAt w rb Z lv uv) {k : Nat} (hk : k < Z) (u : Value) :
    RowAt (w.setCell ⟨rb, k * 3 + 1, none⟩ u) rb Z lv (fun j => if j = k then u else uv j) := by
  obtain ⟨cs, hb, hc⟩ := h
  refine ⟨_, hb.set_ (k * 3 + 1) u, fun j hj => ?_⟩
  obtain ⟨h0, h1, h2⟩ := hc j hj
  have hlt : j * 3 + 1 < cs.size := by
    rcases Nat.lt_or_ge (j * 3 + 1) cs.size with h | h
    · exact h
    · rw [Array.getElem?_eq_none h] at h1; cases h1
  refine ⟨?_, ?_, ?_⟩
  · rw [Array.getElem?_setIfInBounds_ne (by omega)]; exact h0
  · by_cases hjk : j = k
    · subst hjk
      show _ = some (if j = j then u else uv j)
      rw [if_pos rfl, Array.getElem?_setIfInBounds_self_of_lt hlt]
    · show _ = some (if j = k then u else uv j)
      rw [if_neg hjk, Array.getElem?_setIfInBounds_ne (by omega)]; exact h1
  · rw [Array.getElem?_setIfInBounds_ne (by omega)]; exact h2
theorem RowAt.congr {w : World} {rb Z : Nat} {lv uv uv' : Nat → Value} (h : RowAt w rb Z lv uv) (he : ∀ j, j < Z → uv j = uv' j) : RowAt w rb Z lv uv' := by
  obtain ⟨cs, hb, hc⟩ := h
  exact ⟨cs, hb, fun j hj => by rw [← he j hj]; exact hc j hj⟩
theorem Reads.far {w : World} {v : Value} {l : List Int} (h : Reads w v l) {p : Addr} (hne : v.ownBlock ≠ some p.block) (u : Value) : Reads (w.setCell p u) v l :=
  h.kept (g := p.block) ⟨rfl, rfl, rfl, by simp, fun k hk hn => Below.heap_setCell w p u k (fun e => hn (by rw [e]))⟩ hne

set_option maxRecDepth 100000 in
set_option maxHeartbeats 4000000 in
theorem growByte {M : Value} (P : Nat → Prop) (kb rb Z n c B : Nat) (lv uv : Nat → Value) (ln : Nat → Nat) (w : World) (hZ0 : 0 < Z) (hZ2 : Z ≤ 1000000000) (hc : Z ≤ c)
    (hb : BookAt w kb n (.slice (some ⟨rb, 0, none⟩) Z c) M) (hrow : RowAt w rb Z lv uv) (hB : B ≤ w.heap.size) (hBr : B ≤ rb) (hu : ∀ j, j < Z → ∃ A m d, uv j = .slice A m d)
    (hln : ∀ j, j < Z → ln j ≤ 140737488351232)
    (ho : ∀ j, j < Z → Own w B (lv j) (marks (j + 1) (ln j))) (hd : ∀ i j, i < Z → j < Z → i ≠ j → ∀ g, (lv i).ownBlock = some g → (lv j).ownBlock ≠ some g) (hP : ∀ j g, j < Z → (lv j).ownBlock = some g → ¬ P g) (hPr : ¬ P rb) :
    Calls Tryd.prog 41 #[.pointer (some ⟨kb, 0, none⟩)] w fun e w' => (∃ v, e = .returned v) ∧ BookAt w' kb n (.slice (some ⟨rb, 0, none⟩) Z c) M ∧
      ∃ uv', RowAt w' rb Z lv uv' ∧ (∀ j, j < Z → Reads w' (lv j) (marks (j + 1) (ln j)) ∧ Reads w' (uv' j) (marks (j + 1) (ln j + 40))) ∧ Below B w w' ∧ Still P w w' ∧ (∀ j g, j < Z → (uv' j).ownBlock = some g → (lv j).ownBlock = some g ∨ w.heap.size ≤ g) := by
  have HD := Lib.hid hd
  have HLN := Lib.hid hln
  have hlw : ∀ j, j < Z → ∀ g, (lv j).ownBlock = some g → B ≤ g ∧ g < w.heap.size ∧ g ≠ rb ∧ g ≠ kb := by
    intro j hj g hg
    have h1 := (ho j hj).2.lt g hg
    obtain ⟨rcs, hrc, _⟩ := hrow
    refine ⟨h1.1, h1.2, fun e => ?_, fun e => ?_⟩
    · exact (ho j hj).blk_ne hrc (by decide) (by rw [hg, e])
    · exact (ho j hj).blk_ne (show Blk w kb _ _ from hb) (by decide) (by rw [hg, e])
  have HLW := Lib.hid hlw
  have HO := Lib.hid ho
  have HP := Lib.hid hP
  have HPR := Lib.hid hPr
  clear hd hln hlw ho hP hPr
  go_enter Tryd.func41, Tryd.ntmps41
  go_wp2
  go_loopw [2] (fun i wr => ∃ (k : Nat) (us : Nat → Value), k ≤ Z ∧ i = .int .i64 k ∧ BookAt wr kb n (.slice (some ⟨rb, 0, none⟩) Z c) M ∧ RowAt wr rb Z lv us ∧ (∀ j, j < Z → ∃ A m d, us j = .slice A m d) ∧ (∀ j, k ≤ j → j < Z → Own wr B (lv j) (marks (j + 1) (ln j))) ∧
      (∀ j, j < k → Reads wr (lv j) (marks (j + 1) (ln j)) ∧ Reads wr (us j) (marks (j + 1) (ln j + 40)) ∧ ∀ g, (us j).ownBlock = some g → g ≠ rb ∧ g < wr.heap.size ∧ ∀ i, k ≤ i → i < Z → (lv i).ownBlock ≠ some g) ∧ Below B w wr ∧ w.heap.size ≤ wr.heap.size ∧ Still P w wr ∧ Hid (∀ j g, j < k → (us j).ownBlock = some g → (lv j).ownBlock = some g ∨ w.heap.size ≤ g)) (fun i _ => Z - (intOf i).toNat)
  case atStart => exact ⟨0, uv, Nat.zero_le _, rfl, hb, hrow, hu, fun j _ hj => HO.out j hj, fun j hj => absurd hj (by omega), Below.refl _ _, Nat.le_refl _, Still.refl _ _, Lib.hid (fun j g hj => absurd hj (by omega))⟩
  case round =>
    obtain ⟨k, us, hk, rfl, hbr, hrr, hur, hor, hdr, hB1, hsz, hst1, HUW⟩ := hrel
    rename World => wo
    have HOR := Lib.hid hor
    have HDR := Lib.hid hdr
    have HUR := Lib.hid hur
    clear hor hdr hur
    have k1 := Blk.cell hbr 1 (v := .slice (some ⟨rb, 0, none⟩) Z c) rfl
    by_cases hlt : k < Z
    · have hki : (k : Int) < (Z : Int) := by omega
      obtain ⟨c0, c1, c2⟩ := hrr.cells hlt
      have hok := HOR.out k (Nat.le_refl _) hlt
      have hlk := HLN.out k hlt
      obtain ⟨A, d, hlv, hd1, hd2, hrd⟩ := hok.form
      rw [marks_length] at hlv hd1
      obtain ⟨UA, un, uc, huv⟩ := HUR.out k hlt
      rw [hlv] at c0 hok
      rw [huv] at c1
      have HLV := Lib.hid hlv
      clear hlv huv
      generalize hN : ln k = N at *
      have HN := Lib.hid hN
      clear hN
      have mb := fun wx => markByte (k + 1) wx (by omega)
      rw [show (((k + 1 : Nat)) : Int) = (k : Int) + 1 from rfl] at mb
      have HMB := Lib.hid mb
      clear mb
      go_wp2
      go_loopw [4, 5] (fun x q ws => ∃ m : Nat, m ≤ 40 ∧ q = .int .i64 m ∧ Blk ws wo.heap.size 98 #[.slice A N d, .slice UA un uc, .int .i64 ((k : Int) + 1)] ∧ BookAt ws kb n (.slice (some ⟨rb, 0, none⟩) Z c) M ∧ RowAt ws rb Z lv us ∧
          Own ws B x (marks (k + 1) (N + m)) ∧ Reads ws (.slice A N d) (marks (k + 1) N) ∧ (∀ g, x.ownBlock = some g → (Value.slice A N d).ownBlock = some g ∨ wo.heap.size < g) ∧ (∀ g e f, x = .slice (some ⟨g, 0, none⟩) e f → (Value.slice A N d).ownBlock = some g → A = some ⟨g, 0, none⟩) ∧
          (∀ j, k < j → j < Z → Own ws B (lv j) (marks (j + 1) (ln j))) ∧ (∀ j, j < k → Reads ws (lv j) (marks (j + 1) (ln j)) ∧ Reads ws (us j) (marks (j + 1) (ln j + 40))) ∧ Below B w ws ∧ wo.heap.size < ws.heap.size ∧ Still P w ws) (fun _ q _ => 40 - (intOf q).toNat)
      case atStart =>
        refine ⟨0, by omega, rfl, Blk.new _ _ _, Blk.alloc hbr _, hrr.below ((Below.refl _ wo).alloc (Nat.le_refl _) _), hok.alloc _, own_reads (hok.alloc _), fun g hg => .inl hg, fun g e f hx hg => ?_, fun j h1 h2 => (HOR.out j (by omega) h2).alloc _, fun j hj => ?_, hB1.alloc (by omega) _, by simp, hst1.below hsz ((Below.refl _ wo).alloc (Nat.le_refl _) _)⟩
        · injection hx
        · have h := HDR.out j hj
          exact ⟨h.1.below ((Below.refl _ wo).alloc (Nat.le_refl _) _), h.2.1.below ((Below.refl _ wo).alloc (Nat.le_refl _) _)⟩
      case round =>
        obtain ⟨m, hm, rfl, hbh, hbs, hrs, hos, hrk, hxb, hxa, hoj, hrj, hBs, hss, hst2⟩ := hrel
        have HOJ := Lib.hid hoj
        have HRJ := Lib.hid hrj
        have HXB := Lib.hid hxb
        have HXA := Lib.hid hxa
        clear hoj hrj hxb hxa
        have f2 := hbh.cell 2 (v := .int .i64 ((k : Int) + 1)) rfl
        by_cases hml : m < 40
        · have hmi : (m : Int) < 40 := by omega
          go_wp2_with fail
          refine (HMB.out _).mono ?_
          rintro e w4 ⟨rfl, rfl⟩
          have bA : Below w4.heap.size w4 (w4.alloc (.cells #[.int .u8 (mk (k + 1))] 5)) := (Below.refl _ w4).alloc (Nat.le_refl _) _
          have hBa : Below B w (w4.alloc (.cells #[.int .u8 (mk (k + 1))] 5)) := hBs.alloc (by have := hBs.size; omega) _
          obtain ⟨v5, w5, hrun, h2, h3⟩ := append1 (w4.alloc (.cells #[.int .u8 (mk (k + 1))] 5)) B u4 _ (hos.alloc _) w4.heap.size 1 (mk (k + 1)) (Rd.lit w4 [mk (k + 1)] (by intro z hz; rw [List.mem_singleton.1 hz]; exact mk_bounds _)) (by rw [marks_length]; omega) (by have := hBs.size; simp; omega)
          rw [marks_snoc] at h2
          have hrk2 := hrk.below bA
          have hbh2 := hbh.below bA
          have hbs2 : BookAt _ kb n (.slice (some ⟨rb, 0, none⟩) Z c) M := Blk.below hbs bA
          have hrs2 := hrs.below bA
          have HOJ2 := Lib.hid (fun j h1 h2 => (HOJ.out j h1 h2).below bA)
          have HRJ2 := Lib.hid (fun j hj => And.intro ((HRJ.out j hj).1.below bA) ((HRJ.out j hj).2.below bA))
          have hst3 := hst2.below (by omega) bA
          have hsA : w4.heap.size + 1 = (w4.alloc (.cells #[.int .u8 (mk (k + 1))] 5)).heap.size := by simp
          have HSA := Lib.hid hsA
          have H3 := Lib.hid h3
          clear hsA h3 bA hrk hbh hbs hrs
          go_wp2_with (at_builtin; refine Lib.wpList_append_run _ rfl _ _ _ _ rfl _ _ rfl rfl _ _ hrun ?_)
          go_wp2
          have hlk2 : ∀ g, (Value.slice A N d).ownBlock = some g → B ≤ g ∧ g < w.heap.size ∧ g ≠ rb ∧ g ≠ kb := fun g hg => HLW.out k hlt g (by rw [HLV.out]; exact hg)
          refine ⟨⟨m + 1, by omega, by go_num, ?_⟩, by simp [intOf]; omega⟩
          rcases H3.out with ⟨g, dd, hx, hv, hgr⟩ | ⟨⟨g, hg, hge⟩, hbl⟩
          · have hgt : B ≤ g ∧ ∃ cs, Blk w4 g 5 cs := by
              rcases hos.2.2 with ⟨hn, _⟩ | ⟨g', cap, cur, hv', hb', hg', _⟩
              · rw [hx] at hn; cases hn
              · rw [hx] at hv'; injection hv' with e1 _ _; cases e1
                exact ⟨hb', cur, hg'⟩
            obtain ⟨hgB, gcs, hgc⟩ := hgt
            have hgc2 := hgc.alloc (.cells #[.int .u8 (mk (k + 1))] 5)
            have n1 : wo.heap.size ≠ g := hbh2.ne_ hgc2 (by decide)
            have n2 : kb ≠ g := Blk.ne_ hbs2 hgc2 (by decide)
            obtain ⟨rcs, hrc, hrv⟩ := hrs2
            have n3 : rb ≠ g := hrc.ne_ hgc2 (by decide)
            have hxg : u4.ownBlock = some g := by rw [hx]; rfl
            have other : ∀ j, j < Z → j ≠ k → (lv j).ownBlock ≠ some g := by
              intro j hj hjk e
              rcases HXB.out g hxg with h | h
              · exact HD.out k j hlt hj (fun e => hjk e.symm) g (by rw [HLV.out]; exact h) e
              · have := (HLW.out j hj g e).2.1
                omega
            refine ⟨hbh2.grown hgr (by simp; exact n1), Blk.grown hbs2 hgr (by simp; exact n2), ⟨rcs, hrc.grown hgr (by simp; exact n3), hrv⟩, h2, ?_, ?_, ?_, ?_, ?_, hBa.grown hgr (by have := hBs.size; simp; omega) (fun q hq => by cases hq; exact hgB), ?_, hst3.grown (by simp; omega) hgr fun hgl => ?_⟩
            · by_cases hAg : (Value.slice A N d).ownBlock = some g
              · have hA := HXA.out g _ _ hx hAg
                rw [hv] at h2
                have hr5 := (own_rd h2).take N
                have e5 : (marks (k + 1) (N + m + 1)).take N = marks (k + 1) N := by
                  unfold marks
                  rw [List.take_replicate]
                  congr 1
                  omega
                rw [e5] at hr5
                exact ⟨A, d, by rw [marks_length], by rw [marks_length]; exact hd1, by rw [hA]; exact hr5⟩
              · exact hrk2.kept hgr hAg
            · intro g' hg'
              rw [hv] at hg'
              exact HXB.out g' (by rw [hx]; exact hg')
            · intro g' e f he hA
              rw [hv] at he
              injection he with e1 _ _
              cases e1
              exact HXA.out g _ _ hx hA
            · intro j hj1 hj2
              refine own_kept (HOJ2.out j hj1 hj2) hgr fun g' hg' e => ?_
              cases e
              exact other j hj2 (by omega) hg'
            · intro j hj
              refine ⟨((HRJ2.out j hj).1).kept hgr (other j (by omega) (by omega)), ((HRJ2.out j hj).2).kept hgr fun e => ?_⟩
              have h := (HDR.out j hj).2.2 g e
              rcases HXB.out g hxg with h4 | h4
              · exact h.2.2 k (Nat.le_refl _) hlt (by rw [HLV.out]; exact h4)
              · omega
            · have := hgr.size
              simp at this
              omega
            · rcases HXB.out g hxg with h | h
              · exact HP.out k g hlt (by rw [HLV.out]; exact h)
              · omega
          · have hs4 := hbl.size
            have hs5 := HSA.out
            refine ⟨hbh2.below hbl, Blk.below hbs2 hbl, hrs2.below hbl, h2, hrk2.below hbl, ?_, ?_, fun j h1 h2 => (HOJ2.out j h1 h2).below hbl, fun j hj => ⟨((HRJ2.out j hj).1).below hbl, ((HRJ2.out j hj).2).below hbl⟩, hBa.trans (hbl.mono hBa.size |>.mono (by have := hBs.size; omega)), by omega, hst3.below (by omega) hbl⟩
            · intro g' hg'
              rw [hg] at hg'
              cases hg'
              exact .inr (by omega)
            · intro g' e f he hA
              have : v5.ownBlock = some g' := by rw [he]; rfl
              rw [hg] at this
              cases this
              have := (hlk2 g hA).2.1
              omega
        · have hmi : ¬ (m : Int) < 40 := by omega
          obtain rfl : m = 40 := by omega
          obtain ⟨XA, xd, hxv, hxd, hxm, hxr⟩ := hos.form
          subst hxv
          have hul := own_reads hos
          have kk := Blk.cell hbs 1 (v := .slice (some ⟨rb, 0, none⟩) Z c) rfl
          have kc := (hrs.cells hlt).2.1
          obtain ⟨UA2, un2, uc2, hus⟩ := HUR.out k hlt
          rw [hus] at kc
          have HUS := Lib.hid hus
          clear hus
          obtain ⟨rcs, hrc, hrv⟩ := id hrs
          have kf := hrc.frozen (k * 3 + 1)
          have n0 : ∀ g, (Value.slice XA (marks (k + 1) (N + 40)).length xd).ownBlock = some g → g ≠ rb := fun g hg e => by
            cases e
            exact hos.blk_ne hrc (by decide) hg.symm
          have hxlt := hul.lt (by rw [marks_length]; omega)
          generalize hXL : (marks (k + 1) (N + 40)).length = XL at *
          have HXL := Lib.hid hXL
          have HUL := Lib.hid hul
          clear hXL hul
          go_wp2
          have hul := HUL.out
          have hkr : kb ≠ rb := Blk.ne_ hbs hrc (by decide)
          have lne : ∀ j, j < Z → (lv j).ownBlock ≠ some rb := fun j hj e => (HLW.out j hj rb e).2.2.1 rfl
          have hgw : wr.grownBy (wr.setCell ⟨rb, k * 3 + 1, none⟩ (.slice XA XL xd)) (some rb) := grownBy_setCell_any wr rb (k * 3 + 1) _
          refine ⟨⟨k + 1, fun j => if j = k then .slice XA XL xd else us j, by omega, by go_num, Blk.far hbs (by simpa using hkr) _, hrs.store hlt _, fun j hj => ?_, fun j h1 h2 => ?_, fun j hj => ?_, hBs.setCell (by simpa using hBr) _, by rw [World.size_setCell]; omega, hst2.setCell (fun _ => HPR.out) _, Lib.hid fun j g hj hg => ?_⟩, by simp [intOf]; omega⟩
          · by_cases hjk : j = k
            · exact ⟨XA, XL, xd, by show (if j = k then _ else _) = _; rw [if_pos hjk]⟩
            · obtain ⟨a, b, c', e⟩ := HUR.out j hj
              exact ⟨a, b, c', by show (if j = k then _ else _) = _; rw [if_neg hjk]; exact e⟩
          · refine own_kept (HOJ.out j (by omega) h2) hgw fun g hg e => ?_
            cases e
            exact lne j h2 hg
          · show Reads _ _ _ ∧ Reads _ (if j = k then _ else us j) _ ∧ ∀ g, (if j = k then Value.slice XA XL xd else us j).ownBlock = some g → _
            by_cases hjk : j = k
            · subst hjk
              rw [if_pos rfl]
              have hlr : Reads wr (lv j) (marks (j + 1) (ln j)) := by rw [HLV.out, HN.out]; exact hrk
              have hur : Reads wr (.slice XA XL xd) (marks (j + 1) (ln j + 40)) := by rw [HN.out]; exact hul
              refine ⟨hlr.kept hgw (lne j hlt), hur.kept hgw (fun e => n0 rb e rfl), fun g hg => ⟨n0 g hg, by rw [World.size_setCell]; exact hxlt g hg, fun i h1 h2 e => ?_⟩⟩
              rcases HXB.out g hg with h | h
              · exact HD.out i j h2 hlt (by omega) g e (by rw [HLV.out]; exact h)
              · have := (HLW.out i h2 g e).2.1
                omega
            · rw [if_neg hjk]
              have hj' : j < k := by omega
              have h := HDR.out j hj'
              have hr := HRJ.out j hj'
              refine ⟨hr.1.kept hgw (lne j (by omega)), hr.2.kept hgw (fun e => (h.2.2 rb e).1 rfl), fun g hg => ⟨(h.2.2 g hg).1, by rw [World.size_setCell]; have := (h.2.2 g hg).2.1; omega, fun i h1 h2 => (h.2.2 g hg).2.2 i (by omega) h2⟩⟩
          · have hg : (if j = k then Value.slice XA XL xd else us j).ownBlock = some g := hg
            by_cases hjk : j = k
            · subst hjk
              rw [if_pos rfl] at hg
              rcases HXB.out g hg with h | h
              · exact .inl (by rw [HLV.out]; exact h)
              · exact .inr (by omega)
            · rw [if_neg hjk] at hg
              exact HUW.out j g (by omega) hg
    · have hki : ¬ (k : Int) < (Z : Int) := by omega
      go_wp2
      go_end0
      refine ⟨⟨_, rfl⟩, hbr, us, hrr, fun j hj => ?_, hB1, hst1, fun j g hj hg => HUW.out j g (by omega) hg⟩
      have h := HDR.out j (by omega)
      exact ⟨h.1, h.2.1⟩
end Go.Proofs.YtoodmjdafifbmaaDoor.Hand
