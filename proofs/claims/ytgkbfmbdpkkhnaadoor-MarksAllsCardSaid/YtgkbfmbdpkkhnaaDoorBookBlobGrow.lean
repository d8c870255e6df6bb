/- The Book's list of messages: what growBlob does: forty more messages, its mark alone each, are put behind the list; the list itself reads as it did. -/
import Derived.Test.YtgkbfmbdpkkhnaaDoorBookBlobFill
import Derived.Test.YtgkbfmbdpkkhnaaDoorBookGrow
namespace Go.Proofs.YtgkbfmbdpkkhnaaDoor.Hand
open Go.RowKit Go.Proofs.YtgkbfmbdpkkhnaaDoorW.PrintLast
set_option linter.unusedVariables false
set_option linter.unusedSimpArgs false

theorem info24 : (Tryd.prog.info? 24).map (fun i => (i.zero, i.size, i.bytes)) = some (some (.slice none 0 0), 1, 24) := by kernel_rfl

/-- append of one message: in place, or into new memory. -/
theorem append1B (w : World) (base : Nat) (x : Value) (n : Nat) (xs : List Value) (ho : w.ownsRow base 24 1 x n xs) (hxl : xs.length = n) (s c : Nat) (y : Value) (hy : w.cell? ⟨s, 0, none⟩ = some y) (h1 : y.oneCell') (h : n + 1 ≤ 1000000000000) (hbase : base ≤ w.heap.size) :
    ∃ v' w', (Builtin.append_ #[53, 53] 53 #[x, .slice (some ⟨s, 0, none⟩) 1 c]).run Tryd.prog w = .ok v' w' ∧ w'.ownsRow base 24 1 v' (n + 1) (xs ++ [y]) ∧
      ((∃ g d, x = .slice (some ⟨g, 0, none⟩) n d ∧ v' = .slice (some ⟨g, 0, none⟩) (n + 1) d ∧ w.grownBy w' (some g)) ∨ ((∃ g, v'.ownBlock = some g ∧ w.heap.size ≤ g) ∧ Below w.heap.size w w')) := by
  obtain ⟨i, hi, hz0, hz1, hz2⟩ := info_parts info24
  have hc1 : ∀ j u, [y][j]? = some u → w.cell? ((⟨s, 0, none⟩ : Addr).add j) = some u := by
    intro j u hu
    match j, hu with
    | 0, hu =>
      cases hu
      rw [add_plain]
      exact hy
  have hone : ∀ u ∈ [y], u.oneCell' := fun u hu => by rw [List.mem_singleton.1 hu]; exact h1
  rcases ho.2 with ⟨rfl, h0⟩ | ⟨g, cap, cur, rfl, hbg, hg, hnc, hcm, hcs, htake⟩
  · obtain ⟨v', w', hr, h2, h3, _, h4⟩ := run_append_own_at (P := Tryd.prog) w base 53 53 24 i (.slice none 0 0) 1 24 Tryd.underlying53 hi hz0 hz1 hz2 rfl (by decide) (.slice none 0 0) n xs ho ⟨s, 0, none⟩ 1 c [y] (by simp) hc1 hone (by unfold maxLen; omega) (by omega) hbase
    refine ⟨v', w', hr, h2, .inr ⟨?_, ⟨h3.os, h3.tape, h3.output, h3.size, fun k hk => h3.block k hk (by simp [Value.ownBlock])⟩⟩⟩
    rcases h4 with h4 | h4
    · exfalso
      rcases h2.2 with ⟨_, h5⟩ | ⟨g, cap, cur, rfl, _⟩
      · omega
      · simp [Value.ownBlock] at h4
    · exact ⟨_, h4, Nat.le_refl _⟩
  · by_cases hlt : n < cap
    · obtain ⟨w', h1, h2, h3⟩ := run_append_fits (P := Tryd.prog) w base 53 53 24 i 1 Tryd.underlying53 hi hz1 g n cap _ ho ⟨s, 0, none⟩ 1 c [y] (by simp) hc1 hone (by omega)
      exact ⟨_, w', h1, h2, .inl ⟨g, cap, rfl, rfl, h3⟩⟩
    · have hcap : cap = n := by omega
      subst hcap
      have hcells : ∀ j u, xs[j]? = some u → w.cell? ((⟨g, 0, none⟩ : Addr).add j) = some u := by
        intro j u hu
        have hj : j < xs.length := (List.getElem?_eq_some_iff.1 hu).1
        have e : (cur.toList.take (cap * 1))[j]? = xs[j]? := by rw [htake]
        rw [List.getElem?_take, if_pos (by omega), Array.getElem?_toList] at e
        rw [add_plain, cell_of_row w g j cur _ (0, 0) hg, e, hu]
      have hs1 : i.size = 1 := hz1
      have hb1 : i.bytes = 24 := hz2
      have hl2 : cap < cap + 1 := by omega
      have hrun := run_append_grow (P := Tryd.prog) w 53 53 24 i (.slice none 0 0) Tryd.underlying53 hi hz0 ⟨g, 0, none⟩ cap cap xs (by simp [hs1, hxl]) hcells ⟨s, 0, none⟩ 1 c [y] (by simp [hs1]) hc1 hl2 (by omega) (growslice_fits hl2 (by rw [hb1]; omega))
      have hge := grownCap_ge w (cap + 1) cap 24
      have hcm := grownCap_le_maxLen w (cap + 1) cap 24 (by unfold maxLen; omega)
      generalize grownCap w (cap + 1) cap 24 = G at *
      refine ⟨_, _, hrun, ⟨by simp [hxl], .inr ⟨w.heap.size, G, _, by simp, by omega, heap_alloc_new w.drew _, by omega, hcm, ?_, ?_⟩⟩, .inr ⟨⟨w.heap.size, by simp [Value.ownBlock], Nat.le_refl _⟩, (Below.refl _ w).trans ((below_drewN (Below.refl _ w) 1).alloc (Nat.le_refl _) _)⟩⟩
      · simp only [Array.size_append, List.size_toArray, size_zeroCells, List.length_map, show (Value.slice none 0 0).cells.size = 1 from rfl]
        simp [hxl]
        omega
      · simp only [Array.toList_append]
        rw [Nat.mul_one, show cap + 1 = (xs ++ [y]).length from by simp [hxl]]
        exact List.take_left

/-- The slice at A: its first N messages are the mark of the list number n, and nothing else. -/
def MarkedR (w : World) (A : Option Addr) (N n lo : Nat) : Prop := 0 < N → ∃ g cs, A = some ⟨g, 0, none⟩ ∧ Blk w g 24 cs ∧ ∀ j, j < N → ∃ y, cs[j]? = some y ∧ OneMark w n lo y
theorem MarkedR.of {w : World} {A : Option Addr} {bl K N n lo d : Nat} {ys : List Value} (h : w.ownsRow bl 24 1 (.slice A K d) K ys) (hl : ys.length = K) (hN : N ≤ K) (hy : ∀ y ∈ ys, OneMark w n lo y) : MarkedR w A N n lo := fun h0 => by
  rcases h.2 with ⟨_, h1⟩ | ⟨g, cap, cur, hv, _, hg, hnc, hm, hs, ht⟩
  · omega
  · injection hv with e1 _ _
    refine ⟨g, cur, e1, hg, fun j hj => ?_⟩
    have e : (cur.toList.take (K * 1))[j]? = ys[j]? := by rw [ht]
    rw [List.getElem?_take, if_pos (by omega), Array.getElem?_toList, List.getElem?_eq_getElem (by omega)] at e
    exact ⟨_, e, hy _ (List.getElem_mem _)⟩
theorem MarkedR.grown {w w' : World} {A : Option Addr} {N n lo : Nat} {row : Option Nat} (h : MarkedR w A N n lo) (hg : w.grownBy w' row) (hr : ∀ g, row = some g → A ≠ some ⟨g, 0, none⟩ ∧ ∃ t cs, t ≠ 5 ∧ Blk w g t cs) : MarkedR w' A N n lo := fun h0 => by
  obtain ⟨g, cs, e, hb, hc⟩ := h h0
  refine ⟨g, cs, e, hb.grown hg fun e' => (hr g e'.symm).1 e, fun j hj => ?_⟩
  obtain ⟨y, h1, h2⟩ := hc j hj
  exact ⟨y, h1, h2.grown hg fun q hq => .inr (hr q hq).2⟩
theorem MarkedR.below {w w' : World} {A : Option Addr} {N n lo : Nat} (h : MarkedR w A N n lo) (hb : Below w.heap.size w w') : MarkedR w' A N n lo :=
  h.grown (grown_below (World.grownBy.refl _ none) hb) (fun _ e => by cases e)
theorem OneMark.below {w w' : World} {n lo : Nat} {x : Value} (h : OneMark w n lo x) (hb : Below w.heap.size w w') : OneMark w' n lo x :=
  h.grown (grown_below (World.grownBy.refl _ none) hb) (fun _ e => by cases e)

/-- The Book's list of messages, forty more behind it. -/
def GrownB (P : Nat → Prop) (w wr : World) (kb n rm c N nn lo B : Nat) (V : Value) (A : Option Addr) (d : Nat) : Prop :=
  BookAt wr kb n V (.slice (some ⟨rm, 0, none⟩) 1 c) ∧ (∃ U uc cs, Blk wr rm 97 cs ∧ cs[0]? = some (.slice A N d) ∧ cs[1]? = some (.slice U (N + 40) uc) ∧ cs[2]? = some (.int .i64 nn) ∧ MarkedR wr U (N + 40) nn lo) ∧ MarkedR wr A N nn lo ∧ Below B w wr ∧ Still P w wr

set_option maxRecDepth 100000 in
set_option maxHeartbeats 4000000 in
theorem growBlob1 (P : Nat → Prop) (kb n nn B N d un uc lo rm c : Nat) (V : Value) (A UA : Option Addr) (ys : List Value) (rcs : Array Value) (w : World) (hnn : nn ≤ 1000000000000) (hN : N ≤ 100000000000)
    (hb : BookAt w kb n V (.slice (some ⟨rm, 0, none⟩) 1 c)) (hc : 1 ≤ c) (hrc : Blk w rm 97 rcs) (r0 : rcs[0]? = some (.slice A N d)) (r1 : rcs[1]? = some (.slice UA un uc)) (r2 : rcs[2]? = some (.int .i64 nn))
    (hl : w.ownsRow B 24 1 (.slice A N d) N ys) (hyl : ys.length = N) (hys : ∀ y ∈ ys, OneMark w nn lo y) (hlo : lo ≤ w.heap.size) (hBw : B ≤ w.heap.size) (hBr : B ≤ rm)
    (hPl : ∀ g, (Value.slice A N d).ownBlock = some g → ¬ P g) (hPr : ¬ P rm) :
    Calls Tryd.prog 49 #[.pointer (some ⟨kb, 0, none⟩)] w fun e w' => (∃ v, e = .returned v) ∧ GrownB P w w' kb n rm c N nn lo B V A d := by
  have HPL := Lib.hid hPl
  have HPR := Lib.hid hPr
  have hAl : ∀ g, (Value.slice A N d).ownBlock = some g → g < w.heap.size := fun g e => by
    obtain ⟨cs, h⟩ := row_blk hl e
    exact h.lt
  have HAL := Lib.hid hAl
  have HL := Lib.hid hl
  have HYL := Lib.hid hyl
  have HYS := Lib.hid hys
  clear hPl hPr hAl hl hyl hys
  go_enter Tryd.func49, Tryd.ntmps49
  go_wp2
  go_loopw [2] (fun i wr => ∃ k : Nat, k ≤ 1 ∧ i = .int .i64 k ∧ (k = 0 → wr = w) ∧ (k = 1 → GrownB P w wr kb n rm c N nn lo B V A d)) (fun i _ => 1 - (intOf i).toNat)
  case atStart => exact ⟨0, by omega, rfl, fun _ => rfl, fun h => absurd h (by omega)⟩
  case round =>
    obtain ⟨k, hk, rfl, h0, h1⟩ := hrel
    rename World => wo
    by_cases hlt : k < 1
    · obtain rfl : wo = w := h0 (by omega)
      clear h0 h1
      have hki : (k : Int) < 1 := by omega
      have hk0 : k = 0 := by omega
      have k1 := Blk.cell hb 4 (v := .slice (some ⟨rm, 0, none⟩) 1 c) rfl
      have c0 : wo.cell? ⟨rm, k * 3, none⟩ = some (.slice A N d) := by rw [hk0]; exact hrc.cell 0 r0
      have c1 : wo.cell? ⟨rm, k * 3 + 1, none⟩ = some (.slice UA un uc) := by rw [hk0]; exact hrc.cell 1 r1
      have c2 : wo.cell? ⟨rm, k * 3 + 2, none⟩ = some (.int .i64 nn) := by rw [hk0]; exact hrc.cell 2 r2
      have HK0 := Lib.hid hk0
      have HB := Lib.hid hb
      have HRC := Lib.hid hrc
      clear hk0 hb hrc
      go_wp2
      go_loopw [4, 5] (fun x q ws => ∃ m : Nat, m ≤ 40 ∧ q = .int .i64 m ∧ Blk ws wo.heap.size 97 #[.slice A N d, .slice UA un uc, .int .i64 nn] ∧ BookAt ws kb n V (.slice (some ⟨rm, 0, none⟩) 1 c) ∧ Blk ws rm 97 rcs ∧
          (∃ ys, ys.length = N + m ∧ ws.ownsRow B 24 1 x (N + m) ys ∧ ∀ y ∈ ys, OneMark ws nn lo y) ∧ MarkedR ws A N nn lo ∧ (x = .slice A (N + m) d ∨ ∀ g, x.ownBlock = some g → wo.heap.size ≤ g) ∧ Below B wo ws ∧ Still P wo ws ∧ wo.heap.size < ws.heap.size) (fun _ q _ => 40 - (intOf q).toNat)
      case atStart =>
        have al : Below wo.heap.size wo (wo.alloc (.cells #[.slice A N d, .slice UA un uc, .int .i64 nn] 97)) := (Below.refl _ wo).alloc (Nat.le_refl _) _
        exact ⟨0, by omega, rfl, Blk.new _ _ _, Blk.alloc HB.out _, HRC.out.alloc _, ⟨ys, HYL.out, HL.out.alloc _, fun y hy => (HYS.out y hy).below al⟩, (MarkedR.of HL.out HYL.out (Nat.le_refl _) HYS.out).below al, .inl rfl, (Below.refl _ wo).alloc hBw _, (Still.refl _ _).below (Nat.le_refl _) al, by simp⟩
      case round =>
        obtain ⟨m, hm, rfl, hbh, hbs, hrs, ⟨ys, hyl, hls, hys⟩, hmr, hxa, hBs, hst, hss⟩ := hrel
        have HYS2 := Lib.hid hys
        have HXA := Lib.hid hxa
        clear hys hxa
        have f2 := hbh.cell 2 (v := .int .i64 nn) rfl
        by_cases hml : m < 40
        · have hmi : (m : Int) < 40 := by omega
          have MB := Lib.hid (fun wx => markBlob nn wx hnn)
          have HBH := Lib.hid hbh
          have HBS := Lib.hid hbs
          have HRS := Lib.hid hrs
          clear hbh hbs hrs
          go_wp2_with fail
          refine (MB.out _).mono ?_
          rintro e w4 ⟨rfl, hw4⟩
          have b4 : Below wr.heap.size wr w4 := by rw [hw4]; exact (Below.refl _ wr).alloc (Nat.le_refl _) _
          have mB : Blk w4 wr.heap.size 5 #[.int .u8 (mk nn)] := by rw [hw4]; exact Blk.new _ _ _
          have s4 : w4.heap.size = wr.heap.size + 1 := by rw [hw4]; simp
          have l4 : w4.ownsRow B 24 1 u4 (N + m) ys := by rw [hw4]; exact hls.alloc _
          clear hw4
          have bA : Below wr.heap.size wr (w4.alloc (.cells #[.slice (some ⟨wr.heap.size, 0, none⟩) 1 1] 24)) := b4.alloc (by omega) _
          have l5 : (w4.alloc (.cells #[.slice (some ⟨wr.heap.size, 0, none⟩) 1 1] 24)).ownsRow B 24 1 u4 (N + m) ys := l4.alloc _
          have sA : (w4.alloc (.cells #[.slice (some ⟨wr.heap.size, 0, none⟩) 1 1] 24)).heap.size = wr.heap.size + 2 := by simp [s4]
          obtain ⟨v5, w5, hrun, h2, h3⟩ := append1B (w4.alloc (.cells #[.slice (some ⟨wr.heap.size, 0, none⟩) 1 1] 24)) B u4 (N + m) ys l5 hyl w4.heap.size 1 (.slice (some ⟨wr.heap.size, 0, none⟩) 1 1) ((Blk.new w4 24 #[.slice (some ⟨wr.heap.size, 0, none⟩) 1 1]).cell 0 rfl) rfl (by omega) (by have := hBs.size; omega)
          have mB2 := mB.alloc (.cells #[.slice (some ⟨wr.heap.size, 0, none⟩) 1 1] 24)
          have HMB := Lib.hid mB2
          have HL5 := Lib.hid l5
          have HSA := Lib.hid sA
          have HBA := Lib.hid bA
          have H2 := Lib.hid h2
          have H3 := Lib.hid h3
          have HMR := Lib.hid hmr
          have HYL2 := Lib.hid hyl
          have HST := Lib.hid hst
          have HBSS := Lib.hid hBs
          clear b4 mB s4 l4 mB2 l5 sA bA h2 h3 hmr hyl hst hBs hls
          go_wp2_with (at_builtin; refine Lib.wpList_append_run _ rfl _ _ _ _ rfl _ _ rfl rfl _ _ hrun ?_)
          clear hrun
          go_wp2
          have mB2 := HMB.out
          have l5 := HL5.out
          have sA := HSA.out
          have bA := HBA.out
          have h2 := H2.out
          have hbh2 := HBH.out.below bA
          have hbs2 : BookAt (w4.alloc (.cells #[.slice (some ⟨wr.heap.size, 0, none⟩) 1 1] 24)) kb n V (.slice (some ⟨rm, 0, none⟩) 1 c) := Blk.below HBS.out bA
          have hrs2 := HRS.out.below bA
          have hmr2 := HMR.out.below bA
          have hst2 := HST.out.below (by omega) bA
          have hbl2 : Below B wo (w4.alloc (.cells #[.slice (some ⟨wr.heap.size, 0, none⟩) 1 1] 24)) := HBSS.out.trans (bA.mono (Nat.le_trans hBw HBSS.out.size))
          have hys2 : ∀ y ∈ ys, OneMark (w4.alloc (.cells #[.slice (some ⟨wr.heap.size, 0, none⟩) 1 1] 24)) nn lo y := fun y hy => (HYS2.out y hy).below bA
          have hyl3 : (ys ++ [Value.slice (some ⟨wr.heap.size, 0, none⟩) 1 1]).length = N + (m + 1) := by rw [List.length_append, HYL2.out]; rfl
          have hBo := hbl2.size
          generalize w4.alloc (.cells #[.slice (some ⟨wr.heap.size, 0, none⟩) 1 1] 24) = W2 at *
          refine ⟨⟨m + 1, by omega, by go_num, ?_⟩, by simp [intOf]; omega⟩
          rcases H3.out with ⟨g, dd, hx, hv, hgr⟩ | ⟨⟨g, hg, hge⟩, hbl⟩
          · rw [hx] at l5
            obtain ⟨gcs, hgc⟩ := row_blk l5 rfl
            have hgB : B ≤ g := (l5.lt g rfl).1
            have ty : ∀ q, some g = some q → ∃ t cs, t ≠ 5 ∧ Blk W2 q t cs := fun q hq => by
              cases hq
              exact ⟨_, _, by decide, hgc⟩
            have n1 : wo.heap.size ≠ g := hbh2.ne_ hgc (by decide)
            have n2 : kb ≠ g := Blk.ne_ hbs2 hgc (by decide)
            have n3 : rm ≠ g := hrs2.ne_ hgc (by decide)
            have n4 : wr.heap.size ≠ g := mB2.ne_ hgc (by decide)
            have hm5 : ∀ y ∈ ys ++ [Value.slice (some ⟨wr.heap.size, 0, none⟩) 1 1], OneMark w5 nn lo y := fun y hy => by
              rcases List.mem_append.1 hy with hy | hy
              · exact (hys2 y hy).grown hgr fun q hq => .inr (ty q hq)
              · rw [List.mem_singleton.1 hy]
                exact ⟨wr.heap.size, rfl, by omega, mB2.grown hgr (by simpa using n4)⟩
            have hxa : (A = some ⟨g, 0, none⟩ ∧ dd = d) ∨ wo.heap.size ≤ g := by
              rcases HXA.out with h | h
              · rw [hx] at h
                injection h with e1 _ e2
                exact .inl ⟨e1.symm, e2⟩
              · exact .inr (h g (by rw [hx]; rfl))
            refine ⟨hbh2.grown hgr (by simpa using n1), Blk.grown hbs2 hgr (by simpa using n2), hrs2.grown hgr (by simpa using n3), ⟨_, hyl3, h2, hm5⟩, ?_, ?_, hbl2.grown hgr (by omega) (fun q hq => by cases hq; exact hgB), hst2.grown (by omega) hgr fun hgl => ?_, by have := hgr.size; omega⟩
            · rcases hxa with ⟨hA, hd⟩ | hf
              · rw [hv, hd, ← hA] at h2
                exact MarkedR.of h2 hyl3 (by omega) hm5
              · refine hmr2.grown hgr fun q hq => ⟨fun e => ?_, ty q hq⟩
                cases hq
                have := HAL.out g (by rw [e]; rfl)
                omega
            · rcases hxa with ⟨hA, hd⟩ | hf
              · exact .inl (by rw [hv, hd, hA]; rfl)
              · refine .inr fun g' hg' => ?_
                rw [hv] at hg'
                cases hg'
                exact hf
            · rcases hxa with ⟨hA, hd⟩ | hf
              · exact HPL.out g (by rw [hA]; rfl)
              · omega
          · have hm5 : ∀ y ∈ ys ++ [Value.slice (some ⟨wr.heap.size, 0, none⟩) 1 1], OneMark w5 nn lo y := fun y hy => by
              rcases List.mem_append.1 hy with hy | hy
              · exact (hys2 y hy).below hbl
              · rw [List.mem_singleton.1 hy]
                exact ⟨wr.heap.size, rfl, by omega, mB2.below hbl⟩
            refine ⟨hbh2.below hbl, Blk.below hbs2 hbl, hrs2.below hbl, ⟨_, hyl3, h2, hm5⟩, hmr2.below hbl, .inr fun g' hg' => ?_, hbl2.trans (hbl.mono (Nat.le_trans hBw hBo)), hst2.below (by omega) hbl, by have := hbl.size; omega⟩
            rw [hg] at hg'
            cases hg'
            omega
        · have hmi : ¬ (m : Int) < 40 := by omega
          obtain rfl : m = 40 := by omega
          obtain ⟨gx, cx, rfl⟩ := ownsRow_succ3 (k := N + 39) hls
          have kk := Blk.cell hbs 4 (v := .slice (some ⟨rm, 0, none⟩) 1 c) rfl
          have kf := hrs.frozen (k * 3 + 1)
          have kc : wr.cell? ⟨rm, k * 3 + 1, none⟩ = some (.slice UA un uc) := by rw [HK0.out]; exact hrs.cell 1 r1
          have HLS := Lib.hid hls
          clear hls
          go_wp2
          have hk0 := HK0.out
          subst hk0
          obtain ⟨ys, hyl, hls2, hys2⟩ : ∃ ys : List Value, ys.length = N + 40 ∧ wr.ownsRow B 24 1 (.slice (some ⟨gx, 0, none⟩) (N + 39 + 1) cx) (N + 40) ys ∧ ∀ y ∈ ys, OneMark wr nn lo y := ⟨ys, hyl, HLS.out, HYS2.out⟩
          have hg := grownBy_setCell_any wr rm (0 * 3 + 1) (.slice (some ⟨gx, 0, none⟩) (N + 39 + 1) cx)
          obtain ⟨gcs, hgc⟩ := row_blk hls2 rfl
          have n1 : rm ≠ gx := hrs.ne_ hgc (by decide)
          have n2 : kb ≠ rm := Blk.ne_ hbs hrs (by decide)
          have ty : ∀ q, some rm = some q → ∃ t cs, t ≠ 5 ∧ Blk wr q t cs := fun q hq => by
            cases hq
            exact ⟨_, _, by decide, hrs⟩
          have hmu : MarkedR wr (some ⟨gx, 0, none⟩) (N + 40) nn lo := MarkedR.of hls2 hyl (Nat.le_refl _) hys2
          refine ⟨⟨1, by omega, by go_num, fun h => absurd h (by omega), fun _ => ⟨Blk.far hbs (p := ⟨rm, 0 * 3 + 1, none⟩) n2 _, ⟨some ⟨gx, 0, none⟩, cx, _, hrs.set_ (0 * 3 + 1) _, ?_, ?_, ?_, ?_⟩, ?_, hBs.setCell (by simpa using hBr) _, hst.setCell (fun _ => HPR.out) _⟩⟩, by simp [intOf]⟩
          · rw [Array.getElem?_setIfInBounds_ne (by decide)]; exact r0
          · have hlt1 : 1 < rcs.size := by
              rcases Nat.lt_or_ge 1 rcs.size with h | h
              · exact h
              · rw [Array.getElem?_eq_none h] at r1; cases r1
            exact Array.getElem?_setIfInBounds_self_of_lt hlt1
          · rw [Array.getElem?_setIfInBounds_ne (by decide)]; exact r2
          · exact hmu.grown hg fun q hq => ⟨fun e => by cases hq; cases e; exact n1 rfl, ty q hq⟩
          · refine hmr.grown hg fun q hq => ⟨fun e => ?_, ty q hq⟩
            cases hq
            obtain ⟨cs, hl⟩ := row_blk HL.out (g := rm) (by rw [e]; rfl)
            exact Blk.ne_ hl HRC.out (by decide) rfl
    · have hki : ¬ (k : Int) < 1 := by omega
      have hg := h1 (by omega)
      have k1 := Blk.cell hg.1 4 (v := .slice (some ⟨rm, 0, none⟩) 1 c) rfl
      have HG := Lib.hid hg
      clear hg h1 h0
      go_wp2
      go_end0
      exact ⟨⟨_, rfl⟩, HG.out⟩
end Go.Proofs.YtgkbfmbdpkkhnaaDoor.Hand
