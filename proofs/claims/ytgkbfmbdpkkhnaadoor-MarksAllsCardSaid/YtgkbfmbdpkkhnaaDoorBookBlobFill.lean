/- The Book's list of messages: what fillBlob does: each message of the list is now a new one, its mark alone. -/
import Derived.Test.YtgkbfmbdpkkhnaaDoorBookBlob
namespace Go.Proofs.YtgkbfmbdpkkhnaaDoor.Hand
open Go.RowKit Go.Proofs.YtgkbfmbdpkkhnaaDoorW.PrintLast
set_option linter.unusedVariables false
set_option linter.unusedSimpArgs false

theorem markBlob (n : Nat) (w : World) (hn : n ≤ 1000000000000) :
    Calls Tryd.prog 76 #[.int .i64 n] w fun e w' => e = .returned (.slice (some ⟨w.heap.size, 0, none⟩) 1 1) ∧ w' = w.alloc (.cells #[.int .u8 (mk n)] 5) := by
  go_enter Tryd.func76, Tryd.ntmps76
  have e : ((n : Int).tmod 250) = (n : Int) % 250 := Int.tmod_eq_emod_of_nonneg (by omega)
  unfold mk
  go_wp2
  go_ret
  exact ⟨rfl, rfl⟩

/-- A message of one byte, the mark of the list number n; its block is lo or a later one. -/
def OneMark (w : World) (n lo : Nat) (x : Value) : Prop := ∃ g, x = .slice (some ⟨g, 0, none⟩) 1 1 ∧ lo ≤ g ∧ Blk w g 5 #[.int .u8 (mk n)]
theorem OneMark.grown {w w' : World} {n lo : Nat} {x : Value} {row : Option Nat} (h : OneMark w n lo x) (hg : w.grownBy w' row) (hr : ∀ g, row = some g → g < lo ∨ ∃ t cs, t ≠ 5 ∧ Blk w g t cs) : OneMark w' n lo x := by
  obtain ⟨g, e, h1, h2⟩ := h
  refine ⟨g, e, h1, h2.grown hg fun e' => ?_⟩
  rcases hr g e'.symm with h3 | ⟨t, cs, ht, hb⟩
  · omega
  · exact Blk.ne_ h2 hb (fun e => ht e.symm) rfl
theorem row_blk {w : World} {B n c : Nat} {t : TypeId} {A : Option Addr} {xs : List Value} (h : w.ownsRow B t 1 (.slice A n c) n xs) {g : Nat} (hg : (Value.slice A n c).ownBlock = some g) : ∃ cs, Blk w g t cs := by
  rcases h.2 with ⟨e, _⟩ | ⟨g', cap, cur, hv, _, hb, _⟩
  · rw [e] at hg
    simp [Value.ownBlock] at hg
  · rw [hv] at hg
    have : g' = g := by simpa [Value.ownBlock] using hg
    subst this
    exact ⟨cur, hb⟩

set_option maxRecDepth 100000 in
set_option maxHeartbeats 4000000 in
theorem fillBlob1 (kb n nn bl bm N d un uc : Nat) (V M : Value) (A UA : Option Addr) (vals : List Value) (w : World) (hnn : nn ≤ 1000000000000) (hNd : N ≤ 1000000000000)
    (hb : BookAt w kb n V M) (hm : BlobAt w M (.slice A N d) (.slice UA un uc) nn bm) (hl : w.ownsRow bl 24 1 (.slice A N d) N vals) (hvl : vals.length = N) :
    Calls Tryd.prog 42 #[.pointer (some ⟨kb, 0, none⟩)] w fun e w' => (∃ v, e = .returned v) ∧ w.grownBy w' (Value.slice A N d).ownBlock ∧
      ∃ ys, ys.length = N ∧ w'.ownsRow bl 24 1 (.slice A N d) N ys ∧ ∀ y ∈ ys, OneMark w' nn w.heap.size y := by
  obtain ⟨rm, c, rfl, hc, hbm, rcs, hrc, r0, r1, r2⟩ := hm
  obtain ⟨row, hrow⟩ : ∃ row, row = (Value.slice A N d).ownBlock := ⟨_, rfl⟩
  rw [← hrow]
  have nkb : some kb ≠ row := fun e => by
    obtain ⟨cs, h⟩ := row_blk hl (by rw [← hrow, ← e])
    exact Blk.ne_ h (show Blk w kb _ _ from hb) (by decide) rfl
  have nrm : some rm ≠ row := fun e => by
    obtain ⟨cs, h⟩ := row_blk hl (by rw [← hrow, ← e])
    exact Blk.ne_ h hrc (by decide) rfl
  have hlow : ∀ g, row = some g → g < w.heap.size := fun g e => by
    obtain ⟨cs, h⟩ := row_blk hl (by rw [← hrow, ← e])
    exact h.lt
  have NK := Lib.hid nkb
  have NR := Lib.hid nrm
  have LOW := Lib.hid hlow
  have ROW := Lib.hid hrow
  clear nkb nrm hrow hlow
  go_enter Tryd.func42, Tryd.ntmps42
  go_wp2
  go_loopw [2] (fun i wr => ∃ k : Nat, k ≤ 1 ∧ i = .int .i64 k ∧ w.grownBy wr row ∧ ∃ ys, ys.length = N ∧ wr.ownsRow bl 24 1 (.slice A N d) N ys ∧ (0 < k → ∀ y ∈ ys, OneMark wr nn w.heap.size y)) (fun i _ => 1 - (intOf i).toNat)
  case atStart => exact ⟨0, by omega, rfl, World.grownBy.refl _ _, vals, hvl, hl, fun h => absurd h (by omega)⟩
  case round =>
    obtain ⟨k, hk, rfl, hgr, ys, hyl, hlr, hym⟩ := hrel
    rename World => wo
    have hbo : BookAt wo kb n V (.slice (some ⟨rm, 0, none⟩) 1 c) := Blk.grown hb hgr NK.out
    have hro := hrc.grown hgr NR.out
    have k1 := Blk.cell hbo 4 (v := .slice (some ⟨rm, 0, none⟩) 1 c) rfl
    by_cases hlt : k < 1
    · have hki : (k : Int) < 1 := by omega
      have hk0 : k = 0 := by omega
      have c0 : wo.cell? ⟨rm, k * 3, none⟩ = some (.slice A N d) := by rw [hk0]; exact hro.cell 0 r0
      have c1 : wo.cell? ⟨rm, k * 3 + 1, none⟩ = some (.slice UA un uc) := by rw [hk0]; exact hro.cell 1 r1
      have c2 : wo.cell? ⟨rm, k * 3 + 2, none⟩ = some (.int .i64 nn) := by rw [hk0]; exact hro.cell 2 r2
      have HGR := Lib.hid hgr
      have HYL := Lib.hid hyl
      have HBO := Lib.hid hbo
      have HK0 := Lib.hid hk0
      clear hgr hym hk0 hbo hb hl hyl hvl
      go_wp2
      go_loopw [4] (fun q ws => ∃ m : Nat, m ≤ N ∧ q = .int .i64 m ∧ Blk ws wo.heap.size 97 #[.slice A N d, .slice UA un uc, .int .i64 nn] ∧ wo.grownBy ws row ∧ ∃ ys, ys.length = N ∧ ws.ownsRow bl 24 1 (.slice A N d) N ys ∧ ∀ j, j < m → ∃ y, ys[j]? = some y ∧ OneMark ws nn w.heap.size y) (fun q _ => N - (intOf q).toNat)
      case atStart =>
        exact ⟨0, Nat.zero_le _, rfl, Blk.new _ _ _, grown_below (World.grownBy.refl _ _) ((Below.refl _ wo).alloc (Nat.le_refl _) _), ys, HYL.out, hlr.alloc _, fun j hj => absurd hj (by omega)⟩
      case round =>
        obtain ⟨m, hm, rfl, hbh, hgs, ys, hyl, hls, hys⟩ := hrel
        have HYS := Lib.hid hys
        have HYL2 := Lib.hid hyl
        clear hys
        have f0 := hbh.cell 0 (v := .slice A N d) rfl
        have f2 := hbh.cell 2 (v := .int .i64 nn) rfl
        by_cases hml : m < N
        · have hmi : (m : Int) < (N : Int) := by omega
          obtain ⟨g, rfl, hcc, hcell0, ⟨gcs, hgc⟩⟩ := row1_cell hls hml hyl
          obtain ⟨y0, hcell⟩ : ∃ y0, wr.cell? ⟨g, m, none⟩ = some y0 := ⟨_, hcell0⟩
          clear hcell0
          have HGS := Lib.hid hgs
          have HLS := Lib.hid hls
          have MB := Lib.hid (fun wx => markBlob nn wx hnn)
          clear hgs hls hyl
          have fz := hgc.frozen m
          go_wp2_with fail
          refine start_ (n := 8) (S := fun w' => w'.cell? ⟨wo.heap.size, 0, none⟩ = some (.slice (some ⟨g, 0, none⟩) N d) ∧ w'.cell? ⟨wo.heap.size, 2, none⟩ = some (.int .i64 nn) ∧ w'.cell? ⟨g, m, none⟩ = some y0 ∧ w'.frozen? ⟨g, m, none⟩ = false) (ds := [7]) #[false, false, false, false, false, false, false, false] (by kernel_rfl) rfl rfl ⟨f0, f2, hcell, fz⟩ (fun hHeld => ?_)
          refine pure_ (i := 0) (N := some 28) (v := ?_) (a' := ?_) #[true, false, false, false, false, false, false, false] rfl rfl (by kernel_rfl) (fun _ _ _ h => h) (Or.inl ⟨by rfl, ?_⟩) ?_ ?_
          rotate_left
          · intro w'
            go_simp
            with_reducible rfl
          rotate_left
          · simp only [Act.put, List.setIfInBounds_toArray, List.set_cons_zero, List.set_cons_succ, i64_w, i32_w]
            rfl
          refine pure_ (i := 2) (N := some 30) (v := ?_) (a' := ?_) #[true, false, true, false, false, false, false, false] rfl rfl (by kernel_rfl) (fun _ _ _ h => h) (Or.inl ⟨by rfl, ?_⟩) ?_ ?_
          rotate_left
          · intro w'
            go_simp
            with_reducible rfl
          rotate_left
          · simp only [Act.put, List.setIfInBounds_toArray, List.set_cons_zero, List.set_cons_succ, i64_w, i32_w]
            rfl
          refine pure_ (i := 3) (N := some 31) (v := ?_) (a' := ?_) #[true, false, true, true, false, false, false, false] rfl rfl (by kernel_rfl) (fun _ _ _ h => h) (Or.inl ⟨by rfl, ?_⟩) ?_ ?_
          rotate_left
          · intro w'
            go_simp
            with_reducible rfl
          rotate_left
          · simp only [Act.put, List.setIfInBounds_toArray, List.set_cons_zero, List.set_cons_succ, i64_w, i32_w]
            rfl
          refine take_ (i := 1) (N := some 29) (v := ?_) (a' := ?_) #[true, true, true, true, false, false, false, false] rfl rfl (by kernel_rfl) (fun _ _ _ h => h) (Or.inl ⟨by rfl, ?_⟩) hHeld ?_ ?_
          rotate_left
          · rintro w' ⟨s0, s1, s2, s3⟩
            go_simp
            with_reducible rfl
          rotate_left
          · simp only [Act.put, List.setIfInBounds_toArray, List.set_cons_zero, List.set_cons_succ, i64_w, i32_w]
            rfl
          refine take_ (i := 4) (N := some 32) (v := ?_) (a' := ?_) #[true, true, true, true, true, false, false, false] rfl rfl (by kernel_rfl) (fun _ _ _ h => h) (Or.inl ⟨by rfl, ?_⟩) hHeld ?_ ?_
          rotate_left
          · rintro w' ⟨s0, s1, s2, s3⟩
            go_simp
            with_reducible rfl
          rotate_left
          · simp only [Act.put, List.setIfInBounds_toArray, List.set_cons_zero, List.set_cons_succ, i64_w, i32_w]
            rfl
          refine one_ (i := 5) (N := some 33) #[true, true, true, true, true, true, false, false] rfl rfl (by kernel_rfl) (by decide) (fun K hK => ?_)
          refine goes_ Tryd.func76 (by kernel_rfl) rfl #[.int .i64 nn] (by rfl) rfl rfl (by simp only [List.map_toArray, List.map_cons, List.map_nil]; rfl) ?_
          with_reducible refine (MB.out _).mono ?_
          rintro e w4 ⟨rfl, rfl⟩
          refine ⟨_, rfl, ?_⟩
          have f0 := cell_later ((Below.refl _ wr).alloc (Nat.le_refl _) (.cells #[.int .u8 (mk nn)] 5)) f0
          have f2 := cell_later ((Below.refl _ wr).alloc (Nat.le_refl _) (.cells #[.int .u8 (mk nn)] 5)) f2
          have hcell := cell_later ((Below.refl _ wr).alloc (Nat.le_refl _) (.cells #[.int .u8 (mk nn)] 5)) hcell
          have fz := (hgc.alloc (.cells #[.int .u8 (mk nn)] 5)).frozen m
          refine hK.out _ _ ⟨f0, f2, hcell, fz⟩ (fun hHeld => ?_)
          clear hK K
          refine norm_ (a' := ?_) ?_ ?_
          rotate_left
          · show Act.put _ (some 33) _ = _
            simp only [Act.put, List.setIfInBounds_toArray, List.set_cons_zero, List.set_cons_succ, i64_w, i32_w]
            rfl
          refine pure_ (i := 6) (N := some 34) (v := ?_) (a' := ?_) #[true, true, true, true, true, true, true, false] rfl rfl (by kernel_rfl) (fun _ _ _ h => h) (Or.inl ⟨by rfl, ?_⟩) ?_ ?_
          rotate_left
          · intro w'
            go_simp
            with_reducible rfl
          rotate_left
          · simp only [Act.put, List.setIfInBounds_toArray, List.set_cons_zero, List.set_cons_succ, i64_w, i32_w]
            rfl
          refine last_ (i := 7) (N := none) #[true, true, true, true, true, true, true, true] rfl rfl (by kernel_rfl) (by decide) (fun K hK => ?_)
          refine skip_ (w1 := ?_) (by rfl) rfl ?_ ?_
          rotate_left
          · go_simp
            rfl
          refine hK.out _ _ ?_
          clear hK K
          refine done_ (by kernel_rfl) ?_
          go_wp2
          have hrg : row = some g := by rw [ROW.out]; rfl
          have hls := HLS.out
          have hyl := HYL2.out
          have st := (hls.alloc (.cells #[.int .u8 (mk nn)] 5)).stored m (.slice (some ⟨wr.heap.size, 0, none⟩) 1 1)
          have hgh : wo.heap.size ≠ g := hbh.ne_ hgc (by decide)
          have hgl := hgc.lt
          have sz : w.heap.size ≤ wr.heap.size := Nat.le_trans HGR.out.size HGS.out.size
          have al : Below wr.heap.size wr (wr.alloc (.cells #[.int .u8 (mk nn)] 5)) := (Below.refl _ wr).alloc (Nat.le_refl _) _
          have g1 : wo.grownBy ((wr.alloc (.cells #[.int .u8 (mk nn)] 5)).setCell ⟨g, m, none⟩ (.slice (some ⟨wr.heap.size, 0, none⟩) 1 1)) row := (grown_below HGS.out al).trans (by rw [hrg]; exact st.2)
          refine ⟨⟨m + 1, by omega, by go_num, (hbh.alloc _).far (p := ⟨g, m, none⟩) hgh _, grown_below g1 ((Below.refl _ _).drew), ys.set m (.slice (some ⟨wr.heap.size, 0, none⟩) 1 1), by simp [hyl], st.1, fun j hj => ?_⟩, by simp [intOf]; omega⟩
          by_cases hjm : j = m
          · subst hjm
            refine ⟨_, List.getElem?_set_self (by omega), wr.heap.size, rfl, sz, ?_⟩
            exact (Blk.new wr 5 #[.int .u8 (mk nn)]).far (p := ⟨g, j, none⟩) (by show wr.heap.size ≠ g; omega) _
          · obtain ⟨y, hy, ho⟩ := HYS.out j (by omega)
            refine ⟨y, by rw [List.getElem?_set_ne (fun e => hjm e.symm)]; exact hy, ?_⟩
            have ho1 : OneMark (wr.alloc (.cells #[.int .u8 (mk nn)] 5)) nn w.heap.size y := ho.grown (grown_below (World.grownBy.refl _ none) al) (fun _ e => by cases e)
            exact OneMark.grown (w' := (wr.alloc (.cells #[.int .u8 (mk nn)] 5)).setCell ⟨g, m, none⟩ (.slice (some ⟨wr.heap.size, 0, none⟩) 1 1)) ho1 st.2 fun q hq => by
              cases hq
              exact .inr ⟨_, _, by decide, hgc.alloc _⟩
        · have hmi : ¬ (m : Int) < (N : Int) := by omega
          go_wp2
          have hmN : m = N := by omega
          refine ⟨⟨k + 1, by omega, by go_num, HGR.out.trans hgs, ys, hyl, hls, fun _ y hy => ?_⟩, by simp [intOf]; omega⟩
          obtain ⟨j, hj⟩ := List.mem_iff_getElem?.1 hy
          have hjl : j < ys.length := (List.getElem?_eq_some_iff.1 hj).1
          obtain ⟨y', hy', ho⟩ := HYS.out j (by omega)
          rw [hj] at hy'
          cases hy'
          exact ho
    · have hki : ¬ (k : Int) < 1 := by omega
      go_wp2
      go_end0
      exact ⟨⟨_, rfl⟩, hgr, ys, hyl, hlr, hym (by omega)⟩
end Go.Proofs.YtgkbfmbdpkkhnaaDoor.Hand
