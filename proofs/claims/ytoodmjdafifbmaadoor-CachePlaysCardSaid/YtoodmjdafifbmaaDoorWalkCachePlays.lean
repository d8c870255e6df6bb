/- The statement CachePlays, walked: whatever is added and looked for, both caches answer alike; nothing handed in is kept or changed. -/
import Derived.Test.YtoodmjdafifbmaaDoorPlay
namespace Go.Proofs.YtoodmjdafifbmaaDoor.Hand
open Go.RowKit Go.Proofs.YtoodmjdafifbmaaDoorW.PrintLast
set_option linter.unusedVariables false
set_option linter.unusedSimpArgs false

/-- Ahead of a round. -/
structure PS (w : World) (cb mb rb kb N cnt : Nat) (vc vr V : Value) (rs : Rem) (m : Int → List Int → Option (List Int)) (xs : List (Value × List Int)) (wr : World) : Prop where
  c : CacheIs wr w.heap.size cb mb N cnt vc (keysOf rs) m
  p : PR N rs m
  r : RefIs wr w.heap.size rb N vr rs
  b : BK wr kb w.heap.size V xs
  lt1 : cb < kb
  lt2 : mb < kb
  lt3 : rb < kb
  below : Below w.heap.size w wr
section
variable {w wr wx : World} {cb mb rb kb N cnt : Nat} {vc vr V : Value} {rs : Rem} {m : Int → List Int → Option (List Int)} {xs : List (Value × List Int)}
theorem PS.later (h : PS w cb mb rb kb N cnt vc vr V rs m xs wr) (hb : Below wr.heap.size wr wx) : PS w cb mb rb kb N cnt vc vr V rs m xs wx :=
  ⟨h.c.below hb, h.p, h.r.below hb, h.b.below hb, h.lt1, h.lt2, h.lt3, below_then h.below hb⟩
theorem PS.told {V' : Value} {xs' : List (Value × List Int)} (h : PS w cb mb rb kb N cnt vc vr V rs m xs wr) (hb : BK wx kb w.heap.size V' xs') (hk : Below kb wr wx) (ho : Others wr wx) : PS w cb mb rb kb N cnt vc vr V' rs m xs' wx :=
  ⟨h.c.to (fun g cs t ht e => ho g t cs (by rcases ht with rfl | rfl <;> decide) (by rcases ht with rfl | rfl <;> decide) e) (hk.block mb h.lt2), h.p, h.r.to (fun g cs t ht e => ho g t cs (by rcases ht with rfl | rfl <;> decide) (by rcases ht with rfl | rfl <;> decide) e), hb, h.lt1, h.lt2, h.lt3, h.below.trans (hk.mono h.b.ge)⟩
/-- A list that has just been made stands apart from those of before. -/
theorem apart_new {its : List (Value × List Int)} {s : Nat} {v : Value} (h : ∀ p ∈ its, ∀ g, p.1.ownBlock = some g → g < s) (hv : ∀ g, v.ownBlock = some g → s ≤ g) : ∀ p ∈ its, ∀ g, p.1.ownBlock = some g → v.ownBlock ≠ some g := fun p hp g h1 h2 => by
  have := h p hp g h1
  have := hv g h2
  omega
theorem apart_snoc {its : List (Value × List Int)} {q : Value × List Int} {v : Value} (h : ∀ p ∈ its, ∀ g, p.1.ownBlock = some g → v.ownBlock ≠ some g) (hq : ∀ g, q.1.ownBlock = some g → v.ownBlock ≠ some g) : ∀ p ∈ its ++ [q], ∀ g, p.1.ownBlock = some g → v.ownBlock ≠ some g := fun p hp => by
  rcases List.mem_append.1 hp with hp | hp
  · exact h p hp
  · obtain rfl : p = q := by simpa using hp
    exact hq
end

set_option maxRecDepth 100000 in
set_option maxHeartbeats 4000000 in
theorem CachePlays_walk (n : Int) (A : Option Addr) (c : Nat) (xs : List Act1) (w : World) (hx : RdA w A xs) (hc : xs.length ≤ c) (hm : c ≤ maxLen) (hy : ∀ x ∈ xs, x.cl.length ≤ 140737488351232 ∧ x.rp.length ≤ 140737488351232) :
    Calls Tryd.prog 4 #[.int .i64 n, .slice A xs.length c] w fun e w' => e = .returned (.bool true) ∧ Below w.heap.size w w' := by
  have g0 := Lib.hid (great_ A c xs w hx (by unfold maxLen at hm; omega) hy)
  clear hy hm
  go_enter Tryd.func4, Tryd.ntmps4
  go_wp2_with fail
  refine g0.out.mono ?_
  rintro e w1 ⟨b, rfl, hs, n0, hw⟩
  have hB1 := below_drawn hw
  clear hw g0
  cases b with
  | true =>
    clear hs
    go_wp2_with fail
    refine (lives_ w1).mono ?_
    rintro e w2 ⟨rfl, hB⟩
    go_wp2
    go_ret
    exact ⟨rfl, below_then hB1 hB⟩
  | false =>
    have HS := Lib.hid (hs rfl)
    clear hs
    by_cases hn : n < 1 ∨ 64 < n
    · have HN := Lib.hid hn
      clear hn
      have q0 : ((1 : Int) != 1) = false := by decide
      go_wp2_with fail
      refine (cache_new_no n w1 HN.out).mono ?_
      rintro e w1 ⟨rfl, rfl⟩
      go_wp2_with fail
      refine (ref_new_no n w1 HN.out).mono ?_
      rintro e w1 ⟨rfl, rfl⟩
      go_wp2_with fail
      refine (find_no w1 0 _).mono ?_
      rintro e w1 ⟨rfl, rfl⟩
      go_wp2_with fail
      refine (add_no w1 0 _ _).mono ?_
      rintro e w1 ⟨rfl, rfl⟩
      go_wp2_with fail
      refine (len_no w1).mono ?_
      rintro e w1 ⟨rfl, rfl⟩
      go_wp2_with fail
      refine (lives_ w1).mono ?_
      rintro e w2 ⟨rfl, hB⟩
      go_wp2
      go_ret
      exact ⟨rfl, below_then hB1 hB⟩
    · obtain ⟨N, rfl⟩ : ∃ N : Nat, n = N := ⟨n.toNat, by omega⟩
      have hN1 : 1 ≤ N := by omega
      have hN2 : N ≤ 64 := by omega
      clear hn
      have q0 : ((0 : Int) != 0) = false := by decide
      go_wp2_with fail
      refine (cache_new N w1 hN1 hN2).mono ?_
      rintro e w2 ⟨rfl, hc2, hB2⟩
      go_wp2_with fail
      refine (ref_new N w2 hN1 hN2).mono ?_
      rintro e w3 ⟨rfl, hr3, hB3⟩
      have hc3 := hc2.below hB3
      have hz2 := hB2.size
      have hz3 := hB3.size
      have hcl := hc2.blk.lt
      have hrl := hr3.blk.lt
      go_wp2_with fail
      have H0 : PS w (w1.heap.size + 1) w1.heap.size w2.heap.size w3.heap.size N 0 (.slice none 0 0) (.slice none 0 0) (.slice none 0 0) [] (fun _ _ => none) [] (w3.alloc (.cells #[.int .i64 0, .slice none 0 0, .slice none 0 0, .slice none 0 0, .slice none 0 0, .slice none 0 0, .slice none 0 0, .slice none 0 0] 41)) := by
        have hz1 := hB1.size
        have hal := (Below.refl w3.heap.size w3).alloc (Nat.le_refl _) (.cells #[.int .i64 0, .slice none 0 0, .slice none 0 0, .slice none 0 0, .slice none 0 0, .slice none 0 0, .slice none 0 0, .slice none 0 0] 41)
        refine ⟨(hc3.below hal).lower hz1, PR.start N, (hr3.below hal).lower (Nat.le_trans hz1 hz2), BK.start w3 (by omega), by omega, by omega, hrl, below_then (below_then (below_then hB1 hB2) hB3) hal⟩
      clear hB1 hc2 hB2 hr3 hB3 hc3 hz2 hz3 hcl hrl
      generalize w3.alloc (.cells #[.int .i64 0, .slice none 0 0, .slice none 0 0, .slice none 0 0, .slice none 0 0, .slice none 0 0, .slice none 0 0, .slice none 0 0] 41) = w4 at *
      generalize w3.heap.size = kb at *
      generalize w2.heap.size = rb at *
      generalize w1.heap.size + 1 = cb at *
      generalize w1.heap.size = mb at *
      go_loopw [12] (fun i wr => ∃ (k cnt : Nat) (vc vr V : Value) (rs : Rem) (m : Int → List Int → Option (List Int)) (its : List (Value × List Int)), k ≤ xs.length ∧ cnt ≤ k ∧ its.length = 3 * k ∧ i = .int .i64 k ∧ PS w cb mb rb kb N cnt vc vr V rs m its wr) (fun i _ => xs.length - (intOf i).toNat)
      case atStart => exact ⟨0, 0, _, _, _, _, _, _, Nat.zero_le _, Nat.le_refl _, rfl, rfl, H0⟩
      case round =>
        clear H0
        obtain ⟨k, cnt, vc, vr, V, rs, m, its, hk, hcnt, hits, rfl, H⟩ := hrel
        have hlen : xs.length ≤ 300 := HS.out.1
        by_cases hlt : k < xs.length
        · have hkl : (k : Int) < (xs.length : Int) := by omega
          obtain ⟨g, off, rfl, hat⟩ := hx (by omega)
          obtain ⟨hkd, hfr, A1, c1, B1, d1, k0, k1, k2, k3, r1, r2, hc1, hm1, hd1, hm2⟩ := hat k hlt
          have hsm := HS.out.2 _ (List.getElem_mem hlt)
          obtain ⟨y, hy⟩ : ∃ y, y = xs[k] := ⟨_, rfl⟩
          rw [← hy] at hkd hfr k0 k1 k2 k3 r1 r2 hc1 hd1 hsm
          clear hy hat
          obtain ⟨kd, fr, cl, rp⟩ := y
          simp only at hkd hfr k0 k1 k2 k3 r1 r2 hc1 hd1 hsm
          unfold maxLen at hm1 hm2
          have HF := Lib.hid hfr
          have HR1 := Lib.hid r1
          have HR2 := Lib.hid r2
          have k0 := cell_later H.below k0
          have k1 := cell_later H.below k1
          have k2 := cell_later H.below k2
          have k3 := cell_later H.below k3
          have r1 := r1.below H.below
          have r2 := r2.below H.below
          have bx := Blk.new wr 60 #[.int .u8 kd, .int .u64 fr, .slice A1 cl.length c1, .slice B1 rp.length d1]
          have hal := (Below.refl wr.heap.size wr).alloc (Nat.le_refl _) (.cells #[.int .u8 kd, .int .u64 fr, .slice A1 cl.length c1, .slice B1 rp.length d1] 60)
          have HX := Lib.hid (H.later hal)
          have hkk := Lib.hid (⟨hsm, hfr⟩ : (cl.length ≤ 30000 ∧ rp.length ≤ 30000) ∧ (0 ≤ fr ∧ fr < 18446744073709551616))
          have r1 := r1.below hal
          have r2 := r2.below hal
          clear hal
          go_wp2_with fail
          have r1 := r1
          refine (twin A1 c1 cl _ r1 (by omega)).mono ?_
          rintro e w5 ⟨g1, cap1, rfl, o1, hz⟩
          have HX := Lib.hid (HX.out.later hz)
          have bx := bx.below hz
          have r1 := r1.below hz
          have r2 := r2.below hz
          have o1 := o1.lower (base' := wr.heap.size) (by simp)
          have W1 : wr.heap.size ≤ g1 ∧ g1 < w5.heap.size := (o1.within g1 rfl)
          have hs1 := Nat.le_trans (show wr.heap.size ≤ _ by simp) hz.size
          have x3 := bx.cell 3 (v := .slice B1 rp.length d1) rfl
          clear hz k0 k1 k2 k3
          go_wp2_with fail
          refine (twin B1 d1 rp _ r2 (by omega)).mono ?_
          rintro e w6 ⟨g2, cap2, rfl, o2, hz⟩
          have HX := Lib.hid (HX.out.later hz)
          have bx := bx.below hz
          have r1 := r1.below hz
          have r2 := r2.below hz
          have o1 := o1.below hz
          have hs2 := hz.size
          have W2 : w5.heap.size ≤ g2 ∧ g2 < w6.heap.size := o2.within g2 rfl
          obtain ⟨_, _, e1, hcap1, _, _⟩ := o1.form
          injection e1 with ea eb ec
          clear eb
          subst ea ec
          obtain ⟨_, _, e2, hcap2, _, _⟩ := o2.form
          injection e2 with ea eb ec
          clear eb
          subst ea ec
          simp only [List.length_append, List.length_cons, List.length_nil] at hcap1 hcap2
          clear hz x3
          have t1 : Rd w6 (some ⟨g1, 0, none⟩) cl := by have := (own_rd o1).take cl.length; rwa [List.take_left] at this
          have t2 : Rd w6 (some ⟨g2, 0, none⟩) rp := by have := (own_rd o2).take rp.length; rwa [List.take_left] at this
          have x0 := bx.cell 0 (v := .int .u8 kd) rfl
          have x1 := bx.cell 1 (v := .int .u64 fr) rfl
          have x2 := bx.cell 2 (v := .slice A1 cl.length c1) rfl
          have x3 := bx.cell 3 (v := .slice B1 rp.length d1) rfl
          have hxb : wr.heap.size < w6.heap.size := bx.lt
          have hok : okKey fr cl := ⟨HF.out, r1.1, by omega⟩
          have HI := Lib.hid H.b.lt
          have HXB := Lib.hid H.below.size
          have WI := Lib.hid (show wr.heap.size ≤ g1 ∧ g1 < w5.heap.size ∧ w5.heap.size ≤ g2 ∧ g2 < w6.heap.size from ⟨W1.1, W1.2, W2.1, W2.2⟩)
          generalize wr.heap.size = xb at *
          go_wp2_with fail
          have O1 := Lib.hid o1
          have O2 := Lib.hid o2
          clear o1 o2
          by_cases hkind : kd.tmod 3 < 2
          · have htest : decide (kd.tmod 3 < 2) = true := decide_eq_true hkind
            have HD := Lib.hid (HX.out.later ((Below.refl _ w6).drew))
            have bd : Blk w6.drew xb _ _ := bx.drew
            have hE : (addE rs fr cl != addE rs fr cl) = false := by simp
            obtain ⟨E, hEE⟩ : ∃ E, E = addE rs fr cl := ⟨_, rfl⟩
            have HE := Lib.hid hEE
            rw [← hEE] at hE
            obtain ⟨RS, hRS⟩ : ∃ RS, RS = remAdd N rs (fr, cl) rp := ⟨_, rfl⟩
            have HRS := Lib.hid hRS
            have g1c := cAdd HD.out.c HD.out.p hN1 HD.out.below.size (by omega) fr (some ⟨g1, 0, none⟩) cap1 cl (show Rd w6.drew _ _ from t1.drewN 1) hok (some ⟨g2, 0, none⟩) cap2 rp (show Rd w6.drew _ _ from t2.drewN 1) (by omega)
            rw [← hEE, ← hRS] at g1c
            have G1 := Lib.hid g1c
            have G2 := Lib.hid (show ∀ W : World, RefIs W w.heap.size rb N vr rs → w.heap.size ≤ W.heap.size → Rd W A1 cl → Rd W B1 rp → Calls Tryd.prog 22 #[.pointer (some ⟨rb, 0, none⟩), .int .u64 fr, .slice A1 cl.length c1, .slice B1 rp.length d1] W fun e w' => e = .returned (.int .i64 E) ∧ ∃ vr', RefIs w' w.heap.size rb N vr' RS ∧ KeptR W w' ∧ Below w.heap.size W w' by
              intro W h1 h2 h3 h4
              rw [hEE, hRS]
              exact rAdd h1 HX.out.p.len h2 fr A1 c1 cl h3 hok B1 d1 rp h4 (by omega))
            clear hEE hRS g1c hkind
            refine start_ (n := 21) (S := fun w' => w'.cell? ⟨xb, 0, none⟩ = some (.int .u8 kd) ∧ w'.cell? ⟨xb, 1, none⟩ = some (.int .u64 fr) ∧ w'.cell? ⟨xb, 2, none⟩ = some (.slice A1 cl.length c1) ∧ w'.cell? ⟨xb, 3, none⟩ = some (.slice B1 rp.length d1)) (ds := []) #[false, false, false, false, false, false, false, false, false, false, false, false, false, false, false, false, false, false, false, false, false] (by kernel_rfl) rfl rfl ⟨x0, x1, x2, x3⟩ (fun hHeld => ?_)
            refine pure_ (i := 0) (N := some 81) (v := ?_) (a' := ?_) #[true, false, false, false, false, false, false, false, false, false, false, false, false, false, false, false, false, false, false, false, false] rfl rfl (by kernel_rfl) (fun _ _ _ h => h) (Or.inl ⟨by rfl, ?_⟩) ?_ ?_
            rotate_left
            · intro w'
              go_simp
              with_reducible rfl
            rotate_left
            · simp only [Act.put, List.setIfInBounds_toArray, List.set_cons_zero, List.set_cons_succ, i64_w, i32_w]
              rfl
            refine take_ (i := 1) (N := some 82) (v := ?_) (a' := ?_) #[true, true, false, false, false, false, false, false, false, false, false, false, false, false, false, false, false, false, false, false, false] rfl rfl (by kernel_rfl) (fun _ _ _ h => h) (Or.inl ⟨by rfl, ?_⟩) hHeld ?_ ?_
            rotate_left
            · rintro w' ⟨s0, s1, s2, s3⟩
              go_simp
              with_reducible rfl
            rotate_left
            · simp only [Act.put, List.setIfInBounds_toArray, List.set_cons_zero, List.set_cons_succ, i64_w, i32_w]
              rfl
            refine pure_ (i := 2) (N := some 83) (v := ?_) (a' := ?_) #[true, true, true, false, false, false, false, false, false, false, false, false, false, false, false, false, false, false, false, false, false] rfl rfl (by kernel_rfl) (fun _ _ _ h => h) (Or.inl ⟨by rfl, ?_⟩) ?_ ?_
            rotate_left
            · intro w'
              go_simp
              with_reducible rfl
            rotate_left
            · simp only [Act.put, List.setIfInBounds_toArray, List.set_cons_zero, List.set_cons_succ, i64_w, i32_w]
              rfl
            refine pure_ (i := 3) (N := some 84) (v := ?_) (a' := ?_) #[true, true, true, true, false, false, false, false, false, false, false, false, false, false, false, false, false, false, false, false, false] rfl rfl (by kernel_rfl) (fun _ _ _ h => h) (Or.inl ⟨by rfl, ?_⟩) ?_ ?_
            rotate_left
            · intro w'
              go_simp
              with_reducible rfl
            rotate_left
            · simp only [Act.put, List.setIfInBounds_toArray, List.set_cons_zero, List.set_cons_succ, i64_w, i32_w]
              rfl
            refine pure_ (i := 4) (N := some 85) (v := ?_) (a' := ?_) #[true, true, true, true, true, false, false, false, false, false, false, false, false, false, false, false, false, false, false, false, false] rfl rfl (by kernel_rfl) (fun _ _ _ h => h) (Or.inl ⟨by rfl, ?_⟩) ?_ ?_
            rotate_left
            · intro w'
              go_simp
              with_reducible rfl
            rotate_left
            · simp only [Act.put, List.setIfInBounds_toArray, List.set_cons_zero, List.set_cons_succ, i64_w, i32_w]
              rfl
            refine pure_ (i := 5) (N := some 86) (v := ?_) (a' := ?_) #[true, true, true, true, true, true, false, false, false, false, false, false, false, false, false, false, false, false, false, false, false] rfl rfl (by kernel_rfl) (fun _ _ _ h => h) (Or.inl ⟨by rfl, ?_⟩) ?_ ?_
            rotate_left
            · intro w'
              go_simp
              with_reducible rfl
            rotate_left
            · simp only [Act.put, List.setIfInBounds_toArray, List.set_cons_zero, List.set_cons_succ, i64_w, i32_w]
              rfl
            refine pure_ (i := 6) (N := some 87) (v := ?_) (a' := ?_) #[true, true, true, true, true, true, true, false, false, false, false, false, false, false, false, false, false, false, false, false, false] rfl rfl (by kernel_rfl) (fun _ _ _ h => h) (Or.inl ⟨by rfl, ?_⟩) ?_ ?_
            rotate_left
            · intro w'
              go_simp
              with_reducible rfl
            rotate_left
            · simp only [Act.put, List.setIfInBounds_toArray, List.set_cons_zero, List.set_cons_succ, i64_w, i32_w]
              rfl
            refine pure_ (i := 8) (N := some 89) (v := ?_) (a' := ?_) #[true, true, true, true, true, true, true, false, true, false, false, false, false, false, false, false, false, false, false, false, false] rfl rfl (by kernel_rfl) (fun _ _ _ h => h) (Or.inl ⟨by rfl, ?_⟩) ?_ ?_
            rotate_left
            · intro w'
              go_simp
              with_reducible rfl
            rotate_left
            · simp only [Act.put, List.setIfInBounds_toArray, List.set_cons_zero, List.set_cons_succ, i64_w, i32_w]
              rfl
            refine pure_ (i := 9) (N := some 90) (v := ?_) (a' := ?_) #[true, true, true, true, true, true, true, false, true, true, false, false, false, false, false, false, false, false, false, false, false] rfl rfl (by kernel_rfl) (fun _ _ _ h => h) (Or.inl ⟨by rfl, ?_⟩) ?_ ?_
            rotate_left
            · intro w'
              go_simp
              with_reducible rfl
            rotate_left
            · simp only [Act.put, List.setIfInBounds_toArray, List.set_cons_zero, List.set_cons_succ, i64_w, i32_w]
              rfl
            refine pure_ (i := 11) (N := some 92) (v := ?_) (a' := ?_) #[true, true, true, true, true, true, true, false, true, true, false, true, false, false, false, false, false, false, false, false, false] rfl rfl (by kernel_rfl) (fun _ _ _ h => h) (Or.inl ⟨by rfl, ?_⟩) ?_ ?_
            rotate_left
            · intro w'
              go_simp
              with_reducible rfl
            rotate_left
            · simp only [Act.put, List.setIfInBounds_toArray, List.set_cons_zero, List.set_cons_succ, i64_w, i32_w]
              rfl
            refine pure_ (i := 12) (N := some 93) (v := ?_) (a' := ?_) #[true, true, true, true, true, true, true, false, true, true, false, true, true, false, false, false, false, false, false, false, false] rfl rfl (by kernel_rfl) (fun _ _ _ h => h) (Or.inl ⟨by rfl, ?_⟩) ?_ ?_
            rotate_left
            · intro w'
              go_simp
              with_reducible rfl
            rotate_left
            · simp only [Act.put, List.setIfInBounds_toArray, List.set_cons_zero, List.set_cons_succ, i64_w, i32_w]
              rfl
            refine pure_ (i := 14) (N := some 95) (v := ?_) (a' := ?_) #[true, true, true, true, true, true, true, false, true, true, false, true, true, false, true, false, false, false, false, false, false] rfl rfl (by kernel_rfl) (fun _ _ _ h => h) (Or.inl ⟨by rfl, ?_⟩) ?_ ?_
            rotate_left
            · intro w'
              go_simp
              with_reducible rfl
            rotate_left
            · simp only [Act.put, List.setIfInBounds_toArray, List.set_cons_zero, List.set_cons_succ, i64_w, i32_w]
              rfl
            refine pure_ (i := 16) (N := some 97) (v := ?_) (a' := ?_) #[true, true, true, true, true, true, true, false, true, true, false, true, true, false, true, false, true, false, false, false, false] rfl rfl (by kernel_rfl) (fun _ _ _ h => h) (Or.inl ⟨by rfl, ?_⟩) ?_ ?_
            rotate_left
            · intro w'
              go_simp
              with_reducible rfl
            rotate_left
            · simp only [Act.put, List.setIfInBounds_toArray, List.set_cons_zero, List.set_cons_succ, i64_w, i32_w]
              rfl
            refine take_ (i := 7) (N := some 88) (v := ?_) (a' := ?_) #[true, true, true, true, true, true, true, true, true, true, false, true, true, false, true, false, true, false, false, false, false] rfl rfl (by kernel_rfl) (fun _ _ _ h => h) (Or.inl ⟨by rfl, ?_⟩) hHeld ?_ ?_
            rotate_left
            · rintro w' ⟨s0, s1, s2, s3⟩
              go_simp
              with_reducible rfl
            rotate_left
            · simp only [Act.put, List.setIfInBounds_toArray, List.set_cons_zero, List.set_cons_succ, i64_w, i32_w]
              rfl
            refine take_ (i := 13) (N := some 94) (v := ?_) (a' := ?_) #[true, true, true, true, true, true, true, true, true, true, false, true, true, true, true, false, true, false, false, false, false] rfl rfl (by kernel_rfl) (fun _ _ _ h => h) (Or.inl ⟨by rfl, ?_⟩) hHeld ?_ ?_
            rotate_left
            · rintro w' ⟨s0, s1, s2, s3⟩
              go_simp
              with_reducible rfl
            rotate_left
            · simp only [Act.put, List.setIfInBounds_toArray, List.set_cons_zero, List.set_cons_succ, i64_w, i32_w]
              rfl
            refine take_ (i := 15) (N := some 96) (v := ?_) (a' := ?_) #[true, true, true, true, true, true, true, true, true, true, false, true, true, true, true, true, true, false, false, false, false] rfl rfl (by kernel_rfl) (fun _ _ _ h => h) (Or.inl ⟨by rfl, ?_⟩) hHeld ?_ ?_
            rotate_left
            · rintro w' ⟨s0, s1, s2, s3⟩
              go_simp
              with_reducible rfl
            rotate_left
            · simp only [Act.put, List.setIfInBounds_toArray, List.set_cons_zero, List.set_cons_succ, i64_w, i32_w]
              rfl
            refine take_ (i := 17) (N := some 98) (v := ?_) (a' := ?_) #[true, true, true, true, true, true, true, true, true, true, false, true, true, true, true, true, true, true, false, false, false] rfl rfl (by kernel_rfl) (fun _ _ _ h => h) (Or.inl ⟨by rfl, ?_⟩) hHeld ?_ ?_
            rotate_left
            · rintro w' ⟨s0, s1, s2, s3⟩
              go_simp
              with_reducible rfl
            rotate_left
            · simp only [Act.put, List.setIfInBounds_toArray, List.set_cons_zero, List.set_cons_succ, i64_w, i32_w]
              rfl
            refine one_ (i := 10) (N := some 91) #[true, true, true, true, true, true, true, true, true, true, true, true, true, true, true, true, true, true, false, false, false] rfl rfl (by kernel_rfl) (by decide) (fun K hK => ?_)
            refine goes_ Tryd.func19 (by kernel_rfl) rfl #[.pointer (some ⟨cb, 0, none⟩), .int .u64 fr, .slice (some ⟨g1, 0, none⟩) cl.length cap1, .slice (some ⟨g2, 0, none⟩) rp.length cap2] (by rfl) rfl rfl (by simp only [List.map_toArray, List.map_cons, List.map_nil]; rfl) ?_
            with_reducible refine (G1.out).mono ?_
            rintro e w7 ⟨rfl, vc', m', hc7, hp7, hk7, hb7⟩
            refine ⟨_, rfl, ?_⟩
            have b7 : Blk w7 xb _ _ := hk7 _ _ _ _ (by decide) (by decide) bd
            have y0 := b7.cell 0 (v := .int .u8 kd) rfl
            have y1 := b7.cell 1 (v := .int .u64 fr) rfl
            have y2 := b7.cell 2 (v := .slice A1 cl.length c1) rfl
            have y3 := b7.cell 3 (v := .slice B1 rp.length d1) rfl
            have R7 : RefIs w7 w.heap.size rb N vr rs := HD.out.r.to fun g cs t ht e => hk7 g cs t _ (by rcases ht with rfl | rfl <;> decide) (by rcases ht with rfl | rfl <;> decide) e
            have K7 := HD.out.b.kept_c hk7
            have B7 := HD.out.below.trans hb7
            have q1 := HR1.out.below B7
            have q2 := HR2.out.below B7
            refine hK.out _ _ ⟨y0, y1, y2, y3⟩ (fun hHeld => ?_)
            clear hK K
            refine norm_ (a' := ?_) ?_ ?_
            rotate_left
            · show Act.put _ (some 91) _ = _
              simp only [Act.put, List.setIfInBounds_toArray, List.set_cons_zero, List.set_cons_succ, i64_w, i32_w]
              rfl
            refine one_ (i := 18) (N := some 99) #[true, true, true, true, true, true, true, true, true, true, true, true, true, true, true, true, true, true, true, false, false] rfl rfl (by kernel_rfl) (by decide) (fun K hK => ?_)
            refine goes_ Tryd.func22 (by kernel_rfl) rfl #[.pointer (some ⟨rb, 0, none⟩), .int .u64 fr, .slice A1 cl.length c1, .slice B1 rp.length d1] (by rfl) rfl rfl (by simp only [List.map_toArray, List.map_cons, List.map_nil]; rfl) ?_
            with_reducible refine (G2.out _ R7 B7.size q1 q2).mono ?_
            rintro e w8 ⟨rfl, vr', hr8, hk8, hb8⟩
            refine ⟨_, rfl, ?_⟩
            have b8 : Blk w8 xb _ _ := hk8 _ _ (fun _ _ _ e => by injection e with _ e _; subst e; exact ⟨by decide, by decide⟩) b7
            have z0 := b8.cell 0 (v := .int .u8 kd) rfl
            have z1 := b8.cell 1 (v := .int .u64 fr) rfl
            have z2 := b8.cell 2 (v := .slice A1 cl.length c1) rfl
            have z3 := b8.cell 3 (v := .slice B1 rp.length d1) rfl
            refine hK.out _ _ ⟨z0, z1, z2, z3⟩ (fun hHeld => ?_)
            clear hK K
            refine norm_ (a' := ?_) ?_ ?_
            rotate_left
            · show Act.put _ (some 99) _ = _
              simp only [Act.put, List.setIfInBounds_toArray, List.set_cons_zero, List.set_cons_succ, i64_w, i32_w]
              rfl
            refine pure_ (i := 19) (N := some 100) (v := ?_) (a' := ?_) #[true, true, true, true, true, true, true, true, true, true, true, true, true, true, true, true, true, true, true, true, false] rfl rfl (by kernel_rfl) (fun _ _ _ h => h) (Or.inl ⟨by rfl, ?_⟩) ?_ ?_
            rotate_left
            · intro w'
              go_simp
              with_reducible rfl
            rotate_left
            · simp only [Act.put, List.setIfInBounds_toArray, List.set_cons_zero, List.set_cons_succ, i64_w, i32_w]
              rfl
            refine pure_ (i := 20) (N := some 101) (v := ?_) (a' := ?_) #[true, true, true, true, true, true, true, true, true, true, true, true, true, true, true, true, true, true, true, true, true] rfl rfl (by kernel_rfl) (fun _ _ _ h => h) (Or.inl ⟨by rfl, ?_⟩) ?_ ?_
            rotate_left
            · intro w'
              go_simp
              with_reducible rfl
            rotate_left
            · simp only [Act.put, List.setIfInBounds_toArray, List.set_cons_zero, List.set_cons_succ, i64_w, i32_w]
              rfl
            refine done_ (by kernel_rfl) ?_
            have b8 := b8
            have HP := Lib.hid (show PS w cb mb rb kb N (cnt + 1) vc' vr' V RS m' its w8 from ⟨hk8.cache hc7, hp7, hr8, K7.kept_r hk8, HX.out.lt1, HX.out.lt2, HX.out.lt3, B7.trans hb8⟩)
            have O1 := Lib.hid (hk8.own (hk7.own (show Own w6.drew _ _ _ from O1.out)))
            have O2 := Lib.hid (hk8.own (hk7.own (show Own w6.drew _ _ _ from O2.out)))
            have HZ := Lib.hid (show xb ≤ w5.heap.size ∧ w5.heap.size ≤ w6.heap.size ∧ w6.heap.size ≤ w8.heap.size from ⟨hs1, hs2, Nat.le_trans (show w6.heap.size ≤ w7.heap.size from hb7.size) hb8.size⟩)
            have bx := b8
            clear b8 z0 z1 z2 z3 y0 y1 y2 y3 b7 R7 K7 B7 q1 q2 hc7 hp7 hk7 hb7 hr8 hk8 hb8 G1 G2 HD bd hHeld hE htest
            have tw : Rd w8 (some ⟨g1, 0, none⟩) cl := by have := (own_rd O1.out).take cl.length; rwa [List.take_left] at this
            have gf := cFind HP.out.c HP.out.p fr (some ⟨g1, 0, none⟩) cap1 cl tw hok
            obtain ⟨F, hF⟩ : ∃ F, F = findB RS fr cl := ⟨_, rfl⟩
            obtain ⟨L, hL⟩ : ∃ L, L = findL RS fr cl := ⟨_, rfl⟩
            have HFL := Lib.hid (And.intro hF hL)
            have HLL := Lib.hid (show L.length ≤ 1000000 by rw [hL]; exact findL_le HP.out.c HP.out.p fr cl)
            rw [← hF, ← hL] at gf
            have GF := Lib.hid gf
            clear gf hF hL tw
            have x1 := bx.cell 1 (v := .int .u64 fr) rfl
            go_wp2_with fail
            refine GF.out.mono ?_
            rintro e w9 ⟨X, da, rfl, oa, hz⟩
            have WA := Lib.hid (show ∀ g, (Value.slice X L.length da).ownBlock = some g → w8.heap.size ≤ g from oa.base)
            have HP := Lib.hid (HP.out.later hz)
            have O1 := Lib.hid (O1.out.below hz)
            have O2 := Lib.hid (O2.out.below hz)
            have bx := bx.below hz
            obtain ⟨_, _, ea, hLd, hLm, _⟩ := oa.form
            injection ea with ea eb ec
            clear eb
            subst ea ec
            unfold maxLen at hLm
            have HL := Lib.hid (show L.length ≤ 9223372036854775807 by omega)
            have OA := Lib.hid (oa.lower (show w.heap.size ≤ w8.heap.size from Nat.le_trans HX.out.below.size HZ.out.2.2))
            clear hz GF oa x1 hLd hLm
            have gf := rFind HP.out.r fr A1 c1 cl (HR1.out.below HP.out.below)
            rw [← HFL.out.1, ← HFL.out.2] at gf
            have GF := Lib.hid gf
            clear gf
            have x1 := bx.cell 1 (v := .int .u64 fr) rfl
            have x2 := bx.cell 2 (v := .slice A1 cl.length c1) rfl
            go_wp2_with fail
            refine GF.out.mono ?_
            rintro e w10 ⟨Y, db, rfl, ro, hz⟩
            have HP := Lib.hid (HP.out.later hz)
            have O1 := Lib.hid (O1.out.below hz)
            have O2 := Lib.hid (O2.out.below hz)
            have OA := Lib.hid (OA.out.below hz)
            have bx := bx.below hz
            clear hz GF x1 x2
            have qF : (F != F) = false := by simp
            have qL : ((RS.length : Int) != (RS.length : Int)) = false := by simp
            go_wp2_with fail
            refine (same_yes (own_rd OA.out) ro rfl rfl rfl HL.out).mono ?_
            rintro e w11 ⟨rfl, nx, hz0⟩
            have hz := below_drawn hz0
            clear hz0 ro
            have HP := Lib.hid (HP.out.later hz)
            have O1 := Lib.hid (O1.out.below hz)
            have O2 := Lib.hid (O2.out.below hz)
            have OA := Lib.hid (OA.out.below hz)
            have bx := bx.below hz
            clear hz
            go_wp2_with fail
            refine (cLen HP.out.c).mono ?_
            rintro e w11 ⟨rfl, rfl⟩
            go_wp2_with fail
            refine (ref_len _ _ _ _ _ _ HP.out.r).mono ?_
            rintro e w11 ⟨rfl, rfl⟩
            have x2 := bx.cell 2 (v := .slice A1 cl.length c1) rfl
            go_wp2_with fail
            refine (left g1 cap1 A1 c1 cl w11 (own_rd O1.out) hcap1 (HR1.out.below HP.out.below) (by omega)).mono ?_
            rintro e w12 ⟨rfl, nx2, hz0⟩
            have hz := below_drawn hz0
            clear hz0 x2
            have HP := Lib.hid (HP.out.later hz)
            have O1 := Lib.hid (O1.out.below hz)
            have O2 := Lib.hid (O2.out.below hz)
            have OA := Lib.hid (OA.out.below hz)
            have bx := bx.below hz
            clear hz
            have x3 := bx.cell 3 (v := .slice B1 rp.length d1) rfl
            go_wp2_with fail
            refine (left g2 cap2 B1 d1 rp w12 (own_rd O2.out) hcap2 (HR2.out.below HP.out.below) (by omega)).mono ?_
            rintro e w13 ⟨rfl, nx3, hz0⟩
            have hz := below_drawn hz0
            clear hz0 x3
            have HP := Lib.hid (HP.out.later hz)
            have O1 := Lib.hid (own_pre (m := [77]) (O1.out.below hz) (by simp))
            have O2 := Lib.hid (own_pre (m := [77]) (O2.out.below hz) (by simp))
            have OA := Lib.hid (OA.out.below hz)
            clear hz bx qF qL
            have hd := apart_new (s := w8.heap.size) (v := .slice X L.length da) (fun p hp g hg => Nat.lt_of_lt_of_le (HI.out p hp g hg) (by have := HZ.out; omega)) WA.out
            have G := Lib.hid (HP.out.b.add OA.out (by have := HLL.out; omega) hd (by omega))
            clear hd
            go_wp2_with fail
            refine G.out.mono ?_
            rintro e w14 ⟨⟨_, rfl⟩, V1, hb1, hbb, hoo⟩
            have HP := Lib.hid (HP.out.told hb1 hbb hoo)
            have O1 := Lib.hid (hoo.own O1.out)
            have O2 := Lib.hid (hoo.own O2.out)
            clear G hb1 hbb hoo
            have hd : ∀ p ∈ its ++ [((.slice X L.length da : Value), L)], ∀ g, p.1.ownBlock = some g → (Value.slice (some ⟨g1, 0, none⟩) cl.length cap1).ownBlock ≠ some g := by
              refine apart_snoc (apart_new (s := xb) HI.out fun g hg => ?_) fun g h1 h2 => ?_
              · have := WI.out.1
                have hg : g1 = g := by simpa [Value.ownBlock] using hg
                omega
              · have := WI.out
                have := HZ.out
                have := WA.out g h1
                have h2 : g1 = g := by simpa [Value.ownBlock] using h2
                omega
            have G := Lib.hid (HP.out.b.add (O1.out.lower (show w.heap.size ≤ xb from HXB.out)) (by omega) hd (by simp; omega))
            clear hd
            go_wp2_with fail
            refine G.out.mono ?_
            rintro e w15 ⟨⟨_, rfl⟩, V2, hb1, hbb, hoo⟩
            have HP := Lib.hid (HP.out.told hb1 hbb hoo)
            have O2 := Lib.hid (hoo.own O2.out)
            clear G hb1 hbb hoo
            have hd : ∀ p ∈ its ++ [((.slice X L.length da : Value), L)] ++ [((.slice (some ⟨g1, 0, none⟩) cl.length cap1 : Value), cl)], ∀ g, p.1.ownBlock = some g → (Value.slice (some ⟨g2, 0, none⟩) rp.length cap2).ownBlock ≠ some g := by
              refine apart_snoc (apart_snoc (apart_new (s := xb) HI.out fun g hg => ?_) fun g h1 h2 => ?_) fun g h1 h2 => ?_
              · have := WI.out
                have := HZ.out
                have hg : g2 = g := by simpa [Value.ownBlock] using hg
                omega
              · have := WI.out
                have := HZ.out
                have := WA.out g h1
                have h2 : g2 = g := by simpa [Value.ownBlock] using h2
                omega
              · have := WI.out
                have h1 : g1 = g := by simpa [Value.ownBlock] using h1
                have h2 : g2 = g := by simpa [Value.ownBlock] using h2
                omega
            have G := Lib.hid (HP.out.b.add (O2.out.lower (show w.heap.size ≤ w5.heap.size from Nat.le_trans HXB.out HZ.out.1)) (by omega) hd (by simp; omega))
            clear hd
            go_wp2_with fail
            refine G.out.mono ?_
            rintro e w16 ⟨⟨_, rfl⟩, V3, hb1, hbb, hoo⟩
            have HP := Lib.hid (HP.out.told hb1 hbb hoo)
            clear G hb1 hbb hoo
            go_wp2
            exact ⟨⟨k + 1, (cnt + 1), vc', vr', V3, RS, m', _, by omega, by omega, by simp; omega, by go_num, HP.out⟩, by simp [intOf]; omega⟩
          · have htest : decide (kd.tmod 3 < 2) = false := decide_eq_false hkind
            clear hkind
            refine start_ (n := 21) (S := fun w' => w'.cell? ⟨xb, 0, none⟩ = some (.int .u8 kd)) (ds := []) #[false, false, false, false, false, false, false, false, false, false, false, false, false, false, false, false, false, false, false, false, false] (by kernel_rfl) rfl rfl (x0) (fun hHeld => ?_)
            refine pure_ (i := 0) (N := some 81) (v := ?_) (a' := ?_) #[true, false, false, false, false, false, false, false, false, false, false, false, false, false, false, false, false, false, false, false, false] rfl rfl (by kernel_rfl) (fun _ _ _ h => h) (Or.inl ⟨by rfl, ?_⟩) ?_ ?_
            rotate_left
            · intro w'
              go_simp
              with_reducible rfl
            rotate_left
            · simp only [Act.put, List.setIfInBounds_toArray, List.set_cons_zero, List.set_cons_succ, i64_w, i32_w]
              rfl
            refine take_ (i := 1) (N := some 82) (v := ?_) (a' := ?_) #[true, true, false, false, false, false, false, false, false, false, false, false, false, false, false, false, false, false, false, false, false] rfl rfl (by kernel_rfl) (fun _ _ _ h => h) (Or.inl ⟨by rfl, ?_⟩) hHeld ?_ ?_
            rotate_left
            · intro w' s0
              go_simp
              with_reducible rfl
            rotate_left
            · simp only [Act.put, List.setIfInBounds_toArray, List.set_cons_zero, List.set_cons_succ, i64_w, i32_w]
              rfl
            refine pure_ (i := 2) (N := some 83) (v := ?_) (a' := ?_) #[true, true, true, false, false, false, false, false, false, false, false, false, false, false, false, false, false, false, false, false, false] rfl rfl (by kernel_rfl) (fun _ _ _ h => h) (Or.inl ⟨by rfl, ?_⟩) ?_ ?_
            rotate_left
            · intro w'
              go_simp
              with_reducible rfl
            rotate_left
            · simp only [Act.put, List.setIfInBounds_toArray, List.set_cons_zero, List.set_cons_succ, i64_w, i32_w]
              rfl
            refine pure_ (i := 3) (N := some 84) (v := ?_) (a' := ?_) #[true, true, true, true, false, false, false, false, false, false, false, false, false, false, false, false, false, false, false, false, false] rfl rfl (by kernel_rfl) (fun _ _ _ h => h) (Or.inl ⟨by rfl, ?_⟩) ?_ ?_
            rotate_left
            · intro w'
              go_simp
              with_reducible rfl
            rotate_left
            · simp only [Act.put, List.setIfInBounds_toArray, List.set_cons_zero, List.set_cons_succ, i64_w, i32_w]
              rfl
            refine pure_ (i := 4) (N := some 85) (v := ?_) (a' := ?_) #[true, true, true, true, true, false, false, false, false, false, false, false, false, false, false, false, false, false, false, false, false] rfl rfl (by kernel_rfl) (fun _ _ _ h => h) (Or.inl ⟨by rfl, ?_⟩) ?_ ?_
            rotate_left
            · intro w'
              go_simp
              with_reducible rfl
            rotate_left
            · simp only [Act.put, List.setIfInBounds_toArray, List.set_cons_zero, List.set_cons_succ, i64_w, i32_w]
              rfl
            refine pure_ (i := 5) (N := some 86) (v := undef) (a' := ?_) #[true, true, true, true, true, true, false, false, false, false, false, false, false, false, false, false, false, false, false, false, false] rfl rfl (by kernel_rfl) (fun _ _ _ h => h) (Or.inr ⟨by rfl, rfl⟩) ?_ ?_
            rotate_left
            · simp only [Act.put, List.setIfInBounds_toArray, List.set_cons_zero, List.set_cons_succ, i64_w, i32_w]
              rfl
            refine pure_ (i := 6) (N := some 87) (v := undef) (a' := ?_) #[true, true, true, true, true, true, true, false, false, false, false, false, false, false, false, false, false, false, false, false, false] rfl rfl (by kernel_rfl) (fun _ _ _ h => h) (Or.inr ⟨by rfl, rfl⟩) ?_ ?_
            rotate_left
            · simp only [Act.put, List.setIfInBounds_toArray, List.set_cons_zero, List.set_cons_succ, i64_w, i32_w]
              rfl
            refine pure_ (i := 7) (N := some 88) (v := undef) (a' := ?_) #[true, true, true, true, true, true, true, true, false, false, false, false, false, false, false, false, false, false, false, false, false] rfl rfl (by kernel_rfl) (fun _ _ _ h => h) (Or.inr ⟨by rfl, rfl⟩) ?_ ?_
            rotate_left
            · simp only [Act.put, List.setIfInBounds_toArray, List.set_cons_zero, List.set_cons_succ, i64_w, i32_w]
              rfl
            refine pure_ (i := 8) (N := some 89) (v := undef) (a' := ?_) #[true, true, true, true, true, true, true, true, true, false, false, false, false, false, false, false, false, false, false, false, false] rfl rfl (by kernel_rfl) (fun _ _ _ h => h) (Or.inr ⟨by rfl, rfl⟩) ?_ ?_
            rotate_left
            · simp only [Act.put, List.setIfInBounds_toArray, List.set_cons_zero, List.set_cons_succ, i64_w, i32_w]
              rfl
            refine pure_ (i := 9) (N := some 90) (v := undef) (a' := ?_) #[true, true, true, true, true, true, true, true, true, true, false, false, false, false, false, false, false, false, false, false, false] rfl rfl (by kernel_rfl) (fun _ _ _ h => h) (Or.inr ⟨by rfl, rfl⟩) ?_ ?_
            rotate_left
            · simp only [Act.put, List.setIfInBounds_toArray, List.set_cons_zero, List.set_cons_succ, i64_w, i32_w]
              rfl
            refine pure_ (i := 10) (N := some 91) (v := undef) (a' := ?_) #[true, true, true, true, true, true, true, true, true, true, true, false, false, false, false, false, false, false, false, false, false] rfl rfl (by kernel_rfl) (fun _ _ _ h => h) (Or.inr ⟨by rfl, rfl⟩) ?_ ?_
            rotate_left
            · simp only [Act.put, List.setIfInBounds_toArray, List.set_cons_zero, List.set_cons_succ, i64_w, i32_w]
              rfl
            refine pure_ (i := 11) (N := some 92) (v := undef) (a' := ?_) #[true, true, true, true, true, true, true, true, true, true, true, true, false, false, false, false, false, false, false, false, false] rfl rfl (by kernel_rfl) (fun _ _ _ h => h) (Or.inr ⟨by rfl, rfl⟩) ?_ ?_
            rotate_left
            · simp only [Act.put, List.setIfInBounds_toArray, List.set_cons_zero, List.set_cons_succ, i64_w, i32_w]
              rfl
            refine pure_ (i := 12) (N := some 93) (v := undef) (a' := ?_) #[true, true, true, true, true, true, true, true, true, true, true, true, true, false, false, false, false, false, false, false, false] rfl rfl (by kernel_rfl) (fun _ _ _ h => h) (Or.inr ⟨by rfl, rfl⟩) ?_ ?_
            rotate_left
            · simp only [Act.put, List.setIfInBounds_toArray, List.set_cons_zero, List.set_cons_succ, i64_w, i32_w]
              rfl
            refine pure_ (i := 13) (N := some 94) (v := undef) (a' := ?_) #[true, true, true, true, true, true, true, true, true, true, true, true, true, true, false, false, false, false, false, false, false] rfl rfl (by kernel_rfl) (fun _ _ _ h => h) (Or.inr ⟨by rfl, rfl⟩) ?_ ?_
            rotate_left
            · simp only [Act.put, List.setIfInBounds_toArray, List.set_cons_zero, List.set_cons_succ, i64_w, i32_w]
              rfl
            refine pure_ (i := 14) (N := some 95) (v := undef) (a' := ?_) #[true, true, true, true, true, true, true, true, true, true, true, true, true, true, true, false, false, false, false, false, false] rfl rfl (by kernel_rfl) (fun _ _ _ h => h) (Or.inr ⟨by rfl, rfl⟩) ?_ ?_
            rotate_left
            · simp only [Act.put, List.setIfInBounds_toArray, List.set_cons_zero, List.set_cons_succ, i64_w, i32_w]
              rfl
            refine pure_ (i := 15) (N := some 96) (v := undef) (a' := ?_) #[true, true, true, true, true, true, true, true, true, true, true, true, true, true, true, true, false, false, false, false, false] rfl rfl (by kernel_rfl) (fun _ _ _ h => h) (Or.inr ⟨by rfl, rfl⟩) ?_ ?_
            rotate_left
            · simp only [Act.put, List.setIfInBounds_toArray, List.set_cons_zero, List.set_cons_succ, i64_w, i32_w]
              rfl
            refine pure_ (i := 16) (N := some 97) (v := undef) (a' := ?_) #[true, true, true, true, true, true, true, true, true, true, true, true, true, true, true, true, true, false, false, false, false] rfl rfl (by kernel_rfl) (fun _ _ _ h => h) (Or.inr ⟨by rfl, rfl⟩) ?_ ?_
            rotate_left
            · simp only [Act.put, List.setIfInBounds_toArray, List.set_cons_zero, List.set_cons_succ, i64_w, i32_w]
              rfl
            refine pure_ (i := 17) (N := some 98) (v := undef) (a' := ?_) #[true, true, true, true, true, true, true, true, true, true, true, true, true, true, true, true, true, true, false, false, false] rfl rfl (by kernel_rfl) (fun _ _ _ h => h) (Or.inr ⟨by rfl, rfl⟩) ?_ ?_
            rotate_left
            · simp only [Act.put, List.setIfInBounds_toArray, List.set_cons_zero, List.set_cons_succ, i64_w, i32_w]
              rfl
            refine pure_ (i := 18) (N := some 99) (v := undef) (a' := ?_) #[true, true, true, true, true, true, true, true, true, true, true, true, true, true, true, true, true, true, true, false, false] rfl rfl (by kernel_rfl) (fun _ _ _ h => h) (Or.inr ⟨by rfl, rfl⟩) ?_ ?_
            rotate_left
            · simp only [Act.put, List.setIfInBounds_toArray, List.set_cons_zero, List.set_cons_succ, i64_w, i32_w]
              rfl
            refine pure_ (i := 19) (N := some 100) (v := undef) (a' := ?_) #[true, true, true, true, true, true, true, true, true, true, true, true, true, true, true, true, true, true, true, true, false] rfl rfl (by kernel_rfl) (fun _ _ _ h => h) (Or.inr ⟨by rfl, rfl⟩) ?_ ?_
            rotate_left
            · simp only [Act.put, List.setIfInBounds_toArray, List.set_cons_zero, List.set_cons_succ, i64_w, i32_w]
              rfl
            refine pure_ (i := 20) (N := some 101) (v := ?_) (a' := ?_) #[true, true, true, true, true, true, true, true, true, true, true, true, true, true, true, true, true, true, true, true, true] rfl rfl (by kernel_rfl) (fun _ _ _ h => h) (Or.inl ⟨by rfl, ?_⟩) ?_ ?_
            rotate_left
            · intro w'
              go_simp
              with_reducible rfl
            rotate_left
            · simp only [Act.put, List.setIfInBounds_toArray, List.set_cons_zero, List.set_cons_succ, i64_w, i32_w]
              rfl
            refine done_ (by kernel_rfl) ?_
            have HP := Lib.hid (HX.out.later ((Below.refl _ w6).drew))
            have O1 := Lib.hid (show Own w6.drew _ _ _ from O1.out)
            have O2 := Lib.hid (show Own w6.drew _ _ _ from O2.out)
            have HZ := Lib.hid (show xb ≤ w5.heap.size ∧ w5.heap.size ≤ w6.heap.size ∧ w6.heap.size ≤ w6.drew.heap.size from ⟨hs1, hs2, Nat.le_refl _⟩)
            have bx : Blk w6.drew xb _ _ := bx.drew
            clear x0 x1 x2 x3 t1 t2 htest hHeld
            generalize w6.drew = w8 at *
            have tw : Rd w8 (some ⟨g1, 0, none⟩) cl := by have := (own_rd O1.out).take cl.length; rwa [List.take_left] at this
            have gf := cFind HP.out.c HP.out.p fr (some ⟨g1, 0, none⟩) cap1 cl tw hok
            obtain ⟨F, hF⟩ : ∃ F, F = findB rs fr cl := ⟨_, rfl⟩
            obtain ⟨L, hL⟩ : ∃ L, L = findL rs fr cl := ⟨_, rfl⟩
            have HFL := Lib.hid (And.intro hF hL)
            have HLL := Lib.hid (show L.length ≤ 1000000 by rw [hL]; exact findL_le HP.out.c HP.out.p fr cl)
            rw [← hF, ← hL] at gf
            have GF := Lib.hid gf
            clear gf hF hL tw
            have x1 := bx.cell 1 (v := .int .u64 fr) rfl
            go_wp2_with fail
            refine GF.out.mono ?_
            rintro e w9 ⟨X, da, rfl, oa, hz⟩
            have WA := Lib.hid (show ∀ g, (Value.slice X L.length da).ownBlock = some g → w8.heap.size ≤ g from oa.base)
            have HP := Lib.hid (HP.out.later hz)
            have O1 := Lib.hid (O1.out.below hz)
            have O2 := Lib.hid (O2.out.below hz)
            have bx := bx.below hz
            obtain ⟨_, _, ea, hLd, hLm, _⟩ := oa.form
            injection ea with ea eb ec
            clear eb
            subst ea ec
            unfold maxLen at hLm
            have HL := Lib.hid (show L.length ≤ 9223372036854775807 by omega)
            have OA := Lib.hid (oa.lower (show w.heap.size ≤ w8.heap.size from Nat.le_trans HX.out.below.size HZ.out.2.2))
            clear hz GF oa x1 hLd hLm
            have gf := rFind HP.out.r fr A1 c1 cl (HR1.out.below HP.out.below)
            rw [← HFL.out.1, ← HFL.out.2] at gf
            have GF := Lib.hid gf
            clear gf
            have x1 := bx.cell 1 (v := .int .u64 fr) rfl
            have x2 := bx.cell 2 (v := .slice A1 cl.length c1) rfl
            go_wp2_with fail
            refine GF.out.mono ?_
            rintro e w10 ⟨Y, db, rfl, ro, hz⟩
            have HP := Lib.hid (HP.out.later hz)
            have O1 := Lib.hid (O1.out.below hz)
            have O2 := Lib.hid (O2.out.below hz)
            have OA := Lib.hid (OA.out.below hz)
            have bx := bx.below hz
            clear hz GF x1 x2
            have qF : (F != F) = false := by simp
            have qL : ((rs.length : Int) != (rs.length : Int)) = false := by simp
            go_wp2_with fail
            refine (same_yes (own_rd OA.out) ro rfl rfl rfl HL.out).mono ?_
            rintro e w11 ⟨rfl, nx, hz0⟩
            have hz := below_drawn hz0
            clear hz0 ro
            have HP := Lib.hid (HP.out.later hz)
            have O1 := Lib.hid (O1.out.below hz)
            have O2 := Lib.hid (O2.out.below hz)
            have OA := Lib.hid (OA.out.below hz)
            have bx := bx.below hz
            clear hz
            go_wp2_with fail
            refine (cLen HP.out.c).mono ?_
            rintro e w11 ⟨rfl, rfl⟩
            go_wp2_with fail
            refine (ref_len _ _ _ _ _ _ HP.out.r).mono ?_
            rintro e w11 ⟨rfl, rfl⟩
            have x2 := bx.cell 2 (v := .slice A1 cl.length c1) rfl
            go_wp2_with fail
            refine (left g1 cap1 A1 c1 cl w11 (own_rd O1.out) hcap1 (HR1.out.below HP.out.below) (by omega)).mono ?_
            rintro e w12 ⟨rfl, nx2, hz0⟩
            have hz := below_drawn hz0
            clear hz0 x2
            have HP := Lib.hid (HP.out.later hz)
            have O1 := Lib.hid (O1.out.below hz)
            have O2 := Lib.hid (O2.out.below hz)
            have OA := Lib.hid (OA.out.below hz)
            have bx := bx.below hz
            clear hz
            have x3 := bx.cell 3 (v := .slice B1 rp.length d1) rfl
            go_wp2_with fail
            refine (left g2 cap2 B1 d1 rp w12 (own_rd O2.out) hcap2 (HR2.out.below HP.out.below) (by omega)).mono ?_
            rintro e w13 ⟨rfl, nx3, hz0⟩
            have hz := below_drawn hz0
            clear hz0 x3
            have HP := Lib.hid (HP.out.later hz)
            have O1 := Lib.hid (own_pre (m := [77]) (O1.out.below hz) (by simp))
            have O2 := Lib.hid (own_pre (m := [77]) (O2.out.below hz) (by simp))
            have OA := Lib.hid (OA.out.below hz)
            clear hz bx qF qL
            have hd := apart_new (s := w8.heap.size) (v := .slice X L.length da) (fun p hp g hg => Nat.lt_of_lt_of_le (HI.out p hp g hg) (by have := HZ.out; omega)) WA.out
            have G := Lib.hid (HP.out.b.add OA.out (by have := HLL.out; omega) hd (by omega))
            clear hd
            go_wp2_with fail
            refine G.out.mono ?_
            rintro e w14 ⟨⟨_, rfl⟩, V1, hb1, hbb, hoo⟩
            have HP := Lib.hid (HP.out.told hb1 hbb hoo)
            have O1 := Lib.hid (hoo.own O1.out)
            have O2 := Lib.hid (hoo.own O2.out)
            clear G hb1 hbb hoo
            have hd : ∀ p ∈ its ++ [((.slice X L.length da : Value), L)], ∀ g, p.1.ownBlock = some g → (Value.slice (some ⟨g1, 0, none⟩) cl.length cap1).ownBlock ≠ some g := by
              refine apart_snoc (apart_new (s := xb) HI.out fun g hg => ?_) fun g h1 h2 => ?_
              · have := WI.out.1
                have hg : g1 = g := by simpa [Value.ownBlock] using hg
                omega
              · have := WI.out
                have := HZ.out
                have := WA.out g h1
                have h2 : g1 = g := by simpa [Value.ownBlock] using h2
                omega
            have G := Lib.hid (HP.out.b.add (O1.out.lower (show w.heap.size ≤ xb from HXB.out)) (by omega) hd (by simp; omega))
            clear hd
            go_wp2_with fail
            refine G.out.mono ?_
            rintro e w15 ⟨⟨_, rfl⟩, V2, hb1, hbb, hoo⟩
            have HP := Lib.hid (HP.out.told hb1 hbb hoo)
            have O2 := Lib.hid (hoo.own O2.out)
            clear G hb1 hbb hoo
            have hd : ∀ p ∈ its ++ [((.slice X L.length da : Value), L)] ++ [((.slice (some ⟨g1, 0, none⟩) cl.length cap1 : Value), cl)], ∀ g, p.1.ownBlock = some g → (Value.slice (some ⟨g2, 0, none⟩) rp.length cap2).ownBlock ≠ some g := by
              refine apart_snoc (apart_snoc (apart_new (s := xb) HI.out fun g hg => ?_) fun g h1 h2 => ?_) fun g h1 h2 => ?_
              · have := WI.out
                have := HZ.out
                have hg : g2 = g := by simpa [Value.ownBlock] using hg
                omega
              · have := WI.out
                have := HZ.out
                have := WA.out g h1
                have h2 : g2 = g := by simpa [Value.ownBlock] using h2
                omega
              · have := WI.out
                have h1 : g1 = g := by simpa [Value.ownBlock] using h1
                have h2 : g2 = g := by simpa [Value.ownBlock] using h2
                omega
            have G := Lib.hid (HP.out.b.add (O2.out.lower (show w.heap.size ≤ w5.heap.size from Nat.le_trans HXB.out HZ.out.1)) (by omega) hd (by simp; omega))
            clear hd
            go_wp2_with fail
            refine G.out.mono ?_
            rintro e w16 ⟨⟨_, rfl⟩, V3, hb1, hbb, hoo⟩
            have HP := Lib.hid (HP.out.told hb1 hbb hoo)
            clear G hb1 hbb hoo
            go_wp2
            exact ⟨⟨k + 1, cnt, vc, vr, V3, rs, m, _, by omega, by omega, by simp; omega, by go_num, HP.out⟩, by simp [intOf]; omega⟩
        · have hkl : ¬ (k : Int) < (xs.length : Int) := by omega
          go_wp2_with fail
          refine (H.b.apart (by omega) H.below.size).mono ?_
          rintro e w5 ⟨rfl, hB5⟩
          have hB5 := H.below.trans hB5
          go_wp2_with fail
          refine (lives_ w5).mono ?_
          rintro e w6 ⟨rfl, hB6⟩
          go_wp2
          go_ret
          exact ⟨rfl, below_then hB5 hB6⟩
end Go.Proofs.YtoodmjdafifbmaaDoor.Hand
