/- The walk of CacheLast. -/
import Derived.Test.YtjmganppgojdhaaWLast
import Derived.Test.YtjmganppgojdhaaCacheLaw
namespace Go.Proofs.Ytjmganppgojdhaa.Hand
open Go.RowKit Go.Proofs.YtjmganppgojdhaaW.PrintLast
set_option linter.unusedVariables false
set_option linter.unusedSimpArgs false

set_option maxRecDepth 100000 in
set_option maxHeartbeats 4000000 in
theorem CacheLast_walk (x : Int) (A : Option Addr) (c : Nat) (l : List Int) (w : World) (hx0 : 0 ≤ x) (hx1 : x < 256) (hr : Rd w A l) (hc : l.length ≤ c) (hsz : l.length ≤ 140737488351232) :
    Calls Try.prog 3 #[.int .u8 x, .slice A l.length c] w fun e w' => e = .returned (.bool true) ∧ Below w.heap.size w w' := by
  go_enter Try.func3, Try.ntmps3
  by_cases hm : 200 < (l.length : Int)
  · go_wp2_with fail
    refine (lives_ w).mono ?_
    rintro e w1 ⟨rfl, hB⟩
    go_wp2
    go_ret
    exact ⟨rfl, hB⟩
  · obtain ⟨N, hN⟩ : ∃ N : Nat, (N : Int) = 1 + x % 64 := ⟨(1 + x % 64).toNat, by omega⟩
    have hN1 : 1 ≤ N := by omega
    have hN2 : N ≤ 64 := by omega
    go_wp2_with fail
    rw [← hN]
    clear hN hx0 hx1
    refine (cache_new N w hN1 hN2).mono ?_
    rintro e w1 ⟨rfl, h1, hB1⟩
    have H0 : CL w (w.heap.size + 1) w.heap.size N 0 (.slice none 0 0) [] (fun _ _ => none) (.slice none 0 0) [] w1 := ⟨h1, MR.start, Que.nil _ _ _ _, hB1⟩
    clear h1 hB1
    generalize hcb : w.heap.size + 1 = cb at *
    obtain ⟨mb, hmb⟩ : ∃ mb, mb = w.heap.size := ⟨_, rfl⟩
    rw [← hmb] at hcb
    have H0 : CL w cb mb N 0 (.slice none 0 0) [] (fun _ _ => none) (.slice none 0 0) [] w1 := by rw [hmb]; exact H0
    clear hcb hmb
    go_wp2_with fail
    go_loopw [8, 9] (fun rv i wr => ∃ (k cnt : Nat) (vc : Value) (rows : List Int) (m : Int → List Int → Option (List Int)), k ≤ l.length ∧ cnt ≤ k ∧ i = .int .i64 k ∧ CL w cb mb N cnt vc rows m rv rows wr) (fun _ i _ => l.length - (intOf i).toNat)
    case atStart => exact ⟨0, 0, _, _, _, Nat.zero_le _, Nat.le_refl _, rfl, H0⟩
    case round =>
      clear H0
      obtain ⟨k, cnt, vc, rows, m, hk, hcnt, rfl, H⟩ := hrel
      obtain ⟨Ar, cr, rfl, hrc, hrr⟩ := H.row.rd H.mr.bs
      have hrl : rows.length ≤ 64 := by have := H.mr.len; omega
      have HH := Lib.hid H
      clear H
      by_cases hlt : k < l.length
      · have hkl : (k : Int) < (l.length : Int) := by omega
        have hrw := hr.below HH.out.below
        obtain ⟨ad, eA, ha⟩ := hrw.at_ hlt
        subst eA
        have hy := hrw.1.get k
        obtain ⟨y, hyd⟩ : ∃ y, y = nth l k := ⟨_, rfl⟩
        rw [← hyd] at ha hy
        have hy0 := hy
        have HY := Lib.hid hyd
        have HR2 : Hid (∀ W : World, Below w.heap.size w W → W.cell? (ad.add k) = some (.int .u8 y)) := Lib.hid fun W hB => by
          obtain ⟨ad', e, h⟩ := (hr.below hB).at_ hlt
          cases e
          rw [hyd]
          exact h
        have HQ := Lib.hid hrr
        clear hyd hrw hrr
        go_wp2_with fail
        go_loopw [10, 11] (fun t j wx => ∃ jn n : Nat, jn ≤ rows.length ∧ j = .int .i64 jn ∧ t = .bool (decide (y ∈ rows.take jn)) ∧ wx = wr.drewN n) (fun _ j _ => rows.length - (intOf j).toNat)
        case atStart => exact ⟨0, 0, Nat.zero_le _, rfl, by simp, rfl⟩
        case round =>
          obtain ⟨jn, n, hjn, rfl, rfl, rfl⟩ := hrel
          by_cases hjl : jn < rows.length
          · have hjr : (jn : Int) < (rows.length : Int) := by omega
            obtain ⟨ar, eA, hc1⟩ := HQ.out.at_ hjl
            subst eA
            have hq := HQ.out.1.get jn
            have HM := Lib.hid (dec_take hjl y)
            by_cases ht : y ∈ rows.take jn
            · rw [decide_eq_true ht] at HM ⊢
              clear ht
              go_wp2
              go_quiet (fail)
              go_wp2
              exact ⟨⟨jn + 1, _, by omega, by go_num, by rw [HM.out]; rfl, rfl⟩, by simp [intOf]; omega⟩
            · rw [decide_eq_false ht] at HM ⊢
              clear ht
              go_wp2
              go_quiet (fail)
              go_wp2
              exact ⟨⟨jn + 1, _, by omega, by go_num, by rw [HM.out, Bool.false_or], rfl⟩, by simp [intOf]; omega⟩
          · have hjr : ¬ (jn : Int) < (rows.length : Int) := by omega
            obtain rfl : jn = rows.length := by omega
            rw [List.take_length]
            have HC := Lib.hid (HH.out.drewN n)
            have ha0 : (wr.drewN n).cell? (ad.add k) = some (.int .u8 y) := ha
            clear ha
            generalize wr.drewN n = wx at *
            have hsl : ∀ W : World, (Instr.slice 22 (.slice (some ad) l.length c) (some (.int .i64 (k : Int))) (some (.int .i64 (wrap64 ((k : Int) + 1)))) none).run Try.prog W = .ok (.slice (some (ad.add k)) 1 (c - k)) W := fun W => run_cut8 W ad l.length c k (by omega) hc (by omega)
            by_cases hy : y ∈ rows
            · rw [decide_eq_true hy]
              have HM := Lib.hid hy
              clear hy
              have hrN : rows.length ≤ N := HH.out.mr.len
              go_wp2_with fail
              refine start_ (n := 21) (S := fun w' => w'.cell? (ad.add k) = some (.int .u8 y)) (ds := []) #[false, false, false, false, false, false, false, false, false, false, false, false, false, false, false, false, false, false, false, false, false] (by kernel_rfl) rfl rfl (ha0) (fun hHeld => ?_)
              refine pure_ (i := 0) (N := some 57) (v := ?_) (a' := ?_) #[true, false, false, false, false, false, false, false, false, false, false, false, false, false, false, false, false, false, false, false, false] rfl rfl (by kernel_rfl) (fun _ _ _ h => h) (Or.inl ⟨by rfl, ?_⟩) ?_ ?_
              rotate_left
              · intro w'
                go_simp
                with_reducible rfl
              rotate_left
              · simp only [Act.put, List.setIfInBounds_toArray, List.set_cons_zero, List.set_cons_succ, i64_w, i32_w]
                rfl
              refine pure_ (i := 1) (N := some 58) (v := ?_) (a' := ?_) #[true, true, false, false, false, false, false, false, false, false, false, false, false, false, false, false, false, false, false, false, false] rfl rfl (by kernel_rfl) (fun _ _ _ h => h) (Or.inl ⟨by rfl, ?_⟩) ?_ ?_
              rotate_left
              · intro w'
                go_simp
                with_reducible rfl
              rotate_left
              · simp only [Act.put, List.setIfInBounds_toArray, List.set_cons_zero, List.set_cons_succ, i64_w, i32_w]
                rfl
              refine pure_ (i := 2) (N := some 59) (v := ?_) (a' := ?_) #[true, true, true, false, false, false, false, false, false, false, false, false, false, false, false, false, false, false, false, false, false] rfl rfl (by kernel_rfl) (fun _ _ _ h => h) (Or.inl ⟨by rfl, ?_⟩) ?_ ?_
              rotate_left
              · intro w'
                go_simp
                with_reducible rfl
              rotate_left
              · simp only [Act.put, List.setIfInBounds_toArray, List.set_cons_zero, List.set_cons_succ, i64_w, i32_w]
                rfl
              refine pure_ (i := 3) (N := some 60) (v := ?_) (a' := ?_) #[true, true, true, true, false, false, false, false, false, false, false, false, false, false, false, false, false, false, false, false, false] rfl rfl (by kernel_rfl) (fun _ _ _ h => h) (Or.inl ⟨by rfl, ?_⟩) ?_ ?_
              rotate_left
              · intro w'
                go_simp
                with_reducible rfl
              rotate_left
              · simp only [Act.put, List.setIfInBounds_toArray, List.set_cons_zero, List.set_cons_succ, i64_w, i32_w]
                rfl
              refine pure_ (i := 7) (N := some 64) (v := ?_) (a' := ?_) #[true, true, true, true, false, false, false, true, false, false, false, false, false, false, false, false, false, false, false, false, false] rfl rfl (by kernel_rfl) (fun _ _ _ h => h) (Or.inl ⟨by rfl, ?_⟩) ?_ ?_
              rotate_left
              · intro w'
                go_simp
                with_reducible rfl
              rotate_left
              · simp only [Act.put, List.setIfInBounds_toArray, List.set_cons_zero, List.set_cons_succ, i64_w, i32_w]
                rfl
              refine pure_ (i := 8) (N := some 65) (v := ?_) (a' := ?_) #[true, true, true, true, false, false, false, true, true, false, false, false, false, false, false, false, false, false, false, false, false] rfl rfl (by kernel_rfl) (fun _ _ _ h => h) (Or.inl ⟨by rfl, ?_⟩) ?_ ?_
              rotate_left
              · intro w'
                go_simp
                with_reducible rfl
              rotate_left
              · simp only [Act.put, List.setIfInBounds_toArray, List.set_cons_zero, List.set_cons_succ, i64_w, i32_w]
                rfl
              refine pure_ (i := 9) (N := some 66) (v := ?_) (a' := ?_) #[true, true, true, true, false, false, false, true, true, true, false, false, false, false, false, false, false, false, false, false, false] rfl rfl (by kernel_rfl) (fun _ _ _ h => h) (Or.inl ⟨by rfl, ?_⟩) ?_ ?_
              rotate_left
              · intro w'
                go_simp
                with_reducible rfl
              rotate_left
              · simp only [Act.put, List.setIfInBounds_toArray, List.set_cons_zero, List.set_cons_succ, i64_w, i32_w]
                rfl
              refine pure_ (i := 10) (N := some 67) (v := ?_) (a' := ?_) #[true, true, true, true, false, false, false, true, true, true, true, false, false, false, false, false, false, false, false, false, false] rfl rfl (by kernel_rfl) (fun _ _ _ h => h) (Or.inl ⟨by rfl, ?_⟩) ?_ ?_
              rotate_left
              · intro w'
                go_simp
                with_reducible rfl
              rotate_left
              · simp only [Act.put, List.setIfInBounds_toArray, List.set_cons_zero, List.set_cons_succ, i64_w, i32_w]
                rfl
              refine pure_ (i := 11) (N := some 68) (v := ?_) (a' := ?_) #[true, true, true, true, false, false, false, true, true, true, true, true, false, false, false, false, false, false, false, false, false] rfl rfl (by kernel_rfl) (fun _ _ _ h => h) (Or.inl ⟨by rfl, ?_⟩) ?_ ?_
              rotate_left
              · intro w'
                go_simp
                with_reducible rfl
              rotate_left
              · simp only [Act.put, List.setIfInBounds_toArray, List.set_cons_zero, List.set_cons_succ, i64_w, i32_w]
                rfl
              refine pure_ (i := 12) (N := some 69) (v := ?_) (a' := ?_) #[true, true, true, true, false, false, false, true, true, true, true, true, true, false, false, false, false, false, false, false, false] rfl rfl (by kernel_rfl) (fun _ _ _ h => h) (Or.inl ⟨by rfl, ?_⟩) ?_ ?_
              rotate_left
              · intro w'
                go_simp
                with_reducible rfl
              rotate_left
              · simp only [Act.put, List.setIfInBounds_toArray, List.set_cons_zero, List.set_cons_succ, i64_w, i32_w]
                rfl
              refine pure_ (i := 13) (N := some 70) (v := ?_) (a' := ?_) #[true, true, true, true, false, false, false, true, true, true, true, true, true, true, false, false, false, false, false, false, false] rfl rfl (by kernel_rfl) (fun _ _ _ h => h) (Or.inl ⟨by rfl, ?_⟩) ?_ ?_
              rotate_left
              · intro w'
                go_simp
                with_reducible rfl
              rotate_left
              · simp only [Act.put, List.setIfInBounds_toArray, List.set_cons_zero, List.set_cons_succ, i64_w, i32_w]
                rfl
              refine pure_ (i := 14) (N := some 71) (v := ?_) (a' := ?_) #[true, true, true, true, false, false, false, true, true, true, true, true, true, true, true, false, false, false, false, false, false] rfl rfl (by kernel_rfl) (fun _ _ _ h => h) (Or.inl ⟨by rfl, ?_⟩) ?_ ?_
              rotate_left
              · intro w'
                go_simp
                with_reducible rfl
              rotate_left
              · simp only [Act.put, List.setIfInBounds_toArray, List.set_cons_zero, List.set_cons_succ, i64_w, i32_w]
                rfl
              refine pure_ (i := 16) (N := some 73) (v := ?_) (a' := ?_) #[true, true, true, true, false, false, false, true, true, true, true, true, true, true, true, false, true, false, false, false, false] rfl rfl (by kernel_rfl) (fun _ _ _ h => h) (Or.inl ⟨by rfl, ?_⟩) ?_ ?_
              rotate_left
              · intro w'
                go_simp
                with_reducible rfl
              rotate_left
              · simp only [Act.put, List.setIfInBounds_toArray, List.set_cons_zero, List.set_cons_succ, i64_w, i32_w]
                rfl
              refine pure_ (i := 17) (N := some 74) (v := ?_) (a' := ?_) #[true, true, true, true, false, false, false, true, true, true, true, true, true, true, true, false, true, true, false, false, false] rfl rfl (by kernel_rfl) (fun _ _ _ h => h) (Or.inl ⟨by rfl, ?_⟩) ?_ ?_
              rotate_left
              · intro w'
                go_simp
                with_reducible rfl
              rotate_left
              · simp only [Act.put, List.setIfInBounds_toArray, List.set_cons_zero, List.set_cons_succ, i64_w, i32_w]
                rfl
              refine take_ (i := 4) (N := some 61) (v := ?_) (a' := ?_) #[true, true, true, true, true, false, false, true, true, true, true, true, true, true, true, false, true, true, false, false, false] rfl rfl (by kernel_rfl) (fun _ _ _ h => h) (Or.inl ⟨by rfl, ?_⟩) hHeld ?_ ?_
              rotate_left
              · intro w' s0
                go_simp
                with_reducible rfl
              rotate_left
              · simp only [Act.put, List.setIfInBounds_toArray, List.set_cons_zero, List.set_cons_succ, i64_w, i32_w]
                rfl
              refine pure_ (i := 5) (N := some 62) (v := ?_) (a' := ?_) #[true, true, true, true, true, true, false, true, true, true, true, true, true, true, true, false, true, true, false, false, false] rfl rfl (by kernel_rfl) (fun _ _ _ h => h) (Or.inl ⟨by rfl, ?_⟩) ?_ ?_
              rotate_left
              · intro w'
                go_simp
                with_reducible rfl
              rotate_left
              · simp only [Act.put, List.setIfInBounds_toArray, List.set_cons_zero, List.set_cons_succ, i64_w, i32_w]
                rfl
              refine pure_ (i := 6) (N := some 63) (v := ?_) (a' := ?_) #[true, true, true, true, true, true, true, true, true, true, true, true, true, true, true, false, true, true, false, false, false] rfl rfl (by kernel_rfl) (fun _ _ _ h => h) (Or.inl ⟨by rfl, ?_⟩) ?_ ?_
              rotate_left
              · intro w'
                go_simp
                with_reducible rfl
              rotate_left
              · simp only [Act.put, List.setIfInBounds_toArray, List.set_cons_zero, List.set_cons_succ, i64_w, i32_w]
                rfl
              refine take_ (i := 15) (N := some 72) (v := ?_) (a' := ?_) #[true, true, true, true, true, true, true, true, true, true, true, true, true, true, true, true, true, true, false, false, false] rfl rfl (by kernel_rfl) (fun _ _ _ h => h) (Or.inl ⟨by rfl, ?_⟩) hHeld ?_ ?_
              rotate_left
              · intro w' s0
                go_simp
                with_reducible rfl
              rotate_left
              · simp only [Act.put, List.setIfInBounds_toArray, List.set_cons_zero, List.set_cons_succ, i64_w, i32_w]
                rfl
              refine one_ (i := 18) (N := some 75) #[true, true, true, true, true, true, true, true, true, true, true, true, true, true, true, true, true, true, true, false, false] rfl rfl (by kernel_rfl) (by decide) (fun K hK => ?_)
              refine value_ (w1 := ?_) (v := ?_) (by rfl) rfl ?_ ?_
              rotate_left 2
              · go_simp
                constructor
                · rfl
                · rfl
              have h2 : CL w cb mb N cnt vc rows m _ rows (wx.alloc (.cells #[.int .u8 y, .int .u8 (IntKind.u8.wrap k)] 5)).drew := (HC.out.later ((Below.refl _ wx).alloc (Nat.le_refl _) (.cells #[.int .u8 y, .int .u8 (IntKind.u8.wrap k)] 5))).drewN 1
              have ha2 : (wx.alloc (.cells #[.int .u8 y, .int .u8 (IntKind.u8.wrap k)] 5)).drew.cell? (ad.add k) = some (.int .u8 y) := cell_old ha0 (.cells #[.int .u8 y, .int .u8 (IntKind.u8.wrap k)] 5)
              have rb : Rd (wx.alloc (.cells #[.int .u8 y, .int .u8 (IntKind.u8.wrap k)] 5)).drew (some ⟨wx.heap.size, 0, none⟩) [y, IntKind.u8.wrap k] := Rd.lit wx [y, IntKind.u8.wrap k] (Bs.cons hy0.1 hy0.2 (Bs.cons (wrap8 k).1 (wrap8 k).2 Bs.nil))
              refine hK.out _ _ (ha2) (fun hHeld => ?_)
              clear hK K
              refine norm_ (a' := ?_) ?_ ?_
              rotate_left
              · show Act.put _ (some 75) _ = _
                simp only [Act.put, List.setIfInBounds_toArray, List.set_cons_zero, List.set_cons_succ, i64_w, i32_w]
                rfl
              refine one_ (i := 19) (N := some 76) #[true, true, true, true, true, true, true, true, true, true, true, true, true, true, true, true, true, true, true, true, false] rfl rfl (by kernel_rfl) (by decide) (fun K hK => ?_)
              refine goes_ Try.func11 (by kernel_rfl) rfl #[.pointer (some ⟨cb, 0, none⟩), .int .u64 (IntKind.u64.wrap (y.tmod 3)), .slice (some (ad.add k)) 1 (c - k), .slice (some ⟨wx.heap.size, 0, none⟩) 2 2] (by rfl) rfl rfl (by simp only [List.map_toArray, List.map_cons, List.map_nil]; rfl) ?_
              with_reducible refine (cl_known' h2 (by omega) y HM.out _ _ _ _ y (IntKind.u8.wrap k) (Rd.one ha2 hy0) rb).mono ?_
              rintro e w4 ⟨rfl, h4⟩
              refine ⟨_, rfl, ?_⟩
              have ha3 : w4.cell? (ad.add k) = some (.int .u8 y) := (HR2.out w4 h4.below)
              refine hK.out _ _ (ha3) (fun hHeld => ?_)
              clear hK K
              refine norm_ (a' := ?_) ?_ ?_
              rotate_left
              · show Act.put _ (some 76) _ = _
                simp only [Act.put, List.setIfInBounds_toArray, List.set_cons_zero, List.set_cons_succ, i64_w, i32_w]
                rfl
              refine pure_ (i := 20) (N := some 12) (v := ?_) (a' := ?_) #[true, true, true, true, true, true, true, true, true, true, true, true, true, true, true, true, true, true, true, true, true] rfl rfl (by kernel_rfl) (fun _ _ _ h => h) (Or.inl ⟨by rfl, ?_⟩) ?_ ?_
              rotate_left
              · intro w'
                go_simp
                with_reducible rfl
              rotate_left
              · simp only [Act.put, List.setIfInBounds_toArray, List.set_cons_zero, List.set_cons_succ, i64_w, i32_w]
                rfl
              refine done_ (by kernel_rfl) ?_
              have HF := Lib.hid h4
              clear h4 ha3 hHeld ha2 rb h2
              go_upto_region 23 with fail
              have hrl2 : rows.length ≤ 64 := by have := HF.out.mr.len; omega
              go_wp2_with fail
              go_loopw [13] (fun kv wq => ∃ q : Nat, q ≤ 256 ∧ kv = .int .i64 q ∧ CL w cb mb N cnt vc rows m (.slice Ar rows.length cr) rows wq) (fun kv _ => 256 - (intOf kv).toNat)
              case atStart => exact ⟨0, by decide, rfl, HF.out⟩
              case round =>
                obtain ⟨q, hq, rfl, Hq⟩ := hrel
                have HQ2 := Lib.hid Hq
                clear Hq
                by_cases hq6 : q < 256
                · have hq7 : (q : Int) < 256 := by omega
                  go_wp2_with fail
                  have hB8 := (Below.refl wr.heap.size wr).alloc (Nat.le_refl _) (.cells #[.int .u8 (q : Int)] 5)
                  refine (cl_find (HQ2.out.later hB8) q _ 1 (Rd.lit wr [(q : Int)] (Bs.cons (by omega) (by omega) Bs.nil))).mono ?_
                  rintro e w7 ⟨v7, rfl, h7⟩
                  obtain ⟨_, _, eA, _, r7⟩ := h7.row.rd h7.mr.bs
                  injection eA with e1 _ e3
                  subst e1 e3
                  have H7 := Lib.hid h7
                  have R7 := Lib.hid r7
                  clear h7 r7 hB8
                  go_wp2_with fail
                  go_loopw [16, 17] (fun t j wz => ∃ jn : Nat, jn ≤ rows.length ∧ j = .int .i64 jn ∧ t = .bool (decide ((q : Int) ∈ rows.take jn)) ∧ wz = w7) (fun _ j _ => rows.length - (intOf j).toNat)
                  case atStart => exact ⟨0, Nat.zero_le _, rfl, by simp, rfl⟩
                  case round =>
                    obtain ⟨jn, hjn, rfl, rfl, rfl⟩ := hrel
                    by_cases hjl : jn < rows.length
                    · have hjr : (jn : Int) < (rows.length : Int) := by omega
                      obtain ⟨ar, eA, hc1⟩ := R7.out.at_ hjl
                      subst eA
                      have hqb := R7.out.1.get jn
                      have HM := Lib.hid (dec_take hjl (q : Int))
                      by_cases ht : (q : Int) ∈ rows.take jn
                      · rw [decide_eq_true ht] at HM ⊢
                        clear ht
                        go_wp2
                        exact ⟨⟨jn + 1, by omega, by go_num, by rw [HM.out]; rfl, trivial⟩, by simp [intOf]; omega⟩
                      · rw [decide_eq_false ht] at HM ⊢
                        clear ht
                        go_wp2
                        exact ⟨⟨jn + 1, by omega, by go_num, by rw [HM.out, Bool.false_or], trivial⟩, by simp [intOf]; omega⟩
                    · have hjr : ¬ (jn : Int) < (rows.length : Int) := by omega
                      obtain rfl : jn = rows.length := by omega
                      rw [List.take_length]
                      by_cases hqm : (q : Int) ∈ rows
                      · rw [decide_eq_true hqm]
                        clear hqm
                        go_wp2_with fail
                        exact ⟨⟨q + 1, by omega, by go_num, H7.out⟩, by simp [intOf]; omega⟩
                      · rw [decide_eq_false hqm]
                        clear hqm
                        go_wp2_with fail
                        exact ⟨⟨q + 1, by omega, by go_num, H7.out⟩, by simp [intOf]; omega⟩
                · have hq7 : ¬ (q : Int) < 256 := by omega
                  go_wp2_with fail
                  exact ⟨⟨k + 1, cnt, vc, rows, m, by omega, by omega, by go_num, HQ2.out⟩, by simp [intOf]; omega⟩
            · rw [decide_eq_false hy]
              have HM := Lib.hid hy
              clear hy
              go_wp2_with fail
              refine start_ (n := 21) (S := fun w' => w'.cell? (ad.add k) = some (.int .u8 y)) (ds := []) #[false, false, false, false, false, false, false, false, false, false, false, false, false, false, false, false, false, false, false, false, false] (by kernel_rfl) rfl rfl (ha0) (fun hHeld => ?_)
              refine pure_ (i := 0) (N := some 57) (v := ?_) (a' := ?_) #[true, false, false, false, false, false, false, false, false, false, false, false, false, false, false, false, false, false, false, false, false] rfl rfl (by kernel_rfl) (fun _ _ _ h => h) (Or.inl ⟨by rfl, ?_⟩) ?_ ?_
              rotate_left
              · intro w'
                go_simp
                with_reducible rfl
              rotate_left
              · simp only [Act.put, List.setIfInBounds_toArray, List.set_cons_zero, List.set_cons_succ, i64_w, i32_w]
                rfl
              refine pure_ (i := 1) (N := some 58) (v := ?_) (a' := ?_) #[true, true, false, false, false, false, false, false, false, false, false, false, false, false, false, false, false, false, false, false, false] rfl rfl (by kernel_rfl) (fun _ _ _ h => h) (Or.inl ⟨by rfl, ?_⟩) ?_ ?_
              rotate_left
              · intro w'
                go_simp
                with_reducible rfl
              rotate_left
              · simp only [Act.put, List.setIfInBounds_toArray, List.set_cons_zero, List.set_cons_succ, i64_w, i32_w]
                rfl
              refine pure_ (i := 2) (N := some 59) (v := ?_) (a' := ?_) #[true, true, true, false, false, false, false, false, false, false, false, false, false, false, false, false, false, false, false, false, false] rfl rfl (by kernel_rfl) (fun _ _ _ h => h) (Or.inl ⟨by rfl, ?_⟩) ?_ ?_
              rotate_left
              · intro w'
                go_simp
                with_reducible rfl
              rotate_left
              · simp only [Act.put, List.setIfInBounds_toArray, List.set_cons_zero, List.set_cons_succ, i64_w, i32_w]
                rfl
              refine pure_ (i := 3) (N := some 60) (v := ?_) (a' := ?_) #[true, true, true, true, false, false, false, false, false, false, false, false, false, false, false, false, false, false, false, false, false] rfl rfl (by kernel_rfl) (fun _ _ _ h => h) (Or.inl ⟨by rfl, ?_⟩) ?_ ?_
              rotate_left
              · intro w'
                go_simp
                with_reducible rfl
              rotate_left
              · simp only [Act.put, List.setIfInBounds_toArray, List.set_cons_zero, List.set_cons_succ, i64_w, i32_w]
                rfl
              refine pure_ (i := 7) (N := some 64) (v := ?_) (a' := ?_) #[true, true, true, true, false, false, false, true, false, false, false, false, false, false, false, false, false, false, false, false, false] rfl rfl (by kernel_rfl) (fun _ _ _ h => h) (Or.inl ⟨by rfl, ?_⟩) ?_ ?_
              rotate_left
              · intro w'
                go_simp
                with_reducible rfl
              rotate_left
              · simp only [Act.put, List.setIfInBounds_toArray, List.set_cons_zero, List.set_cons_succ, i64_w, i32_w]
                rfl
              refine pure_ (i := 8) (N := some 65) (v := ?_) (a' := ?_) #[true, true, true, true, false, false, false, true, true, false, false, false, false, false, false, false, false, false, false, false, false] rfl rfl (by kernel_rfl) (fun _ _ _ h => h) (Or.inl ⟨by rfl, ?_⟩) ?_ ?_
              rotate_left
              · intro w'
                go_simp
                with_reducible rfl
              rotate_left
              · simp only [Act.put, List.setIfInBounds_toArray, List.set_cons_zero, List.set_cons_succ, i64_w, i32_w]
                rfl
              refine pure_ (i := 9) (N := some 66) (v := ?_) (a' := ?_) #[true, true, true, true, false, false, false, true, true, true, false, false, false, false, false, false, false, false, false, false, false] rfl rfl (by kernel_rfl) (fun _ _ _ h => h) (Or.inl ⟨by rfl, ?_⟩) ?_ ?_
              rotate_left
              · intro w'
                go_simp
                with_reducible rfl
              rotate_left
              · simp only [Act.put, List.setIfInBounds_toArray, List.set_cons_zero, List.set_cons_succ, i64_w, i32_w]
                rfl
              refine pure_ (i := 10) (N := some 67) (v := ?_) (a' := ?_) #[true, true, true, true, false, false, false, true, true, true, true, false, false, false, false, false, false, false, false, false, false] rfl rfl (by kernel_rfl) (fun _ _ _ h => h) (Or.inl ⟨by rfl, ?_⟩) ?_ ?_
              rotate_left
              · intro w'
                go_simp
                with_reducible rfl
              rotate_left
              · simp only [Act.put, List.setIfInBounds_toArray, List.set_cons_zero, List.set_cons_succ, i64_w, i32_w]
                rfl
              refine pure_ (i := 11) (N := some 68) (v := ?_) (a' := ?_) #[true, true, true, true, false, false, false, true, true, true, true, true, false, false, false, false, false, false, false, false, false] rfl rfl (by kernel_rfl) (fun _ _ _ h => h) (Or.inl ⟨by rfl, ?_⟩) ?_ ?_
              rotate_left
              · intro w'
                go_simp
                with_reducible rfl
              rotate_left
              · simp only [Act.put, List.setIfInBounds_toArray, List.set_cons_zero, List.set_cons_succ, i64_w, i32_w]
                rfl
              refine pure_ (i := 12) (N := some 69) (v := ?_) (a' := ?_) #[true, true, true, true, false, false, false, true, true, true, true, true, true, false, false, false, false, false, false, false, false] rfl rfl (by kernel_rfl) (fun _ _ _ h => h) (Or.inl ⟨by rfl, ?_⟩) ?_ ?_
              rotate_left
              · intro w'
                go_simp
                with_reducible rfl
              rotate_left
              · simp only [Act.put, List.setIfInBounds_toArray, List.set_cons_zero, List.set_cons_succ, i64_w, i32_w]
                rfl
              refine pure_ (i := 13) (N := some 70) (v := ?_) (a' := ?_) #[true, true, true, true, false, false, false, true, true, true, true, true, true, true, false, false, false, false, false, false, false] rfl rfl (by kernel_rfl) (fun _ _ _ h => h) (Or.inl ⟨by rfl, ?_⟩) ?_ ?_
              rotate_left
              · intro w'
                go_simp
                with_reducible rfl
              rotate_left
              · simp only [Act.put, List.setIfInBounds_toArray, List.set_cons_zero, List.set_cons_succ, i64_w, i32_w]
                rfl
              refine pure_ (i := 14) (N := some 71) (v := ?_) (a' := ?_) #[true, true, true, true, false, false, false, true, true, true, true, true, true, true, true, false, false, false, false, false, false] rfl rfl (by kernel_rfl) (fun _ _ _ h => h) (Or.inl ⟨by rfl, ?_⟩) ?_ ?_
              rotate_left
              · intro w'
                go_simp
                with_reducible rfl
              rotate_left
              · simp only [Act.put, List.setIfInBounds_toArray, List.set_cons_zero, List.set_cons_succ, i64_w, i32_w]
                rfl
              refine pure_ (i := 16) (N := some 73) (v := ?_) (a' := ?_) #[true, true, true, true, false, false, false, true, true, true, true, true, true, true, true, false, true, false, false, false, false] rfl rfl (by kernel_rfl) (fun _ _ _ h => h) (Or.inl ⟨by rfl, ?_⟩) ?_ ?_
              rotate_left
              · intro w'
                go_simp
                with_reducible rfl
              rotate_left
              · simp only [Act.put, List.setIfInBounds_toArray, List.set_cons_zero, List.set_cons_succ, i64_w, i32_w]
                rfl
              refine pure_ (i := 17) (N := some 74) (v := ?_) (a' := ?_) #[true, true, true, true, false, false, false, true, true, true, true, true, true, true, true, false, true, true, false, false, false] rfl rfl (by kernel_rfl) (fun _ _ _ h => h) (Or.inl ⟨by rfl, ?_⟩) ?_ ?_
              rotate_left
              · intro w'
                go_simp
                with_reducible rfl
              rotate_left
              · simp only [Act.put, List.setIfInBounds_toArray, List.set_cons_zero, List.set_cons_succ, i64_w, i32_w]
                rfl
              refine take_ (i := 4) (N := some 61) (v := ?_) (a' := ?_) #[true, true, true, true, true, false, false, true, true, true, true, true, true, true, true, false, true, true, false, false, false] rfl rfl (by kernel_rfl) (fun _ _ _ h => h) (Or.inl ⟨by rfl, ?_⟩) hHeld ?_ ?_
              rotate_left
              · intro w' s0
                go_simp
                with_reducible rfl
              rotate_left
              · simp only [Act.put, List.setIfInBounds_toArray, List.set_cons_zero, List.set_cons_succ, i64_w, i32_w]
                rfl
              refine pure_ (i := 5) (N := some 62) (v := ?_) (a' := ?_) #[true, true, true, true, true, true, false, true, true, true, true, true, true, true, true, false, true, true, false, false, false] rfl rfl (by kernel_rfl) (fun _ _ _ h => h) (Or.inl ⟨by rfl, ?_⟩) ?_ ?_
              rotate_left
              · intro w'
                go_simp
                with_reducible rfl
              rotate_left
              · simp only [Act.put, List.setIfInBounds_toArray, List.set_cons_zero, List.set_cons_succ, i64_w, i32_w]
                rfl
              refine pure_ (i := 6) (N := some 63) (v := ?_) (a' := ?_) #[true, true, true, true, true, true, true, true, true, true, true, true, true, true, true, false, true, true, false, false, false] rfl rfl (by kernel_rfl) (fun _ _ _ h => h) (Or.inl ⟨by rfl, ?_⟩) ?_ ?_
              rotate_left
              · intro w'
                go_simp
                with_reducible rfl
              rotate_left
              · simp only [Act.put, List.setIfInBounds_toArray, List.set_cons_zero, List.set_cons_succ, i64_w, i32_w]
                rfl
              refine take_ (i := 15) (N := some 72) (v := ?_) (a' := ?_) #[true, true, true, true, true, true, true, true, true, true, true, true, true, true, true, true, true, true, false, false, false] rfl rfl (by kernel_rfl) (fun _ _ _ h => h) (Or.inl ⟨by rfl, ?_⟩) hHeld ?_ ?_
              rotate_left
              · intro w' s0
                go_simp
                with_reducible rfl
              rotate_left
              · simp only [Act.put, List.setIfInBounds_toArray, List.set_cons_zero, List.set_cons_succ, i64_w, i32_w]
                rfl
              refine one_ (i := 18) (N := some 75) #[true, true, true, true, true, true, true, true, true, true, true, true, true, true, true, true, true, true, true, false, false] rfl rfl (by kernel_rfl) (by decide) (fun K hK => ?_)
              refine value_ (w1 := ?_) (v := ?_) (by rfl) rfl ?_ ?_
              rotate_left 2
              · go_simp
                constructor
                · rfl
                · rfl
              have h2 : CL w cb mb N cnt vc rows m _ rows (wx.alloc (.cells #[.int .u8 y, .int .u8 (IntKind.u8.wrap k)] 5)).drew := (HC.out.later ((Below.refl _ wx).alloc (Nat.le_refl _) (.cells #[.int .u8 y, .int .u8 (IntKind.u8.wrap k)] 5))).drewN 1
              have ha2 : (wx.alloc (.cells #[.int .u8 y, .int .u8 (IntKind.u8.wrap k)] 5)).drew.cell? (ad.add k) = some (.int .u8 y) := cell_old ha0 (.cells #[.int .u8 y, .int .u8 (IntKind.u8.wrap k)] 5)
              have rb : Rd (wx.alloc (.cells #[.int .u8 y, .int .u8 (IntKind.u8.wrap k)] 5)).drew (some ⟨wx.heap.size, 0, none⟩) [y, IntKind.u8.wrap k] := Rd.lit wx [y, IntKind.u8.wrap k] (Bs.cons hy0.1 hy0.2 (Bs.cons (wrap8 k).1 (wrap8 k).2 Bs.nil))
              refine hK.out _ _ (ha2) (fun hHeld => ?_)
              clear hK K
              refine norm_ (a' := ?_) ?_ ?_
              rotate_left
              · show Act.put _ (some 75) _ = _
                simp only [Act.put, List.setIfInBounds_toArray, List.set_cons_zero, List.set_cons_succ, i64_w, i32_w]
                rfl
              refine one_ (i := 19) (N := some 76) #[true, true, true, true, true, true, true, true, true, true, true, true, true, true, true, true, true, true, true, true, false] rfl rfl (by kernel_rfl) (by decide) (fun K hK => ?_)
              refine goes_ Try.func11 (by kernel_rfl) rfl #[.pointer (some ⟨cb, 0, none⟩), .int .u64 (IntKind.u64.wrap (y.tmod 3)), .slice (some (ad.add k)) 1 (c - k), .slice (some ⟨wx.heap.size, 0, none⟩) 2 2] (by rfl) rfl rfl (by simp only [List.map_toArray, List.map_cons, List.map_nil]; rfl) ?_
              with_reducible refine (cl_fresh' h2 (by omega) hN1 y HM.out _ _ _ _ y (IntKind.u8.wrap k) (Rd.one ha2 hy0) rb).mono ?_
              rintro e w4 ⟨rfl, vc', m', h4⟩
              refine ⟨_, rfl, ?_⟩
              have ha3 : w4.cell? (ad.add k) = some (.int .u8 y) := (HR2.out w4 h4.below)
              refine hK.out _ _ (ha3) (fun hHeld => ?_)
              clear hK K
              refine norm_ (a' := ?_) ?_ ?_
              rotate_left
              · show Act.put _ (some 76) _ = _
                simp only [Act.put, List.setIfInBounds_toArray, List.set_cons_zero, List.set_cons_succ, i64_w, i32_w]
                rfl
              refine pure_ (i := 20) (N := some 12) (v := ?_) (a' := ?_) #[true, true, true, true, true, true, true, true, true, true, true, true, true, true, true, true, true, true, true, true, true] rfl rfl (by kernel_rfl) (fun _ _ _ h => h) (Or.inl ⟨by rfl, ?_⟩) ?_ ?_
              rotate_left
              · intro w'
                go_simp
                with_reducible rfl
              rotate_left
              · simp only [Act.put, List.setIfInBounds_toArray, List.set_cons_zero, List.set_cons_succ, i64_w, i32_w]
                rfl
              refine done_ (by kernel_rfl) ?_
              clear hHeld ha2 rb h2
              have ha4 : ∀ o, (w4.alloc o).cell? (ad.add k) = some (.int .u8 y) := fun o => cell_old ha3 o
              have hl4 := h4.later ((Below.refl _ w4).alloc (Nat.le_refl _) (.cells #[.int .u8 y] 5))
              have hs4 := hl4.below.size
              obtain ⟨i0, hi, hz0, hz1, hz2⟩ := info_parts info8
              go_wp2_with (at_builtin; refine wpList_append_que _ rfl _ _ 22 rfl w.heap.size 5 i0 (.int .u8 0) 1 1 Try.underlying22 hi hz0 hz1 hz2 rfl (by decide) _ rows.length (rows.map (Value.int .u8)) rfl hl4.row ⟨_, 0, none⟩ 1 1 [.int .u8 y] rfl rfl (cell_one_new _ _ _) (by simp [Value.oneCell']) (by decide) ?c1 ?c2 ?c3 ?c4)
              case c1 => unfold maxLen; omega
              case c2 => omega
              case c3 => exact hs4
              case c4 =>
                intro v5 w5 q5 g5 a5
                have h5 := hl4.app q5 g5
                obtain ⟨R2, hR2⟩ : ∃ R2, R2 = rows ++ [y] := ⟨_, rfl⟩
                have hRl : R2.length = rows.length + 1 := by rw [hR2]; simp
                rw [← hR2] at h5
                clear q5 g5 a5 hl4 hs4 ha4 ha3 h4
                obtain ⟨A5, c5, rfl, _, _, _⟩ := h5.row.form
                by_cases hfull : N < rows.length + 1
                · have hfl : (N : Int) < (R2.length : Int) := by omega
                  obtain ⟨z, zs, hzs⟩ : ∃ z zs, R2 = z :: zs := by
                    cases hq : R2 with
                    | nil => rw [hq] at hRl; simp at hRl
                    | cons a b => exact ⟨a, b, rfl⟩
                  have erow : rowNext N rows y = zs := rowNext_full hfull (by rw [← hR2, hzs])
                  have hzl : R2.length = zs.length + 1 := by rw [hzs]; rfl
                  rw [erow] at h5
                  have h5' : CL w cb mb N (cnt + 1) vc' zs m' (.slice A5 R2.length c5) (z :: zs) w5 := by rw [← hzs]; exact h5
                  obtain ⟨A7, c7, e7, hc7, h7⟩ := h5'.cut
                  injection e7 with e1 e2 e3
                  clear e2
                  subst e1 e3
                  have hcut : ∀ W : World, (Instr.slice 22 (.slice (some A7) R2.length c5) (some (.int .i64 1)) none none).run Try.prog W = .ok (.slice (if c5 = 1 then some A7 else some (A7.add 1)) zs.length (c5 - 1)) W := fun W => by rw [hzl]; exact run_cut1b W A7 zs.length c5 hc7
                  generalize (if c5 = 1 then some A7 else some (A7.add 1)) = A8 at *
                  have HF := Lib.hid h7
                  clear h7 h5 h5' erow hzs hR2 hRl hzl hfull
                  go_upto_region 23 with fail
                  clear hcut hfl
                  have hrl2 : zs.length ≤ 64 := by have := HF.out.mr.len; omega
                  go_wp2_with fail
                  go_loopw [13] (fun kv wq => ∃ q : Nat, q ≤ 256 ∧ kv = .int .i64 q ∧ CL w cb mb N (cnt + 1) vc' zs m' (.slice A8 zs.length (c5 - 1)) zs wq) (fun kv _ => 256 - (intOf kv).toNat)
                  case atStart => exact ⟨0, by decide, rfl, HF.out⟩
                  case round =>
                    obtain ⟨q, hq, rfl, Hq⟩ := hrel
                    have HQ2 := Lib.hid Hq
                    clear Hq
                    by_cases hq6 : q < 256
                    · have hq7 : (q : Int) < 256 := by omega
                      go_wp2_with fail
                      have hB8 := (Below.refl wr.heap.size wr).alloc (Nat.le_refl _) (.cells #[.int .u8 (q : Int)] 5)
                      refine (cl_find (HQ2.out.later hB8) q _ 1 (Rd.lit wr [(q : Int)] (Bs.cons (by omega) (by omega) Bs.nil))).mono ?_
                      rintro e w7 ⟨v7, rfl, h7⟩
                      obtain ⟨_, _, eA, _, r7⟩ := h7.row.rd h7.mr.bs
                      injection eA with e1 _ e3
                      subst e1 e3
                      have H7 := Lib.hid h7
                      have R7 := Lib.hid r7
                      clear h7 r7 hB8
                      go_wp2_with fail
                      go_loopw [16, 17] (fun t j wz => ∃ jn : Nat, jn ≤ zs.length ∧ j = .int .i64 jn ∧ t = .bool (decide ((q : Int) ∈ zs.take jn)) ∧ wz = w7) (fun _ j _ => zs.length - (intOf j).toNat)
                      case atStart => exact ⟨0, Nat.zero_le _, rfl, by simp, rfl⟩
                      case round =>
                        obtain ⟨jn, hjn, rfl, rfl, rfl⟩ := hrel
                        by_cases hjl : jn < zs.length
                        · have hjr : (jn : Int) < (zs.length : Int) := by omega
                          obtain ⟨ar, eA, hc1⟩ := R7.out.at_ hjl
                          subst eA
                          have hqb := R7.out.1.get jn
                          have HM := Lib.hid (dec_take hjl (q : Int))
                          by_cases ht : (q : Int) ∈ zs.take jn
                          · rw [decide_eq_true ht] at HM ⊢
                            clear ht
                            go_wp2
                            exact ⟨⟨jn + 1, by omega, by go_num, by rw [HM.out]; rfl, trivial⟩, by simp [intOf]; omega⟩
                          · rw [decide_eq_false ht] at HM ⊢
                            clear ht
                            go_wp2
                            exact ⟨⟨jn + 1, by omega, by go_num, by rw [HM.out, Bool.false_or], trivial⟩, by simp [intOf]; omega⟩
                        · have hjr : ¬ (jn : Int) < (zs.length : Int) := by omega
                          obtain rfl : jn = zs.length := by omega
                          rw [List.take_length]
                          by_cases hqm : (q : Int) ∈ zs
                          · rw [decide_eq_true hqm]
                            clear hqm
                            go_wp2_with fail
                            exact ⟨⟨q + 1, by omega, by go_num, H7.out⟩, by simp [intOf]; omega⟩
                          · rw [decide_eq_false hqm]
                            clear hqm
                            go_wp2_with fail
                            exact ⟨⟨q + 1, by omega, by go_num, H7.out⟩, by simp [intOf]; omega⟩
                    · have hq7 : ¬ (q : Int) < 256 := by omega
                      go_wp2_with fail
                      exact ⟨⟨k + 1, (cnt + 1), vc', zs, m', by omega, by omega, by go_num, HQ2.out⟩, by simp [intOf]; omega⟩
                · have hfl : ¬ (N : Int) < (R2.length : Int) := by omega
                  have erow : rowNext N rows y = R2 := by rw [rowNext_no hfull, hR2]
                  rw [erow] at h5
                  have HF := Lib.hid h5
                  clear h5 erow hR2 hRl hfull
                  go_upto_region 23 with fail
                  clear hfl
                  have hrl2 : R2.length ≤ 64 := by have := HF.out.mr.len; omega
                  go_wp2_with fail
                  go_loopw [13] (fun kv wq => ∃ q : Nat, q ≤ 256 ∧ kv = .int .i64 q ∧ CL w cb mb N (cnt + 1) vc' R2 m' (.slice A5 R2.length c5) R2 wq) (fun kv _ => 256 - (intOf kv).toNat)
                  case atStart => exact ⟨0, by decide, rfl, HF.out⟩
                  case round =>
                    obtain ⟨q, hq, rfl, Hq⟩ := hrel
                    have HQ2 := Lib.hid Hq
                    clear Hq
                    by_cases hq6 : q < 256
                    · have hq7 : (q : Int) < 256 := by omega
                      go_wp2_with fail
                      have hB8 := (Below.refl wr.heap.size wr).alloc (Nat.le_refl _) (.cells #[.int .u8 (q : Int)] 5)
                      refine (cl_find (HQ2.out.later hB8) q _ 1 (Rd.lit wr [(q : Int)] (Bs.cons (by omega) (by omega) Bs.nil))).mono ?_
                      rintro e w7 ⟨v7, rfl, h7⟩
                      obtain ⟨_, _, eA, _, r7⟩ := h7.row.rd h7.mr.bs
                      injection eA with e1 _ e3
                      subst e1 e3
                      have H7 := Lib.hid h7
                      have R7 := Lib.hid r7
                      clear h7 r7 hB8
                      go_wp2_with fail
                      go_loopw [16, 17] (fun t j wz => ∃ jn : Nat, jn ≤ R2.length ∧ j = .int .i64 jn ∧ t = .bool (decide ((q : Int) ∈ R2.take jn)) ∧ wz = w7) (fun _ j _ => R2.length - (intOf j).toNat)
                      case atStart => exact ⟨0, Nat.zero_le _, rfl, by simp, rfl⟩
                      case round =>
                        obtain ⟨jn, hjn, rfl, rfl, rfl⟩ := hrel
                        by_cases hjl : jn < R2.length
                        · have hjr : (jn : Int) < (R2.length : Int) := by omega
                          obtain ⟨ar, eA, hc1⟩ := R7.out.at_ hjl
                          subst eA
                          have hqb := R7.out.1.get jn
                          have HM := Lib.hid (dec_take hjl (q : Int))
                          by_cases ht : (q : Int) ∈ R2.take jn
                          · rw [decide_eq_true ht] at HM ⊢
                            clear ht
                            go_wp2
                            exact ⟨⟨jn + 1, by omega, by go_num, by rw [HM.out]; rfl, trivial⟩, by simp [intOf]; omega⟩
                          · rw [decide_eq_false ht] at HM ⊢
                            clear ht
                            go_wp2
                            exact ⟨⟨jn + 1, by omega, by go_num, by rw [HM.out, Bool.false_or], trivial⟩, by simp [intOf]; omega⟩
                        · have hjr : ¬ (jn : Int) < (R2.length : Int) := by omega
                          obtain rfl : jn = R2.length := by omega
                          rw [List.take_length]
                          by_cases hqm : (q : Int) ∈ R2
                          · rw [decide_eq_true hqm]
                            clear hqm
                            go_wp2_with fail
                            exact ⟨⟨q + 1, by omega, by go_num, H7.out⟩, by simp [intOf]; omega⟩
                          · rw [decide_eq_false hqm]
                            clear hqm
                            go_wp2_with fail
                            exact ⟨⟨q + 1, by omega, by go_num, H7.out⟩, by simp [intOf]; omega⟩
                    · have hq7 : ¬ (q : Int) < 256 := by omega
                      go_wp2_with fail
                      exact ⟨⟨k + 1, (cnt + 1), vc', R2, m', by omega, by omega, by go_num, HQ2.out⟩, by simp [intOf]; omega⟩
      · have hkl : ¬ (k : Int) < (l.length : Int) := by omega
        go_wp2_with fail
        refine (cache_len _ _ _ _ _ _ _ _ _ HH.out.is).mono ?_
        rintro e w5 ⟨rfl, rfl⟩
        rw [List.length_map]
        go_wp2_with fail
        refine (lives_ w5).mono ?_
        rintro e w6 ⟨rfl, hB⟩
        go_wp2
        go_ret
        exact ⟨rfl, below_then HH.out.below hB⟩
end Go.Proofs.Ytjmganppgojdhaa.Hand
