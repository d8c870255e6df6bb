/- What the reference's All hands back: as marks.All. -/
import Derived.Test.YtgkbfmbdpkkhnaaDoorRefMarksGet
import Derived.Test.YtgkbfmbdpkkhnaaDoorMarksAll
import Derived.Test.YtgkbfmbdpkkhnaaDoorBookBlobGrow
namespace Go.Proofs.YtgkbfmbdpkkhnaaDoor.Hand
open Go.RowKit Go.Proofs.YtgkbfmbdpkkhnaaDoorW.PrintLast
set_option linter.unusedVariables false
set_option linter.unusedSimpArgs false

theorem ret_sum {ps : List (Value × List Int × Nat)} {R1 : List (List Int × Nat)} (h : ps.map (fun x => (x.2.1, x.2.2)) ++ [] = R1) : R1.map (·.1) = ps.map (·.2.1) ∧ (R1.map (·.2)).sum = (ps.map (·.2.2)).sum := by
  rw [List.append_nil] at h
  rw [← h]
  simp [List.map_map, Function.comp_def]

set_option maxRecDepth 100000 in
set_option maxHeartbeats 4000000 in
theorem rmarksAll (A : Option Addr) (c : Nat) (l : List Int) (w : World) (hr : Rd w A l) (hc : l.length ≤ c) (hlen : l.length ≤ 4398046511) :
    Calls Tryd.prog 28 #[.slice A l.length c] w fun e w' => ∃ v, e = .returned (.tuple #[v, .int .i64 (mall l).2.1, .int .i64 (mall l).2.2]) ∧ OwnL w' w.heap.size v (mall l).1 ∧ Below w.heap.size w w' := by
  obtain ⟨R, hR⟩ : ∃ R, R = msgs (l.length + 1) l := ⟨_, rfl⟩
  have hml : mall l = (R.1.map (·.1), (R.1.map (·.2)).sum, if R.2 = 4 then 0 else R.2) := by rw [hR]; rfl
  rw [hml]
  generalize hre : (if R.2 = 4 then 0 else R.2) = RE
  have HRE := Lib.hid hre
  clear hre
  have HR := Lib.hid hR
  clear hR hml
  go_enter Tryd.func28, Tryd.ntmps28
  go_wp2
  go_loopw [5, 6] (fun lv i wr => ∃ (ps : List (Value × List Int × Nat)) (k f : Nat), i = .int .i64 k ∧ k ≤ l.length ∧ Rowed wr w.heap.size lv ps ∧ Below w.heap.size w wr ∧ (ps.map (·.2.2)).sum = k ∧ l.length - k < f ∧ ps.length ≤ k ∧ Hid (ps.map (fun x => (x.2.1, x.2.2)) ++ (msgs f (l.drop k)).1 = R.1) ∧ Hid ((msgs f (l.drop k)).2 = R.2)) (fun _ i _ => l.length - (intOf i).toNat)
  case atStart => exact ⟨[], 0, l.length + 1, rfl, by omega, ⟨World.ownsRow_nil _ _ _ _, fun p hp => by simp at hp⟩, Below.refl _ _, rfl, by omega, by simp, Lib.hid (by rw [HR.out]; rfl), Lib.hid (by rw [HR.out]; rfl)⟩
  case round =>
    obtain ⟨ps, k, f, rfl, hk, hro, hB, hsum, hf, hpl, H1, H2⟩ := hrel
    obtain ⟨f, rfl⟩ : ∃ g, f = g + 1 := ⟨f - 1, by omega⟩
    have hrl : (l.drop k).length = l.length - k := List.length_drop
    have hrd := (hr.below hB).drop k c hc
    have G := rmarksGet _ (c - k) (l.drop k) wr hrd (by omega) (by omega)
    have FIT := Lib.hid (fun h => mget_fits ((l.drop k).length + 1) (l.drop k) [] 0 h)
    have m1 := H1.out
    have m2 := H2.out
    rw [msgs] at m1 m2
    have e : ((ps.map (·.2.2)).sum : Nat) = k := hsum
    have HS := Lib.hid hsum
    have HRO := Lib.hid hro
    have HB := Lib.hid hB
    have E4 := Lib.hid (fun (h : c = k) => (show (mget ((l.drop k).length + 1) (l.drop k) [] 0).2.2 = 4 from by rw [List.drop_of_length_le (by omega)]; rfl))
    generalize hM : mget ((l.drop k).length + 1) (l.drop k) [] 0 = M at *
    obtain ⟨m, n, er⟩ := M
    simp only at m1 m2 FIT G E4
    rw [hrl] at G
    have HM1 := Lib.hid m1
    have HM2 := Lib.hid m2
    have HRL := Lib.hid hrl
    clear hM m1 m2 hrd hsum hro hB e H1 H2 hrl
    have hkc : (k : Int) ≤ (c : Int) := by omega
    by_cases hca : c = k
    · have he := E4.out hca
      subst he
      rw [if_pos hca] at G
      subst hca
      rw [Nat.sub_self, show l.length - c = 0 from by omega] at G
      clear E4 FIT
      go_wp2_with fail
      refine G.mono ?_
      rintro e w2 ⟨v, rfl, ho2, hB2⟩
      clear G ho2
      go_wp2
      have m1 := HM1.out
      have m2 := HM2.out
      rw [if_neg (by decide)] at m1 m2
      obtain ⟨q1, q2⟩ := ret_sum m1
      refine bodyPost_ret (v := .tuple #[u5, .int .i64 c, .int .i64 0]) (by simp [results, Tryd.f28, go_sem]) rfl ⟨u5, ?_, ⟨ps, q1.symm, (HRO.out.below hB2)⟩, HB.out.trans (hB2.mono HB.out.size)⟩
      rw [q2, HS.out, ← HRE.out, ← m2]
      rfl
    · rw [if_neg hca] at G
      clear E4
      go_wp2_with fail
      refine G.mono ?_
      rintro e w2 ⟨v, rfl, ho2, hB2⟩
      clear G
      by_cases he4 : er = 4
      · subst he4
        clear ho2 FIT
        go_wp2
        have m1 := HM1.out
        have m2 := HM2.out
        rw [if_neg (by decide)] at m1 m2
        obtain ⟨q1, q2⟩ := ret_sum m1
        refine bodyPost_ret (v := .tuple #[u5, .int .i64 k, .int .i64 0]) (by simp [results, Tryd.f28, go_sem]) rfl ⟨u5, ?_, ⟨ps, q1.symm, (HRO.out.below hB2)⟩, HB.out.trans (hB2.mono HB.out.size)⟩
        rw [q2, HS.out, ← HRE.out, ← m2]
        rfl
      · by_cases he0 : er = 0
        · subst he0
          obtain ⟨f1, f2⟩ := FIT.out rfl
          rw [HRL.out] at f2
          have hkn : (k : Int) + (n : Int) ≤ 9223372036854775807 := by omega
          obtain ⟨Am, cm, rfl, hcm, hmm, hrm⟩ := ho2.form
          have hRO := HRO.out.below hB2
          have hB3 := HB.out.trans (hB2.mono HB.out.size)
          have hsw := hB3.size
          have al : Below w2.heap.size w2 (w2.alloc (.cells #[.slice Am m.length cm] 24)) := (Below.refl _ w2).alloc (Nat.le_refl _) _
          obtain ⟨v5, w5, hrun, h2, h3⟩ := append1B (w2.alloc (.cells #[.slice Am m.length cm] 24)) w.heap.size u5 ps.length (ps.map (·.1)) (hRO.1.alloc _) (by simp) w2.heap.size 1 (.slice Am m.length cm) ((Blk.new w2 24 #[.slice Am m.length cm]).cell 0 rfl) rfl (by omega) (by simp; omega)
          have H2 := Lib.hid h2
          have H3 := Lib.hid h3
          have HRO2 := Lib.hid hRO
          have HB3 := Lib.hid hB3
          have HO2 := Lib.hid ho2
          have HW := Lib.hid hB2.size
          clear h2 h3 hRO hB3 ho2 FIT hrm hcm hmm hB2
          have HSW := Lib.hid hsw
          have HAL := Lib.hid al
          clear hsw al
          go_wp2_with (at_builtin; refine Lib.wpList_append_run _ rfl _ _ _ _ rfl _ _ rfl rfl _ _ hrun ?_)
          clear hrun
          go_wp2
          have h2 := H2.out
          have al := HAL.out
          have m1 := HM1.out
          have m2 := HM2.out
          rw [if_pos True.intro] at m1 m2
          rw [List.drop_drop] at m1 m2
          have hsw := HSW.out
          have hown : ∀ (B : Nat) (v : Value) (l : List Int), Own w2 B v l → Own w5 B v l := fun B v l hv => by
            rcases H3.out with ⟨g, dd, hx, hv5, hgr⟩ | ⟨_, hbl⟩
            · refine own_kept (hv.alloc _) hgr fun g' hg' e => ?_
              cases e
              have hR := HRO2.out.1.alloc (.cells #[.slice Am m.length cm] 24)
              rw [hx] at hR
              obtain ⟨cs, hgc⟩ := row_blk hR rfl
              exact (hv.alloc (.cells #[.slice Am m.length cm] 24)).blk_ne hgc (by decide) hg'.symm
            · exact (hv.alloc _).below hbl
          have hbw : Below w.heap.size w w5 := by
            have h0 := HB3.out.trans (al.mono hsw)
            rcases H3.out with ⟨g, dd, hx, hv5, hgr⟩ | ⟨_, hbl⟩
            · refine h0.grown hgr (by simp; omega) fun q hq => ?_
              cases hq
              exact (HRO2.out.1.lt g (by rw [hx]; rfl)).1
            · exact h0.trans (hbl.mono (by simp; omega))
          refine ⟨⟨ps ++ [(.slice Am m.length cm, m, n)], k + n, f, by go_num, by omega, ⟨?_, fun p hp => ?_⟩, hbw, ?_, by omega, by simp; omega, Lib.hid ?_, Lib.hid m2⟩, by simp [intOf]; omega⟩
          · rw [List.map_append, List.length_append]
            exact h2
          · rcases List.mem_append.1 hp with hp | hp
            · exact hown _ _ _ (HRO2.out.2 p hp)
            · rw [List.mem_singleton.1 hp]
              exact hown _ _ _ (HO2.out.lower (by have := HB.out.size; omega))
          · rw [List.map_append, List.sum_append, HS.out]
            simp
          · rw [← m1]
            simp
        · clear ho2 FIT
          go_wp2
          have m1 := HM1.out
          have m2 := HM2.out
          rw [if_neg he0] at m1 m2
          obtain ⟨q1, q2⟩ := ret_sum m1
          refine bodyPost_ret (v := .tuple #[u5, .int .i64 k, .int .i64 er]) (by simp [results, Tryd.f28, go_sem]) rfl ⟨u5, ?_, ⟨ps, q1.symm, (HRO.out.below hB2)⟩, HB.out.trans (hB2.mono HB.out.size)⟩
          rw [q2, HS.out, ← HRE.out, ← m2]
          rw [if_neg he4]
end Go.Proofs.YtgkbfmbdpkkhnaaDoor.Hand
