/- The statement HandlesSpoils: for every input the call returns true, and each argument reads behind the call as it read before. It joins the walk (WalkHandlesSpoils) to the statement's own form. -/
import Derived.Test.YtffikncbpcnflaaRows
import Derived.Test.YtffikncbpcnflaaWalkHandlesSpoils
import Derived.Test.YtffikncbpcnflaaArg
import Derived.Test.YtffikncbpcnflaaArgArr
import Derived.WalkKit
import Derived.ProofKit
import Derived.OpenShut
import Derived.ShutString
import Derived.ChangeOld
import Derived.Below
import Derived.SizedLaws
import Derived.Carry
import Derived.Lib.SmallJoins
namespace Go.Proofs.Ytffikncbpcnflaa.handlesSpoils
open Go.ChangeShapes Go.WideShapes Go.ChangeAt Go.RowKit Go.Proofs.Ytffikncbpcnflaa.Hand
set_option linter.unusedVariables false
set_option linter.unusedSimpArgs false
open Go.Joins
theorem own : ownKnob Try.prog.godebug = none := by kernel_rfl
set_option maxRecDepth 100000 in
theorem lifted (os : Os) (started : os.Started) (H : Type) (enc : TypeId × Value → H) :
    ReturnsInHanded {} Try.checked os 5 .any (Rows.handlesSpoilsSpec.pre6 enc Try.prog Try.f5 Rows.handlesSpoilsRow.domain false) (Rows.handlesSpoilsSpec.post enc Try.prog Try.f5 false true false false) := by
  refine returnsInHanded_of_change_sized (C := Try.checked) own started (by kernel_rfl) Try.func5
    (ChangeSpec.witness6 (enc := enc) (C := Try.checked) false ⟨#[], #[.int .u16 0, .int .u32 0, .agg #[.int .u8 0, .int .u8 0, .int .u8 0, .int .u8 0, .int .u8 0]], []⟩ 8 (by kernel_rfl) (by kernel_rfl) (by kernel_rfl) (by kernel_rfl)) ?_
  intro W base args ds gs before hval0 hW hcnd hsz0 _
  have hsz : (DataW.weightsEach Try.prog (Try.f5.params.toList ++ Rows.handlesSpoilsSpec.plain.varTypes Try.prog) (ds ++ gs)).all (· ≤ reachBytes) = true := hsz0
  have hval : ∀ (j : Nat) t v, Try.f5.params[j]? = some t → args[j]? = some v → Value.okWide Try.prog W .any base t v := hval0
  have hW' := hW
  obtain ⟨p, q, hA0, hV, rfl, hfz, hnd⟩ := hW
  have hA : DataW.TrodAll enc Try.prog W 0 (fun _ => true) true Try.f5.params.toList args.toList ds p := hA0
  rw [Try.params5] at hA hval hsz
  obtain ⟨v0, vs0, d0, ds0, p0, q0, hargs, rfl, rfl, h0, r0⟩ := trodAll_cons hA
  obtain ⟨v1, vs1, d1, ds1, p1, q1, rfl, rfl, rfl, h1, r1⟩ := trodAll_cons r0
  obtain ⟨v2, vs2, d2, ds2, p2, q2, rfl, rfl, rfl, h2, r2⟩ := trodAll_cons r1
  obtain ⟨rfl, rfl, rfl⟩ := trodAll_nil r2
  obtain rfl : args = #[v0, v1, v2] := by cases args; simp_all
  obtain ⟨rfl, rfl⟩ := trodVars_none hV
  obtain ⟨a0, rfl, rfl, rfl, w0⟩ := open_int Try.underlying33 (hval 0 33 v0 rfl rfl) h0
  obtain ⟨a1, rfl, rfl, rfl, w1⟩ := open_int Try.underlying25 (hval 1 25 v1 rfl rfl) h1
  have kk2 := h2
  have lt2 : ∀ x ∈ p2, x.block < W.heap.size := by obtain ⟨m, hm⟩ := kk2; exact DataW.trod_lt m _ _ _ hm
  obtain ⟨x2_0, x2_1, x2_2, x2_3, x2_4, y2_0, y2_1, y2_2, y2_3, y2_4, m2, rfl, rfl, rfl, z2_0, z2_1, z2_2, z2_3, z2_4⟩ := open_arr5 Try.underlying38 (show Try.prog.cellsOf 5 = 1 from by kernel_rfl) (show Try.prog.cellsOf 38 = 5 from by kernel_rfl) (hval 2 38 v2 rfl rfl) h2
  obtain ⟨a2_0, f2_0, e2_0, w2_0⟩ := DataW.trod_int Try.underlying5 z2_0
  simp only [List.cons.injEq, and_true] at f2_0
  subst f2_0
  obtain ⟨a2_1, f2_1, e2_1, w2_1⟩ := DataW.trod_int Try.underlying5 z2_1
  simp only [List.cons.injEq, and_true] at f2_1
  subst f2_1
  obtain ⟨a2_2, f2_2, e2_2, w2_2⟩ := DataW.trod_int Try.underlying5 z2_2
  simp only [List.cons.injEq, and_true] at f2_2
  subst f2_2
  obtain ⟨a2_3, f2_3, e2_3, w2_3⟩ := DataW.trod_int Try.underlying5 z2_3
  simp only [List.cons.injEq, and_true] at f2_3
  subst f2_3
  obtain ⟨a2_4, f2_4, e2_4, w2_4⟩ := DataW.trod_int Try.underlying5 z2_4
  simp only [List.cons.injEq, and_true] at f2_4
  subst f2_4
  clear hA0 hval0 hsz0 hsz
  refine (HandlesSpoils_walk a0 a1 a2_0 a2_1 a2_2 a2_3 a2_4 W (wf_u16 w0).1 (wf_u16 w0).2 (wf_u32 w1).1 (wf_u32 w1).2 (wf_u8 w2_0).1 (wf_u8 w2_0).2 (wf_u8 w2_1).1 (wf_u8 w2_1).2 (wf_u8 w2_2).1 (wf_u8 w2_2).2 (wf_u8 w2_3).1 (wf_u8 w2_3).2 (wf_u8 w2_4).1 (wf_u8 w2_4).2).mono fun e W' ⟨he, bel⟩ => ?_
  subst he
  exact ⟨_, rfl, _, _, _, [], _, [], hW', trodAll_mk1 (shut_bool Try.underlying4 _), (trodAll_cons_mk (shut_int Try.underlying33 w0) (trodAll_cons_mk (shut_int Try.underlying25 w1) (trodAll_cons_mk (Below.trod laidOut (by kernel_rfl) (of_decide_eq_true (by kernel_rfl)) kk2 bel lt2) trodAll_mk0))), rfl, bel.frame _, fun h => by cases h⟩
theorem over : Rows.handlesSpoilsRow.holds Try.pinned (OpenSpec.ofChange Rows.handlesSpoilsSpec) :=
  OpenClaim.holds_of_wide 5 Try.f5 rfl rfl rfl rfl rfl rfl rfl ⟨rfl, rfl, rfl, rfl, rfl⟩ rfl rfl rfl rfl rfl (by kernel_rfl) Try.func5 (by kernel_rfl)
    (of_decide_eq_true (by kernel_rfl)) (by unfold Func.isWrapper; first | (rw [if_pos (by decide +kernel)]; kernel_rfl) | (rw [if_neg (by decide +kernel)]; exact ⟨rfl, rfl⟩))
    (fun os started H enc _ => lifted os started H enc)
theorem proved : Rows.HandlesSpoilsSaid := over
end Go.Proofs.Ytffikncbpcnflaa.handlesSpoils
namespace Go.Proofs.Ytffikncbpcnflaa
/-- The statement, under a short name, for the claim. -/
theorem handlesSpoils_holds : Rows.HandlesSpoilsSaid := handlesSpoils.proved
#print axioms handlesSpoils_holds
end Go.Proofs.Ytffikncbpcnflaa
