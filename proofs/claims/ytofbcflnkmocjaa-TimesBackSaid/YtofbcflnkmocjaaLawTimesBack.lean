/- The statement TimesBack: for every input the call returns true, and each argument reads behind the call as it read before. It joins the walk (WalkTimesBack) to the statement's own form. -/
import Derived.Test.YtofbcflnkmocjaaRows
import Derived.Test.YtofbcflnkmocjaaWalkTimesBack
import Derived.Test.YtofbcflnkmocjaaArg
import Derived.WalkKit
import Derived.ProofKit
import Derived.OpenShut
import Derived.ShutString
import Derived.ChangeOld
import Derived.Below
import Derived.SizedLaws
import Derived.Carry
import Derived.Lib.SmallJoins
namespace Go.Proofs.Ytofbcflnkmocjaa.timesBack
open Go.ChangeShapes Go.WideShapes Go.ChangeAt Go.RowKit Go.Proofs.Ytofbcflnkmocjaa.Hand
set_option linter.unusedVariables false
set_option linter.unusedSimpArgs false
open Go.Joins
theorem own : ownKnob Try.prog.godebug = none := by kernel_rfl
set_option maxRecDepth 100000 in
theorem lifted (os : Os) (started : os.Started) (H : Type) (enc : TypeId × Value → H) :
    ReturnsInHanded {} Try.checked os 5 .any (Rows.timesBackSpec.pre6 enc Try.prog Try.f5 Rows.timesBackRow.domain false) (Rows.timesBackSpec.post enc Try.prog Try.f5 false true false false) := by
  refine returnsInHanded_of_change_sized (C := Try.checked) own started (by kernel_rfl) Try.func5
    (ChangeSpec.witness6 (enc := enc) (C := Try.checked) false ⟨#[], #[.agg #[.int .u32 0, .int .u32 0], .slice none 0 0, .int .u8 0], []⟩ 8 (by kernel_rfl) (by kernel_rfl) (by kernel_rfl) (by kernel_rfl)) ?_
  intro W base args ds gs before hval0 hW hcnd hsz0 _
  have hsz : (DataW.weightsEach Try.prog (Try.f5.params.toList ++ Rows.timesBackSpec.plain.varTypes Try.prog) (ds ++ gs)).all (· ≤ reachBytes) = true := hsz0
  have hval : ∀ (j : Nat) t v, Try.f5.params[j]? = some t → args[j]? = some v → Value.okWide Try.prog W .any base t v := hval0
  have hW' := hW
  obtain ⟨p, q, hA0, hV, rfl, hfz, hnd⟩ := hW
  have hA : DataW.TrodAll enc Try.prog W 0 (fun _ => true) true Try.f5.params.toList args.toList ds p := hA0
  rw [Try.params5] at hA hval hsz
  obtain ⟨v0, vs0, d0, ds0, p0, q0, hargs, rfl, rfl, h0, r0⟩ := trodAll_cons hA
  obtain ⟨v1, vs1, d1, ds1, p1, q1, rfl, rfl, rfl, h1, r1⟩ := trodAll_cons r0
  obtain ⟨v2, vs2, d2, ds2, p2, q2, rfl, rfl, rfl, h2, r2⟩ := trodAll_cons r1
  obtain ⟨rfl, rfl, rfl⟩ := trodAll_nil r2
  obtain rfl : args = #[v0, v1, v2] := by cases args; simp_all
  obtain ⟨rfl, rfl⟩ := trodVars_none hV
  have kk0 := h0
  have lt0 : ∀ x ∈ p0, x.block < W.heap.size := by obtain ⟨m, hm⟩ := kk0; exact DataW.trod_lt m _ _ _ hm
  obtain ⟨x0_0, x0_1, y0_0, y0_1, m0, rfl, rfl, rfl, z0_0, z0_1⟩ := open_agg2 Try.underlying24 (by kernel_rfl) (show Try.prog.cellsOf 24 = 2 from by kernel_rfl) (hval 0 24 v0 rfl rfl) h0
  obtain ⟨a0_0, f0_0, e0_0, w0_0⟩ := DataW.trod_int Try.underlying22 z0_0
  simp only [List.cons.injEq, and_true] at f0_0
  subst f0_0
  obtain ⟨a0_1, f0_1, e0_1, w0_1⟩ := DataW.trod_int Try.underlying22 z0_1
  simp only [List.cons.injEq, and_true] at f0_1
  subst f0_1
  obtain ⟨A1, c1, l1, rfl, b1, e1, _⟩ := open_bytes (hval 1 32 v1 rfl rfl) h1
  have lt1 : ∀ x ∈ p1, x.block < W.heap.size := by obtain ⟨m, hm⟩ := h1; exact DataW.trod_lt m _ _ _ hm
  have y1 : l1.length ≤ 140737488351232 := sized_bytes hsz (j := 1) rfl rfl h1
  obtain ⟨a2, rfl, rfl, rfl, w2⟩ := open_int Try.underlying5 (hval 2 5 v2 rfl rfl) h2
  clear hA0 hval0 hsz0 hsz
  refine (TimesBack_walk a0_0 a0_1 A1 c1 l1 a2 W (wf_u32 w0_0).1 (wf_u32 w0_0).2 (wf_u32 w0_1).1 (wf_u32 w0_1).2 b1 e1 y1 (wf_u8 w2).1 (wf_u8 w2).2).mono fun e W' ⟨he, bel⟩ => ?_
  subst he
  exact ⟨_, rfl, _, _, _, [], _, [], hW', trodAll_mk1 (shut_bool Try.underlying4 _), (trodAll_cons_mk (Below.trod laidOut (by kernel_rfl) (of_decide_eq_true (by kernel_rfl)) kk0 bel lt0) (trodAll_cons_mk (Below.trod laidOut (by kernel_rfl) (of_decide_eq_true (by kernel_rfl)) h1 bel lt1) (trodAll_cons_mk (shut_int Try.underlying5 w2) trodAll_mk0))), rfl, bel.frame _, fun h => by cases h⟩
theorem over : Rows.timesBackRow.holds Try.pinned (OpenSpec.ofChange Rows.timesBackSpec) :=
  OpenClaim.holds_of_wide 5 Try.f5 rfl rfl rfl rfl rfl rfl rfl ⟨rfl, rfl, rfl, rfl, rfl⟩ rfl rfl rfl rfl rfl (by kernel_rfl) Try.func5 (by kernel_rfl)
    (of_decide_eq_true (by kernel_rfl)) (by unfold Func.isWrapper; first | (rw [if_pos (by decide +kernel)]; kernel_rfl) | (rw [if_neg (by decide +kernel)]; exact ⟨rfl, rfl⟩))
    (fun os started H enc _ => lifted os started H enc)
theorem proved : Rows.TimesBackSaid := over
end Go.Proofs.Ytofbcflnkmocjaa.timesBack
namespace Go.Proofs.Ytofbcflnkmocjaa
/-- The statement, under a short name, for the claim. -/
theorem timesBack_holds : Rows.TimesBackSaid := timesBack.proved
#print axioms timesBack_holds
end Go.Proofs.Ytofbcflnkmocjaa
