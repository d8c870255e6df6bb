/- The statement MarksBack: for every input the call returns true, and each argument reads behind the call as it read before. It joins the walk (WalkMarksBack) to the statement's own form. -/
import Derived.Test.YtjmganppgojdhaaRows
import Derived.Test.YtjmganppgojdhaaWalkMarksBack
import Derived.Test.YtjmganppgojdhaaArg
import Derived.Test.YtjmganppgojdhaaArgArr
import Derived.WalkKit
import Derived.ProofKit
import Derived.OpenShut
import Derived.ShutString
import Derived.ChangeOld
import Derived.Below
import Derived.SizedLaws
import Derived.Carry
import Derived.Lib.SmallJoins
namespace Go.Proofs.Ytjmganppgojdhaa.marksBack
open Go.ChangeShapes Go.WideShapes Go.ChangeAt Go.RowKit Go.Proofs.Ytjmganppgojdhaa.Hand
set_option linter.unusedVariables false
set_option linter.unusedSimpArgs false
open Go.Joins
theorem own : ownKnob Try.prog.godebug = none := by kernel_rfl
set_option maxRecDepth 100000 in
theorem lifted (os : Os) (started : os.Started) (H : Type) (enc : TypeId × Value → H) :
    ReturnsInHanded {} Try.checked os 4 .any (Rows.marksBackSpec.pre6 enc Try.prog Try.f4 Rows.marksBackRow.domain false) (Rows.marksBackSpec.post enc Try.prog Try.f4 false true false false) := by
  refine returnsInHanded_of_change_sized (C := Try.checked) own started (by kernel_rfl) Try.func4
    (ChangeSpec.witness6 (enc := enc) (C := Try.checked) false ⟨#[], #[.slice none 0 0, .agg #[.int .u16 0, .int .u16 0], .slice none 0 0], []⟩ 8 (by kernel_rfl) (by kernel_rfl) (by kernel_rfl) (by kernel_rfl)) ?_
  intro W base args ds gs before hval0 hW hcnd hsz0 _
  have hsz : (DataW.weightsEach Try.prog (Try.f4.params.toList ++ Rows.marksBackSpec.plain.varTypes Try.prog) (ds ++ gs)).all (· ≤ reachBytes) = true := hsz0
  have hval : ∀ (j : Nat) t v, Try.f4.params[j]? = some t → args[j]? = some v → Value.okWide Try.prog W .any base t v := hval0
  have hW' := hW
  obtain ⟨p, q, hA0, hV, rfl, hfz, hnd⟩ := hW
  have hA : DataW.TrodAll enc Try.prog W 0 (fun _ => true) true Try.f4.params.toList args.toList ds p := hA0
  rw [Try.params4] at hA hval hsz
  obtain ⟨v0, vs0, d0, ds0, p0, q0, hargs, rfl, rfl, h0, r0⟩ := trodAll_cons hA
  obtain ⟨v1, vs1, d1, ds1, p1, q1, rfl, rfl, rfl, h1, r1⟩ := trodAll_cons r0
  obtain ⟨v2, vs2, d2, ds2, p2, q2, rfl, rfl, rfl, h2, r2⟩ := trodAll_cons r1
  obtain ⟨rfl, rfl, rfl⟩ := trodAll_nil r2
  obtain rfl : args = #[v0, v1, v2] := by cases args; simp_all
  obtain ⟨rfl, rfl⟩ := trodVars_none hV
  obtain ⟨A0, c0, l0, rfl, b0, e0, _⟩ := open_bytes (hval 0 22 v0 rfl rfl) h0
  have lt0 : ∀ x ∈ p0, x.block < W.heap.size := by obtain ⟨m, hm⟩ := h0; exact DataW.trod_lt m _ _ _ hm
  have y0 : l0.length ≤ 140737488351232 := sized_bytes hsz (j := 0) rfl rfl h0
  have kk1 := h1
  have lt1 : ∀ x ∈ p1, x.block < W.heap.size := by obtain ⟨m, hm⟩ := kk1; exact DataW.trod_lt m _ _ _ hm
  obtain ⟨x1_0, x1_1, y1_0, y1_1, m1, rfl, rfl, rfl, z1_0, z1_1⟩ := open_arr2 Try.underlying35 (show Try.prog.cellsOf 34 = 1 from by kernel_rfl) (show Try.prog.cellsOf 35 = 2 from by kernel_rfl) (hval 1 35 v1 rfl rfl) h1
  obtain ⟨a1_0, f1_0, e1_0, w1_0⟩ := DataW.trod_int Try.underlying34 z1_0
  simp only [List.cons.injEq, and_true] at f1_0
  subst f1_0
  obtain ⟨a1_1, f1_1, e1_1, w1_1⟩ := DataW.trod_int Try.underlying34 z1_1
  simp only [List.cons.injEq, and_true] at f1_1
  subst f1_1
  obtain ⟨A2, c2, l2, rfl, b2, e2, _⟩ := open_bytes (hval 2 22 v2 rfl rfl) h2
  have lt2 : ∀ x ∈ p2, x.block < W.heap.size := by obtain ⟨m, hm⟩ := h2; exact DataW.trod_lt m _ _ _ hm
  have y2 : l2.length ≤ 140737488351232 := sized_bytes hsz (j := 2) rfl rfl h2
  clear hA0 hval0 hsz0 hsz
  refine (MarksBack_walk A0 c0 l0 a1_0 a1_1 A2 c2 l2 W b0 e0 y0 (wf_u16 w1_0).1 (wf_u16 w1_0).2 (wf_u16 w1_1).1 (wf_u16 w1_1).2 b2 e2 y2).mono fun e W' ⟨he, bel⟩ => ?_
  subst he
  exact ⟨_, rfl, _, _, _, [], _, [], hW', trodAll_mk1 (shut_bool Try.underlying4 _), (trodAll_cons_mk (Below.trod laidOut (by kernel_rfl) (of_decide_eq_true (by kernel_rfl)) h0 bel lt0) (trodAll_cons_mk (Below.trod laidOut (by kernel_rfl) (of_decide_eq_true (by kernel_rfl)) kk1 bel lt1) (trodAll_cons_mk (Below.trod laidOut (by kernel_rfl) (of_decide_eq_true (by kernel_rfl)) h2 bel lt2) trodAll_mk0))), rfl, bel.frame _, fun h => by cases h⟩
theorem over : Rows.marksBackRow.holds Try.pinned (OpenSpec.ofChange Rows.marksBackSpec) :=
  OpenClaim.holds_of_wide 4 Try.f4 rfl rfl rfl rfl rfl rfl rfl ⟨rfl, rfl, rfl, rfl, rfl⟩ rfl rfl rfl rfl rfl (by kernel_rfl) Try.func4 (by kernel_rfl)
    (of_decide_eq_true (by kernel_rfl)) (by unfold Func.isWrapper; first | (rw [if_pos (by decide +kernel)]; kernel_rfl) | (rw [if_neg (by decide +kernel)]; exact ⟨rfl, rfl⟩))
    (fun os started H enc _ => lifted os started H enc)
theorem proved : Rows.MarksBackSaid := over
end Go.Proofs.Ytjmganppgojdhaa.marksBack
namespace Go.Proofs.Ytjmganppgojdhaa
/-- The statement, under a short name, for the claim. -/
theorem marksBack_holds : Rows.MarksBackSaid := marksBack.proved
#print axioms marksBack_holds
end Go.Proofs.Ytjmganppgojdhaa
