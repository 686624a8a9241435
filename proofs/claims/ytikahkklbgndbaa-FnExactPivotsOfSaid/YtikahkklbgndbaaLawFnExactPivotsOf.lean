-- The row of a law whose arguments are opened by kinds (rowgen.py): own work, turned from a laid row.
import Derived.Test.YtikahkklbgndbaaRows
import Derived.Test.YtikahkklbgndbaaPFnExactPivotsOfx7
import Derived.Test.YtikahkklbgndbaaOpen
import Derived.Test.YtikahkklbgndbaaPureFnExactPivotsOf
import Derived.WalkKit
import Derived.ProofKit
import Derived.OpenShut
import Derived.ShutString
import Derived.ChangeOld
import Derived.Below
import Derived.SizedLaws
namespace Go.Proofs.Ytikahkklbgndbaa.fnExactPivotsOf
open Go.ChangeShapes Go.WideShapes Go.ChangeAt Go.RowKit
open Go.ChangeMaps (open_string shut_string)
open Go.Proofs.YtikahkklbgndbaaW.PrintWords Go.Proofs.YtikahkklbgndbaaO
set_option linter.unusedVariables false
theorem own : ownKnob Try.prog.godebug = none := by kernel_rfl
theorem laidOut : laidOutB Try.prog = true := by kernel_rfl
theorem open0 (W : World) : KOpen Try.prog W (Kd.pair (Kd.slice 3 (Kd.int .i64)) (Kd.int .i64)) 24 (fun v => ((v.1.length ≤ maxLen ∧ ∀ x3 ∈ v.1, (Lit.int .i64 x3).wf = true) ∧ (Lit.int .i64 v.2).wf = true)) := ((KOpen.struct Try.underlying24 (by kernel_rfl) (FOpen.cons rfl (by kernel_rfl) (KOpen.slice Try.underlying22 (by kernel_rfl) (KOpen.int (by kernel_rfl) : KOpen Try.prog W (Kd.int .i64) 3 _) : KOpen Try.prog W (Kd.slice 3 (Kd.int .i64)) 22 _) (FOpen.one rfl (by kernel_rfl) (KOpen.int (by kernel_rfl) : KOpen Try.prog W (Kd.int .i64) 3 _)))) : KOpen Try.prog W (Kd.pair (Kd.slice 3 (Kd.int .i64)) (Kd.int .i64)) 24 _)
set_option maxRecDepth 100000 in
theorem lifted (os : Os) (started : os.Started) (H : Type) (enc : TypeId × Value → H) :
    ReturnsInHanded {} Try.checked os 3 .any (Rows.fnExactPivotsOfSpec.pre6 enc Try.prog Try.f3 Rows.fnExactPivotsOfRow.domain false) (Rows.fnExactPivotsOfSpec.post enc Try.prog Try.f3 false true false false) := by
  refine returnsInHanded_of_change_sized (C := Try.checked) own started (by kernel_rfl) Try.func3
    (ChangeSpec.witness6 (enc := enc) (C := Try.checked) false ⟨#[], #[.agg #[.slice none 0 0, .int .i64 0]], []⟩ 8 (by kernel_rfl) (by kernel_rfl) (by kernel_rfl) (by kernel_rfl)) ?_
  intro W base args ds gs before hval0 hW hcnd hsz0 _
  have hval : ∀ (j : Nat) t v, Try.f3.params[j]? = some t → args[j]? = some v → Value.okWide Try.prog W .any base t v := hval0
  have hW' := hW
  obtain ⟨p, q, hA0, hV, rfl, hfz, hnd⟩ := hW
  have hA : DataW.TrodAll enc Try.prog W 0 (fun _ => true) true Try.f3.params.toList args.toList ds p := hA0
  rw [Try.params3] at hA hval
  obtain ⟨v0, vs0, d0, ds0, p0, q0, hargs, rfl, rfl, h0, r0⟩ := trodAll_cons hA
  obtain ⟨rfl, rfl, rfl⟩ := trodAll_nil r0
  obtain rfl : args = #[v0] := by cases args; simp_all
  obtain ⟨rfl, rfl⟩ := trodVars_none hV
  obtain ⟨cs0, rfl, hcs0⟩ := okWide_struct Try.underlying24 (hval 0 24 v0 rfl rfl)
  have k0 := h0
  have lt0 : ∀ x ∈ p0, x.block < W.heap.size := by obtain ⟨m, hm⟩ := k0; exact DataW.trod_lt m _ _ _ hm
  obtain ⟨fuel0, hf0⟩ := h0
  obtain ⟨v0, hk0, hq0⟩ := (open0 W).go hf0
  obtain ⟨l0_0, a0_1⟩ := v0
  obtain ⟨c0_0, d0_0, e0, ⟨A0_0, n0_0, rfl, m0_0, g0_0⟩, rfl⟩ := hk0
  have ecs0 : cs0 = #[.slice A0_0 l0_0.length n0_0, .int .i64 a0_1] := by cases cs0; simpa [Value.cells] using e0
  subst ecs0
  refine (PFnExactPivotsOf.laws_FnExactPivotsOf.calls 4000000 A0_0 n0_0 l0_0 a0_1 true W g0_0 m0_0 (Pure.FnExactPivotsOf l0_0 a0_1 hq0.1.1 hq0.1.2 hq0.2)).mono fun e W' ⟨he, bel⟩ => ?_
  subst he
  exact ⟨_, rfl, _, _, _, [], _, [], hW', trodAll_mk1 (shut_bool Try.underlying4 _), (trodAll_cons_mk (Below.trod laidOut (by kernel_rfl) (of_decide_eq_true (by kernel_rfl)) k0 bel lt0) trodAll_mk0), rfl, bel.frame _, fun h => by cases h⟩
theorem over : Rows.fnExactPivotsOfRow.holds Try.pinned (OpenSpec.ofChange Rows.fnExactPivotsOfSpec) :=
  OpenClaim.holds_of_wide 3 Try.f3 rfl rfl rfl rfl rfl rfl rfl ⟨rfl, rfl, rfl, rfl, rfl⟩ rfl rfl rfl rfl rfl (by kernel_rfl) Try.func3 (by kernel_rfl)
    (of_decide_eq_true (by kernel_rfl)) (by unfold Func.isWrapper; first | (rw [if_pos (by decide +kernel)]; kernel_rfl) | (rw [if_neg (by decide +kernel)]; exact ⟨rfl, rfl⟩))
    (fun os started H enc _ => lifted os started H enc)
theorem proved : Rows.FnExactPivotsOfSaid := over
end Go.Proofs.Ytikahkklbgndbaa.fnExactPivotsOf
namespace Go.Proofs.Ytikahkklbgndbaa
/-- The row, under a short name, for the claim. -/
theorem fnExactPivotsOf_holds : Rows.FnExactPivotsOfSaid := fnExactPivotsOf.proved
end Go.Proofs.Ytikahkklbgndbaa
