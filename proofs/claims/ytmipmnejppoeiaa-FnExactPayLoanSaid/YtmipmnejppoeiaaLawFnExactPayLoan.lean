-- The row of a law whose arguments are opened by kinds (rowgen.py): own work, turned from a laid row.
import Derived.Test.YtmipmnejppoeiaaRows
import Derived.Test.YtmipmnejppoeiaaPFnExactPayLoanx6
import Derived.Test.YtmipmnejppoeiaaOpen
import Derived.Test.YtmipmnejppoeiaaPureFnExactPayLoan
import Derived.WalkKit
import Derived.ProofKit
import Derived.OpenShut
import Derived.ShutString
import Derived.ChangeOld
import Derived.Below
import Derived.SizedLaws
namespace Go.Proofs.Ytmipmnejppoeiaa.fnExactPayLoan
open Go.ChangeShapes Go.WideShapes Go.ChangeAt Go.RowKit
open Go.ChangeMaps (open_string shut_string)
open Go.Proofs.YtmipmnejppoeiaaW.PrintWords Go.Proofs.YtmipmnejppoeiaaO
set_option linter.unusedVariables false
theorem own : ownKnob Try.prog.godebug = none := by kernel_rfl
theorem laidOut : laidOutB Try.prog = true := by kernel_rfl
theorem open0 (W : World) : KOpen Try.prog W (Kd.slice 68 PFnExactPayLoan.k68) 31 (fun v => (v.length ≤ maxLen ∧ ∀ x1 ∈ v, ((Lit.int .i64 x1.f0).wf = true ∧ (Lit.int .i64 x1.f1).wf = true ∧ (x1.f2.length ≤ maxLen ∧ ∀ x5 ∈ x1.f2, (Lit.int .i64 x5).wf = true)))) := (KOpen.slice Try.underlying31 (by kernel_rfl) (KOpen.iso (fun v => (⟨v.1, v.2.1, v.2.2⟩ : PFnExactPayLoan.S68)) (fun _ => rfl) (KOpen.struct Try.underlying68 (by kernel_rfl) (FOpen.cons rfl (by kernel_rfl) (KOpen.int (by kernel_rfl) : KOpen Try.prog W (Kd.int .i64) 3 _) (FOpen.cons rfl (by kernel_rfl) (KOpen.int (by kernel_rfl) : KOpen Try.prog W (Kd.int .i64) 3 _) (FOpen.one rfl (by kernel_rfl) (KOpen.slice Try.underlying33 (by kernel_rfl) (KOpen.int (by kernel_rfl) : KOpen Try.prog W (Kd.int .i64) 3 _) : KOpen Try.prog W (Kd.slice 3 (Kd.int .i64)) 33 _))))) : KOpen Try.prog W PFnExactPayLoan.k68 68 _) : KOpen Try.prog W (Kd.slice 68 PFnExactPayLoan.k68) 31 _)
set_option maxRecDepth 100000 in
theorem lifted (os : Os) (started : os.Started) (H : Type) (enc : TypeId × Value → H) :
    ReturnsInHanded {} Try.checked os 9 .any (Rows.fnExactPayLoanSpec.pre6 enc Try.prog Try.f9 Rows.fnExactPayLoanRow.domain false) (Rows.fnExactPayLoanSpec.post enc Try.prog Try.f9 false true false false) := by
  refine returnsInHanded_of_change_sized (C := Try.checked) own started (by kernel_rfl) Try.func9
    (ChangeSpec.witness6 (enc := enc) (C := Try.checked) false ⟨#[], #[.slice none 0 0, .int .i64 0, .int .i64 0, .int .i64 0], []⟩ 8 (by kernel_rfl) (by kernel_rfl) (by kernel_rfl) (by kernel_rfl)) ?_
  intro W base args ds gs before hval0 hW hcnd hsz0 _
  have hval : ∀ (j : Nat) t v, Try.f9.params[j]? = some t → args[j]? = some v → Value.okWide Try.prog W .any base t v := hval0
  have hW' := hW
  obtain ⟨p, q, hA0, hV, rfl, hfz, hnd⟩ := hW
  have hA : DataW.TrodAll enc Try.prog W 0 (fun _ => true) true Try.f9.params.toList args.toList ds p := hA0
  rw [Try.params9] at hA hval
  obtain ⟨v0, vs0, d0, ds0, p0, q0, hargs, rfl, rfl, h0, r0⟩ := trodAll_cons hA
  obtain ⟨v1, vs1, d1, ds1, p1, q1, rfl, rfl, rfl, h1, r1⟩ := trodAll_cons r0
  obtain ⟨v2, vs2, d2, ds2, p2, q2, rfl, rfl, rfl, h2, r2⟩ := trodAll_cons r1
  obtain ⟨v3, vs3, d3, ds3, p3, q3, rfl, rfl, rfl, h3, r3⟩ := trodAll_cons r2
  obtain ⟨rfl, rfl, rfl⟩ := trodAll_nil r3
  obtain rfl : args = #[v0, v1, v2, v3] := by cases args; simp_all
  obtain ⟨rfl, rfl⟩ := trodVars_none hV
  obtain ⟨aa0, len0, cap0, rfl⟩ := okWide_slice Try.underlying31 (hval 0 31 v0 rfl rfl)
  have k0 := h0
  have lt0 : ∀ x ∈ p0, x.block < W.heap.size := by obtain ⟨m, hm⟩ := k0; exact DataW.trod_lt m _ _ _ hm
  obtain ⟨fuel0, hf0⟩ := h0
  obtain ⟨l0, hk0, hq0⟩ := (open0 W).go hf0
  obtain ⟨A0, n0, e0, m0, g0⟩ := hk0
  obtain ⟨rfl, rfl, rfl⟩ : aa0 = A0 ∧ len0 = l0.length ∧ cap0 = n0 := by simpa [Value.cells] using e0
  obtain ⟨a1, rfl, rfl, rfl, w1⟩ := open_int Try.underlying3 (hval 1 3 v1 rfl rfl) h1
  obtain ⟨a2, rfl, rfl, rfl, w2⟩ := open_int Try.underlying3 (hval 2 3 v2 rfl rfl) h2
  obtain ⟨a3, rfl, rfl, rfl, w3⟩ := open_int Try.underlying3 (hval 3 3 v3 rfl rfl) h3
  refine (PFnExactPayLoan.laws_FnExactPayLoan.calls 4000000 aa0 cap0 l0 a1 a2 a3 true W g0 m0 (Pure.FnExactPayLoan l0 a1 a2 a3 hq0.1 hq0.2 w1 w2 w3)).mono fun e W' ⟨he, bel⟩ => ?_
  subst he
  exact ⟨_, rfl, _, _, _, [], _, [], hW', trodAll_mk1 (shut_bool Try.underlying4 _), (trodAll_cons_mk (Below.trod laidOut (by kernel_rfl) (of_decide_eq_true (by kernel_rfl)) k0 bel lt0) (trodAll_cons_mk (shut_int Try.underlying3 w1) (trodAll_cons_mk (shut_int Try.underlying3 w2) (trodAll_cons_mk (shut_int Try.underlying3 w3) trodAll_mk0)))), rfl, bel.frame _, fun h => by cases h⟩
theorem over : Rows.fnExactPayLoanRow.holds Try.pinned (OpenSpec.ofChange Rows.fnExactPayLoanSpec) :=
  OpenClaim.holds_of_wide 9 Try.f9 rfl rfl rfl rfl rfl rfl rfl ⟨rfl, rfl, rfl, rfl, rfl⟩ rfl rfl rfl rfl rfl (by kernel_rfl) Try.func9 (by kernel_rfl)
    (of_decide_eq_true (by kernel_rfl)) (by unfold Func.isWrapper; first | (rw [if_pos (by decide +kernel)]; kernel_rfl) | (rw [if_neg (by decide +kernel)]; exact ⟨rfl, rfl⟩))
    (fun os started H enc _ => lifted os started H enc)
theorem proved : Rows.FnExactPayLoanSaid := over
end Go.Proofs.Ytmipmnejppoeiaa.fnExactPayLoan
namespace Go.Proofs.Ytmipmnejppoeiaa
/-- The row, under a short name, for the claim. -/
theorem fnExactPayLoan_holds : Rows.FnExactPayLoanSaid := fnExactPayLoan.proved
end Go.Proofs.Ytmipmnejppoeiaa
