-- Ytalbhdegkfdmpaa FnExactOwnOf fnExactOwnOf 4 : the row of a law whose argument is a club (types 25 laws.Club, 22 []int, 47 []laws.Loan, 46 laws.Loan); own work, turned from a laid row
import Derived.Test.YtalbhdegkfdmpaaRows
import Derived.Test.YtalbhdegkfdmpaaPFnExactOwnOfx7
import Derived.Test.YtalbhdegkfdmpaaOpen
import Derived.Test.YtalbhdegkfdmpaaPureFnExactOwnOf
import Derived.WalkKit
import Derived.ProofKit
import Derived.OpenShut
import Derived.ShutString
import Derived.ChangeOld
import Derived.Below
import Derived.SizedLaws
namespace Go.Proofs.Ytalbhdegkfdmpaa.fnExactOwnOf
open Go.ChangeShapes Go.WideShapes Go.ChangeAt Go.RowKit
open Go.ChangeMaps (open_string shut_string)
open Go.Proofs.YtalbhdegkfdmpaaW.PrintWords Go.Proofs.YtalbhdegkfdmpaaO
set_option linter.unusedVariables false
theorem own : ownKnob Try.prog.godebug = none := by kernel_rfl
theorem laidOut : laidOutB Try.prog = true := by kernel_rfl
theorem club_open (W : World) : KOpen Try.prog W (Kd.pair (Kd.slice 3 (Kd.int .i64)) (Kd.pair (Kd.slice 47 PFnExactOwnOf.k47) (Kd.pair (Kd.int .i64) (Kd.pair (Kd.int .i64) (Kd.int .i64))))) 25
    (fun v => (v.1.length ≤ maxLen ∧ ∀ x ∈ v.1, (Lit.int .i64 x).wf = true) ∧ (v.2.1.length ≤ maxLen ∧ ∀ x ∈ v.2.1, ((Lit.int .i64 x.f0).wf = true ∧ (Lit.int .i64 x.f1).wf = true ∧ (x.f2.length ≤ maxLen ∧ ∀ y ∈ x.f2, (Lit.int .i64 y).wf = true))) ∧ (Lit.int .i64 v.2.2.1).wf = true ∧ (Lit.int .i64 v.2.2.2.1).wf = true ∧ (Lit.int .i64 v.2.2.2.2).wf = true) := by
  have h3 : KOpen Try.prog W (Kd.int .i64) 3 (fun n => (Lit.int .i64 n).wf = true) := KOpen.int (by kernel_rfl)
  have h22 : KOpen Try.prog W (Kd.slice 3 (Kd.int .i64)) 22 _ := KOpen.slice Try.underlying22 (by kernel_rfl) h3
  have h46 : KOpen Try.prog W PFnExactOwnOf.k47 47 _ := KOpen.iso (fun v => (⟨v.1, v.2.1, v.2.2⟩ : PFnExactOwnOf.S47)) (fun _ => rfl) (KOpen.struct Try.underlying47 (by kernel_rfl) (FOpen.cons rfl (by kernel_rfl) h3 (FOpen.cons rfl (by kernel_rfl) h3 (FOpen.one rfl (by kernel_rfl) h22))))
  have h23 : KOpen Try.prog W (Kd.slice 47 PFnExactOwnOf.k47) 23 _ := KOpen.slice Try.underlying23 (by kernel_rfl) h46
  have h25 : KOpen Try.prog W (Kd.pair (Kd.slice 3 (Kd.int .i64)) (Kd.pair (Kd.slice 47 PFnExactOwnOf.k47) (Kd.pair (Kd.int .i64) (Kd.pair (Kd.int .i64) (Kd.int .i64))))) 25 _ := KOpen.struct Try.underlying25 (by kernel_rfl) (FOpen.cons rfl (by kernel_rfl) h22 (FOpen.cons rfl (by kernel_rfl) h23 (FOpen.cons rfl (by kernel_rfl) h3 (FOpen.cons rfl (by kernel_rfl) h3 (FOpen.one rfl (by kernel_rfl) h3)))))
  exact h25
set_option maxRecDepth 100000 in
theorem lifted (os : Os) (started : os.Started) (H : Type) (enc : TypeId × Value → H) :
    ReturnsInHanded {} Try.checked os 4 .any (Rows.fnExactOwnOfSpec.pre6 enc Try.prog Try.f4 Rows.fnExactOwnOfRow.domain false) (Rows.fnExactOwnOfSpec.post enc Try.prog Try.f4 false true false false) := by
  refine returnsInHanded_of_change_sized (C := Try.checked) own started (by kernel_rfl) Try.func4
    (ChangeSpec.witness6 (enc := enc) (C := Try.checked) false ⟨#[], #[.agg #[.slice none 0 0, .slice none 0 0, .int .i64 0, .int .i64 0, .int .i64 0]], []⟩ 8 (by kernel_rfl) (by kernel_rfl) (by kernel_rfl) (by kernel_rfl)) ?_
  intro W base args ds gs before hval0 hW hcnd hsz0 _
  have hval : ∀ (j : Nat) t v, Try.f4.params[j]? = some t → args[j]? = some v → Value.okWide Try.prog W .any base t v := hval0
  have hW' := hW
  obtain ⟨p, q, hA0, hV, rfl, hfz, hnd⟩ := hW
  have hA : DataW.TrodAll enc Try.prog W 0 (fun _ => true) true Try.f4.params.toList args.toList ds p := hA0
  rw [Try.params4] at hA hval
  obtain ⟨v0, vs0, d0, ds0, p0, q0, hargs, rfl, rfl, h0, r0⟩ := trodAll_cons hA
  obtain ⟨rfl, rfl, rfl⟩ := trodAll_nil r0
  obtain rfl : args = #[v0] := by cases args; simp_all
  obtain ⟨rfl, rfl⟩ := trodVars_none hV
  obtain ⟨cs, rfl, hcs⟩ := okWide_struct Try.underlying25 (hval 0 25 v0 rfl rfl)
  have k0 := h0
  have lt0 : ∀ x ∈ p0, x.block < W.heap.size := by obtain ⟨m, hm⟩ := k0; exact DataW.trod_lt m _ _ _ hm
  obtain ⟨fuel, hf⟩ := h0
  obtain ⟨v, hk, hq⟩ := (club_open W).go hf
  obtain ⟨⟨b0, -⟩, ⟨b1, b2⟩, -⟩ := hq
  obtain ⟨l0, l1, a2, a3, a4⟩ := v
  obtain ⟨c0, c1, e0, ⟨A0, n0, rfl, m0, g0⟩, ⟨c2, c3, rfl, ⟨A1, n1, rfl, m1, g1⟩, ⟨c4, c5, rfl, rfl, ⟨c6, c7, rfl, rfl, rfl⟩⟩⟩⟩ := hk
  have ecs : cs = #[.slice A0 l0.length n0, .slice A1 l1.length n1, .int .i64 a2, .int .i64 a3, .int .i64 a4] := by
    cases cs; simpa [Value.cells] using e0
  subst ecs
  refine (PFnExactOwnOf.laws_FnExactOwnOf.calls 4000000 A0 n0 l0 A1 n1 l1 a2 a3 a4 true W g0 m0 g1 m1 (Pure.FnExactOwnOf l0 l1 a2 a3 a4 b0 b1 (fun x hx => (b2 x hx).2.2.1))).mono fun e W' ⟨he, bel⟩ => ?_
  subst he
  exact ⟨_, rfl, _, _, _, [], _, [], hW', trodAll_mk1 (shut_bool Try.underlying4 _), (trodAll_cons_mk (Below.trod laidOut (by kernel_rfl) (of_decide_eq_true (by kernel_rfl)) k0 bel lt0) trodAll_mk0), rfl, bel.frame _, fun h => by cases h⟩
theorem over : Rows.fnExactOwnOfRow.holds Try.pinned (OpenSpec.ofChange Rows.fnExactOwnOfSpec) :=
  OpenClaim.holds_of_wide 4 Try.f4 rfl rfl rfl rfl rfl rfl rfl ⟨rfl, rfl, rfl, rfl, rfl⟩ rfl rfl rfl rfl rfl (by kernel_rfl) Try.func4 (by kernel_rfl)
    (of_decide_eq_true (by kernel_rfl)) (by unfold Func.isWrapper; first | (rw [if_pos (by decide +kernel)]; kernel_rfl) | (rw [if_neg (by decide +kernel)]; exact ⟨rfl, rfl⟩))
    (fun os started H enc _ => lifted os started H enc)
theorem proved : Rows.FnExactOwnOfSaid := over
end Go.Proofs.Ytalbhdegkfdmpaa.fnExactOwnOf
namespace Go.Proofs.Ytalbhdegkfdmpaa
/-- The row, under a short name, for the claim. -/
theorem fnExactOwnOf_holds : Rows.FnExactOwnOfSaid := fnExactOwnOf.proved
end Go.Proofs.Ytalbhdegkfdmpaa
