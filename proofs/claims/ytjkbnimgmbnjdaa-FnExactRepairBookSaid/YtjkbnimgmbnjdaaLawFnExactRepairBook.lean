-- The row of a law whose arguments are opened by kinds (rowgen.py): own work, turned from a laid row.
import Derived.Test.YtjkbnimgmbnjdaaRows
import Derived.Test.YtjkbnimgmbnjdaaPFnExactRepairBookx8
import Derived.Test.YtjkbnimgmbnjdaaOpen
import Derived.Test.YtjkbnimgmbnjdaaPureFnExactRepairBook
import Derived.WalkKit
import Derived.ProofKit
import Derived.OpenShut
import Derived.ShutString
import Derived.ChangeOld
import Derived.Below
import Derived.SizedLaws
namespace Go.Proofs.Ytjkbnimgmbnjdaa.fnExactRepairBook
open Go.ChangeShapes Go.WideShapes Go.ChangeAt Go.RowKit
open Go.ChangeMaps (open_string shut_string)
open Go.Proofs.YtjkbnimgmbnjdaaW.PrintWords Go.Proofs.YtjkbnimgmbnjdaaO
set_option linter.unusedVariables false
theorem own : ownKnob Try.prog.godebug = none := by kernel_rfl
theorem laidOut : laidOutB Try.prog = true := by kernel_rfl
theorem open0 (W : World) : KOpen Try.prog W (Kd.slice 53 PFnExactRepairBook.k53) 32 (fun v => (v.length ≤ maxLen ∧ ∀ x1 ∈ v, ((Lit.int .i64 x1.f0).wf = true ∧ (Lit.int .i64 x1.f1).wf = true ∧ (Lit.int .i64 x1.f2).wf = true ∧ (Lit.int .i64 x1.f3).wf = true))) := (KOpen.slice Try.underlying32 (by kernel_rfl) (KOpen.iso (fun v => (⟨v.1, v.2.1, v.2.2.1, v.2.2.2⟩ : PFnExactRepairBook.S53)) (fun _ => rfl) (KOpen.struct Try.underlying53 (by kernel_rfl) (FOpen.cons rfl (by kernel_rfl) (KOpen.int (by kernel_rfl) : KOpen Try.prog W (Kd.int .i64) 3 _) (FOpen.cons rfl (by kernel_rfl) (KOpen.int (by kernel_rfl) : KOpen Try.prog W (Kd.int .i64) 3 _) (FOpen.cons rfl (by kernel_rfl) (KOpen.int (by kernel_rfl) : KOpen Try.prog W (Kd.int .i64) 3 _) (FOpen.one rfl (by kernel_rfl) (KOpen.int (by kernel_rfl) : KOpen Try.prog W (Kd.int .i64) 3 _)))))) : KOpen Try.prog W PFnExactRepairBook.k53 53 _) : KOpen Try.prog W (Kd.slice 53 PFnExactRepairBook.k53) 32 _)
theorem open1 (W : World) : KOpen Try.prog W (Kd.slice 58 PFnExactRepairBook.k58) 33 (fun v => (v.length ≤ maxLen ∧ ∀ x1 ∈ v, ((Lit.int .i64 x1.f0).wf = true ∧ ((Lit.int .i64 x1.f1.f0).wf = true ∧ (Lit.int .i64 x1.f1.f1).wf = true ∧ (Lit.int .i64 x1.f1.f2).wf = true ∧ (Lit.int .i64 x1.f1.f3).wf = true) ∧ ((Lit.int .i64 x1.f2.f0).wf = true ∧ (Lit.int .i64 x1.f2.f1).wf = true ∧ (Lit.int .i64 x1.f2.f2).wf = true ∧ (Lit.int .i64 x1.f2.f3).wf = true)))) := (KOpen.slice Try.underlying33 (by kernel_rfl) (KOpen.iso (fun v => (⟨v.1, v.2.1, v.2.2⟩ : PFnExactRepairBook.S58)) (fun _ => rfl) (KOpen.struct Try.underlying58 (by kernel_rfl) (FOpen.cons rfl (by kernel_rfl) (KOpen.int (by kernel_rfl) : KOpen Try.prog W (Kd.int .i64) 3 _) (FOpen.cons rfl (by kernel_rfl) (KOpen.iso (fun v => (⟨v.1, v.2.1, v.2.2.1, v.2.2.2⟩ : PFnExactRepairBook.S53)) (fun _ => rfl) (KOpen.struct Try.underlying53 (by kernel_rfl) (FOpen.cons rfl (by kernel_rfl) (KOpen.int (by kernel_rfl) : KOpen Try.prog W (Kd.int .i64) 3 _) (FOpen.cons rfl (by kernel_rfl) (KOpen.int (by kernel_rfl) : KOpen Try.prog W (Kd.int .i64) 3 _) (FOpen.cons rfl (by kernel_rfl) (KOpen.int (by kernel_rfl) : KOpen Try.prog W (Kd.int .i64) 3 _) (FOpen.one rfl (by kernel_rfl) (KOpen.int (by kernel_rfl) : KOpen Try.prog W (Kd.int .i64) 3 _)))))) : KOpen Try.prog W PFnExactRepairBook.k53 53 _) (FOpen.one rfl (by kernel_rfl) (KOpen.iso (fun v => (⟨v.1, v.2.1, v.2.2.1, v.2.2.2⟩ : PFnExactRepairBook.S53)) (fun _ => rfl) (KOpen.struct Try.underlying53 (by kernel_rfl) (FOpen.cons rfl (by kernel_rfl) (KOpen.int (by kernel_rfl) : KOpen Try.prog W (Kd.int .i64) 3 _) (FOpen.cons rfl (by kernel_rfl) (KOpen.int (by kernel_rfl) : KOpen Try.prog W (Kd.int .i64) 3 _) (FOpen.cons rfl (by kernel_rfl) (KOpen.int (by kernel_rfl) : KOpen Try.prog W (Kd.int .i64) 3 _) (FOpen.one rfl (by kernel_rfl) (KOpen.int (by kernel_rfl) : KOpen Try.prog W (Kd.int .i64) 3 _)))))) : KOpen Try.prog W PFnExactRepairBook.k53 53 _))))) : KOpen Try.prog W PFnExactRepairBook.k58 58 _) : KOpen Try.prog W (Kd.slice 58 PFnExactRepairBook.k58) 33 _)
set_option maxRecDepth 100000 in
theorem lifted (os : Os) (started : os.Started) (H : Type) (enc : TypeId × Value → H) :
    ReturnsInHanded {} Try.checked os 4 .any (Rows.fnExactRepairBookSpec.pre6 enc Try.prog Try.f4 Rows.fnExactRepairBookRow.domain false) (Rows.fnExactRepairBookSpec.post enc Try.prog Try.f4 false true false false) := by
  refine returnsInHanded_of_change_sized (C := Try.checked) own started (by kernel_rfl) Try.func4
    (ChangeSpec.witness6 (enc := enc) (C := Try.checked) false ⟨#[], #[.slice none 0 0, .slice none 0 0], []⟩ 8 (by kernel_rfl) (by kernel_rfl) (by kernel_rfl) (by kernel_rfl)) ?_
  intro W base args ds gs before hval0 hW hcnd hsz0 _
  have hval : ∀ (j : Nat) t v, Try.f4.params[j]? = some t → args[j]? = some v → Value.okWide Try.prog W .any base t v := hval0
  have hW' := hW
  obtain ⟨p, q, hA0, hV, rfl, hfz, hnd⟩ := hW
  have hA : DataW.TrodAll enc Try.prog W 0 (fun _ => true) true Try.f4.params.toList args.toList ds p := hA0
  rw [Try.params4] at hA hval
  obtain ⟨v0, vs0, d0, ds0, p0, q0, hargs, rfl, rfl, h0, r0⟩ := trodAll_cons hA
  obtain ⟨v1, vs1, d1, ds1, p1, q1, rfl, rfl, rfl, h1, r1⟩ := trodAll_cons r0
  obtain ⟨rfl, rfl, rfl⟩ := trodAll_nil r1
  obtain rfl : args = #[v0, v1] := by cases args; simp_all
  obtain ⟨rfl, rfl⟩ := trodVars_none hV
  obtain ⟨aa0, len0, cap0, rfl⟩ := okWide_slice Try.underlying32 (hval 0 32 v0 rfl rfl)
  have k0 := h0
  have lt0 : ∀ x ∈ p0, x.block < W.heap.size := by obtain ⟨m, hm⟩ := k0; exact DataW.trod_lt m _ _ _ hm
  obtain ⟨fuel0, hf0⟩ := h0
  obtain ⟨l0, hk0, hq0⟩ := (open0 W).go hf0
  obtain ⟨A0, n0, e0, m0, g0⟩ := hk0
  obtain ⟨rfl, rfl, rfl⟩ : aa0 = A0 ∧ len0 = l0.length ∧ cap0 = n0 := by simpa [Value.cells] using e0
  obtain ⟨aa1, len1, cap1, rfl⟩ := okWide_slice Try.underlying33 (hval 1 33 v1 rfl rfl)
  have k1 := h1
  have lt1 : ∀ x ∈ p1, x.block < W.heap.size := by obtain ⟨m, hm⟩ := k1; exact DataW.trod_lt m _ _ _ hm
  obtain ⟨fuel1, hf1⟩ := h1
  obtain ⟨l1, hk1, hq1⟩ := (open1 W).go hf1
  obtain ⟨A1, n1, e1, m1, g1⟩ := hk1
  obtain ⟨rfl, rfl, rfl⟩ : aa1 = A1 ∧ len1 = l1.length ∧ cap1 = n1 := by simpa [Value.cells] using e1
  refine (PFnExactRepairBook.laws_FnExactRepairBook.calls 2400000000000 aa0 cap0 l0 aa1 cap1 l1 true W g0 m0 g1 m1 (Pure.FnExactRepairBook l0 l1 hq0.1 hq0.2 hq1.1 hq1.2)).mono fun e W' ⟨he, bel⟩ => ?_
  subst he
  exact ⟨_, rfl, _, _, _, [], _, [], hW', trodAll_mk1 (shut_bool Try.underlying4 _), (trodAll_cons_mk (Below.trod laidOut (by kernel_rfl) (of_decide_eq_true (by kernel_rfl)) k0 bel lt0) (trodAll_cons_mk (Below.trod laidOut (by kernel_rfl) (of_decide_eq_true (by kernel_rfl)) k1 bel lt1) trodAll_mk0)), rfl, bel.frame _, fun h => by cases h⟩
theorem over : Rows.fnExactRepairBookRow.holds Try.pinned (OpenSpec.ofChange Rows.fnExactRepairBookSpec) :=
  OpenClaim.holds_of_wide 4 Try.f4 rfl rfl rfl rfl rfl rfl rfl ⟨rfl, rfl, rfl, rfl, rfl⟩ rfl rfl rfl rfl rfl (by kernel_rfl) Try.func4 (by kernel_rfl)
    (of_decide_eq_true (by kernel_rfl)) (by unfold Func.isWrapper; first | (rw [if_pos (by decide +kernel)]; kernel_rfl) | (rw [if_neg (by decide +kernel)]; exact ⟨rfl, rfl⟩))
    (fun os started H enc _ => lifted os started H enc)
theorem proved : Rows.FnExactRepairBookSaid := over
end Go.Proofs.Ytjkbnimgmbnjdaa.fnExactRepairBook
namespace Go.Proofs.Ytjkbnimgmbnjdaa
/-- The row, under a short name, for the claim. -/
theorem fnExactRepairBook_holds : Rows.FnExactRepairBookSaid := fnExactRepairBook.proved
end Go.Proofs.Ytjkbnimgmbnjdaa
