/- The law FnExactDealLock holds: the program's DealLock returns what the reference's returns, for every lock, secret and seed; no condition. (Its argument is a lock, nested in itself: opened by the fuel. Own work, turned from a laid row.) -/
import Derived.Test.YtlkcolomkhgjfaaRows
import Derived.Test.YtlkcolomkhgjfaaHLockLaw
import Derived.Test.YtlkcolomkhgjfaaOpen
import Derived.Test.YtlkcolomkhgjfaaPureFnExactDealLock
import Derived.WalkKit
import Derived.ProofKit
import Derived.OpenShut
import Derived.ShutString
import Derived.ChangeOld
import Derived.Below
import Derived.SizedLaws
namespace Go.Proofs.Ytlkcolomkhgjfaa.fnExactDealLock
open Go.ChangeShapes Go.WideShapes Go.ChangeAt Go.RowKit
open Go.ChangeMaps (open_string shut_string)
open Go.Proofs.YtlkcolomkhgjfaaW.PrintWords Go.Proofs.YtlkcolomkhgjfaaO
set_option linter.unusedVariables false
theorem own : ownKnob Try.prog.godebug = none := by kernel_rfl
theorem laidOut : laidOutB Try.prog = true := by kernel_rfl
/-- What lies at a type is of a kind, and has a property: with less fuel than m. -/
structure KB {α : Type} (m : Nat) (P : Program) (w : World) (d : Kd α) (t : TypeId) (Q : α → Prop) : Prop where
  go : ∀ {H : Type} {enc : TypeId × Value → H} {base : Nat} {spare : Nat → Bool} {held : Bool} {fuel : Nat} {cs : List Value} {x : DataW H × List MemPlace}, fuel < m → DataW.trod enc P w base spare held fuel t cs = some x → ∃ v, d.K w v cs ∧ Q v
theorem KB.slice {α : Type} {m : Nat} {P : Program} {w : World} {t e e' : TypeId} {d : Kd α} {Q : α → Prop} (ht : P.underlying t = some (.slice e)) (hz : P.cellsOf e = d.sz) (h : KB m P w d e Q) :
    KB m P w (Kd.slice e' d) t (fun xs => xs.length ≤ maxLen ∧ ∀ x ∈ xs, Q x) := by
  constructor
  intro H enc base spare held fuel cs x hlt hx
  rcases DataW.trod_slice ht hx with ⟨rfl, -⟩ | ⟨a, len, cap, elems, rest, n, hn, rfl, -, -, hl, hm, hlen, hel, -, -⟩
  · exact ⟨[], ⟨none, 0, rfl, Nat.le_refl _, ⟨rfl, by simp, fun hn => absurd hn (by simp)⟩⟩, by simp, by simp⟩
  · have each : ∀ i, i < len → ∃ (v : α) (c : List Value), c.length = d.sz ∧ d.K w v c ∧ Q v ∧ ∀ j u, c[j]? = some u → w.cell? (a.add (i * d.sz + j)) = some u := by
      intro i hi
      have h1 := hel i hi
      have h2 : (elems[i]?) = some elems[i] := List.getElem?_eq_getElem (by omega)
      rw [h2, Option.bind_eq_some_iff] at h1
      obtain ⟨c, hc, hy⟩ := h1
      obtain ⟨v, hv, hq⟩ := h.go (by omega) hy
      rw [hz] at hc
      obtain ⟨c1, c2⟩ := cells_get hc
      exact ⟨v, c, c1, hv, hq, fun j u hj => by have := c2 j u hj; rwa [Addr.add_add] at this⟩
    have hxl : (List.ofFn fun i : Fin len => Classical.choose (each i.1 i.2)).length = len := by simp
    have hat : ∀ j p, (List.ofFn fun i : Fin len => Classical.choose (each i.1 i.2))[j]? = some p → ∃ c : List Value, c.length = d.sz ∧ d.K w p c ∧ Q p ∧ ∀ i u, c[i]? = some u → w.cell? (a.add (j * d.sz + i)) = some u := by
      intro j p hj
      rw [List.getElem?_ofFn] at hj
      split at hj
      · rename_i hjl
        obtain rfl := Option.some.inj hj
        exact Classical.choose_spec (each j hjl)
      · cases hj
    generalize (List.ofFn fun i : Fin len => Classical.choose (each i.1 i.2)) = xs at hxl hat
    subst hxl
    have hbig : maxLen ≤ 9223372036854775807 := by decide
    refine ⟨xs, ⟨some a, cap, rfl, hl, ⟨rfl, by omega, fun _ => ⟨a, rfl, fun j p hj => ?_⟩⟩⟩, ⟨by omega, fun x hx2 => ?_⟩⟩
    · obtain ⟨c, h1, h2, -, h4⟩ := hat j p hj
      exact ⟨c, h1, h2, h4⟩
    · obtain ⟨j, hj⟩ := List.getElem?_of_mem hx2
      obtain ⟨c, -, -, h3, -⟩ := hat j x hj
      exact h3
theorem cells3 : Try.prog.cellsOf 3 = 1 := by kernel_rfl
theorem cells23 : Try.prog.cellsOf 23 = 1 := by kernel_rfl
theorem cells40 : Try.prog.cellsOf 40 = 1 := by kernel_rfl
theorem cells42 : Try.prog.cellsOf 42 = 3 := by kernel_rfl
theorem int_open (W : World) : KOpen Try.prog W (Kd.int .i64) 3 (fun n => (Lit.int .i64 n).wf = true) := KOpen.int (by kernel_rfl)
theorem ints_open (W : World) : KOpen Try.prog W (Kd.slice 3 (Kd.int .i64)) 23 (fun xs => xs.length ≤ maxLen ∧ ∀ x ∈ xs, (Lit.int .i64 x).wf = true) := KOpen.slice Try.underlying23 (by kernel_rfl) (int_open W)
theorem lock_open (W : World) : ∀ m : Nat, KB m Try.prog W PFnExactDealLock.k42 42 Pure.LQ
  | 0 => ⟨fun h => absurd h (Nat.not_lt_zero _)⟩
  | m + 1 => by
    constructor
    intro H enc base spare held fuel cs x hlt hx
    obtain ⟨xs, n, rfl, -, hl, hxl, hf⟩ := DataW.trod_struct Try.underlying42 hx
    rw [cells42] at hl
    have f0 := hf 0 { name := "Need", type := 3, offset := 0, embedded := false, tag := "", pkgPath := "", byteOffset := 0 } rfl
    have f1 := hf 1 { name := "Members", type := 23, offset := 1, embedded := false, tag := "", pkgPath := "", byteOffset := 8 } rfl
    have f2 := hf 2 { name := "Kids", type := 40, offset := 2, embedded := false, tag := "", pkgPath := "", byteOffset := 32 } rfl
    simp only [cells3, cells23, cells40] at f0 f1 f2
    have hx3 : xs.length = 3 := hxl
    match cs, hl with
    | [u0, u1, u2], _ =>
      rw [List.getElem?_eq_getElem (by omega)] at f0 f1 f2
      obtain ⟨n0, k0, q0⟩ := (int_open W).go f0
      obtain ⟨l1, k1, q1⟩ := (ints_open W).go f1
      obtain ⟨l2, k2, q2⟩ := (KB.slice (e' := 42) Try.underlying40 (by kernel_rfl) (lock_open W m)).go (by omega) f2
      obtain ⟨A1, c1, e1, m1, g1⟩ := k1
      obtain ⟨A2, c2, e2, m2, g2⟩ := k2
      have e0 : u0 = .int .i64 n0 := by have e0' : [u0] = [.int .i64 n0] := k0; simpa using e0'
      have e1' : u1 = .slice A1 l1.length c1 := by simpa using e1
      have e2' : u2 = .slice A2 l2.length c2 := by simpa using e2
      subst e0 e1' e2'
      exact ⟨⟨n0, l1, l2⟩, PFnExactDealLock.k42_mk W ⟨n0, l1, l2⟩ m1 g1 m2 g2, Pure.LQ.mk q1.1 q2.1 q2.2⟩
set_option maxRecDepth 100000 in
theorem lifted (os : Os) (started : os.Started) (H : Type) (enc : TypeId × Value → H) :
    ReturnsInHanded {} Try.checked os 5 .any (Rows.fnExactDealLockSpec.pre6 enc Try.prog Try.f5 Rows.fnExactDealLockRow.domain false) (Rows.fnExactDealLockSpec.post enc Try.prog Try.f5 false true false false) := by
  refine returnsInHanded_of_change_sized (C := Try.checked) own started (by kernel_rfl) Try.func5
    (ChangeSpec.witness6 (enc := enc) (C := Try.checked) false ⟨#[], #[.agg #[.int .i64 0, .slice none 0 0, .slice none 0 0], .int .i64 0, .int .i64 0], []⟩ 8 (by kernel_rfl) (by kernel_rfl) (by kernel_rfl) (by kernel_rfl)) ?_
  intro W base args ds gs before hval0 hW hcnd hsz0 _
  have hval : ∀ (j : Nat) t v, Try.f5.params[j]? = some t → args[j]? = some v → Value.okWide Try.prog W .any base t v := hval0
  have hW' := hW
  obtain ⟨p, q, hA0, hV, rfl, hfz, hnd⟩ := hW
  have hA : DataW.TrodAll enc Try.prog W 0 (fun _ => true) true Try.f5.params.toList args.toList ds p := hA0
  rw [Try.params5] at hA hval
  obtain ⟨v0, vs0, d0, ds0, p0, q0, hargs, rfl, rfl, h0, r0⟩ := trodAll_cons hA
  obtain ⟨v1, vs1, d1, ds1, p1, q1, rfl, rfl, rfl, h1, r1⟩ := trodAll_cons r0
  obtain ⟨v2, vs2, d2, ds2, p2, q2, rfl, rfl, rfl, h2, r2⟩ := trodAll_cons r1
  obtain ⟨rfl, rfl, rfl⟩ := trodAll_nil r2
  obtain rfl : args = #[v0, v1, v2] := by cases args; simp_all
  obtain ⟨rfl, rfl⟩ := trodVars_none hV
  obtain ⟨cs, rfl, hcs⟩ := okWide_struct Try.underlying42 (hval 0 42 v0 rfl rfl)
  have k0 := h0
  have lt0 : ∀ x ∈ p0, x.block < W.heap.size := by obtain ⟨m, hm⟩ := k0; exact DataW.trod_lt m _ _ _ hm
  obtain ⟨fuel, hf⟩ := h0
  obtain ⟨⟨n0, l1, l2⟩, hk, hq⟩ := (lock_open W (fuel + 1)).go (Nat.lt_succ_self _) hf
  obtain ⟨A1, c1, A2, c2, e0, m1, g1, m2, g2⟩ := PFnExactDealLock.k42_open hk
  simp only at e0 m1 g1 m2 g2
  have ecs : cs = #[.int .i64 n0, .slice A1 l1.length c1, .slice A2 l2.length c2] := by
    cases cs; simpa [Value.cells] using e0
  subst ecs
  obtain ⟨a1, rfl, rfl, rfl, w1⟩ := open_int Try.underlying3 (hval 1 3 v1 rfl rfl) h1
  obtain ⟨a2, rfl, rfl, rfl, w2⟩ := open_int Try.underlying3 (hval 2 3 v2 rfl rfl) h2
  have hc : Calls Try.prog 5 #[.agg #[.int .i64 n0, .slice A1 l1.length c1, .slice A2 l2.length c2], .int .i64 a1, .int .i64 a2] W fun e w' => e = .returned (.bool true) ∧ Below W.heap.size W w' := by
    obtain ⟨k, t1, hs, hp⟩ := Pure.FnExactDealLock n0 l1 l2 a1 a2 hq
    by_cases h : t1 < 0
    · exact PFnExactDealLock.lawNeg.calls k n0 A1 c1 l1 A2 c2 l2 a1 a2 t1 W g1 m1 g2 m2 hs h
    · obtain ⟨r1, r2, r3, t, b9, m, t', x2, x3, x5, x6, x8, x9, x9b, x11, xl, x12, x12b⟩ := hp (Int.not_lt.1 h)
      exact PFnExactDealLock.lawPos.calls k n0 A1 c1 l1 A2 c2 l2 a1 a2 t1 r1 r2 r3 t b9 m t' W g1 m1 g2 m2 hs (Int.not_lt.1 h) x2 x3 x5 x6 x8 x9 x9b x11 xl x12 x12b
  refine hc.mono fun e W' ⟨he, bel⟩ => ?_
  subst he
  exact ⟨_, rfl, _, _, _, [], _, [], hW', trodAll_mk1 (shut_bool Try.underlying4 _), (trodAll_cons_mk (Below.trod laidOut (by kernel_rfl) (of_decide_eq_true (by kernel_rfl)) k0 bel lt0) (trodAll_cons_mk (shut_int Try.underlying3 w1) (trodAll_cons_mk (shut_int Try.underlying3 w2) trodAll_mk0))), rfl, bel.frame _, fun h => by cases h⟩
theorem over : Rows.fnExactDealLockRow.holds Try.pinned (OpenSpec.ofChange Rows.fnExactDealLockSpec) :=
  OpenClaim.holds_of_wide 5 Try.f5 rfl rfl rfl rfl rfl rfl rfl ⟨rfl, rfl, rfl, rfl, rfl⟩ rfl rfl rfl rfl rfl (by kernel_rfl) Try.func5 (by kernel_rfl)
    (of_decide_eq_true (by kernel_rfl)) (by unfold Func.isWrapper; first | (rw [if_pos (by decide +kernel)]; kernel_rfl) | (rw [if_neg (by decide +kernel)]; exact ⟨rfl, rfl⟩))
    (fun os started H enc _ => lifted os started H enc)
theorem proved : Rows.FnExactDealLockSaid := over
end Go.Proofs.Ytlkcolomkhgjfaa.fnExactDealLock
namespace Go.Proofs.Ytlkcolomkhgjfaa
/-- The row, under a short name, for the claim. -/
theorem fnExactDealLock_holds : Rows.FnExactDealLockSaid := fnExactDealLock.proved
end Go.Proofs.Ytlkcolomkhgjfaa
