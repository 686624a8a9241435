-- Laid by this session's own program: the kit's print, turned at a few places. Lean checks it.
import Derived.Test.YtmipmnejppoeiaaPFnExactPayLoanx0
import Derived.Test.YtmipmnejppoeiaaPFnExactPayLoanx2
import Derived.Test.YtmipmnejppoeiaaPFnExactPayLoanx4
import Derived.Test.YtmipmnejppoeiaaPFnExactPayLoanx5
namespace Go.Proofs.Ytmipmnejppoeiaa.PFnExactPayLoan
open Go.RowKit Go.Proofs.YtmipmnejppoeiaaW.PrintWords Go.Proofs.YtmipmnejppoeiaaW.PrintLast Go.Proofs.YtmipmnejppoeiaaW.PrintMore
attribute [local go_sem] max2_int min2_int max_two min_two max_three min_three max_four min_four   -- for this text's walks alone
set_option linter.unusedVariables false
set_option linter.unusedSimpArgs false

/-! ### laws_markLoanS: function 26 -/
def laws_markLoanS.l0 : Nat → List S56 → Int → Int → Option (Int × List S56)
  | 0, _, _, _ => none
  | k + 1, x0, x1, x5 => if x5 < (x0.length : Int) then (if 0 ≤ x5 then ((laws_markIntS.f k (rd_T56 x0 x5).f2 (wrap64 (wrap64 (x1 + 1) + 1))).bind fun bt => (laws_markLoanS.l0 k (x0.set x5.toNat ⟨x1, wrap64 (x1 + 1), bt.2⟩) bt.1 (wrap64 (x5 + 1)))) else (none)) else (some (x1, x0))
def laws_markLoanS.f (k : Nat) (l0 : List S56) (a1 : Int) : Option (Int × List S56) := laws_markLoanS.l0 k l0 a1 0
theorem laws_markLoanS.mono_l : ∀ k, (∀ y0 y1 y2, LeO (laws_markLoanS.l0 k y0 y1 y2) (laws_markLoanS.l0 (k + 1) y0 y1 y2))
  | 0 => fun _ _ _ r h => by simp [laws_markLoanS.l0] at h
  | k + 1 => by
    have ih0 := laws_markLoanS.mono_l k
    · intro y0 y1 y2
      unfold laws_markLoanS.l0
      repeat' first
      | (with_reducible exact ih0 _ _ _)
      | (with_reducible exact laws_markIntS.mono _ _ _)
      | (with_reducible exact LeO.refl _)
      | (with_reducible exact LeO.none _)
      | (with_reducible refine LeO.ite ?_ ?_)
      | (with_reducible refine LeO.bind ?_ (fun _ => ?_))
      | exact ih0 _ _ _
      | exact LeO.none _
      | refine LeO.ite ?_ ?_
      | refine LeO.bind ?_ (fun _ => ?_)
theorem laws_markLoanS.mono : ∀ a0 a1 k, LeO (laws_markLoanS.f k a0 a1) (laws_markLoanS.f (k + 1) a0 a1) := by
  intro a0 a1 k
  exact laws_markLoanS.mono_l k a0 a1 0
theorem laws_markLoanS.len_l : ∀ (k : Nat) (x0 : List S56) (x1 x5 r1 : Int) (r2 : List S56), laws_markLoanS.l0 k x0 x1 x5 = some (r1, r2) → r2.length = x0.length
  | 0, _, _, _, _, _, h => by simp [laws_markLoanS.l0] at h
  | k + 1, x0, x1, x5, r1, r2, h => by
    simp only [laws_markLoanS.l0] at h
    split at h
    · split at h
      · obtain ⟨bt, _, h2⟩ := Option.bind_eq_some_iff.mp h
        have := laws_markLoanS.len_l k _ _ _ _ _ h2
        simpa using this
      · exact absurd h (by simp)
    · simp only [Option.some.injEq, Prod.mk.injEq] at h
      rw [h.2]
theorem laws_markLoanS.len {k : Nat} {l0 : List S56} {a1 r1 : Int} {r2 : List S56} (h : laws_markLoanS.f k l0 a1 = some (r1, r2)) : r2.length = l0.length := laws_markLoanS.len_l k l0 a1 0 r1 r2 h
section
variable {W W2 : World} {base g n cap : Nat} {ok oki : Nat → Prop} {A : Option Addr} {ni ci : Nat} {xs : List S56} {i : Int} {ys : List Int}
theorem mloan_at (h : i.toNat < xs.length) (x : S56) : rd_T56 (xs.set i.toNat x) i = x := by
  simp [rd_T56, List.getD_eq_getElem?_getD, List.getElem?_set_self h]
/-- A whole number's cell of a loan is written. -/
theorem loan_put0 (h : Kd.S k56 56 W base ok (.slice (some ⟨g, 0, none⟩) n cap) xs) (h0 : 0 ≤ i) (h1 : i < n) (v : Int) :
    W.cell? ⟨g, i.toNat * 3, none⟩ = some (.int .i64 (rd_T56 xs i).f0) ∧ W.frozen? ⟨g, i.toNat * 3, none⟩ = false ∧ Kd.S k56 56 (W.setCell ⟨g, i.toNat * 3, none⟩ (.int .i64 v)) base ok (.slice (some ⟨g, 0, none⟩) n cap) (xs.set i.toNat ⟨v, (rd_T56 xs i).f1, (rd_T56 xs i).f2⟩) := by
  have hX : Kd.S k56 56 W base (fun k => ok k ∧ ¬ (fun _ => False) k) (.slice (some ⟨g, 0, none⟩) n cap) xs := Kd.S_mono h (fun k hk => ⟨hk, id⟩)
  obtain ⟨oki, c, hcl, hM, hcc, hfr, hoki, hH⟩ := Kd.S_elem hX z56 i h0 h1
  obtain ⟨v2, rfl, g2⟩ := k56_openM hM
  refine ⟨hcc 0 _ rfl, hfr 0, ?_⟩
  exact (Kd.S_seg (okg := fun _ => False) (okp := oki) hH h0 h1 (seg := [.int .i64 v]) (j := 0) (show 0 + 1 ≤ 3 by decide) (x' := ⟨v, (rd_T56 xs i).f1, (rd_T56 xs i).f2⟩) (k56_mkM W base oki ⟨v, (rd_T56 xs i).f1, (rd_T56 xs i).f2⟩ g2) (fun k hk => .inl hk) (fun k hk => hk.elim)).1
theorem loan_put1 (h : Kd.S k56 56 W base ok (.slice (some ⟨g, 0, none⟩) n cap) xs) (h0 : 0 ≤ i) (h1 : i < n) (v : Int) :
    W.cell? ⟨g, i.toNat * 3 + 1, none⟩ = some (.int .i64 (rd_T56 xs i).f1) ∧ W.frozen? ⟨g, i.toNat * 3 + 1, none⟩ = false ∧ Kd.S k56 56 (W.setCell ⟨g, i.toNat * 3 + 1, none⟩ (.int .i64 v)) base ok (.slice (some ⟨g, 0, none⟩) n cap) (xs.set i.toNat ⟨(rd_T56 xs i).f0, v, (rd_T56 xs i).f2⟩) := by
  have hX : Kd.S k56 56 W base (fun k => ok k ∧ ¬ (fun _ => False) k) (.slice (some ⟨g, 0, none⟩) n cap) xs := Kd.S_mono h (fun k hk => ⟨hk, id⟩)
  obtain ⟨oki, c, hcl, hM, hcc, hfr, hoki, hH⟩ := Kd.S_elem hX z56 i h0 h1
  obtain ⟨v2, rfl, g2⟩ := k56_openM hM
  refine ⟨hcc 1 _ rfl, hfr 1, ?_⟩
  exact (Kd.S_seg (okg := fun _ => False) (okp := oki) hH h0 h1 (seg := [.int .i64 v]) (j := 1) (show 1 + 1 ≤ 3 by decide) (x' := ⟨(rd_T56 xs i).f0, v, (rd_T56 xs i).f2⟩) (k56_mkM W base oki ⟨(rd_T56 xs i).f0, v, (rd_T56 xs i).f2⟩ g2) (fun k hk => .inl hk) (fun k hk => hk.elim)).1
/-- A loan's guards, lent. -/
theorem loan_lend (h : Kd.S k56 56 W base ok (.slice (some ⟨g, 0, none⟩) n cap) xs) (h0 : 0 ≤ i) (h1 : i < n) :
    ∃ (oki : Nat → Prop) (A : Option Addr) (ci : Nat), W.cell? ⟨g, i.toNat * 3 + 2, none⟩ = some (.slice A (rd_T56 xs i).f2.length ci) ∧ Kd.R (Kd.int .i64) 3 W base oki (.slice A (rd_T56 xs i).f2.length ci) (rd_T56 xs i).f2 ∧ (∀ k, oki k → ok k) ∧ Kd.H k56 56 W base ok (.slice (some ⟨g, 0, none⟩) n cap) xs i oki [.int .i64 (rd_T56 xs i).f0, .int .i64 (rd_T56 xs i).f1, .slice A (rd_T56 xs i).f2.length ci] := by
  obtain ⟨oki, c, hcl, hM, hcc, hoki, hH⟩ := Kd.S_lend h z56 i h0 h1
  obtain ⟨v2, rfl, g2⟩ := k56_openM hM
  obtain ⟨A, ci, rfl⟩ := Kd.R_slice g2
  exact ⟨oki, A, ci, hcc 2 _ rfl, g2, fun k hk => (hoki k hk).1, hH⟩
/-- The guards were written by a call that keeps all else: the loans again. -/
theorem loan_back (hH : Kd.H k56 56 W base ok (.slice (some ⟨g, 0, none⟩) n cap) xs i oki [.int .i64 (rd_T56 xs i).f0, .int .i64 (rd_T56 xs i).f1, .slice A ni ci]) (hk : Kept W W2 (fun k_ => oki k_)) (hy : Kd.R (Kd.int .i64) 3 W2 base (fun k_ => (oki k_ ∨ W.heap.size ≤ k_)) (.slice A ni ci) ys) (hnew : ∀ k, W.heap.size ≤ k → ok k) : Kd.S k56 56 W2 base ok (.slice (some ⟨g, 0, none⟩) n cap) (xs.set i.toNat ⟨(rd_T56 xs i).f0, (rd_T56 xs i).f1, ys⟩) := by
  have h1 := Kd.H_widen hH
  have h2 := Kd.H_step (w1 := W2) h1 (fun k _ hn hlt => hk.2 k hlt (fun hc => hn (.inl hc)))
  exact Kd.H_back h2 (okp := fun k_ => (oki k_ ∨ W.heap.size ≤ k_)) (k56_mkM W2 base _ ⟨(rd_T56 xs i).f0, (rd_T56 xs i).f1, ys⟩ hy) (fun k hk_ => hk_.elim .inl (fun hs => .inr ⟨hnew k hs, hs⟩))
end
set_option maxHeartbeats 8000000 in
set_option maxRecDepth 100000 in
theorem laws_markLoanS.calls (k : Nat) (P0_ : Nat → Prop) (u9000_ : Value) (l0 : List S56) (a1 : Int) (r1 : Int) (r2 : List S56) (w0 w : World) (hB : Below w0.heap.size w0 w) (ho0 : Kd.S k56 56 w w0.heap.size P0_ u9000_ l0) (h : laws_markLoanS.f k l0 a1 = some (r1, r2)) :
    Calls Try.prog 26 #[u9000_, .int .i64 a1] w fun e w' => e = .returned (.int .i64 r1) ∧ Kd.S k56 56 w' w0.heap.size (fun k_ => (P0_ k_ ∨ w.heap.size ≤ k_)) u9000_ r2 ∧ Below w0.heap.size w0 w' ∧ Kept w w' (fun k_ => P0_ k_) := by
  obtain ⟨Ao, co, eo⟩ := Kd.S_slice ho0
  subst eo
  have HO0 := Aside0.mk (show Kd.S k56 56 w w0.heap.size (fun k_ => (P0_ k_ ∨ w.heap.size ≤ k_)) (.slice Ao l0.length co) l0 from Kd.S_mono ho0 (fun k_ hk => (.inl hk)))
  have HK := Aside0.mk (Kept.refl w (fun k_ => P0_ k_))
  have HB := Aside0.mk hB
  clear hB ho0
  have H' := Aside0.mk (show laws_markLoanS.l0 k l0 a1 0 = some (r1, r2) from h)
  clear h
  go_enter Try.func26, Try.ntmps26
  go_wp2
  go_loopg [1, 5] k (fun kq v1 v5 w' => ∃ (x0_1 : List S56) (x1_1 : Int) (x5_1 : Int), v1 = .int .i64 x1_1 ∧ v5 = .int .i64 x5_1 ∧ Aside0 (laws_markLoanS.l0 kq x0_1 x1_1 x5_1 = some (r1, r2)) ∧ Aside0 (kq ≤ k) ∧ Aside0 (x0_1.length = l0.length) ∧ Aside0 (Kd.S k56 56 w' w0.heap.size (fun k_ => (P0_ k_ ∨ w.heap.size ≤ k_)) (.slice Ao l0.length co) x0_1) ∧ Aside0 (Kept w w' (fun k_ => P0_ k_)) ∧ Aside0 (Below w0.heap.size w0 w'))
  case atStart => exact ⟨l0, a1, 0, (by first | rfl | (simp; done) | (simp [*]; done)), (by first | rfl | (simp; done) | (simp [*]; done)), H', ⟨Nat.le_refl _⟩, ⟨rfl⟩, ⟨by (with_reducible repeat (first | apply Kd.S_alloc | apply Kd.S_drewN | apply Kd.S_drew)); exact HO0.out⟩, ⟨by repeat (first | (with_reducible first | exact HK.out | apply Kept.alloc | apply Kept.drewN | apply Kept.drew) | exact HK.out)⟩, ⟨by repeat (first | (with_reducible first | exact HB.out | apply below_alloc | apply pw_below_drewN | apply below_drew1) | exact HB.out)⟩⟩
  case round =>
    clear H' HO0 HK HB
    obtain ⟨x0_1, x1_1, x5_1, rfl, rfl, HA, HK1, HL, HO_0, HK, HB⟩ := hrel
    cases gk with
    | zero => exact absurd HA.out (by simp [laws_markLoanS.l0])
    | succ k1 =>
      have H := HA.out
      clear HA
      simp only [laws_markLoanS.l0] at H
      rw [HL.out] at H
      by_cases c3 : x5_1 < (l0.length : Int)
      · rw [if_pos c3] at H
        have c3b0 : decide (x5_1 < (l0.length : Int)) = true := decide_eq_true c3
        by_cases c4 : 0 ≤ x5_1
        · rw [if_pos c4] at H
          have c4b0 : decide (0 ≤ x5_1) = true := decide_eq_true c4
          replace H := Option.bind_eq_some_iff.mp H
          obtain ⟨⟨t1, t2⟩, A60, H⟩ := H
          have A6 := Aside0.mk A60
          clear A60
          have H' := Aside0.mk H
          clear H
          have hpos : 0 < x0_1.length := by rw [HL.out]; omega
          have hil : x5_1.toNat < x0_1.length := by rw [HL.out]; omega
          obtain ⟨g, cap, ef, hgb, -, -⟩ := Kd.S_form HO_0.out hpos
          obtain rfl : Ao = some ⟨g, 0, none⟩ := by injection ef
          have hgo : P0_ g ∨ w.heap.size ≤ g := (Kd.S_R HO_0.out).1 g rfl
          -- the two stores, ahead
          obtain ⟨hxa, hfa, hS1⟩ := loan_put0 HO_0.out c4 c3 x1_1
          have HKA := Kept.setCell HK.out (p := ⟨g, x5_1.toNat * 3, none⟩) hgo (.int .i64 x1_1)
          have HBA := below_set HB.out (j := x5_1.toNat * 3) (v := .int .i64 x1_1) hgb
          obtain ⟨W1, hW1⟩ : ∃ W1, W1 = wr.setCell ⟨g, x5_1.toNat * 3, none⟩ (.int .i64 x1_1) := ⟨_, rfl⟩
          rw [← hW1] at hS1 HKA HBA
          have e1 := mloan_at hil (⟨x1_1, (rd_T56 x0_1 x5_1).f1, (rd_T56 x0_1 x5_1).f2⟩ : S56)
          obtain ⟨hxb, hfb, hS2⟩ := loan_put1 hS1 c4 c3 (wrap64 (x1_1 + 1))
          rw [e1, List.set_set] at hS2
          have HKB := Kept.setCell HKA (p := ⟨g, x5_1.toNat * 3 + 1, none⟩) hgo (.int .i64 (wrap64 (x1_1 + 1)))
          have HBB := below_set HBA (j := x5_1.toNat * 3 + 1) (v := .int .i64 (wrap64 (x1_1 + 1))) hgb
          obtain ⟨W2, hW2⟩ : ∃ W2, W2 = W1.setCell ⟨g, x5_1.toNat * 3 + 1, none⟩ (.int .i64 (wrap64 (x1_1 + 1))) := ⟨_, rfl⟩
          rw [← hW2] at hS2 HKB HBB
          have e2 := mloan_at hil (⟨x1_1, wrap64 (x1_1 + 1), (rd_T56 x0_1 x5_1).f2⟩ : S56)
          obtain ⟨oki, A, ci, hxc, hri, hoki, hH⟩ := loan_lend hS2 c4 c3
          have hback := fun W3 ys hk hy hn => loan_back (W2 := W3) (ys := ys) hH hk hy hn
          rw [e2] at hxc hri
          simp only [e2, List.set_set] at hback
          have HRI := Aside0.mk hri
          have HBK := Aside0.mk hback
          have HOK := Aside0.mk hoki
          have HKX := Aside0.mk HKB
          have HBX := Aside0.mk HBB
          have HSZ := Aside0.mk (show w.heap.size ≤ W2.heap.size from HKB.1)
          have HW1 := Aside0.mk hW1
          have HW2 := Aside0.mk hW2
          clear hri hH hoki hback hpos hil HO_0 hS1 hS2 HKA HBA HKB HBB e1 e2 ef hgo hgb hW1 hW2
          clear c3
          clear HK HB
          have c4r := eq_true c4
          have c3r := eq_true (of_decide_eq_true c3b0)
          go_wp2_with (first | ((with_reducible refine gate_store (t := 3) (p := 16) rfl ?_); refine store_event (t := 3) (p := 16) (v := ?vo_w8) (w1 := (wr.setCell ⟨g, x5_1.toNat * 3, none⟩ (.int .i64 x1_1))) ?hg ?ho ?hn ?hr ?_; (case ho => rfl); (case hg => rfl); (case hn => rfl); (case hr => first | (go_simp; done) | (go_simp; rfl)); intro w8 hw; obtain rfl : W1 = w8 := HW1.out.trans hw.symm; clear hw) | ((with_reducible refine gate_store (t := 3) (p := 23) rfl ?_); refine store_event (t := 3) (p := 23) (v := ?vo_w9) (w1 := (W1.setCell ⟨g, x5_1.toNat * 3 + 1, none⟩ (.int .i64 (wrap64 (x1_1 + 1))))) ?hg ?ho ?hn ?hr ?_; (case ho => rfl); (case hg => rfl); (case hn => rfl); (case hr => first | (go_simp; done) | (go_simp; rfl)); intro w9 hw; obtain rfl : W2 = w9 := HW2.out.trans hw.symm; clear hw) | (go_at_call 27; (refine (laws_markIntS.calls k1 oki (.slice A (rd_T56 x0_1 x5_1).f2.length ci) (rd_T56 x0_1 x5_1).f2 (wrap64 (wrap64 (x1_1 + 1) + 1)) t1 t2 w0 W2 ?side1 ?side2 A6.out).mono ?_); (case side1 => exact HBX.out); (case side2 => exact HRI.out); rintro e w55 ⟨rfl, hy0, hb, hkp⟩; have n0_ := Aside0.mk (HBK.out w55 t2 hkp hy0 (fun k_ hk_ => Or.inr (Nat.le_trans HSZ.out hk_))); have n1_ := Aside0.mk (Kept.then_ HKX.out hkp (fun k_ hk_ => HOK.out k_ hk_)); have n2_ := Aside0.mk hb; clear HBK HRI HBX HKX; have HO_0 := n0_; have HK := n1_; have HB := n2_; clear n0_ n1_ n2_; (try clear hb); (try clear hkp); (try clear hy0)))
          go_roundg k1
          case measure => have := HK1.out; omega
          case rel => exact ⟨_, t1, (wrap64 (x5_1 + 1)), (by first | rfl | (simp; done) | (simp [*]; done)), (by first | rfl | (simp; done) | (simp [*]; done)), H', ⟨by have := HK1.out; omega⟩, ⟨by rw [List.length_set]; exact HL.out⟩, ⟨by (with_reducible repeat (first | apply Kd.S_alloc | apply Kd.S_drewN | apply Kd.S_drew)); exact HO_0.out⟩, ⟨by repeat (first | (with_reducible first | exact HK.out | apply Kept.alloc | apply Kept.drewN | apply Kept.drew) | exact HK.out)⟩, ⟨by repeat (first | (with_reducible first | exact HB.out | apply below_alloc | apply pw_below_drewN | apply below_drew1) | exact HB.out)⟩⟩
        · rw [if_neg c4] at H
          exact absurd H (by simp)
      · rw [if_neg c3] at H
        have c3b0 : decide (x5_1 < (l0.length : Int)) = false := decide_eq_false c3
        clear c3
        simp only [Option.some.injEq, Prod.mk.injEq] at H
        obtain ⟨rfl, rfl⟩ := H
        go_wp2
        go_ret
        exact ⟨by first | rfl | (simp; done) | (simp [*]; done), by (with_reducible repeat (first | apply Kd.S_alloc | apply Kd.S_drewN | apply Kd.S_drew)); exact HO_0.out, by repeat (first | (with_reducible first | exact HB.out | apply below_alloc | apply pw_below_drewN | apply below_drew1) | exact HB.out), by repeat (first | (with_reducible first | exact HK.out | apply Kept.alloc | apply Kept.drewN | apply Kept.drew) | exact HK.out)⟩

/-! ### laws_heldIntS: function 28 -/
def laws_heldIntS.l0 : Nat → List Int → Int → Int → Option (Int)
  | 0, _, _, _ => none
  | k + 1, x0, x1, x5 => if x5 < (x0.length : Int) then (if 0 ≤ x5 then (if (rd x0 x5) = x1 then (laws_heldIntS.l0 k x0 (wrap64 (x1 + 1)) (wrap64 (x5 + 1))) else (some (-1))) else (none)) else (some x1)
def laws_heldIntS.f (k : Nat) (l0 : List Int) (a1 : Int) : Option (Int) := laws_heldIntS.l0 k l0 a1 0
theorem laws_heldIntS.mono_l : ∀ k, (∀ y0 y1 y2, LeO (laws_heldIntS.l0 k y0 y1 y2) (laws_heldIntS.l0 (k + 1) y0 y1 y2))
  | 0 => fun _ _ _ r h => by simp [laws_heldIntS.l0] at h
  | k + 1 => by
    have ih0 := laws_heldIntS.mono_l k
    · intro y0 y1 y2
      unfold laws_heldIntS.l0
      repeat' first
      | (with_reducible exact ih0 _ _ _)
      | (with_reducible exact LeO.refl _)
      | (with_reducible exact LeO.none _)
      | (with_reducible refine LeO.ite ?_ ?_)
      | (with_reducible refine LeO.bind ?_ (fun _ => ?_))
      | exact ih0 _ _ _
      | exact LeO.none _
      | refine LeO.ite ?_ ?_
      | refine LeO.bind ?_ (fun _ => ?_)
theorem laws_heldIntS.mono : ∀ a0 a1 k, LeO (laws_heldIntS.f k a0 a1) (laws_heldIntS.f (k + 1) a0 a1) := by
  intro a0 a1 k
  have ih0 := laws_heldIntS.mono_l k
  unfold laws_heldIntS.f
  repeat' first
      | (with_reducible exact ih0 _ _ _)
      | (with_reducible exact LeO.refl _)
      | (with_reducible exact LeO.none _)
      | (with_reducible refine LeO.ite ?_ ?_)
      | (with_reducible refine LeO.bind ?_ (fun _ => ?_))
      | exact ih0 _ _ _
      | exact LeO.none _
      | refine LeO.ite ?_ ?_
      | refine LeO.bind ?_ (fun _ => ?_)
set_option maxHeartbeats 8000000 in
set_option maxRecDepth 100000 in
theorem laws_heldIntS.calls (k : Nat) (A0 : Option Addr) (c0 : Nat) (l0 : List Int) (a1 : Int) (r : Int) (w : World) (hr0 : Kd.C (Kd.int .i64) w A0 l0.length l0) (hc0 : l0.length ≤ c0) (h : laws_heldIntS.f k l0 a1 = some r) :
    Calls Try.prog 28 #[.slice A0 l0.length c0, .int .i64 a1] w fun e w' => e = .returned (.int .i64 r) ∧ Drawn0 w w' := by
  have HR0 := Aside0.mk hr0
  have HC0 := Aside0.mk hc0
  clear hr0 hc0
  have H : (laws_heldIntS.l0 k l0 a1 0) = some r := h
  clear h
  have H' := Aside0.mk H
  clear H
  go_enter Try.func28, Try.ntmps28
  go_wp2
  go_loopg [1, 5] k (fun kq v1 v5 w' => ∃ (x1_1 : Int) (x5_1 : Int), v1 = .int .i64 x1_1 ∧ v5 = .int .i64 x5_1 ∧ Aside0 (laws_heldIntS.l0 kq l0 x1_1 x5_1 = some r) ∧ Aside0 (kq ≤ k) ∧ Drawn0 w w')
  case atStart => exact ⟨(a1), (0), (by first | rfl | (simp; done) | (simp [*]; done)), (by first | rfl | (simp; done) | (simp [*]; done)), H', ⟨Nat.le_refl _⟩, by repeat (first | exact Drawn0.refl _ | apply Drawn0.step)⟩
  case round =>
    clear H'
    try clear c2
    try clear p2
    obtain ⟨x1_1, x5_1, rfl, rfl, HA, HK1, ⟨m1, rfl⟩⟩ := hrel
    cases gk with
    | zero => exact absurd HA.out (by simp [laws_heldIntS.l0])
    | succ k1 =>
      have H := HA.out
      clear HA
      simp only [laws_heldIntS.l0] at H
      by_cases c3 : x5_1 < (l0.length : Int)
      · rw [if_pos c3] at H
        have c3b0 : decide (x5_1 < (l0.length : Int)) = true := decide_eq_true c3
        clear c3
        by_cases c4 : 0 ≤ x5_1
        · rw [if_pos c4] at H
          have c4b0 : decide (0 ≤ x5_1) = true := decide_eq_true c4
          clear c4
          by_cases c5 : (rd l0 x5_1) = x1_1
          · rw [if_pos c5] at H
            have c5b0 : ((rd l0 x5_1) == x1_1) = true := beq_iff_eq.mpr c5
            have c5b1 : ((rd l0 x5_1) != x1_1) = false := bne_eq_false_iff_eq.mpr c5
            clear c5
            have H' := Aside0.mk H
            clear H
            have p218 : 0 ≤ (x5_1 : Int) := of_decide_eq_true (by first | (with_reducible assumption) | assumption)
            have q218 : x5_1 < (l0.length : Int) := of_decide_eq_true (by first | (with_reducible assumption) | assumption)
            obtain ⟨ad218, e218, hx218_0⟩ := Kd.at_int HR0.out x5_1 p218 q218
            cases e218
            replace p218 := eq_true p218
            replace q218 := eq_true q218
            go_wp2
            go_roundg k1
            case measure => have := HK1.out; omega
            case rel => exact ⟨(wrap64 (x1_1 + 1)), (wrap64 (x5_1 + 1)), (by first | rfl | (simp; done) | (simp [*]; done)), (by first | rfl | (simp; done) | (simp [*]; done)), H', ⟨by have := HK1.out; omega⟩, by repeat (first | exact Drawn0.refl _ | apply Drawn0.step)⟩
          · rw [if_neg c5] at H
            have c5b0 : ((rd l0 x5_1) == x1_1) = false := beq_eq_false_iff_ne.mpr c5
            have c5b1 : ((rd l0 x5_1) != x1_1) = true := bne_iff_ne.mpr c5
            obtain rfl := Option.some.inj H
            have p218 : 0 ≤ (x5_1 : Int) := of_decide_eq_true (by first | (with_reducible assumption) | assumption)
            have q218 : x5_1 < (l0.length : Int) := of_decide_eq_true (by first | (with_reducible assumption) | assumption)
            obtain ⟨ad218, e218, hx218_0⟩ := Kd.at_int HR0.out x5_1 p218 q218
            cases e218
            replace p218 := eq_true p218
            replace q218 := eq_true q218
            go_wp2
            go_ret
            exact ⟨by first | rfl | (simp; done) | (simp [*]; done), by repeat (first | exact Drawn0.refl _ | apply Drawn0.step)⟩
        · rw [if_neg c4] at H
          exact absurd H (by simp)
      · rw [if_neg c3] at H
        have c3b0 : decide (x5_1 < (l0.length : Int)) = false := decide_eq_false c3
        clear c3
        obtain rfl := Option.some.inj H
        go_wp2
        go_ret
        exact ⟨by first | rfl | (simp; done) | (simp [*]; done), by repeat (first | exact Drawn0.refl _ | apply Drawn0.step)⟩

/-! ### laws_heldLoanS: function 42 -/
def laws_heldLoanS.l0 : Nat → List (S56) → Int → Int → Option (Int)
  | 0, _, _, _ => none
  | k + 1, x0, x1, x5 => if x5 < (x0.length : Int) then (if 0 ≤ x5 then (if ((rd_T56 x0 x5).f0) = x1 then (if ((rd_T56 x0 x5).f1) = (wrap64 (x1 + 1)) then ((laws_heldIntS.f k ((rd_T56 x0 x5).f2) (wrap64 ((wrap64 (x1 + 1)) + 1))).bind fun t222 => (if t222 < 0 then (some (-1)) else (laws_heldLoanS.l0 k x0 t222 (wrap64 (x5 + 1))))) else (some (-1))) else (some (-1))) else (none)) else (some x1)
def laws_heldLoanS.f (k : Nat) (l0 : List (S56)) (a1 : Int) : Option (Int) := laws_heldLoanS.l0 k l0 a1 0
theorem laws_heldLoanS.mono_l : ∀ k, (∀ y0 y1 y2, LeO (laws_heldLoanS.l0 k y0 y1 y2) (laws_heldLoanS.l0 (k + 1) y0 y1 y2))
  | 0 => fun _ _ _ r h => by simp [laws_heldLoanS.l0] at h
  | k + 1 => by
    have ih0 := laws_heldLoanS.mono_l k
    · intro y0 y1 y2
      unfold laws_heldLoanS.l0
      repeat' first
      | (with_reducible exact ih0 _ _ _)
      | (with_reducible exact laws_heldIntS.mono _ _ _)
      | (with_reducible exact LeO.refl _)
      | (with_reducible exact LeO.none _)
      | (with_reducible refine LeO.ite ?_ ?_)
      | (with_reducible refine LeO.bind ?_ (fun _ => ?_))
      | exact ih0 _ _ _
      | exact laws_heldIntS.mono _ _ _
      | exact LeO.none _
      | refine LeO.ite ?_ ?_
      | refine LeO.bind ?_ (fun _ => ?_)
theorem laws_heldLoanS.mono : ∀ a0 a1 k, LeO (laws_heldLoanS.f k a0 a1) (laws_heldLoanS.f (k + 1) a0 a1) := by
  intro a0 a1 k
  have ih0 := laws_heldLoanS.mono_l k
  unfold laws_heldLoanS.f
  repeat' first
      | (with_reducible exact ih0 _ _ _)
      | (with_reducible exact laws_heldIntS.mono _ _ _)
      | (with_reducible exact LeO.refl _)
      | (with_reducible exact LeO.none _)
      | (with_reducible refine LeO.ite ?_ ?_)
      | (with_reducible refine LeO.bind ?_ (fun _ => ?_))
      | exact ih0 _ _ _
      | exact laws_heldIntS.mono _ _ _
      | exact LeO.none _
      | refine LeO.ite ?_ ?_
      | refine LeO.bind ?_ (fun _ => ?_)
set_option maxHeartbeats 8000000 in
set_option maxRecDepth 100000 in
theorem laws_heldLoanS.calls (k : Nat) (A0 : Option Addr) (c0 : Nat) (l0 : List (S56)) (a1 : Int) (r : Int) (w : World) (hr0 : Kd.C k56 w A0 l0.length l0) (hc0 : l0.length ≤ c0) (h : laws_heldLoanS.f k l0 a1 = some r) :
    Calls Try.prog 42 #[.slice A0 l0.length c0, .int .i64 a1] w fun e w' => e = .returned (.int .i64 r) ∧ Drawn0 w w' := by
  have HR0 := Aside0.mk hr0
  have HC0 := Aside0.mk hc0
  clear hr0 hc0
  have H : (laws_heldLoanS.l0 k l0 a1 0) = some r := h
  clear h
  have H' := Aside0.mk H
  clear H
  go_enter Try.func42, Try.ntmps42
  go_wp2
  go_loopg [1, 5] k (fun kq v1 v5 w' => ∃ (x1_1 : Int) (x5_1 : Int), v1 = .int .i64 x1_1 ∧ v5 = .int .i64 x5_1 ∧ Aside0 (laws_heldLoanS.l0 kq l0 x1_1 x5_1 = some r) ∧ Aside0 (kq ≤ k) ∧ Drawn0 w w')
  case atStart => exact ⟨(a1), (0), (by first | rfl | (simp; done) | (simp [*]; done)), (by first | rfl | (simp; done) | (simp [*]; done)), H', ⟨Nat.le_refl _⟩, by repeat (first | exact Drawn0.refl _ | apply Drawn0.step)⟩
  case round =>
    clear H'
    try clear p2
    obtain ⟨x1_1, x5_1, rfl, rfl, HA, HK1, ⟨m1, rfl⟩⟩ := hrel
    cases gk with
    | zero => exact absurd HA.out (by simp [laws_heldLoanS.l0])
    | succ k1 =>
      have H := HA.out
      clear HA
      simp only [laws_heldLoanS.l0] at H
      by_cases c3 : x5_1 < (l0.length : Int)
      · rw [if_pos c3] at H
        have c3b0 : decide (x5_1 < (l0.length : Int)) = true := decide_eq_true c3
        clear c3
        by_cases c4 : 0 ≤ x5_1
        · rw [if_pos c4] at H
          have c4b0 : decide (0 ≤ x5_1) = true := decide_eq_true c4
          clear c4
          by_cases c5 : ((rd_T56 l0 x5_1).f0) = x1_1
          · rw [if_pos c5] at H
            have c5b0 : (((rd_T56 l0 x5_1).f0) == x1_1) = true := beq_iff_eq.mpr c5
            have c5b1 : (((rd_T56 l0 x5_1).f0) != x1_1) = false := bne_eq_false_iff_eq.mpr c5
            clear c5
            by_cases c6 : ((rd_T56 l0 x5_1).f1) = (wrap64 (x1_1 + 1))
            · rw [if_pos c6] at H
              have c6b0 : (((rd_T56 l0 x5_1).f1) == (wrap64 (x1_1 + 1))) = true := beq_iff_eq.mpr c6
              have c6b1 : (((rd_T56 l0 x5_1).f1) != (wrap64 (x1_1 + 1))) = false := bne_eq_false_iff_eq.mpr c6
              clear c6
              replace H := Option.bind_eq_some_iff.mp H
              obtain ⟨t222, A70, H⟩ := H
              replace H : (if t222 < 0 then (some (-1)) else (laws_heldLoanS.l0 k1 l0 t222 (wrap64 (x5_1 + 1)))) = some r := H
              have A7 := Aside0.mk A70
              clear A70
              by_cases c8 : t222 < 0
              · rw [if_pos c8] at H
                have c8b0 : decide (t222 < 0) = true := decide_eq_true c8
                clear c8
                obtain rfl := Option.some.inj H
                have p219 : 0 ≤ (x5_1 : Int) := of_decide_eq_true (by first | (with_reducible assumption) | assumption)
                have q219 : x5_1 < (l0.length : Int) := of_decide_eq_true (by first | (with_reducible assumption) | assumption)
                obtain ⟨ad219, A219_2, c219_2, e219, hx219_0, hx219_1, hx219_2, hl219_2, hi219_2⟩ := at_T56 HR0.out x5_1 p219 q219
                cases e219
                have HR219_2 := Aside0.mk hi219_2
                have HC219_2 := Aside0.mk hl219_2
                clear hi219_2 hl219_2
                replace p219 := eq_true p219
                replace q219 := eq_true q219
                have p220 : 0 ≤ (x5_1 : Int) := of_decide_eq_true (by first | (with_reducible assumption) | assumption)
                have q220 : x5_1 < (l0.length : Int) := of_decide_eq_true (by first | (with_reducible assumption) | assumption)
                obtain ⟨ad220, A220_2, c220_2, e220, hx220_0, hx220_1, hx220_2, hl220_2, hi220_2⟩ := at_T56 HR0.out x5_1 p220 q220
                obtain rfl : ad219 = ad220 := (by injection e220)
                have HR220_2 := Aside0.mk hi220_2
                have HC220_2 := Aside0.mk hl220_2
                clear hi220_2 hl220_2
                replace p220 := eq_true p220
                replace q220 := eq_true q220
                have ea_ := Option.some.inj (hx219_2.symm.trans hx220_2)
                injection ea_ with ea_ en_ ec_
                subst ea_
                subst ec_
                clear en_
                have p221 : 0 ≤ (x5_1 : Int) := of_decide_eq_true (by first | (with_reducible assumption) | assumption)
                have q221 : x5_1 < (l0.length : Int) := of_decide_eq_true (by first | (with_reducible assumption) | assumption)
                obtain ⟨ad221, A221_2, c221_2, e221, hx221_0, hx221_1, hx221_2, hl221_2, hi221_2⟩ := at_T56 HR0.out x5_1 p221 q221
                obtain rfl : ad219 = ad221 := (by injection e221)
                have HR221_2 := Aside0.mk hi221_2
                have HC221_2 := Aside0.mk hl221_2
                clear hi221_2 hl221_2
                replace p221 := eq_true p221
                replace q221 := eq_true q221
                have ea_ := Option.some.inj (hx219_2.symm.trans hx221_2)
                injection ea_ with ea_ en_ ec_
                subst ea_
                subst ec_
                clear en_
                go_wp2_with (first | ((with_reducible refine gate_callee (f := 28) rfl ?_); refine goesL_ (some 36) rfl rfl Try.func28 (by kernel_rfl) rfl #[.slice A219_2 ((rd_T56 l0 x5_1).f2).length c219_2, .int .i64 (wrap64 ((wrap64 (x1_1 + 1)) + 1))] rfl (by (try simp only [List.map_toArray, List.map_cons, List.map_nil]); first | done | rfl | (simp only [List.length_drop, List.length_take]; rfl)) ?_; (with_reducible refine (laws_heldIntS.calls k1 _ _ ((rd_T56 l0 x5_1).f2) (wrap64 ((wrap64 (x1_1 + 1)) + 1)) t222 _ ?side1 ?side2 A7.out).mono ?_); (case side1 => repeat (first | exact HR221_2.out | (with_reducible refine Kd.C_alloc ?_ _) | (with_reducible refine Kd.C_drewN ?_ _) | (with_reducible refine Kd.C_drew ?_))); (case side2 => exact HC221_2.out); rintro e w' ⟨rfl, ⟨nd, rfl⟩⟩; refine ⟨_, rfl, ?_⟩))
                go_ret
                exact ⟨by first | rfl | (simp; done) | (simp [*]; done), by repeat (first | exact Drawn0.refl _ | apply Drawn0.step)⟩
              · rw [if_neg c8] at H
                have c8b0 : decide (t222 < 0) = false := decide_eq_false c8
                clear c8
                have H' := Aside0.mk H
                clear H
                have p219 : 0 ≤ (x5_1 : Int) := of_decide_eq_true (by first | (with_reducible assumption) | assumption)
                have q219 : x5_1 < (l0.length : Int) := of_decide_eq_true (by first | (with_reducible assumption) | assumption)
                obtain ⟨ad219, A219_2, c219_2, e219, hx219_0, hx219_1, hx219_2, hl219_2, hi219_2⟩ := at_T56 HR0.out x5_1 p219 q219
                cases e219
                have HR219_2 := Aside0.mk hi219_2
                have HC219_2 := Aside0.mk hl219_2
                clear hi219_2 hl219_2
                replace p219 := eq_true p219
                replace q219 := eq_true q219
                have p220 : 0 ≤ (x5_1 : Int) := of_decide_eq_true (by first | (with_reducible assumption) | assumption)
                have q220 : x5_1 < (l0.length : Int) := of_decide_eq_true (by first | (with_reducible assumption) | assumption)
                obtain ⟨ad220, A220_2, c220_2, e220, hx220_0, hx220_1, hx220_2, hl220_2, hi220_2⟩ := at_T56 HR0.out x5_1 p220 q220
                obtain rfl : ad219 = ad220 := (by injection e220)
                have HR220_2 := Aside0.mk hi220_2
                have HC220_2 := Aside0.mk hl220_2
                clear hi220_2 hl220_2
                replace p220 := eq_true p220
                replace q220 := eq_true q220
                have ea_ := Option.some.inj (hx219_2.symm.trans hx220_2)
                injection ea_ with ea_ en_ ec_
                subst ea_
                subst ec_
                clear en_
                have p221 : 0 ≤ (x5_1 : Int) := of_decide_eq_true (by first | (with_reducible assumption) | assumption)
                have q221 : x5_1 < (l0.length : Int) := of_decide_eq_true (by first | (with_reducible assumption) | assumption)
                obtain ⟨ad221, A221_2, c221_2, e221, hx221_0, hx221_1, hx221_2, hl221_2, hi221_2⟩ := at_T56 HR0.out x5_1 p221 q221
                obtain rfl : ad219 = ad221 := (by injection e221)
                have HR221_2 := Aside0.mk hi221_2
                have HC221_2 := Aside0.mk hl221_2
                clear hi221_2 hl221_2
                replace p221 := eq_true p221
                replace q221 := eq_true q221
                have ea_ := Option.some.inj (hx219_2.symm.trans hx221_2)
                injection ea_ with ea_ en_ ec_
                subst ea_
                subst ec_
                clear en_
                go_wp2_with (first | ((with_reducible refine gate_callee (f := 28) rfl ?_); refine goesL_ (some 36) rfl rfl Try.func28 (by kernel_rfl) rfl #[.slice A219_2 ((rd_T56 l0 x5_1).f2).length c219_2, .int .i64 (wrap64 ((wrap64 (x1_1 + 1)) + 1))] rfl (by (try simp only [List.map_toArray, List.map_cons, List.map_nil]); first | done | rfl | (simp only [List.length_drop, List.length_take]; rfl)) ?_; (with_reducible refine (laws_heldIntS.calls k1 _ _ ((rd_T56 l0 x5_1).f2) (wrap64 ((wrap64 (x1_1 + 1)) + 1)) t222 _ ?side1 ?side2 A7.out).mono ?_); (case side1 => repeat (first | exact HR221_2.out | (with_reducible refine Kd.C_alloc ?_ _) | (with_reducible refine Kd.C_drewN ?_ _) | (with_reducible refine Kd.C_drew ?_))); (case side2 => exact HC221_2.out); rintro e w' ⟨rfl, ⟨nd, rfl⟩⟩; refine ⟨_, rfl, ?_⟩))
                go_roundg k1
                case measure => have := HK1.out; omega
                case rel => exact ⟨(t222), (wrap64 (x5_1 + 1)), (by first | rfl | (simp; done) | (simp [*]; done)), (by first | rfl | (simp; done) | (simp [*]; done)), H', ⟨by have := HK1.out; omega⟩, by repeat (first | exact Drawn0.refl _ | apply Drawn0.step)⟩
            · rw [if_neg c6] at H
              have c6b0 : (((rd_T56 l0 x5_1).f1) == (wrap64 (x1_1 + 1))) = false := beq_eq_false_iff_ne.mpr c6
              have c6b1 : (((rd_T56 l0 x5_1).f1) != (wrap64 (x1_1 + 1))) = true := bne_iff_ne.mpr c6
              obtain rfl := Option.some.inj H
              have p219 : 0 ≤ (x5_1 : Int) := of_decide_eq_true (by first | (with_reducible assumption) | assumption)
              have q219 : x5_1 < (l0.length : Int) := of_decide_eq_true (by first | (with_reducible assumption) | assumption)
              obtain ⟨ad219, A219_2, c219_2, e219, hx219_0, hx219_1, hx219_2, hl219_2, hi219_2⟩ := at_T56 HR0.out x5_1 p219 q219
              cases e219
              have HR219_2 := Aside0.mk hi219_2
              have HC219_2 := Aside0.mk hl219_2
              clear hi219_2 hl219_2
              replace p219 := eq_true p219
              replace q219 := eq_true q219
              have p220 : 0 ≤ (x5_1 : Int) := of_decide_eq_true (by first | (with_reducible assumption) | assumption)
              have q220 : x5_1 < (l0.length : Int) := of_decide_eq_true (by first | (with_reducible assumption) | assumption)
              obtain ⟨ad220, A220_2, c220_2, e220, hx220_0, hx220_1, hx220_2, hl220_2, hi220_2⟩ := at_T56 HR0.out x5_1 p220 q220
              obtain rfl : ad219 = ad220 := (by injection e220)
              have HR220_2 := Aside0.mk hi220_2
              have HC220_2 := Aside0.mk hl220_2
              clear hi220_2 hl220_2
              replace p220 := eq_true p220
              replace q220 := eq_true q220
              have ea_ := Option.some.inj (hx219_2.symm.trans hx220_2)
              injection ea_ with ea_ en_ ec_
              subst ea_
              subst ec_
              clear en_
              go_wp2
              go_ret
              exact ⟨by first | rfl | (simp; done) | (simp [*]; done), by repeat (first | exact Drawn0.refl _ | apply Drawn0.step)⟩
          · rw [if_neg c5] at H
            have c5b0 : (((rd_T56 l0 x5_1).f0) == x1_1) = false := beq_eq_false_iff_ne.mpr c5
            have c5b1 : (((rd_T56 l0 x5_1).f0) != x1_1) = true := bne_iff_ne.mpr c5
            obtain rfl := Option.some.inj H
            have p219 : 0 ≤ (x5_1 : Int) := of_decide_eq_true (by first | (with_reducible assumption) | assumption)
            have q219 : x5_1 < (l0.length : Int) := of_decide_eq_true (by first | (with_reducible assumption) | assumption)
            obtain ⟨ad219, A219_2, c219_2, e219, hx219_0, hx219_1, hx219_2, hl219_2, hi219_2⟩ := at_T56 HR0.out x5_1 p219 q219
            cases e219
            have HR219_2 := Aside0.mk hi219_2
            have HC219_2 := Aside0.mk hl219_2
            clear hi219_2 hl219_2
            replace p219 := eq_true p219
            replace q219 := eq_true q219
            go_wp2
            go_ret
            exact ⟨by first | rfl | (simp; done) | (simp [*]; done), by repeat (first | exact Drawn0.refl _ | apply Drawn0.step)⟩
        · rw [if_neg c4] at H
          exact absurd H (by simp)
      · rw [if_neg c3] at H
        have c3b0 : decide (x5_1 < (l0.length : Int)) = false := decide_eq_false c3
        clear c3
        obtain rfl := Option.some.inj H
        go_wp2
        go_ret
        exact ⟨by first | rfl | (simp; done) | (simp [*]; done), by repeat (first | exact Drawn0.refl _ | apply Drawn0.step)⟩

/-! ### laws_FnExactPayLoan: function 9 -/
def laws_FnExactPayLoan.f (k : Nat) (l0 : List (S68)) (a1 a2 a3 : Int) : Option Bool := (laws_szLoanS.f k l0 1048576).bind fun t1 => (if t1 < 0 then some true else ((laws_toLoanS.f k l0).bind fun t2 => ((spec_PayLoan.f k t2 a1 a2 a3).bind fun t3 => ((laws_toLoanS.f k l0).bind fun t4 => ((impl_PayLoan.f k t4 a1 a2 a3).bind fun t5 => ((laws_eqLoanS.f k t5 t3).bind fun t6 => (if t6 = true then ((laws_toLoanS.f k l0).bind fun t7 => ((laws_eqLoanS.f k t4 t7).bind fun t8 => (if t8 = true then ((laws_markLoanS.f k t4 1).bind fun b9 => (if 0 ≤ b9.1 then ((laws_eqLoanS.f k t5 t3).bind fun t10 => (if t10 = true then ((laws_markLoanS.f k t5 1).bind fun b11 => ((laws_heldLoanS.f k b11.2 1).bind fun t12 => (if 0 ≤ t12 then (if t12 = b11.1 then ((laws_toLoanS.f k l0).bind fun t13 => ((impl_PayLoan.f k t13 a1 a2 a3).bind fun t14 => ((laws_eqLoanS.f k t14 t3).bind fun t15 => (if t15 = true then ((laws_heldLoanS.f k b11.2 1).bind fun t16 => (if 0 ≤ t16 then (if t16 = b11.1 then (some true) else none) else none)) else none)))) else none) else none))) else none)) else none)) else none))) else none)))))))
/-- Two rows of rows that lie apart. -/
def J2 (base : Nat) (X : World) (u v : Value) (xs ys : List S56) : Prop := ∃ Q : Nat → Prop, Kd.S k56 56 X base (fun k => ¬ Q k) u xs ∧ Kd.S k56 56 X base Q v ys
/-- Three rows of rows that lie apart. -/
def J3 (base : Nat) (X : World) (u v z : Value) (xs ys zs : List S56) : Prop := ∃ Q R : Nat → Prop, Kd.S k56 56 X base (fun k => ¬ Q k ∧ ¬ R k) u xs ∧ Kd.S k56 56 X base Q v ys ∧ Kd.S k56 56 X base (fun k => R k ∧ ¬ Q k) z zs
section
variable {W w1 : World} {base : Nat} {u v z : Value} {xs ys zs : List S56}
theorem J2_make {ok4 ok6 : Nat → Prop} (h4 : Kd.S k56 56 W base ok4 u xs) (h6 : Kd.S k56 56 w1 W.heap.size ok6 v ys) (hle : base ≤ W.heap.size) (hb : Below W.heap.size W w1) : J2 base w1 u v xs ys :=
  ⟨fun k => W.heap.size ≤ k, Kd.S_mono (Kd.S_below (Kd.S_bound h4) hb) (fun k hk => Nat.not_le.2 hk.2.2.1), Kd.S_lower (Kd.S_mono (Kd.S_bound h6) (fun k hk => hk.2.1)) hle⟩
theorem J3_make {ok8 : Nat → Prop} (h : J2 base W u v xs ys) (h8 : Kd.S k56 56 w1 W.heap.size ok8 z zs) (hle : base ≤ W.heap.size) (hb : Below W.heap.size W w1) : J3 base w1 u v z xs ys zs := by
  obtain ⟨Q, h4, h6⟩ := h
  exact ⟨fun k => Q k ∧ k < W.heap.size, fun k => W.heap.size ≤ k, Kd.S_mono (Kd.S_below (Kd.S_bound h4) hb) (fun k hk => ⟨fun hq => hk.1 hq.1, Nat.not_le.2 hk.2.2.1⟩), Kd.S_mono (Kd.S_below (Kd.S_bound h6) hb) (fun k hk => ⟨hk.1, hk.2.2.1⟩), Kd.S_lower (Kd.S_mono (Kd.S_bound h8) (fun k hk => ⟨hk.2.1, fun hq => absurd hq.2 (Nat.not_lt.2 hk.2.1)⟩)) hle⟩
theorem J2_below (h : J2 base W u v xs ys) (hb : Below W.heap.size W w1) : J2 base w1 u v xs ys := by
  obtain ⟨Q, h4, h6⟩ := h
  exact ⟨Q, Kd.S_below h4 hb, Kd.S_below h6 hb⟩
theorem J3_below (h : J3 base W u v z xs ys zs) (hb : Below W.heap.size W w1) : J3 base w1 u v z xs ys zs := by
  obtain ⟨Q, R, h4, h6, h8⟩ := h
  exact ⟨Q, R, Kd.S_below h4 hb, Kd.S_below h6 hb, Kd.S_below h8 hb⟩
theorem J2_alloc (h : J2 base W u v xs ys) (o : Obj) : J2 base (W.alloc o) u v xs ys := J2_below h (below_alloc (Below.refl _ _) o)
theorem J2_drew (h : J2 base W u v xs ys) : J2 base W.drew u v xs ys := J2_below h (below_drew (Below.refl _ _))
theorem J2_drewN (h : J2 base W u v xs ys) (m : Nat) : J2 base (W.drewN m) u v xs ys := J2_below h (pw_below_drewN (Below.refl _ _) m)
theorem J3_alloc (h : J3 base W u v z xs ys zs) (o : Obj) : J3 base (W.alloc o) u v z xs ys zs := J3_below h (below_alloc (Below.refl _ _) o)
theorem J3_drew (h : J3 base W u v z xs ys zs) : J3 base W.drew u v z xs ys zs := J3_below h (below_drew (Below.refl _ _))
theorem J3_drewN (h : J3 base W u v z xs ys zs) (m : Nat) : J3 base (W.drewN m) u v z xs ys zs := J3_below h (pw_below_drewN (Below.refl _ _) m)
theorem J2_1 (h : J2 base W u v xs ys) : Kd.S k56 56 W base (fun _ => True) u xs := by obtain ⟨Q, h4, h6⟩ := h; exact Kd.S_mono h4 (fun _ _ => trivial)
theorem J2_2 (h : J2 base W u v xs ys) : Kd.S k56 56 W base (fun _ => True) v ys := by obtain ⟨Q, h4, h6⟩ := h; exact Kd.S_mono h6 (fun _ _ => trivial)
theorem J3_1 (h : J3 base W u v z xs ys zs) : Kd.S k56 56 W base (fun _ => True) u xs := by obtain ⟨Q, R, h4, h6, h8⟩ := h; exact Kd.S_mono h4 (fun _ _ => trivial)
theorem J3_2 (h : J3 base W u v z xs ys zs) : Kd.S k56 56 W base (fun _ => True) v ys := by obtain ⟨Q, R, h4, h6, h8⟩ := h; exact Kd.S_mono h6 (fun _ _ => trivial)
theorem J3_3 (h : J3 base W u v z xs ys zs) : Kd.S k56 56 W base (fun _ => True) z zs := by obtain ⟨Q, R, h4, h6, h8⟩ := h; exact Kd.S_mono h8 (fun _ _ => trivial)
end
set_option maxHeartbeats 16000000 in
set_option maxRecDepth 100000 in
theorem laws_FnExactPayLoan.calls (k : Nat) (A0 : Option Addr) (c0 : Nat) (l0 : List (S68)) (a1 : Int) (a2 : Int) (a3 : Int) (r : Bool) (w : World) (hr0 : Kd.C k68 w A0 l0.length l0) (hc0 : l0.length ≤ c0) (h : laws_FnExactPayLoan.f k l0 a1 a2 a3 = some r) :
    Calls Try.prog 9 #[.slice A0 l0.length c0, .int .i64 a1, .int .i64 a2, .int .i64 a3] w fun e w' => e = .returned (.bool r) ∧ Below w.heap.size w w' := by
  have HR0 := Aside0.mk hr0
  have HC0 := Aside0.mk hc0
  clear hr0 hc0
  have HB := Aside0.mk (Below.refl w.heap.size w)
  have st0 : True := trivial
  unfold laws_FnExactPayLoan.f at h
  replace h := Option.bind_eq_some_iff.mp h
  obtain ⟨t1, x1_, h⟩ := h
  have A1 := Aside0.mk x1_
  clear x1_
  by_cases c1 : t1 < 0
  · rw [if_pos c1] at h
    have c1b0 : decide (t1 < 0) = true := decide_eq_true c1
    clear c1
    obtain rfl := Option.some.inj h
    go_enter Try.func9, Try.ntmps9
    go_wp2_with (first | (go_at_call 20; clear st0; (refine (laws_szLoanS.calls k _ _ l0 1048576 t1 _ ?side1 ?side2 A1.out).mono ?_); (case side1 => (repeat (first | exact (Kd.C_below HR0.out (by repeat (first | (with_reducible first | exact HB.out | apply below_alloc | apply pw_below_drewN | apply below_drew1) | exact HB.out))) | exact HR0.out | (with_reducible refine Kd.C_alloc ?_ _) | (with_reducible refine Kd.C_drewN ?_ _) | (with_reducible refine Kd.C_drew ?_)))); (case side2 => exact HC0.out); rintro e w0 ⟨rfl, hb⟩; have n0_ := Aside0.mk (below_step (by repeat (first | (with_reducible first | exact HB.out | apply below_alloc | apply pw_below_drewN | apply below_drew1) | exact HB.out)) hb); clear HB; have HB := n0_; clear n0_; (try clear hb); (try clear ho0); (try clear hkp); have st1 : True := trivial))
    go_ret
    exact ⟨by first | rfl | (simp; done) | (simp [*]; done), (by repeat (first | (with_reducible first | exact HB.out | apply below_alloc | apply pw_below_drewN | apply below_drew1) | exact HB.out))⟩
  · rw [if_neg c1] at h
    have c1b0 : decide (t1 < 0) = false := decide_eq_false c1
    clear c1
    replace h := Option.bind_eq_some_iff.mp h
    obtain ⟨t2, x_, h⟩ := h
    have A2 := Aside0.mk x_
    clear x_
    replace h := Option.bind_eq_some_iff.mp h
    obtain ⟨t3, x_, h⟩ := h
    have A3 := Aside0.mk x_
    clear x_
    replace h := Option.bind_eq_some_iff.mp h
    obtain ⟨t4, x_, h⟩ := h
    have A4 := Aside0.mk x_
    clear x_
    replace h := Option.bind_eq_some_iff.mp h
    obtain ⟨t5, x_, h⟩ := h
    have A5 := Aside0.mk x_
    clear x_
    replace h := Option.bind_eq_some_iff.mp h
    obtain ⟨t6, x_, h⟩ := h
    have c_ : t6 = true := by
      by_cases c : t6 = true
      · exact c
      · rw [if_neg c] at h; exact absurd h (by simp)
    rw [if_pos c_] at h
    subst c_
    have A6 := Aside0.mk x_
    clear x_
    replace h := Option.bind_eq_some_iff.mp h
    obtain ⟨t7, x_, h⟩ := h
    have A7 := Aside0.mk x_
    clear x_
    replace h := Option.bind_eq_some_iff.mp h
    obtain ⟨t8, x_, h⟩ := h
    have c_ : t8 = true := by
      by_cases c : t8 = true
      · exact c
      · rw [if_neg c] at h; exact absurd h (by simp)
    rw [if_pos c_] at h
    subst c_
    have A8 := Aside0.mk x_
    clear x_
    replace h := Option.bind_eq_some_iff.mp h
    obtain ⟨⟨t9, r9⟩, x_, h⟩ := h
    simp only at h
    have c9_ : 0 ≤ t9 := by
      by_cases c : 0 ≤ t9
      · exact c
      · rw [if_neg c] at h; exact absurd h (by simp)
    rw [if_pos c9_] at h
    have c9b0 : decide (t9 < 0) = false := decide_eq_false (Int.not_lt.2 c9_)
    clear c9_
    have A9 := Aside0.mk x_
    clear x_
    replace h := Option.bind_eq_some_iff.mp h
    obtain ⟨t10, x_, h⟩ := h
    have c_ : t10 = true := by
      by_cases c : t10 = true
      · exact c
      · rw [if_neg c] at h; exact absurd h (by simp)
    rw [if_pos c_] at h
    subst c_
    have A10 := Aside0.mk x_
    clear x_
    replace h := Option.bind_eq_some_iff.mp h
    obtain ⟨⟨t11, r11⟩, x_, h⟩ := h
    simp only at h
    have A11 := Aside0.mk x_
    clear x_
    have L11 := Aside0.mk (laws_markLoanS.len A11.out)
    replace h := Option.bind_eq_some_iff.mp h
    obtain ⟨t12, x_, h⟩ := h
    have c_ : 0 ≤ t12 := by
      by_cases c : 0 ≤ t12
      · exact c
      · rw [if_neg c] at h; exact absurd h (by simp)
    rw [if_pos c_] at h
    have d_ : t12 = t11 := by
      by_cases c : t12 = t11
      · exact c
      · rw [if_neg c] at h; exact absurd h (by simp)
    rw [if_pos d_] at h
    subst d_
    have c12b0 : decide (t12 < 0) = false := decide_eq_false (Int.not_lt.2 c_)
    have c12b1 : (t12 != t12) = false := bne_self_eq_false t12
    clear c_
    have A12 := Aside0.mk x_
    clear x_
    replace h := Option.bind_eq_some_iff.mp h
    obtain ⟨t13, x_, h⟩ := h
    have A13 := Aside0.mk x_
    clear x_
    replace h := Option.bind_eq_some_iff.mp h
    obtain ⟨t14, x_, h⟩ := h
    have A14 := Aside0.mk x_
    clear x_
    replace h := Option.bind_eq_some_iff.mp h
    obtain ⟨t15, x_, h⟩ := h
    have c_ : t15 = true := by
      by_cases c : t15 = true
      · exact c
      · rw [if_neg c] at h; exact absurd h (by simp)
    rw [if_pos c_] at h
    subst c_
    have A15 := Aside0.mk x_
    clear x_
    replace h := Option.bind_eq_some_iff.mp h
    obtain ⟨t16, x_, h⟩ := h
    have c_ : 0 ≤ t16 := by
      by_cases c : 0 ≤ t16
      · exact c
      · rw [if_neg c] at h; exact absurd h (by simp)
    rw [if_pos c_] at h
    have d_ : t16 = t12 := by
      by_cases c : t16 = t12
      · exact c
      · rw [if_neg c] at h; exact absurd h (by simp)
    rw [if_pos d_] at h
    replace d_ := d_.symm
    subst d_
    clear c_
    have A16 := Aside0.mk x_
    clear x_
    obtain rfl := Option.some.inj h
    clear h
    go_enter Try.func9, Try.ntmps9
    go_wp2_with (first | (go_at_call 20; clear st0; (refine (laws_szLoanS.calls k _ _ l0 1048576 t1 _ ?side1 ?side2 A1.out).mono ?_); (case side1 => (repeat (first | exact (Kd.C_below HR0.out (by repeat (first | (with_reducible first | exact HB.out | apply below_alloc | apply pw_below_drewN | apply below_drew1) | exact HB.out))) | exact HR0.out | (with_reducible refine Kd.C_alloc ?_ _) | (with_reducible refine Kd.C_drewN ?_ _) | (with_reducible refine Kd.C_drew ?_)))); (case side2 => exact HC0.out); rintro e w0 ⟨rfl, hb⟩; have n0_ := Aside0.mk (below_step (by repeat (first | (with_reducible first | exact HB.out | apply below_alloc | apply pw_below_drewN | apply below_drew1) | exact HB.out)) hb); clear HB; have HB := n0_; clear n0_; (try clear hb); (try clear ho0); (try clear hkp); have st1 : True := trivial) | (go_at_call 22; clear st1; (refine (laws_toLoanS.calls k _ _ l0 t2 _ ?side1 ?side2 A2.out).mono ?_); (case side1 => (repeat (first | exact (Kd.C_below HR0.out (by repeat (first | (with_reducible first | exact HB.out | apply below_alloc | apply pw_below_drewN | apply below_drew1) | exact HB.out))) | exact HR0.out | (with_reducible refine Kd.C_alloc ?_ _) | (with_reducible refine Kd.C_drewN ?_ _) | (with_reducible refine Kd.C_drew ?_)))); (case side2 => exact HC0.out); rintro e w1 ⟨v2, rfl, ho0, hb⟩; have n0_ := Aside0.mk (Kd.S_lower ho0 (below_size (by repeat (first | (with_reducible first | exact HB.out | apply below_alloc | apply pw_below_drewN | apply below_drew1) | exact HB.out)))); have n1_ := Aside0.mk (below_step (by repeat (first | (with_reducible first | exact HB.out | apply below_alloc | apply pw_below_drewN | apply below_drew1) | exact HB.out)) hb); clear HB; have HT := n0_; have HB := n1_; clear n0_ n1_; (try clear hb); (try clear ho0); (try clear hkp); obtain ⟨Ao2, co2, eo2⟩ := Kd.S_slice HT.out; subst eo2; have st2 : True := trivial) | (go_at_call 17; clear st2; (refine (spec_PayLoan.calls k _ _ t2 a1 a2 a3 t3 _ ?side1 ?side2 A3.out).mono ?_); (case side1 => (repeat (first | exact (Kd.S_reads' HT.out).2.2 | (with_reducible refine Kd.C_alloc ?_ _) | (with_reducible refine Kd.C_drewN ?_ _) | (with_reducible refine Kd.C_drew ?_)))); (case side2 => exact (Kd.S_reads' HT.out).2.1); rintro e w2 ⟨v3, rfl, ho0, hb⟩; have n0_ := Aside0.mk (Kd.S_lower ho0 (below_size (by repeat (first | (with_reducible first | exact HB.out | apply below_alloc | apply pw_below_drewN | apply below_drew1) | exact HB.out)))); have n1_ := Aside0.mk (below_step (by repeat (first | (with_reducible first | exact HB.out | apply below_alloc | apply pw_below_drewN | apply below_drew1) | exact HB.out)) hb); clear HB HT; have HW := n0_; have HB := n1_; clear n0_ n1_; (try clear hb); (try clear ho0); (try clear hkp); obtain ⟨Ao3, co3, eo3⟩ := Kd.S_slice HW.out; subst eo3; have st3 : True := trivial) | (go_at_call 22; clear st3; (refine (laws_toLoanS.calls k _ _ l0 t4 _ ?side1 ?side2 A4.out).mono ?_); (case side1 => (repeat (first | exact (Kd.C_below HR0.out (by repeat (first | (with_reducible first | exact HB.out | apply below_alloc | apply pw_below_drewN | apply below_drew1) | exact HB.out))) | exact HR0.out | (with_reducible refine Kd.C_alloc ?_ _) | (with_reducible refine Kd.C_drewN ?_ _) | (with_reducible refine Kd.C_drew ?_)))); (case side2 => exact HC0.out); rintro e w3 ⟨v4, rfl, ho0, hb⟩; have n0_ := Aside0.mk (J2_make (by (with_reducible repeat (first | apply Kd.S_alloc | apply Kd.S_drewN | apply Kd.S_drew)); exact HW.out) ho0 (below_size (by repeat (first | (with_reducible first | exact HB.out | apply below_alloc | apply pw_below_drewN | apply below_drew1) | exact HB.out))) hb); have n1_ := Aside0.mk (below_step (by repeat (first | (with_reducible first | exact HB.out | apply below_alloc | apply pw_below_drewN | apply below_drew1) | exact HB.out)) hb); clear HB HW; have HJ := n0_; have HB := n1_; clear n0_ n1_; (try clear hb); (try clear ho0); (try clear hkp); obtain ⟨Ao4, co4, eo4⟩ := Kd.S_slice (J2_2 HJ.out); subst eo4; have st4 : True := trivial) | (go_at_call 15; clear st4; (refine (impl_PayLoan.calls k _ _ t4 a1 a2 a3 t5 _ ?side1 ?side2 A5.out).mono ?_); (case side1 => (repeat (first | exact (Kd.S_reads' (J2_2 HJ.out)).2.2 | (with_reducible refine Kd.C_alloc ?_ _) | (with_reducible refine Kd.C_drewN ?_ _) | (with_reducible refine Kd.C_drew ?_)))); (case side2 => exact (Kd.S_reads' (J2_2 HJ.out)).2.1); rintro e w4 ⟨v5, rfl, ho0, hb⟩; have n0_ := Aside0.mk (J3_make (by (with_reducible repeat (first | apply J2_alloc | apply J2_drewN | apply J2_drew)); exact HJ.out) ho0 (below_size (by repeat (first | (with_reducible first | exact HB.out | apply below_alloc | apply pw_below_drewN | apply below_drew1) | exact HB.out))) hb); have n1_ := Aside0.mk (below_step (by repeat (first | (with_reducible first | exact HB.out | apply below_alloc | apply pw_below_drewN | apply below_drew1) | exact HB.out)) hb); clear HJ HB; have HJ := n0_; have HB := n1_; clear n0_ n1_; (try clear hb); (try clear ho0); (try clear hkp); obtain ⟨Ao5, co5, eo5⟩ := Kd.S_slice (J3_3 HJ.out); subst eo5; have st5 : True := trivial) | (go_at_call 25; clear st5; (refine (laws_eqLoanS.calls k _ _ t5 _ _ t3 true _ ?side1 ?side2 ?side3 ?side4 A6.out).mono ?_); (case side1 => (repeat (first | exact (Kd.S_reads' (J3_3 HJ.out)).2.2 | (with_reducible refine Kd.C_alloc ?_ _) | (with_reducible refine Kd.C_drewN ?_ _) | (with_reducible refine Kd.C_drew ?_)))); (case side2 => exact (Kd.S_reads' (J3_3 HJ.out)).2.1); (case side3 => (repeat (first | exact (Kd.S_reads' (J3_1 HJ.out)).2.2 | (with_reducible refine Kd.C_alloc ?_ _) | (with_reducible refine Kd.C_drewN ?_ _) | (with_reducible refine Kd.C_drew ?_)))); (case side4 => exact (Kd.S_reads' (J3_1 HJ.out)).2.1); rintro e w5 ⟨rfl, hb⟩; have n0_ := Aside0.mk (J3_below (by (with_reducible repeat (first | apply J3_alloc | apply J3_drewN | apply J3_drew)); exact HJ.out) hb); have n1_ := Aside0.mk (below_step (by repeat (first | (with_reducible first | exact HB.out | apply below_alloc | apply pw_below_drewN | apply below_drew1) | exact HB.out)) hb); clear HJ HB; have HJ := n0_; have HB := n1_; clear n0_ n1_; (try clear hb); (try clear ho0); (try clear hkp); have st6 : True := trivial) | (go_at_call 22; clear st6; (refine (laws_toLoanS.calls k _ _ l0 t7 _ ?side1 ?side2 A7.out).mono ?_); (case side1 => (repeat (first | exact (Kd.C_below HR0.out (by repeat (first | (with_reducible first | exact HB.out | apply below_alloc | apply pw_below_drewN | apply below_drew1) | exact HB.out))) | exact HR0.out | (with_reducible refine Kd.C_alloc ?_ _) | (with_reducible refine Kd.C_drewN ?_ _) | (with_reducible refine Kd.C_drew ?_)))); (case side2 => exact HC0.out); rintro e w6 ⟨v7, rfl, ho0, hb⟩; have n0_ := Aside0.mk (Kd.S_lower ho0 (below_size (by repeat (first | (with_reducible first | exact HB.out | apply below_alloc | apply pw_below_drewN | apply below_drew1) | exact HB.out)))); have n1_ := Aside0.mk (J3_below (by (with_reducible repeat (first | apply J3_alloc | apply J3_drewN | apply J3_drew)); exact HJ.out) hb); have n2_ := Aside0.mk (below_step (by repeat (first | (with_reducible first | exact HB.out | apply below_alloc | apply pw_below_drewN | apply below_drew1) | exact HB.out)) hb); clear HJ HB; have HT := n0_; have HJ := n1_; have HB := n2_; clear n0_ n1_ n2_; (try clear hb); (try clear ho0); (try clear hkp); obtain ⟨Ao7, co7, eo7⟩ := Kd.S_slice HT.out; subst eo7; have st7 : True := trivial) | (go_at_call 25; clear st7; (refine (laws_eqLoanS.calls k _ _ t4 _ _ t7 true _ ?side1 ?side2 ?side3 ?side4 A8.out).mono ?_); (case side1 => (repeat (first | exact (Kd.S_reads' (J3_2 HJ.out)).2.2 | (with_reducible refine Kd.C_alloc ?_ _) | (with_reducible refine Kd.C_drewN ?_ _) | (with_reducible refine Kd.C_drew ?_)))); (case side2 => exact (Kd.S_reads' (J3_2 HJ.out)).2.1); (case side3 => (repeat (first | exact (Kd.S_reads' HT.out).2.2 | (with_reducible refine Kd.C_alloc ?_ _) | (with_reducible refine Kd.C_drewN ?_ _) | (with_reducible refine Kd.C_drew ?_)))); (case side4 => exact (Kd.S_reads' HT.out).2.1); rintro e w7 ⟨rfl, hb⟩; have n0_ := Aside0.mk (J3_below (by (with_reducible repeat (first | apply J3_alloc | apply J3_drewN | apply J3_drew)); exact HJ.out) hb); have n1_ := Aside0.mk (below_step (by repeat (first | (with_reducible first | exact HB.out | apply below_alloc | apply pw_below_drewN | apply below_drew1) | exact HB.out)) hb); clear HJ HB HT; have HJ := n0_; have HB := n1_; clear n0_ n1_; (try clear hb); (try clear ho0); (try clear hkp); have st8 : True := trivial) | (go_at_call 26; clear st8; obtain ⟨Q_, R_, hw_, hx_, hg_⟩ := HJ.out; (refine (laws_markLoanS.calls k Q_ (.slice Ao4 t4.length co4) t4 1 t9 r9 w _ ?side1 ?side2 A9.out).mono ?_); (case side1 => exact (by repeat (first | (with_reducible first | exact HB.out | apply below_alloc | apply pw_below_drewN | apply below_drew1) | exact HB.out))); (case side2 => exact (by (with_reducible repeat (first | apply Kd.S_alloc | apply Kd.S_drewN | apply Kd.S_drew)); exact hx_)); rintro e w8 ⟨rfl, -, hb, hkp⟩; have n0_ := Aside0.mk (show J2 w.heap.size w8 (.slice Ao3 t3.length co3) (.slice Ao5 t5.length co5) t3 t5 from ⟨fun k => R_ k ∧ ¬ Q_ k, Kd.S_mono (ok := fun k => ¬ Q_ k ∧ ¬ R_ k) (Kd.S_kept (by (with_reducible repeat (first | apply Kd.S_alloc | apply Kd.S_drewN | apply Kd.S_drew)); exact hw_) hkp (fun k hk => hk.1)) (fun k hk hq => hk.2 hq.1), Kd.S_kept (by (with_reducible repeat (first | apply Kd.S_alloc | apply Kd.S_drewN | apply Kd.S_drew)); exact hg_) hkp (fun k hk => hk.2)⟩); have n1_ := Aside0.mk hb; clear HJ HB hw_ hx_ hg_ hb hkp; have HJ := n0_; have HB := n1_; clear n0_ n1_; have st9 : True := trivial) | (go_at_call 25; clear st9; (refine (laws_eqLoanS.calls k _ _ t5 _ _ t3 true _ ?side1 ?side2 ?side3 ?side4 A10.out).mono ?_); (case side1 => (repeat (first | exact (Kd.S_reads' (J2_2 HJ.out)).2.2 | (with_reducible refine Kd.C_alloc ?_ _) | (with_reducible refine Kd.C_drewN ?_ _) | (with_reducible refine Kd.C_drew ?_)))); (case side2 => exact (Kd.S_reads' (J2_2 HJ.out)).2.1); (case side3 => (repeat (first | exact (Kd.S_reads' (J2_1 HJ.out)).2.2 | (with_reducible refine Kd.C_alloc ?_ _) | (with_reducible refine Kd.C_drewN ?_ _) | (with_reducible refine Kd.C_drew ?_)))); (case side4 => exact (Kd.S_reads' (J2_1 HJ.out)).2.1); rintro e w9 ⟨rfl, hb⟩; have n0_ := Aside0.mk (J2_below (by (with_reducible repeat (first | apply J2_alloc | apply J2_drewN | apply J2_drew)); exact HJ.out) hb); have n1_ := Aside0.mk (below_step (by repeat (first | (with_reducible first | exact HB.out | apply below_alloc | apply pw_below_drewN | apply below_drew1) | exact HB.out)) hb); clear HJ HB; have HJ := n0_; have HB := n1_; clear n0_ n1_; (try clear hb); (try clear ho0); (try clear hkp); have st10 : True := trivial) | (go_at_call 26; clear st10; obtain ⟨Q_, hw_, hg_⟩ := HJ.out; (refine (laws_markLoanS.calls k Q_ (.slice Ao5 t5.length co5) t5 1 t12 r11 w _ ?side1 ?side2 A11.out).mono ?_); (case side1 => exact (by repeat (first | (with_reducible first | exact HB.out | apply below_alloc | apply pw_below_drewN | apply below_drew1) | exact HB.out))); (case side2 => exact (by (with_reducible repeat (first | apply Kd.S_alloc | apply Kd.S_drewN | apply Kd.S_drew)); exact hg_)); rintro e w10 ⟨rfl, hy0, hb, hkp⟩; have n0_ := Aside0.mk (show Kd.S k56 56 w10 w.heap.size (fun _ => True) (.slice Ao3 t3.length co3) t3 from Kd.S_mono (ok := fun k => ¬ Q_ k) (Kd.S_kept (by (with_reducible repeat (first | apply Kd.S_alloc | apply Kd.S_drewN | apply Kd.S_drew)); exact hw_) hkp (fun k hk => hk)) (fun _ _ => trivial)); have n1_ := Aside0.mk (show Kd.S k56 56 w10 w.heap.size (fun _ => True) (.slice Ao5 r11.length co5) r11 from by have hl_ := L11.out; rw [hl_]; exact Kd.S_mono hy0 (fun _ _ => trivial)); have n2_ := Aside0.mk hb; clear HJ HB hw_ hg_ hb hkp hy0; have HW := n0_; have HG := n1_; have HB := n2_; clear n0_ n1_ n2_; have st11 : True := trivial) | (go_at_call 42; clear st11; (try rw [← L11.out]); (refine (laws_heldLoanS.calls k _ _ r11 1 t12 _ ?side1 ?side2 A12.out).mono ?_); (case side1 => (repeat (first | exact (Kd.S_reads' HG.out).2.2 | (with_reducible refine Kd.C_alloc ?_ _) | (with_reducible refine Kd.C_drewN ?_ _) | (with_reducible refine Kd.C_drew ?_)))); (case side2 => exact (Kd.S_reads' HG.out).2.1); rintro e w' ⟨rfl, ⟨nd, rfl⟩⟩; have st12 : True := trivial) | (go_at_call 22; clear st12; (refine (laws_toLoanS.calls k _ _ l0 t13 _ ?side1 ?side2 A13.out).mono ?_); (case side1 => (repeat (first | exact (Kd.C_below HR0.out (by repeat (first | (with_reducible first | exact HB.out | apply below_alloc | apply pw_below_drewN | apply below_drew1) | exact HB.out))) | exact HR0.out | (with_reducible refine Kd.C_alloc ?_ _) | (with_reducible refine Kd.C_drewN ?_ _) | (with_reducible refine Kd.C_drew ?_)))); (case side2 => exact HC0.out); rintro e w12 ⟨v13, rfl, ho0, hb⟩; have n0_ := Aside0.mk (Kd.S_lower ho0 (below_size (by repeat (first | (with_reducible first | exact HB.out | apply below_alloc | apply pw_below_drewN | apply below_drew1) | exact HB.out)))); have n1_ := Aside0.mk (Kd.S_below (by (with_reducible repeat (first | apply Kd.S_alloc | apply Kd.S_drewN | apply Kd.S_drew)); exact HW.out) hb); have n2_ := Aside0.mk (Kd.S_below (by (with_reducible repeat (first | apply Kd.S_alloc | apply Kd.S_drewN | apply Kd.S_drew)); exact HG.out) hb); have n3_ := Aside0.mk (below_step (by repeat (first | (with_reducible first | exact HB.out | apply below_alloc | apply pw_below_drewN | apply below_drew1) | exact HB.out)) hb); clear HW HG HB; have HT := n0_; have HW := n1_; have HG := n2_; have HB := n3_; clear n0_ n1_ n2_ n3_; (try clear hb); (try clear ho0); (try clear hkp); obtain ⟨Ao13, co13, eo13⟩ := Kd.S_slice HT.out; subst eo13; have st13 : True := trivial) | (go_at_call 15; clear st13; (refine (impl_PayLoan.calls k _ _ t13 a1 a2 a3 t14 _ ?side1 ?side2 A14.out).mono ?_); (case side1 => (repeat (first | exact (Kd.S_reads' HT.out).2.2 | (with_reducible refine Kd.C_alloc ?_ _) | (with_reducible refine Kd.C_drewN ?_ _) | (with_reducible refine Kd.C_drew ?_)))); (case side2 => exact (Kd.S_reads' HT.out).2.1); rintro e w13 ⟨v14, rfl, ho0, hb⟩; have n0_ := Aside0.mk (Kd.S_lower ho0 (below_size (by repeat (first | (with_reducible first | exact HB.out | apply below_alloc | apply pw_below_drewN | apply below_drew1) | exact HB.out)))); have n1_ := Aside0.mk (Kd.S_below (by (with_reducible repeat (first | apply Kd.S_alloc | apply Kd.S_drewN | apply Kd.S_drew)); exact HW.out) hb); have n2_ := Aside0.mk (Kd.S_below (by (with_reducible repeat (first | apply Kd.S_alloc | apply Kd.S_drewN | apply Kd.S_drew)); exact HG.out) hb); have n3_ := Aside0.mk (below_step (by repeat (first | (with_reducible first | exact HB.out | apply below_alloc | apply pw_below_drewN | apply below_drew1) | exact HB.out)) hb); clear HW HG HB HT; have HH := n0_; have HW := n1_; have HG := n2_; have HB := n3_; clear n0_ n1_ n2_ n3_; (try clear hb); (try clear ho0); (try clear hkp); obtain ⟨Ao14, co14, eo14⟩ := Kd.S_slice HH.out; subst eo14; have st14 : True := trivial) | (go_at_call 25; clear st14; (refine (laws_eqLoanS.calls k _ _ t14 _ _ t3 true _ ?side1 ?side2 ?side3 ?side4 A15.out).mono ?_); (case side1 => (repeat (first | exact (Kd.S_reads' HH.out).2.2 | (with_reducible refine Kd.C_alloc ?_ _) | (with_reducible refine Kd.C_drewN ?_ _) | (with_reducible refine Kd.C_drew ?_)))); (case side2 => exact (Kd.S_reads' HH.out).2.1); (case side3 => (repeat (first | exact (Kd.S_reads' HW.out).2.2 | (with_reducible refine Kd.C_alloc ?_ _) | (with_reducible refine Kd.C_drewN ?_ _) | (with_reducible refine Kd.C_drew ?_)))); (case side4 => exact (Kd.S_reads' HW.out).2.1); rintro e w14 ⟨rfl, hb⟩; have n0_ := Aside0.mk (Kd.S_below (by (with_reducible repeat (first | apply Kd.S_alloc | apply Kd.S_drewN | apply Kd.S_drew)); exact HG.out) hb); have n1_ := Aside0.mk (below_step (by repeat (first | (with_reducible first | exact HB.out | apply below_alloc | apply pw_below_drewN | apply below_drew1) | exact HB.out)) hb); clear HG HB HH HW; have HG := n0_; have HB := n1_; clear n0_ n1_; (try clear hb); (try clear ho0); (try clear hkp); have st15 : True := trivial) | (go_at_call 42; clear st15; (try rw [← L11.out]); (refine (laws_heldLoanS.calls k _ _ r11 1 t12 _ ?side1 ?side2 A16.out).mono ?_); (case side1 => (repeat (first | exact (Kd.S_reads' HG.out).2.2 | (with_reducible refine Kd.C_alloc ?_ _) | (with_reducible refine Kd.C_drewN ?_ _) | (with_reducible refine Kd.C_drew ?_)))); (case side2 => exact (Kd.S_reads' HG.out).2.1); rintro e w' ⟨rfl, ⟨nd, rfl⟩⟩; have st16 : True := trivial))
    go_ret
    exact ⟨by first | rfl | (simp; done) | (simp [*]; done), (by repeat (first | (with_reducible first | exact HB.out | apply below_alloc | apply pw_below_drewN | apply below_drew1) | exact HB.out))⟩

end Go.Proofs.Ytmipmnejppoeiaa.PFnExactPayLoan
