-- Laid by this session's own program: the kit's print, turned at a few places. Lean checks it.
import Derived.Test.YtmipmnejppoeiaaPFnMergeLoansx0
import Derived.Test.YtmipmnejppoeiaaPFnMergeLoansx6
namespace Go.Proofs.Ytmipmnejppoeiaa.PFnMergeLoans
open Go.RowKit Go.Proofs.YtmipmnejppoeiaaW.PrintWords Go.Proofs.YtmipmnejppoeiaaW.PrintLast Go.Proofs.YtmipmnejppoeiaaW.PrintMore
attribute [local go_sem] max2_int min2_int max_two min_two max_three min_three max_four min_four   -- for this text's walks alone
set_option linter.unusedVariables false
set_option linter.unusedSimpArgs false

/-! ### impl_Loan: function 76 -/
def impl_Loan.clo (k : Nat) (m0 : Int) (ml : List Int) (b : Int) (ll : List Int) : Option Bool := if m0 = b then slices_Equal_int_int.f k ml ll else some false
theorem impl_Loan.clo_mono : ∀ m0 ml b ll k, LeO (impl_Loan.clo k m0 ml b ll) (impl_Loan.clo (k + 1) m0 ml b ll) := by
 intro m0 ml b ll k
 unfold impl_Loan.clo
 split
 ·exact slices_Equal_int_int.mono _ _ _
 ·exact LeO.refl _
def impl_Loan.l0 : Nat → List S56 → Int → List Int → Int → Int → Option Int
 | 0, _, _, _, _, _ => none
 | k + 1, x0, b, ll, n, i => if i < n then (if 0 ≤ i then (if i < (x0.length : Int) then ((impl_Loan.clo k (rd_T56 x0 i).f0 (rd_T56 x0 i).f2 b ll).bind fun t => (if t = true then some i else impl_Loan.l0 k x0 b ll n (wrap64 (i + 1)))) else none) else none) else some (-1)
def impl_Loan.f (k : Nat) (l0 : List S56) (a1_0 : Int) (a1_1 : Int) (l1_2 : List Int) : Option Int := impl_Loan.l0 k l0 a1_0 l1_2 (l0.length : Int) 0
theorem impl_Loan.mono_l : ∀ k, (∀ y0 y1 y2 y3 y4, LeO (impl_Loan.l0 k y0 y1 y2 y3 y4) (impl_Loan.l0 (k + 1) y0 y1 y2 y3 y4))
 | 0 => fun _ _ _ _ _ r h => by simp [impl_Loan.l0] at h
 | k + 1 => by
  have ih0 := impl_Loan.mono_l k
  ·intro y0 y1 y2 y3 y4
   unfold impl_Loan.l0
   repeat' first
   | (with_reducible exact ih0 _ _ _ _ _)
   | (with_reducible exact impl_Loan.clo_mono _ _ _ _ _)
   | (with_reducible exact LeO.refl _)
   | (with_reducible exact LeO.none _)
   | (with_reducible refine LeO.ite ?_ ?_)
   | (with_reducible refine LeO.bind ?_ (fun _ => ?_))
   | exact ih0 _ _ _ _ _
   | exact LeO.none _
   | refine LeO.ite ?_ ?_
   | refine LeO.bind ?_ (fun _ => ?_)
theorem impl_Loan.mono : ∀ a0 a1 a2 a3 k, LeO (impl_Loan.f k a0 a1 a2 a3) (impl_Loan.f (k + 1) a0 a1 a2 a3) := by
 intro a0 a1 a2 a3 k
 exact impl_Loan.mono_l k a0 a1 a3 _ 0
set_option maxHeartbeats 8000000 in
set_option maxRecDepth 100000 in
theorem impl_Loan.clo_calls (k : Nat) (m0 m1 : Int) (Am : Option Addr) (cm : Nat) (ml : List Int) (g : Nat) (b : Int) (Al : Option Addr) (cl : Nat) (ll : List Int) (r : Bool) (w : World) (hm : Kd.C (Kd.int .i64) w Am ml.length ml) (hcm : ml.length ≤ cm) (hl : Kd.C (Kd.int .i64) w Al ll.length ll) (hcl : ll.length ≤ cl) (g0 : w.cell? ⟨g, 0, none⟩ = some (.int .i64 b)) (g2 : w.cell? ⟨g, 2, none⟩ = some (.slice Al ll.length cl)) (h : impl_Loan.clo k m0 ml b ll = some r) :
  Calls Try.prog 77 #[.agg #[.int .i64 m0, .int .i64 m1, .slice Am ml.length cm], .pointer (some ⟨g, 0, none⟩)] w fun e w' => e = .returned (.bool r) ∧ Below w.heap.size w w' := by
 have HM := Aside0.mk hm
 have HL := Aside0.mk hl
 have HMC := Aside0.mk hcm
 have HLC := Aside0.mk hcl
 have G0 := Aside0.mk g0
 have G2 := Aside0.mk g2
 clear hm hl hcm hcl g0 g2
 have HB := Aside0.mk (Below.refl w.heap.size w)
 unfold impl_Loan.clo at h
 by_cases c : m0 = b
 ·rw [if_pos c] at h
  have c3b0 : (m0 == b) = true := beq_iff_eq.mpr c
  have c3b1 : (m0 != b) = false := bne_eq_false_iff_eq.mpr c
  clear c
  have A1 := Aside0.mk h
  clear h
  go_enter Try.func77, Try.ntmps77
  go_wp2_with (first | ((with_reducible refine gate_dst (N := 2) rfl ?_); refine box_event ?hg (N := 2) ?hd (cs := #[.int .i64 m0, .int .i64 m1, .slice Am ml.length cm]) (t := 56) ?hr ?_; (case hd => rfl); (case hg => rfl); (case hr => first | (go_simp; done) | (go_simp; rfl)); intro gb hg w7 hbox hb; have n0_ := Aside0.mk (below_step (by repeat (first | (with_reducible first | exact HB.out | apply below_alloc | apply pw_below_drewN | apply below_drew1) | exact HB.out)) hb); have BK := Aside0.mk hbox; clear HB; have HB := n0_; clear n0_; have e0 := (HB.out.cell (World.block_lt_of_cell? w _ G0.out)).trans G0.out; have e2 := (HB.out.cell (World.block_lt_of_cell? w _ G2.out)).trans G2.out; have z0 : w7.cell? ⟨gb, 0, none⟩ = some (.int .i64 m0) := (blk_cell BK.out 0).trans rfl; have z1 : w7.cell? ⟨gb, 1, none⟩ = some (.int .i64 m1) := (blk_cell BK.out 1).trans rfl; have z2 : w7.cell? ⟨gb, 2, none⟩ = some (.slice Am ml.length cm) := (blk_cell BK.out 2).trans rfl; clear hb hbox hg) | (go_at_call 78; (refine (slices_Equal_int_int.calls k Am cm ml Al cl ll r _ ?side1 ?side2 ?side3 ?side4 A1.out).mono ?_); (case side1 => (repeat (first | exact (Kd.C_below HM.out (by repeat (first | (with_reducible first | exact HB.out | apply below_alloc | apply pw_below_drewN | apply below_drew1) | exact HB.out))) | (with_reducible refine Kd.C_alloc ?_ _) | (with_reducible refine Kd.C_drewN ?_ _) | (with_reducible refine Kd.C_drew ?_)))); (case side2 => exact HMC.out); (case side3 => (repeat (first | exact (Kd.C_below HL.out (by repeat (first | (with_reducible first | exact HB.out | apply below_alloc | apply pw_below_drewN | apply below_drew1) | exact HB.out))) | (with_reducible refine Kd.C_alloc ?_ _) | (with_reducible refine Kd.C_drewN ?_ _) | (with_reducible refine Kd.C_drew ?_)))); (case side4 => exact HLC.out); rintro e w9 ⟨rfl, ⟨nd, rfl⟩⟩))
  go_ret
  exact ⟨by first | rfl | (simp; done) | (simp [*]; done), by repeat (first | (with_reducible first | exact HB.out | apply below_alloc | apply pw_below_drewN | apply below_drew1) | exact HB.out)⟩
 ·rw [if_neg c] at h
  have c3b0 : (m0 == b) = false := beq_eq_false_iff_ne.mpr c
  have c3b1 : (m0 != b) = true := bne_iff_ne.mpr c
  clear c
  obtain rfl := Option.some.inj h
  go_enter Try.func77, Try.ntmps77
  go_wp2_with (first | ((with_reducible refine gate_dst (N := 2) rfl ?_); refine box_event ?hg (N := 2) ?hd (cs := #[.int .i64 m0, .int .i64 m1, .slice Am ml.length cm]) (t := 56) ?hr ?_; (case hd => rfl); (case hg => rfl); (case hr => first | (go_simp; done) | (go_simp; rfl)); intro gb hg w7 hbox hb; have n0_ := Aside0.mk (below_step (by repeat (first | (with_reducible first | exact HB.out | apply below_alloc | apply pw_below_drewN | apply below_drew1) | exact HB.out)) hb); have BK := Aside0.mk hbox; clear HB; have HB := n0_; clear n0_; have e0 := (HB.out.cell (World.block_lt_of_cell? w _ G0.out)).trans G0.out; have e2 := (HB.out.cell (World.block_lt_of_cell? w _ G2.out)).trans G2.out; have z0 : w7.cell? ⟨gb, 0, none⟩ = some (.int .i64 m0) := (blk_cell BK.out 0).trans rfl; have z1 : w7.cell? ⟨gb, 1, none⟩ = some (.int .i64 m1) := (blk_cell BK.out 1).trans rfl; have z2 : w7.cell? ⟨gb, 2, none⟩ = some (.slice Am ml.length cm) := (blk_cell BK.out 2).trans rfl; clear hb hbox hg))
  go_ret
  exact ⟨by first | rfl | (simp; done) | (simp [*]; done), by repeat (first | (with_reducible first | exact HB.out | apply below_alloc | apply pw_below_drewN | apply below_drew1) | exact HB.out)⟩
set_option maxHeartbeats 8000000 in
set_option maxRecDepth 100000 in
theorem impl_Loan.calls (k : Nat) (A0 : Option Addr) (c0 : Nat) (l0 : List S56) (a1_0 : Int) (a1_1 : Int) (A1_2 : Option Addr) (c1_2 : Nat) (l1_2 : List Int) (r : Int) (g : Nat) (w : World) (hr0 : Kd.C k56 w A0 l0.length l0) (hc0 : l0.length ≤ c0) (hr1_2 : Kd.C (Kd.int .i64) w A1_2 l1_2.length l1_2) (hc1_2 : l1_2.length ≤ c1_2) (g0 : w.cell? ⟨g, 0, none⟩ = some (.int .i64 a1_0)) (g2 : w.cell? ⟨g, 2, none⟩ = some (.slice A1_2 l1_2.length c1_2)) (h : impl_Loan.f k l0 a1_0 a1_1 l1_2 = some r) :
  Calls Try.prog 76 #[.slice A0 l0.length c0, .func (.func 77) #[] #[.pointer (some ⟨g, 0, none⟩)]] w fun e w' => e = .returned (.int .i64 r) ∧ Below w.heap.size w w' := by
 have HR0 := Aside0.mk hr0
 have HC0 := Aside0.mk hc0
 have HR1 := Aside0.mk hr1_2
 have HC1 := Aside0.mk hc1_2
 have G0 := Aside0.mk g0
 have G2 := Aside0.mk g2
 clear hr0 hc0 hr1_2 hc1_2 g0 g2
 have HB := Aside0.mk (Below.refl w.heap.size w)
 have H' := Aside0.mk (show impl_Loan.l0 k l0 a1_0 l1_2 (l0.length : Int) 0 = some r from h)
 clear h
 go_enter Try.func76, Try.ntmps76
 go_wp2
 go_loopg [8] k (fun kq v8 w' => ∃ (x8_1 : Int), v8 = .int .i64 x8_1 ∧ Aside0 (impl_Loan.l0 kq l0 a1_0 l1_2 (l0.length : Int) x8_1 = some r) ∧ Aside0 (kq ≤ k) ∧ Aside0 (Below w.heap.size w w'))
 case atStart => exact ⟨(0), (by first | rfl | (simp; done) | (simp [*]; done)), H', ⟨Nat.le_refl _⟩, ⟨by repeat (first | (with_reducible first | exact HB.out | apply below_alloc | apply pw_below_drewN | apply below_drew1) | exact HB.out)⟩⟩
 case round =>
  clear H' HB
  obtain ⟨x8_1, rfl, HA, HK1, HB⟩ := hrel
  cases gk with
  | zero => exact absurd HA.out (by simp [impl_Loan.l0])
  | succ k1 =>
   have H := HA.out
   clear HA
   simp only [impl_Loan.l0] at H
   by_cases c3 : x8_1 < (l0.length : Int)
   ·rw [if_pos c3] at H
    have c3b0 : decide (x8_1 < (l0.length : Int)) = true := decide_eq_true c3
    by_cases c4 : 0 ≤ x8_1
    ·rw [if_pos c4, if_pos c3] at H
     have c4b0 : decide (0 ≤ x8_1) = true := decide_eq_true c4
     clear c4 c3
     replace H := Option.bind_eq_some_iff.mp H
     obtain ⟨t6, A60, H⟩ := H
     have A6 := Aside0.mk A60
     clear A60
     by_cases c6 : t6 = true
     ·subst c6
      rw [if_pos rfl] at H
      obtain rfl := Option.some.inj H
      clear H
      have p215 : 0 ≤ (x8_1 : Int) := of_decide_eq_true (by first | (with_reducible assumption) | assumption)
      have q215 : x8_1 < (l0.length : Int) := of_decide_eq_true (by first | (with_reducible assumption) | assumption)
      obtain ⟨ad215, A3, c3_, e215, hx215_0, hx215_1, hx215_2, hl215, hi215⟩ := at_T56 HR0.out x8_1 p215 q215
      cases e215
      replace hx215_0 := (HB.out.cell (World.block_lt_of_cell? w _ hx215_0)).trans hx215_0
      replace hx215_1 := (HB.out.cell (World.block_lt_of_cell? w _ hx215_1)).trans hx215_1
      replace hx215_2 := (HB.out.cell (World.block_lt_of_cell? w _ hx215_2)).trans hx215_2
      have HRE := Aside0.mk hi215
      have HCE := Aside0.mk hl215
      clear hi215 hl215; replace p215 := eq_true p215; replace q215 := eq_true q215
      go_wp2_with (first | (go_at_call 77; (refine (impl_Loan.clo_calls k1 (rd_T56 l0 x8_1).f0 (rd_T56 l0 x8_1).f1 A3 c3_ (rd_T56 l0 x8_1).f2 g a1_0 A1_2 c1_2 l1_2 true _ ?side1 ?side2 ?side3 ?side4 ?side5 ?side6 A6.out).mono ?_); (case side1 => (repeat (first | exact (Kd.C_below HRE.out (by repeat (first | (with_reducible first | exact HB.out | apply below_alloc | apply pw_below_drewN | apply below_drew1) | exact HB.out))) | (with_reducible refine Kd.C_alloc ?_ _) | (with_reducible refine Kd.C_drewN ?_ _) | (with_reducible refine Kd.C_drew ?_)))); (case side2 => exact HCE.out); (case side3 => (repeat (first | exact (Kd.C_below HR1.out (by repeat (first | (with_reducible first | exact HB.out | apply below_alloc | apply pw_below_drewN | apply below_drew1) | exact HB.out))) | (with_reducible refine Kd.C_alloc ?_ _) | (with_reducible refine Kd.C_drewN ?_ _) | (with_reducible refine Kd.C_drew ?_)))); (case side4 => exact HC1.out); (case side5 => exact (Below.cell (by repeat (first | (with_reducible first | exact HB.out | apply below_alloc | apply pw_below_drewN | apply below_drew1) | exact HB.out)) (World.block_lt_of_cell? w _ G0.out)).trans G0.out); (case side6 => exact (Below.cell (by repeat (first | (with_reducible first | exact HB.out | apply below_alloc | apply pw_below_drewN | apply below_drew1) | exact HB.out)) (World.block_lt_of_cell? w _ G2.out)).trans G2.out); rintro e w9 ⟨rfl, hb⟩; have n0_ := Aside0.mk (below_step (by repeat (first | (with_reducible first | exact HB.out | apply below_alloc | apply pw_below_drewN | apply below_drew1) | exact HB.out)) hb); clear HB; have HB := n0_; clear n0_ hb))
      go_ret
      exact ⟨by first | rfl | (simp; done) | (simp [*]; done), by repeat (first | (with_reducible first | exact HB.out | apply below_alloc | apply pw_below_drewN | apply below_drew1) | exact HB.out)⟩
     ·rw [if_neg c6] at H
      replace c6 := Bool.eq_false_iff.mpr c6
      subst c6
      have H' := Aside0.mk H
      clear H
      have p215 : 0 ≤ (x8_1 : Int) := of_decide_eq_true (by first | (with_reducible assumption) | assumption)
      have q215 : x8_1 < (l0.length : Int) := of_decide_eq_true (by first | (with_reducible assumption) | assumption)
      obtain ⟨ad215, A3, c3_, e215, hx215_0, hx215_1, hx215_2, hl215, hi215⟩ := at_T56 HR0.out x8_1 p215 q215
      cases e215
      replace hx215_0 := (HB.out.cell (World.block_lt_of_cell? w _ hx215_0)).trans hx215_0
      replace hx215_1 := (HB.out.cell (World.block_lt_of_cell? w _ hx215_1)).trans hx215_1
      replace hx215_2 := (HB.out.cell (World.block_lt_of_cell? w _ hx215_2)).trans hx215_2
      have HRE := Aside0.mk hi215
      have HCE := Aside0.mk hl215
      clear hi215 hl215; replace p215 := eq_true p215; replace q215 := eq_true q215
      go_wp2_with (first | (go_at_call 77; (refine (impl_Loan.clo_calls k1 (rd_T56 l0 x8_1).f0 (rd_T56 l0 x8_1).f1 A3 c3_ (rd_T56 l0 x8_1).f2 g a1_0 A1_2 c1_2 l1_2 false _ ?side1 ?side2 ?side3 ?side4 ?side5 ?side6 A6.out).mono ?_); (case side1 => (repeat (first | exact (Kd.C_below HRE.out (by repeat (first | (with_reducible first | exact HB.out | apply below_alloc | apply pw_below_drewN | apply below_drew1) | exact HB.out))) | (with_reducible refine Kd.C_alloc ?_ _) | (with_reducible refine Kd.C_drewN ?_ _) | (with_reducible refine Kd.C_drew ?_)))); (case side2 => exact HCE.out); (case side3 => (repeat (first | exact (Kd.C_below HR1.out (by repeat (first | (with_reducible first | exact HB.out | apply below_alloc | apply pw_below_drewN | apply below_drew1) | exact HB.out))) | (with_reducible refine Kd.C_alloc ?_ _) | (with_reducible refine Kd.C_drewN ?_ _) | (with_reducible refine Kd.C_drew ?_)))); (case side4 => exact HC1.out); (case side5 => exact (Below.cell (by repeat (first | (with_reducible first | exact HB.out | apply below_alloc | apply pw_below_drewN | apply below_drew1) | exact HB.out)) (World.block_lt_of_cell? w _ G0.out)).trans G0.out); (case side6 => exact (Below.cell (by repeat (first | (with_reducible first | exact HB.out | apply below_alloc | apply pw_below_drewN | apply below_drew1) | exact HB.out)) (World.block_lt_of_cell? w _ G2.out)).trans G2.out); rintro e w9 ⟨rfl, hb⟩; have n0_ := Aside0.mk (below_step (by repeat (first | (with_reducible first | exact HB.out | apply below_alloc | apply pw_below_drewN | apply below_drew1) | exact HB.out)) hb); clear HB; have HB := n0_; clear n0_ hb))
      go_roundg k1
      case measure => have := HK1.out; omega
      case rel => exact ⟨(wrap64 (x8_1 + 1)), (by first | rfl | (simp; done) | (simp [*]; done)), H', ⟨by have := HK1.out; omega⟩, ⟨by repeat (first | (with_reducible first | exact HB.out | apply below_alloc | apply pw_below_drewN | apply below_drew1) | exact HB.out)⟩⟩
    ·rw [if_neg c4] at H
     exact absurd H (by simp)
   ·rw [if_neg c3] at H
    have c3b0 : decide (x8_1 < (l0.length : Int)) = false := decide_eq_false c3
    clear c3
    obtain rfl := Option.some.inj H
    go_wp2
    go_ret
    exact ⟨by first | rfl | (simp; done) | (simp [*]; done), by repeat (first | (with_reducible first | exact HB.out | apply below_alloc | apply pw_below_drewN | apply below_drew1) | exact HB.out)⟩

/-! ### impl_MergeLoans: function 44 -/
def impl_MergeLoans.l0 : Nat → List (S56) → List (S56) → Int → Int → Option ((List (S56)) × Bool)
 | 0, _, _, _, _ => none
 | k + 1, x6, x15, x16, x17 => if x17 < x16 then (if 0 ≤ x17 then (if x17 < (x15.length : Int) then ((impl_Loan.f k x6 ((rd_T56 x15 x17).f0) ((rd_T56 x15 x17).f1) ((rd_T56 x15 x17).f2)).bind fun t237 => (if t237 < 0 then (if x6.length < 3518437208883 then (impl_MergeLoans.l0 k (x6 ++ [(⟨(rd_T56 x15 x17).f0, (rd_T56 x15 x17).f1, (rd_T56 x15 x17).f2⟩ : S56)]) x15 x16 (wrap64 (x17 + 1))) else (none)) else (if 0 ≤ t237 then (if t237 < (x6.length : Int) then (if (wrap64 (((rd_T56 x6 t237).f1) + ((rd_T56 x15 x17).f1))) > 100000 then (some (([] : List (S56)), false)) else (impl_MergeLoans.l0 k (x6.set (t237 : Int).toNat (⟨(rd_T56 x6 t237).f0, wrap64 (((rd_T56 x6 t237).f1) + ((rd_T56 x15 x17).f1)), (rd_T56 x6 t237).f2⟩ : S56)) x15 x16 (wrap64 (x17 + 1)))) else (none)) else (none)))) else (none)) else (none)) else (some (x6, true))
def impl_MergeLoans.f (k : Nat) (l0 : List (S56)) (a1 : Int) : Option ((List (S56)) × Bool) := (impl_ValidLoans.f k l0 a1).bind fun t231 => (if t231 = true then ((impl_copyLoans.f k l0).bind fun t232 => (impl_MergeLoans.l0 k ([] : List (S56)) t232 (t232.length : Int) 0)) else (some (([] : List (S56)), false)))
theorem impl_MergeLoans.mono_l : ∀ k, (∀ y0 y1 y2 y3, LeO (impl_MergeLoans.l0 k y0 y1 y2 y3) (impl_MergeLoans.l0 (k + 1) y0 y1 y2 y3))
 | 0 => fun _ _ _ _ r h => by simp [impl_MergeLoans.l0] at h
 | k + 1 => by
  have ih0 := impl_MergeLoans.mono_l k
  ·intro y0 y1 y2 y3
   unfold impl_MergeLoans.l0
   repeat' first
   | (with_reducible exact ih0 _ _ _ _)
   | (with_reducible exact impl_Loan.mono _ _ _ _ _)
   | (with_reducible exact impl_ValidLoans.mono _ _ _)
   | (with_reducible exact impl_copyLoans.mono _ _)
   | (with_reducible exact LeO.refl _)
   | (with_reducible exact LeO.none _)
   | (with_reducible refine LeO.ite ?_ ?_)
   | (with_reducible refine LeO.bind ?_ (fun _ => ?_))
   | exact ih0 _ _ _ _
   | exact impl_Loan.mono _ _ _ _ _
   | exact impl_ValidLoans.mono _ _ _
   | exact impl_copyLoans.mono _ _
   | exact LeO.none _
   | refine LeO.ite ?_ ?_
   | refine LeO.bind ?_ (fun _ => ?_)
theorem impl_MergeLoans.mono : ∀ a0 a1 k, LeO (impl_MergeLoans.f k a0 a1) (impl_MergeLoans.f (k + 1) a0 a1) := by
 intro a0 a1 k
 have ih0 := impl_MergeLoans.mono_l k
 unfold impl_MergeLoans.f
 repeat' first
   | (with_reducible exact ih0 _ _ _ _)
   | (with_reducible exact impl_Loan.mono _ _ _ _ _)
   | (with_reducible exact impl_ValidLoans.mono _ _ _)
   | (with_reducible exact impl_copyLoans.mono _ _)
   | (with_reducible exact LeO.refl _)
   | (with_reducible exact LeO.none _)
   | (with_reducible refine LeO.ite ?_ ?_)
   | (with_reducible refine LeO.bind ?_ (fun _ => ?_))
   | exact ih0 _ _ _ _
   | exact impl_Loan.mono _ _ _ _ _
   | exact impl_ValidLoans.mono _ _ _
   | exact impl_copyLoans.mono _ _
   | exact LeO.none _
   | refine LeO.ite ?_ ?_
   | refine LeO.bind ?_ (fun _ => ?_)
def impl_MergeLoans.T10 : Bool × List (List Nat × List Nat) := (true, [([], []), ([], []), ([0, 1], [0, 1]), ([2], [2]), ([3], [3]), ([], []), ([5], [5]), ([4, 6], [4, 6]), ([0, 1, 0, 1, 2, 3, 4, 5, 6, 7], [0, 1]), ([8, 0, 1, 2, 3, 4, 5, 6, 7], [8]), ([9, 7, 0, 1, 2, 3, 4, 5, 6, 7], [7, 9])])
def impl_MergeLoans.B10 : List Nat := [0, 0, 3, 7, 15, 0, 32, 127, 255, 511, 1023]
theorem impl_MergeLoans.tab10 : rtab .any (opsOf Try.f44 10) = impl_MergeLoans.T10 := by kernel_rfl
theorem impl_MergeLoans.bits10 : waitsOk impl_MergeLoans.T10.2 impl_MergeLoans.B10 = true := by kernel_rfl
set_option maxHeartbeats 8000000 in
set_option maxRecDepth 100000 in
theorem impl_MergeLoans.calls (k : Nat) (A0 : Option Addr) (c0 : Nat) (l0 : List (S56)) (a1 : Int) (r1 : List (S56)) (r2 : Bool) (w : World) (hr0 : Kd.C k56 w A0 l0.length l0) (hc0 : l0.length ≤ c0) (h : impl_MergeLoans.f k l0 a1 = some (r1, r2)) :
  Calls Try.prog 44 #[.slice A0 l0.length c0, .int .i64 a1] w fun e w' => ∃ v0_ : Value, e = .returned (.tuple #[v0_, .bool r2]) ∧ Kd.N k56 56 w' w.heap.size (fun k_ => (w.heap.size ≤ k_)) v0_ r1 ∧ Below w.heap.size w w' := by
 have hu56 := Try.underlying56
 have HR0 := Aside0.mk hr0
 have HC0 := Aside0.mk hc0
 clear hr0 hc0
 have HB := Aside0.mk (Below.refl w.heap.size w)
 have H : ((impl_ValidLoans.f k l0 a1).bind fun t231 => (if t231 = true then ((impl_copyLoans.f k l0).bind fun t232 => (impl_MergeLoans.l0 k ([] : List (S56)) t232 (t232.length : Int) 0)) else (some (([] : List (S56)), false)))) = some (r1, r2) := h
 clear h
 replace H := Option.bind_eq_some_iff.mp H
 obtain ⟨t231, A30, H⟩ := H
 replace H : (if t231 = true then ((impl_copyLoans.f k l0).bind fun t232 => (impl_MergeLoans.l0 k ([] : List (S56)) t232 (t232.length : Int) 0)) else (some (([] : List (S56)), false))) = some (r1, r2) := H
 have A3 := Aside0.mk A30
 clear A30
 by_cases c4 : t231 = true
 ·subst c4
  have H1 : ((impl_copyLoans.f k l0).bind fun t232 => (impl_MergeLoans.l0 k ([] : List (S56)) t232 (t232.length : Int) 0)) = some (r1, r2) := by rw [if_pos rfl] at H; exact H
  clear H; have H := H1; clear H1
  replace H := Option.bind_eq_some_iff.mp H
  obtain ⟨t232, A50, H⟩ := H
  replace H : (impl_MergeLoans.l0 k ([] : List (S56)) t232 (t232.length : Int) 0) = some (r1, r2) := H
  have A5 := Aside0.mk A50
  clear A50
  have H' := Aside0.mk H
  clear H
  go_enter Try.func44, Try.ntmps44
  go_wp2_with (first | ((with_reducible refine gate_callee (f := 19) rfl ?_); refine goesL_ (some 12) rfl rfl Try.func19 (by kernel_rfl) rfl #[.slice A0 l0.length c0, .int .i64 a1] rfl (by (try simp only [List.map_toArray, List.map_cons, List.map_nil]); first | done | rfl | (simp only [List.length_drop, List.length_take]; rfl)) ?_; (with_reducible refine (impl_ValidLoans.calls k _ _ l0 a1 true _ ?side1 ?side2 A3.out).mono ?_); (case side1 => repeat (first | exact HR0.out | (with_reducible refine Kd.C_alloc ?_ _) | (with_reducible refine Kd.C_drewN ?_ _) | (with_reducible refine Kd.C_drew ?_))); (case side2 => exact HC0.out); rintro e w6 ⟨rfl, hb⟩; refine ⟨_, rfl, ?_⟩; have n0_ := Aside0.mk (below_step (by repeat (first | (with_reducible first | exact HB.out | apply below_alloc | apply pw_below_drewN | apply below_drew1) | exact HB.out)) hb); clear HB; have HB := n0_; clear n0_; (try clear hb); (try clear hb2); (try clear hk); (try clear hi)) | ((with_reducible refine gate_callee (f := 54) rfl ?_); refine goesL_ (some 15) rfl rfl Try.func54 (by kernel_rfl) rfl #[.slice A0 l0.length c0] rfl (by (try simp only [List.map_toArray, List.map_cons, List.map_nil]); first | done | rfl | (simp only [List.length_drop, List.length_take]; rfl)) ?_; (with_reducible refine (impl_copyLoans.calls k _ _ l0 t232 _ ?side1 ?side2 A5.out).mono ?_); (case side1 => repeat (first | exact (Kd.C_below HR0.out HB.out) | (with_reducible refine Kd.C_alloc ?_ _) | (with_reducible refine Kd.C_drewN ?_ _) | (with_reducible refine Kd.C_drew ?_))); (case side2 => exact HC0.out); rintro e w7 ⟨v233, rfl, ho0, hb⟩; refine ⟨_, rfl, ?_⟩; have n0_ := Aside0.mk (Kd.N_lower (Kd.N_mono (ok' := fun k_ => (w.heap.size ≤ k_)) (Kd.S_N (Kd.S_bound ho0)) (fun k_ hk_ => (Nat.le_trans (below_size (by repeat (first | (with_reducible first | exact HB.out | apply below_alloc | apply pw_below_drewN | apply below_drew1) | exact HB.out))) hk_.2.1))) (below_size (by repeat (first | (with_reducible first | exact HB.out | apply below_alloc | apply pw_below_drewN | apply below_drew1) | exact HB.out)))); have n1_ := Aside0.mk (below_step (by repeat (first | (with_reducible first | exact HB.out | apply below_alloc | apply pw_below_drewN | apply below_drew1) | exact HB.out)) hb); clear HB; have HO234 := n0_; have HB := n1_; clear n0_ n1_; (try clear hb); (try clear hb2); (try clear hk); (try clear hi); (try clear ho0); obtain ⟨Ao8, co8, eo8⟩ := Kd.N_slice HO234.out; subst eo8))
  go_loopg [6, 17] k (fun kq v6 v17 w' => ∃ (x6_1 : List (S56)) (x15_1 : List (S56)) (x17_1 : Int), v17 = .int .i64 x17_1 ∧ Aside0 (impl_MergeLoans.l0 kq x6_1 x15_1 (t232.length : Int) x17_1 = some (r1, r2)) ∧ Aside0 (kq ≤ k) ∧ Aside0 (Kd.N k56 56 w' w.heap.size (fun k_ => (w.heap.size ≤ k_) ∧ some k_ ≠ ((.slice Ao8 t232.length co8) : Value).ownBlock) v6 x6_1) ∧ Aside0 (Kd.N k56 56 w' w.heap.size (fun k_ => (w.heap.size ≤ k_) ∧ some k_ ≠ (v6 : Value).ownBlock) (.slice Ao8 t232.length co8) x15_1) ∧ Aside0 (Below w.heap.size w w'))
  case atStart => exact ⟨(([] : List (S56))), (t232), (0), (by first | rfl | (simp; done) | (simp [*]; done)), H', ⟨Nat.le_refl _⟩, ⟨by first | exact Kd.S_nil _ _ _ _ _ | exact Kd.N_nil _ _ _ _ _ | exact Kd.V_nil _ _ _ _ _ | exact Kd.Q_nil _ _ _ _ _ | exact Kd.R_nil _ _ _ _ _⟩, ⟨by (with_reducible repeat (first | apply Kd.N_alloc | apply Kd.N_drewN | apply Kd.N_drew)); exact Kd.N_mono HO234.out (fun _ hk => ⟨hk, (by simp [Value.ownBlock])⟩)⟩, ⟨by repeat (first | (with_reducible first | exact HB.out | apply below_alloc | apply pw_below_drewN | apply below_drew1) | exact HB.out)⟩⟩
  case round =>
   clear H'
   (try clear c1); (try clear p2); (try clear c4); (try clear c5)
   obtain ⟨x6_1, x15_1, x17_1, rfl, HA, HK1, HO_6, HO_15, HB⟩ := hrel
   have hl15_1 := (Kd.N_reads' HO_15.out).1
   rw [hl15_1] at HO_15
   (try simp only [hl15_1])
   (try simp only [hl15_1] at HO_6)
   cases gk with
   | zero => exact absurd HA.out (by simp [impl_MergeLoans.l0])
   | succ k1 =>
    have H := HA.out
    clear HA
    simp only [impl_MergeLoans.l0] at H
    by_cases c9 : x17_1 < (t232.length : Int)
    ·rw [if_pos c9] at H
     have c9b0 : decide (x17_1 < (t232.length : Int)) = true := decide_eq_true c9
     (try (have c9b0r0 := c9b0; rw [hl15_1] at c9b0r0))
     clear c9
     by_cases c10 : 0 ≤ x17_1
     ·rw [if_pos c10] at H
      have c10b0 : decide (0 ≤ x17_1) = true := decide_eq_true c10
      (try (have c10b0r0 := c10b0; rw [hl15_1] at c10b0r0))
      clear c10
      by_cases c11 : x17_1 < (x15_1.length : Int)
      ·rw [if_pos c11] at H
       have c11b0 : decide (x17_1 < (x15_1.length : Int)) = true := decide_eq_true c11
       (try (have c11b0r0 := c11b0; rw [hl15_1] at c11b0r0))
       clear c11
       replace H := Option.bind_eq_some_iff.mp H
       obtain ⟨t237, A120, H⟩ := H
       replace H : (if t237 < 0 then (if x6_1.length < 3518437208883 then (impl_MergeLoans.l0 k1 (x6_1 ++ [(⟨(rd_T56 x15_1 x17_1).f0, (rd_T56 x15_1 x17_1).f1, (rd_T56 x15_1 x17_1).f2⟩ : S56)]) x15_1 (t232.length : Int) (wrap64 (x17_1 + 1))) else (none)) else (if 0 ≤ t237 then (if t237 < (x6_1.length : Int) then (if (wrap64 (((rd_T56 x6_1 t237).f1) + ((rd_T56 x15_1 x17_1).f1))) > 100000 then (some (([] : List (S56)), false)) else (impl_MergeLoans.l0 k1 (x6_1.set (t237 : Int).toNat (⟨(rd_T56 x6_1 t237).f0, wrap64 (((rd_T56 x6_1 t237).f1) + ((rd_T56 x15_1 x17_1).f1)), (rd_T56 x6_1 t237).f2⟩ : S56)) x15_1 (t232.length : Int) (wrap64 (x17_1 + 1)))) else (none)) else (none))) = some (r1, r2) := H
       have A12 := Aside0.mk A120
       clear A120
       by_cases c13 : t237 < 0
       ·rw [if_pos c13] at H
        have c13b0 : decide (t237 < 0) = true := decide_eq_true c13
        (try (have c13b0r0 := c13b0; rw [hl15_1] at c13b0r0))
        clear c13
        by_cases c14 : x6_1.length < 3518437208883
        ·rw [if_pos c14] at H
         have LMc14 := Aside0.mk c14
         clear c14
         obtain ⟨y238, hy238⟩ : ∃ y_ : List (S56), y_ = (x6_1 ++ [(⟨(rd_T56 x15_1 x17_1).f0, (rd_T56 x15_1 x17_1).f1, (rd_T56 x15_1 x17_1).f2⟩ : S56)]) := ⟨_, rfl⟩
         replace H : (impl_MergeLoans.l0 k1 y238 x15_1 (t232.length : Int) (wrap64 (x17_1 + 1))) = some (r1, r2) := by first | (rw [hy238]; with_reducible exact H) | (have H2_ := (Option.bind_some _ _).symm.trans H; rw [hy238]; with_reducible exact H2_) | (have H2_ := (Option.bind_some _ _).symm.trans H; with_reducible exact H2_) | with_reducible exact H | (rw [hy238]; exact H) | exact H
         have Ny238 := Aside0.mk hy238
         clear hy238
         have H' := Aside0.mk H
         clear H
         have p235 : 0 ≤ (x17_1 : Int) := of_decide_eq_true (by first | (with_reducible assumption) | assumption)
         have q235 : x17_1 < (x15_1.length : Int) := of_decide_eq_true (by first | (with_reducible assumption) | assumption)
         obtain ⟨ad235, A235_2, c235_2, e235, hx235_0, hx235_1, hx235_2, hl235_2, hi235_2⟩ := at_T56 (Kd.N_reads' HO_15.out).2.2 x17_1 p235 q235
         cases e235
         obtain ⟨ce235, hce235, hMe235, hcc235⟩ := Kd.N_get HO_15.out z56 x17_1 p235 (by first | exact q235 | exact of_decide_eq_true (by first | (with_reducible assumption) | assumption) | (have e_ := (Kd.N_reads' HO_15.out).1; omega))
         obtain ⟨ua235_2, uc235_2, rfl, ul235_2, ge235_2⟩ := k56_openF hMe235
         have hv235_2 := hcc235 2 _ rfl
         rw [add_field _ _ 2 (by omega)] at hv235_2
         replace hv235_2 := Option.some.inj (hv235_2.symm.trans hx235_2)
         injection hv235_2 with hva_ hvn_ hvc_
         rw [hva_] at ge235_2
         rw [hvc_] at ul235_2
         have HL235_2 := Aside0.mk (show Kd.V (Kd.int .i64) 3 _ w.heap.size _ _ ((rd_T56 x15_1 x17_1).f2) from Kd.V_mk ul235_2 ge235_2)
         clear hva_ hvn_ hvc_ ge235_2 ul235_2; clear hcc235 hce235
         have HR235_2 := Aside0.mk hi235_2
         have HC235_2 := Aside0.mk hl235_2
         clear hi235_2 hl235_2; replace p235 := eq_true p235; replace q235 := eq_true q235
         go_wp2_with (first | ((with_reducible refine gate_dst (N := 8) rfl ?_); refine box_event ?hg (N := 8) ?hd (cs := #[.int .i64 0, .int .i64 0, .slice none 0 0]) (t := 56) ?hr ?_; (case hd => rfl); (case hg => rfl); (case hr => first | (go_simp; done) | (go_simp; rfl)); intro gb236 hg w15 hbox hb; have n0_ := Aside0.mk (Kd.N_below (Kd.N_elderB (by (with_reducible repeat (first | apply Kd.N_alloc | apply Kd.N_drewN | apply Kd.N_drew)); exact HO_6.out) gb236 (Nat.le_of_eq hg.symm)) hb); have n1_ := Aside0.mk (Kd.N_below (Kd.N_elderB (by (with_reducible repeat (first | apply Kd.N_alloc | apply Kd.N_drewN | apply Kd.N_drew)); exact HO_15.out) gb236 (Nat.le_of_eq hg.symm)) hb); have n2_ := Aside0.mk (Kd.V_below (Kd.V_elderB (by (with_reducible repeat (first | apply Kd.V_alloc | apply Kd.V_drewN | apply Kd.V_drew)); exact HL235_2.out) gb236 (Nat.le_of_eq hg.symm)) hb); have n3_ := Aside0.mk (Kd.C_below (by repeat (first | (with_reducible exact HR235_2.out) | (with_reducible refine Kd.C_alloc ?_ _) | (with_reducible refine Kd.C_drewN ?_ _) | (with_reducible refine Kd.C_drew ?_) | exact HR235_2.out)) hb); have n4_ := Aside0.mk (below_step (by repeat (first | (with_reducible first | exact HB.out | apply below_alloc | apply pw_below_drewN | apply below_drew1) | exact HB.out)) hb); have n5_ := Aside0.mk (hbox); have n6_ := Aside0.mk ((by rw [hg]; exact (below_size (by repeat (first | (with_reducible first | exact HB.out | apply below_alloc | apply pw_below_drewN | apply below_drew1) | exact HB.out))) : w.heap.size ≤ gb236)); have n7_ := Aside0.mk ((by rw [hg]; exact (below_size (by repeat (first | (with_reducible first | exact HB.out | apply below_alloc | apply pw_below_drewN | apply below_drew1) | exact HB.out))) : w.heap.size ≤ gb236)); clear HO_6; clear HO_15; clear HL235_2; clear HR235_2; clear HB; have HO_6 := n0_; have HO_15 := n1_; have HL235_2 := n2_; have HR235_2 := n3_; have HB := n4_; have BK236 := n5_; have GW236 := n6_; have GE236 := n7_; clear n0_ n1_ n2_ n3_ n4_ n5_ n6_ n7_; clear hb hbox hg; have hcz16_0 : w15.cell? ⟨gb236, 0, none⟩ = some (.int .i64 0) := (blk_cell BK236.out 0).trans rfl; have hcz16_1 : w15.cell? ⟨gb236, 1, none⟩ = some (.int .i64 0) := (blk_cell BK236.out 1).trans rfl; have hcz16_2 : w15.cell? ⟨gb236, 2, none⟩ = some (.slice none 0 0) := (blk_cell BK236.out 2).trans rfl; have hfz16_0 := blk_frozen BK236.out 0; have hfz16_1 := blk_frozen BK236.out 1; have hfz16_2 := blk_frozen BK236.out 2; obtain ⟨Ao17, co17, eo17⟩ := Kd.N_slice HO_6.out; subst eo17) | ((with_reducible refine gate_callee (f := 76) rfl ?_); refine goesL_ (some 23) rfl rfl Try.func76 (by kernel_rfl) rfl #[.slice Ao17 x6_1.length co17, .func (.func 77) #[] #[.pointer (some ⟨gb236, 0, none⟩)]] rfl (by (try simp only [List.map_toArray, List.map_cons, List.map_nil]); first | done | rfl | (simp only [List.length_drop, List.length_take]; rfl)) ?_; (with_reducible refine (impl_Loan.calls k1 _ _ x6_1 ((rd_T56 x15_1 x17_1).f0) ((rd_T56 x15_1 x17_1).f1) A235_2 c235_2 ((rd_T56 x15_1 x17_1).f2) t237 gb236 _ ?side1 ?side2 ?side3 ?side4 ?side8 ?side9 A12.out).mono ?_); (case side8 => exact (blk_cell (show (World.heap _)[gb236]? = some (.cells #[.int .i64 ((rd_T56 x15_1 x17_1).f0), .int .i64 ((rd_T56 x15_1 x17_1).f1), .slice A235_2 ((rd_T56 x15_1 x17_1).f2).length c235_2] 56 (0, 0)) from (by (with_reducible repeat (first | refine blk_drewN ?_ _ | refine blk_drew ?_ | refine blk_alloc ?_ _)); refine blk_put (cs := #[.int .i64 ((rd_T56 x15_1 x17_1).f0), .int .i64 ((rd_T56 x15_1 x17_1).f1), .slice none 0 0]) ?_ 2 _ rfl; (with_reducible repeat (first | refine blk_drewN ?_ _ | refine blk_drew ?_ | refine blk_alloc ?_ _)); refine blk_put (cs := #[.int .i64 ((rd_T56 x15_1 x17_1).f0), .int .i64 0, .slice none 0 0]) ?_ 1 _ rfl; (with_reducible repeat (first | refine blk_drewN ?_ _ | refine blk_drew ?_ | refine blk_alloc ?_ _)); refine blk_put (cs := #[.int .i64 0, .int .i64 0, .slice none 0 0]) ?_ 0 _ rfl; (with_reducible repeat (first | refine blk_drewN ?_ _ | refine blk_drew ?_ | refine blk_alloc ?_ _)); exact BK236.out)) 0).trans rfl); (case side9 => exact (blk_cell (show (World.heap _)[gb236]? = some (.cells #[.int .i64 ((rd_T56 x15_1 x17_1).f0), .int .i64 ((rd_T56 x15_1 x17_1).f1), .slice A235_2 ((rd_T56 x15_1 x17_1).f2).length c235_2] 56 (0, 0)) from (by (with_reducible repeat (first | refine blk_drewN ?_ _ | refine blk_drew ?_ | refine blk_alloc ?_ _)); refine blk_put (cs := #[.int .i64 ((rd_T56 x15_1 x17_1).f0), .int .i64 ((rd_T56 x15_1 x17_1).f1), .slice none 0 0]) ?_ 2 _ rfl; (with_reducible repeat (first | refine blk_drewN ?_ _ | refine blk_drew ?_ | refine blk_alloc ?_ _)); refine blk_put (cs := #[.int .i64 ((rd_T56 x15_1 x17_1).f0), .int .i64 0, .slice none 0 0]) ?_ 1 _ rfl; (with_reducible repeat (first | refine blk_drewN ?_ _ | refine blk_drew ?_ | refine blk_alloc ?_ _)); refine blk_put (cs := #[.int .i64 0, .int .i64 0, .slice none 0 0]) ?_ 0 _ rfl; (with_reducible repeat (first | refine blk_drewN ?_ _ | refine blk_drew ?_ | refine blk_alloc ?_ _)); exact BK236.out)) 2).trans rfl); (case side1 => refine (Kd.N_reads' (e := 56) (base := w.heap.size) (ok := fun k_ => (((w.heap.size ≤ k_) ∧ some k_ ≠ (.slice (some ad235) x15_1.length co8 : Value).ownBlock) ∧ k_ ≠ gb236)) (n := x6_1.length) (c := co17) ?_).2.2; exact (by (with_reducible repeat (first | apply Kd.N_alloc | apply Kd.N_drewN | apply Kd.N_drew)); exact (Kd.N_mono (Kd.N_far (p := ⟨gb236, 2, none⟩) (Kd.N_far (p := ⟨gb236, 1, none⟩) (Kd.N_far (p := ⟨gb236, 0, none⟩) (Kd.N_mono HO_6.out (fun k_ hk => (⟨hk, hk.2⟩ : _ ∧ k_ ≠ gb236))) (fun _ hk => hk.2) (.int .i64 ((rd_T56 x15_1 x17_1).f0))) (fun _ hk => hk.2) (.int .i64 ((rd_T56 x15_1 x17_1).f1))) (fun _ hk => hk.2) (.slice A235_2 ((rd_T56 x15_1 x17_1).f2).length c235_2)) (fun _ h_ => h_.1)))); (case side2 => exact (Kd.N_reads' HO_6.out).2.1); (case side3 => repeat (first | exact ((Kd.V_reads' (by (with_reducible repeat (first | apply Kd.V_alloc | apply Kd.V_drewN | apply Kd.V_drew)); exact (Kd.V_mono (Kd.V_far (p := ⟨gb236, 2, none⟩) (Kd.V_far (p := ⟨gb236, 1, none⟩) (Kd.V_far (p := ⟨gb236, 0, none⟩) (Kd.V_mono HL235_2.out (fun k_ hk => (⟨hk, hk.2⟩ : _ ∧ k_ ≠ gb236))) (fun _ hk => hk.2) (.int .i64 ((rd_T56 x15_1 x17_1).f0))) (fun _ hk => hk.2) (.int .i64 ((rd_T56 x15_1 x17_1).f1))) (fun _ hk => hk.2) (.slice A235_2 ((rd_T56 x15_1 x17_1).f2).length c235_2)) (fun _ h_ => h_.1)))).2.2) | (with_reducible refine Kd.C_alloc ?_ _) | (with_reducible refine Kd.C_drewN ?_ _) | (with_reducible refine Kd.C_drew ?_))); (case side4 => exact HC235_2.out); rintro e w18 ⟨rfl, hb⟩; refine ⟨_, rfl, ?_⟩; have n0_ := Aside0.mk (Kd.N_below (by (with_reducible repeat (first | apply Kd.N_alloc | apply Kd.N_drewN | apply Kd.N_drew)); exact (Kd.N_mono (Kd.N_far (p := ⟨gb236, 2, none⟩) (Kd.N_far (p := ⟨gb236, 1, none⟩) (Kd.N_far (p := ⟨gb236, 0, none⟩) (Kd.N_mono HO_6.out (fun k_ hk => (⟨hk, hk.2⟩ : _ ∧ k_ ≠ gb236))) (fun _ hk => hk.2) (.int .i64 ((rd_T56 x15_1 x17_1).f0))) (fun _ hk => hk.2) (.int .i64 ((rd_T56 x15_1 x17_1).f1))) (fun _ hk => hk.2) (.slice A235_2 ((rd_T56 x15_1 x17_1).f2).length c235_2)) (fun _ h_ => h_.1))) hb); have n1_ := Aside0.mk (Kd.N_below (by (with_reducible repeat (first | apply Kd.N_alloc | apply Kd.N_drewN | apply Kd.N_drew)); exact (Kd.N_mono (Kd.N_far (p := ⟨gb236, 2, none⟩) (Kd.N_far (p := ⟨gb236, 1, none⟩) (Kd.N_far (p := ⟨gb236, 0, none⟩) (Kd.N_mono HO_15.out (fun k_ hk => (⟨hk, hk.2⟩ : _ ∧ k_ ≠ gb236))) (fun _ hk => hk.2) (.int .i64 ((rd_T56 x15_1 x17_1).f0))) (fun _ hk => hk.2) (.int .i64 ((rd_T56 x15_1 x17_1).f1))) (fun _ hk => hk.2) (.slice A235_2 ((rd_T56 x15_1 x17_1).f2).length c235_2)) (fun _ h_ => h_.1))) hb); have n2_ := Aside0.mk (Kd.V_below (by (with_reducible repeat (first | apply Kd.V_alloc | apply Kd.V_drewN | apply Kd.V_drew)); exact (Kd.V_mono (Kd.V_far (p := ⟨gb236, 2, none⟩) (Kd.V_far (p := ⟨gb236, 1, none⟩) (Kd.V_far (p := ⟨gb236, 0, none⟩) (Kd.V_mono HL235_2.out (fun k_ hk => (⟨hk, hk.2⟩ : _ ∧ k_ ≠ gb236))) (fun _ hk => hk.2) (.int .i64 ((rd_T56 x15_1 x17_1).f0))) (fun _ hk => hk.2) (.int .i64 ((rd_T56 x15_1 x17_1).f1))) (fun _ hk => hk.2) (.slice A235_2 ((rd_T56 x15_1 x17_1).f2).length c235_2)) (fun _ h_ => h_.1))) hb); have n3_ := Aside0.mk (Kd.C_below ((Kd.V_reads' (by (with_reducible repeat (first | apply Kd.V_alloc | apply Kd.V_drewN | apply Kd.V_drew)); exact (Kd.V_mono (Kd.V_far (p := ⟨gb236, 2, none⟩) (Kd.V_far (p := ⟨gb236, 1, none⟩) (Kd.V_far (p := ⟨gb236, 0, none⟩) (Kd.V_mono HL235_2.out (fun k_ hk => (⟨hk, hk.2⟩ : _ ∧ k_ ≠ gb236))) (fun _ hk => hk.2) (.int .i64 ((rd_T56 x15_1 x17_1).f0))) (fun _ hk => hk.2) (.int .i64 ((rd_T56 x15_1 x17_1).f1))) (fun _ hk => hk.2) (.slice A235_2 ((rd_T56 x15_1 x17_1).f2).length c235_2)) (fun _ h_ => h_.1)))).2.2) hb); have n4_ := Aside0.mk (blk_below (g := gb236) (o := .cells #[.int .i64 ((rd_T56 x15_1 x17_1).f0), .int .i64 ((rd_T56 x15_1 x17_1).f1), .slice A235_2 ((rd_T56 x15_1 x17_1).f2).length c235_2] 56 (0, 0)) (by (with_reducible repeat (first | refine blk_drewN ?_ _ | refine blk_drew ?_ | refine blk_alloc ?_ _)); refine blk_put (cs := #[.int .i64 ((rd_T56 x15_1 x17_1).f0), .int .i64 ((rd_T56 x15_1 x17_1).f1), .slice none 0 0]) ?_ 2 _ rfl; (with_reducible repeat (first | refine blk_drewN ?_ _ | refine blk_drew ?_ | refine blk_alloc ?_ _)); refine blk_put (cs := #[.int .i64 ((rd_T56 x15_1 x17_1).f0), .int .i64 0, .slice none 0 0]) ?_ 1 _ rfl; (with_reducible repeat (first | refine blk_drewN ?_ _ | refine blk_drew ?_ | refine blk_alloc ?_ _)); refine blk_put (cs := #[.int .i64 0, .int .i64 0, .slice none 0 0]) ?_ 0 _ rfl; (with_reducible repeat (first | refine blk_drewN ?_ _ | refine blk_drew ?_ | refine blk_alloc ?_ _)); exact BK236.out) hb); have n5_ := Aside0.mk (below_step (by repeat (first | (with_reducible first | exact HB.out | apply below_alloc | apply pw_below_drewN | apply below_drew1 | refine below_set ?_ GE236.out) | exact HB.out)) hb); clear HO_6; clear HO_15; clear HL235_2; clear HR235_2; clear BK236; clear HB; have HO_6 := n0_; have HO_15 := n1_; have HL235_2 := n2_; have HR235_2 := n3_; have BK236 := n4_; have HB := n5_; clear n0_ n1_ n2_ n3_ n4_ n5_; (try clear hb); (try clear hb2); (try clear hk); (try clear hi); have hcz19_0 : w18.cell? ⟨gb236, 0, none⟩ = some (.int .i64 ((rd_T56 x15_1 x17_1).f0)) := (blk_cell BK236.out 0).trans rfl; have hcz19_1 : w18.cell? ⟨gb236, 1, none⟩ = some (.int .i64 ((rd_T56 x15_1 x17_1).f1)) := (blk_cell BK236.out 1).trans rfl; have hcz19_2 : w18.cell? ⟨gb236, 2, none⟩ = some (.slice A235_2 ((rd_T56 x15_1 x17_1).f2).length c235_2) := (blk_cell BK236.out 2).trans rfl; have hfz19_0 := blk_frozen BK236.out 0; have hfz19_1 := blk_frozen BK236.out 1; have hfz19_2 := blk_frozen BK236.out 2) | ((with_reducible refine gate_builtin (b := .append) (xs := #[.tmp 26, .tmp 28]) rfl ?_); at_builtin; refine Kd.N_append k56 (w0 := w) w.heap.size rfl (.tmp 26) (.tmp 28) 23 56 (.agg #[(.int .i64 0), (.int .i64 0), (.slice none 0 0)]) 40 rfl Try.underlying23 info56 rfl (by decide) (by omega) (.slice Ao17 x6_1.length co17) x6_1 (⟨(rd_T56 x15_1 x17_1).f0, (rd_T56 x15_1 x17_1).f1, (rd_T56 x15_1 x17_1).f2⟩ : S56) [.int .i64 ((rd_T56 x15_1 x17_1).f0), .int .i64 ((rd_T56 x15_1 x17_1).f1), .slice A235_2 ((rd_T56 x15_1 x17_1).f2).length c235_2] (fun k_ => (w.heap.size ≤ k_) ∧ some k_ ≠ (.slice (some ad235) x15_1.length co8 : Value).ownBlock ∧ k_ ≠ gb236) (fun k_ => ((fun k_ => (w.heap.size ≤ k_) ∧ some k_ ≠ (.slice (some ad235) x15_1.length co8 : Value).ownBlock ∧ k_ ≠ gb236)) k_ ∧ some k_ ≠ (.slice Ao17 x6_1.length co17 : Value).ownBlock) rfl rfl ?aP (fun _ hk => hk) ?aF ?aO ?aB ?aS ?aL ?_; (case aP => exact (k56_mkF _ _ (⟨(rd_T56 x15_1 x17_1).f0, (rd_T56 x15_1 x17_1).f1, (rd_T56 x15_1 x17_1).f2⟩ : S56) (Kd.V_reads' (Kd.V_mono (ok' := (fun k_ => ((fun k_ => (w.heap.size ≤ k_) ∧ some k_ ≠ (.slice (some ad235) x15_1.length co8 : Value).ownBlock ∧ k_ ≠ gb236)) k_ ∧ some k_ ≠ (.slice Ao17 x6_1.length co17 : Value).ownBlock)) (HL235_2.out) (fun k_ hk => ⟨⟨hk.1.1.1, ⟨hk.1.2, hk.2⟩⟩, hk.1.1.2⟩))).2.1 (Kd.V_F (Kd.V_mono (ok' := (fun k_ => ((fun k_ => (w.heap.size ≤ k_) ∧ some k_ ≠ (.slice (some ad235) x15_1.length co8 : Value).ownBlock ∧ k_ ≠ gb236)) k_ ∧ some k_ ≠ (.slice Ao17 x6_1.length co17 : Value).ownBlock)) (HL235_2.out) (fun k_ hk => ⟨⟨hk.1.1.1, ⟨hk.1.2, hk.2⟩⟩, hk.1.1.2⟩))))); (case aB => exact (by repeat (first | (with_reducible first | exact HB.out | apply below_alloc | apply pw_below_drewN | apply below_drew1 | refine below_set ?_ GE236.out) | exact HB.out))); (case aF => exact (fun k_ hk => ⟨(Nat.le_trans (below_size (by repeat (first | (with_reducible first | exact HB.out | apply below_alloc | apply pw_below_drewN | apply below_drew1 | refine below_set ?_ GE236.out) | exact HB.out))) hk), Kd.fresh' (Kd.N_lt (by (with_reducible repeat (first | apply Kd.N_alloc | apply Kd.N_drewN | apply Kd.N_drew)); exact HO_15.out)) k_ hk, Kd.freshB (g := gb236) (o := .cells #[.int .i64 ((rd_T56 x15_1 x17_1).f0), .int .i64 ((rd_T56 x15_1 x17_1).f1), .slice A235_2 ((rd_T56 x15_1 x17_1).f2).length c235_2] 56 (0, 0)) (by (with_reducible repeat (first | refine blk_drewN ?_ _ | refine blk_drew ?_ | refine blk_alloc ?_ _)); exact BK236.out) k_ hk⟩)); (case aO => exact (by (with_reducible repeat (first | apply Kd.N_alloc | apply Kd.N_drewN | apply Kd.N_drew)); exact Kd.N_mono HO_6.out (fun _ hk => ⟨hk.1.1, ⟨hk.1.2, hk.2⟩⟩))); (case aS => exact (below_size (by repeat (first | (with_reducible first | exact HB.out | apply below_alloc | apply pw_below_drewN | apply below_drew1 | refine below_set ?_ GE236.out) | exact HB.out)))); (case aL => have := LMc14.out; omega); intro v239 w20 ho hb hg hat; rw [← Ny238.out] at ho; have n0_ := Aside0.mk (Kd.N_afterv (ok := (fun k_ => (w.heap.size ≤ k_) ∧ k_ ≠ gb236)) (by (with_reducible repeat (first | apply Kd.N_alloc | apply Kd.N_drewN | apply Kd.N_drew)); exact Kd.N_mono HO_15.out (fun _ hk => ⟨⟨hk.1.1, hk.2⟩, hk.1.2⟩)) hg hat); have n1_ := Aside0.mk (Kd.V_afterv (ok := (fun k_ => (w.heap.size ≤ k_) ∧ some k_ ≠ (.slice (some ad235) x15_1.length co8 : Value).ownBlock ∧ k_ ≠ gb236)) (by (with_reducible repeat (first | apply Kd.V_alloc | apply Kd.V_drewN | apply Kd.V_drew)); exact Kd.V_mono HL235_2.out (fun _ hk => ⟨⟨hk.1.1.1, ⟨hk.1.2, hk.2⟩⟩, hk.1.1.2⟩)) hg hat); have n2_ := Aside0.mk (blk_grown (g := gb236) (o := .cells #[.int .i64 ((rd_T56 x15_1 x17_1).f0), .int .i64 ((rd_T56 x15_1 x17_1).f1), .slice A235_2 ((rd_T56 x15_1 x17_1).f2).length c235_2] 56 (0, 0)) (by (with_reducible repeat (first | refine blk_drewN ?_ _ | refine blk_drew ?_ | refine blk_alloc ?_ _)); exact BK236.out) hg (Kd.N_away HO_6.out (fun _ hk => hk.2))); have n3_ := Aside0.mk (hb); have n4_ := Aside0.mk (ho); clear HO_15; clear HL235_2; clear BK236; clear HB; clear HO_6; have HO_15 := n0_; have HL235_2 := n1_; have BK236 := n2_; have HB := n3_; have HO240 := n4_; clear n0_ n1_ n2_ n3_ n4_; clear ho hb hg hat))
         (try simp only [← hl15_1])
         go_roundg k1
         case measure => have := HK1.out; omega
         case rel => exact ⟨(y238), (x15_1), (wrap64 (x17_1 + 1)), (by first | rfl | (simp; done) | (simp [*]; done)), H', ⟨by have := HK1.out; omega⟩, ⟨by (try simp only [hl15_1]); (with_reducible repeat (first | apply Kd.N_alloc | apply Kd.N_drewN | apply Kd.N_drew)); exact Kd.N_mono HO240.out (fun _ hk => ⟨hk.1, hk.2.1⟩)⟩, ⟨by (try simp only [hl15_1]); (with_reducible repeat (first | apply Kd.N_alloc | apply Kd.N_drewN | apply Kd.N_drew)); exact Kd.N_mono HO_15.out (fun _ hk => ⟨hk.1.1, hk.2⟩)⟩, ⟨by repeat (first | (with_reducible first | exact HB.out | apply below_alloc | apply pw_below_drewN | apply below_drew1 | refine below_set ?_ GE236.out) | exact HB.out)⟩⟩
        ·rw [if_neg c14] at H
         exact absurd H (by simp)
       ·rw [if_neg c13] at H
        have c13b0 : decide (t237 < 0) = false := decide_eq_false c13
        (try (have c13b0r0 := c13b0; rw [hl15_1] at c13b0r0))
        clear c13
        by_cases c21 : 0 ≤ t237
        ·rw [if_pos c21] at H
         have c21b0 : decide (0 ≤ t237) = true := decide_eq_true c21
         (try (have c21b0r0 := c21b0; rw [hl15_1] at c21b0r0))
         clear c21
         by_cases c22 : t237 < (x6_1.length : Int)
         ·rw [if_pos c22] at H
          have c22b0 : decide (t237 < (x6_1.length : Int)) = true := decide_eq_true c22
          (try (have c22b0r0 := c22b0; rw [hl15_1] at c22b0r0))
          clear c22
          obtain ⟨y242, hy242⟩ : ∃ y_ : List (S56), y_ = (x6_1.set (t237 : Int).toNat (⟨(rd_T56 x6_1 t237).f0, wrap64 (((rd_T56 x6_1 t237).f1) + ((rd_T56 x15_1 x17_1).f1)), (rd_T56 x6_1 t237).f2⟩ : S56)) := ⟨_, rfl⟩
          replace H : (if (wrap64 (((rd_T56 x6_1 t237).f1) + ((rd_T56 x15_1 x17_1).f1))) > 100000 then (some (([] : List (S56)), false)) else (impl_MergeLoans.l0 k1 y242 x15_1 (t232.length : Int) (wrap64 (x17_1 + 1)))) = some (r1, r2) := by first | (rw [hy242]; with_reducible exact H) | (have H2_ := (Option.bind_some _ _).symm.trans H; rw [hy242]; with_reducible exact H2_) | (have H2_ := (Option.bind_some _ _).symm.trans H; with_reducible exact H2_) | with_reducible exact H | (rw [hy242]; exact H) | exact H
          have Ny242 := Aside0.mk hy242
          clear hy242
          by_cases c25 : (wrap64 (((rd_T56 x6_1 t237).f1) + ((rd_T56 x15_1 x17_1).f1))) > 100000
          ·rw [if_pos c25] at H
           have c25b0 : decide (100000 < (wrap64 (((rd_T56 x6_1 t237).f1) + ((rd_T56 x15_1 x17_1).f1)))) = true := decide_eq_true c25
           (try (have c25b0r0 := c25b0; rw [hl15_1] at c25b0r0))
           clear c25
           simp only [Option.some.injEq, Prod.mk.injEq] at H
           obtain ⟨rfl, rfl⟩ := H
           have p235 : 0 ≤ (x17_1 : Int) := of_decide_eq_true (by first | (with_reducible assumption) | assumption)
           have q235 : x17_1 < (x15_1.length : Int) := of_decide_eq_true (by first | (with_reducible assumption) | assumption)
           obtain ⟨ad235, A235_2, c235_2, e235, hx235_0, hx235_1, hx235_2, hl235_2, hi235_2⟩ := at_T56 (Kd.N_reads' HO_15.out).2.2 x17_1 p235 q235
           cases e235
           obtain ⟨ce235, hce235, hMe235, hcc235⟩ := Kd.N_get HO_15.out z56 x17_1 p235 (by first | exact q235 | exact of_decide_eq_true (by first | (with_reducible assumption) | assumption) | (have e_ := (Kd.N_reads' HO_15.out).1; omega))
           obtain ⟨ua235_2, uc235_2, rfl, ul235_2, ge235_2⟩ := k56_openF hMe235
           have hv235_2 := hcc235 2 _ rfl
           rw [add_field _ _ 2 (by omega)] at hv235_2
           replace hv235_2 := Option.some.inj (hv235_2.symm.trans hx235_2)
           injection hv235_2 with hva_ hvn_ hvc_
           rw [hva_] at ge235_2
           rw [hvc_] at ul235_2
           have HL235_2 := Aside0.mk (show Kd.V (Kd.int .i64) 3 _ w.heap.size _ _ ((rd_T56 x15_1 x17_1).f2) from Kd.V_mk ul235_2 ge235_2)
           clear hva_ hvn_ hvc_ ge235_2 ul235_2; clear hcc235 hce235
           have HR235_2 := Aside0.mk hi235_2
           have HC235_2 := Aside0.mk hl235_2
           clear hi235_2 hl235_2; replace p235 := eq_true p235; replace q235 := eq_true q235
           try go_wp2_with (first | ((with_reducible refine gate_dst (N := 8) rfl ?_); refine box_event ?hg (N := 8) ?hd (cs := #[.int .i64 0, .int .i64 0, .slice none 0 0]) (t := 56) ?hr ?_; (case hd => rfl); (case hg => rfl); (case hr => first | (go_simp; done) | (go_simp; rfl)); intro gb236 hg w26 hbox hb; have n0_ := Aside0.mk (Kd.N_below (Kd.N_elderB (by (with_reducible repeat (first | apply Kd.N_alloc | apply Kd.N_drewN | apply Kd.N_drew)); exact HO_6.out) gb236 (Nat.le_of_eq hg.symm)) hb); have n1_ := Aside0.mk (Kd.N_below (Kd.N_elderB (by (with_reducible repeat (first | apply Kd.N_alloc | apply Kd.N_drewN | apply Kd.N_drew)); exact HO_15.out) gb236 (Nat.le_of_eq hg.symm)) hb); have n2_ := Aside0.mk (Kd.V_below (Kd.V_elderB (by (with_reducible repeat (first | apply Kd.V_alloc | apply Kd.V_drewN | apply Kd.V_drew)); exact HL235_2.out) gb236 (Nat.le_of_eq hg.symm)) hb); have n3_ := Aside0.mk (Kd.C_below (by repeat (first | (with_reducible exact HR235_2.out) | (with_reducible refine Kd.C_alloc ?_ _) | (with_reducible refine Kd.C_drewN ?_ _) | (with_reducible refine Kd.C_drew ?_) | exact HR235_2.out)) hb); have n4_ := Aside0.mk (below_step (by repeat (first | (with_reducible first | exact HB.out | apply below_alloc | apply pw_below_drewN | apply below_drew1) | exact HB.out)) hb); have n5_ := Aside0.mk (hbox); have n6_ := Aside0.mk ((by rw [hg]; exact (below_size (by repeat (first | (with_reducible first | exact HB.out | apply below_alloc | apply pw_below_drewN | apply below_drew1) | exact HB.out))) : w.heap.size ≤ gb236)); have n7_ := Aside0.mk ((by rw [hg]; exact (below_size (by repeat (first | (with_reducible first | exact HB.out | apply below_alloc | apply pw_below_drewN | apply below_drew1) | exact HB.out))) : w.heap.size ≤ gb236)); clear HO_6; clear HO_15; clear HL235_2; clear HR235_2; clear HB; have HO_6 := n0_; have HO_15 := n1_; have HL235_2 := n2_; have HR235_2 := n3_; have HB := n4_; have BK236 := n5_; have GW236 := n6_; have GE236 := n7_; clear n0_ n1_ n2_ n3_ n4_ n5_ n6_ n7_; clear hb hbox hg; have hcz27_0 : w26.cell? ⟨gb236, 0, none⟩ = some (.int .i64 0) := (blk_cell BK236.out 0).trans rfl; have hcz27_1 : w26.cell? ⟨gb236, 1, none⟩ = some (.int .i64 0) := (blk_cell BK236.out 1).trans rfl; have hcz27_2 : w26.cell? ⟨gb236, 2, none⟩ = some (.slice none 0 0) := (blk_cell BK236.out 2).trans rfl; have hfz27_0 := blk_frozen BK236.out 0; have hfz27_1 := blk_frozen BK236.out 1; have hfz27_2 := blk_frozen BK236.out 2; obtain ⟨Ao28, co28, eo28⟩ := Kd.N_slice HO_6.out; subst eo28) | ((with_reducible refine gate_callee (f := 76) rfl ?_); refine goesL_ (some 23) rfl rfl Try.func76 (by kernel_rfl) rfl #[.slice Ao28 x6_1.length co28, .func (.func 77) #[] #[.pointer (some ⟨gb236, 0, none⟩)]] rfl (by (try simp only [List.map_toArray, List.map_cons, List.map_nil]); first | done | rfl | (simp only [List.length_drop, List.length_take]; rfl)) ?_; (with_reducible refine (impl_Loan.calls k1 _ _ x6_1 ((rd_T56 x15_1 x17_1).f0) ((rd_T56 x15_1 x17_1).f1) A235_2 c235_2 ((rd_T56 x15_1 x17_1).f2) t237 gb236 _ ?side1 ?side2 ?side3 ?side4 ?side8 ?side9 A12.out).mono ?_); (case side8 => exact (blk_cell (show (World.heap _)[gb236]? = some (.cells #[.int .i64 ((rd_T56 x15_1 x17_1).f0), .int .i64 ((rd_T56 x15_1 x17_1).f1), .slice A235_2 ((rd_T56 x15_1 x17_1).f2).length c235_2] 56 (0, 0)) from (by (with_reducible repeat (first | refine blk_drewN ?_ _ | refine blk_drew ?_ | refine blk_alloc ?_ _)); refine blk_put (cs := #[.int .i64 ((rd_T56 x15_1 x17_1).f0), .int .i64 ((rd_T56 x15_1 x17_1).f1), .slice none 0 0]) ?_ 2 _ rfl; (with_reducible repeat (first | refine blk_drewN ?_ _ | refine blk_drew ?_ | refine blk_alloc ?_ _)); refine blk_put (cs := #[.int .i64 ((rd_T56 x15_1 x17_1).f0), .int .i64 0, .slice none 0 0]) ?_ 1 _ rfl; (with_reducible repeat (first | refine blk_drewN ?_ _ | refine blk_drew ?_ | refine blk_alloc ?_ _)); refine blk_put (cs := #[.int .i64 0, .int .i64 0, .slice none 0 0]) ?_ 0 _ rfl; (with_reducible repeat (first | refine blk_drewN ?_ _ | refine blk_drew ?_ | refine blk_alloc ?_ _)); exact BK236.out)) 0).trans rfl); (case side9 => exact (blk_cell (show (World.heap _)[gb236]? = some (.cells #[.int .i64 ((rd_T56 x15_1 x17_1).f0), .int .i64 ((rd_T56 x15_1 x17_1).f1), .slice A235_2 ((rd_T56 x15_1 x17_1).f2).length c235_2] 56 (0, 0)) from (by (with_reducible repeat (first | refine blk_drewN ?_ _ | refine blk_drew ?_ | refine blk_alloc ?_ _)); refine blk_put (cs := #[.int .i64 ((rd_T56 x15_1 x17_1).f0), .int .i64 ((rd_T56 x15_1 x17_1).f1), .slice none 0 0]) ?_ 2 _ rfl; (with_reducible repeat (first | refine blk_drewN ?_ _ | refine blk_drew ?_ | refine blk_alloc ?_ _)); refine blk_put (cs := #[.int .i64 ((rd_T56 x15_1 x17_1).f0), .int .i64 0, .slice none 0 0]) ?_ 1 _ rfl; (with_reducible repeat (first | refine blk_drewN ?_ _ | refine blk_drew ?_ | refine blk_alloc ?_ _)); refine blk_put (cs := #[.int .i64 0, .int .i64 0, .slice none 0 0]) ?_ 0 _ rfl; (with_reducible repeat (first | refine blk_drewN ?_ _ | refine blk_drew ?_ | refine blk_alloc ?_ _)); exact BK236.out)) 2).trans rfl); (case side1 => refine (Kd.N_reads' (e := 56) (base := w.heap.size) (ok := fun k_ => (((w.heap.size ≤ k_) ∧ some k_ ≠ (.slice (some ad235) x15_1.length co8 : Value).ownBlock) ∧ k_ ≠ gb236)) (n := x6_1.length) (c := co28) ?_).2.2; exact (by (with_reducible repeat (first | apply Kd.N_alloc | apply Kd.N_drewN | apply Kd.N_drew)); exact (Kd.N_mono (Kd.N_far (p := ⟨gb236, 2, none⟩) (Kd.N_far (p := ⟨gb236, 1, none⟩) (Kd.N_far (p := ⟨gb236, 0, none⟩) (Kd.N_mono HO_6.out (fun k_ hk => (⟨hk, hk.2⟩ : _ ∧ k_ ≠ gb236))) (fun _ hk => hk.2) (.int .i64 ((rd_T56 x15_1 x17_1).f0))) (fun _ hk => hk.2) (.int .i64 ((rd_T56 x15_1 x17_1).f1))) (fun _ hk => hk.2) (.slice A235_2 ((rd_T56 x15_1 x17_1).f2).length c235_2)) (fun _ h_ => h_.1)))); (case side2 => exact (Kd.N_reads' HO_6.out).2.1); (case side3 => repeat (first | exact ((Kd.V_reads' (by (with_reducible repeat (first | apply Kd.V_alloc | apply Kd.V_drewN | apply Kd.V_drew)); exact (Kd.V_mono (Kd.V_far (p := ⟨gb236, 2, none⟩) (Kd.V_far (p := ⟨gb236, 1, none⟩) (Kd.V_far (p := ⟨gb236, 0, none⟩) (Kd.V_mono HL235_2.out (fun k_ hk => (⟨hk, hk.2⟩ : _ ∧ k_ ≠ gb236))) (fun _ hk => hk.2) (.int .i64 ((rd_T56 x15_1 x17_1).f0))) (fun _ hk => hk.2) (.int .i64 ((rd_T56 x15_1 x17_1).f1))) (fun _ hk => hk.2) (.slice A235_2 ((rd_T56 x15_1 x17_1).f2).length c235_2)) (fun _ h_ => h_.1)))).2.2) | (with_reducible refine Kd.C_alloc ?_ _) | (with_reducible refine Kd.C_drewN ?_ _) | (with_reducible refine Kd.C_drew ?_))); (case side4 => exact HC235_2.out); rintro e w29 ⟨rfl, hb⟩; refine ⟨_, rfl, ?_⟩; have n0_ := Aside0.mk (Kd.N_below (by (with_reducible repeat (first | apply Kd.N_alloc | apply Kd.N_drewN | apply Kd.N_drew)); exact (Kd.N_mono (Kd.N_far (p := ⟨gb236, 2, none⟩) (Kd.N_far (p := ⟨gb236, 1, none⟩) (Kd.N_far (p := ⟨gb236, 0, none⟩) (Kd.N_mono HO_6.out (fun k_ hk => (⟨hk, hk.2⟩ : _ ∧ k_ ≠ gb236))) (fun _ hk => hk.2) (.int .i64 ((rd_T56 x15_1 x17_1).f0))) (fun _ hk => hk.2) (.int .i64 ((rd_T56 x15_1 x17_1).f1))) (fun _ hk => hk.2) (.slice A235_2 ((rd_T56 x15_1 x17_1).f2).length c235_2)) (fun _ h_ => h_.1))) hb); have n1_ := Aside0.mk (Kd.N_below (by (with_reducible repeat (first | apply Kd.N_alloc | apply Kd.N_drewN | apply Kd.N_drew)); exact (Kd.N_mono (Kd.N_far (p := ⟨gb236, 2, none⟩) (Kd.N_far (p := ⟨gb236, 1, none⟩) (Kd.N_far (p := ⟨gb236, 0, none⟩) (Kd.N_mono HO_15.out (fun k_ hk => (⟨hk, hk.2⟩ : _ ∧ k_ ≠ gb236))) (fun _ hk => hk.2) (.int .i64 ((rd_T56 x15_1 x17_1).f0))) (fun _ hk => hk.2) (.int .i64 ((rd_T56 x15_1 x17_1).f1))) (fun _ hk => hk.2) (.slice A235_2 ((rd_T56 x15_1 x17_1).f2).length c235_2)) (fun _ h_ => h_.1))) hb); have n2_ := Aside0.mk (Kd.V_below (by (with_reducible repeat (first | apply Kd.V_alloc | apply Kd.V_drewN | apply Kd.V_drew)); exact (Kd.V_mono (Kd.V_far (p := ⟨gb236, 2, none⟩) (Kd.V_far (p := ⟨gb236, 1, none⟩) (Kd.V_far (p := ⟨gb236, 0, none⟩) (Kd.V_mono HL235_2.out (fun k_ hk => (⟨hk, hk.2⟩ : _ ∧ k_ ≠ gb236))) (fun _ hk => hk.2) (.int .i64 ((rd_T56 x15_1 x17_1).f0))) (fun _ hk => hk.2) (.int .i64 ((rd_T56 x15_1 x17_1).f1))) (fun _ hk => hk.2) (.slice A235_2 ((rd_T56 x15_1 x17_1).f2).length c235_2)) (fun _ h_ => h_.1))) hb); have n3_ := Aside0.mk (Kd.C_below ((Kd.V_reads' (by (with_reducible repeat (first | apply Kd.V_alloc | apply Kd.V_drewN | apply Kd.V_drew)); exact (Kd.V_mono (Kd.V_far (p := ⟨gb236, 2, none⟩) (Kd.V_far (p := ⟨gb236, 1, none⟩) (Kd.V_far (p := ⟨gb236, 0, none⟩) (Kd.V_mono HL235_2.out (fun k_ hk => (⟨hk, hk.2⟩ : _ ∧ k_ ≠ gb236))) (fun _ hk => hk.2) (.int .i64 ((rd_T56 x15_1 x17_1).f0))) (fun _ hk => hk.2) (.int .i64 ((rd_T56 x15_1 x17_1).f1))) (fun _ hk => hk.2) (.slice A235_2 ((rd_T56 x15_1 x17_1).f2).length c235_2)) (fun _ h_ => h_.1)))).2.2) hb); have n4_ := Aside0.mk (blk_below (g := gb236) (o := .cells #[.int .i64 ((rd_T56 x15_1 x17_1).f0), .int .i64 ((rd_T56 x15_1 x17_1).f1), .slice A235_2 ((rd_T56 x15_1 x17_1).f2).length c235_2] 56 (0, 0)) (by (with_reducible repeat (first | refine blk_drewN ?_ _ | refine blk_drew ?_ | refine blk_alloc ?_ _)); refine blk_put (cs := #[.int .i64 ((rd_T56 x15_1 x17_1).f0), .int .i64 ((rd_T56 x15_1 x17_1).f1), .slice none 0 0]) ?_ 2 _ rfl; (with_reducible repeat (first | refine blk_drewN ?_ _ | refine blk_drew ?_ | refine blk_alloc ?_ _)); refine blk_put (cs := #[.int .i64 ((rd_T56 x15_1 x17_1).f0), .int .i64 0, .slice none 0 0]) ?_ 1 _ rfl; (with_reducible repeat (first | refine blk_drewN ?_ _ | refine blk_drew ?_ | refine blk_alloc ?_ _)); refine blk_put (cs := #[.int .i64 0, .int .i64 0, .slice none 0 0]) ?_ 0 _ rfl; (with_reducible repeat (first | refine blk_drewN ?_ _ | refine blk_drew ?_ | refine blk_alloc ?_ _)); exact BK236.out) hb); have n5_ := Aside0.mk (below_step (by repeat (first | (with_reducible first | exact HB.out | apply below_alloc | apply pw_below_drewN | apply below_drew1 | refine below_set ?_ GE236.out) | exact HB.out)) hb); clear HO_6; clear HO_15; clear HL235_2; clear HR235_2; clear BK236; clear HB; have HO_6 := n0_; have HO_15 := n1_; have HL235_2 := n2_; have HR235_2 := n3_; have BK236 := n4_; have HB := n5_; clear n0_ n1_ n2_ n3_ n4_ n5_; (try clear hb); (try clear hb2); (try clear hk); (try clear hi)))
           have n0_ := Aside0.mk (Kd.N_drew HO_6.out)
           have n1_ := Aside0.mk (Kd.N_drew HO_15.out)
           have n2_ := Aside0.mk (Kd.V_drew HL235_2.out)
           have n3_ := Aside0.mk (blk_drew BK236.out)
           have n4_ := Aside0.mk (Kd.C_drew HR235_2.out)
           have n5_ := Aside0.mk (below_drew1 HB.out)
           clear HO_6; clear HO_15; clear HL235_2; clear BK236; clear HR235_2; clear HB; have HO_6 := n0_; have HO_15 := n1_; have HL235_2 := n2_; have BK236 := n3_; have HR235_2 := n4_; have HB := n5_; clear n0_ n1_ n2_ n3_ n4_ n5_
           have p241 : 0 ≤ (t237 : Int) := of_decide_eq_true (by first | (with_reducible assumption) | assumption)
           have q241 : t237 < (x6_1.length : Int) := of_decide_eq_true (by first | (with_reducible assumption) | assumption)
           obtain ⟨ad241, A241_2, c241_2, e241, hx241_0, hx241_1, hx241_2, hl241_2, hi241_2⟩ := at_T56 (Kd.N_reads' HO_6.out).2.2 t237 p241 q241
           cases e241
           obtain ⟨ce241, hce241, hMe241, hcc241⟩ := Kd.N_get HO_6.out z56 t237 p241 (by first | exact q241 | exact of_decide_eq_true (by first | (with_reducible assumption) | assumption) | (have e_ := (Kd.N_reads' HO_6.out).1; omega))
           obtain ⟨ua241_2, uc241_2, rfl, ul241_2, ge241_2⟩ := k56_openF hMe241
           have hv241_2 := hcc241 2 _ rfl
           rw [add_field _ _ 2 (by omega)] at hv241_2
           replace hv241_2 := Option.some.inj (hv241_2.symm.trans hx241_2)
           injection hv241_2 with hva_ hvn_ hvc_
           rw [hva_] at ge241_2
           rw [hvc_] at ul241_2
           have HL241_2 := Aside0.mk (show Kd.V (Kd.int .i64) 3 _ w.heap.size _ _ ((rd_T56 x6_1 t237).f2) from Kd.V_mk ul241_2 ge241_2)
           clear hva_ hvn_ hvc_ ge241_2 ul241_2; clear hcc241 hce241
           have HR241_2 := Aside0.mk hi241_2
           have HC241_2 := Aside0.mk hl241_2
           clear hi241_2 hl241_2; replace p241 := eq_true p241; replace q241 := eq_true q241
           have p23 : 0 ≤ (t237 : Int) := of_decide_eq_true (by first | (with_reducible assumption) | assumption)
           have q23 : (t237 : Int) < ((x6_1.length : Int) : Int) := of_decide_eq_true (by first | (with_reducible assumption) | assumption)
           obtain ⟨go23, co23, eo23, gb23, gl23, cl23, HG23⟩ := Kd.N_form HO_6.out (by omega)
           (first | cases eo23 | (injection eo23 with ea_ en_ ec_; (first | subst ea_ | (injection ea_ with ea_; subst ea_)); subst ec_; clear en_))
           have GB23 := Aside0.mk gb23
           have GG23 := Aside0.mk HG23
           clear gb23 gl23 HG23
           (first | simp only [add_plain] at hx241_0 | skip)
           (first | simp only [add_plain] at hx241_1 | skip)
           (first | simp only [add_plain] at hx241_2 | skip)
           obtain ⟨ce23, hcl23, hM23, hcc23, hfr23⟩ := Kd.N_elem HO_6.out z56 (t237 : Int) p23 q23
           obtain ⟨ua23_2, uc23_2, rfl, ul23_2, ge23_2⟩ := k56_openF hM23
           have hx23_0 : World.cell? _ ⟨go23, (t237 : Int).toNat * 3, none⟩ = some (.int .i64 ((rd_T56 x6_1 t237).f0)) := hcc23 0 _ rfl
           have hx23_1 : World.cell? _ ⟨go23, (t237 : Int).toNat * 3 + 1, none⟩ = some (.int .i64 ((rd_T56 x6_1 t237).f1)) := hcc23 1 _ rfl
           have hx23_2 : World.cell? _ ⟨go23, (t237 : Int).toNat * 3 + 2, none⟩ = some (.slice ua23_2 ((rd_T56 x6_1 t237).f2).length uc23_2) := hcc23 2 _ rfl
           have hf23_0 : World.frozen? _ ⟨go23, (t237 : Int).toNat * 3, none⟩ = false := hfr23 0
           have hf23_1 : World.frozen? _ ⟨go23, (t237 : Int).toNat * 3 + 1, none⟩ = false := hfr23 1
           have hf23_2 : World.frozen? _ ⟨go23, (t237 : Int).toNat * 3 + 2, none⟩ = false := hfr23 2
           clear hcl23 hcc23 hfr23 ; (try clear hM23)
           replace p23 := eq_true p23; replace q23 := eq_true q23
           have HX31 := Aside0.mk (show Kd.N k56 56 _ w.heap.size (fun k_ => (w.heap.size ≤ k_) ∧ some k_ ≠ (.slice (some ad235) x15_1.length co8 : Value).ownBlock ∧ k_ ≠ gb236) (.slice (some ⟨go23, 0, none⟩) x6_1.length co28) x6_1 from (Kd.N_mono (HO_6.out) (fun k_ hk => ⟨hk.1.1, ⟨hk.1.2, hk.2⟩⟩)))
           obtain ⟨ce31, hcl31, hM31, hcc31, hfr31⟩ := Kd.N_elem HX31.out z56 (t237 : Int) (of_decide_eq_true (by first | (with_reducible assumption) | assumption)) (by have h_ : (t237 : Int) < ((x6_1.length : Int) : Int) := of_decide_eq_true (by first | (with_reducible assumption) | assumption); first | exact h_ | (have e_ := (Kd.N_reads' HO_6.out).1; omega) | simpa using h_)
           obtain ⟨ua31_2, uc31_2, rfl, ul31_2, ge31_2⟩ := k56_openF hM31
           have HP31 := (Kd.N_seg HX31.out (t237 : Int) (of_decide_eq_true (by first | (with_reducible assumption) | assumption)) (by have h_ : (t237 : Int) < ((x6_1.length : Int) : Int) := of_decide_eq_true (by first | (with_reducible assumption) | assumption); first | exact h_ | (have e_ := (Kd.N_reads' HO_6.out).1; omega) | simpa using h_) (seg := [.int .i64 (wrap64 (((rd_T56 x6_1 t237).f1) + ((rd_T56 x15_1 x17_1).f1)))]) (j := 1) hcl31 hcc31 (show 2 ≤ 3 from by decide) (x' := (⟨(rd_T56 x6_1 t237).f0, wrap64 (((rd_T56 x6_1 t237).f1) + ((rd_T56 x15_1 x17_1).f1)), (rd_T56 x6_1 t237).f2⟩ : S56)) (k56_mkF _ _ (⟨(rd_T56 x6_1 t237).f0, wrap64 (((rd_T56 x6_1 t237).f1) + ((rd_T56 x15_1 x17_1).f1)), (rd_T56 x6_1 t237).f2⟩ : S56) ul31_2 ge31_2) (fun _ hk => hk)).1
           rw [← Ny242.out] at HP31
           have HQ31 := Aside0.mk HP31
           clear hcl31 hcc31 hfr31  HP31; (try clear hM31)
           refine start_ (n := 11) (S := fun w' => w'.cell? ⟨gb236, 0, none⟩ = some (.int .i64 ((rd_T56 x15_1 x17_1).f0)) ∧ w'.cell? ⟨gb236, 1, none⟩ = some (.int .i64 ((rd_T56 x15_1 x17_1).f1)) ∧ w'.cell? ⟨gb236, 2, none⟩ = some (.slice A235_2 ((rd_T56 x15_1 x17_1).f2).length c235_2) ∧ w'.cell? ⟨go23, ((t237).toNat * 3), none⟩ = some (.int .i64 ((rd_T56 x6_1 t237).f0)) ∧ w'.cell? ⟨go23, ((t237).toNat * 3) + 1, none⟩ = some (.int .i64 ((rd_T56 x6_1 t237).f1)) ∧ w'.cell? ⟨go23, ((t237).toNat * 3) + 2, none⟩ = some (.slice A241_2 ((rd_T56 x6_1 t237).f2).length c241_2)) (ds := [10]) #[false, false, false, false, false, false, false, false, false, false, false] (by kernel_rfl) rfl rfl ⟨(blk_cell BK236.out 0).trans rfl, (blk_cell BK236.out 1).trans rfl, (blk_cell BK236.out 2).trans rfl, hx241_0, hx241_1, hx241_2⟩ (fun hHeld => ?_); refine with_tabW impl_MergeLoans.tab10 impl_MergeLoans.bits10 (fun HT_ HW_ => ?_)
           generalize w29.drew = w30 at HO_6 HO_15 HL235_2 BK236 HR235_2 HB GG23 HL241_2 HQ31 HR241_2 hf23_0 hf23_1 hf23_2 hx23_0 hx23_1 hx23_2 hx241_0 hx241_1 hx241_2 hHeld ⊢
           refine pure_ (i := 0) (N := some 30) (v := ?_) (a' := ?_) #[true, false, false, false, false, false, false, false, false, false, false] rfl rfl (any_of HT_.out (by kernel_rfl)) (fun _ _ _ h => h) (Or.inl ⟨by rfl, ?_⟩) ?_ ?_
           rotate_left
           ·intro w'
            go_simp
            with_reducible rfl
           rotate_left
           ·simp only [Act.put, List.setIfInBounds_toArray, List.set_cons_zero, List.set_cons_succ, i64_w, i32_w]
            rfl
           refine pure_ (i := 1) (N := some 31) (v := ?_) (a' := ?_) #[true, true, false, false, false, false, false, false, false, false, false] rfl rfl (any_of HT_.out (by kernel_rfl)) (fun _ _ _ h => h) (Or.inl ⟨by rfl, ?_⟩) ?_ ?_
           rotate_left
           ·intro w'
            go_simp
            with_reducible rfl
           rotate_left
           ·simp only [Act.put, List.setIfInBounds_toArray, List.set_cons_zero, List.set_cons_succ, i64_w, i32_w]
            rfl
           refine pure_ (i := 2) (N := some 32) (v := ?_) (a' := ?_) #[true, true, true, false, false, false, false, false, false, false, false] rfl rfl (any_of HT_.out (by kernel_rfl)) (fun _ _ _ h => h) (Or.inl ⟨by rfl, ?_⟩) ?_ ?_
           rotate_left
           ·intro w'
            go_simp
            with_reducible rfl
           rotate_left
           ·simp only [Act.put, List.setIfInBounds_toArray, List.set_cons_zero, List.set_cons_succ, i64_w, i32_w]
            rfl
           refine pure_ (i := 3) (N := some 33) (v := ?_) (a' := ?_) #[true, true, true, true, false, false, false, false, false, false, false] rfl rfl (any_of HT_.out (by kernel_rfl)) (fun _ _ _ h => h) (Or.inl ⟨by rfl, ?_⟩) ?_ ?_
           rotate_left
           ·intro w'
            go_simp
            with_reducible rfl
           rotate_left
           ·simp only [Act.put, List.setIfInBounds_toArray, List.set_cons_zero, List.set_cons_succ, i64_w, i32_w]
            rfl
           refine pure_ (i := 5) (N := some 35) (v := ?_) (a' := ?_) #[true, true, true, true, false, true, false, false, false, false, false] rfl rfl (any_of HT_.out (by kernel_rfl)) (fun _ _ _ h => h) (Or.inl ⟨by rfl, ?_⟩) ?_ ?_
           rotate_left
           ·intro w'
            go_simp
            with_reducible rfl
           rotate_left
           ·simp only [Act.put, List.setIfInBounds_toArray, List.set_cons_zero, List.set_cons_succ, i64_w, i32_w]
            rfl
           refine take_ (i := 4) (N := some 34) (v := ?_) (a' := ?_) #[true, true, true, true, true, true, false, false, false, false, false] rfl rfl (take_ofW HT_.out HW_.out (by kernel_rfl)) (fun _ _ _ h => h) (Or.inl ⟨by rfl, ?_⟩) hHeld ?_ ?_
           rotate_left
           ·rintro w' ⟨s0, s1, s2, s3, s4, s5⟩
            go_simp
            with_reducible rfl
           rotate_left
           ·simp only [Act.put, List.setIfInBounds_toArray, List.set_cons_zero, List.set_cons_succ, i64_w, i32_w]
            rfl
           refine take_ (i := 6) (N := some 36) (v := ?_) (a' := ?_) #[true, true, true, true, true, true, true, false, false, false, false] rfl rfl (take_ofW HT_.out HW_.out (by kernel_rfl)) (fun _ _ _ h => h) (Or.inl ⟨by rfl, ?_⟩) hHeld ?_ ?_
           rotate_left
           ·rintro w' ⟨s0, s1, s2, s3, s4, s5⟩
            go_simp
            with_reducible rfl
           rotate_left
           ·simp only [Act.put, List.setIfInBounds_toArray, List.set_cons_zero, List.set_cons_succ, i64_w, i32_w]
            rfl
           refine pure_ (i := 7) (N := some 37) (v := ?_) (a' := ?_) #[true, true, true, true, true, true, true, true, false, false, false] rfl rfl (any_of HT_.out (by kernel_rfl)) (fun _ _ _ h => h) (Or.inl ⟨by rfl, ?_⟩) ?_ ?_
           rotate_left
           ·intro w'
            go_simp
            with_reducible rfl
           rotate_left
           ·simp only [Act.put, List.setIfInBounds_toArray, List.set_cons_zero, List.set_cons_succ, i64_w, i32_w]
            rfl
           refine pure_ (i := 8) (N := some 38) (v := ?_) (a' := ?_) #[true, true, true, true, true, true, true, true, true, false, false] rfl rfl (any_of HT_.out (by kernel_rfl)) (fun _ _ _ h => h) (Or.inl ⟨by rfl, ?_⟩) ?_ ?_
           rotate_left
           ·intro w'
            go_simp
            with_reducible rfl
           rotate_left
           ·simp only [Act.put, List.setIfInBounds_toArray, List.set_cons_zero, List.set_cons_succ, i64_w, i32_w]
            rfl
           refine pure_ (i := 9) (N := some 39) (v := ?_) (a' := ?_) #[true, true, true, true, true, true, true, true, true, true, false] rfl rfl (any_of HT_.out (by kernel_rfl)) (fun _ _ _ h => h) (Or.inl ⟨by rfl, ?_⟩) ?_ ?_
           rotate_left
           ·intro w'
            go_simp
            with_reducible rfl
           rotate_left
           ·simp only [Act.put, List.setIfInBounds_toArray, List.set_cons_zero, List.set_cons_succ, i64_w, i32_w]
            rfl
           refine last_ (i := 10) (N := none) #[true, true, true, true, true, true, true, true, true, true, true] rfl rfl (one_of HT_.out (by kernel_rfl)) (by decide) (fun K hK => ?_)
           refine skip_ (w1 := ?_) (by rfl) rfl ?_ ?_
           rotate_left
           ·go_simp
            rfl
           refine hK.out _ _ ?_
           clear hK K
           refine done_ (done_of HT_.out (by kernel_rfl)) ?_
           have p24 : 0 ≤ (t237 : Int) := of_decide_eq_true (by first | (with_reducible assumption) | assumption)
           have q24 : (t237 : Int) < ((x6_1.length : Int) : Int) := of_decide_eq_true (by first | (with_reducible assumption) | assumption)
           replace p24 := eq_true p24; replace q24 := eq_true q24
           try go_wp2
           go_ret2
           exact ⟨_, by first | rfl | (simp [errW_none, errW_some] <;> rfl) | (simp [*, errW_none, errW_some] <;> rfl), by first | exact Kd.S_nil _ _ _ _ _ | exact Kd.N_nil _ _ _ _ _ | exact Kd.V_nil _ _ _ _ _ | exact Kd.Q_nil _ _ _ _ _ | exact Kd.R_nil _ _ _ _ _, by repeat (first | (with_reducible first | exact HB.out | apply below_alloc | apply pw_below_drewN | apply below_drew1 | refine below_set ?_ GB23.out | refine below_set ?_ GE236.out) | exact HB.out)⟩
          ·rw [if_neg c25] at H
           have c25b0 : decide (100000 < (wrap64 (((rd_T56 x6_1 t237).f1) + ((rd_T56 x15_1 x17_1).f1)))) = false := decide_eq_false c25
           (try (have c25b0r0 := c25b0; rw [hl15_1] at c25b0r0))
           clear c25
           have H' := Aside0.mk H
           clear H
           have p235 : 0 ≤ (x17_1 : Int) := of_decide_eq_true (by first | (with_reducible assumption) | assumption)
           have q235 : x17_1 < (x15_1.length : Int) := of_decide_eq_true (by first | (with_reducible assumption) | assumption)
           obtain ⟨ad235, A235_2, c235_2, e235, hx235_0, hx235_1, hx235_2, hl235_2, hi235_2⟩ := at_T56 (Kd.N_reads' HO_15.out).2.2 x17_1 p235 q235
           cases e235
           obtain ⟨ce235, hce235, hMe235, hcc235⟩ := Kd.N_get HO_15.out z56 x17_1 p235 (by first | exact q235 | exact of_decide_eq_true (by first | (with_reducible assumption) | assumption) | (have e_ := (Kd.N_reads' HO_15.out).1; omega))
           obtain ⟨ua235_2, uc235_2, rfl, ul235_2, ge235_2⟩ := k56_openF hMe235
           have hv235_2 := hcc235 2 _ rfl
           rw [add_field _ _ 2 (by omega)] at hv235_2
           replace hv235_2 := Option.some.inj (hv235_2.symm.trans hx235_2)
           injection hv235_2 with hva_ hvn_ hvc_
           rw [hva_] at ge235_2
           rw [hvc_] at ul235_2
           have HL235_2 := Aside0.mk (show Kd.V (Kd.int .i64) 3 _ w.heap.size _ _ ((rd_T56 x15_1 x17_1).f2) from Kd.V_mk ul235_2 ge235_2)
           clear hva_ hvn_ hvc_ ge235_2 ul235_2; clear hcc235 hce235
           have HR235_2 := Aside0.mk hi235_2
           have HC235_2 := Aside0.mk hl235_2
           clear hi235_2 hl235_2; replace p235 := eq_true p235; replace q235 := eq_true q235
           try go_wp2_with (first | ((with_reducible refine gate_dst (N := 8) rfl ?_); refine box_event ?hg (N := 8) ?hd (cs := #[.int .i64 0, .int .i64 0, .slice none 0 0]) (t := 56) ?hr ?_; (case hd => rfl); (case hg => rfl); (case hr => first | (go_simp; done) | (go_simp; rfl)); intro gb236 hg w32 hbox hb; have n0_ := Aside0.mk (Kd.N_below (Kd.N_elderB (by (with_reducible repeat (first | apply Kd.N_alloc | apply Kd.N_drewN | apply Kd.N_drew)); exact HO_6.out) gb236 (Nat.le_of_eq hg.symm)) hb); have n1_ := Aside0.mk (Kd.N_below (Kd.N_elderB (by (with_reducible repeat (first | apply Kd.N_alloc | apply Kd.N_drewN | apply Kd.N_drew)); exact HO_15.out) gb236 (Nat.le_of_eq hg.symm)) hb); have n2_ := Aside0.mk (Kd.V_below (Kd.V_elderB (by (with_reducible repeat (first | apply Kd.V_alloc | apply Kd.V_drewN | apply Kd.V_drew)); exact HL235_2.out) gb236 (Nat.le_of_eq hg.symm)) hb); have n3_ := Aside0.mk (Kd.C_below (by repeat (first | (with_reducible exact HR235_2.out) | (with_reducible refine Kd.C_alloc ?_ _) | (with_reducible refine Kd.C_drewN ?_ _) | (with_reducible refine Kd.C_drew ?_) | exact HR235_2.out)) hb); have n4_ := Aside0.mk (below_step (by repeat (first | (with_reducible first | exact HB.out | apply below_alloc | apply pw_below_drewN | apply below_drew1) | exact HB.out)) hb); have n5_ := Aside0.mk (hbox); have n6_ := Aside0.mk ((by rw [hg]; exact (below_size (by repeat (first | (with_reducible first | exact HB.out | apply below_alloc | apply pw_below_drewN | apply below_drew1) | exact HB.out))) : w.heap.size ≤ gb236)); have n7_ := Aside0.mk ((by rw [hg]; exact (below_size (by repeat (first | (with_reducible first | exact HB.out | apply below_alloc | apply pw_below_drewN | apply below_drew1) | exact HB.out))) : w.heap.size ≤ gb236)); clear HO_6; clear HO_15; clear HL235_2; clear HR235_2; clear HB; have HO_6 := n0_; have HO_15 := n1_; have HL235_2 := n2_; have HR235_2 := n3_; have HB := n4_; have BK236 := n5_; have GW236 := n6_; have GE236 := n7_; clear n0_ n1_ n2_ n3_ n4_ n5_ n6_ n7_; clear hb hbox hg; have hcz33_0 : w32.cell? ⟨gb236, 0, none⟩ = some (.int .i64 0) := (blk_cell BK236.out 0).trans rfl; have hcz33_1 : w32.cell? ⟨gb236, 1, none⟩ = some (.int .i64 0) := (blk_cell BK236.out 1).trans rfl; have hcz33_2 : w32.cell? ⟨gb236, 2, none⟩ = some (.slice none 0 0) := (blk_cell BK236.out 2).trans rfl; have hfz33_0 := blk_frozen BK236.out 0; have hfz33_1 := blk_frozen BK236.out 1; have hfz33_2 := blk_frozen BK236.out 2; obtain ⟨Ao34, co34, eo34⟩ := Kd.N_slice HO_6.out; subst eo34) | ((with_reducible refine gate_callee (f := 76) rfl ?_); refine goesL_ (some 23) rfl rfl Try.func76 (by kernel_rfl) rfl #[.slice Ao34 x6_1.length co34, .func (.func 77) #[] #[.pointer (some ⟨gb236, 0, none⟩)]] rfl (by (try simp only [List.map_toArray, List.map_cons, List.map_nil]); first | done | rfl | (simp only [List.length_drop, List.length_take]; rfl)) ?_; (with_reducible refine (impl_Loan.calls k1 _ _ x6_1 ((rd_T56 x15_1 x17_1).f0) ((rd_T56 x15_1 x17_1).f1) A235_2 c235_2 ((rd_T56 x15_1 x17_1).f2) t237 gb236 _ ?side1 ?side2 ?side3 ?side4 ?side8 ?side9 A12.out).mono ?_); (case side8 => exact (blk_cell (show (World.heap _)[gb236]? = some (.cells #[.int .i64 ((rd_T56 x15_1 x17_1).f0), .int .i64 ((rd_T56 x15_1 x17_1).f1), .slice A235_2 ((rd_T56 x15_1 x17_1).f2).length c235_2] 56 (0, 0)) from (by (with_reducible repeat (first | refine blk_drewN ?_ _ | refine blk_drew ?_ | refine blk_alloc ?_ _)); refine blk_put (cs := #[.int .i64 ((rd_T56 x15_1 x17_1).f0), .int .i64 ((rd_T56 x15_1 x17_1).f1), .slice none 0 0]) ?_ 2 _ rfl; (with_reducible repeat (first | refine blk_drewN ?_ _ | refine blk_drew ?_ | refine blk_alloc ?_ _)); refine blk_put (cs := #[.int .i64 ((rd_T56 x15_1 x17_1).f0), .int .i64 0, .slice none 0 0]) ?_ 1 _ rfl; (with_reducible repeat (first | refine blk_drewN ?_ _ | refine blk_drew ?_ | refine blk_alloc ?_ _)); refine blk_put (cs := #[.int .i64 0, .int .i64 0, .slice none 0 0]) ?_ 0 _ rfl; (with_reducible repeat (first | refine blk_drewN ?_ _ | refine blk_drew ?_ | refine blk_alloc ?_ _)); exact BK236.out)) 0).trans rfl); (case side9 => exact (blk_cell (show (World.heap _)[gb236]? = some (.cells #[.int .i64 ((rd_T56 x15_1 x17_1).f0), .int .i64 ((rd_T56 x15_1 x17_1).f1), .slice A235_2 ((rd_T56 x15_1 x17_1).f2).length c235_2] 56 (0, 0)) from (by (with_reducible repeat (first | refine blk_drewN ?_ _ | refine blk_drew ?_ | refine blk_alloc ?_ _)); refine blk_put (cs := #[.int .i64 ((rd_T56 x15_1 x17_1).f0), .int .i64 ((rd_T56 x15_1 x17_1).f1), .slice none 0 0]) ?_ 2 _ rfl; (with_reducible repeat (first | refine blk_drewN ?_ _ | refine blk_drew ?_ | refine blk_alloc ?_ _)); refine blk_put (cs := #[.int .i64 ((rd_T56 x15_1 x17_1).f0), .int .i64 0, .slice none 0 0]) ?_ 1 _ rfl; (with_reducible repeat (first | refine blk_drewN ?_ _ | refine blk_drew ?_ | refine blk_alloc ?_ _)); refine blk_put (cs := #[.int .i64 0, .int .i64 0, .slice none 0 0]) ?_ 0 _ rfl; (with_reducible repeat (first | refine blk_drewN ?_ _ | refine blk_drew ?_ | refine blk_alloc ?_ _)); exact BK236.out)) 2).trans rfl); (case side1 => refine (Kd.N_reads' (e := 56) (base := w.heap.size) (ok := fun k_ => (((w.heap.size ≤ k_) ∧ some k_ ≠ (.slice (some ad235) x15_1.length co8 : Value).ownBlock) ∧ k_ ≠ gb236)) (n := x6_1.length) (c := co34) ?_).2.2; exact (by (with_reducible repeat (first | apply Kd.N_alloc | apply Kd.N_drewN | apply Kd.N_drew)); exact (Kd.N_mono (Kd.N_far (p := ⟨gb236, 2, none⟩) (Kd.N_far (p := ⟨gb236, 1, none⟩) (Kd.N_far (p := ⟨gb236, 0, none⟩) (Kd.N_mono HO_6.out (fun k_ hk => (⟨hk, hk.2⟩ : _ ∧ k_ ≠ gb236))) (fun _ hk => hk.2) (.int .i64 ((rd_T56 x15_1 x17_1).f0))) (fun _ hk => hk.2) (.int .i64 ((rd_T56 x15_1 x17_1).f1))) (fun _ hk => hk.2) (.slice A235_2 ((rd_T56 x15_1 x17_1).f2).length c235_2)) (fun _ h_ => h_.1)))); (case side2 => exact (Kd.N_reads' HO_6.out).2.1); (case side3 => repeat (first | exact ((Kd.V_reads' (by (with_reducible repeat (first | apply Kd.V_alloc | apply Kd.V_drewN | apply Kd.V_drew)); exact (Kd.V_mono (Kd.V_far (p := ⟨gb236, 2, none⟩) (Kd.V_far (p := ⟨gb236, 1, none⟩) (Kd.V_far (p := ⟨gb236, 0, none⟩) (Kd.V_mono HL235_2.out (fun k_ hk => (⟨hk, hk.2⟩ : _ ∧ k_ ≠ gb236))) (fun _ hk => hk.2) (.int .i64 ((rd_T56 x15_1 x17_1).f0))) (fun _ hk => hk.2) (.int .i64 ((rd_T56 x15_1 x17_1).f1))) (fun _ hk => hk.2) (.slice A235_2 ((rd_T56 x15_1 x17_1).f2).length c235_2)) (fun _ h_ => h_.1)))).2.2) | (with_reducible refine Kd.C_alloc ?_ _) | (with_reducible refine Kd.C_drewN ?_ _) | (with_reducible refine Kd.C_drew ?_))); (case side4 => exact HC235_2.out); rintro e w35 ⟨rfl, hb⟩; refine ⟨_, rfl, ?_⟩; have n0_ := Aside0.mk (Kd.N_below (by (with_reducible repeat (first | apply Kd.N_alloc | apply Kd.N_drewN | apply Kd.N_drew)); exact (Kd.N_mono (Kd.N_far (p := ⟨gb236, 2, none⟩) (Kd.N_far (p := ⟨gb236, 1, none⟩) (Kd.N_far (p := ⟨gb236, 0, none⟩) (Kd.N_mono HO_6.out (fun k_ hk => (⟨hk, hk.2⟩ : _ ∧ k_ ≠ gb236))) (fun _ hk => hk.2) (.int .i64 ((rd_T56 x15_1 x17_1).f0))) (fun _ hk => hk.2) (.int .i64 ((rd_T56 x15_1 x17_1).f1))) (fun _ hk => hk.2) (.slice A235_2 ((rd_T56 x15_1 x17_1).f2).length c235_2)) (fun _ h_ => h_.1))) hb); have n1_ := Aside0.mk (Kd.N_below (by (with_reducible repeat (first | apply Kd.N_alloc | apply Kd.N_drewN | apply Kd.N_drew)); exact (Kd.N_mono (Kd.N_far (p := ⟨gb236, 2, none⟩) (Kd.N_far (p := ⟨gb236, 1, none⟩) (Kd.N_far (p := ⟨gb236, 0, none⟩) (Kd.N_mono HO_15.out (fun k_ hk => (⟨hk, hk.2⟩ : _ ∧ k_ ≠ gb236))) (fun _ hk => hk.2) (.int .i64 ((rd_T56 x15_1 x17_1).f0))) (fun _ hk => hk.2) (.int .i64 ((rd_T56 x15_1 x17_1).f1))) (fun _ hk => hk.2) (.slice A235_2 ((rd_T56 x15_1 x17_1).f2).length c235_2)) (fun _ h_ => h_.1))) hb); have n2_ := Aside0.mk (Kd.V_below (by (with_reducible repeat (first | apply Kd.V_alloc | apply Kd.V_drewN | apply Kd.V_drew)); exact (Kd.V_mono (Kd.V_far (p := ⟨gb236, 2, none⟩) (Kd.V_far (p := ⟨gb236, 1, none⟩) (Kd.V_far (p := ⟨gb236, 0, none⟩) (Kd.V_mono HL235_2.out (fun k_ hk => (⟨hk, hk.2⟩ : _ ∧ k_ ≠ gb236))) (fun _ hk => hk.2) (.int .i64 ((rd_T56 x15_1 x17_1).f0))) (fun _ hk => hk.2) (.int .i64 ((rd_T56 x15_1 x17_1).f1))) (fun _ hk => hk.2) (.slice A235_2 ((rd_T56 x15_1 x17_1).f2).length c235_2)) (fun _ h_ => h_.1))) hb); have n3_ := Aside0.mk (Kd.C_below ((Kd.V_reads' (by (with_reducible repeat (first | apply Kd.V_alloc | apply Kd.V_drewN | apply Kd.V_drew)); exact (Kd.V_mono (Kd.V_far (p := ⟨gb236, 2, none⟩) (Kd.V_far (p := ⟨gb236, 1, none⟩) (Kd.V_far (p := ⟨gb236, 0, none⟩) (Kd.V_mono HL235_2.out (fun k_ hk => (⟨hk, hk.2⟩ : _ ∧ k_ ≠ gb236))) (fun _ hk => hk.2) (.int .i64 ((rd_T56 x15_1 x17_1).f0))) (fun _ hk => hk.2) (.int .i64 ((rd_T56 x15_1 x17_1).f1))) (fun _ hk => hk.2) (.slice A235_2 ((rd_T56 x15_1 x17_1).f2).length c235_2)) (fun _ h_ => h_.1)))).2.2) hb); have n4_ := Aside0.mk (blk_below (g := gb236) (o := .cells #[.int .i64 ((rd_T56 x15_1 x17_1).f0), .int .i64 ((rd_T56 x15_1 x17_1).f1), .slice A235_2 ((rd_T56 x15_1 x17_1).f2).length c235_2] 56 (0, 0)) (by (with_reducible repeat (first | refine blk_drewN ?_ _ | refine blk_drew ?_ | refine blk_alloc ?_ _)); refine blk_put (cs := #[.int .i64 ((rd_T56 x15_1 x17_1).f0), .int .i64 ((rd_T56 x15_1 x17_1).f1), .slice none 0 0]) ?_ 2 _ rfl; (with_reducible repeat (first | refine blk_drewN ?_ _ | refine blk_drew ?_ | refine blk_alloc ?_ _)); refine blk_put (cs := #[.int .i64 ((rd_T56 x15_1 x17_1).f0), .int .i64 0, .slice none 0 0]) ?_ 1 _ rfl; (with_reducible repeat (first | refine blk_drewN ?_ _ | refine blk_drew ?_ | refine blk_alloc ?_ _)); refine blk_put (cs := #[.int .i64 0, .int .i64 0, .slice none 0 0]) ?_ 0 _ rfl; (with_reducible repeat (first | refine blk_drewN ?_ _ | refine blk_drew ?_ | refine blk_alloc ?_ _)); exact BK236.out) hb); have n5_ := Aside0.mk (below_step (by repeat (first | (with_reducible first | exact HB.out | apply below_alloc | apply pw_below_drewN | apply below_drew1 | refine below_set ?_ GE236.out) | exact HB.out)) hb); clear HO_6; clear HO_15; clear HL235_2; clear HR235_2; clear BK236; clear HB; have HO_6 := n0_; have HO_15 := n1_; have HL235_2 := n2_; have HR235_2 := n3_; have BK236 := n4_; have HB := n5_; clear n0_ n1_ n2_ n3_ n4_ n5_; (try clear hb); (try clear hb2); (try clear hk); (try clear hi)))
           have n0_ := Aside0.mk (Kd.N_drew HO_6.out)
           have n1_ := Aside0.mk (Kd.N_drew HO_15.out)
           have n2_ := Aside0.mk (Kd.V_drew HL235_2.out)
           have n3_ := Aside0.mk (blk_drew BK236.out)
           have n4_ := Aside0.mk (Kd.C_drew HR235_2.out)
           have n5_ := Aside0.mk (below_drew1 HB.out)
           clear HO_6; clear HO_15; clear HL235_2; clear BK236; clear HR235_2; clear HB; have HO_6 := n0_; have HO_15 := n1_; have HL235_2 := n2_; have BK236 := n3_; have HR235_2 := n4_; have HB := n5_; clear n0_ n1_ n2_ n3_ n4_ n5_
           have p241 : 0 ≤ (t237 : Int) := of_decide_eq_true (by first | (with_reducible assumption) | assumption)
           have q241 : t237 < (x6_1.length : Int) := of_decide_eq_true (by first | (with_reducible assumption) | assumption)
           obtain ⟨ad241, A241_2, c241_2, e241, hx241_0, hx241_1, hx241_2, hl241_2, hi241_2⟩ := at_T56 (Kd.N_reads' HO_6.out).2.2 t237 p241 q241
           cases e241
           obtain ⟨ce241, hce241, hMe241, hcc241⟩ := Kd.N_get HO_6.out z56 t237 p241 (by first | exact q241 | exact of_decide_eq_true (by first | (with_reducible assumption) | assumption) | (have e_ := (Kd.N_reads' HO_6.out).1; omega))
           obtain ⟨ua241_2, uc241_2, rfl, ul241_2, ge241_2⟩ := k56_openF hMe241
           have hv241_2 := hcc241 2 _ rfl
           rw [add_field _ _ 2 (by omega)] at hv241_2
           replace hv241_2 := Option.some.inj (hv241_2.symm.trans hx241_2)
           injection hv241_2 with hva_ hvn_ hvc_
           rw [hva_] at ge241_2
           rw [hvc_] at ul241_2
           have HL241_2 := Aside0.mk (show Kd.V (Kd.int .i64) 3 _ w.heap.size _ _ ((rd_T56 x6_1 t237).f2) from Kd.V_mk ul241_2 ge241_2)
           clear hva_ hvn_ hvc_ ge241_2 ul241_2; clear hcc241 hce241
           have HR241_2 := Aside0.mk hi241_2
           have HC241_2 := Aside0.mk hl241_2
           clear hi241_2 hl241_2; replace p241 := eq_true p241; replace q241 := eq_true q241
           have p23 : 0 ≤ (t237 : Int) := of_decide_eq_true (by first | (with_reducible assumption) | assumption)
           have q23 : (t237 : Int) < ((x6_1.length : Int) : Int) := of_decide_eq_true (by first | (with_reducible assumption) | assumption)
           obtain ⟨go23, co23, eo23, gb23, gl23, cl23, HG23⟩ := Kd.N_form HO_6.out (by omega)
           (first | cases eo23 | (injection eo23 with ea_ en_ ec_; (first | subst ea_ | (injection ea_ with ea_; subst ea_)); subst ec_; clear en_))
           have GB23 := Aside0.mk gb23
           have GG23 := Aside0.mk HG23
           clear gb23 gl23 HG23
           (first | simp only [add_plain] at hx241_0 | skip)
           (first | simp only [add_plain] at hx241_1 | skip)
           (first | simp only [add_plain] at hx241_2 | skip)
           obtain ⟨ce23, hcl23, hM23, hcc23, hfr23⟩ := Kd.N_elem HO_6.out z56 (t237 : Int) p23 q23
           obtain ⟨ua23_2, uc23_2, rfl, ul23_2, ge23_2⟩ := k56_openF hM23
           have hx23_0 : World.cell? _ ⟨go23, (t237 : Int).toNat * 3, none⟩ = some (.int .i64 ((rd_T56 x6_1 t237).f0)) := hcc23 0 _ rfl
           have hx23_1 : World.cell? _ ⟨go23, (t237 : Int).toNat * 3 + 1, none⟩ = some (.int .i64 ((rd_T56 x6_1 t237).f1)) := hcc23 1 _ rfl
           have hx23_2 : World.cell? _ ⟨go23, (t237 : Int).toNat * 3 + 2, none⟩ = some (.slice ua23_2 ((rd_T56 x6_1 t237).f2).length uc23_2) := hcc23 2 _ rfl
           have hf23_0 : World.frozen? _ ⟨go23, (t237 : Int).toNat * 3, none⟩ = false := hfr23 0
           have hf23_1 : World.frozen? _ ⟨go23, (t237 : Int).toNat * 3 + 1, none⟩ = false := hfr23 1
           have hf23_2 : World.frozen? _ ⟨go23, (t237 : Int).toNat * 3 + 2, none⟩ = false := hfr23 2
           clear hcl23 hcc23 hfr23 ; (try clear hM23)
           replace p23 := eq_true p23; replace q23 := eq_true q23
           have HX37 := Aside0.mk (show Kd.N k56 56 _ w.heap.size (fun k_ => (w.heap.size ≤ k_) ∧ some k_ ≠ (.slice (some ad235) x15_1.length co8 : Value).ownBlock ∧ k_ ≠ gb236) (.slice (some ⟨go23, 0, none⟩) x6_1.length co34) x6_1 from (Kd.N_mono (HO_6.out) (fun k_ hk => ⟨hk.1.1, ⟨hk.1.2, hk.2⟩⟩)))
           obtain ⟨ce37, hcl37, hM37, hcc37, hfr37⟩ := Kd.N_elem HX37.out z56 (t237 : Int) (of_decide_eq_true (by first | (with_reducible assumption) | assumption)) (by have h_ : (t237 : Int) < ((x6_1.length : Int) : Int) := of_decide_eq_true (by first | (with_reducible assumption) | assumption); first | exact h_ | (have e_ := (Kd.N_reads' HO_6.out).1; omega) | simpa using h_)
           obtain ⟨ua37_2, uc37_2, rfl, ul37_2, ge37_2⟩ := k56_openF hM37
           have HP37 := (Kd.N_seg HX37.out (t237 : Int) (of_decide_eq_true (by first | (with_reducible assumption) | assumption)) (by have h_ : (t237 : Int) < ((x6_1.length : Int) : Int) := of_decide_eq_true (by first | (with_reducible assumption) | assumption); first | exact h_ | (have e_ := (Kd.N_reads' HO_6.out).1; omega) | simpa using h_) (seg := [.int .i64 (wrap64 (((rd_T56 x6_1 t237).f1) + ((rd_T56 x15_1 x17_1).f1)))]) (j := 1) hcl37 hcc37 (show 2 ≤ 3 from by decide) (x' := (⟨(rd_T56 x6_1 t237).f0, wrap64 (((rd_T56 x6_1 t237).f1) + ((rd_T56 x15_1 x17_1).f1)), (rd_T56 x6_1 t237).f2⟩ : S56)) (k56_mkF _ _ (⟨(rd_T56 x6_1 t237).f0, wrap64 (((rd_T56 x6_1 t237).f1) + ((rd_T56 x15_1 x17_1).f1)), (rd_T56 x6_1 t237).f2⟩ : S56) ul37_2 ge37_2) (fun _ hk => hk)).1
           rw [← Ny242.out] at HP37
           have HQ37 := Aside0.mk HP37
           clear hcl37 hcc37 hfr37  HP37; (try clear hM37)
           refine start_ (n := 11) (S := fun w' => w'.cell? ⟨gb236, 0, none⟩ = some (.int .i64 ((rd_T56 x15_1 x17_1).f0)) ∧ w'.cell? ⟨gb236, 1, none⟩ = some (.int .i64 ((rd_T56 x15_1 x17_1).f1)) ∧ w'.cell? ⟨gb236, 2, none⟩ = some (.slice A235_2 ((rd_T56 x15_1 x17_1).f2).length c235_2) ∧ w'.cell? ⟨go23, ((t237).toNat * 3), none⟩ = some (.int .i64 ((rd_T56 x6_1 t237).f0)) ∧ w'.cell? ⟨go23, ((t237).toNat * 3) + 1, none⟩ = some (.int .i64 ((rd_T56 x6_1 t237).f1)) ∧ w'.cell? ⟨go23, ((t237).toNat * 3) + 2, none⟩ = some (.slice A241_2 ((rd_T56 x6_1 t237).f2).length c241_2)) (ds := [10]) #[false, false, false, false, false, false, false, false, false, false, false] (by kernel_rfl) rfl rfl ⟨(blk_cell BK236.out 0).trans rfl, (blk_cell BK236.out 1).trans rfl, (blk_cell BK236.out 2).trans rfl, hx241_0, hx241_1, hx241_2⟩ (fun hHeld => ?_); refine with_tabW impl_MergeLoans.tab10 impl_MergeLoans.bits10 (fun HT_ HW_ => ?_)
           generalize w35.drew = w36 at HO_6 HO_15 HL235_2 BK236 HR235_2 HB GG23 HL241_2 HQ37 HR241_2 hf23_0 hf23_1 hf23_2 hx23_0 hx23_1 hx23_2 hx241_0 hx241_1 hx241_2 hHeld ⊢
           refine pure_ (i := 0) (N := some 30) (v := ?_) (a' := ?_) #[true, false, false, false, false, false, false, false, false, false, false] rfl rfl (any_of HT_.out (by kernel_rfl)) (fun _ _ _ h => h) (Or.inl ⟨by rfl, ?_⟩) ?_ ?_
           rotate_left
           ·intro w'
            go_simp
            with_reducible rfl
           rotate_left
           ·simp only [Act.put, List.setIfInBounds_toArray, List.set_cons_zero, List.set_cons_succ, i64_w, i32_w]
            rfl
           refine pure_ (i := 1) (N := some 31) (v := ?_) (a' := ?_) #[true, true, false, false, false, false, false, false, false, false, false] rfl rfl (any_of HT_.out (by kernel_rfl)) (fun _ _ _ h => h) (Or.inl ⟨by rfl, ?_⟩) ?_ ?_
           rotate_left
           ·intro w'
            go_simp
            with_reducible rfl
           rotate_left
           ·simp only [Act.put, List.setIfInBounds_toArray, List.set_cons_zero, List.set_cons_succ, i64_w, i32_w]
            rfl
           refine pure_ (i := 2) (N := some 32) (v := ?_) (a' := ?_) #[true, true, true, false, false, false, false, false, false, false, false] rfl rfl (any_of HT_.out (by kernel_rfl)) (fun _ _ _ h => h) (Or.inl ⟨by rfl, ?_⟩) ?_ ?_
           rotate_left
           ·intro w'
            go_simp
            with_reducible rfl
           rotate_left
           ·simp only [Act.put, List.setIfInBounds_toArray, List.set_cons_zero, List.set_cons_succ, i64_w, i32_w]
            rfl
           refine pure_ (i := 3) (N := some 33) (v := ?_) (a' := ?_) #[true, true, true, true, false, false, false, false, false, false, false] rfl rfl (any_of HT_.out (by kernel_rfl)) (fun _ _ _ h => h) (Or.inl ⟨by rfl, ?_⟩) ?_ ?_
           rotate_left
           ·intro w'
            go_simp
            with_reducible rfl
           rotate_left
           ·simp only [Act.put, List.setIfInBounds_toArray, List.set_cons_zero, List.set_cons_succ, i64_w, i32_w]
            rfl
           refine pure_ (i := 5) (N := some 35) (v := ?_) (a' := ?_) #[true, true, true, true, false, true, false, false, false, false, false] rfl rfl (any_of HT_.out (by kernel_rfl)) (fun _ _ _ h => h) (Or.inl ⟨by rfl, ?_⟩) ?_ ?_
           rotate_left
           ·intro w'
            go_simp
            with_reducible rfl
           rotate_left
           ·simp only [Act.put, List.setIfInBounds_toArray, List.set_cons_zero, List.set_cons_succ, i64_w, i32_w]
            rfl
           refine take_ (i := 4) (N := some 34) (v := ?_) (a' := ?_) #[true, true, true, true, true, true, false, false, false, false, false] rfl rfl (take_ofW HT_.out HW_.out (by kernel_rfl)) (fun _ _ _ h => h) (Or.inl ⟨by rfl, ?_⟩) hHeld ?_ ?_
           rotate_left
           ·rintro w' ⟨s0, s1, s2, s3, s4, s5⟩
            go_simp
            with_reducible rfl
           rotate_left
           ·simp only [Act.put, List.setIfInBounds_toArray, List.set_cons_zero, List.set_cons_succ, i64_w, i32_w]
            rfl
           refine take_ (i := 6) (N := some 36) (v := ?_) (a' := ?_) #[true, true, true, true, true, true, true, false, false, false, false] rfl rfl (take_ofW HT_.out HW_.out (by kernel_rfl)) (fun _ _ _ h => h) (Or.inl ⟨by rfl, ?_⟩) hHeld ?_ ?_
           rotate_left
           ·rintro w' ⟨s0, s1, s2, s3, s4, s5⟩
            go_simp
            with_reducible rfl
           rotate_left
           ·simp only [Act.put, List.setIfInBounds_toArray, List.set_cons_zero, List.set_cons_succ, i64_w, i32_w]
            rfl
           refine pure_ (i := 7) (N := some 37) (v := ?_) (a' := ?_) #[true, true, true, true, true, true, true, true, false, false, false] rfl rfl (any_of HT_.out (by kernel_rfl)) (fun _ _ _ h => h) (Or.inl ⟨by rfl, ?_⟩) ?_ ?_
           rotate_left
           ·intro w'
            go_simp
            with_reducible rfl
           rotate_left
           ·simp only [Act.put, List.setIfInBounds_toArray, List.set_cons_zero, List.set_cons_succ, i64_w, i32_w]
            rfl
           refine pure_ (i := 8) (N := some 38) (v := ?_) (a' := ?_) #[true, true, true, true, true, true, true, true, true, false, false] rfl rfl (any_of HT_.out (by kernel_rfl)) (fun _ _ _ h => h) (Or.inl ⟨by rfl, ?_⟩) ?_ ?_
           rotate_left
           ·intro w'
            go_simp
            with_reducible rfl
           rotate_left
           ·simp only [Act.put, List.setIfInBounds_toArray, List.set_cons_zero, List.set_cons_succ, i64_w, i32_w]
            rfl
           refine pure_ (i := 9) (N := some 39) (v := ?_) (a' := ?_) #[true, true, true, true, true, true, true, true, true, true, false] rfl rfl (any_of HT_.out (by kernel_rfl)) (fun _ _ _ h => h) (Or.inl ⟨by rfl, ?_⟩) ?_ ?_
           rotate_left
           ·intro w'
            go_simp
            with_reducible rfl
           rotate_left
           ·simp only [Act.put, List.setIfInBounds_toArray, List.set_cons_zero, List.set_cons_succ, i64_w, i32_w]
            rfl
           refine last_ (i := 10) (N := none) #[true, true, true, true, true, true, true, true, true, true, true] rfl rfl (one_of HT_.out (by kernel_rfl)) (by decide) (fun K hK => ?_)
           refine skip_ (w1 := ?_) (by rfl) rfl ?_ ?_
           rotate_left
           ·go_simp
            rfl
           refine hK.out _ _ ?_
           clear hK K
           refine done_ (done_of HT_.out (by kernel_rfl)) ?_
           have p24 : 0 ≤ (t237 : Int) := of_decide_eq_true (by first | (with_reducible assumption) | assumption)
           have q24 : (t237 : Int) < ((x6_1.length : Int) : Int) := of_decide_eq_true (by first | (with_reducible assumption) | assumption)
           replace p24 := eq_true p24; replace q24 := eq_true q24
           try go_wp2
           (try simp only [← hl15_1])
           go_roundg k1
           case measure => have := HK1.out; omega
           case rel => exact ⟨(y242), (x15_1), (wrap64 (x17_1 + 1)), (by first | rfl | (simp; done) | (simp [*]; done)), H', ⟨by have := HK1.out; omega⟩, ⟨by (try simp only [hl15_1]); (with_reducible repeat (first | apply Kd.N_alloc | apply Kd.N_drewN | apply Kd.N_drew)); exact Kd.N_mono HQ37.out (fun _ hk => ⟨hk.1, hk.2.1⟩)⟩, ⟨by (try simp only [hl15_1]); (with_reducible repeat (first | apply Kd.N_alloc | apply Kd.N_drewN | apply Kd.N_drew)); exact Kd.N_mono (Kd.N_far (p := ⟨go23, (t237 : Int).toNat * 3 + 1, none⟩) (Kd.N_mono HO_15.out (fun k_ hk => (⟨hk, fun e_ => hk.1.2 (by rw [e_]; rfl)⟩ : _ ∧ k_ ≠ go23))) (fun _ hk => hk.2) (.int .i64 (wrap64 (((rd_T56 x6_1 t237).f1) + ((rd_T56 x15_1 x17_1).f1))))) (fun _ hk => ⟨hk.1.1.1, hk.1.1.2⟩)⟩, ⟨by repeat (first | (with_reducible first | exact HB.out | apply below_alloc | apply pw_below_drewN | apply below_drew1 | refine below_set ?_ GB23.out | refine below_set ?_ GE236.out) | exact HB.out)⟩⟩
         ·rw [if_neg c22] at H
          exact absurd H (by simp)
        ·rw [if_neg c21] at H
         exact absurd H (by simp)
      ·rw [if_neg c11] at H
       exact absurd H (by simp)
     ·rw [if_neg c10] at H
      exact absurd H (by simp)
    ·rw [if_neg c9] at H
     have c9b0 : decide (x17_1 < (t232.length : Int)) = false := decide_eq_false c9
     (try (have c9b0r0 := c9b0; rw [hl15_1] at c9b0r0))
     clear c9
     simp only [Option.some.injEq, Prod.mk.injEq] at H
     obtain ⟨rfl, rfl⟩ := H
     go_wp2
     go_ret2
     exact ⟨_, by first | rfl | (simp [errW_none, errW_some] <;> rfl) | (simp [*, errW_none, errW_some] <;> rfl), by (with_reducible repeat (first | apply Kd.N_alloc | apply Kd.N_drewN | apply Kd.N_drew)); exact Kd.N_mono HO_6.out (fun _ hk => hk.1), by repeat (first | (with_reducible first | exact HB.out | apply below_alloc | apply pw_below_drewN | apply below_drew1) | exact HB.out)⟩
 ·replace c4 := Bool.eq_false_iff.mpr c4
  subst c4
  have H1 : (some (([] : List (S56)), false)) = some (r1, r2) := by rw [if_neg (show ¬ (false = true) by decide)] at H; exact H
  clear H; have H := H1; clear H1
  simp only [Option.some.injEq, Prod.mk.injEq] at H
  obtain ⟨rfl, rfl⟩ := H
  go_enter Try.func44, Try.ntmps44
  go_wp2_with (first | ((with_reducible refine gate_callee (f := 19) rfl ?_); refine goesL_ (some 12) rfl rfl Try.func19 (by kernel_rfl) rfl #[.slice A0 l0.length c0, .int .i64 a1] rfl (by (try simp only [List.map_toArray, List.map_cons, List.map_nil]); first | done | rfl | (simp only [List.length_drop, List.length_take]; rfl)) ?_; (with_reducible refine (impl_ValidLoans.calls k _ _ l0 a1 false _ ?side1 ?side2 A3.out).mono ?_); (case side1 => repeat (first | exact HR0.out | (with_reducible refine Kd.C_alloc ?_ _) | (with_reducible refine Kd.C_drewN ?_ _) | (with_reducible refine Kd.C_drew ?_))); (case side2 => exact HC0.out); rintro e w38 ⟨rfl, hb⟩; refine ⟨_, rfl, ?_⟩; have n0_ := Aside0.mk (below_step (by repeat (first | (with_reducible first | exact HB.out | apply below_alloc | apply pw_below_drewN | apply below_drew1) | exact HB.out)) hb); clear HB; have HB := n0_; clear n0_; (try clear hb); (try clear hb2); (try clear hk); (try clear hi)))
  go_ret2
  exact ⟨_, by first | rfl | (simp [errW_none, errW_some] <;> rfl) | (simp [*, errW_none, errW_some] <;> rfl), by first | exact Kd.S_nil _ _ _ _ _ | exact Kd.N_nil _ _ _ _ _ | exact Kd.V_nil _ _ _ _ _ | exact Kd.Q_nil _ _ _ _ _ | exact Kd.R_nil _ _ _ _ _, by repeat (first | (with_reducible first | exact HB.out | apply below_alloc | apply pw_below_drewN | apply below_drew1) | exact HB.out)⟩

/-! ### spec_inRange: function 53 -/
def spec_inRange.f (a0 : Int) (a1 : Int) (a2 : Int) : Option (Bool) := if a1 ≤ a0 then (some (decide (a0 ≤ a2))) else (some false)
set_option maxHeartbeats 8000000 in
set_option maxRecDepth 100000 in
theorem spec_inRange.calls (a0 : Int) (a1 : Int) (a2 : Int) (r : Bool) (w : World) (h : spec_inRange.f a0 a1 a2 = some r) :
  Calls Try.prog 53 #[.int .i64 a0, .int .i64 a1, .int .i64 a2] w fun e w' => e = .returned (.bool r) ∧ Drawn0 w w' := by
 have H : (if a1 ≤ a0 then (some (decide (a0 ≤ a2))) else (some false)) = some r := h
 clear h
 by_cases c4 : a1 ≤ a0
 ·rw [if_pos c4] at H
  have c4b0 : decide (a1 ≤ a0) = true := decide_eq_true c4
  clear c4
  obtain rfl := Option.some.inj H
  go_enter Try.func53, Try.ntmps53
  go_wp2
  go_ret
  exact ⟨by first | rfl | (simp; done) | (simp [*]; done), by repeat (first | exact Drawn0.refl _ | apply Drawn0.step)⟩
 ·rw [if_neg c4] at H
  have c4b0 : decide (a1 ≤ a0) = false := decide_eq_false c4
  clear c4
  obtain rfl := Option.some.inj H
  go_enter Try.func53, Try.ntmps53
  go_wp2
  go_ret
  exact ⟨by first | rfl | (simp; done) | (simp [*]; done), by repeat (first | exact Drawn0.refl _ | apply Drawn0.step)⟩

/-! ### spec_placeIn: function 83 -/
def spec_placeIn.l0 : Nat → List Int → Int → Int → Option (Int)
 | 0, _, _, _ => none
 | k + 1, x0, x1, x5 => if x5 < (x0.length : Int) then (if 0 ≤ x5 then (if (rd x0 x5) = x1 then (some x5) else (spec_placeIn.l0 k x0 x1 (wrap64 (x5 + 1)))) else (none)) else (some (-1))
def spec_placeIn.f (k : Nat) (l0 : List Int) (a1 : Int) : Option (Int) := spec_placeIn.l0 k l0 a1 0
theorem spec_placeIn.mono_l : ∀ k, (∀ y0 y1 y2, LeO (spec_placeIn.l0 k y0 y1 y2) (spec_placeIn.l0 (k + 1) y0 y1 y2))
 | 0 => fun _ _ _ r h => by simp [spec_placeIn.l0] at h
 | k + 1 => by
  have ih0 := spec_placeIn.mono_l k
  ·intro y0 y1 y2
   unfold spec_placeIn.l0
   repeat' first
   | (with_reducible exact ih0 _ _ _)
   | (with_reducible exact LeO.refl _)
   | (with_reducible exact LeO.none _)
   | (with_reducible refine LeO.ite ?_ ?_)
   | (with_reducible refine LeO.bind ?_ (fun _ => ?_))
   | exact ih0 _ _ _
   | exact LeO.none _
   | refine LeO.ite ?_ ?_
   | refine LeO.bind ?_ (fun _ => ?_)
theorem spec_placeIn.mono : ∀ a0 a1 k, LeO (spec_placeIn.f k a0 a1) (spec_placeIn.f (k + 1) a0 a1) := by
 intro a0 a1 k
 have ih0 := spec_placeIn.mono_l k
 unfold spec_placeIn.f
 repeat' first
   | (with_reducible exact ih0 _ _ _)
   | (with_reducible exact LeO.refl _)
   | (with_reducible exact LeO.none _)
   | (with_reducible refine LeO.ite ?_ ?_)
   | (with_reducible refine LeO.bind ?_ (fun _ => ?_))
   | exact ih0 _ _ _
   | exact LeO.none _
   | refine LeO.ite ?_ ?_
   | refine LeO.bind ?_ (fun _ => ?_)
set_option maxHeartbeats 8000000 in
set_option maxRecDepth 100000 in
theorem spec_placeIn.calls (k : Nat) (A0 : Option Addr) (c0 : Nat) (l0 : List Int) (a1 : Int) (r : Int) (w : World) (hr0 : Kd.C (Kd.int .i64) w A0 l0.length l0) (hc0 : l0.length ≤ c0) (h : spec_placeIn.f k l0 a1 = some r) :
  Calls Try.prog 83 #[.slice A0 l0.length c0, .int .i64 a1] w fun e w' => e = .returned (.int .i64 r) ∧ Drawn0 w w' := by
 have HR0 := Aside0.mk hr0
 have HC0 := Aside0.mk hc0
 clear hr0 hc0
 have H : (spec_placeIn.l0 k l0 a1 0) = some r := h
 clear h
 have H' := Aside0.mk H
 clear H
 go_enter Try.func83, Try.ntmps83
 go_wp2
 go_loopg [5] k (fun kq v5 w' => ∃ (x5_1 : Int), v5 = .int .i64 x5_1 ∧ Aside0 (spec_placeIn.l0 kq l0 a1 x5_1 = some r) ∧ Aside0 (kq ≤ k) ∧ Drawn0 w w')
 case atStart => exact ⟨(0), (by first | rfl | (simp; done) | (simp [*]; done)), H', ⟨Nat.le_refl _⟩, by repeat (first | exact Drawn0.refl _ | apply Drawn0.step)⟩
 case round =>
  clear H'
  (try clear p2)
  obtain ⟨x5_1, rfl, HA, HK1, ⟨m1, rfl⟩⟩ := hrel
  cases gk with
  | zero => exact absurd HA.out (by simp [spec_placeIn.l0])
  | succ k1 =>
   have H := HA.out
   clear HA
   simp only [spec_placeIn.l0] at H
   by_cases c3 : x5_1 < (l0.length : Int)
   ·rw [if_pos c3] at H
    have c3b0 : decide (x5_1 < (l0.length : Int)) = true := decide_eq_true c3
    clear c3
    by_cases c4 : 0 ≤ x5_1
    ·rw [if_pos c4] at H
     have c4b0 : decide (0 ≤ x5_1) = true := decide_eq_true c4
     clear c4
     by_cases c5 : (rd l0 x5_1) = a1
     ·rw [if_pos c5] at H
      have c5b0 : ((rd l0 x5_1) == a1) = true := beq_iff_eq.mpr c5
      have c5b1 : ((rd l0 x5_1) != a1) = false := bne_eq_false_iff_eq.mpr c5
      clear c5
      obtain rfl := Option.some.inj H
      have p244 : 0 ≤ (x5_1 : Int) := of_decide_eq_true (by first | (with_reducible assumption) | assumption)
      have q244 : x5_1 < (l0.length : Int) := of_decide_eq_true (by first | (with_reducible assumption) | assumption)
      obtain ⟨ad244, e244, hx244_0⟩ := Kd.at_int HR0.out x5_1 p244 q244
      cases e244
      replace p244 := eq_true p244; replace q244 := eq_true q244
      go_wp2
      go_ret
      exact ⟨by first | rfl | (simp; done) | (simp [*]; done), by repeat (first | exact Drawn0.refl _ | apply Drawn0.step)⟩
     ·rw [if_neg c5] at H
      have c5b0 : ((rd l0 x5_1) == a1) = false := beq_eq_false_iff_ne.mpr c5
      have c5b1 : ((rd l0 x5_1) != a1) = true := bne_iff_ne.mpr c5
      have H' := Aside0.mk H
      clear H
      have p244 : 0 ≤ (x5_1 : Int) := of_decide_eq_true (by first | (with_reducible assumption) | assumption)
      have q244 : x5_1 < (l0.length : Int) := of_decide_eq_true (by first | (with_reducible assumption) | assumption)
      obtain ⟨ad244, e244, hx244_0⟩ := Kd.at_int HR0.out x5_1 p244 q244
      cases e244
      replace p244 := eq_true p244; replace q244 := eq_true q244
      go_wp2
      go_roundg k1
      case measure => have := HK1.out; omega
      case rel => exact ⟨(wrap64 (x5_1 + 1)), (by first | rfl | (simp; done) | (simp [*]; done)), H', ⟨by have := HK1.out; omega⟩, by repeat (first | exact Drawn0.refl _ | apply Drawn0.step)⟩
    ·rw [if_neg c4] at H
     exact absurd H (by simp)
   ·rw [if_neg c3] at H
    have c3b0 : decide (x5_1 < (l0.length : Int)) = false := decide_eq_false c3
    clear c3
    obtain rfl := Option.some.inj H
    go_wp2
    go_ret
    exact ⟨by first | rfl | (simp; done) | (simp [*]; done), by repeat (first | exact Drawn0.refl _ | apply Drawn0.step)⟩

end Go.Proofs.Ytmipmnejppoeiaa.PFnMergeLoans
