-- Laid by this session's own program: the kit's print, turned at a few places. Lean checks it.
import Derived.Test.YtjkbnimgmbnjdaaPFnExactRepairBookx0
import Derived.Test.YtjkbnimgmbnjdaaPFnExactRepairBookx1
namespace Go.Proofs.Ytjkbnimgmbnjdaa.PFnExactRepairBook
open Go.RowKit Go.Proofs.YtjkbnimgmbnjdaaW.PrintWords Go.Proofs.YtjkbnimgmbnjdaaW.PrintLast Go.Proofs.YtjkbnimgmbnjdaaW.PrintMore
attribute [local go_sem] max2_int min2_int max_two min_two max_three min_three max_four min_four   -- for this text's walks alone
set_option linter.unusedVariables false
set_option linter.unusedSimpArgs false

attribute [local go_sem high] eqA50
/-! ### spec_repair: function 28 -/
mutual
def spec_repair.l0 : Nat → List (S55) → List (S50) → Int → Option ((List (S50)) × Bool)
  | 0, _, _, _ => none
  | k + 1, x1, x6, x7 => if x7 < (x1.length : Int) then (if 0 ≤ x7 then (if ((rd_T55 x1 x7).f0) = 0 then (if x6.length < 4398046511104 then (spec_repair.l0 k x1 (x6 ++ [(⟨(rd_T55 x1 x7).f1.f0, (rd_T55 x1 x7).f1.f1, (rd_T55 x1 x7).f1.f2, (rd_T55 x1 x7).f1.f3⟩ : S50)]) (wrap64 (x7 + 1))) else (none)) else (spec_repair.l1 k x1 x6 x7 (-1) 0 ((rd_T55 x1 x7).f0) ((rd_T55 x1 x7).f1.f0) ((rd_T55 x1 x7).f1.f1) ((rd_T55 x1 x7).f1.f2) ((rd_T55 x1 x7).f1.f3) ((rd_T55 x1 x7).f2.f0) ((rd_T55 x1 x7).f2.f1) ((rd_T55 x1 x7).f2.f2) ((rd_T55 x1 x7).f2.f3))) else (none)) else (some (x6, true))
def spec_repair.l1 : Nat → List (S55) → List (S50) → Int → Int → Int → Int → Int → Int → Int → Int → Int → Int → Int → Int → Option ((List (S50)) × Bool)
  | 0, _, _, _, _, _, _, _, _, _, _, _, _, _, _ => none
  | k + 1, x1, x6, x7, x9, x10, x116000, x116001, x116002, x116003, x116004, x116005, x116006, x116007, x116008 => if x10 < (x6.length : Int) then (spec_repair.j2 k x1 x6 x7 x9 x10 (decide (x9 < 0)) x116000 x116001 x116002 x116003 x116004 x116005 x116006 x116007 x116008) else (spec_repair.j2 k x1 x6 x7 x9 x10 false x116000 x116001 x116002 x116003 x116004 x116005 x116006 x116007 x116008)
def spec_repair.j2 : Nat → List (S55) → List (S50) → Int → Int → Int → Bool → Int → Int → Int → Int → Int → Int → Int → Int → Int → Option ((List (S50)) × Bool)
  | 0, _, _, _, _, _, _, _, _, _, _, _, _, _, _, _ => none
  | k + 1, x1, x6, x7, x9, x10, x39, x116000, x116001, x116002, x116003, x116004, x116005, x116006, x116007, x116008 => if x39 = true then (if 0 ≤ x10 then (if x10 < (x6.length : Int) then (if (((rd_T50 x6 x10).f0) == x116005 && (((rd_T50 x6 x10).f1) == x116006 && (((rd_T50 x6 x10).f2) == x116007 && (((rd_T50 x6 x10).f3) == x116008)))) = true then (spec_repair.l1 k x1 x6 x7 x10 (wrap64 (x10 + 1)) x116000 x116001 x116002 x116003 x116004 x116005 x116006 x116007 x116008) else (spec_repair.l1 k x1 x6 x7 x9 (wrap64 (x10 + 1)) x116000 x116001 x116002 x116003 x116004 x116005 x116006 x116007 x116008)) else (none)) else (none)) else (if x9 < 0 then (some (([] : List (S50)), false)) else (if x116000 = 1 then (if 0 ≤ x9 then (if x9 ≤ (x6.length : Int) then (if 0 ≤ (wrap64 (x9 + 1)) then (if (wrap64 (x9 + 1)) ≤ (x6.length : Int) then (spec_repair.l0 k x1 (x6.eraseIdx (x9 : Int).toNat) (wrap64 (x7 + 1))) else (none)) else (none)) else (none)) else (none)) else (if 0 ≤ x9 then (if x9 < (x6.length : Int) then (spec_repair.l0 k x1 (x6.set (x9 : Int).toNat (⟨x116001, x116002, x116003, x116004⟩ : S50)) (wrap64 (x7 + 1))) else (none)) else (none))))
end
def spec_repair.f (k : Nat) (l0 : List (S50)) (l1 : List (S55)) : Option ((List (S50)) × Bool) := (some (([] : List (S50)) : List (S50))).bind fun y108 => (if y108.length + l0.length < 4398046511104 then (spec_repair.l0 k l1 (y108 ++ l0) 0) else (none))
theorem spec_repair.mono_l : ∀ k, (∀ y0 y1 y2, LeO (spec_repair.l0 k y0 y1 y2) (spec_repair.l0 (k + 1) y0 y1 y2)) ∧ (∀ y0 y1 y2 y3 y4 y5 y6 y7 y8 y9 y10 y11 y12 y13, LeO (spec_repair.l1 k y0 y1 y2 y3 y4 y5 y6 y7 y8 y9 y10 y11 y12 y13) (spec_repair.l1 (k + 1) y0 y1 y2 y3 y4 y5 y6 y7 y8 y9 y10 y11 y12 y13)) ∧ (∀ y0 y1 y2 y3 y4 y5 y6 y7 y8 y9 y10 y11 y12 y13 y14, LeO (spec_repair.j2 k y0 y1 y2 y3 y4 y5 y6 y7 y8 y9 y10 y11 y12 y13 y14) (spec_repair.j2 (k + 1) y0 y1 y2 y3 y4 y5 y6 y7 y8 y9 y10 y11 y12 y13 y14))
  | 0 => ⟨fun _ _ _ r h => by simp [spec_repair.l0] at h, fun _ _ _ _ _ _ _ _ _ _ _ _ _ _ r h => by simp [spec_repair.l1] at h, fun _ _ _ _ _ _ _ _ _ _ _ _ _ _ _ r h => by simp [spec_repair.j2] at h⟩
  | k + 1 => by
    obtain ⟨ih0, ih1, ih2⟩ := spec_repair.mono_l k
    refine ⟨?_, ?_, ?_⟩
    · intro y0 y1 y2
      unfold spec_repair.l0
      repeat' first
      | (with_reducible exact ih0 _ _ _)
      | (with_reducible exact ih1 _ _ _ _ _ _ _ _ _ _ _ _ _ _)
      | (with_reducible exact ih2 _ _ _ _ _ _ _ _ _ _ _ _ _ _ _)
      | (with_reducible exact LeO.refl _)
      | (with_reducible exact LeO.none _)
      | (with_reducible refine LeO.ite ?_ ?_)
      | (with_reducible refine LeO.bind ?_ (fun _ => ?_))
      | exact ih0 _ _ _
      | exact ih1 _ _ _ _ _ _ _ _ _ _ _ _ _ _
      | exact ih2 _ _ _ _ _ _ _ _ _ _ _ _ _ _ _
      | exact LeO.none _
      | refine LeO.ite ?_ ?_
      | refine LeO.bind ?_ (fun _ => ?_)
    · intro y0 y1 y2 y3 y4 y5 y6 y7 y8 y9 y10 y11 y12 y13
      unfold spec_repair.l1
      repeat' first
      | (with_reducible exact ih0 _ _ _)
      | (with_reducible exact ih1 _ _ _ _ _ _ _ _ _ _ _ _ _ _)
      | (with_reducible exact ih2 _ _ _ _ _ _ _ _ _ _ _ _ _ _ _)
      | (with_reducible exact LeO.refl _)
      | (with_reducible exact LeO.none _)
      | (with_reducible refine LeO.ite ?_ ?_)
      | (with_reducible refine LeO.bind ?_ (fun _ => ?_))
      | exact ih0 _ _ _
      | exact ih1 _ _ _ _ _ _ _ _ _ _ _ _ _ _
      | exact ih2 _ _ _ _ _ _ _ _ _ _ _ _ _ _ _
      | exact LeO.none _
      | refine LeO.ite ?_ ?_
      | refine LeO.bind ?_ (fun _ => ?_)
    · intro y0 y1 y2 y3 y4 y5 y6 y7 y8 y9 y10 y11 y12 y13 y14
      unfold spec_repair.j2
      repeat' first
      | (with_reducible exact ih0 _ _ _)
      | (with_reducible exact ih1 _ _ _ _ _ _ _ _ _ _ _ _ _ _)
      | (with_reducible exact ih2 _ _ _ _ _ _ _ _ _ _ _ _ _ _ _)
      | (with_reducible exact LeO.refl _)
      | (with_reducible exact LeO.none _)
      | (with_reducible refine LeO.ite ?_ ?_)
      | (with_reducible refine LeO.bind ?_ (fun _ => ?_))
      | exact ih0 _ _ _
      | exact ih1 _ _ _ _ _ _ _ _ _ _ _ _ _ _
      | exact ih2 _ _ _ _ _ _ _ _ _ _ _ _ _ _ _
      | exact LeO.none _
      | refine LeO.ite ?_ ?_
      | refine LeO.bind ?_ (fun _ => ?_)
theorem spec_repair.mono : ∀ a0 a1 k, LeO (spec_repair.f k a0 a1) (spec_repair.f (k + 1) a0 a1) := by
  intro a0 a1 k
  obtain ⟨ih0, ih1, ih2⟩ := spec_repair.mono_l k
  unfold spec_repair.f
  repeat' first
      | (with_reducible exact ih0 _ _ _)
      | (with_reducible exact ih1 _ _ _ _ _ _ _ _ _ _ _ _ _ _)
      | (with_reducible exact ih2 _ _ _ _ _ _ _ _ _ _ _ _ _ _ _)
      | (with_reducible exact LeO.refl _)
      | (with_reducible exact LeO.none _)
      | (with_reducible refine LeO.ite ?_ ?_)
      | (with_reducible refine LeO.bind ?_ (fun _ => ?_))
      | exact ih0 _ _ _
      | exact ih1 _ _ _ _ _ _ _ _ _ _ _ _ _ _
      | exact ih2 _ _ _ _ _ _ _ _ _ _ _ _ _ _ _
      | exact LeO.none _
      | refine LeO.ite ?_ ?_
      | refine LeO.bind ?_ (fun _ => ?_)
def spec_repair.T17 : Bool × List (List Nat × List Nat) := (true, [([], []), ([], []), ([0, 1], [0, 1]), ([], []), ([], []), ([4], [4]), ([3, 5], [3, 5]), ([2, 6], [2, 6]), ([7, 7, 0, 1, 2, 3, 4, 5, 6, 7], [0, 3, 7])])
def spec_repair.B17 : List Nat := [0, 0, 3, 0, 0, 16, 56, 127, 255]
theorem spec_repair.tab17 : rtab .any (opsOf Try.f28 17) = spec_repair.T17 := by kernel_rfl
theorem spec_repair.bits17 : waitsOk spec_repair.T17.2 spec_repair.B17 = true := by kernel_rfl
set_option maxHeartbeats 8000000 in
set_option maxRecDepth 100000 in
theorem spec_repair.calls (k : Nat) (A0 : Option Addr) (c0 : Nat) (l0 : List (S50)) (A1 : Option Addr) (c1 : Nat) (l1 : List (S55)) (r1 : List (S50)) (r2 : Bool) (w : World) (hr0 : Kd.C k50 w A0 l0.length l0) (hc0 : l0.length ≤ c0) (hr1 : Kd.C k55 w A1 l1.length l1) (hc1 : l1.length ≤ c1) (h : spec_repair.f k l0 l1 = some (r1, r2)) :
    Calls Try.prog 28 #[.slice A0 l0.length c0, .slice A1 l1.length c1] w fun e w' => ∃ v0_ : Value, e = .returned (.tuple #[v0_, .bool r2]) ∧ Kd.R k50 50 w' w.heap.size (fun _ => True) v0_ r1 ∧ Below w.heap.size w w' := by
  have hu55 := Try.underlying55
  have hu50 := Try.underlying50
  have HR0 := Aside0.mk hr0
  have HC0 := Aside0.mk hc0
  clear hr0 hc0
  have HR1 := Aside0.mk hr1
  have HC1 := Aside0.mk hc1
  clear hr1 hc1
  have HB := Aside0.mk (Below.refl w.heap.size w)
  have H : ((some (([] : List (S50)) : List (S50))).bind fun y108 => (if y108.length + l0.length < 4398046511104 then (spec_repair.l0 k l1 (y108 ++ l0) 0) else (none))) = some (r1, r2) := h
  clear h
  obtain ⟨y108, hy108⟩ : ∃ y_ : List (S50), y_ = (([] : List (S50))) := ⟨_, rfl⟩
  replace H : (if y108.length + l0.length < 4398046511104 then (spec_repair.l0 k l1 (y108 ++ l0) 0) else (none)) = some (r1, r2) := by first | (rw [hy108]; with_reducible exact H) | (have H2_ := (Option.bind_some _ _).symm.trans H; rw [hy108]; with_reducible exact H2_) | (have H2_ := (Option.bind_some _ _).symm.trans H; with_reducible exact H2_) | with_reducible exact H | (rw [hy108]; exact H) | exact H
  have Ny108 := Aside0.mk hy108
  clear hy108
  by_cases c3 : y108.length + l0.length < 4398046511104
  · rw [if_pos c3] at H
    have LMc3 := Aside0.mk c3
    clear c3
    obtain ⟨y111, hy111⟩ : ∃ y_ : List (S50), y_ = (y108 ++ l0) := ⟨_, rfl⟩
    replace H : (spec_repair.l0 k l1 y111 0) = some (r1, r2) := by first | (rw [hy111]; with_reducible exact H) | (have H2_ := (Option.bind_some _ _).symm.trans H; rw [hy111]; with_reducible exact H2_) | (have H2_ := (Option.bind_some _ _).symm.trans H; with_reducible exact H2_) | with_reducible exact H | (rw [hy111]; exact H) | exact H
    have Ny111 := Aside0.mk hy111
    clear hy111
    have H' := Aside0.mk H
    clear H
    go_enter Try.func28, Try.ntmps28
    go_wp2_with (first | ((with_reducible refine gate_dst (N := 11) rfl ?_); refine Kd.R_lit k50 _ 50 ?hg (N := 11) ?hd (xs := ([] : List (S50))) (inner := []) (ok := fun _ => True) (okp := fun _ => True) ?hr ?hp (fun _ hk => hk) trivial (Below.refl _ _) (Nat.le_refl _) (by simp) ?_; (case hd => rfl); (case hg => rfl); (case hr => first | (go_simp; done) | (go_simp; rfl)); (case hp => exact (Reps.none _ _)); intro v109 w4 ho5 hb hg_ hnew_; clear hg_ hnew_; (first | rw [← Ny108.out] at ho5 | (simp only [Int.reduceToNat] at ho5; rw [← Ny108.out] at ho5)); have n0_ := Aside0.mk (Kd.R_lower ho5 (below_size (by repeat (first | (with_reducible first | exact HB.out | apply below_alloc | apply pw_below_drewN | apply below_drew1) | exact HB.out)))); have n1_ := Aside0.mk (below_step (by repeat (first | (with_reducible first | exact HB.out | apply below_alloc | apply pw_below_drewN | apply below_drew1) | exact HB.out)) hb); clear HB; have HO110 := n0_; have HB := n1_; clear n0_ n1_; clear hb ho5) | ((with_reducible refine gate_builtin (b := .append) (xs := #[.tmp 11, .tmp 12]) rfl ?_); at_builtin; refine Kd.R_append_rows k50 (w0 := w) w.heap.size rfl (.tmp 11) (.tmp 12) 23 50 (.agg #[(.int .i64 0), (.int .i64 0), (.int .i64 0), (.int .i64 0)]) 32 rfl Try.underlying23 info50 rfl (by decide) (by omega) v109 y108 l0 _ _ _ (fun _ => True) (fun _ => False) rfl rfl ?aO ?aR (fun _ _ h => h) (fun _ h => h.elim) ?aF ?aB ?aS ?aL ?_; (case aR => repeat (first | exact (Kd.C_below HR0.out HB.out) | (with_reducible refine Kd.C_alloc ?_ _) | (with_reducible refine Kd.C_drewN ?_ _) | (with_reducible refine Kd.C_drew ?_))); (case aB => exact (by repeat (first | (with_reducible first | exact HB.out | apply below_alloc | apply pw_below_drewN | apply below_drew1) | exact HB.out))); (case aF => exact (fun _ _ => trivial)); (case aO => exact (by (with_reducible repeat (first | apply Kd.R_alloc | apply Kd.R_drewN | apply Kd.R_drew)); exact HO110.out)); (case aS => exact (below_size (by repeat (first | (with_reducible first | exact HB.out | apply below_alloc | apply pw_below_drewN | apply below_drew1) | exact HB.out)))); (case aL => have := LMc3.out; omega); intro v112 w6 ho hb hg hat; rw [← Ny111.out] at ho; have n0_ := Aside0.mk (hb); have n1_ := Aside0.mk (ho); clear HB; clear HO110; have HB := n0_; have HO113 := n1_; clear n0_ n1_; clear ho hb hg hat))
    go_loopg [6, 7] k (fun kq v6 v7 w' => ∃ (x6_1 : List (S50)) (x7_1 : Int), v7 = .int .i64 x7_1 ∧ Aside0 (spec_repair.l0 kq l1 x6_1 x7_1 = some (r1, r2)) ∧ Aside0 (kq ≤ k) ∧ Aside0 (Kd.R k50 50 w' w.heap.size (fun _ => True) v6 x6_1) ∧ Aside0 (Below w.heap.size w w'))
    case atStart => exact ⟨(y111), (0), (by first | rfl | (simp; done) | (simp [*]; done)), H', ⟨Nat.le_refl _⟩, ⟨by (with_reducible repeat (first | apply Kd.R_alloc | apply Kd.R_drewN | apply Kd.R_drew)); exact HO113.out⟩, ⟨by repeat (first | (with_reducible first | exact HB.out | apply below_alloc | apply pw_below_drewN | apply below_drew1) | exact HB.out)⟩⟩
    case round =>
      clear H'
      try clear c1
      try clear c2
      try clear p2
      try clear c3
      obtain ⟨x6_1, x7_1, rfl, HA, HK1, HO_6, HB⟩ := hrel
      cases gk with
      | zero => exact absurd HA.out (by simp [spec_repair.l0])
      | succ k1 =>
        have H := HA.out
        clear HA
        simp only [spec_repair.l0] at H
        by_cases c7 : x7_1 < (l1.length : Int)
        · rw [if_pos c7] at H
          have c7b0 : decide (x7_1 < (l1.length : Int)) = true := decide_eq_true c7
          clear c7
          by_cases c8 : 0 ≤ x7_1
          · rw [if_pos c8] at H
            have c8b0 : decide (0 ≤ x7_1) = true := decide_eq_true c8
            clear c8
            by_cases c9 : ((rd_T55 l1 x7_1).f0) = 0
            · rw [if_pos c9] at H
              have c9b0 : (((rd_T55 l1 x7_1).f0) == 0) = true := beq_iff_eq.mpr c9
              have c9b1 : (((rd_T55 l1 x7_1).f0) != 0) = false := bne_eq_false_iff_eq.mpr c9
              clear c9
              by_cases c10 : x6_1.length < 4398046511104
              · rw [if_pos c10] at H
                have LMc10 := Aside0.mk c10
                clear c10
                obtain ⟨y116, hy116⟩ : ∃ y_ : List (S50), y_ = (x6_1 ++ [(⟨(rd_T55 l1 x7_1).f1.f0, (rd_T55 l1 x7_1).f1.f1, (rd_T55 l1 x7_1).f1.f2, (rd_T55 l1 x7_1).f1.f3⟩ : S50)]) := ⟨_, rfl⟩
                replace H : (spec_repair.l0 k1 l1 y116 (wrap64 (x7_1 + 1))) = some (r1, r2) := by first | (rw [hy116]; with_reducible exact H) | (have H2_ := (Option.bind_some _ _).symm.trans H; rw [hy116]; with_reducible exact H2_) | (have H2_ := (Option.bind_some _ _).symm.trans H; with_reducible exact H2_) | with_reducible exact H | (rw [hy116]; exact H) | exact H
                have Ny116 := Aside0.mk hy116
                clear hy116
                have H' := Aside0.mk H
                clear H
                have p114 : 0 ≤ (x7_1 : Int) := of_decide_eq_true (by first | (with_reducible assumption) | assumption)
                have q114 : x7_1 < (l1.length : Int) := of_decide_eq_true (by first | (with_reducible assumption) | assumption)
                obtain ⟨ad114, e114, hx114_0, hx114_1, hx114_2, hx114_3, hx114_4, hx114_5, hx114_6, hx114_7, hx114_8⟩ := at_T55 HR1.out x7_1 p114 q114
                cases e114
                replace hx114_0 := (HB.out.cell (World.block_lt_of_cell? w _ hx114_0)).trans hx114_0
                replace hx114_1 := (HB.out.cell (World.block_lt_of_cell? w _ hx114_1)).trans hx114_1
                replace hx114_2 := (HB.out.cell (World.block_lt_of_cell? w _ hx114_2)).trans hx114_2
                replace hx114_3 := (HB.out.cell (World.block_lt_of_cell? w _ hx114_3)).trans hx114_3
                replace hx114_4 := (HB.out.cell (World.block_lt_of_cell? w _ hx114_4)).trans hx114_4
                replace hx114_5 := (HB.out.cell (World.block_lt_of_cell? w _ hx114_5)).trans hx114_5
                replace hx114_6 := (HB.out.cell (World.block_lt_of_cell? w _ hx114_6)).trans hx114_6
                replace hx114_7 := (HB.out.cell (World.block_lt_of_cell? w _ hx114_7)).trans hx114_7
                replace hx114_8 := (HB.out.cell (World.block_lt_of_cell? w _ hx114_8)).trans hx114_8
                replace p114 := eq_true p114
                replace q114 := eq_true q114
                go_wp2_with (first | ((with_reducible refine gate_dst (N := 8) rfl ?_); refine box_event ?hg (N := 8) ?hd (cs := #[.int .i64 0, .int .i64 0, .int .i64 0, .int .i64 0, .int .i64 0, .int .i64 0, .int .i64 0, .int .i64 0, .int .i64 0]) (t := 55) ?hr ?_; (case hd => rfl); (case hg => rfl); (case hr => first | (go_simp; done) | (go_simp; rfl)); intro gb115 hg w11 hbox hb; have n0_ := Aside0.mk (Kd.R_below (by (with_reducible repeat (first | apply Kd.R_alloc | apply Kd.R_drewN | apply Kd.R_drew)); exact HO_6.out) hb); have n1_ := Aside0.mk (below_step (by repeat (first | (with_reducible first | exact HB.out | apply below_alloc | apply pw_below_drewN | apply below_drew1) | exact HB.out)) hb); have n2_ := Aside0.mk (hbox); have n3_ := Aside0.mk ((by rw [hg]; exact (below_size (by repeat (first | (with_reducible first | exact HB.out | apply below_alloc | apply pw_below_drewN | apply below_drew1) | exact HB.out))) : w.heap.size ≤ gb115)); have n4_ := Aside0.mk ((by rw [hg]; exact (below_size (by repeat (first | (with_reducible first | exact HB.out | apply below_alloc | apply pw_below_drewN | apply below_drew1) | exact HB.out))) : w.heap.size ≤ gb115)); clear HO_6; clear HB; have HO_6 := n0_; have HB := n1_; have BK115 := n2_; have GW115 := n3_; have GE115 := n4_; clear n0_ n1_ n2_ n3_ n4_; clear hb hbox hg; have hcz12_0 : w11.cell? ⟨gb115, 0, none⟩ = some (.int .i64 0) := (blk_cell BK115.out 0).trans rfl; have hcz12_1 : w11.cell? ⟨gb115, 1, none⟩ = some (.int .i64 0) := (blk_cell BK115.out 1).trans rfl; have hcz12_2 : w11.cell? ⟨gb115, 2, none⟩ = some (.int .i64 0) := (blk_cell BK115.out 2).trans rfl; have hcz12_3 : w11.cell? ⟨gb115, 3, none⟩ = some (.int .i64 0) := (blk_cell BK115.out 3).trans rfl; have hcz12_4 : w11.cell? ⟨gb115, 4, none⟩ = some (.int .i64 0) := (blk_cell BK115.out 4).trans rfl; have hcz12_5 : w11.cell? ⟨gb115, 5, none⟩ = some (.int .i64 0) := (blk_cell BK115.out 5).trans rfl; have hcz12_6 : w11.cell? ⟨gb115, 6, none⟩ = some (.int .i64 0) := (blk_cell BK115.out 6).trans rfl; have hcz12_7 : w11.cell? ⟨gb115, 7, none⟩ = some (.int .i64 0) := (blk_cell BK115.out 7).trans rfl; have hcz12_8 : w11.cell? ⟨gb115, 8, none⟩ = some (.int .i64 0) := (blk_cell BK115.out 8).trans rfl; have hfz12_0 := blk_frozen BK115.out 0; have hfz12_1 := blk_frozen BK115.out 1; have hfz12_2 := blk_frozen BK115.out 2; have hfz12_3 := blk_frozen BK115.out 3; have hfz12_4 := blk_frozen BK115.out 4; have hfz12_5 := blk_frozen BK115.out 5; have hfz12_6 := blk_frozen BK115.out 6; have hfz12_7 := blk_frozen BK115.out 7; have hfz12_8 := blk_frozen BK115.out 8) | ((with_reducible refine gate_builtin (b := .append) (xs := #[.tmp 27, .tmp 30]) rfl ?_); at_builtin; refine Kd.R_append k50 (w0 := w) w.heap.size rfl (.tmp 27) (.tmp 30) 23 50 (.agg #[(.int .i64 0), (.int .i64 0), (.int .i64 0), (.int .i64 0)]) 32 rfl Try.underlying23 info50 rfl (by decide) (by omega) u6 x6_1 (⟨(rd_T55 l1 x7_1).f1.f0, (rd_T55 l1 x7_1).f1.f1, (rd_T55 l1 x7_1).f1.f2, (rd_T55 l1 x7_1).f1.f3⟩ : S50) [.int .i64 ((rd_T55 l1 x7_1).f1.f0), .int .i64 ((rd_T55 l1 x7_1).f1.f1), .int .i64 ((rd_T55 l1 x7_1).f1.f2), .int .i64 ((rd_T55 l1 x7_1).f1.f3)] (fun _ => True) (fun _ => False) rfl (by first | (go_simp; done) | (go_simp; rfl)) ?aP (fun _ hk => hk.elim) ?aF ?aO ?aB ?aS ?aL ?_; (case aP => exact k50_mkM _ _ _ (⟨(rd_T55 l1 x7_1).f1.f0, (rd_T55 l1 x7_1).f1.f1, (rd_T55 l1 x7_1).f1.f2, (rd_T55 l1 x7_1).f1.f3⟩ : S50)); (case aB => exact (by repeat (first | (with_reducible first | exact HB.out | apply below_alloc | apply pw_below_drewN | apply below_drew1 | refine below_set ?_ GE115.out) | exact HB.out))); (case aF => exact (fun _ _ => trivial)); (case aO => exact (by (with_reducible repeat (first | apply Kd.R_alloc | apply Kd.R_drewN | apply Kd.R_drew)); exact Kd.R_mono (Kd.R_far (p := ⟨gb115, 8, none⟩) (Kd.R_far (p := ⟨gb115, 7, none⟩) (Kd.R_far (p := ⟨gb115, 6, none⟩) (Kd.R_far (p := ⟨gb115, 5, none⟩) (Kd.R_far (p := ⟨gb115, 4, none⟩) (Kd.R_far (p := ⟨gb115, 3, none⟩) (Kd.R_far (p := ⟨gb115, 2, none⟩) (Kd.R_far (p := ⟨gb115, 1, none⟩) (Kd.R_far (p := ⟨gb115, 0, none⟩) (Kd.R_types HO_6.out BK115.out (by decide)) (fun _ hk => hk.2) (.int .i64 ((rd_T55 l1 x7_1).f0))) (fun _ hk => hk.2) (.int .i64 ((rd_T55 l1 x7_1).f1.f0))) (fun _ hk => hk.2) (.int .i64 ((rd_T55 l1 x7_1).f1.f1))) (fun _ hk => hk.2) (.int .i64 ((rd_T55 l1 x7_1).f1.f2))) (fun _ hk => hk.2) (.int .i64 ((rd_T55 l1 x7_1).f1.f3))) (fun _ hk => hk.2) (.int .i64 ((rd_T55 l1 x7_1).f2.f0))) (fun _ hk => hk.2) (.int .i64 ((rd_T55 l1 x7_1).f2.f1))) (fun _ hk => hk.2) (.int .i64 ((rd_T55 l1 x7_1).f2.f2))) (fun _ hk => hk.2) (.int .i64 ((rd_T55 l1 x7_1).f2.f3))) (fun _ hk => trivial))); (case aS => exact (below_size (by repeat (first | (with_reducible first | exact HB.out | apply below_alloc | apply pw_below_drewN | apply below_drew1 | refine below_set ?_ GE115.out) | exact HB.out)))); (case aL => have := LMc10.out; omega); intro v117 w13 ho hb hg hat; rw [← Ny116.out] at ho; have n0_ := Aside0.mk (blk_grown (g := gb115) (o := .cells #[.int .i64 ((rd_T55 l1 x7_1).f0), .int .i64 ((rd_T55 l1 x7_1).f1.f0), .int .i64 ((rd_T55 l1 x7_1).f1.f1), .int .i64 ((rd_T55 l1 x7_1).f1.f2), .int .i64 ((rd_T55 l1 x7_1).f1.f3), .int .i64 ((rd_T55 l1 x7_1).f2.f0), .int .i64 ((rd_T55 l1 x7_1).f2.f1), .int .i64 ((rd_T55 l1 x7_1).f2.f2), .int .i64 ((rd_T55 l1 x7_1).f2.f3)] 55 (0, 0)) (by (with_reducible repeat (first | refine blk_drewN ?_ _ | refine blk_drew ?_ | refine blk_alloc ?_ _)); refine blk_put (cs := #[.int .i64 ((rd_T55 l1 x7_1).f0), .int .i64 ((rd_T55 l1 x7_1).f1.f0), .int .i64 ((rd_T55 l1 x7_1).f1.f1), .int .i64 ((rd_T55 l1 x7_1).f1.f2), .int .i64 ((rd_T55 l1 x7_1).f1.f3), .int .i64 ((rd_T55 l1 x7_1).f2.f0), .int .i64 ((rd_T55 l1 x7_1).f2.f1), .int .i64 ((rd_T55 l1 x7_1).f2.f2), .int .i64 0]) ?_ 8 _ rfl; (with_reducible repeat (first | refine blk_drewN ?_ _ | refine blk_drew ?_ | refine blk_alloc ?_ _)); refine blk_put (cs := #[.int .i64 ((rd_T55 l1 x7_1).f0), .int .i64 ((rd_T55 l1 x7_1).f1.f0), .int .i64 ((rd_T55 l1 x7_1).f1.f1), .int .i64 ((rd_T55 l1 x7_1).f1.f2), .int .i64 ((rd_T55 l1 x7_1).f1.f3), .int .i64 ((rd_T55 l1 x7_1).f2.f0), .int .i64 ((rd_T55 l1 x7_1).f2.f1), .int .i64 0, .int .i64 0]) ?_ 7 _ rfl; (with_reducible repeat (first | refine blk_drewN ?_ _ | refine blk_drew ?_ | refine blk_alloc ?_ _)); refine blk_put (cs := #[.int .i64 ((rd_T55 l1 x7_1).f0), .int .i64 ((rd_T55 l1 x7_1).f1.f0), .int .i64 ((rd_T55 l1 x7_1).f1.f1), .int .i64 ((rd_T55 l1 x7_1).f1.f2), .int .i64 ((rd_T55 l1 x7_1).f1.f3), .int .i64 ((rd_T55 l1 x7_1).f2.f0), .int .i64 0, .int .i64 0, .int .i64 0]) ?_ 6 _ rfl; (with_reducible repeat (first | refine blk_drewN ?_ _ | refine blk_drew ?_ | refine blk_alloc ?_ _)); refine blk_put (cs := #[.int .i64 ((rd_T55 l1 x7_1).f0), .int .i64 ((rd_T55 l1 x7_1).f1.f0), .int .i64 ((rd_T55 l1 x7_1).f1.f1), .int .i64 ((rd_T55 l1 x7_1).f1.f2), .int .i64 ((rd_T55 l1 x7_1).f1.f3), .int .i64 0, .int .i64 0, .int .i64 0, .int .i64 0]) ?_ 5 _ rfl; (with_reducible repeat (first | refine blk_drewN ?_ _ | refine blk_drew ?_ | refine blk_alloc ?_ _)); refine blk_put (cs := #[.int .i64 ((rd_T55 l1 x7_1).f0), .int .i64 ((rd_T55 l1 x7_1).f1.f0), .int .i64 ((rd_T55 l1 x7_1).f1.f1), .int .i64 ((rd_T55 l1 x7_1).f1.f2), .int .i64 0, .int .i64 0, .int .i64 0, .int .i64 0, .int .i64 0]) ?_ 4 _ rfl; (with_reducible repeat (first | refine blk_drewN ?_ _ | refine blk_drew ?_ | refine blk_alloc ?_ _)); refine blk_put (cs := #[.int .i64 ((rd_T55 l1 x7_1).f0), .int .i64 ((rd_T55 l1 x7_1).f1.f0), .int .i64 ((rd_T55 l1 x7_1).f1.f1), .int .i64 0, .int .i64 0, .int .i64 0, .int .i64 0, .int .i64 0, .int .i64 0]) ?_ 3 _ rfl; (with_reducible repeat (first | refine blk_drewN ?_ _ | refine blk_drew ?_ | refine blk_alloc ?_ _)); refine blk_put (cs := #[.int .i64 ((rd_T55 l1 x7_1).f0), .int .i64 ((rd_T55 l1 x7_1).f1.f0), .int .i64 0, .int .i64 0, .int .i64 0, .int .i64 0, .int .i64 0, .int .i64 0, .int .i64 0]) ?_ 2 _ rfl; (with_reducible repeat (first | refine blk_drewN ?_ _ | refine blk_drew ?_ | refine blk_alloc ?_ _)); refine blk_put (cs := #[.int .i64 ((rd_T55 l1 x7_1).f0), .int .i64 0, .int .i64 0, .int .i64 0, .int .i64 0, .int .i64 0, .int .i64 0, .int .i64 0, .int .i64 0]) ?_ 1 _ rfl; (with_reducible repeat (first | refine blk_drewN ?_ _ | refine blk_drew ?_ | refine blk_alloc ?_ _)); refine blk_put (cs := #[.int .i64 0, .int .i64 0, .int .i64 0, .int .i64 0, .int .i64 0, .int .i64 0, .int .i64 0, .int .i64 0, .int .i64 0]) ?_ 0 _ rfl; (with_reducible repeat (first | refine blk_drewN ?_ _ | refine blk_drew ?_ | refine blk_alloc ?_ _)); exact BK115.out) hg (Kd.R_ne HO_6.out BK115.out (by decide))); have n1_ := Aside0.mk (hb); have n2_ := Aside0.mk (ho); clear BK115; clear HB; clear HO_6; have BK115 := n0_; have HB := n1_; have HO118 := n2_; clear n0_ n1_ n2_; clear ho hb hg hat))
                go_roundg k1
                case measure => have := HK1.out; omega
                case rel => exact ⟨(y116), (wrap64 (x7_1 + 1)), (by first | rfl | (simp; done) | (simp [*]; done)), H', ⟨by have := HK1.out; omega⟩, ⟨by (with_reducible repeat (first | apply Kd.R_alloc | apply Kd.R_drewN | apply Kd.R_drew)); exact HO118.out⟩, ⟨by repeat (first | (with_reducible first | exact HB.out | apply below_alloc | apply pw_below_drewN | apply below_drew1 | refine below_set ?_ GE115.out) | exact HB.out)⟩⟩
              · rw [if_neg c10] at H
                exact absurd H (by simp)
            · rw [if_neg c9] at H
              have c9b0 : (((rd_T55 l1 x7_1).f0) == 0) = false := beq_eq_false_iff_ne.mpr c9
              have c9b1 : (((rd_T55 l1 x7_1).f0) != 0) = true := bne_iff_ne.mpr c9
              have H' := Aside0.mk H
              clear H
              have p114 : 0 ≤ (x7_1 : Int) := of_decide_eq_true (by first | (with_reducible assumption) | assumption)
              have q114 : x7_1 < (l1.length : Int) := of_decide_eq_true (by first | (with_reducible assumption) | assumption)
              obtain ⟨ad114, e114, hx114_0, hx114_1, hx114_2, hx114_3, hx114_4, hx114_5, hx114_6, hx114_7, hx114_8⟩ := at_T55 HR1.out x7_1 p114 q114
              cases e114
              replace hx114_0 := (HB.out.cell (World.block_lt_of_cell? w _ hx114_0)).trans hx114_0
              replace hx114_1 := (HB.out.cell (World.block_lt_of_cell? w _ hx114_1)).trans hx114_1
              replace hx114_2 := (HB.out.cell (World.block_lt_of_cell? w _ hx114_2)).trans hx114_2
              replace hx114_3 := (HB.out.cell (World.block_lt_of_cell? w _ hx114_3)).trans hx114_3
              replace hx114_4 := (HB.out.cell (World.block_lt_of_cell? w _ hx114_4)).trans hx114_4
              replace hx114_5 := (HB.out.cell (World.block_lt_of_cell? w _ hx114_5)).trans hx114_5
              replace hx114_6 := (HB.out.cell (World.block_lt_of_cell? w _ hx114_6)).trans hx114_6
              replace hx114_7 := (HB.out.cell (World.block_lt_of_cell? w _ hx114_7)).trans hx114_7
              replace hx114_8 := (HB.out.cell (World.block_lt_of_cell? w _ hx114_8)).trans hx114_8
              replace p114 := eq_true p114
              replace q114 := eq_true q114
              go_wp2_with (first | ((with_reducible refine gate_dst (N := 8) rfl ?_); refine box_event ?hg (N := 8) ?hd (cs := #[.int .i64 0, .int .i64 0, .int .i64 0, .int .i64 0, .int .i64 0, .int .i64 0, .int .i64 0, .int .i64 0, .int .i64 0]) (t := 55) ?hr ?_; (case hd => rfl); (case hg => rfl); (case hr => first | (go_simp; done) | (go_simp; rfl)); intro gb115 hg w14 hbox hb; have n0_ := Aside0.mk (Kd.R_below (by (with_reducible repeat (first | apply Kd.R_alloc | apply Kd.R_drewN | apply Kd.R_drew)); exact HO_6.out) hb); have n1_ := Aside0.mk (below_step (by repeat (first | (with_reducible first | exact HB.out | apply below_alloc | apply pw_below_drewN | apply below_drew1) | exact HB.out)) hb); have n2_ := Aside0.mk (hbox); have n3_ := Aside0.mk ((by rw [hg]; exact (below_size (by repeat (first | (with_reducible first | exact HB.out | apply below_alloc | apply pw_below_drewN | apply below_drew1) | exact HB.out))) : w.heap.size ≤ gb115)); have n4_ := Aside0.mk ((by rw [hg]; exact (below_size (by repeat (first | (with_reducible first | exact HB.out | apply below_alloc | apply pw_below_drewN | apply below_drew1) | exact HB.out))) : w.heap.size ≤ gb115)); clear HO_6; clear HB; have HO_6 := n0_; have HB := n1_; have BK115 := n2_; have GW115 := n3_; have GE115 := n4_; clear n0_ n1_ n2_ n3_ n4_; clear hb hbox hg; have hcz15_0 : w14.cell? ⟨gb115, 0, none⟩ = some (.int .i64 0) := (blk_cell BK115.out 0).trans rfl; have hcz15_1 : w14.cell? ⟨gb115, 1, none⟩ = some (.int .i64 0) := (blk_cell BK115.out 1).trans rfl; have hcz15_2 : w14.cell? ⟨gb115, 2, none⟩ = some (.int .i64 0) := (blk_cell BK115.out 2).trans rfl; have hcz15_3 : w14.cell? ⟨gb115, 3, none⟩ = some (.int .i64 0) := (blk_cell BK115.out 3).trans rfl; have hcz15_4 : w14.cell? ⟨gb115, 4, none⟩ = some (.int .i64 0) := (blk_cell BK115.out 4).trans rfl; have hcz15_5 : w14.cell? ⟨gb115, 5, none⟩ = some (.int .i64 0) := (blk_cell BK115.out 5).trans rfl; have hcz15_6 : w14.cell? ⟨gb115, 6, none⟩ = some (.int .i64 0) := (blk_cell BK115.out 6).trans rfl; have hcz15_7 : w14.cell? ⟨gb115, 7, none⟩ = some (.int .i64 0) := (blk_cell BK115.out 7).trans rfl; have hcz15_8 : w14.cell? ⟨gb115, 8, none⟩ = some (.int .i64 0) := (blk_cell BK115.out 8).trans rfl; have hfz15_0 := blk_frozen BK115.out 0; have hfz15_1 := blk_frozen BK115.out 1; have hfz15_2 := blk_frozen BK115.out 2; have hfz15_3 := blk_frozen BK115.out 3; have hfz15_4 := blk_frozen BK115.out 4; have hfz15_5 := blk_frozen BK115.out 5; have hfz15_6 := blk_frozen BK115.out 6; have hfz15_7 := blk_frozen BK115.out 7; have hfz15_8 := blk_frozen BK115.out 8))
              go_loopg [9, 10] k1 (fun kq v9 v10 w' => ∃ (x9_2 : Int) (x10_2 : Int), v9 = .int .i64 x9_2 ∧ v10 = .int .i64 x10_2 ∧ Aside0 (spec_repair.l1 kq l1 x6_1 x7_1 x9_2 x10_2 ((rd_T55 l1 x7_1).f0) ((rd_T55 l1 x7_1).f1.f0) ((rd_T55 l1 x7_1).f1.f1) ((rd_T55 l1 x7_1).f1.f2) ((rd_T55 l1 x7_1).f1.f3) ((rd_T55 l1 x7_1).f2.f0) ((rd_T55 l1 x7_1).f2.f1) ((rd_T55 l1 x7_1).f2.f2) ((rd_T55 l1 x7_1).f2.f3) = some (r1, r2)) ∧ Aside0 (kq ≤ k1) ∧ Aside0 (Kd.R k50 50 w' w.heap.size (fun _ => True) u6 x6_1) ∧ Aside0 (w'.heap[gb115]? = some (.cells #[.int .i64 ((rd_T55 l1 x7_1).f0), .int .i64 ((rd_T55 l1 x7_1).f1.f0), .int .i64 ((rd_T55 l1 x7_1).f1.f1), .int .i64 ((rd_T55 l1 x7_1).f1.f2), .int .i64 ((rd_T55 l1 x7_1).f1.f3), .int .i64 ((rd_T55 l1 x7_1).f2.f0), .int .i64 ((rd_T55 l1 x7_1).f2.f1), .int .i64 ((rd_T55 l1 x7_1).f2.f2), .int .i64 ((rd_T55 l1 x7_1).f2.f3)] 55 (0, 0))) ∧ Aside0 (Below w.heap.size w w'))
              case atStart => exact ⟨((-1)), (0), (by first | rfl | (simp; done) | (simp [*]; done)), (by first | rfl | (simp; done) | (simp [*]; done)), H', ⟨Nat.le_refl _⟩, ⟨by (with_reducible repeat (first | apply Kd.R_alloc | apply Kd.R_drewN | apply Kd.R_drew)); exact Kd.R_mono (Kd.R_far (p := ⟨gb115, 8, none⟩) (Kd.R_far (p := ⟨gb115, 7, none⟩) (Kd.R_far (p := ⟨gb115, 6, none⟩) (Kd.R_far (p := ⟨gb115, 5, none⟩) (Kd.R_far (p := ⟨gb115, 4, none⟩) (Kd.R_far (p := ⟨gb115, 3, none⟩) (Kd.R_far (p := ⟨gb115, 2, none⟩) (Kd.R_far (p := ⟨gb115, 1, none⟩) (Kd.R_far (p := ⟨gb115, 0, none⟩) (Kd.R_types HO_6.out BK115.out (by decide)) (fun _ hk => hk.2) (.int .i64 ((rd_T55 l1 x7_1).f0))) (fun _ hk => hk.2) (.int .i64 ((rd_T55 l1 x7_1).f1.f0))) (fun _ hk => hk.2) (.int .i64 ((rd_T55 l1 x7_1).f1.f1))) (fun _ hk => hk.2) (.int .i64 ((rd_T55 l1 x7_1).f1.f2))) (fun _ hk => hk.2) (.int .i64 ((rd_T55 l1 x7_1).f1.f3))) (fun _ hk => hk.2) (.int .i64 ((rd_T55 l1 x7_1).f2.f0))) (fun _ hk => hk.2) (.int .i64 ((rd_T55 l1 x7_1).f2.f1))) (fun _ hk => hk.2) (.int .i64 ((rd_T55 l1 x7_1).f2.f2))) (fun _ hk => hk.2) (.int .i64 ((rd_T55 l1 x7_1).f2.f3))) (fun _ hk => trivial)⟩, ⟨by (with_reducible repeat (first | refine blk_drewN ?_ _ | refine blk_drew ?_ | refine blk_alloc ?_ _)); refine blk_put (cs := #[.int .i64 ((rd_T55 l1 x7_1).f0), .int .i64 ((rd_T55 l1 x7_1).f1.f0), .int .i64 ((rd_T55 l1 x7_1).f1.f1), .int .i64 ((rd_T55 l1 x7_1).f1.f2), .int .i64 ((rd_T55 l1 x7_1).f1.f3), .int .i64 ((rd_T55 l1 x7_1).f2.f0), .int .i64 ((rd_T55 l1 x7_1).f2.f1), .int .i64 ((rd_T55 l1 x7_1).f2.f2), .int .i64 0]) ?_ 8 _ rfl; (with_reducible repeat (first | refine blk_drewN ?_ _ | refine blk_drew ?_ | refine blk_alloc ?_ _)); refine blk_put (cs := #[.int .i64 ((rd_T55 l1 x7_1).f0), .int .i64 ((rd_T55 l1 x7_1).f1.f0), .int .i64 ((rd_T55 l1 x7_1).f1.f1), .int .i64 ((rd_T55 l1 x7_1).f1.f2), .int .i64 ((rd_T55 l1 x7_1).f1.f3), .int .i64 ((rd_T55 l1 x7_1).f2.f0), .int .i64 ((rd_T55 l1 x7_1).f2.f1), .int .i64 0, .int .i64 0]) ?_ 7 _ rfl; (with_reducible repeat (first | refine blk_drewN ?_ _ | refine blk_drew ?_ | refine blk_alloc ?_ _)); refine blk_put (cs := #[.int .i64 ((rd_T55 l1 x7_1).f0), .int .i64 ((rd_T55 l1 x7_1).f1.f0), .int .i64 ((rd_T55 l1 x7_1).f1.f1), .int .i64 ((rd_T55 l1 x7_1).f1.f2), .int .i64 ((rd_T55 l1 x7_1).f1.f3), .int .i64 ((rd_T55 l1 x7_1).f2.f0), .int .i64 0, .int .i64 0, .int .i64 0]) ?_ 6 _ rfl; (with_reducible repeat (first | refine blk_drewN ?_ _ | refine blk_drew ?_ | refine blk_alloc ?_ _)); refine blk_put (cs := #[.int .i64 ((rd_T55 l1 x7_1).f0), .int .i64 ((rd_T55 l1 x7_1).f1.f0), .int .i64 ((rd_T55 l1 x7_1).f1.f1), .int .i64 ((rd_T55 l1 x7_1).f1.f2), .int .i64 ((rd_T55 l1 x7_1).f1.f3), .int .i64 0, .int .i64 0, .int .i64 0, .int .i64 0]) ?_ 5 _ rfl; (with_reducible repeat (first | refine blk_drewN ?_ _ | refine blk_drew ?_ | refine blk_alloc ?_ _)); refine blk_put (cs := #[.int .i64 ((rd_T55 l1 x7_1).f0), .int .i64 ((rd_T55 l1 x7_1).f1.f0), .int .i64 ((rd_T55 l1 x7_1).f1.f1), .int .i64 ((rd_T55 l1 x7_1).f1.f2), .int .i64 0, .int .i64 0, .int .i64 0, .int .i64 0, .int .i64 0]) ?_ 4 _ rfl; (with_reducible repeat (first | refine blk_drewN ?_ _ | refine blk_drew ?_ | refine blk_alloc ?_ _)); refine blk_put (cs := #[.int .i64 ((rd_T55 l1 x7_1).f0), .int .i64 ((rd_T55 l1 x7_1).f1.f0), .int .i64 ((rd_T55 l1 x7_1).f1.f1), .int .i64 0, .int .i64 0, .int .i64 0, .int .i64 0, .int .i64 0, .int .i64 0]) ?_ 3 _ rfl; (with_reducible repeat (first | refine blk_drewN ?_ _ | refine blk_drew ?_ | refine blk_alloc ?_ _)); refine blk_put (cs := #[.int .i64 ((rd_T55 l1 x7_1).f0), .int .i64 ((rd_T55 l1 x7_1).f1.f0), .int .i64 0, .int .i64 0, .int .i64 0, .int .i64 0, .int .i64 0, .int .i64 0, .int .i64 0]) ?_ 2 _ rfl; (with_reducible repeat (first | refine blk_drewN ?_ _ | refine blk_drew ?_ | refine blk_alloc ?_ _)); refine blk_put (cs := #[.int .i64 ((rd_T55 l1 x7_1).f0), .int .i64 0, .int .i64 0, .int .i64 0, .int .i64 0, .int .i64 0, .int .i64 0, .int .i64 0, .int .i64 0]) ?_ 1 _ rfl; (with_reducible repeat (first | refine blk_drewN ?_ _ | refine blk_drew ?_ | refine blk_alloc ?_ _)); refine blk_put (cs := #[.int .i64 0, .int .i64 0, .int .i64 0, .int .i64 0, .int .i64 0, .int .i64 0, .int .i64 0, .int .i64 0, .int .i64 0]) ?_ 0 _ rfl; (with_reducible repeat (first | refine blk_drewN ?_ _ | refine blk_drew ?_ | refine blk_alloc ?_ _)); exact BK115.out⟩, ⟨by repeat (first | (with_reducible first | exact HB.out | apply below_alloc | apply pw_below_drewN | apply below_drew1 | refine below_set ?_ GE115.out) | exact HB.out)⟩⟩
              case round =>
                clear H'
                try clear c1
                try clear p1
                try clear q1
                try clear hx1
                try clear c2
                try clear p2
                try clear c3
                try clear p6
                try clear c7
                try clear c7b0
                try clear c8
                try clear c8b0
                try clear c9
                try clear c9b0
                try clear c9b1
                try clear c10
                try clear p11
                try clear q11
                try clear hx11
                try clear hcz12_0
                try clear hcz12_1
                try clear hcz12_2
                try clear hcz12_3
                try clear hcz12_4
                try clear hcz12_5
                try clear hcz12_6
                try clear hcz12_7
                try clear hcz12_8
                try clear hcz15_0
                try clear hcz15_1
                try clear hcz15_2
                try clear hcz15_3
                try clear hcz15_4
                try clear hcz15_5
                try clear hcz15_6
                try clear hcz15_7
                try clear hcz15_8
                try clear hfz12_0
                try clear hfz12_1
                try clear hfz12_2
                try clear hfz12_3
                try clear hfz12_4
                try clear hfz12_5
                try clear hfz12_6
                try clear hfz12_7
                try clear hfz12_8
                try clear hfz15_0
                try clear hfz15_1
                try clear hfz15_2
                try clear hfz15_3
                try clear hfz15_4
                try clear hfz15_5
                try clear hfz15_6
                try clear hfz15_7
                try clear hfz15_8
                try clear hx114_0
                try clear hx114_1
                try clear hx114_2
                try clear hx114_3
                try clear hx114_4
                try clear hx114_5
                try clear hx114_6
                try clear hx114_7
                try clear hx114_8
                try clear p114
                try clear p2
                try clear q114
                obtain ⟨x9_2, x10_2, rfl, rfl, HA, HK2, HO_6, BK115, HB⟩ := hrel
                cases gk with
                | zero => exact absurd HA.out (by simp [spec_repair.l1])
                | succ k2 =>
                  have H := HA.out
                  clear HA
                  simp only [spec_repair.l1] at H
                  have HC16 := Aside0.mk H
                  clear H
                  go_upto_region 10 with (fail)
                  go_cut [39] (fun v39 wc => ∃ (kq : Nat) (x39_15 : Bool), v39 = .bool x39_15 ∧ Aside0 (spec_repair.j2 kq l1 x6_1 x7_1 x9_2 x10_2 x39_15 ((rd_T55 l1 x7_1).f0) ((rd_T55 l1 x7_1).f1.f0) ((rd_T55 l1 x7_1).f1.f1) ((rd_T55 l1 x7_1).f1.f2) ((rd_T55 l1 x7_1).f1.f3) ((rd_T55 l1 x7_1).f2.f0) ((rd_T55 l1 x7_1).f2.f1) ((rd_T55 l1 x7_1).f2.f2) ((rd_T55 l1 x7_1).f2.f3) = some (r1, r2)) ∧ Aside0 (kq ≤ k2) ∧ Aside0 (Kd.R k50 50 wc w.heap.size (fun _ => True) u6 x6_1) ∧ Aside0 (wc.heap[gb115]? = some (.cells #[.int .i64 ((rd_T55 l1 x7_1).f0), .int .i64 ((rd_T55 l1 x7_1).f1.f0), .int .i64 ((rd_T55 l1 x7_1).f1.f1), .int .i64 ((rd_T55 l1 x7_1).f1.f2), .int .i64 ((rd_T55 l1 x7_1).f1.f3), .int .i64 ((rd_T55 l1 x7_1).f2.f0), .int .i64 ((rd_T55 l1 x7_1).f2.f1), .int .i64 ((rd_T55 l1 x7_1).f2.f2), .int .i64 ((rd_T55 l1 x7_1).f2.f3)] 55 (0, 0))) ∧ Aside0 (Below w.heap.size w wc))
                  case first =>
                    have H := HC16.out
                    clear HC16
                    by_cases c17 : x10_2 < (x6_1.length : Int)
                    · rw [if_pos c17] at H
                      have c17b0 : decide (x10_2 < (x6_1.length : Int)) = true := decide_eq_true c17
                      clear c17
                      (first | rw [c17b0] | (simp only [i64_w, i32_w]; rw [c17b0]) | skip)
                      have H' := Aside0.mk H
                      clear H
                      obtain ⟨Ao18, co18, eo18⟩ := Kd.R_slice HO_6.out
                      subst eo18
                      go_wp2
                      go_meet
                      case rel => exact ⟨_, (decide (x9_2 < 0)), (by first | rfl | (simp; done) | (simp [*]; done)), H', ⟨by have := HK1.out; have := HK2.out; first | omega | exact Nat.le_refl _⟩, ⟨by (with_reducible repeat (first | apply Kd.R_alloc | apply Kd.R_drewN | apply Kd.R_drew)); exact HO_6.out⟩, ⟨by (with_reducible repeat (first | refine blk_drewN ?_ _ | refine blk_drew ?_ | refine blk_alloc ?_ _)); exact BK115.out⟩, ⟨by repeat (first | (with_reducible first | exact HB.out | apply below_alloc | apply pw_below_drewN | apply below_drew1 | refine below_set ?_ GE115.out) | exact HB.out)⟩⟩
                    · rw [if_neg c17] at H
                      have c17b0 : decide (x10_2 < (x6_1.length : Int)) = false := decide_eq_false c17
                      clear c17
                      (first | rw [c17b0] | (simp only [i64_w, i32_w]; rw [c17b0]) | skip)
                      have H' := Aside0.mk H
                      clear H
                      obtain ⟨Ao19, co19, eo19⟩ := Kd.R_slice HO_6.out
                      subst eo19
                      go_wp2
                      go_meet
                      case rel => exact ⟨_, (false), (by first | rfl | (simp; done) | (simp [*]; done)), H', ⟨by have := HK1.out; have := HK2.out; first | omega | exact Nat.le_refl _⟩, ⟨by (with_reducible repeat (first | apply Kd.R_alloc | apply Kd.R_drewN | apply Kd.R_drew)); exact HO_6.out⟩, ⟨by (with_reducible repeat (first | refine blk_drewN ?_ _ | refine blk_drew ?_ | refine blk_alloc ?_ _)); exact BK115.out⟩, ⟨by repeat (first | (with_reducible first | exact HB.out | apply below_alloc | apply pw_below_drewN | apply below_drew1 | refine below_set ?_ GE115.out) | exact HB.out)⟩⟩
                  case rest =>
                    clear HC16
                    try clear c1
                    try clear p1
                    try clear q1
                    try clear hx1
                    try clear c2
                    try clear p2
                    try clear c3
                    try clear p6
                    try clear c7
                    try clear c7b0
                    try clear c8
                    try clear c8b0
                    try clear c9
                    try clear c9b0
                    try clear c9b1
                    try clear c10
                    try clear p11
                    try clear q11
                    try clear hx11
                    try clear c17
                    try clear c17b0
                    try clear hcz12_0
                    try clear hcz12_1
                    try clear hcz12_2
                    try clear hcz12_3
                    try clear hcz12_4
                    try clear hcz12_5
                    try clear hcz12_6
                    try clear hcz12_7
                    try clear hcz12_8
                    try clear hcz15_0
                    try clear hcz15_1
                    try clear hcz15_2
                    try clear hcz15_3
                    try clear hcz15_4
                    try clear hcz15_5
                    try clear hcz15_6
                    try clear hcz15_7
                    try clear hcz15_8
                    try clear hfz12_0
                    try clear hfz12_1
                    try clear hfz12_2
                    try clear hfz12_3
                    try clear hfz12_4
                    try clear hfz12_5
                    try clear hfz12_6
                    try clear hfz12_7
                    try clear hfz12_8
                    try clear hfz15_0
                    try clear hfz15_1
                    try clear hfz15_2
                    try clear hfz15_3
                    try clear hfz15_4
                    try clear hfz15_5
                    try clear hfz15_6
                    try clear hfz15_7
                    try clear hfz15_8
                    try clear hx114_0
                    try clear hx114_1
                    try clear hx114_2
                    try clear hx114_3
                    try clear hx114_4
                    try clear hx114_5
                    try clear hx114_6
                    try clear hx114_7
                    try clear hx114_8
                    try clear p1
                    try clear p11
                    try clear p114
                    try clear p2
                    try clear p6
                    try clear q1
                    try clear q11
                    try clear q114
                    obtain ⟨kq, x39_15, rfl, HA, HJ15, HO_6, BK115, HB⟩ := hcut
                    cases kq with
                    | zero => exact absurd HA.out (by simp [spec_repair.j2])
                    | succ kj15 =>
                      have H := HA.out
                      clear HA
                      simp only [spec_repair.j2] at H
                      by_cases c20 : x39_15 = true
                      · subst c20
                        have H1 : (if 0 ≤ x10_2 then (if x10_2 < (x6_1.length : Int) then (if (((rd_T50 x6_1 x10_2).f0) == ((rd_T55 l1 x7_1).f2.f0) && (((rd_T50 x6_1 x10_2).f1) == ((rd_T55 l1 x7_1).f2.f1) && (((rd_T50 x6_1 x10_2).f2) == ((rd_T55 l1 x7_1).f2.f2) && (((rd_T50 x6_1 x10_2).f3) == ((rd_T55 l1 x7_1).f2.f3))))) = true then (spec_repair.l1 kj15 l1 x6_1 x7_1 x10_2 (wrap64 (x10_2 + 1)) ((rd_T55 l1 x7_1).f0) ((rd_T55 l1 x7_1).f1.f0) ((rd_T55 l1 x7_1).f1.f1) ((rd_T55 l1 x7_1).f1.f2) ((rd_T55 l1 x7_1).f1.f3) ((rd_T55 l1 x7_1).f2.f0) ((rd_T55 l1 x7_1).f2.f1) ((rd_T55 l1 x7_1).f2.f2) ((rd_T55 l1 x7_1).f2.f3)) else (spec_repair.l1 kj15 l1 x6_1 x7_1 x9_2 (wrap64 (x10_2 + 1)) ((rd_T55 l1 x7_1).f0) ((rd_T55 l1 x7_1).f1.f0) ((rd_T55 l1 x7_1).f1.f1) ((rd_T55 l1 x7_1).f1.f2) ((rd_T55 l1 x7_1).f1.f3) ((rd_T55 l1 x7_1).f2.f0) ((rd_T55 l1 x7_1).f2.f1) ((rd_T55 l1 x7_1).f2.f2) ((rd_T55 l1 x7_1).f2.f3))) else (none)) else (none)) = some (r1, r2) := by rw [if_pos rfl] at H; exact H
                        clear H
                        have H := H1
                        clear H1
                        by_cases c21 : 0 ≤ x10_2
                        · rw [if_pos c21] at H
                          have c21b0 : decide (0 ≤ x10_2) = true := decide_eq_true c21
                          clear c21
                          by_cases c22 : x10_2 < (x6_1.length : Int)
                          · rw [if_pos c22] at H
                            have c22b0 : decide (x10_2 < (x6_1.length : Int)) = true := decide_eq_true c22
                            clear c22
                            by_cases c23 : (((rd_T50 x6_1 x10_2).f0) == ((rd_T55 l1 x7_1).f2.f0) && (((rd_T50 x6_1 x10_2).f1) == ((rd_T55 l1 x7_1).f2.f1) && (((rd_T50 x6_1 x10_2).f2) == ((rd_T55 l1 x7_1).f2.f2) && (((rd_T50 x6_1 x10_2).f3) == ((rd_T55 l1 x7_1).f2.f3))))) = true
                            · rw [if_pos c23] at H
                              have c23b0 : (((rd_T50 x6_1 x10_2).f0) == ((rd_T55 l1 x7_1).f2.f0) && (((rd_T50 x6_1 x10_2).f1) == ((rd_T55 l1 x7_1).f2.f1) && (((rd_T50 x6_1 x10_2).f2) == ((rd_T55 l1 x7_1).f2.f2) && (((rd_T50 x6_1 x10_2).f3) == ((rd_T55 l1 x7_1).f2.f3))))) = true := c23
                              (try (have c23b1 : decide (((rd_T50 x6_1 x10_2).f0) = ((rd_T55 l1 x7_1).f2.f0) && (((rd_T50 x6_1 x10_2).f1) == ((rd_T55 l1 x7_1).f2.f1) && (((rd_T50 x6_1 x10_2).f2) == ((rd_T55 l1 x7_1).f2.f2) && (((rd_T50 x6_1 x10_2).f3) == ((rd_T55 l1 x7_1).f2.f3))))) = true := by simpa using c23))
                              (try (have c23b2 : (((rd_T50 x6_1 x10_2).f0) == ((rd_T55 l1 x7_1).f2.f0) && (((rd_T50 x6_1 x10_2).f1) == ((rd_T55 l1 x7_1).f2.f1) && (((rd_T50 x6_1 x10_2).f2) == ((rd_T55 l1 x7_1).f2.f2) && (((rd_T50 x6_1 x10_2).f3) == ((rd_T55 l1 x7_1).f2.f3))))) = true := by simpa using c23))
                              clear c23
                              have H' := Aside0.mk H
                              clear H
                              try go_wp2
                              have n0_ := Aside0.mk (Kd.R_drew HO_6.out)
                              have n1_ := Aside0.mk (blk_drew BK115.out)
                              have n2_ := Aside0.mk (below_drew1 HB.out)
                              clear HO_6
                              clear BK115
                              clear HB
                              have HO_6 := n0_
                              have BK115 := n1_
                              have HB := n2_
                              clear n0_ n1_ n2_
                              obtain ⟨Ao25, co25, eo25⟩ := Kd.R_slice HO_6.out
                              (first | subst eo25 | (injection eo25 with f1_ f2_ f3_; have f4_ := f1_.symm; have f5_ := f3_.symm; clear f1_ f2_ f3_; subst f4_; subst f5_))
                              have p119 : 0 ≤ (x10_2 : Int) := of_decide_eq_true (by first | (with_reducible assumption) | assumption)
                              have q119 : x10_2 < (x6_1.length : Int) := of_decide_eq_true (by first | (with_reducible assumption) | assumption)
                              obtain ⟨ad119, e119, hx119_0, hx119_1, hx119_2, hx119_3⟩ := at_T50 (Kd.R_reads' HO_6.out).2.2 x10_2 p119 q119
                              cases e119
                              replace p119 := eq_true p119
                              replace q119 := eq_true q119
                              refine start_ (n := 7) (S := fun w' => w'.cell? ⟨gb115, 0, none⟩ = some (.int .i64 ((rd_T55 l1 x7_1).f0)) ∧ w'.cell? ⟨gb115, 1, none⟩ = some (.int .i64 ((rd_T55 l1 x7_1).f1.f0)) ∧ w'.cell? ⟨gb115, 2, none⟩ = some (.int .i64 ((rd_T55 l1 x7_1).f1.f1)) ∧ w'.cell? ⟨gb115, 3, none⟩ = some (.int .i64 ((rd_T55 l1 x7_1).f1.f2)) ∧ w'.cell? ⟨gb115, 4, none⟩ = some (.int .i64 ((rd_T55 l1 x7_1).f1.f3)) ∧ w'.cell? ⟨gb115, 5, none⟩ = some (.int .i64 ((rd_T55 l1 x7_1).f2.f0)) ∧ w'.cell? ⟨gb115, 6, none⟩ = some (.int .i64 ((rd_T55 l1 x7_1).f2.f1)) ∧ w'.cell? ⟨gb115, 7, none⟩ = some (.int .i64 ((rd_T55 l1 x7_1).f2.f2)) ∧ w'.cell? ⟨gb115, 8, none⟩ = some (.int .i64 ((rd_T55 l1 x7_1).f2.f3)) ∧ w'.cell? (ad119.add ((x10_2).toNat * 4)) = some (.int .i64 ((rd_T50 x6_1 x10_2).f0)) ∧ w'.cell? ⟨(ad119.add ((x10_2).toNat * 4)).block, (ad119.add ((x10_2).toNat * 4)).off + 1, none⟩ = some (.int .i64 ((rd_T50 x6_1 x10_2).f1)) ∧ w'.cell? ⟨(ad119.add ((x10_2).toNat * 4)).block, (ad119.add ((x10_2).toNat * 4)).off + 2, none⟩ = some (.int .i64 ((rd_T50 x6_1 x10_2).f2)) ∧ w'.cell? ⟨(ad119.add ((x10_2).toNat * 4)).block, (ad119.add ((x10_2).toNat * 4)).off + 3, none⟩ = some (.int .i64 ((rd_T50 x6_1 x10_2).f3))) (ds := []) #[false, false, false, false, false, false, false] (by kernel_rfl) rfl rfl ⟨(blk_cell BK115.out 0).trans rfl, (blk_cell BK115.out 1).trans rfl, (blk_cell BK115.out 2).trans rfl, (blk_cell BK115.out 3).trans rfl, (blk_cell BK115.out 4).trans rfl, (blk_cell BK115.out 5).trans rfl, (blk_cell BK115.out 6).trans rfl, (blk_cell BK115.out 7).trans rfl, (blk_cell BK115.out 8).trans rfl, hx119_0, hx119_1, hx119_2, hx119_3⟩ (fun hHeld => ?_)
                              generalize wc.drew = w24 at HO_6 BK115 HB hx119_0 hx119_1 hx119_2 hx119_3 hHeld ⊢
                              refine pure_ (i := 0) (N := some 42) (v := ?_) (a' := ?_) #[true, false, false, false, false, false, false] rfl rfl (by kernel_rfl) (fun _ _ _ h => h) (Or.inl ⟨by rfl, ?_⟩) ?_ ?_
                              rotate_left
                              · intro w'
                                go_simp
                                with_reducible rfl
                              rotate_left
                              · simp only [Act.put, List.setIfInBounds_toArray, List.set_cons_zero, List.set_cons_succ, i64_w, i32_w]
                                rfl
                              refine pure_ (i := 1) (N := some 43) (v := ?_) (a' := ?_) #[true, true, false, false, false, false, false] rfl rfl (by kernel_rfl) (fun _ _ _ h => h) (Or.inl ⟨by rfl, ?_⟩) ?_ ?_
                              rotate_left
                              · intro w'
                                go_simp
                                with_reducible rfl
                              rotate_left
                              · simp only [Act.put, List.setIfInBounds_toArray, List.set_cons_zero, List.set_cons_succ, i64_w, i32_w]
                                rfl
                              refine pure_ (i := 2) (N := some 44) (v := ?_) (a' := ?_) #[true, true, true, false, false, false, false] rfl rfl (by kernel_rfl) (fun _ _ _ h => h) (Or.inl ⟨by rfl, ?_⟩) ?_ ?_
                              rotate_left
                              · intro w'
                                go_simp
                                with_reducible rfl
                              rotate_left
                              · simp only [Act.put, List.setIfInBounds_toArray, List.set_cons_zero, List.set_cons_succ, i64_w, i32_w]
                                rfl
                              refine pure_ (i := 4) (N := some 46) (v := ?_) (a' := ?_) #[true, true, true, false, true, false, false] rfl rfl (by kernel_rfl) (fun _ _ _ h => h) (Or.inl ⟨by rfl, ?_⟩) ?_ ?_
                              rotate_left
                              · intro w'
                                go_simp
                                with_reducible rfl
                              rotate_left
                              · simp only [Act.put, List.setIfInBounds_toArray, List.set_cons_zero, List.set_cons_succ, i64_w, i32_w]
                                rfl
                              refine take_ (i := 3) (N := some 45) (v := ?_) (a' := ?_) #[true, true, true, true, true, false, false] rfl rfl (by kernel_rfl) (fun _ _ _ h => h) (Or.inl ⟨by rfl, ?_⟩) hHeld ?_ ?_
                              rotate_left
                              · rintro w' ⟨s0, s1, s2, s3, s4, s5, s6, s7, s8, s9, s10, s11, s12⟩
                                go_simp
                                with_reducible rfl
                              rotate_left
                              · simp only [Act.put, List.setIfInBounds_toArray, List.set_cons_zero, List.set_cons_succ, i64_w, i32_w]
                                rfl
                              refine take_ (i := 5) (N := some 47) (v := ?_) (a' := ?_) #[true, true, true, true, true, true, false] rfl rfl (by kernel_rfl) (fun _ _ _ h => h) (Or.inl ⟨by rfl, ?_⟩) hHeld ?_ ?_
                              rotate_left
                              · rintro w' ⟨s0, s1, s2, s3, s4, s5, s6, s7, s8, s9, s10, s11, s12⟩
                                go_simp
                                with_reducible rfl
                              rotate_left
                              · simp only [Act.put, List.setIfInBounds_toArray, List.set_cons_zero, List.set_cons_succ, i64_w, i32_w]
                                rfl
                              refine pure_ (i := 6) (N := some 48) (v := ?_) (a' := ?_) #[true, true, true, true, true, true, true] rfl rfl (by kernel_rfl) (fun _ _ _ h => h) (Or.inl ⟨by rfl, ?_⟩) ?_ ?_
                              rotate_left
                              · intro w'
                                go_simp
                                with_reducible rfl
                              rotate_left
                              · simp only [Act.put, List.setIfInBounds_toArray, List.set_cons_zero, List.set_cons_succ, i64_w, i32_w]
                                rfl
                              refine done_ (by kernel_rfl) ?_
                              try go_wp2
                              go_roundg kj15
                              case measure => have := HK1.out; have := HK2.out; have := HJ15.out; omega
                              case rel => exact ⟨(x10_2), (wrap64 (x10_2 + 1)), (by first | rfl | (simp; done) | (simp [*]; done)), (by first | rfl | (simp; done) | (simp [*]; done)), H', ⟨by have := HK1.out; have := HK2.out; have := HJ15.out; omega⟩, ⟨by (with_reducible repeat (first | apply Kd.R_alloc | apply Kd.R_drewN | apply Kd.R_drew)); exact HO_6.out⟩, ⟨by (with_reducible repeat (first | refine blk_drewN ?_ _ | refine blk_drew ?_ | refine blk_alloc ?_ _)); exact BK115.out⟩, ⟨by repeat (first | (with_reducible first | exact HB.out | apply below_alloc | apply pw_below_drewN | apply below_drew1 | refine below_set ?_ GE115.out) | exact HB.out)⟩⟩
                            · rw [if_neg c23] at H
                              have c23b0 : (((rd_T50 x6_1 x10_2).f0) == ((rd_T55 l1 x7_1).f2.f0) && (((rd_T50 x6_1 x10_2).f1) == ((rd_T55 l1 x7_1).f2.f1) && (((rd_T50 x6_1 x10_2).f2) == ((rd_T55 l1 x7_1).f2.f2) && (((rd_T50 x6_1 x10_2).f3) == ((rd_T55 l1 x7_1).f2.f3))))) = false := by simpa using c23
                              (try (have c23b1 : decide (((rd_T50 x6_1 x10_2).f0) = ((rd_T55 l1 x7_1).f2.f0) && (((rd_T50 x6_1 x10_2).f1) == ((rd_T55 l1 x7_1).f2.f1) && (((rd_T50 x6_1 x10_2).f2) == ((rd_T55 l1 x7_1).f2.f2) && (((rd_T50 x6_1 x10_2).f3) == ((rd_T55 l1 x7_1).f2.f3))))) = false := by simpa using c23))
                              (try (have c23b2 : (((rd_T50 x6_1 x10_2).f0) == ((rd_T55 l1 x7_1).f2.f0) && (((rd_T50 x6_1 x10_2).f1) == ((rd_T55 l1 x7_1).f2.f1) && (((rd_T50 x6_1 x10_2).f2) == ((rd_T55 l1 x7_1).f2.f2) && (((rd_T50 x6_1 x10_2).f3) == ((rd_T55 l1 x7_1).f2.f3))))) = false := by simpa using c23))
                              (try (have c23b3 : ¬ (((rd_T50 x6_1 x10_2).f0) = ((rd_T55 l1 x7_1).f2.f0) && (((rd_T50 x6_1 x10_2).f1) == ((rd_T55 l1 x7_1).f2.f1) && (((rd_T50 x6_1 x10_2).f2) == ((rd_T55 l1 x7_1).f2.f2) && (((rd_T50 x6_1 x10_2).f3) == ((rd_T55 l1 x7_1).f2.f3))))) := by simpa using c23))
                              clear c23
                              have H' := Aside0.mk H
                              clear H
                              try go_wp2
                              have n0_ := Aside0.mk (Kd.R_drew HO_6.out)
                              have n1_ := Aside0.mk (blk_drew BK115.out)
                              have n2_ := Aside0.mk (below_drew1 HB.out)
                              clear HO_6
                              clear BK115
                              clear HB
                              have HO_6 := n0_
                              have BK115 := n1_
                              have HB := n2_
                              clear n0_ n1_ n2_
                              obtain ⟨Ao27, co27, eo27⟩ := Kd.R_slice HO_6.out
                              (first | subst eo27 | (injection eo27 with f1_ f2_ f3_; have f4_ := f1_.symm; have f5_ := f3_.symm; clear f1_ f2_ f3_; subst f4_; subst f5_))
                              have p119 : 0 ≤ (x10_2 : Int) := of_decide_eq_true (by first | (with_reducible assumption) | assumption)
                              have q119 : x10_2 < (x6_1.length : Int) := of_decide_eq_true (by first | (with_reducible assumption) | assumption)
                              obtain ⟨ad119, e119, hx119_0, hx119_1, hx119_2, hx119_3⟩ := at_T50 (Kd.R_reads' HO_6.out).2.2 x10_2 p119 q119
                              cases e119
                              replace p119 := eq_true p119
                              replace q119 := eq_true q119
                              refine start_ (n := 7) (S := fun w' => w'.cell? ⟨gb115, 0, none⟩ = some (.int .i64 ((rd_T55 l1 x7_1).f0)) ∧ w'.cell? ⟨gb115, 1, none⟩ = some (.int .i64 ((rd_T55 l1 x7_1).f1.f0)) ∧ w'.cell? ⟨gb115, 2, none⟩ = some (.int .i64 ((rd_T55 l1 x7_1).f1.f1)) ∧ w'.cell? ⟨gb115, 3, none⟩ = some (.int .i64 ((rd_T55 l1 x7_1).f1.f2)) ∧ w'.cell? ⟨gb115, 4, none⟩ = some (.int .i64 ((rd_T55 l1 x7_1).f1.f3)) ∧ w'.cell? ⟨gb115, 5, none⟩ = some (.int .i64 ((rd_T55 l1 x7_1).f2.f0)) ∧ w'.cell? ⟨gb115, 6, none⟩ = some (.int .i64 ((rd_T55 l1 x7_1).f2.f1)) ∧ w'.cell? ⟨gb115, 7, none⟩ = some (.int .i64 ((rd_T55 l1 x7_1).f2.f2)) ∧ w'.cell? ⟨gb115, 8, none⟩ = some (.int .i64 ((rd_T55 l1 x7_1).f2.f3)) ∧ w'.cell? (ad119.add ((x10_2).toNat * 4)) = some (.int .i64 ((rd_T50 x6_1 x10_2).f0)) ∧ w'.cell? ⟨(ad119.add ((x10_2).toNat * 4)).block, (ad119.add ((x10_2).toNat * 4)).off + 1, none⟩ = some (.int .i64 ((rd_T50 x6_1 x10_2).f1)) ∧ w'.cell? ⟨(ad119.add ((x10_2).toNat * 4)).block, (ad119.add ((x10_2).toNat * 4)).off + 2, none⟩ = some (.int .i64 ((rd_T50 x6_1 x10_2).f2)) ∧ w'.cell? ⟨(ad119.add ((x10_2).toNat * 4)).block, (ad119.add ((x10_2).toNat * 4)).off + 3, none⟩ = some (.int .i64 ((rd_T50 x6_1 x10_2).f3))) (ds := []) #[false, false, false, false, false, false, false] (by kernel_rfl) rfl rfl ⟨(blk_cell BK115.out 0).trans rfl, (blk_cell BK115.out 1).trans rfl, (blk_cell BK115.out 2).trans rfl, (blk_cell BK115.out 3).trans rfl, (blk_cell BK115.out 4).trans rfl, (blk_cell BK115.out 5).trans rfl, (blk_cell BK115.out 6).trans rfl, (blk_cell BK115.out 7).trans rfl, (blk_cell BK115.out 8).trans rfl, hx119_0, hx119_1, hx119_2, hx119_3⟩ (fun hHeld => ?_)
                              generalize wc.drew = w26 at HO_6 BK115 HB hx119_0 hx119_1 hx119_2 hx119_3 hHeld ⊢
                              refine pure_ (i := 0) (N := some 42) (v := ?_) (a' := ?_) #[true, false, false, false, false, false, false] rfl rfl (by kernel_rfl) (fun _ _ _ h => h) (Or.inl ⟨by rfl, ?_⟩) ?_ ?_
                              rotate_left
                              · intro w'
                                go_simp
                                with_reducible rfl
                              rotate_left
                              · simp only [Act.put, List.setIfInBounds_toArray, List.set_cons_zero, List.set_cons_succ, i64_w, i32_w]
                                rfl
                              refine pure_ (i := 1) (N := some 43) (v := ?_) (a' := ?_) #[true, true, false, false, false, false, false] rfl rfl (by kernel_rfl) (fun _ _ _ h => h) (Or.inl ⟨by rfl, ?_⟩) ?_ ?_
                              rotate_left
                              · intro w'
                                go_simp
                                with_reducible rfl
                              rotate_left
                              · simp only [Act.put, List.setIfInBounds_toArray, List.set_cons_zero, List.set_cons_succ, i64_w, i32_w]
                                rfl
                              refine pure_ (i := 2) (N := some 44) (v := ?_) (a' := ?_) #[true, true, true, false, false, false, false] rfl rfl (by kernel_rfl) (fun _ _ _ h => h) (Or.inl ⟨by rfl, ?_⟩) ?_ ?_
                              rotate_left
                              · intro w'
                                go_simp
                                with_reducible rfl
                              rotate_left
                              · simp only [Act.put, List.setIfInBounds_toArray, List.set_cons_zero, List.set_cons_succ, i64_w, i32_w]
                                rfl
                              refine pure_ (i := 4) (N := some 46) (v := ?_) (a' := ?_) #[true, true, true, false, true, false, false] rfl rfl (by kernel_rfl) (fun _ _ _ h => h) (Or.inl ⟨by rfl, ?_⟩) ?_ ?_
                              rotate_left
                              · intro w'
                                go_simp
                                with_reducible rfl
                              rotate_left
                              · simp only [Act.put, List.setIfInBounds_toArray, List.set_cons_zero, List.set_cons_succ, i64_w, i32_w]
                                rfl
                              refine take_ (i := 3) (N := some 45) (v := ?_) (a' := ?_) #[true, true, true, true, true, false, false] rfl rfl (by kernel_rfl) (fun _ _ _ h => h) (Or.inl ⟨by rfl, ?_⟩) hHeld ?_ ?_
                              rotate_left
                              · rintro w' ⟨s0, s1, s2, s3, s4, s5, s6, s7, s8, s9, s10, s11, s12⟩
                                go_simp
                                with_reducible rfl
                              rotate_left
                              · simp only [Act.put, List.setIfInBounds_toArray, List.set_cons_zero, List.set_cons_succ, i64_w, i32_w]
                                rfl
                              refine take_ (i := 5) (N := some 47) (v := ?_) (a' := ?_) #[true, true, true, true, true, true, false] rfl rfl (by kernel_rfl) (fun _ _ _ h => h) (Or.inl ⟨by rfl, ?_⟩) hHeld ?_ ?_
                              rotate_left
                              · rintro w' ⟨s0, s1, s2, s3, s4, s5, s6, s7, s8, s9, s10, s11, s12⟩
                                go_simp
                                with_reducible rfl
                              rotate_left
                              · simp only [Act.put, List.setIfInBounds_toArray, List.set_cons_zero, List.set_cons_succ, i64_w, i32_w]
                                rfl
                              refine pure_ (i := 6) (N := some 48) (v := ?_) (a' := ?_) #[true, true, true, true, true, true, true] rfl rfl (by kernel_rfl) (fun _ _ _ h => h) (Or.inl ⟨by rfl, ?_⟩) ?_ ?_
                              rotate_left
                              · intro w'
                                go_simp
                                with_reducible rfl
                              rotate_left
                              · simp only [Act.put, List.setIfInBounds_toArray, List.set_cons_zero, List.set_cons_succ, i64_w, i32_w]
                                rfl
                              refine done_ (by kernel_rfl) ?_
                              try go_wp2
                              go_roundg kj15
                              case measure => have := HK1.out; have := HK2.out; have := HJ15.out; omega
                              case rel => exact ⟨(x9_2), (wrap64 (x10_2 + 1)), (by first | rfl | (simp; done) | (simp [*]; done)), (by first | rfl | (simp; done) | (simp [*]; done)), H', ⟨by have := HK1.out; have := HK2.out; have := HJ15.out; omega⟩, ⟨by (with_reducible repeat (first | apply Kd.R_alloc | apply Kd.R_drewN | apply Kd.R_drew)); exact HO_6.out⟩, ⟨by (with_reducible repeat (first | refine blk_drewN ?_ _ | refine blk_drew ?_ | refine blk_alloc ?_ _)); exact BK115.out⟩, ⟨by repeat (first | (with_reducible first | exact HB.out | apply below_alloc | apply pw_below_drewN | apply below_drew1 | refine below_set ?_ GE115.out) | exact HB.out)⟩⟩
                          · rw [if_neg c22] at H
                            exact absurd H (by simp)
                        · rw [if_neg c21] at H
                          exact absurd H (by simp)
                      · replace c20 := Bool.eq_false_iff.mpr c20
                        subst c20
                        have H1 : (if x9_2 < 0 then (some (([] : List (S50)), false)) else (if ((rd_T55 l1 x7_1).f0) = 1 then (if 0 ≤ x9_2 then (if x9_2 ≤ (x6_1.length : Int) then (if 0 ≤ (wrap64 (x9_2 + 1)) then (if (wrap64 (x9_2 + 1)) ≤ (x6_1.length : Int) then (spec_repair.l0 kj15 l1 (x6_1.eraseIdx (x9_2 : Int).toNat) (wrap64 (x7_1 + 1))) else (none)) else (none)) else (none)) else (none)) else (if 0 ≤ x9_2 then (if x9_2 < (x6_1.length : Int) then (spec_repair.l0 kj15 l1 (x6_1.set (x9_2 : Int).toNat (⟨((rd_T55 l1 x7_1).f1.f0), ((rd_T55 l1 x7_1).f1.f1), ((rd_T55 l1 x7_1).f1.f2), ((rd_T55 l1 x7_1).f1.f3)⟩ : S50)) (wrap64 (x7_1 + 1))) else (none)) else (none)))) = some (r1, r2) := by rw [if_neg (show ¬ (false = true) by decide)] at H; exact H
                        clear H
                        have H := H1
                        clear H1
                        by_cases c28 : x9_2 < 0
                        · rw [if_pos c28] at H
                          have c28b0 : decide (x9_2 < 0) = true := decide_eq_true c28
                          clear c28
                          simp only [Option.some.injEq, Prod.mk.injEq] at H
                          obtain ⟨rfl, rfl⟩ := H
                          go_wp2
                          go_ret2
                          exact ⟨_, by first | rfl | (simp [errW_none, errW_some] <;> rfl) | (simp [*, errW_none, errW_some] <;> rfl), by first | exact Kd.R_nil _ _ _ _ _ | exact Kd.N_nil _ _ _ _ _ | exact Kd.V_nil _ _ _ _ _ | exact Kd.Q_nil _ _ _ _ _ | exact Kd.S_nil _ _ _ _ _, by repeat (first | (with_reducible first | exact HB.out | apply below_alloc | apply pw_below_drewN | apply below_drew1 | refine below_set ?_ GE115.out) | exact HB.out)⟩
                        · rw [if_neg c28] at H
                          have c28b0 : decide (x9_2 < 0) = false := decide_eq_false c28
                          clear c28
                          by_cases c29 : ((rd_T55 l1 x7_1).f0) = 1
                          · rw [if_pos c29] at H
                            have c29b0 : (((rd_T55 l1 x7_1).f0) == 1) = true := beq_iff_eq.mpr c29
                            have c29b1 : (((rd_T55 l1 x7_1).f0) != 1) = false := bne_eq_false_iff_eq.mpr c29
                            clear c29
                            by_cases c30 : 0 ≤ x9_2
                            · rw [if_pos c30] at H
                              have c30b0 := eq_true c30
                              have c30b1 : decide (0 ≤ x9_2) = true := decide_eq_true c30
                              clear c30
                              by_cases c31 : x9_2 ≤ (x6_1.length : Int)
                              · rw [if_pos c31] at H
                                have c31b0 := eq_true c31
                                have c31b1 : decide (x9_2 ≤ (x6_1.length : Int)) = true := decide_eq_true c31
                                clear c31
                                obtain ⟨y120, hy120⟩ : ∃ y_ : List (S50), y_ = (x6_1.take (x9_2 : Int).toNat) := ⟨_, rfl⟩
                                replace H : (if 0 ≤ (wrap64 (x9_2 + 1)) then (if (wrap64 (x9_2 + 1)) ≤ (x6_1.length : Int) then (spec_repair.l0 kj15 l1 (x6_1.eraseIdx (x9_2 : Int).toNat) (wrap64 (x7_1 + 1))) else (none)) else (none)) = some (r1, r2) := by first | (rw [hy120]; with_reducible exact H) | (have H2_ := (Option.bind_some _ _).symm.trans H; rw [hy120]; with_reducible exact H2_) | (have H2_ := (Option.bind_some _ _).symm.trans H; with_reducible exact H2_) | with_reducible exact H | (rw [hy120]; exact H) | exact H
                                have Ny120 := Aside0.mk hy120
                                clear hy120
                                obtain ⟨ji32, hji32⟩ : ∃ j_ : Int, (wrap64 (x9_2 + 1)) = j_ := ⟨_, rfl⟩
                                replace H : (if 0 ≤ (ji32) then (if (ji32) ≤ (x6_1.length : Int) then (spec_repair.l0 kj15 l1 (x6_1.eraseIdx (x9_2 : Int).toNat) (wrap64 (x7_1 + 1))) else (none)) else (none)) = some (r1, r2) := by first | (rw [hji32] at H; exact H) | (simp only [hji32] at H ⊢; exact H)
                                have hji32w : (IntKind.i64.wrap (x9_2 + 1)) = ji32 := (i64_w _).trans hji32
                                by_cases c33 : 0 ≤ (ji32)
                                · rw [if_pos c33] at H
                                  have c33b0 := eq_true c33
                                  have c33b1 : decide (0 ≤ (ji32)) = true := decide_eq_true c33
                                  clear c33
                                  by_cases c34 : (ji32) ≤ (x6_1.length : Int)
                                  · rw [if_pos c34] at H
                                    have c34b0 := eq_true c34
                                    have c34b1 : decide ((ji32) ≤ (x6_1.length : Int)) = true := decide_eq_true c34
                                    clear c34
                                    obtain ⟨y124, hy124⟩ : ∃ y_ : List (S50), y_ = (x6_1.drop ((ji32) : Int).toNat) := ⟨_, rfl⟩
                                    replace H : (spec_repair.l0 kj15 l1 (x6_1.eraseIdx (x9_2 : Int).toNat) (wrap64 (x7_1 + 1))) = some (r1, r2) := by first | (rw [hy124]; with_reducible exact H) | (have H2_ := (Option.bind_some _ _).symm.trans H; rw [hy124]; with_reducible exact H2_) | (have H2_ := (Option.bind_some _ _).symm.trans H; with_reducible exact H2_) | with_reducible exact H | (rw [hy124]; exact H) | exact H
                                    have Ny124 := Aside0.mk hy124
                                    clear hy124
                                    obtain ⟨y128, hy128⟩ : ∃ y_ : List (S50), y_ = (x6_1.eraseIdx (x9_2 : Int).toNat) := ⟨_, rfl⟩
                                    replace H : (spec_repair.l0 kj15 l1 y128 (wrap64 (x7_1 + 1))) = some (r1, r2) := by first | (rw [hy128]; with_reducible exact H) | (have H2_ := (Option.bind_some _ _).symm.trans H; rw [hy128]; with_reducible exact H2_) | (have H2_ := (Option.bind_some _ _).symm.trans H; with_reducible exact H2_) | with_reducible exact H | (rw [hy128]; exact H) | exact H
                                    have Ny128 := Aside0.mk hy128
                                    clear hy128
                                    have H' := Aside0.mk H
                                    clear H
                                    have hcz35_0 : wc.cell? ⟨gb115, 0, none⟩ = some (.int .i64 ((rd_T55 l1 x7_1).f0)) := (blk_cell BK115.out 0).trans rfl
                                    have hcz35_1 : wc.cell? ⟨gb115, 1, none⟩ = some (.int .i64 ((rd_T55 l1 x7_1).f1.f0)) := (blk_cell BK115.out 1).trans rfl
                                    have hcz35_2 : wc.cell? ⟨gb115, 2, none⟩ = some (.int .i64 ((rd_T55 l1 x7_1).f1.f1)) := (blk_cell BK115.out 2).trans rfl
                                    have hcz35_3 : wc.cell? ⟨gb115, 3, none⟩ = some (.int .i64 ((rd_T55 l1 x7_1).f1.f2)) := (blk_cell BK115.out 3).trans rfl
                                    have hcz35_4 : wc.cell? ⟨gb115, 4, none⟩ = some (.int .i64 ((rd_T55 l1 x7_1).f1.f3)) := (blk_cell BK115.out 4).trans rfl
                                    have hcz35_5 : wc.cell? ⟨gb115, 5, none⟩ = some (.int .i64 ((rd_T55 l1 x7_1).f2.f0)) := (blk_cell BK115.out 5).trans rfl
                                    have hcz35_6 : wc.cell? ⟨gb115, 6, none⟩ = some (.int .i64 ((rd_T55 l1 x7_1).f2.f1)) := (blk_cell BK115.out 6).trans rfl
                                    have hcz35_7 : wc.cell? ⟨gb115, 7, none⟩ = some (.int .i64 ((rd_T55 l1 x7_1).f2.f2)) := (blk_cell BK115.out 7).trans rfl
                                    have hcz35_8 : wc.cell? ⟨gb115, 8, none⟩ = some (.int .i64 ((rd_T55 l1 x7_1).f2.f3)) := (blk_cell BK115.out 8).trans rfl
                                    have hfz35_0 := blk_frozen BK115.out 0
                                    have hfz35_1 := blk_frozen BK115.out 1
                                    have hfz35_2 := blk_frozen BK115.out 2
                                    have hfz35_3 := blk_frozen BK115.out 3
                                    have hfz35_4 := blk_frozen BK115.out 4
                                    have hfz35_5 := blk_frozen BK115.out 5
                                    have hfz35_6 := blk_frozen BK115.out 6
                                    have hfz35_7 := blk_frozen BK115.out 7
                                    have hfz35_8 := blk_frozen BK115.out 8
                                    try go_wp2
                                    have n0_ := Aside0.mk (Kd.R_drew HO_6.out)
                                    have n1_ := Aside0.mk (blk_drew BK115.out)
                                    have n2_ := Aside0.mk (below_drew1 HB.out)
                                    clear HO_6
                                    clear BK115
                                    clear HB
                                    have HO_6 := n0_
                                    have BK115 := n1_
                                    have HB := n2_
                                    clear n0_ n1_ n2_
                                    obtain ⟨Ao38, co38, eo38⟩ := Kd.R_slice HO_6.out
                                    (first | subst eo38 | (injection eo38 with f1_ f2_ f3_; have f4_ := f1_.symm; have f5_ := f3_.symm; clear f1_ f2_ f3_; subst f4_; subst f5_))
                                    have q37 : (x9_2 : Int) ≤ ((x6_1.length : Int) : Int) := of_decide_eq_true (by first | (with_reducible assumption) | assumption)
                                    obtain ⟨i037, hi037, _, hsz37, _⟩ := info_parts info50
                                    have hroom37 : x6_1.length ≤ co38 := (Kd.R_reads' HO_6.out).2.1
                                    have hC37 : Kd.C k50 _ Ao38 x6_1.length x6_1 := (Kd.R_reads' HO_6.out).2.2
                                    have hcut37 := cut_to (P := Try.prog) 23 50 .i64 Try.underlying23 hi037 Ao38 x6_1.length co38 x9_2 (of_decide_eq_true (by first | (with_reducible assumption) | assumption)) q37 hroom37
                                    have hr37 := Kd.C_take (m := (x9_2 : Int).toNat) hC37 (by omega)
                                    have hy37 : y120.length = (x9_2 : Int).toNat := (by rw [Ny120.out, List.length_take]; omega)
                                    rw [← Ny120.out] at hr37
                                    rw [← hy37] at hcut37
                                    have HR123 := Aside0.mk hr37
                                    have HC123 := Aside0.mk (show y120.length ≤ co38 from by omega)
                                    clear hr37 hC37 hroom37 hi037 hsz37
                                    have KY37 := Aside0.mk hy37
                                    clear hy37
                                    have KL37 := Aside0.mk (show (x9_2 : Int).toNat ≤ x6_1.length from by omega)
                                    replace q37 := eq_true q37
                                    have q39 : ((ji32) : Int) ≤ ((x6_1.length : Int) : Int) := of_decide_eq_true (by first | (with_reducible assumption) | assumption)
                                    obtain ⟨i039, hi039, _, hsz39, _⟩ := info_parts info50
                                    have hroom39 : x6_1.length ≤ co38 := (Kd.R_reads' HO_6.out).2.1
                                    have hC39 : Kd.C k50 _ Ao38 x6_1.length x6_1 := (Kd.R_reads' HO_6.out).2.2
                                    have q039 : (0 : Int) ≤ ((ji32) : Int) := of_decide_eq_true (by first | (with_reducible assumption) | assumption)
                                    have hcut39 := cut_from (P := Try.prog) 23 50 .i64 Try.underlying23 hi039 4 hsz39 Ao38 x6_1.length co38 (ji32) q039 q39
                                    have hr39 := Kd.C_drop (m := ((ji32) : Int).toNat) (c := co38) hC39 (by omega) hroom39
                                    obtain ⟨A39, hA39⟩ : ∃ A1, A1 = (if co38 = ((ji32) : Int).toNat then Ao38 else (Ao38 : Option Addr).map (·.add (((ji32) : Int).toNat * 4))) := ⟨_, rfl⟩
                                    obtain ⟨c39, hc39⟩ : ∃ c1, c1 = co38 - ((ji32) : Int).toNat := ⟨_, rfl⟩
                                    have hy39 : y124.length = x6_1.length - ((ji32) : Int).toNat := (by rw [Ny124.out, List.length_drop] <;> omega)
                                    rw [show (x6_1).drop ((ji32) : Int).toNat = y124 from Ny124.out.symm] at hr39
                                    replace hr39 : Kd.C k50 _ A39 y124.length y124 := (by rw [hA39]; exact hr39)
                                    rw [← hy39, ← hA39, ← hc39] at hcut39
                                    have HR127 := Aside0.mk hr39
                                    have HC127 := Aside0.mk (show y124.length ≤ c39 from by rw [hy39, hc39]; exact Nat.sub_le_sub_right hroom39 _)
                                    clear hr39 hC39 hroom39 hi039 hsz39 hc39
                                    have KY39 := Aside0.mk hy39
                                    have KA39 := Aside0.mk hA39
                                    clear hy39 hA39
                                    have KL39 := Aside0.mk (show ((ji32) : Int).toNat ≤ x6_1.length from by omega)
                                    replace q39 := eq_true q39
                                    obtain ⟨go41, co41, eo41, gb41, gl41, cl41, HG41⟩ := Kd.R_form HO_6.out (by have hj_ : 0 ≤ (x9_2 : Int) := of_decide_eq_true (by first | (with_reducible assumption) | assumption); have hl_ : (ji32 : Int) ≤ (x6_1.length : Int) := of_decide_eq_true (by first | (with_reducible assumption) | assumption); have hh_ : (x9_2 : Int) ≤ (x6_1.length : Int) := of_decide_eq_true (by first | (with_reducible assumption) | assumption); rw [← hji32] at hl_; unfold wrap64 at hl_; omega)
                                    (first | cases eo41 | (injection eo41 with ea_ en_ ec_; (first | subst ea_ | (injection ea_ with ea_; subst ea_)); subst ec_; clear en_))
                                    have GB41 := Aside0.mk gb41
                                    have GG41 := Aside0.mk HG41
                                    clear gb41 gl41 HG41
                                    refine start_ (n := 9) (S := fun w' => True) (ds := []) #[false, false, false, false, false, false, false, false, false] (by kernel_rfl) rfl rfl trivial (fun hHeld => ?_); refine with_tabW spec_repair.tab17 spec_repair.bits17 (fun HT_ HW_ => ?_)
                                    generalize wc.drew = w36 at HO_6 BK115 HB GG41 HR123 HR127 hHeld ⊢
                                    refine pure_ (i := 0) (N := some 55) (v := ?_) (a' := ?_) #[true, false, false, false, false, false, false, false, false] rfl rfl (any_of HT_.out (by kernel_rfl)) (fun _ _ _ h => h) (Or.inl ⟨by rfl, ?_⟩) ?_ ?_
                                    rotate_left
                                    · intro w'
                                      go_simp
                                      with_reducible rfl
                                    rotate_left
                                    · simp only [Act.put, List.setIfInBounds_toArray, List.set_cons_zero, List.set_cons_succ, i64_w, i32_w]
                                      rfl
                                    refine pure_ (i := 1) (N := some 56) (v := ?_) (a' := ?_) #[true, true, false, false, false, false, false, false, false] rfl rfl (any_of HT_.out (by kernel_rfl)) (fun _ _ _ h => h) (Or.inl ⟨by rfl, ?_⟩) ?_ ?_
                                    rotate_left
                                    · intro w'
                                      go_simp
                                      with_reducible rfl
                                    rotate_left
                                    · simp only [Act.put, List.setIfInBounds_toArray, List.set_cons_zero, List.set_cons_succ, i64_w, i32_w]
                                      rfl
                                    refine pure_ (i := 2) (N := some 57) (v := ?_) (a' := ?_) #[true, true, true, false, false, false, false, false, false] rfl rfl (any_of HT_.out (by kernel_rfl)) (fun _ _ _ h => h) (Or.inl ⟨by rfl, ?_⟩) ?_ ?_
                                    rotate_left
                                    · intro w'
                                      go_simp
                                      with_reducible rfl
                                    rotate_left
                                    · simp only [Act.put, List.setIfInBounds_toArray, List.set_cons_zero, List.set_cons_succ, i64_w, i32_w]
                                      rfl
                                    refine pure_ (i := 3) (N := some 58) (v := ?_) (a' := ?_) #[true, true, true, true, false, false, false, false, false] rfl rfl (any_of HT_.out (by kernel_rfl)) (fun _ _ _ h => h) (Or.inl ⟨by rfl, ?_⟩) ?_ ?_
                                    rotate_left
                                    · intro w'
                                      go_simp
                                      with_reducible rfl
                                    rotate_left
                                    · simp only [Act.put, List.setIfInBounds_toArray, List.set_cons_zero, List.set_cons_succ, i64_w, i32_w]
                                      rfl
                                    refine pure_ (i := 4) (N := some 59) (v := ?_) (a' := ?_) #[true, true, true, true, true, false, false, false, false] rfl rfl (any_of HT_.out (by kernel_rfl)) (fun _ _ _ h => h) (Or.inl ⟨by rfl, ?_⟩) ?_ ?_
                                    rotate_left
                                    · intro w'
                                      go_simp
                                      with_reducible rfl
                                    rotate_left
                                    · simp only [Act.put, List.setIfInBounds_toArray, List.set_cons_zero, List.set_cons_succ, i64_w, i32_w]
                                      rfl
                                    refine pure_ (i := 5) (N := some 60) (v := ?_) (a' := ?_) #[true, true, true, true, true, true, false, false, false] rfl rfl (any_of HT_.out (by kernel_rfl)) (fun _ _ _ h => h) (Or.inl ⟨by rfl, ?_⟩) ?_ ?_
                                    rotate_left
                                    · intro w'
                                      go_simp
                                      with_reducible rfl
                                    rotate_left
                                    · simp only [Act.put, List.setIfInBounds_toArray, List.set_cons_zero, List.set_cons_succ, i64_w, i32_w]
                                      rfl
                                    refine pure_ (i := 6) (N := some 61) (v := ?_) (a' := ?_) #[true, true, true, true, true, true, true, false, false] rfl rfl (any_of HT_.out (by kernel_rfl)) (fun _ _ _ h => h) (Or.inl ⟨by rfl, ?_⟩) ?_ ?_
                                    rotate_left
                                    · intro w'
                                      go_simp
                                      with_reducible rfl
                                    rotate_left
                                    · simp only [Act.put, List.setIfInBounds_toArray, List.set_cons_zero, List.set_cons_succ, i64_w, i32_w]
                                      rfl
                                    refine one_ (i := 7) (N := some 62) #[true, true, true, true, true, true, true, true, false] rfl rfl (one_of HT_.out (by kernel_rfl)) (by decide) (fun K hK => ?_)
                                    have hj_ : 0 ≤ (x9_2 : Int) := of_decide_eq_true (by first | (with_reducible assumption) | assumption)
                                    have hl_ : (ji32 : Int) ≤ (x6_1.length : Int) := of_decide_eq_true (by first | (with_reducible assumption) | assumption)
                                    have hh_ : (x9_2 : Int) ≤ (x6_1.length : Int) := of_decide_eq_true (by first | (with_reducible assumption) | assumption)
                                    have hb_ := (Kd.R_reads' HO_6.out).2.2.2.1
                                    have h0_ : (0 : Int) ≤ (ji32 : Int) := of_decide_eq_true (by first | (with_reducible assumption) | assumption)
                                    have hy1_ := KY37.out
                                    have hk_ : (ji32 : Int).toNat = y120.length + 1 := (by have hbl_ := (Kd.R_reads' HO_6.out).1; have hw_ : (ji32 : Int) = x9_2 + 1 := (by have h00_ := h0_; rw [← hji32] at h00_ ⊢; unfold wrap64 at h00_ ⊢; omega); rw [hw_]; omega)
                                    refine Kd.R_delete_step k50 (w0 := w) w.heap.size (by rfl) (.tmp 57) (.tmp 61) 23 50 rfl Try.underlying23 (by kernel_rfl) (g := go41) (n := x6_1.length) (c := co38) (k := y120.length) rfl rfl ?hA ?hm (by (with_reducible repeat (first | apply Kd.R_alloc | apply Kd.R_drewN | apply Kd.R_drew)); exact HO_6.out) ?hk (by repeat (first | (with_reducible first | exact HB.out | apply below_alloc | apply pw_below_drewN | apply below_drew1 | refine below_set ?_ GE115.out) | exact HB.out)) (below_size (by repeat (first | (with_reducible first | exact HB.out | apply below_alloc | apply pw_below_drewN | apply below_drew1 | refine below_set ?_ GE115.out) | exact HB.out))) ?_
                                    (case hA => have ha_ := KA39.out; rw [hk_] at ha_; exact ha_)
                                    (case hm => have ha_ := KY39.out; omega)
                                    (case hk => omega)
                                    intro w40 ho hb hg
                                    clear hj_ hl_ hh_ hb_ hk_ h0_
                                    rw [hy1_, ← Ny128.out] at ho
                                    clear hy1_
                                    have hn_ : x6_1.length - 1 = y128.length := (by have := (Kd.R_reads' ho).1; omega)
                                    rw [hn_] at ho ⊢
                                    clear hn_
                                    have n0_ := Aside0.mk (ho)
                                    have n1_ := Aside0.mk (blk_grown (g := gb115) (o := .cells #[.int .i64 ((rd_T55 l1 x7_1).f0), .int .i64 ((rd_T55 l1 x7_1).f1.f0), .int .i64 ((rd_T55 l1 x7_1).f1.f1), .int .i64 ((rd_T55 l1 x7_1).f1.f2), .int .i64 ((rd_T55 l1 x7_1).f1.f3), .int .i64 ((rd_T55 l1 x7_1).f2.f0), .int .i64 ((rd_T55 l1 x7_1).f2.f1), .int .i64 ((rd_T55 l1 x7_1).f2.f2), .int .i64 ((rd_T55 l1 x7_1).f2.f3)] 55 (0, 0)) (by (with_reducible repeat (first | refine blk_drewN ?_ _ | refine blk_drew ?_ | refine blk_alloc ?_ _)); exact BK115.out) hg (Kd.R_ne HO_6.out BK115.out (by decide)))
                                    have n2_ := Aside0.mk (hb)
                                    clear HO_6
                                    clear BK115
                                    clear HB
                                    have HO_6 := n0_
                                    have BK115 := n1_
                                    have HB := n2_
                                    clear n0_ n1_ n2_
                                    clear ho hb hg
                                    refine hK.out _ _ trivial (fun hHeld => ?_)
                                    clear hK K
                                    refine norm_ (a' := ?_) ?_ ?_
                                    rotate_left
                                    · show Act.put _ (some 62) _ = _
                                      simp only [Act.put, List.setIfInBounds_toArray, List.set_cons_zero, List.set_cons_succ, i64_w, i32_w]
                                      rfl
                                    refine pure_ (i := 8) (N := some 6) (v := ?_) (a' := ?_) #[true, true, true, true, true, true, true, true, true] rfl rfl (any_of HT_.out (by kernel_rfl)) (fun _ _ _ h => h) (Or.inl ⟨by rfl, ?_⟩) ?_ ?_
                                    rotate_left
                                    · intro w'
                                      go_simp
                                      with_reducible rfl
                                    rotate_left
                                    · simp only [Act.put, List.setIfInBounds_toArray, List.set_cons_zero, List.set_cons_succ, i64_w, i32_w]
                                      rfl
                                    refine done_ (done_of HT_.out (by kernel_rfl)) ?_
                                    try go_wp2
                                    go_roundg kj15
                                    case measure => have := HK1.out; have := HK2.out; have := HJ15.out; omega
                                    case rel => exact ⟨(y128), (wrap64 (x7_1 + 1)), (by first | rfl | (simp; done) | (simp [*]; done)), H', ⟨by have := HK1.out; have := HK2.out; have := HJ15.out; omega⟩, ⟨by (with_reducible repeat (first | apply Kd.R_alloc | apply Kd.R_drewN | apply Kd.R_drew)); exact HO_6.out⟩, ⟨by repeat (first | (with_reducible first | exact HB.out | apply below_alloc | apply pw_below_drewN | apply below_drew1 | refine below_set ?_ GE115.out) | exact HB.out)⟩⟩
                                  · rw [if_neg c34] at H
                                    exact absurd H (by simp)
                                · rw [if_neg c33] at H
                                  exact absurd H (by simp)
                              · rw [if_neg c31] at H
                                exact absurd H (by simp)
                            · rw [if_neg c30] at H
                              exact absurd H (by simp)
                          · rw [if_neg c29] at H
                            have c29b0 : (((rd_T55 l1 x7_1).f0) == 1) = false := beq_eq_false_iff_ne.mpr c29
                            have c29b1 : (((rd_T55 l1 x7_1).f0) != 1) = true := bne_iff_ne.mpr c29
                            by_cases c42 : 0 ≤ x9_2
                            · rw [if_pos c42] at H
                              have c42b0 : decide (0 ≤ x9_2) = true := decide_eq_true c42
                              clear c42
                              by_cases c43 : x9_2 < (x6_1.length : Int)
                              · rw [if_pos c43] at H
                                have c43b0 : decide (x9_2 < (x6_1.length : Int)) = true := decide_eq_true c43
                                clear c43
                                obtain ⟨y131, hy131⟩ : ∃ y_ : List (S50), y_ = (x6_1.set (x9_2 : Int).toNat (⟨((rd_T55 l1 x7_1).f1.f0), ((rd_T55 l1 x7_1).f1.f1), ((rd_T55 l1 x7_1).f1.f2), ((rd_T55 l1 x7_1).f1.f3)⟩ : S50)) := ⟨_, rfl⟩
                                replace H : (spec_repair.l0 kj15 l1 y131 (wrap64 (x7_1 + 1))) = some (r1, r2) := by first | (rw [hy131]; with_reducible exact H) | (have H2_ := (Option.bind_some _ _).symm.trans H; rw [hy131]; with_reducible exact H2_) | (have H2_ := (Option.bind_some _ _).symm.trans H; with_reducible exact H2_) | with_reducible exact H | (rw [hy131]; exact H) | exact H
                                have Ny131 := Aside0.mk hy131
                                clear hy131
                                have H' := Aside0.mk H
                                clear H
                                have hcz45_0 : wc.cell? ⟨gb115, 0, none⟩ = some (.int .i64 ((rd_T55 l1 x7_1).f0)) := (blk_cell BK115.out 0).trans rfl
                                have hcz45_1 : wc.cell? ⟨gb115, 1, none⟩ = some (.int .i64 ((rd_T55 l1 x7_1).f1.f0)) := (blk_cell BK115.out 1).trans rfl
                                have hcz45_2 : wc.cell? ⟨gb115, 2, none⟩ = some (.int .i64 ((rd_T55 l1 x7_1).f1.f1)) := (blk_cell BK115.out 2).trans rfl
                                have hcz45_3 : wc.cell? ⟨gb115, 3, none⟩ = some (.int .i64 ((rd_T55 l1 x7_1).f1.f2)) := (blk_cell BK115.out 3).trans rfl
                                have hcz45_4 : wc.cell? ⟨gb115, 4, none⟩ = some (.int .i64 ((rd_T55 l1 x7_1).f1.f3)) := (blk_cell BK115.out 4).trans rfl
                                have hcz45_5 : wc.cell? ⟨gb115, 5, none⟩ = some (.int .i64 ((rd_T55 l1 x7_1).f2.f0)) := (blk_cell BK115.out 5).trans rfl
                                have hcz45_6 : wc.cell? ⟨gb115, 6, none⟩ = some (.int .i64 ((rd_T55 l1 x7_1).f2.f1)) := (blk_cell BK115.out 6).trans rfl
                                have hcz45_7 : wc.cell? ⟨gb115, 7, none⟩ = some (.int .i64 ((rd_T55 l1 x7_1).f2.f2)) := (blk_cell BK115.out 7).trans rfl
                                have hcz45_8 : wc.cell? ⟨gb115, 8, none⟩ = some (.int .i64 ((rd_T55 l1 x7_1).f2.f3)) := (blk_cell BK115.out 8).trans rfl
                                have hfz45_0 := blk_frozen BK115.out 0
                                have hfz45_1 := blk_frozen BK115.out 1
                                have hfz45_2 := blk_frozen BK115.out 2
                                have hfz45_3 := blk_frozen BK115.out 3
                                have hfz45_4 := blk_frozen BK115.out 4
                                have hfz45_5 := blk_frozen BK115.out 5
                                have hfz45_6 := blk_frozen BK115.out 6
                                have hfz45_7 := blk_frozen BK115.out 7
                                have hfz45_8 := blk_frozen BK115.out 8
                                have p44 : 0 ≤ (x9_2 : Int) := of_decide_eq_true (by first | (with_reducible assumption) | assumption)
                                have q44 : (x9_2 : Int) < ((x6_1.length : Int) : Int) := of_decide_eq_true (by first | (with_reducible assumption) | assumption)
                                obtain ⟨go44, co44, eo44, gb44, gl44, cl44, HG44⟩ := Kd.R_form HO_6.out (by omega)
                                (first | cases eo44 | (injection eo44 with ea_ en_ ec_; (first | subst ea_ | (injection ea_ with ea_; subst ea_)); subst ec_; clear en_))
                                have GB44 := Aside0.mk gb44
                                have GG44 := Aside0.mk HG44
                                clear gb44 gl44 HG44
                                obtain ⟨ce44, hcl44, hM44, hcc44, hfr44⟩ := Kd.R_elem HO_6.out z50 (x9_2 : Int) p44 q44
                                obtain rfl := k50_openM hM44
                                have hx44_0 : wc.cell? ⟨go44, (x9_2 : Int).toNat * 4, none⟩ = some (.int .i64 ((rd_T50 x6_1 x9_2).f0)) := hcc44 0 _ rfl
                                have hx44_1 : wc.cell? ⟨go44, (x9_2 : Int).toNat * 4 + 1, none⟩ = some (.int .i64 ((rd_T50 x6_1 x9_2).f1)) := hcc44 1 _ rfl
                                have hx44_2 : wc.cell? ⟨go44, (x9_2 : Int).toNat * 4 + 2, none⟩ = some (.int .i64 ((rd_T50 x6_1 x9_2).f2)) := hcc44 2 _ rfl
                                have hx44_3 : wc.cell? ⟨go44, (x9_2 : Int).toNat * 4 + 3, none⟩ = some (.int .i64 ((rd_T50 x6_1 x9_2).f3)) := hcc44 3 _ rfl
                                have hf44_0 : wc.frozen? ⟨go44, (x9_2 : Int).toNat * 4, none⟩ = false := hfr44 0
                                have hf44_1 : wc.frozen? ⟨go44, (x9_2 : Int).toNat * 4 + 1, none⟩ = false := hfr44 1
                                have hf44_2 : wc.frozen? ⟨go44, (x9_2 : Int).toNat * 4 + 2, none⟩ = false := hfr44 2
                                have hf44_3 : wc.frozen? ⟨go44, (x9_2 : Int).toNat * 4 + 3, none⟩ = false := hfr44 3
                                clear hcl44 hcc44 hfr44 ; (try clear hM44)
                                replace p44 := eq_true p44
                                replace q44 := eq_true q44
                                have HX46 := Aside0.mk (show Kd.R k50 50 wc w.heap.size (fun _ => True) (.slice (some ⟨go44, 0, none⟩) x6_1.length co44) x6_1 from (by (with_reducible repeat (first | apply Kd.R_alloc | apply Kd.R_drewN | apply Kd.R_drew)); exact HO_6.out))
                                obtain ⟨ce46, hcl46, hM46, hcc46, hfr46⟩ := Kd.R_elem HX46.out z50 (x9_2 : Int) (of_decide_eq_true (by first | (with_reducible assumption) | assumption)) (by have h_ : (x9_2 : Int) < ((x6_1.length : Int) : Int) := of_decide_eq_true (by first | (with_reducible assumption) | assumption); first | exact h_ | (have e_ := (Kd.R_reads' HO_6.out).1; omega) | simpa using h_)
                                obtain rfl := k50_openM hM46
                                have HP46 := Kd.R_seg HX46.out (x9_2 : Int) (of_decide_eq_true (by first | (with_reducible assumption) | assumption)) (by have h_ : (x9_2 : Int) < ((x6_1.length : Int) : Int) := of_decide_eq_true (by first | (with_reducible assumption) | assumption); first | exact h_ | (have e_ := (Kd.R_reads' HO_6.out).1; omega) | simpa using h_) (seg := [.int .i64 ((rd_T55 l1 x7_1).f1.f0), .int .i64 ((rd_T55 l1 x7_1).f1.f1), .int .i64 ((rd_T55 l1 x7_1).f1.f2), .int .i64 ((rd_T55 l1 x7_1).f1.f3)]) (j := 0) hcl46 hcc46 (show 4 ≤ 4 from by decide) (x' := (⟨((rd_T55 l1 x7_1).f1.f0), ((rd_T55 l1 x7_1).f1.f1), ((rd_T55 l1 x7_1).f1.f2), ((rd_T55 l1 x7_1).f1.f3)⟩ : S50)) (k50_mkM _ _ _ (⟨((rd_T55 l1 x7_1).f1.f0), ((rd_T55 l1 x7_1).f1.f1), ((rd_T55 l1 x7_1).f1.f2), ((rd_T55 l1 x7_1).f1.f3)⟩ : S50) ) (fun _ hk => hk)
                                have hx46_0 := hcc46 0 _ rfl
                                (try simp only [show (k50).sz = 4 from rfl, Nat.mul_one, Nat.add_zero] at hx46_0)
                                have hf46_0 := hfr46 0
                                (try simp only [show (k50).sz = 4 from rfl, Nat.mul_one, Nat.add_zero] at hf46_0)
                                have hx46_1 := hcc46 1 _ rfl
                                (try simp only [show (k50).sz = 4 from rfl, Nat.mul_one, Nat.add_zero] at hx46_1)
                                have hf46_1 := hfr46 1
                                (try simp only [show (k50).sz = 4 from rfl, Nat.mul_one, Nat.add_zero] at hf46_1)
                                have hx46_2 := hcc46 2 _ rfl
                                (try simp only [show (k50).sz = 4 from rfl, Nat.mul_one, Nat.add_zero] at hx46_2)
                                have hf46_2 := hfr46 2
                                (try simp only [show (k50).sz = 4 from rfl, Nat.mul_one, Nat.add_zero] at hf46_2)
                                have hx46_3 := hcc46 3 _ rfl
                                (try simp only [show (k50).sz = 4 from rfl, Nat.mul_one, Nat.add_zero] at hx46_3)
                                have hf46_3 := hfr46 3
                                (try simp only [show (k50).sz = 4 from rfl, Nat.mul_one, Nat.add_zero] at hf46_3)
                                clear hcl46 hcc46 hfr46 ; (try clear hM46)
                                go_wp2_with (first | ((with_reducible refine gate_store (t := 50) (p := 67) rfl ?_); refine store_event (t := 50) (p := 67) (v := ?vo_w47) (w1 := ((((wc.setCell ⟨go44, (x9_2 : Int).toNat * 4, none⟩ (.int .i64 ((rd_T55 l1 x7_1).f1.f0))).setCell ⟨go44, (x9_2 : Int).toNat * 4 + 1, none⟩ (.int .i64 ((rd_T55 l1 x7_1).f1.f1))).setCell ⟨go44, (x9_2 : Int).toNat * 4 + 2, none⟩ (.int .i64 ((rd_T55 l1 x7_1).f1.f2))).setCell ⟨go44, (x9_2 : Int).toNat * 4 + 3, none⟩ (.int .i64 ((rd_T55 l1 x7_1).f1.f3)))) ?hg ?ho ?hn ?hr ?_; (case ho => rfl); (case hg => rfl); (case hn => rfl); (case hr => first | (go_simp; done) | (go_simp; rfl)); intro w47 hw; have hg : wc.grownBy w47 (some go44) := (by rw [hw]; exact HP46.2); have hp_ : Kd.R k50 50 w47 w.heap.size (fun _ => True) (.slice (some ⟨go44, 0, none⟩) x6_1.length co44) y131 := (by rw [hw, Ny131.out]; exact HP46.1); clear HP46; have n0_ := Aside0.mk (hp_); have n1_ := Aside0.mk (blk_grown (g := gb115) (o := .cells #[.int .i64 ((rd_T55 l1 x7_1).f0), .int .i64 ((rd_T55 l1 x7_1).f1.f0), .int .i64 ((rd_T55 l1 x7_1).f1.f1), .int .i64 ((rd_T55 l1 x7_1).f1.f2), .int .i64 ((rd_T55 l1 x7_1).f1.f3), .int .i64 ((rd_T55 l1 x7_1).f2.f0), .int .i64 ((rd_T55 l1 x7_1).f2.f1), .int .i64 ((rd_T55 l1 x7_1).f2.f2), .int .i64 ((rd_T55 l1 x7_1).f2.f3)] 55 (0, 0)) (by (with_reducible repeat (first | refine blk_drewN ?_ _ | refine blk_drew ?_ | refine blk_alloc ?_ _)); exact BK115.out) hg (Kd.R_ne HO_6.out BK115.out (by decide))); have n2_ := Aside0.mk ((by rw [hw]; exact below_set (below_set (below_set (below_set (HB.out) GB44.out) GB44.out) GB44.out) GB44.out : Below w.heap.size w w47)); clear HO_6; clear BK115; clear HB; have HO_6 := n0_; have BK115 := n1_; have HB := n2_; clear n0_ n1_ n2_; clear hg hw hp_))
                                go_roundg kj15
                                case measure => have := HK1.out; have := HK2.out; have := HJ15.out; omega
                                case rel => exact ⟨(y131), (wrap64 (x7_1 + 1)), (by first | rfl | (simp; done) | (simp [*]; done)), H', ⟨by have := HK1.out; have := HK2.out; have := HJ15.out; omega⟩, ⟨by (with_reducible repeat (first | apply Kd.R_alloc | apply Kd.R_drewN | apply Kd.R_drew)); exact HO_6.out⟩, ⟨by repeat (first | (with_reducible first | exact HB.out | apply below_alloc | apply pw_below_drewN | apply below_drew1 | refine below_set ?_ GE115.out) | exact HB.out)⟩⟩
                              · rw [if_neg c43] at H
                                exact absurd H (by simp)
                            · rw [if_neg c42] at H
                              exact absurd H (by simp)
          · rw [if_neg c8] at H
            exact absurd H (by simp)
        · rw [if_neg c7] at H
          have c7b0 : decide (x7_1 < (l1.length : Int)) = false := decide_eq_false c7
          clear c7
          simp only [Option.some.injEq, Prod.mk.injEq] at H
          obtain ⟨rfl, rfl⟩ := H
          go_wp2
          go_ret2
          exact ⟨_, by first | rfl | (simp [errW_none, errW_some] <;> rfl) | (simp [*, errW_none, errW_some] <;> rfl), by (with_reducible repeat (first | apply Kd.R_alloc | apply Kd.R_drewN | apply Kd.R_drew)); exact HO_6.out, by repeat (first | (with_reducible first | exact HB.out | apply below_alloc | apply pw_below_drewN | apply below_drew1) | exact HB.out)⟩
  · rw [if_neg c3] at H
    exact absurd H (by simp)

end Go.Proofs.Ytjkbnimgmbnjdaa.PFnExactRepairBook
