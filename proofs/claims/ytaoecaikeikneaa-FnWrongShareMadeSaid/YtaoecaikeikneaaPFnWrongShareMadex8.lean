-- Laid by this session's own program: the kit's print, turned at a few places. Lean checks it.
import Derived.Test.YtaoecaikeikneaaPFnWrongShareMadex0
import Derived.Test.YtaoecaikeikneaaPFnWrongShareMadex3
import Derived.Test.YtaoecaikeikneaaPFnWrongShareMadex6
import Derived.Test.YtaoecaikeikneaaPFnWrongShareMadex7
namespace Go.Proofs.Ytaoecaikeikneaa.PFnWrongShareMade
open Go.RowKit Go.Proofs.YtaoecaikeikneaaW.PrintWords Go.Proofs.YtaoecaikeikneaaW.PrintLast Go.Proofs.YtaoecaikeikneaaW.PrintMore
attribute [local go_sem] max2_int min2_int max_two min_two max_three min_three max_four min_four   -- for this text's walks alone
set_option linter.unusedVariables false
set_option linter.unusedSimpArgs false

/-! ### impl_FitTogether: function 42 -/
mutual
def impl_FitTogether.j0 : Nat → List (S40) → Int → Bool → Option (Bool)
  | 0, _, _, _ => none
  | k + 1, x0, x1, x18 => if x18 = true then (some false) else (if (x0.length : Int) ≤ x1 then (some true) else (if 0 ≤ x1 then (if x1 ≤ (x0.length : Int) then ((impl_polyOf.f (x0.take (x1 : Int).toNat)).bind fun t238 => ((some (x0.drop (x1 : Int).toNat : List (S40))).bind fun y241 => (impl_FitTogether.l0 k t238 y241 (y241.length : Int) 0))) else (none)) else (none)))
def impl_FitTogether.l0 : Nat → List Int → List (S40) → Int → Int → Option (Bool)
  | 0, _, _, _, _ => none
  | k + 1, x5, x29, x30, x31 => if x31 < x30 then (if 0 ≤ x31 then (if x31 < (x29.length : Int) then ((impl_PolyAt.f k x5 ((rd_T40 x29 x31).f0)).bind fun t247 => (if t247 = ((rd_T40 x29 x31).f1) then (impl_FitTogether.l0 k x5 x29 x30 (wrap64 (x31 + 1))) else (some false))) else (none)) else (none)) else (some true)
end
def impl_FitTogether.f (k : Nat) (l0 : List (S40)) (a1 : Int) : Option (Bool) := (impl_ValidShares.f k l0).bind fun t233 => (if t233 = true then (if a1 < 1 then (impl_FitTogether.j0 k l0 a1 true) else (impl_FitTogether.j0 k l0 a1 (decide (a1 > 8)))) else (impl_FitTogether.j0 k l0 a1 true))
theorem impl_FitTogether.mono_l : ∀ k, (∀ y0 y1 y2, LeO (impl_FitTogether.j0 k y0 y1 y2) (impl_FitTogether.j0 (k + 1) y0 y1 y2)) ∧ (∀ y0 y1 y2 y3, LeO (impl_FitTogether.l0 k y0 y1 y2 y3) (impl_FitTogether.l0 (k + 1) y0 y1 y2 y3))
  | 0 => ⟨fun _ _ _ r h => by simp [impl_FitTogether.j0] at h, fun _ _ _ _ r h => by simp [impl_FitTogether.l0] at h⟩
  | k + 1 => by
    obtain ⟨ih0, ih1⟩ := impl_FitTogether.mono_l k
    refine ⟨?_, ?_⟩
    · intro y0 y1 y2
      unfold impl_FitTogether.j0
      repeat' first
      | (with_reducible exact ih0 _ _ _)
      | (with_reducible exact ih1 _ _ _ _)
      | (with_reducible exact impl_PolyAt.mono _ _ _)
      | (with_reducible exact impl_ValidShares.mono _ _)
      | (with_reducible exact LeO.refl _)
      | (with_reducible exact LeO.none _)
      | (with_reducible refine LeO.ite ?_ ?_)
      | (with_reducible refine LeO.bind ?_ (fun _ => ?_))
      | exact ih0 _ _ _
      | exact ih1 _ _ _ _
      | exact impl_PolyAt.mono _ _ _
      | exact impl_ValidShares.mono _ _
      | exact LeO.none _
      | refine LeO.ite ?_ ?_
      | refine LeO.bind ?_ (fun _ => ?_)
    · intro y0 y1 y2 y3
      unfold impl_FitTogether.l0
      repeat' first
      | (with_reducible exact ih0 _ _ _)
      | (with_reducible exact ih1 _ _ _ _)
      | (with_reducible exact impl_PolyAt.mono _ _ _)
      | (with_reducible exact impl_ValidShares.mono _ _)
      | (with_reducible exact LeO.refl _)
      | (with_reducible exact LeO.none _)
      | (with_reducible refine LeO.ite ?_ ?_)
      | (with_reducible refine LeO.bind ?_ (fun _ => ?_))
      | exact ih0 _ _ _
      | exact ih1 _ _ _ _
      | exact impl_PolyAt.mono _ _ _
      | exact impl_ValidShares.mono _ _
      | exact LeO.none _
      | refine LeO.ite ?_ ?_
      | refine LeO.bind ?_ (fun _ => ?_)
theorem impl_FitTogether.mono : ∀ a0 a1 k, LeO (impl_FitTogether.f k a0 a1) (impl_FitTogether.f (k + 1) a0 a1) := by
  intro a0 a1 k
  obtain ⟨ih0, ih1⟩ := impl_FitTogether.mono_l k
  unfold impl_FitTogether.f
  repeat' first
      | (with_reducible exact ih0 _ _ _)
      | (with_reducible exact ih1 _ _ _ _)
      | (with_reducible exact impl_PolyAt.mono _ _ _)
      | (with_reducible exact impl_ValidShares.mono _ _)
      | (with_reducible exact LeO.refl _)
      | (with_reducible exact LeO.none _)
      | (with_reducible refine LeO.ite ?_ ?_)
      | (with_reducible refine LeO.bind ?_ (fun _ => ?_))
      | exact ih0 _ _ _
      | exact ih1 _ _ _ _
      | exact impl_PolyAt.mono _ _ _
      | exact impl_ValidShares.mono _ _
      | exact LeO.none _
      | refine LeO.ite ?_ ?_
      | refine LeO.bind ?_ (fun _ => ?_)
set_option maxHeartbeats 8000000 in
set_option maxRecDepth 100000 in
theorem impl_FitTogether.calls (k : Nat) (A0 : Option Addr) (c0 : Nat) (l0 : List (S40)) (a1 : Int) (r : Bool) (w : World) (hr0 : Kd.C k40 w A0 l0.length l0) (hc0 : l0.length ≤ c0) (h : impl_FitTogether.f k l0 a1 = some r) :
    Calls Try.prog 42 #[.slice A0 l0.length c0, .int .i64 a1] w fun e w' => e = .returned (.bool r) ∧ Below w.heap.size w w' := by
  have hu40 := Try.underlying40
  have HR0 := Aside0.mk hr0
  have HC0 := Aside0.mk hc0
  clear hr0 hc0
  have HB := Aside0.mk (Below.refl w.heap.size w)
  have H : ((impl_ValidShares.f k l0).bind fun t233 => (if t233 = true then (if a1 < 1 then (impl_FitTogether.j0 k l0 a1 true) else (impl_FitTogether.j0 k l0 a1 (decide (a1 > 8)))) else (impl_FitTogether.j0 k l0 a1 true))) = some r := h
  clear h
  have HC3 := Aside0.mk H
  clear H
  go_enter Try.func42, Try.ntmps42
  go_upto_region 1 with (fail)
  go_cut [18] (fun v18 wc => ∃ (kq : Nat) (x18_2 : Bool), v18 = .bool x18_2 ∧ Aside0 (impl_FitTogether.j0 kq l0 a1 x18_2 = some r) ∧ Aside0 (kq ≤ k) ∧ Aside0 (Below w.heap.size w wc))
  case first =>
    have H := HC3.out
    clear HC3
    replace H := Option.bind_eq_some_iff.mp H
    obtain ⟨t233, A40, H⟩ := H
    replace H : (if t233 = true then (if a1 < 1 then (impl_FitTogether.j0 k l0 a1 true) else (impl_FitTogether.j0 k l0 a1 (decide (a1 > 8)))) else (impl_FitTogether.j0 k l0 a1 true)) = some r := H
    have A4 := Aside0.mk A40
    clear A40
    by_cases c5 : t233 = true
    · subst c5
      have H1 : (if a1 < 1 then (impl_FitTogether.j0 k l0 a1 true) else (impl_FitTogether.j0 k l0 a1 (decide (a1 > 8)))) = some r := by rw [if_pos rfl] at H; exact H
      clear H
      have H := H1
      clear H1
      by_cases c6 : a1 < 1
      · rw [if_pos c6] at H
        have c6b0 : decide (a1 < 1) = true := decide_eq_true c6
        clear c6
        (first | rw [c6b0] | (simp only [i64_w, i32_w]; rw [c6b0]) | skip)
        have H' := Aside0.mk H
        clear H
        go_wp2_with (first | ((with_reducible refine gate_callee (f := 25) rfl ?_); refine goesL_ (some 9) rfl rfl Try.func25 (by kernel_rfl) rfl #[.slice A0 l0.length c0] rfl (by (try simp only [List.map_toArray, List.map_cons, List.map_nil]); first | done | rfl | (simp only [List.length_drop, List.length_take]; rfl)) ?_; (with_reducible refine (impl_ValidShares.calls k _ _ l0 true _ ?side1 ?side2 A4.out).mono ?_); (case side1 => repeat (first | exact (Kd.C_below HR0.out HB.out) | (with_reducible refine Kd.C_alloc ?_ _) | (with_reducible refine Kd.C_drewN ?_ _) | (with_reducible refine Kd.C_drew ?_))); (case side2 => exact HC0.out); rintro e w7 ⟨rfl, hb⟩; refine ⟨_, rfl, ?_⟩; have n0_ := Aside0.mk (below_step (by repeat (first | (with_reducible first | exact HB.out | apply below_alloc | apply pw_below_drewN | apply below_drew1) | exact HB.out)) hb); clear HB; have HB := n0_; clear n0_; (try clear hb); (try clear hb2); (try clear hk); (try clear hi)))
        go_meet
        case rel => exact ⟨_, (true), (by first | rfl | (simp; done) | (simp [*]; done)), H', ⟨by first | omega | exact Nat.le_refl _⟩, ⟨by repeat (first | (with_reducible first | exact HB.out | apply below_alloc | apply pw_below_drewN | apply below_drew1) | exact HB.out)⟩⟩
      · rw [if_neg c6] at H
        have c6b0 : decide (a1 < 1) = false := decide_eq_false c6
        clear c6
        (first | rw [c6b0] | (simp only [i64_w, i32_w]; rw [c6b0]) | skip)
        have H' := Aside0.mk H
        clear H
        go_wp2_with (first | ((with_reducible refine gate_callee (f := 25) rfl ?_); refine goesL_ (some 9) rfl rfl Try.func25 (by kernel_rfl) rfl #[.slice A0 l0.length c0] rfl (by (try simp only [List.map_toArray, List.map_cons, List.map_nil]); first | done | rfl | (simp only [List.length_drop, List.length_take]; rfl)) ?_; (with_reducible refine (impl_ValidShares.calls k _ _ l0 true _ ?side1 ?side2 A4.out).mono ?_); (case side1 => repeat (first | exact (Kd.C_below HR0.out HB.out) | (with_reducible refine Kd.C_alloc ?_ _) | (with_reducible refine Kd.C_drewN ?_ _) | (with_reducible refine Kd.C_drew ?_))); (case side2 => exact HC0.out); rintro e w8 ⟨rfl, hb⟩; refine ⟨_, rfl, ?_⟩; have n0_ := Aside0.mk (below_step (by repeat (first | (with_reducible first | exact HB.out | apply below_alloc | apply pw_below_drewN | apply below_drew1) | exact HB.out)) hb); clear HB; have HB := n0_; clear n0_; (try clear hb); (try clear hb2); (try clear hk); (try clear hi)))
        go_meet
        case rel => exact ⟨_, (decide (a1 > 8)), (by first | rfl | (simp; done) | (simp [*]; done)), H', ⟨by first | omega | exact Nat.le_refl _⟩, ⟨by repeat (first | (with_reducible first | exact HB.out | apply below_alloc | apply pw_below_drewN | apply below_drew1) | exact HB.out)⟩⟩
    · replace c5 := Bool.eq_false_iff.mpr c5
      subst c5
      have H1 : (impl_FitTogether.j0 k l0 a1 true) = some r := by rw [if_neg (show ¬ (false = true) by decide)] at H; exact H
      clear H
      have H := H1
      clear H1
      have H' := Aside0.mk H
      clear H
      go_wp2_with (first | ((with_reducible refine gate_callee (f := 25) rfl ?_); refine goesL_ (some 9) rfl rfl Try.func25 (by kernel_rfl) rfl #[.slice A0 l0.length c0] rfl (by (try simp only [List.map_toArray, List.map_cons, List.map_nil]); first | done | rfl | (simp only [List.length_drop, List.length_take]; rfl)) ?_; (with_reducible refine (impl_ValidShares.calls k _ _ l0 false _ ?side1 ?side2 A4.out).mono ?_); (case side1 => repeat (first | exact (Kd.C_below HR0.out HB.out) | (with_reducible refine Kd.C_alloc ?_ _) | (with_reducible refine Kd.C_drewN ?_ _) | (with_reducible refine Kd.C_drew ?_))); (case side2 => exact HC0.out); rintro e w9 ⟨rfl, hb⟩; refine ⟨_, rfl, ?_⟩; have n0_ := Aside0.mk (below_step (by repeat (first | (with_reducible first | exact HB.out | apply below_alloc | apply pw_below_drewN | apply below_drew1) | exact HB.out)) hb); clear HB; have HB := n0_; clear n0_; (try clear hb); (try clear hb2); (try clear hk); (try clear hi)))
      go_meet
      case rel => exact ⟨_, (true), (by first | rfl | (simp; done) | (simp [*]; done)), H', ⟨by first | omega | exact Nat.le_refl _⟩, ⟨by repeat (first | (with_reducible first | exact HB.out | apply below_alloc | apply pw_below_drewN | apply below_drew1) | exact HB.out)⟩⟩
  case rest =>
    clear HC3
    try clear c2
    try clear p2
    try clear c4
    try clear c5
    try clear c6
    try clear c6b0
    obtain ⟨kq, x18_2, rfl, HA, HJ2, HB⟩ := hcut
    cases kq with
    | zero => exact absurd HA.out (by simp [impl_FitTogether.j0])
    | succ kj2 =>
      have H := HA.out
      clear HA
      simp only [impl_FitTogether.j0] at H
      by_cases c10 : x18_2 = true
      · subst c10
        have H1 : (some false) = some r := by rw [if_pos rfl] at H; exact H
        clear H
        have H := H1
        clear H1
        obtain rfl := Option.some.inj H
        go_wp2
        go_ret
        exact ⟨by first | rfl | (simp [errW_none, errW_some] <;> rfl) | (simp [*, errW_none, errW_some] <;> rfl), by repeat (first | (with_reducible first | exact HB.out | apply below_alloc | apply pw_below_drewN | apply below_drew1) | exact HB.out)⟩
      · replace c10 := Bool.eq_false_iff.mpr c10
        subst c10
        have H1 : (if (l0.length : Int) ≤ a1 then (some true) else (if 0 ≤ a1 then (if a1 ≤ (l0.length : Int) then ((impl_polyOf.f (l0.take (a1 : Int).toNat)).bind fun t238 => ((some (l0.drop (a1 : Int).toNat : List (S40))).bind fun y241 => (impl_FitTogether.l0 kj2 t238 y241 (y241.length : Int) 0))) else (none)) else (none))) = some r := by rw [if_neg (show ¬ (false = true) by decide)] at H; exact H
        clear H
        have H := H1
        clear H1
        by_cases c11 : (l0.length : Int) ≤ a1
        · rw [if_pos c11] at H
          have c11b0 : decide ((l0.length : Int) ≤ a1) = true := decide_eq_true c11
          clear c11
          obtain rfl := Option.some.inj H
          go_wp2
          go_ret
          exact ⟨by first | rfl | (simp [errW_none, errW_some] <;> rfl) | (simp [*, errW_none, errW_some] <;> rfl), by repeat (first | (with_reducible first | exact HB.out | apply below_alloc | apply pw_below_drewN | apply below_drew1) | exact HB.out)⟩
        · rw [if_neg c11] at H
          have c11b0 : decide ((l0.length : Int) ≤ a1) = false := decide_eq_false c11
          clear c11
          by_cases c12 : 0 ≤ a1
          · rw [if_pos c12] at H
            have c12b0 := eq_true c12
            have c12b1 : decide (0 ≤ a1) = true := decide_eq_true c12
            clear c12
            by_cases c13 : a1 ≤ (l0.length : Int)
            · rw [if_pos c13] at H
              have c13b0 := eq_true c13
              have c13b1 : decide (a1 ≤ (l0.length : Int)) = true := decide_eq_true c13
              clear c13
              obtain ⟨y234, hy234⟩ : ∃ y_ : List (S40), y_ = (l0.take (a1 : Int).toNat) := ⟨_, rfl⟩
              replace H : ((impl_polyOf.f y234).bind fun t238 => ((some (l0.drop (a1 : Int).toNat : List (S40))).bind fun y241 => (impl_FitTogether.l0 kj2 t238 y241 (y241.length : Int) 0))) = some r := by first | (rw [hy234]; with_reducible exact H) | (have H2_ := (Option.bind_some _ _).symm.trans H; rw [hy234]; with_reducible exact H2_) | (have H2_ := (Option.bind_some _ _).symm.trans H; with_reducible exact H2_) | with_reducible exact H | (rw [hy234]; exact H) | exact H
              have Ny234 := Aside0.mk hy234
              clear hy234
              replace H := Option.bind_eq_some_iff.mp H
              obtain ⟨t238, A140, H⟩ := H
              replace H : ((some (l0.drop (a1 : Int).toNat : List (S40))).bind fun y241 => (impl_FitTogether.l0 kj2 t238 y241 (y241.length : Int) 0)) = some r := H
              have A14 := Aside0.mk A140
              clear A140
              have c15b0 := eq_true (of_decide_eq_true (by first | (with_reducible assumption) | assumption) : 0 ≤ a1)
              have c16b0 := eq_true (of_decide_eq_true (by first | (with_reducible assumption) | assumption) : a1 ≤ (l0.length : Int))
              obtain ⟨y241, hy241⟩ : ∃ y_ : List (S40), y_ = (l0.drop (a1 : Int).toNat) := ⟨_, rfl⟩
              replace H : (impl_FitTogether.l0 kj2 t238 y241 (y241.length : Int) 0) = some r := by first | (rw [hy241]; with_reducible exact H) | (have H2_ := (Option.bind_some _ _).symm.trans H; rw [hy241]; with_reducible exact H2_) | (have H2_ := (Option.bind_some _ _).symm.trans H; with_reducible exact H2_) | with_reducible exact H | (rw [hy241]; exact H) | exact H
              have Ny241 := Aside0.mk hy241
              clear hy241
              have H' := Aside0.mk H
              clear H
              have q17 : (a1 : Int) ≤ ((l0.length : Int) : Int) := of_decide_eq_true (by first | (with_reducible assumption) | assumption)
              obtain ⟨i017, hi017, _, hsz17, _⟩ := info_parts info40
              have hroom17 : l0.length ≤ c0 := HC0.out
              have hC17 : Kd.C k40 _ A0 l0.length l0 := HR0.out
              have hcut17 := cut_to (P := Try.prog) 26 40 .i64 Try.underlying26 hi017 A0 l0.length c0 a1 (of_decide_eq_true (by first | (with_reducible assumption) | assumption)) q17 hroom17
              have hr17 := Kd.C_take (m := (a1 : Int).toNat) hC17 (by omega)
              have hy17 : y234.length = (a1 : Int).toNat := (by rw [Ny234.out, List.length_take]; omega)
              rw [← Ny234.out] at hr17
              rw [← hy17] at hcut17
              have HR237 := Aside0.mk hr17
              have HC237 := Aside0.mk (show y234.length ≤ c0 from by omega)
              clear hr17 hC17 hroom17 hi017 hsz17
              have KY17 := Aside0.mk hy17
              clear hy17
              replace q17 := eq_true q17
              go_wp2_with (first | ((with_reducible refine gate_callee (f := 60) rfl ?_); refine goesL_ (some 26) rfl rfl Try.func60 (by kernel_rfl) rfl #[.slice A0 y234.length c0] rfl (by (try simp only [List.map_toArray, List.map_cons, List.map_nil]); first | done | rfl | (simp only [List.length_drop, List.length_take]; rfl)) ?_; (with_reducible refine (impl_polyOf.calls _ _ y234 t238 _ ?side1 ?side2 A14.out).mono ?_); (case side1 => repeat (first | exact (Kd.C_below HR237.out HB.out) | (with_reducible refine Kd.C_alloc ?_ _) | (with_reducible refine Kd.C_drewN ?_ _) | (with_reducible refine Kd.C_drew ?_))); (case side2 => exact HC237.out); rintro e w18 ⟨v239, rfl, ho0, hb⟩; refine ⟨_, rfl, ?_⟩; have n0_ := Aside0.mk (Kd.R_lower ho0 (below_size (by repeat (first | (with_reducible first | exact HB.out | apply below_alloc | apply pw_below_drewN | apply below_drew1) | exact HB.out)))); have n1_ := Aside0.mk (below_step (by repeat (first | (with_reducible first | exact HB.out | apply below_alloc | apply pw_below_drewN | apply below_drew1) | exact HB.out)) hb); clear HB; have HO240 := n0_; have HB := n1_; clear n0_ n1_; (try clear hb); (try clear hb2); (try clear hk); (try clear hi); (try clear ho0); have q19 : (a1 : Int) ≤ ((l0.length : Int) : Int) := of_decide_eq_true (by first | (with_reducible assumption) | assumption); obtain ⟨i019, hi019, _, hsz19, _⟩ := info_parts info40; have hroom19 : l0.length ≤ c0 := HC0.out; have hC19 : Kd.C k40 _ A0 l0.length l0 := HR0.out; have q019 : (0 : Int) ≤ (a1 : Int) := of_decide_eq_true (by first | (with_reducible assumption) | assumption); have hcut19 := cut_from (P := Try.prog) 26 40 .i64 Try.underlying26 hi019 2 hsz19 A0 l0.length c0 a1 q019 q19; have hr19 := Kd.C_drop (m := (a1 : Int).toNat) (c := c0) hC19 (by omega) hroom19; obtain ⟨A19, hA19⟩ : ∃ A1, A1 = (if c0 = (a1 : Int).toNat then A0 else (A0 : Option Addr).map (·.add ((a1 : Int).toNat * 2))) := ⟨_, rfl⟩; obtain ⟨c19, hc19⟩ : ∃ c1, c1 = c0 - (a1 : Int).toNat := ⟨_, rfl⟩; have hy19 : y241.length = l0.length - (a1 : Int).toNat := (by rw [Ny241.out, List.length_drop] <;> omega); rw [show (l0).drop (a1 : Int).toNat = y241 from Ny241.out.symm] at hr19; replace hr19 : Kd.C k40 _ A19 y241.length y241 := (by rw [hA19]; exact hr19); rw [← hy19, ← hA19, ← hc19] at hcut19; have HR244 := Aside0.mk hr19; have HC244 := Aside0.mk (show y241.length ≤ c19 from by rw [hy19, hc19]; exact Nat.sub_le_sub_right hroom19 _); clear hr19 hC19 hroom19 hi019 hsz19 hc19; have KY19 := Aside0.mk hy19; have KA19 := Aside0.mk hA19; clear hy19 hA19; replace q19 := eq_true q19))
              go_loopg [31] kj2 (fun kq v31 w' => ∃ (x31_2 : Int), v31 = .int .i64 x31_2 ∧ Aside0 (impl_FitTogether.l0 kq t238 y241 (y241.length : Int) x31_2 = some r) ∧ Aside0 (kq ≤ kj2) ∧ Aside0 (Kd.R (Kd.int .i64) 3 w' w.heap.size (fun _ => True) v239 t238) ∧ Aside0 (Below w.heap.size w w'))
              case atStart => exact ⟨(0), (by first | rfl | (simp; done) | (simp [*]; done)), H', ⟨Nat.le_refl _⟩, ⟨by (with_reducible repeat (first | apply Kd.R_alloc | apply Kd.R_drewN | apply Kd.R_drew)); exact HO240.out⟩, ⟨by repeat (first | (with_reducible first | exact HB.out | apply below_alloc | apply pw_below_drewN | apply below_drew1) | exact HB.out)⟩⟩
              case round =>
                clear H'
                try clear c1
                try clear q1
                try clear c2
                try clear p2
                try clear c4
                try clear c5
                try clear c6
                try clear c6b0
                try clear c10
                try clear c11
                try clear c11b0
                try clear c12
                try clear c12b0
                try clear c12b1
                try clear c13
                try clear c13b0
                try clear c13b1
                try clear c15
                try clear c15b0
                try clear c16
                try clear c16b0
                try clear q17
                try clear c19
                try clear q19
                try clear p2
                try clear q019
                try clear q17
                try clear q19
                obtain ⟨x31_2, rfl, HA, HK2, HO_5, HB⟩ := hrel
                cases gk with
                | zero => exact absurd HA.out (by simp [impl_FitTogether.l0])
                | succ k2 =>
                  have H := HA.out
                  clear HA
                  simp only [impl_FitTogether.l0] at H
                  by_cases c20 : x31_2 < (y241.length : Int)
                  · rw [if_pos c20] at H
                    have c20b0 : decide (x31_2 < (y241.length : Int)) = true := decide_eq_true c20
                    clear c20
                    by_cases c21 : 0 ≤ x31_2
                    · rw [if_pos c21] at H
                      have c21b0 : decide (0 ≤ x31_2) = true := decide_eq_true c21
                      clear c21
                      by_cases c22 : x31_2 < (y241.length : Int)
                      · rw [if_pos c22] at H
                        have c22b0 : decide (x31_2 < (y241.length : Int)) = true := decide_eq_true c22
                        clear c22
                        replace H := Option.bind_eq_some_iff.mp H
                        obtain ⟨t247, A230, H⟩ := H
                        replace H : (if t247 = ((rd_T40 y241 x31_2).f1) then (impl_FitTogether.l0 k2 t238 y241 (y241.length : Int) (wrap64 (x31_2 + 1))) else (some false)) = some r := H
                        have A23 := Aside0.mk A230
                        clear A230
                        by_cases c24 : t247 = ((rd_T40 y241 x31_2).f1)
                        · rw [if_pos c24] at H
                          have c24b0 : (t247 == ((rd_T40 y241 x31_2).f1)) = true := beq_iff_eq.mpr c24
                          have c24b1 : (t247 != ((rd_T40 y241 x31_2).f1)) = false := bne_eq_false_iff_eq.mpr c24
                          clear c24
                          have H' := Aside0.mk H
                          clear H
                          have p245 : 0 ≤ (x31_2 : Int) := of_decide_eq_true (by first | (with_reducible assumption) | assumption)
                          have q245 : x31_2 < (y241.length : Int) := of_decide_eq_true (by first | (with_reducible assumption) | assumption)
                          obtain ⟨ad245, e245, hx245_0, hx245_1⟩ := at_T40 HR244.out x31_2 p245 q245
                          cases e245
                          replace hx245_0 := (HB.out.cell (World.block_lt_of_cell? w _ hx245_0)).trans hx245_0
                          replace hx245_1 := (HB.out.cell (World.block_lt_of_cell? w _ hx245_1)).trans hx245_1
                          replace p245 := eq_true p245
                          replace q245 := eq_true q245
                          try go_wp2_with (first | ((with_reducible refine gate_dst (N := 7) rfl ?_); refine box_event ?hg (N := 7) ?hd (cs := #[.int .i64 0, .int .i64 0]) (t := 40) ?hr ?_; (case hd => rfl); (case hg => rfl); (case hr => first | (go_simp; done) | (go_simp; rfl)); intro gb246 hg w25 hbox hb; have n0_ := Aside0.mk (Kd.R_below (by (with_reducible repeat (first | apply Kd.R_alloc | apply Kd.R_drewN | apply Kd.R_drew)); exact HO_5.out) hb); have n1_ := Aside0.mk (below_step (by repeat (first | (with_reducible first | exact HB.out | apply below_alloc | apply pw_below_drewN | apply below_drew1) | exact HB.out)) hb); have n2_ := Aside0.mk (hbox); have n3_ := Aside0.mk ((by rw [hg]; exact (below_size (by repeat (first | (with_reducible first | exact HB.out | apply below_alloc | apply pw_below_drewN | apply below_drew1) | exact HB.out))) : w.heap.size ≤ gb246)); have n4_ := Aside0.mk ((by rw [hg]; exact (below_size (by repeat (first | (with_reducible first | exact HB.out | apply below_alloc | apply pw_below_drewN | apply below_drew1) | exact HB.out))) : w.heap.size ≤ gb246)); clear HO_5; clear HB; have HO_5 := n0_; have HB := n1_; have BK246 := n2_; have GW246 := n3_; have GE246 := n4_; clear n0_ n1_ n2_ n3_ n4_; clear hb hbox hg; have hcz26_0 : w25.cell? ⟨gb246, 0, none⟩ = some (.int .i64 0) := (blk_cell BK246.out 0).trans rfl; have hcz26_1 : w25.cell? ⟨gb246, 1, none⟩ = some (.int .i64 0) := (blk_cell BK246.out 1).trans rfl; have hfz26_0 := blk_frozen BK246.out 0; have hfz26_1 := blk_frozen BK246.out 1))
                          have n0_ : Aside0 (Kd.R (Kd.int .i64) 3 ((w25.setCell ⟨gb246, 0, none⟩ (.int .i64 ((rd_T40 y241 x31_2).f0))).setCell ⟨gb246, 1, none⟩ (.int .i64 ((rd_T40 y241 x31_2).f1))) w.heap.size (fun _ => True) v239 t238) := ⟨by (with_reducible repeat (first | apply Kd.R_alloc | apply Kd.R_drewN | apply Kd.R_drew)); exact Kd.R_mono (Kd.R_far (p := ⟨gb246, 1, none⟩) (Kd.R_far (p := ⟨gb246, 0, none⟩) (Kd.R_types HO_5.out BK246.out (by decide)) (fun _ hk => hk.2) (.int .i64 ((rd_T40 y241 x31_2).f0))) (fun _ hk => hk.2) (.int .i64 ((rd_T40 y241 x31_2).f1))) (fun _ hk => trivial)⟩
                          have n1_ : Aside0 (((w25.setCell ⟨gb246, 0, none⟩ (.int .i64 ((rd_T40 y241 x31_2).f0))).setCell ⟨gb246, 1, none⟩ (.int .i64 ((rd_T40 y241 x31_2).f1))).heap[gb246]? = some (.cells #[.int .i64 ((rd_T40 y241 x31_2).f0), .int .i64 ((rd_T40 y241 x31_2).f1)] 40 (0, 0))) := ⟨by (with_reducible repeat (first | refine blk_drewN ?_ _ | refine blk_drew ?_ | refine blk_alloc ?_ _)); refine blk_put (cs := #[.int .i64 ((rd_T40 y241 x31_2).f0), .int .i64 0]) ?_ 1 _ rfl; (with_reducible repeat (first | refine blk_drewN ?_ _ | refine blk_drew ?_ | refine blk_alloc ?_ _)); refine blk_put (cs := #[.int .i64 0, .int .i64 0]) ?_ 0 _ rfl; (with_reducible repeat (first | refine blk_drewN ?_ _ | refine blk_drew ?_ | refine blk_alloc ?_ _)); exact BK246.out⟩
                          have n2_ : Aside0 (Below w.heap.size w ((w25.setCell ⟨gb246, 0, none⟩ (.int .i64 ((rd_T40 y241 x31_2).f0))).setCell ⟨gb246, 1, none⟩ (.int .i64 ((rd_T40 y241 x31_2).f1)))) := ⟨by repeat (first | (with_reducible first | exact HB.out | apply below_alloc | apply pw_below_drewN | apply below_drew1 | refine below_set ?_ GE246.out) | exact HB.out)⟩
                          (try clear HO_5)
                          (try clear BK246)
                          (try clear HB)
                          generalize ((w25.setCell ⟨gb246, 0, none⟩ (.int .i64 ((rd_T40 y241 x31_2).f0))).setCell ⟨gb246, 1, none⟩ (.int .i64 ((rd_T40 y241 x31_2).f1))) = w27 at n0_ n1_ n2_ ⊢
                          have HO_5 := n0_
                          have BK246 := n1_
                          have HB := n2_
                          clear n0_ n1_ n2_
                          have n0_ := Aside0.mk (Kd.R_drew HO_5.out)
                          have n1_ := Aside0.mk (blk_drew BK246.out)
                          have n2_ := Aside0.mk (below_drew1 HB.out)
                          clear HO_5
                          clear BK246
                          clear HB
                          have HO_5 := n0_
                          have BK246 := n1_
                          have HB := n2_
                          clear n0_ n1_ n2_
                          obtain ⟨Ao29, co29, eo29⟩ := Kd.R_slice HO_5.out
                          (first | subst eo29 | (injection eo29 with f1_ f2_ f3_; have f4_ := f1_.symm; have f5_ := f3_.symm; clear f1_ f2_ f3_; subst f4_; subst f5_))
                          refine start_ (n := 7) (S := fun w' => w'.cell? ⟨gb246, 0, none⟩ = some (.int .i64 ((rd_T40 y241 x31_2).f0)) ∧ w'.cell? ⟨gb246, 1, none⟩ = some (.int .i64 ((rd_T40 y241 x31_2).f1))) (ds := []) #[false, false, false, false, false, false, false] (by kernel_rfl) rfl rfl ⟨(blk_cell BK246.out 0).trans rfl, (blk_cell BK246.out 1).trans rfl⟩ (fun hHeld => ?_)
                          generalize w27.drew = w28 at HO_5 BK246 HB hHeld ⊢
                          refine pure_ (i := 0) (N := some 35) (v := ?_) (a' := ?_) #[true, false, false, false, false, false, false] rfl rfl (by kernel_rfl) (fun _ _ _ h => h) (Or.inl ⟨by rfl, ?_⟩) ?_ ?_
                          rotate_left
                          · intro w'
                            go_simp
                            with_reducible rfl
                          rotate_left
                          · simp only [Act.put, List.setIfInBounds_toArray, List.set_cons_zero, List.set_cons_succ, i64_w, i32_w]
                            rfl
                          refine pure_ (i := 1) (N := some 36) (v := ?_) (a' := ?_) #[true, true, false, false, false, false, false] rfl rfl (by kernel_rfl) (fun _ _ _ h => h) (Or.inl ⟨by rfl, ?_⟩) ?_ ?_
                          rotate_left
                          · intro w'
                            go_simp
                            with_reducible rfl
                          rotate_left
                          · simp only [Act.put, List.setIfInBounds_toArray, List.set_cons_zero, List.set_cons_succ, i64_w, i32_w]
                            rfl
                          refine pure_ (i := 4) (N := some 39) (v := ?_) (a' := ?_) #[true, true, false, false, true, false, false] rfl rfl (by kernel_rfl) (fun _ _ _ h => h) (Or.inl ⟨by rfl, ?_⟩) ?_ ?_
                          rotate_left
                          · intro w'
                            go_simp
                            with_reducible rfl
                          rotate_left
                          · simp only [Act.put, List.setIfInBounds_toArray, List.set_cons_zero, List.set_cons_succ, i64_w, i32_w]
                            rfl
                          refine take_ (i := 2) (N := some 37) (v := ?_) (a' := ?_) #[true, true, true, false, true, false, false] rfl rfl (by kernel_rfl) (fun _ _ _ h => h) (Or.inl ⟨by rfl, ?_⟩) hHeld ?_ ?_
                          rotate_left
                          · rintro w' ⟨s0, s1⟩
                            go_simp
                            with_reducible rfl
                          rotate_left
                          · simp only [Act.put, List.setIfInBounds_toArray, List.set_cons_zero, List.set_cons_succ, i64_w, i32_w]
                            rfl
                          refine take_ (i := 5) (N := some 40) (v := ?_) (a' := ?_) #[true, true, true, false, true, true, false] rfl rfl (by kernel_rfl) (fun _ _ _ h => h) (Or.inl ⟨by rfl, ?_⟩) hHeld ?_ ?_
                          rotate_left
                          · rintro w' ⟨s0, s1⟩
                            go_simp
                            with_reducible rfl
                          rotate_left
                          · simp only [Act.put, List.setIfInBounds_toArray, List.set_cons_zero, List.set_cons_succ, i64_w, i32_w]
                            rfl
                          refine one_ (i := 3) (N := some 38) #[true, true, true, true, true, true, false] rfl rfl (by kernel_rfl) (by decide) (fun K hK => ?_)
                          first | (refine goes_ Try.func28 (by kernel_rfl) rfl #[.slice Ao29 t238.length co29, .int .i64 ((rd_T40 y241 x31_2).f0)] (by rfl) rfl rfl (by (try simp only [List.map_toArray, List.map_cons, List.map_nil]); first | done | rfl | (simp only [List.length_drop, List.length_take]; rfl)) ?_) | (refine goes_ Try.func28 (by kernel_rfl) rfl #[.slice (some ad245) t238.length co29, .int .i64 ((rd_T40 y241 x31_2).f0)] (by rfl) rfl rfl (by (try simp only [List.map_toArray, List.map_cons, List.map_nil]); first | done | rfl | (simp only [List.length_drop, List.length_take]; rfl)) ?_)
                          with_reducible refine (impl_PolyAt.calls k2 _ _ t238 ((rd_T40 y241 x31_2).f0) t247 _ ?side1 ?side2 A23.out).mono ?_
                          (case side1 => repeat (first | exact (Kd.R_reads' HO_5.out).2.2 | (with_reducible refine Kd.C_alloc ?_ _) | (with_reducible refine Kd.C_drewN ?_ _) | (with_reducible refine Kd.C_drew ?_)))
                          (case side2 => exact (Kd.R_reads' HO_5.out).2.1)
                          rintro e w30 ⟨rfl, hb⟩
                          refine ⟨_, rfl, ?_⟩
                          have n0_ := Aside0.mk (Kd.R_below (by (with_reducible repeat (first | apply Kd.R_alloc | apply Kd.R_drewN | apply Kd.R_drew)); exact HO_5.out) hb)
                          have n1_ := Aside0.mk (blk_below (g := gb246) (o := .cells #[.int .i64 ((rd_T40 y241 x31_2).f0), .int .i64 ((rd_T40 y241 x31_2).f1)] 40 (0, 0)) (by (with_reducible repeat (first | refine blk_drewN ?_ _ | refine blk_drew ?_ | refine blk_alloc ?_ _)); exact BK246.out) hb)
                          have n2_ := Aside0.mk (below_step (by repeat (first | (with_reducible first | exact HB.out | apply below_alloc | apply pw_below_drewN | apply below_drew1 | refine below_set ?_ GE246.out) | exact HB.out)) hb)
                          clear HO_5
                          clear BK246
                          clear HB
                          have HO_5 := n0_
                          have BK246 := n1_
                          have HB := n2_
                          clear n0_ n1_ n2_
                          (try clear hb)
                          (try clear hb2)
                          (try clear hk)
                          (try clear hi)
                          refine hK.out _ _ ⟨(blk_cell BK246.out 0).trans rfl, (blk_cell BK246.out 1).trans rfl⟩ (fun hHeld => ?_)
                          clear hK K
                          refine norm_ (a' := ?_) ?_ ?_
                          rotate_left
                          · show Act.put _ (some 38) _ = _
                            simp only [Act.put, List.setIfInBounds_toArray, List.set_cons_zero, List.set_cons_succ, i64_w, i32_w]
                            rfl
                          refine pure_ (i := 6) (N := some 41) (v := ?_) (a' := ?_) #[true, true, true, true, true, true, true] rfl rfl (by kernel_rfl) (fun _ _ _ h => h) (Or.inl ⟨by rfl, ?_⟩) ?_ ?_
                          rotate_left
                          · intro w'
                            go_simp
                            with_reducible rfl
                          rotate_left
                          · simp only [Act.put, List.setIfInBounds_toArray, List.set_cons_zero, List.set_cons_succ, i64_w, i32_w]
                            rfl
                          refine done_ (by kernel_rfl) ?_
                          try go_wp2
                          go_roundg k2
                          case measure => have := HJ2.out; have := HK2.out; omega
                          case rel => exact ⟨(wrap64 (x31_2 + 1)), (by first | rfl | (simp; done) | (simp [*]; done)), H', ⟨by have := HJ2.out; have := HK2.out; omega⟩, ⟨by (with_reducible repeat (first | apply Kd.R_alloc | apply Kd.R_drewN | apply Kd.R_drew)); exact HO_5.out⟩, ⟨by repeat (first | (with_reducible first | exact HB.out | apply below_alloc | apply pw_below_drewN | apply below_drew1 | refine below_set ?_ GE246.out) | exact HB.out)⟩⟩
                        · rw [if_neg c24] at H
                          have c24b0 : (t247 == ((rd_T40 y241 x31_2).f1)) = false := beq_eq_false_iff_ne.mpr c24
                          have c24b1 : (t247 != ((rd_T40 y241 x31_2).f1)) = true := bne_iff_ne.mpr c24
                          obtain rfl := Option.some.inj H
                          have p245 : 0 ≤ (x31_2 : Int) := of_decide_eq_true (by first | (with_reducible assumption) | assumption)
                          have q245 : x31_2 < (y241.length : Int) := of_decide_eq_true (by first | (with_reducible assumption) | assumption)
                          obtain ⟨ad245, e245, hx245_0, hx245_1⟩ := at_T40 HR244.out x31_2 p245 q245
                          cases e245
                          replace hx245_0 := (HB.out.cell (World.block_lt_of_cell? w _ hx245_0)).trans hx245_0
                          replace hx245_1 := (HB.out.cell (World.block_lt_of_cell? w _ hx245_1)).trans hx245_1
                          replace p245 := eq_true p245
                          replace q245 := eq_true q245
                          try go_wp2_with (first | ((with_reducible refine gate_dst (N := 7) rfl ?_); refine box_event ?hg (N := 7) ?hd (cs := #[.int .i64 0, .int .i64 0]) (t := 40) ?hr ?_; (case hd => rfl); (case hg => rfl); (case hr => first | (go_simp; done) | (go_simp; rfl)); intro gb246 hg w31 hbox hb; have n0_ := Aside0.mk (Kd.R_below (by (with_reducible repeat (first | apply Kd.R_alloc | apply Kd.R_drewN | apply Kd.R_drew)); exact HO_5.out) hb); have n1_ := Aside0.mk (below_step (by repeat (first | (with_reducible first | exact HB.out | apply below_alloc | apply pw_below_drewN | apply below_drew1) | exact HB.out)) hb); have n2_ := Aside0.mk (hbox); have n3_ := Aside0.mk ((by rw [hg]; exact (below_size (by repeat (first | (with_reducible first | exact HB.out | apply below_alloc | apply pw_below_drewN | apply below_drew1) | exact HB.out))) : w.heap.size ≤ gb246)); have n4_ := Aside0.mk ((by rw [hg]; exact (below_size (by repeat (first | (with_reducible first | exact HB.out | apply below_alloc | apply pw_below_drewN | apply below_drew1) | exact HB.out))) : w.heap.size ≤ gb246)); clear HO_5; clear HB; have HO_5 := n0_; have HB := n1_; have BK246 := n2_; have GW246 := n3_; have GE246 := n4_; clear n0_ n1_ n2_ n3_ n4_; clear hb hbox hg; have hcz32_0 : w31.cell? ⟨gb246, 0, none⟩ = some (.int .i64 0) := (blk_cell BK246.out 0).trans rfl; have hcz32_1 : w31.cell? ⟨gb246, 1, none⟩ = some (.int .i64 0) := (blk_cell BK246.out 1).trans rfl; have hfz32_0 := blk_frozen BK246.out 0; have hfz32_1 := blk_frozen BK246.out 1))
                          have n0_ : Aside0 (Kd.R (Kd.int .i64) 3 ((w31.setCell ⟨gb246, 0, none⟩ (.int .i64 ((rd_T40 y241 x31_2).f0))).setCell ⟨gb246, 1, none⟩ (.int .i64 ((rd_T40 y241 x31_2).f1))) w.heap.size (fun _ => True) v239 t238) := ⟨by (with_reducible repeat (first | apply Kd.R_alloc | apply Kd.R_drewN | apply Kd.R_drew)); exact Kd.R_mono (Kd.R_far (p := ⟨gb246, 1, none⟩) (Kd.R_far (p := ⟨gb246, 0, none⟩) (Kd.R_types HO_5.out BK246.out (by decide)) (fun _ hk => hk.2) (.int .i64 ((rd_T40 y241 x31_2).f0))) (fun _ hk => hk.2) (.int .i64 ((rd_T40 y241 x31_2).f1))) (fun _ hk => trivial)⟩
                          have n1_ : Aside0 (((w31.setCell ⟨gb246, 0, none⟩ (.int .i64 ((rd_T40 y241 x31_2).f0))).setCell ⟨gb246, 1, none⟩ (.int .i64 ((rd_T40 y241 x31_2).f1))).heap[gb246]? = some (.cells #[.int .i64 ((rd_T40 y241 x31_2).f0), .int .i64 ((rd_T40 y241 x31_2).f1)] 40 (0, 0))) := ⟨by (with_reducible repeat (first | refine blk_drewN ?_ _ | refine blk_drew ?_ | refine blk_alloc ?_ _)); refine blk_put (cs := #[.int .i64 ((rd_T40 y241 x31_2).f0), .int .i64 0]) ?_ 1 _ rfl; (with_reducible repeat (first | refine blk_drewN ?_ _ | refine blk_drew ?_ | refine blk_alloc ?_ _)); refine blk_put (cs := #[.int .i64 0, .int .i64 0]) ?_ 0 _ rfl; (with_reducible repeat (first | refine blk_drewN ?_ _ | refine blk_drew ?_ | refine blk_alloc ?_ _)); exact BK246.out⟩
                          have n2_ : Aside0 (Below w.heap.size w ((w31.setCell ⟨gb246, 0, none⟩ (.int .i64 ((rd_T40 y241 x31_2).f0))).setCell ⟨gb246, 1, none⟩ (.int .i64 ((rd_T40 y241 x31_2).f1)))) := ⟨by repeat (first | (with_reducible first | exact HB.out | apply below_alloc | apply pw_below_drewN | apply below_drew1 | refine below_set ?_ GE246.out) | exact HB.out)⟩
                          (try clear HO_5)
                          (try clear BK246)
                          (try clear HB)
                          generalize ((w31.setCell ⟨gb246, 0, none⟩ (.int .i64 ((rd_T40 y241 x31_2).f0))).setCell ⟨gb246, 1, none⟩ (.int .i64 ((rd_T40 y241 x31_2).f1))) = w33 at n0_ n1_ n2_ ⊢
                          have HO_5 := n0_
                          have BK246 := n1_
                          have HB := n2_
                          clear n0_ n1_ n2_
                          have n0_ := Aside0.mk (Kd.R_drew HO_5.out)
                          have n1_ := Aside0.mk (blk_drew BK246.out)
                          have n2_ := Aside0.mk (below_drew1 HB.out)
                          clear HO_5
                          clear BK246
                          clear HB
                          have HO_5 := n0_
                          have BK246 := n1_
                          have HB := n2_
                          clear n0_ n1_ n2_
                          obtain ⟨Ao35, co35, eo35⟩ := Kd.R_slice HO_5.out
                          (first | subst eo35 | (injection eo35 with f1_ f2_ f3_; have f4_ := f1_.symm; have f5_ := f3_.symm; clear f1_ f2_ f3_; subst f4_; subst f5_))
                          refine start_ (n := 7) (S := fun w' => w'.cell? ⟨gb246, 0, none⟩ = some (.int .i64 ((rd_T40 y241 x31_2).f0)) ∧ w'.cell? ⟨gb246, 1, none⟩ = some (.int .i64 ((rd_T40 y241 x31_2).f1))) (ds := []) #[false, false, false, false, false, false, false] (by kernel_rfl) rfl rfl ⟨(blk_cell BK246.out 0).trans rfl, (blk_cell BK246.out 1).trans rfl⟩ (fun hHeld => ?_)
                          generalize w33.drew = w34 at HO_5 BK246 HB hHeld ⊢
                          refine pure_ (i := 0) (N := some 35) (v := ?_) (a' := ?_) #[true, false, false, false, false, false, false] rfl rfl (by kernel_rfl) (fun _ _ _ h => h) (Or.inl ⟨by rfl, ?_⟩) ?_ ?_
                          rotate_left
                          · intro w'
                            go_simp
                            with_reducible rfl
                          rotate_left
                          · simp only [Act.put, List.setIfInBounds_toArray, List.set_cons_zero, List.set_cons_succ, i64_w, i32_w]
                            rfl
                          refine pure_ (i := 1) (N := some 36) (v := ?_) (a' := ?_) #[true, true, false, false, false, false, false] rfl rfl (by kernel_rfl) (fun _ _ _ h => h) (Or.inl ⟨by rfl, ?_⟩) ?_ ?_
                          rotate_left
                          · intro w'
                            go_simp
                            with_reducible rfl
                          rotate_left
                          · simp only [Act.put, List.setIfInBounds_toArray, List.set_cons_zero, List.set_cons_succ, i64_w, i32_w]
                            rfl
                          refine pure_ (i := 4) (N := some 39) (v := ?_) (a' := ?_) #[true, true, false, false, true, false, false] rfl rfl (by kernel_rfl) (fun _ _ _ h => h) (Or.inl ⟨by rfl, ?_⟩) ?_ ?_
                          rotate_left
                          · intro w'
                            go_simp
                            with_reducible rfl
                          rotate_left
                          · simp only [Act.put, List.setIfInBounds_toArray, List.set_cons_zero, List.set_cons_succ, i64_w, i32_w]
                            rfl
                          refine take_ (i := 2) (N := some 37) (v := ?_) (a' := ?_) #[true, true, true, false, true, false, false] rfl rfl (by kernel_rfl) (fun _ _ _ h => h) (Or.inl ⟨by rfl, ?_⟩) hHeld ?_ ?_
                          rotate_left
                          · rintro w' ⟨s0, s1⟩
                            go_simp
                            with_reducible rfl
                          rotate_left
                          · simp only [Act.put, List.setIfInBounds_toArray, List.set_cons_zero, List.set_cons_succ, i64_w, i32_w]
                            rfl
                          refine take_ (i := 5) (N := some 40) (v := ?_) (a' := ?_) #[true, true, true, false, true, true, false] rfl rfl (by kernel_rfl) (fun _ _ _ h => h) (Or.inl ⟨by rfl, ?_⟩) hHeld ?_ ?_
                          rotate_left
                          · rintro w' ⟨s0, s1⟩
                            go_simp
                            with_reducible rfl
                          rotate_left
                          · simp only [Act.put, List.setIfInBounds_toArray, List.set_cons_zero, List.set_cons_succ, i64_w, i32_w]
                            rfl
                          refine one_ (i := 3) (N := some 38) #[true, true, true, true, true, true, false] rfl rfl (by kernel_rfl) (by decide) (fun K hK => ?_)
                          first | (refine goes_ Try.func28 (by kernel_rfl) rfl #[.slice Ao35 t238.length co35, .int .i64 ((rd_T40 y241 x31_2).f0)] (by rfl) rfl rfl (by (try simp only [List.map_toArray, List.map_cons, List.map_nil]); first | done | rfl | (simp only [List.length_drop, List.length_take]; rfl)) ?_) | (refine goes_ Try.func28 (by kernel_rfl) rfl #[.slice (some ad245) t238.length co35, .int .i64 ((rd_T40 y241 x31_2).f0)] (by rfl) rfl rfl (by (try simp only [List.map_toArray, List.map_cons, List.map_nil]); first | done | rfl | (simp only [List.length_drop, List.length_take]; rfl)) ?_)
                          with_reducible refine (impl_PolyAt.calls k2 _ _ t238 ((rd_T40 y241 x31_2).f0) t247 _ ?side1 ?side2 A23.out).mono ?_
                          (case side1 => repeat (first | exact (Kd.R_reads' HO_5.out).2.2 | (with_reducible refine Kd.C_alloc ?_ _) | (with_reducible refine Kd.C_drewN ?_ _) | (with_reducible refine Kd.C_drew ?_)))
                          (case side2 => exact (Kd.R_reads' HO_5.out).2.1)
                          rintro e w36 ⟨rfl, hb⟩
                          refine ⟨_, rfl, ?_⟩
                          have n0_ := Aside0.mk (Kd.R_below (by (with_reducible repeat (first | apply Kd.R_alloc | apply Kd.R_drewN | apply Kd.R_drew)); exact HO_5.out) hb)
                          have n1_ := Aside0.mk (blk_below (g := gb246) (o := .cells #[.int .i64 ((rd_T40 y241 x31_2).f0), .int .i64 ((rd_T40 y241 x31_2).f1)] 40 (0, 0)) (by (with_reducible repeat (first | refine blk_drewN ?_ _ | refine blk_drew ?_ | refine blk_alloc ?_ _)); exact BK246.out) hb)
                          have n2_ := Aside0.mk (below_step (by repeat (first | (with_reducible first | exact HB.out | apply below_alloc | apply pw_below_drewN | apply below_drew1 | refine below_set ?_ GE246.out) | exact HB.out)) hb)
                          clear HO_5
                          clear BK246
                          clear HB
                          have HO_5 := n0_
                          have BK246 := n1_
                          have HB := n2_
                          clear n0_ n1_ n2_
                          (try clear hb)
                          (try clear hb2)
                          (try clear hk)
                          (try clear hi)
                          refine hK.out _ _ ⟨(blk_cell BK246.out 0).trans rfl, (blk_cell BK246.out 1).trans rfl⟩ (fun hHeld => ?_)
                          clear hK K
                          refine norm_ (a' := ?_) ?_ ?_
                          rotate_left
                          · show Act.put _ (some 38) _ = _
                            simp only [Act.put, List.setIfInBounds_toArray, List.set_cons_zero, List.set_cons_succ, i64_w, i32_w]
                            rfl
                          refine pure_ (i := 6) (N := some 41) (v := ?_) (a' := ?_) #[true, true, true, true, true, true, true] rfl rfl (by kernel_rfl) (fun _ _ _ h => h) (Or.inl ⟨by rfl, ?_⟩) ?_ ?_
                          rotate_left
                          · intro w'
                            go_simp
                            with_reducible rfl
                          rotate_left
                          · simp only [Act.put, List.setIfInBounds_toArray, List.set_cons_zero, List.set_cons_succ, i64_w, i32_w]
                            rfl
                          refine done_ (by kernel_rfl) ?_
                          try go_wp2
                          go_ret
                          exact ⟨by first | rfl | (simp [errW_none, errW_some] <;> rfl) | (simp [*, errW_none, errW_some] <;> rfl), by repeat (first | (with_reducible first | exact HB.out | apply below_alloc | apply pw_below_drewN | apply below_drew1 | refine below_set ?_ GE246.out) | exact HB.out)⟩
                      · rw [if_neg c22] at H
                        exact absurd H (by simp)
                    · rw [if_neg c21] at H
                      exact absurd H (by simp)
                  · rw [if_neg c20] at H
                    have c20b0 : decide (x31_2 < (y241.length : Int)) = false := decide_eq_false c20
                    clear c20
                    obtain rfl := Option.some.inj H
                    go_wp2
                    go_ret
                    exact ⟨by first | rfl | (simp [errW_none, errW_some] <;> rfl) | (simp [*, errW_none, errW_some] <;> rfl), by repeat (first | (with_reducible first | exact HB.out | apply below_alloc | apply pw_below_drewN | apply below_drew1) | exact HB.out)⟩
            · rw [if_neg c13] at H
              exact absurd H (by simp)
          · rw [if_neg c12] at H
            exact absurd H (by simp)

/-! ### impl_Share_74: function 74 -/
/-! #### a row of which some elements are taken out, in place -/
theorem setCells_blk {g : Nat} {t : TypeId} : ∀ (vs : List Value) (o : Nat) (w : World) (c : Array Value), w.heap[g]? = some (.cells c t (0, 0)) → o + vs.length ≤ c.size →
    ∃ c', (w.setCells g o vs).heap[g]? = some (.cells c' t (0, 0)) ∧ c'.size = c.size ∧ ∀ j, c'[j]? = if o ≤ j ∧ j < o + vs.length then vs[j - o]? else c[j]? := by
  intro vs
  induction vs with
  | nil => intro o w c h _; exact ⟨c, h, rfl, fun j => by rw [if_neg (by simp)]⟩
  | cons v vs ih =>
    intro o w c h hl
    rw [List.length_cons] at hl
    obtain ⟨c', h1, h2, h3⟩ := ih (o + 1) (w.setCell ⟨g, o, none⟩ v) (c.setIfInBounds o v) (blk_set h o v) (by simp; omega)
    refine ⟨c', h1, by rw [h2]; simp, fun j => ?_⟩
    rw [h3 j, List.length_cons]
    by_cases hj : j = o
    · subst hj
      rw [if_neg (by omega), if_pos (by omega), Nat.sub_self, List.getElem?_cons_zero, Array.getElem?_setIfInBounds, if_pos rfl, if_pos (by omega)]
    · by_cases h4 : o + 1 ≤ j ∧ j < o + 1 + vs.length
      · rw [if_pos h4, if_pos (by omega), show j - o = (j - (o + 1)) + 1 by omega, List.getElem?_cons_succ]
      · rw [if_neg h4, if_neg (by omega), Array.getElem?_setIfInBounds, if_neg (by omega)]
theorem setCells_below {w0 : World} {B g : Nat} (hg : B ≤ g) : ∀ (vs : List Value) (o : Nat) (W : World), Below B w0 W → Below B w0 (W.setCells g o vs) := by
  intro vs
  induction vs with
  | nil => intro o W h; exact h
  | cons v vs ih => intro o W h; exact ih (o + 1) _ (h.setCell (p := ⟨g, o, none⟩) hg v)
theorem setCells_kept {w : World} {S : Nat → Prop} {g : Nat} (hg : S g ∨ w.heap.size ≤ g) : ∀ (vs : List Value) (o : Nat) (W : World), Kept w W S → Kept w (W.setCells g o vs) S := by
  intro vs
  induction vs with
  | nil => intro o W h; exact h
  | cons v vs ih => intro o W h; exact ih (o + 1) _ (Kept.setCell h (p := ⟨g, o, none⟩) hg v)
theorem setCells_far {g k : Nat} (hk : k ≠ g) : ∀ (vs : List Value) (o : Nat) (W : World), (W.setCells g o vs).heap[k]? = W.heap[k]? := by
  intro vs
  induction vs with
  | nil => intro o W; rfl
  | cons v vs ih => intro o W; exact (ih (o + 1) _).trans (Below.heap_setCell W ⟨g, o, none⟩ v k hk)
theorem del_row {α : Type} {d : Kd α} {e base cap g i j : Nat} {ok : Nat → Prop} {w : World} {xs : List α} {inner zs : List Value} {cur : Array Value} (h0 : ok g)
    (hr : Reps (d.M w base (fun k => ok k ∧ some k ≠ some g)) d.sz xs inner) (hbg : base ≤ g) (hg : w.heap[g]? = some (.cells cur e (0, 0))) (hncap : xs.length ≤ cap) (hcm : cap ≤ maxLen) (hcs : cur.size = cap * d.sz) (htk : cur.toList.take (xs.length * d.sz) = inner)
    (hij : i ≤ j) (hj : j ≤ xs.length) (hz : zs.length = (j - i) * d.sz) :
    Kd.R d e (((w.drew).setCells g (i * d.sz) (inner.drop (j * d.sz))).setCells g ((i + (xs.length - j)) * d.sz) zs) base ok (.slice (some ⟨g, 0, none⟩) (i + (xs.length - j)) cap) (xs.take i ++ xs.drop j) := by
  have hil : inner.length = xs.length * d.sz := hr.1
  have hdl : (inner.drop (j * d.sz)).length = (xs.length - j) * d.sz := by rw [List.length_drop, hil, Nat.sub_mul]
  have q1 : i * d.sz + (xs.length - j) * d.sz = (i + (xs.length - j)) * d.sz := (Nat.add_mul _ _ _).symm
  have q2 : (i + (xs.length - j)) * d.sz + (j - i) * d.sz = xs.length * d.sz := by rw [← Nat.add_mul]; congr 1; omega
  have q3 : xs.length * d.sz ≤ cap * d.sz := Nat.mul_le_mul_right _ hncap
  have q4 : j * d.sz + (xs.length - j) * d.sz = xs.length * d.sz := by rw [← Nat.add_mul]; congr 1; omega
  have q5 : i * d.sz ≤ j * d.sz := Nat.mul_le_mul_right _ hij
  generalize hA : i * d.sz = A at *
  generalize hB : j * d.sz = B at *
  generalize hC : (xs.length - j) * d.sz = C at *
  generalize hD : (j - i) * d.sz = D at *
  generalize hE : (i + (xs.length - j)) * d.sz = E at *
  generalize hF : xs.length * d.sz = F at *
  obtain ⟨c1, k1, s1, e1⟩ := setCells_blk (inner.drop B) A w.drew cur hg (by omega)
  obtain ⟨c2, k2, s2, e2⟩ := setCells_blk zs E (w.drew.setCells g A (inner.drop B)) c1 k1 (by omega)
  have hfar : ∀ k, k ≠ g → (((w.drew).setCells g A (inner.drop B)).setCells g E zs).heap[k]? = w.heap[k]? := fun k hk => (setCells_far hk _ _ _).trans (setCells_far hk _ _ _)
  generalize hW : (w.drew.setCells g A (inner.drop B)).setCells g E zs = W2 at *
  have hlen : (xs.take i ++ xs.drop j).length = i + (xs.length - j) := by rw [List.length_append, List.length_take, List.length_drop]; omega
  have hown : (Value.slice (some ⟨g, 0, none⟩) (i + (xs.length - j)) cap).ownBlock = some g := rfl
  refine ⟨fun k hk => by rw [hown] at hk; exact Option.some.inj hk ▸ h0, inner.take A ++ inner.drop B, ?_, ?_⟩
  · rw [hlen]
    refine ⟨by rw [List.length_append, List.length_take, hdl, hE]; omega, .inr ⟨g, cap, c2, rfl, hbg, k2, by omega, hcm, by rw [s2, s1, hcs], ?_⟩⟩
    rw [hE]
    apply List.ext_getElem?
    intro t
    rw [List.getElem?_take]
    by_cases ht : t < E
    · rw [if_pos ht, Array.getElem?_toList, e2 t, if_neg (by omega), e1 t]
      by_cases h2 : t < A
      · rw [if_neg (by omega), List.getElem?_append_left (by rw [List.length_take]; omega), List.getElem?_take, if_pos h2, ← htk, List.getElem?_take, if_pos (by omega), Array.getElem?_toList]
      · rw [if_pos (by omega), List.getElem?_append_right (by rw [List.length_take]; omega), List.length_take, Nat.min_eq_left (by omega)]
    · rw [if_neg ht, List.getElem?_eq_none (by rw [List.length_append, List.length_take, hdl]; omega)]
  · rw [hown, ← hA, ← hB]
    refine Kd.reps_append (Kd.reps_take ?_ (by omega)) (Kd.reps_drop ?_) <;> exact hr.imp_ (fun p c hp => d.M_move (fun k hk => hfar k (fun e_ => hk.2 (by rw [e_]))) hp)
/-- The same over what a call keeps. -/
theorem del_post {α : Type} {d : Kd α} {e cap g i j : Nat} {P0 : Nat → Prop} {w0 w : World} {xs : List α} {inner zs : List Value} {cur : Array Value} (hB : Below w0.heap.size w0 w) (h0 : P0 g)
    (hr : Reps (d.M w w0.heap.size (fun k => P0 k ∧ some k ≠ some g)) d.sz xs inner) (hbg : w0.heap.size ≤ g) (hg : w.heap[g]? = some (.cells cur e (0, 0))) (hncap : xs.length ≤ cap) (hcm : cap ≤ maxLen) (hcs : cur.size = cap * d.sz) (htk : cur.toList.take (xs.length * d.sz) = inner)
    (hij : i ≤ j) (hj : j ≤ xs.length) (hz : zs.length = (j - i) * d.sz) (W : World) (hW : W = ((w.drew).setCells g (i * d.sz) (inner.drop (j * d.sz))).setCells g ((i + (xs.length - j)) * d.sz) zs) :
    Kd.R d e W w0.heap.size (fun k_ => P0 k_ ∨ w.heap.size ≤ k_) (.slice (some ⟨g, 0, none⟩) (i + (xs.length - j)) cap) (xs.take i ++ xs.drop j) ∧ Below w0.heap.size w0 W ∧ Kept w W (fun k_ => P0 k_) := by
  subst hW
  exact ⟨Kd.R_mono (del_row h0 hr hbg hg hncap hcm hcs htk hij hj hz) (fun k hk => .inl hk), setCells_below hbg _ _ _ (setCells_below hbg _ _ _ (below_drew hB)), setCells_kept (.inl h0) _ _ _ (setCells_kept (.inl h0) _ _ _ (Kept.drew (Kept.refl w _)))⟩
/-- 'clear' of a row's end. -/
theorem run_clear_row {P : Program} (w : World) (t e : TypeId) (z : Value) (ht : P.underlying t = some (.slice e)) (hv : ∀ w, (zeroValue e).run P w = .ok z w) (h1 : ∀ u ∈ z.cells, u.oneCell' = true) (b o n c : Nat) (hn : 0 < n)
    (hc : ∀ j, j < n * z.cells.size → (w.cell? ⟨b, o + j, none⟩).isSome = true) (hf : ∀ j, j < n * z.cells.size → w.frozen? ⟨b, o + j, none⟩ = false) :
    ∃ zs : List Value, zs.length = n * z.cells.size ∧ ∀ ty, (Builtin.clear_ #[t] ty #[.slice (some ⟨b, o, none⟩) n c]).run P w = .ok (.tuple #[]) (w.setCells b o zs) := by
  obtain ⟨zs, hzs⟩ : ∃ zs, zs = (Builtin.zeroCells z.cells n).toList := ⟨_, rfl⟩
  have hl : zs.length = n * z.cells.size := by rw [hzs]; simp [Builtin.zeroCells]
  have ho : ∀ u ∈ zs, u.oneCell' = true := by
    intro u hu
    rw [hzs] at hu
    simp only [Builtin.zeroCells, Array.toList_map, Array.toList_range, List.mem_map, List.mem_range] at hu
    obtain ⟨x, hx, rfl⟩ := hu
    have hp : 0 < z.cells.size := by rcases Nat.eq_zero_or_pos z.cells.size with h | h; · rw [h] at hx; omega
                                     · exact h
    have hm : x % z.cells.size < z.cells.size := Nat.mod_lt _ hp
    rw [getElem!_pos z.cells _ hm]
    exact h1 _ (Array.getElem_mem hm)
  have hst := run_storeCells_cells (P := P) b o zs 0 w (by rw [hl]; simpa using hc) (by rw [hl]; simpa using hf) ho
  simp only [Nat.add_zero] at hst
  refine ⟨zs, hl, fun ty => ?_⟩
  obtain ⟨m, rfl⟩ : ∃ m, n = m + 1 := ⟨n - 1, by omega⟩
  simp [Builtin.clear_, run_underlying ht, hv, ← hzs, hst]
def impl_Share_74.f (l0 : List S40) (a1 a2 : Int) : Option (List S40) := if 0 ≤ a1 ∧ a1 < a2 ∧ a2 ≤ (l0.length : Int) then some (l0.take a1.toNat ++ l0.drop a2.toNat) else none
set_option maxHeartbeats 4000000 in
set_option maxRecDepth 100000 in
theorem del_walk {α : Type} {d : Kd α} (hsz : d.sz = 2) (P0_ : Nat → Prop) (u : Value) (l0 : List α) (i j : Nat) (w0 w : World) (hB : Below w0.heap.size w0 w) (ho0 : d.R 40 w w0.heap.size P0_ u l0) (hij : i < j) (hj : j ≤ l0.length) :
    Calls Try.prog 74 #[u, .int .i64 (i : Int), .int .i64 (j : Int)] w fun e w' => ∃ v0_ : Value, e = .returned v0_ ∧ d.R 40 w' w0.heap.size (fun k_ => P0_ k_ ∨ w.heap.size ≤ k_) v0_ (l0.take i ++ l0.drop j) ∧ Below w0.heap.size w0 w' ∧ Kept w w' (fun k_ => P0_ k_) := by
  obtain ⟨h0, inner, ho, hr⟩ := ho0
  rcases ho.2 with ⟨rfl, hn0⟩ | ⟨g, cap, cur, rfl, hbg, hg, hncap, hcm, hcs, htk⟩
  · omega
  have h0g : P0_ g := h0 g rfl
  have hown : (Value.slice (some ⟨g, 0, none⟩) l0.length cap).ownBlock = some g := rfl
  rw [hown] at hr
  have hil : inner.length = l0.length * 2 := by have := hr.1; rw [hsz] at this; exact this
  have h1i : ∀ u ∈ inner, u.oneCell' = true := by
    intro u hu
    obtain ⟨t, ht, rfl⟩ := List.getElem_of_mem hu
    have htl : t / 2 < l0.length := by omega
    have hM := hr.2 (t / 2) _ (List.getElem?_eq_getElem htl)
    refine d.K_one (d.K_of_M hM) _ ?_
    rw [hsz]
    refine List.mem_of_getElem? (i := t % 2) ?_
    rw [List.getElem?_take, if_pos (by omega), List.getElem?_drop, show t / 2 * 2 + t % 2 = t by omega]
    exact List.getElem?_eq_getElem ht
  have hcells : ∀ t v, inner[t]? = some v → w.cell? ⟨g, t, none⟩ = some v := by
    intro t v hv
    have ht : t < inner.length := (List.getElem?_eq_some_iff.1 hv).1
    rw [← htk, List.getElem?_take, hsz, if_pos (by omega), Array.getElem?_toList] at hv
    rw [blk_cell hg, hv]
  obtain ⟨news, hnews⟩ : ∃ news, news = inner.drop (j * 2) := ⟨_, rfl⟩
  have hlen : news.length = (l0.length - j) * 2 := by rw [hnews, List.length_drop, hil]; omega
  have hcs' : cur.size = cap * 2 := by rw [hsz] at hcs; exact hcs
  obtain ⟨A, hA, hsrc⟩ : ∃ A : Addr, (if cap = j then some (⟨g, 0, none⟩ : Addr) else some ⟨g, j * 2, none⟩) = some A ∧ Hid (∀ t u, news[t]? = some u → w.drew.cell? (A.add t) = some u) := by
    by_cases h : cap = j
    · refine ⟨⟨g, 0, none⟩, by simp [h], fun t u hu => ?_⟩
      have h0 : news.length = 0 := by rw [hlen]; omega
      rw [List.length_eq_zero_iff.1 h0] at hu
      simp at hu
    · refine ⟨⟨g, j * 2, none⟩, by simp [h], fun t u hu => ?_⟩
      rw [hnews, List.getElem?_drop] at hu
      rw [Addr.add_lit]
      exact hcells _ _ hu
  have s1 : Hid (news.length = (l0.length - j) * 2) := hlen
  have s2 : Hid (∀ u ∈ news, u.oneCell' = true) := by
    intro u hu
    rw [hnews] at hu
    exact h1i u (List.mem_of_mem_drop hu)
  have s3 : Hid (∀ t, t < news.length → (w.drew.cell? ⟨g, 0 + i * 2 + t, none⟩).isSome = true ∧ w.drew.frozen? ⟨g, 0 + i * 2 + t, none⟩ = false) := by
    intro t ht
    rw [hlen] at ht
    refine ⟨?_, blk_frozen (w := w.drew) hg _⟩
    rw [blk_cell (w := w.drew) hg, Array.getElem?_eq_getElem (by omega)]; rfl
  obtain ⟨W1, hW1⟩ : ∃ W1, W1 = w.drew.setCells g (0 + i * 2) news := ⟨_, rfl⟩
  obtain ⟨c1, k1, z1, -⟩ := setCells_blk news (0 + i * 2) w.drew cur hg (by omega)
  rw [← hW1] at k1
  obtain ⟨i0, hi0, hz0, hz1, hz2⟩ := info_parts info40
  have hzc : ((.agg #[(.int .i64 0), (.int .i64 0)]) : Value).cells.size = 2 := rfl
  obtain ⟨zs, hzl, hcl⟩ : ∃ zs : List Value, zs.length = (l0.length - (i + (l0.length - j))) * 2 ∧ ∀ ty, (Builtin.clear_ #[26] ty #[.slice (some ⟨g, (i + (l0.length - j)) * 2, none⟩) (l0.length - (i + (l0.length - j))) (cap - (i + (l0.length - j)))]).run Try.prog W1 = .ok (.tuple #[]) (W1.setCells g ((i + (l0.length - j)) * 2) zs) := by
    obtain ⟨zs, h1, h2⟩ := run_clear_row (P := Try.prog) W1 26 40 (.agg #[(.int .i64 0), (.int .i64 0)]) Try.underlying26 Try.zeroValue40 (by decide) g ((i + (l0.length - j)) * 2) (l0.length - (i + (l0.length - j))) (cap - (i + (l0.length - j))) (by omega)
      (fun t ht => by rw [blk_cell k1, Array.getElem?_eq_getElem (by rw [hzc] at ht; omega)]; rfl) (fun t _ => blk_frozen k1 _)
    exact ⟨zs, by rw [h1, hzc], h2⟩
  have hW : Hid (W1 = w.drew.setCells g (0 + i * 2) news) := hW1
  have X : Aside0 (W1 = w.drew.setCells g (i * 2) (inner.drop (j * 2))) := ⟨by rw [hW1, hnews, Nat.zero_add]⟩
  have hic : i ≤ cap := by omega
  have hjc : j ≤ cap := by omega
  have HN := Aside0.mk hncap
  have HR := Aside0.mk hr
  have HG := Aside0.mk hg
  have HT := Aside0.mk htk
  have HCS := Aside0.mk hcs
  have HCM := Aside0.mk hcm
  have HBG := Aside0.mk hbg
  have HIL := Aside0.mk hil
  have HZL := Aside0.mk hzl
  have HH := Aside0.mk h0g
  have HBB := Aside0.mk hB
  have HS := Aside0.mk hsz
  have hlt : ¬ ((i : Int) = (j : Int)) := by omega
  have hnl : l0.length ≤ cap := HN.out
  clear hW1 hnews hlen k1 z1 h0 ho hr hg htk hcs hcs' hcm hbg hil h1i hcells hzl hown hzc hB h0g
  go_enter Try.func74, Try.ntmps74
  go_wp2_with fail
  go_region_law (refine step_append_room rfl (.tmp 22) (.tmp 25) 26 rfl 40 i0 2 Try.underlying26 hi0 hz1 g 0 i cap (by simp [Act.eval, Act.put]) A (l0.length - j) (cap - j) news (by simp [Act.eval, Act.put]) s1.out hsrc.out s2.out (by omega) s3.out ?_; rw [← hW.out])
  go_wp2
  go_ret
  refine ⟨_, rfl, ?_⟩
  have e3 : d.sz = 2 := HS.out
  refine del_post (i := i) (j := j) (zs := zs) HBB.out HH.out HR.out HBG.out HG.out hnl HCM.out HCS.out HT.out (by omega) hj (by rw [HZL.out, e3]; congr 1; omega) _ ?_
  rw [X.out, e3]
theorem impl_Share_74.callsR {α : Type} {d : Kd α} (hsz : d.sz = 2) (P0_ : Nat → Prop) (u : Value) (l0 : List α) (a1 a2 : Int) (w0 w : World) (hB : Below w0.heap.size w0 w) (ho0 : d.R 40 w w0.heap.size P0_ u l0) (h : 0 ≤ a1 ∧ a1 < a2 ∧ a2 ≤ (l0.length : Int)) :
    Calls Try.prog 74 #[u, .int .i64 a1, .int .i64 a2] w fun e w' => ∃ v0_ : Value, e = .returned v0_ ∧ d.R 40 w' w0.heap.size (fun k_ => P0_ k_ ∨ w.heap.size ≤ k_) v0_ (l0.take a1.toNat ++ l0.drop a2.toNat) ∧ Below w0.heap.size w0 w' ∧ Kept w w' (fun k_ => P0_ k_) := by
  obtain ⟨i, rfl⟩ := Int.eq_ofNat_of_zero_le h.1
  obtain ⟨j, rfl⟩ := Int.eq_ofNat_of_zero_le (show 0 ≤ a2 by omega)
  exact del_walk hsz P0_ u l0 i j w0 w hB ho0 (by omega) (by omega)
theorem impl_Share_74.calls (P0_ : Nat → Prop) (u9000_ : Value) (l0 : List S40) (a1 : Int) (a2 : Int) (r : List S40) (w0 w : World) (hB : Below w0.heap.size w0 w) (ho0 : Kd.R k40 40 w w0.heap.size P0_ u9000_ l0) (h : impl_Share_74.f l0 a1 a2 = some r) :
    Calls Try.prog 74 #[u9000_, .int .i64 a1, .int .i64 a2] w fun e w' => ∃ v0_ : Value, e = .returned (v0_) ∧ Kd.R k40 40 w' w0.heap.size (fun k_ => (P0_ k_ ∨ w.heap.size ≤ k_)) v0_ r ∧ Below w0.heap.size w0 w' ∧ Kept w w' (fun k_ => P0_ k_) := by
  unfold impl_Share_74.f at h
  by_cases hc : 0 ≤ a1 ∧ a1 < a2 ∧ a2 ≤ (l0.length : Int)
  · rw [if_pos hc] at h
    obtain rfl := Option.some.inj h
    exact impl_Share_74.callsR rfl P0_ u9000_ l0 a1 a2 w0 w hB ho0 hc
  · rw [if_neg hc] at h
    cases h

/-! ### impl_Share_75: function 75 -/
def impl_Share_75.f (l0 : List S40) : Option (List S40) := if l0.length < 1099511627776 then some l0 else none
set_option maxHeartbeats 8000000 in
set_option maxRecDepth 100000 in
theorem impl_Share_75.calls (A0 : Option Addr) (c0 : Nat) (l0 : List S40) (r : List S40) (w : World) (hr0 : Kd.C k40 w A0 l0.length l0) (hc0 : l0.length ≤ c0) (h : impl_Share_75.f l0 = some r) :
    Calls Try.prog 75 #[.slice A0 l0.length c0] w fun e w' => ∃ v0_ : Value, e = .returned (v0_) ∧ Kd.R k40 40 w' w.heap.size (fun _ => True) v0_ r ∧ Below w.heap.size w w' := by
  have HR0 := Aside0.mk hr0
  have HC0 := Aside0.mk hc0
  clear hr0 hc0
  have HB := Aside0.mk (Below.refl w.heap.size w)
  unfold impl_Share_75.f at h
  by_cases c2 : l0.length < 1099511627776
  · rw [if_pos c2] at h
    have LMc2 := Aside0.mk c2
    clear c2
    obtain rfl := Option.some.inj h
    clear h
    rcases A0 with _ | ad
    · have hl : l0 = [] := by
        rcases Nat.eq_zero_or_pos l0.length with h0 | h0
        · exact List.eq_nil_of_length_eq_zero h0
        · obtain ⟨ad, e, _⟩ := HR0.out.2.2 h0
          cases e
      subst hl
      have hn := Lib.run_eql_slice_nil (P := Try.prog) w 26 40 none ([] : List S40).length c0 0 0 Try.underlying26
      simp only [List.length_nil, Option.isNone_none] at hn ⊢
      go_enter Try.func75, Try.ntmps75
      go_wp2
      go_ret
      exact ⟨_, rfl, Kd.R_nil _ _ _ _ _, HB.out⟩
    · have hn := Lib.run_eql_slice_nil (P := Try.prog) w 26 40 (some ad) l0.length c0 0 0 Try.underlying26
      simp only [Option.isNone_some] at hn
      go_enter Try.func75, Try.ntmps75
      go_wp2_with (first | ((with_reducible refine gate_dst (N := 5) rfl ?_); refine Kd.R_lit k40 _ 40 ?hg (N := 5) ?hd (xs := ([] : List S40)) (inner := []) (ok := fun _ => True) (okp := fun _ => True) ?hr ?hp (fun _ hk => hk) trivial (Below.refl _ _) (Nat.le_refl _) (by simp) ?_; (case hd => rfl); (case hg => rfl); (case hr => first | (go_simp; done) | (go_simp; rfl)); (case hp => exact (Reps.none _ _)); intro v110 w3 ho4 hb hg_ hnew_; clear hg_ hnew_; have n0_ := Aside0.mk (Kd.R_lower ho4 (below_size HB.out)); have n1_ := Aside0.mk (below_step HB.out hb); clear HB; have HO111 := n0_; have HB := n1_; clear n0_ n1_; clear hb ho4) | ((with_reducible refine gate_builtin (b := .append) (xs := #[.tmp 5, .tmp 6]) rfl ?_); at_builtin; refine Kd.R_append_rows k40 (w0 := w) w.heap.size rfl (.tmp 5) (.tmp 6) 26 40 (.agg #[(.int .i64 0), (.int .i64 0)]) 16 rfl Try.underlying26 info40 rfl (by decide) (by omega) v110 [] l0 _ _ _ (fun _ => True) (fun _ => False) rfl rfl ?aO ?aR (fun _ _ h => h) (fun _ h => h.elim) ?aF ?aB ?aS ?aL ?_; (case aR => exact (Kd.C_below HR0.out HB.out)); (case aB => exact HB.out); (case aF => exact (fun _ _ => trivial)); (case aO => exact HO111.out); (case aS => exact (below_size HB.out)); (case aL => have := LMc2.out; simp only [List.length_nil]; omega); intro v113 w5 ho hb hg hat; have n0_ := Aside0.mk (hb); have n1_ := Aside0.mk (ho); clear HB; clear HO111; have HB := n0_; have HO114 := n1_; clear n0_ n1_; clear ho hb hg hat))
      go_ret
      exact ⟨_, rfl, HO114.out, HB.out⟩
  · rw [if_neg c2] at h
    exact absurd h (by simp)


end Go.Proofs.Ytaoecaikeikneaa.PFnWrongShareMade
