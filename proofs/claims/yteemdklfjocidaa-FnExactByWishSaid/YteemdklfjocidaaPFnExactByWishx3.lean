-- Laid by this session's own program: the kit's print, turned at a few places. Lean checks it.
import Derived.Test.YteemdklfjocidaaPFnExactByWishx0
import Derived.Test.YteemdklfjocidaaPFnExactByWishx2
namespace Go.Proofs.Yteemdklfjocidaa.PFnExactByWish
open Go.RowKit Go.Proofs.YteemdklfjocidaaW.PrintWords Go.Proofs.YteemdklfjocidaaW.PrintLast Go.Proofs.YteemdklfjocidaaW.PrintMore
attribute [local go_sem] max2_int min2_int max_two min_two max_three min_three max_four min_four   -- for this text's walks alone
set_option linter.unusedVariables false
set_option linter.unusedSimpArgs false

/-! ### impl_ValidPoints: function 30 -/
mutual
def impl_ValidPoints.j0 : Nat → List Int → List Int → Bool → Option (Bool)
  | 0, _, _, _ => none
  | k + 1, x0, x1, x19 => if x19 = true then (some false) else ((impl_allWithin.f k x0 0 100).bind fun t171 => (if t171 = true then ((impl_allWithin.f k x1 0 100).bind fun t172 => (impl_ValidPoints.j1 k x0 x1 (!t172))) else (impl_ValidPoints.j1 k x0 x1 true)))
def impl_ValidPoints.j1 : Nat → List Int → List Int → Bool → Option (Bool)
  | 0, _, _, _ => none
  | k + 1, x0, x1, x27 => if x27 = true then (some false) else ((impl_sumOf.f k x0).bind fun t173 => (if t173 > 0 then ((impl_sumOf.f k x0).bind fun t174 => ((impl_sumOf.f k x1).bind fun t175 => (some (t174 == t175)))) else (some false)))
end
def impl_ValidPoints.f (k : Nat) (l0 : List Int) (l1 : List Int) : Option (Bool) := if (l0.length : Int) < 1 then (impl_ValidPoints.j0 k l0 l1 true) else (if (l0.length : Int) > 10 then (impl_ValidPoints.j0 k l0 l1 true) else (impl_ValidPoints.j0 k l0 l1 ((l0.length : Int) != (l1.length : Int))))
theorem impl_ValidPoints.mono_l : ∀ k, (∀ y0 y1 y2, LeO (impl_ValidPoints.j0 k y0 y1 y2) (impl_ValidPoints.j0 (k + 1) y0 y1 y2)) ∧ (∀ y0 y1 y2, LeO (impl_ValidPoints.j1 k y0 y1 y2) (impl_ValidPoints.j1 (k + 1) y0 y1 y2))
  | 0 => ⟨fun _ _ _ r h => by simp [impl_ValidPoints.j0] at h, fun _ _ _ r h => by simp [impl_ValidPoints.j1] at h⟩
  | k + 1 => by
    obtain ⟨ih0, ih1⟩ := impl_ValidPoints.mono_l k
    refine ⟨?_, ?_⟩
    · intro y0 y1 y2
      unfold impl_ValidPoints.j0
      repeat' first
      | (with_reducible exact ih0 _ _ _)
      | (with_reducible exact ih1 _ _ _)
      | (with_reducible exact impl_allWithin.mono _ _ _ _)
      | (with_reducible exact impl_sumOf.mono _ _)
      | (with_reducible exact LeO.refl _)
      | (with_reducible exact LeO.none _)
      | (with_reducible refine LeO.ite ?_ ?_)
      | (with_reducible refine LeO.bind ?_ (fun _ => ?_))
      | exact ih0 _ _ _
      | exact ih1 _ _ _
      | exact impl_allWithin.mono _ _ _ _
      | exact impl_sumOf.mono _ _
      | exact LeO.none _
      | refine LeO.ite ?_ ?_
      | refine LeO.bind ?_ (fun _ => ?_)
    · intro y0 y1 y2
      unfold impl_ValidPoints.j1
      repeat' first
      | (with_reducible exact ih0 _ _ _)
      | (with_reducible exact ih1 _ _ _)
      | (with_reducible exact impl_allWithin.mono _ _ _ _)
      | (with_reducible exact impl_sumOf.mono _ _)
      | (with_reducible exact LeO.refl _)
      | (with_reducible exact LeO.none _)
      | (with_reducible refine LeO.ite ?_ ?_)
      | (with_reducible refine LeO.bind ?_ (fun _ => ?_))
      | exact ih0 _ _ _
      | exact ih1 _ _ _
      | exact impl_allWithin.mono _ _ _ _
      | exact impl_sumOf.mono _ _
      | exact LeO.none _
      | refine LeO.ite ?_ ?_
      | refine LeO.bind ?_ (fun _ => ?_)
theorem impl_ValidPoints.mono : ∀ a0 a1 k, LeO (impl_ValidPoints.f k a0 a1) (impl_ValidPoints.f (k + 1) a0 a1) := by
  intro a0 a1 k
  obtain ⟨ih0, ih1⟩ := impl_ValidPoints.mono_l k
  unfold impl_ValidPoints.f
  repeat' first
      | (with_reducible exact ih0 _ _ _)
      | (with_reducible exact ih1 _ _ _)
      | (with_reducible exact impl_allWithin.mono _ _ _ _)
      | (with_reducible exact impl_sumOf.mono _ _)
      | (with_reducible exact LeO.refl _)
      | (with_reducible exact LeO.none _)
      | (with_reducible refine LeO.ite ?_ ?_)
      | (with_reducible refine LeO.bind ?_ (fun _ => ?_))
      | exact ih0 _ _ _
      | exact ih1 _ _ _
      | exact impl_allWithin.mono _ _ _ _
      | exact impl_sumOf.mono _ _
      | exact LeO.none _
      | refine LeO.ite ?_ ?_
      | refine LeO.bind ?_ (fun _ => ?_)
set_option maxHeartbeats 8000000 in
set_option maxRecDepth 100000 in
theorem impl_ValidPoints.calls (k : Nat) (A0 : Option Addr) (c0 : Nat) (l0 : List Int) (A1 : Option Addr) (c1 : Nat) (l1 : List Int) (r : Bool) (w : World) (hr0 : Kd.C (Kd.int .i64) w A0 l0.length l0) (hc0 : l0.length ≤ c0) (hr1 : Kd.C (Kd.int .i64) w A1 l1.length l1) (hc1 : l1.length ≤ c1) (h : impl_ValidPoints.f k l0 l1 = some r) :
    Calls Try.prog 30 #[.slice A0 l0.length c0, .slice A1 l1.length c1] w fun e w' => e = .returned (.bool r) ∧ Drawn0 w w' := by
  have HR0 := Aside0.mk hr0
  have HC0 := Aside0.mk hc0
  clear hr0 hc0
  have HR1 := Aside0.mk hr1
  have HC1 := Aside0.mk hc1
  clear hr1 hc1
  have H : (if (l0.length : Int) < 1 then (impl_ValidPoints.j0 k l0 l1 true) else (if (l0.length : Int) > 10 then (impl_ValidPoints.j0 k l0 l1 true) else (impl_ValidPoints.j0 k l0 l1 ((l0.length : Int) != (l1.length : Int))))) = some r := h
  clear h
  have HC3 := Aside0.mk H
  clear H
  go_enter Try.func30, Try.ntmps30
  go_upto_region 1 with (fail)
  go_cut [19] (fun v19 wc => ∃ (kq : Nat) (x19_2 : Bool), v19 = .bool x19_2 ∧ Aside0 (impl_ValidPoints.j0 kq l0 l1 x19_2 = some r) ∧ Aside0 (kq ≤ k) ∧ Drawn0 w wc)
  case first =>
    have H := HC3.out
    clear HC3
    by_cases c4 : (l0.length : Int) < 1
    · rw [if_pos c4] at H
      have c4b0 : decide ((l0.length : Int) < 1) = true := decide_eq_true c4
      have c4b1 : decide (l0.length < 1) = true := decide_eq_true (by omega)
      clear c4
      (first | rw [c4b0] | (simp only [i64_w, i32_w]; rw [c4b0]) | skip)
      have H' := Aside0.mk H
      clear H
      go_wp2
      go_meet
      case rel => exact ⟨_, (true), (by first | rfl | (simp; done) | (simp [*]; done)), H', ⟨by first | omega | exact Nat.le_refl _⟩, by repeat (first | exact Drawn0.refl _ | apply Drawn0.step)⟩
    · rw [if_neg c4] at H
      have c4b0 : decide ((l0.length : Int) < 1) = false := decide_eq_false c4
      have c4b1 : decide (l0.length < 1) = false := decide_eq_false (by omega)
      clear c4
      (first | rw [c4b0] | (simp only [i64_w, i32_w]; rw [c4b0]) | skip)
      by_cases c5 : (l0.length : Int) > 10
      · rw [if_pos c5] at H
        have c5b0 : decide (10 < (l0.length : Int)) = true := decide_eq_true c5
        have c5b1 : decide (10 < l0.length) = true := decide_eq_true (by omega)
        clear c5
        have H' := Aside0.mk H
        clear H
        go_wp2
        go_meet
        case rel => exact ⟨_, (true), (by first | rfl | (simp; done) | (simp [*]; done)), H', ⟨by first | omega | exact Nat.le_refl _⟩, by repeat (first | exact Drawn0.refl _ | apply Drawn0.step)⟩
      · rw [if_neg c5] at H
        have c5b0 : decide (10 < (l0.length : Int)) = false := decide_eq_false c5
        have c5b1 : decide (10 < l0.length) = false := decide_eq_false (by omega)
        clear c5
        have H' := Aside0.mk H
        clear H
        go_wp2
        go_meet
        case rel => exact ⟨_, (((l0.length : Int) != (l1.length : Int))), (by first | rfl | (simp; done) | (simp [*]; done)), H', ⟨by first | omega | exact Nat.le_refl _⟩, by repeat (first | exact Drawn0.refl _ | apply Drawn0.step)⟩
  case rest =>
    clear HC3
    try clear c1
    try clear p2
    try clear c3
    try clear c4
    try clear c4b0
    try clear c4b1
    try clear c5
    try clear c5b0
    try clear c5b1
    obtain ⟨kq, x19_2, rfl, HA, HJ2, ⟨mc2, rfl⟩⟩ := hcut
    cases kq with
    | zero => exact absurd HA.out (by simp [impl_ValidPoints.j0])
    | succ kj2 =>
      have H := HA.out
      clear HA
      simp only [impl_ValidPoints.j0] at H
      by_cases c6 : x19_2 = true
      · subst c6
        have H1 : (some false) = some r := by rw [if_pos rfl] at H; exact H
        clear H
        have H := H1
        clear H1
        obtain rfl := Option.some.inj H
        go_wp2
        go_ret
        exact ⟨by first | rfl | (simp; done) | (simp [*]; done), by repeat (first | exact Drawn0.refl _ | apply Drawn0.step)⟩
      · replace c6 := Bool.eq_false_iff.mpr c6
        subst c6
        have H1 : ((impl_allWithin.f kj2 l0 0 100).bind fun t171 => (if t171 = true then ((impl_allWithin.f kj2 l1 0 100).bind fun t172 => (impl_ValidPoints.j1 kj2 l0 l1 (!t172))) else (impl_ValidPoints.j1 kj2 l0 l1 true))) = some r := by rw [if_neg (show ¬ (false = true) by decide)] at H; exact H
        clear H
        have H := H1
        clear H1
        have HC7 := Aside0.mk H
        clear H
        go_upto_region 3 with (fail)
        go_cut [27] (fun v27 wc => ∃ (kq : Nat) (x27_6 : Bool), v27 = .bool x27_6 ∧ Aside0 (impl_ValidPoints.j1 kq l0 l1 x27_6 = some r) ∧ Aside0 (kq ≤ kj2) ∧ Drawn0 w wc)
        case first =>
          have H := HC7.out
          clear HC7
          replace H := Option.bind_eq_some_iff.mp H
          obtain ⟨t171, A80, H⟩ := H
          replace H : (if t171 = true then ((impl_allWithin.f kj2 l1 0 100).bind fun t172 => (impl_ValidPoints.j1 kj2 l0 l1 (!t172))) else (impl_ValidPoints.j1 kj2 l0 l1 true)) = some r := H
          have A8 := Aside0.mk A80
          clear A80
          by_cases c9 : t171 = true
          · subst c9
            have H1 : ((impl_allWithin.f kj2 l1 0 100).bind fun t172 => (impl_ValidPoints.j1 kj2 l0 l1 (!t172))) = some r := by rw [if_pos rfl] at H; exact H
            clear H
            have H := H1
            clear H1
            replace H := Option.bind_eq_some_iff.mp H
            obtain ⟨t172, A100, H⟩ := H
            replace H : (impl_ValidPoints.j1 kj2 l0 l1 (!t172)) = some r := H
            have A10 := Aside0.mk A100
            clear A100
            have H' := Aside0.mk H
            clear H
            go_wp2_with (first | ((with_reducible refine gate_callee (f := 49) rfl ?_); refine goesL_ (some 21) rfl rfl Try.func49 (by kernel_rfl) rfl #[.slice A0 l0.length c0, .int .i64 0, .int .i64 100] rfl (by (try simp only [List.map_toArray, List.map_cons, List.map_nil]); first | done | rfl | (simp only [List.length_drop, List.length_take]; rfl)) ?_; (with_reducible refine (impl_allWithin.calls kj2 _ _ l0 0 100 true _ ?side1 ?side2 A8.out).mono ?_); (case side1 => repeat (first | exact HR0.out | (with_reducible refine Kd.C_alloc ?_ _) | (with_reducible refine Kd.C_drewN ?_ _) | (with_reducible refine Kd.C_drew ?_))); (case side2 => exact HC0.out); rintro e w' ⟨rfl, ⟨nd, rfl⟩⟩; refine ⟨_, rfl, ?_⟩) | (go_at_call 49; (with_reducible refine (impl_allWithin.calls kj2 _ _ l1 0 100 t172 _ ?side1 ?side2 A10.out).mono ?_); (case side1 => repeat (first | exact HR1.out | (with_reducible refine Kd.C_alloc ?_ _) | (with_reducible refine Kd.C_drewN ?_ _) | (with_reducible refine Kd.C_drew ?_))); (case side2 => exact HC1.out); rintro e w' ⟨rfl, ⟨nd, rfl⟩⟩))
            go_meet
            case rel => exact ⟨_, (!t172), (by first | rfl | (simp; done) | (simp [*]; done)), H', ⟨by have := HJ2.out; first | omega | exact Nat.le_refl _⟩, by repeat (first | exact Drawn0.refl _ | apply Drawn0.step)⟩
          · replace c9 := Bool.eq_false_iff.mpr c9
            subst c9
            have H1 : (impl_ValidPoints.j1 kj2 l0 l1 true) = some r := by rw [if_neg (show ¬ (false = true) by decide)] at H; exact H
            clear H
            have H := H1
            clear H1
            have H' := Aside0.mk H
            clear H
            go_wp2_with (first | ((with_reducible refine gate_callee (f := 49) rfl ?_); refine goesL_ (some 21) rfl rfl Try.func49 (by kernel_rfl) rfl #[.slice A0 l0.length c0, .int .i64 0, .int .i64 100] rfl (by (try simp only [List.map_toArray, List.map_cons, List.map_nil]); first | done | rfl | (simp only [List.length_drop, List.length_take]; rfl)) ?_; (with_reducible refine (impl_allWithin.calls kj2 _ _ l0 0 100 false _ ?side1 ?side2 A8.out).mono ?_); (case side1 => repeat (first | exact HR0.out | (with_reducible refine Kd.C_alloc ?_ _) | (with_reducible refine Kd.C_drewN ?_ _) | (with_reducible refine Kd.C_drew ?_))); (case side2 => exact HC0.out); rintro e w' ⟨rfl, ⟨nd, rfl⟩⟩; refine ⟨_, rfl, ?_⟩))
            go_meet
            case rel => exact ⟨_, (true), (by first | rfl | (simp; done) | (simp [*]; done)), H', ⟨by have := HJ2.out; first | omega | exact Nat.le_refl _⟩, by repeat (first | exact Drawn0.refl _ | apply Drawn0.step)⟩
        case rest =>
          clear HC7
          try clear c1
          try clear c2
          try clear p2
          try clear c3
          try clear c4
          try clear c4b0
          try clear c4b1
          try clear c5
          try clear c5b0
          try clear c5b1
          try clear c6
          try clear c9
          try clear p2
          obtain ⟨kq, x27_6, rfl, HA, HJ6, ⟨mc6, rfl⟩⟩ := hcut
          cases kq with
          | zero => exact absurd HA.out (by simp [impl_ValidPoints.j1])
          | succ kj6 =>
            have H := HA.out
            clear HA
            simp only [impl_ValidPoints.j1] at H
            by_cases c11 : x27_6 = true
            · subst c11
              have H1 : (some false) = some r := by rw [if_pos rfl] at H; exact H
              clear H
              have H := H1
              clear H1
              obtain rfl := Option.some.inj H
              go_wp2
              go_ret
              exact ⟨by first | rfl | (simp; done) | (simp [*]; done), by repeat (first | exact Drawn0.refl _ | apply Drawn0.step)⟩
            · replace c11 := Bool.eq_false_iff.mpr c11
              subst c11
              have H1 : ((impl_sumOf.f kj6 l0).bind fun t173 => (if t173 > 0 then ((impl_sumOf.f kj6 l0).bind fun t174 => ((impl_sumOf.f kj6 l1).bind fun t175 => (some (t174 == t175)))) else (some false))) = some r := by rw [if_neg (show ¬ (false = true) by decide)] at H; exact H
              clear H
              have H := H1
              clear H1
              replace H := Option.bind_eq_some_iff.mp H
              obtain ⟨t173, A120, H⟩ := H
              replace H : (if t173 > 0 then ((impl_sumOf.f kj6 l0).bind fun t174 => ((impl_sumOf.f kj6 l1).bind fun t175 => (some (t174 == t175)))) else (some false)) = some r := H
              have A12 := Aside0.mk A120
              clear A120
              by_cases c13 : t173 > 0
              · rw [if_pos c13] at H
                have c13b0 : decide (0 < t173) = true := decide_eq_true c13
                clear c13
                replace H := Option.bind_eq_some_iff.mp H
                obtain ⟨t174, A140, H⟩ := H
                replace H : ((impl_sumOf.f kj6 l1).bind fun t175 => (some (t174 == t175))) = some r := H
                have A14 := Aside0.mk A140
                clear A140
                replace H := Option.bind_eq_some_iff.mp H
                obtain ⟨t175, A150, H⟩ := H
                replace H : (some (t174 == t175)) = some r := H
                have A15 := Aside0.mk A150
                clear A150
                obtain rfl := Option.some.inj H
                have e2_1_0 := Aside0.mk (Option.some.inj (A14.out.symm.trans A12.out))
                go_wp2_with (first | ((with_reducible refine gate_callee (f := 39) rfl ?_); refine goesL_ (some 29) rfl rfl Try.func39 (by kernel_rfl) rfl #[.slice A0 l0.length c0] rfl (by (try simp only [List.map_toArray, List.map_cons, List.map_nil]); first | done | rfl | (simp only [List.length_drop, List.length_take]; rfl)) ?_; (with_reducible refine (impl_sumOf.calls kj6 _ _ l0 t173 _ ?side1 ?side2 A12.out).mono ?_); (case side1 => repeat (first | exact HR0.out | (with_reducible refine Kd.C_alloc ?_ _) | (with_reducible refine Kd.C_drewN ?_ _) | (with_reducible refine Kd.C_drew ?_))); (case side2 => exact HC0.out); rintro e w' ⟨rfl, ⟨nd, rfl⟩⟩; refine ⟨_, rfl, ?_⟩) | (go_at_call 39; (with_reducible refine (impl_sumOf.calls kj6 _ _ l0 t174 _ ?side1 ?side2 A14.out).mono ?_); (case side1 => repeat (first | exact HR0.out | (with_reducible refine Kd.C_alloc ?_ _) | (with_reducible refine Kd.C_drewN ?_ _) | (with_reducible refine Kd.C_drew ?_))); (case side2 => exact HC0.out); rintro e w' ⟨rfl, ⟨nd, rfl⟩⟩) | (go_at_call 39; (with_reducible refine (impl_sumOf.calls kj6 _ _ l1 t175 _ ?side1 ?side2 A15.out).mono ?_); (case side1 => repeat (first | exact HR1.out | (with_reducible refine Kd.C_alloc ?_ _) | (with_reducible refine Kd.C_drewN ?_ _) | (with_reducible refine Kd.C_drew ?_))); (case side2 => exact HC1.out); rintro e w' ⟨rfl, ⟨nd, rfl⟩⟩))
                go_ret
                replace e2_1_0 := e2_1_0.out
                exact ⟨by first | rfl | (simp; done) | (simp [*]; done), by repeat (first | exact Drawn0.refl _ | apply Drawn0.step)⟩
              · rw [if_neg c13] at H
                have c13b0 : decide (0 < t173) = false := decide_eq_false c13
                clear c13
                obtain rfl := Option.some.inj H
                go_wp2_with (first | ((with_reducible refine gate_callee (f := 39) rfl ?_); refine goesL_ (some 29) rfl rfl Try.func39 (by kernel_rfl) rfl #[.slice A0 l0.length c0] rfl (by (try simp only [List.map_toArray, List.map_cons, List.map_nil]); first | done | rfl | (simp only [List.length_drop, List.length_take]; rfl)) ?_; (with_reducible refine (impl_sumOf.calls kj6 _ _ l0 t173 _ ?side1 ?side2 A12.out).mono ?_); (case side1 => repeat (first | exact HR0.out | (with_reducible refine Kd.C_alloc ?_ _) | (with_reducible refine Kd.C_drewN ?_ _) | (with_reducible refine Kd.C_drew ?_))); (case side2 => exact HC0.out); rintro e w' ⟨rfl, ⟨nd, rfl⟩⟩; refine ⟨_, rfl, ?_⟩))
                go_ret
                exact ⟨by first | rfl | (simp; done) | (simp [*]; done), by repeat (first | exact Drawn0.refl _ | apply Drawn0.step)⟩

-- NOT PRINTED: function 50 (slices_overlaps_int)

/-! ### slices_Reverse_int_int: function 57 -/
def slices_Reverse_int_int.l0 : Nat → List Int → Int → Int → Option (List Int)
  | 0, _, _, _ => none
  | k + 1, x0, x2, x3 => if x2 < x3 then (if 0 ≤ x3 then (if x3 < (x0.length : Int) then (if 0 ≤ x2 then (if x2 < (x0.length : Int) then (slices_Reverse_int_int.l0 k ((x0.set (x2 : Int).toNat (rd x0 x3)).set (x3 : Int).toNat (rd x0 x2)) (wrap64 (x2 + 1)) (wrap64 (x3 - 1))) else (none)) else (none)) else (none)) else (none)) else (some x0)
def slices_Reverse_int_int.f (k : Nat) (l0 : List Int) : Option (List Int) := slices_Reverse_int_int.l0 k l0 0 (wrap64 ((l0.length : Int) - 1))
theorem slices_Reverse_int_int.mono_l : ∀ k, (∀ y0 y1 y2, LeO (slices_Reverse_int_int.l0 k y0 y1 y2) (slices_Reverse_int_int.l0 (k + 1) y0 y1 y2))
  | 0 => fun _ _ _ r h => by simp [slices_Reverse_int_int.l0] at h
  | k + 1 => by
    have ih0 := slices_Reverse_int_int.mono_l k
    · intro y0 y1 y2
      unfold slices_Reverse_int_int.l0
      repeat' first
      | (with_reducible exact ih0 _ _ _)
      | (with_reducible exact LeO.refl _)
      | (with_reducible exact LeO.none _)
      | (with_reducible refine LeO.ite ?_ ?_)
      | (with_reducible refine LeO.bind ?_ (fun _ => ?_))
      | exact ih0 _ _ _
      | exact LeO.none _
      | refine LeO.ite ?_ ?_
      | refine LeO.bind ?_ (fun _ => ?_)
theorem slices_Reverse_int_int.mono : ∀ a0 k, LeO (slices_Reverse_int_int.f k a0) (slices_Reverse_int_int.f (k + 1) a0) := by
  intro a0 k
  have ih0 := slices_Reverse_int_int.mono_l k
  unfold slices_Reverse_int_int.f
  repeat' first
      | (with_reducible exact ih0 _ _ _)
      | (with_reducible exact LeO.refl _)
      | (with_reducible exact LeO.none _)
      | (with_reducible refine LeO.ite ?_ ?_)
      | (with_reducible refine LeO.bind ?_ (fun _ => ?_))
      | exact ih0 _ _ _
      | exact LeO.none _
      | refine LeO.ite ?_ ?_
      | refine LeO.bind ?_ (fun _ => ?_)
def slices_Reverse_int_int.T3 : Bool × List (List Nat × List Nat) := (true, [([], []), ([], []), ([], []), ([], []), ([], []), ([], []), ([4, 5], [4, 5]), ([6], [6]), ([], []), ([], []), ([8, 9], [8, 9]), ([10], [10]), ([0, 1, 0, 1, 4, 5, 6, 7, 11], [0, 1]), ([12, 7, 0, 1, 4, 5, 6, 7, 11], [7, 12]), ([2, 3, 0, 1, 2, 3, 4, 5, 6, 7, 8, 9, 10, 11, 12, 13], [2, 3]), ([14, 11, 13, 0, 1, 2, 3, 4, 5, 6, 7, 8, 9, 10, 11, 12, 13], [11, 14])])
def slices_Reverse_int_int.B3 : List Nat := [0, 0, 0, 0, 0, 0, 48, 112, 0, 0, 768, 1792, 4083, 8179, 16383, 32767]
theorem slices_Reverse_int_int.tab3 : rtab .any (opsOf Try.f57 3) = slices_Reverse_int_int.T3 := by kernel_rfl
theorem slices_Reverse_int_int.bits3 : waitsOk slices_Reverse_int_int.T3.2 slices_Reverse_int_int.B3 = true := by kernel_rfl
set_option maxHeartbeats 8000000 in
set_option maxRecDepth 100000 in
theorem slices_Reverse_int_int.calls (k : Nat) (P0_ : Nat → Prop) (u9000_ : Value) (l0 : List Int) (r : List Int) (w0 w : World) (hB : Below w0.heap.size w0 w) (ho0 : Kd.R (Kd.int .i64) 3 w w0.heap.size P0_ u9000_ l0) (h : slices_Reverse_int_int.f k l0 = some r) :
    Calls Try.prog 57 #[u9000_] w fun e w' => e = .returned (.tuple #[]) ∧ Kd.R (Kd.int .i64) 3 w' w0.heap.size (fun k_ => (P0_ k_ ∨ w.heap.size ≤ k_)) u9000_ r ∧ Below w0.heap.size w0 w' ∧ Kept w w' (fun k_ => P0_ k_) := by
  have HO0 := Aside0.mk (show Kd.R (Kd.int .i64) 3 w w0.heap.size (fun k_ => (P0_ k_ ∨ w.heap.size ≤ k_)) u9000_ l0 from Kd.R_mono ho0 (fun k_ hk => (.inl hk)))
  have HK := Aside0.mk (Kept.refl w (fun k_ => P0_ k_))
  have HW0 := Aside0.mk hB.size
  have HB := Aside0.mk hB
  clear hB
  have H : (slices_Reverse_int_int.l0 k l0 0 (wrap64 ((l0.length : Int) - 1))) = some r := h
  clear h
  have H' := Aside0.mk H
  clear H
  obtain ⟨Ao2, co2, eo2⟩ := Kd.R_slice HO0.out
  subst eo2
  go_enter Try.func57, Try.ntmps57
  go_wp2
  go_loopg [2, 3] k (fun kq v2 v3 w' => ∃ (x0_1 : List Int) (x2_1 : Int) (x3_1 : Int), v2 = .int .i64 x2_1 ∧ v3 = .int .i64 x3_1 ∧ Aside0 (slices_Reverse_int_int.l0 kq x0_1 x2_1 x3_1 = some r) ∧ Aside0 (kq ≤ k) ∧ Aside0 (Kd.R (Kd.int .i64) 3 w' w0.heap.size (fun k_ => (P0_ k_ ∨ w.heap.size ≤ k_)) (.slice Ao2 l0.length co2) x0_1) ∧ Aside0 (Kept w w' (fun k_ => P0_ k_)) ∧ Aside0 (Below w0.heap.size w0 w'))
  case atStart => exact ⟨(l0), (0), (wrap64 ((l0.length : Int) - 1)), (by first | rfl | (simp; done) | (simp [*]; done)), (by first | rfl | (simp; done) | (simp [*]; done)), H', ⟨Nat.le_refl _⟩, ⟨by (with_reducible repeat (first | apply Kd.R_alloc | apply Kd.R_drewN | apply Kd.R_drew)); exact HO0.out⟩, ⟨by repeat (first | (with_reducible first | exact HK.out | apply Kept.alloc | apply Kept.drewN | apply Kept.drew) | exact HK.out)⟩, ⟨by repeat (first | (with_reducible first | exact HB.out | apply below_alloc | apply pw_below_drewN | apply below_drew1) | exact HB.out)⟩⟩
  case round =>
    clear H'
    try clear p2
    obtain ⟨x0_1, x2_1, x3_1, rfl, rfl, HA, HK1, HO_0, HK, HB⟩ := hrel
    have hl0_1 := (Kd.R_reads' HO_0.out).1
    rw [hl0_1] at HO_0
    (try simp only [hl0_1])
    cases gk with
    | zero => exact absurd HA.out (by simp [slices_Reverse_int_int.l0])
    | succ k1 =>
      have H := HA.out
      clear HA
      simp only [slices_Reverse_int_int.l0] at H
      by_cases c3 : x2_1 < x3_1
      · rw [if_pos c3] at H
        have c3b0 : decide (x2_1 < x3_1) = true := decide_eq_true c3
        (try (have c3b0r0 := c3b0; rw [hl0_1] at c3b0r0))
        clear c3
        by_cases c4 : 0 ≤ x3_1
        · rw [if_pos c4] at H
          have c4b0 : decide (0 ≤ x3_1) = true := decide_eq_true c4
          (try (have c4b0r0 := c4b0; rw [hl0_1] at c4b0r0))
          clear c4
          by_cases c5 : x3_1 < (x0_1.length : Int)
          · rw [if_pos c5] at H
            have c5b0 : decide (x3_1 < (x0_1.length : Int)) = true := decide_eq_true c5
            (try (have c5b0r0 := c5b0; rw [hl0_1] at c5b0r0))
            clear c5
            by_cases c6 : 0 ≤ x2_1
            · rw [if_pos c6] at H
              have c6b0 : decide (0 ≤ x2_1) = true := decide_eq_true c6
              (try (have c6b0r0 := c6b0; rw [hl0_1] at c6b0r0))
              clear c6
              by_cases c7 : x2_1 < (x0_1.length : Int)
              · rw [if_pos c7] at H
                have c7b0 : decide (x2_1 < (x0_1.length : Int)) = true := decide_eq_true c7
                (try (have c7b0r0 := c7b0; rw [hl0_1] at c7b0r0))
                clear c7
                obtain ⟨y178, hy178⟩ : ∃ y_ : List Int, y_ = (x0_1.set (x2_1 : Int).toNat (rd x0_1 x3_1)) := ⟨_, rfl⟩
                replace H : (slices_Reverse_int_int.l0 k1 (y178.set (x3_1 : Int).toNat (rd x0_1 x2_1)) (wrap64 (x2_1 + 1)) (wrap64 (x3_1 - 1))) = some r := by first | (rw [hy178]; with_reducible exact H) | (have H2_ := (Option.bind_some _ _).symm.trans H; rw [hy178]; with_reducible exact H2_) | (have H2_ := (Option.bind_some _ _).symm.trans H; with_reducible exact H2_) | with_reducible exact H | (rw [hy178]; exact H) | exact H
                have Ny178 := Aside0.mk hy178
                clear hy178
                obtain ⟨y179, hy179⟩ : ∃ y_ : List Int, y_ = (y178.set (x3_1 : Int).toNat (rd x0_1 x2_1)) := ⟨_, rfl⟩
                replace H : (slices_Reverse_int_int.l0 k1 y179 (wrap64 (x2_1 + 1)) (wrap64 (x3_1 - 1))) = some r := by first | (rw [hy179]; with_reducible exact H) | (have H2_ := (Option.bind_some _ _).symm.trans H; rw [hy179]; with_reducible exact H2_) | (have H2_ := (Option.bind_some _ _).symm.trans H; with_reducible exact H2_) | with_reducible exact H | (rw [hy179]; exact H) | exact H
                have Ny179 := Aside0.mk hy179
                clear hy179
                have H' := Aside0.mk H
                clear H
                try go_wp2
                have n0_ := Aside0.mk (Kd.R_drew HO_0.out)
                have n1_ := Aside0.mk (Kept.drew HK.out)
                have n2_ := Aside0.mk (below_drew1 HB.out)
                clear HO_0
                clear HK
                clear HB
                have HO_0 := n0_
                have HK := n1_
                have HB := n2_
                clear n0_ n1_ n2_
                have p176 : 0 ≤ (x3_1 : Int) := of_decide_eq_true (by first | (with_reducible assumption) | assumption)
                have q176 : x3_1 < (x0_1.length : Int) := of_decide_eq_true (by first | (with_reducible assumption) | assumption)
                obtain ⟨ad176, e176, hx176_0⟩ := Kd.at_int (Kd.R_reads' HO_0.out).2.2 x3_1 p176 q176
                cases e176
                replace p176 := eq_true p176
                replace q176 := eq_true q176
                have p177 : 0 ≤ (x2_1 : Int) := of_decide_eq_true (by first | (with_reducible assumption) | assumption)
                have q177 : x2_1 < (x0_1.length : Int) := of_decide_eq_true (by first | (with_reducible assumption) | assumption)
                obtain ⟨ad177, e177, hx177_0⟩ := Kd.at_int (Kd.R_reads' HO_0.out).2.2 x2_1 p177 q177
                obtain rfl : ad176 = ad177 := (by injection e177)
                replace p177 := eq_true p177
                replace q177 := eq_true q177
                have p8 : 0 ≤ (x2_1 : Int) := of_decide_eq_true (by first | (with_reducible assumption) | assumption)
                have q8 : (x2_1 : Int) < ((x0_1.length : Int) : Int) := of_decide_eq_true (by first | (with_reducible assumption) | assumption)
                obtain ⟨go8, co8, eo8, gb8, gl8, cl8, HG8⟩ := Kd.R_form HO_0.out (by omega)
                (first | cases eo8 | (injection eo8 with ea_ en_ ec_; (first | subst ea_ | (injection ea_ with ea_; subst ea_)); subst ec_; clear en_))
                have GB8 := Aside0.mk gb8
                have GG8 := Aside0.mk HG8
                clear gb8 gl8 HG8
                have HMgo8 := Aside0.mk (show (P0_ go8 ∨ w.heap.size ≤ go8) from (HO_0.out.1 _ rfl))
                (first | simp only [add_plain] at hx176_0 | skip)
                (first | simp only [add_plain] at hx177_0 | skip)
                obtain ⟨hx8_0, hf8_0⟩ := Kd.R_celln 0 HO_0.out (x2_1 : Int) p8 q8
                replace p8 := eq_true p8
                replace q8 := eq_true q8
                have HP11 := Kd.R_putn HO_0.out (x2_1 : Int) (rd x0_1 x3_1)
                rw [← Ny178.out] at HP11
                have HQ11 := Aside0.mk HP11
                clear HP11
                have p9 : 0 ≤ (x3_1 : Int) := of_decide_eq_true (by first | (with_reducible assumption) | assumption)
                have q9 : (x3_1 : Int) < ((x0_1.length : Int) : Int) := of_decide_eq_true (by first | (with_reducible assumption) | assumption)
                obtain ⟨hx9_0, hf9_0⟩ := Kd.R_celln 0 HQ11.out (x3_1 : Int) p9 q9
                replace p9 := eq_true p9
                replace q9 := eq_true q9
                have HP12 := Kd.R_putn HQ11.out (x3_1 : Int) (rd x0_1 x2_1)
                rw [← Ny179.out] at HP12
                have HQ12 := Aside0.mk HP12
                clear HP12
                refine start_ (n := 16) (S := fun w' => w'.cell? ⟨go8, (x3_1).toNat, none⟩ = some (.int .i64 (rd x0_1 x3_1)) ∧ w'.cell? ⟨go8, (x2_1).toNat, none⟩ = some (.int .i64 (rd x0_1 x2_1))) (ds := [13, 15]) #[false, false, false, false, false, false, false, false, false, false, false, false, false, false, false, false] (by kernel_rfl) rfl rfl ⟨hx176_0, hx177_0⟩ (fun hHeld => ?_); refine with_tabW slices_Reverse_int_int.tab3 slices_Reverse_int_int.bits3 (fun HT_ HW_ => ?_)
                generalize wr.drew = w10 at HO_0 HK HB GG8 HQ11 HQ12 hf8_0 hf9_0 hx176_0 hx177_0 hx8_0 hx9_0 hHeld ⊢
                refine pure_ (i := 0) (N := some 14) (v := ?_) (a' := ?_) #[true, false, false, false, false, false, false, false, false, false, false, false, false, false, false, false] rfl rfl (any_of HT_.out (by kernel_rfl)) (fun _ _ _ h => h) (Or.inl ⟨by rfl, ?_⟩) ?_ ?_
                rotate_left
                · intro w'
                  go_simp
                  with_reducible rfl
                rotate_left
                · simp only [Act.put, List.setIfInBounds_toArray, List.set_cons_zero, List.set_cons_succ, i64_w, i32_w]
                  rfl
                refine pure_ (i := 1) (N := some 15) (v := ?_) (a' := ?_) #[true, true, false, false, false, false, false, false, false, false, false, false, false, false, false, false] rfl rfl (any_of HT_.out (by kernel_rfl)) (fun _ _ _ h => h) (Or.inl ⟨by rfl, ?_⟩) ?_ ?_
                rotate_left
                · intro w'
                  go_simp
                  with_reducible rfl
                rotate_left
                · simp only [Act.put, List.setIfInBounds_toArray, List.set_cons_zero, List.set_cons_succ, i64_w, i32_w]
                  rfl
                refine pure_ (i := 2) (N := some 16) (v := ?_) (a' := ?_) #[true, true, true, false, false, false, false, false, false, false, false, false, false, false, false, false] rfl rfl (any_of HT_.out (by kernel_rfl)) (fun _ _ _ h => h) (Or.inl ⟨by rfl, ?_⟩) ?_ ?_
                rotate_left
                · intro w'
                  go_simp
                  with_reducible rfl
                rotate_left
                · simp only [Act.put, List.setIfInBounds_toArray, List.set_cons_zero, List.set_cons_succ, i64_w, i32_w]
                  rfl
                refine pure_ (i := 3) (N := some 17) (v := ?_) (a' := ?_) #[true, true, true, true, false, false, false, false, false, false, false, false, false, false, false, false] rfl rfl (any_of HT_.out (by kernel_rfl)) (fun _ _ _ h => h) (Or.inl ⟨by rfl, ?_⟩) ?_ ?_
                rotate_left
                · intro w'
                  go_simp
                  with_reducible rfl
                rotate_left
                · simp only [Act.put, List.setIfInBounds_toArray, List.set_cons_zero, List.set_cons_succ, i64_w, i32_w]
                  rfl
                refine pure_ (i := 4) (N := some 18) (v := ?_) (a' := ?_) #[true, true, true, true, true, false, false, false, false, false, false, false, false, false, false, false] rfl rfl (any_of HT_.out (by kernel_rfl)) (fun _ _ _ h => h) (Or.inl ⟨by rfl, ?_⟩) ?_ ?_
                rotate_left
                · intro w'
                  go_simp
                  with_reducible rfl
                rotate_left
                · simp only [Act.put, List.setIfInBounds_toArray, List.set_cons_zero, List.set_cons_succ, i64_w, i32_w]
                  rfl
                refine pure_ (i := 5) (N := some 19) (v := ?_) (a' := ?_) #[true, true, true, true, true, true, false, false, false, false, false, false, false, false, false, false] rfl rfl (any_of HT_.out (by kernel_rfl)) (fun _ _ _ h => h) (Or.inl ⟨by rfl, ?_⟩) ?_ ?_
                rotate_left
                · intro w'
                  go_simp
                  with_reducible rfl
                rotate_left
                · simp only [Act.put, List.setIfInBounds_toArray, List.set_cons_zero, List.set_cons_succ, i64_w, i32_w]
                  rfl
                refine pure_ (i := 6) (N := some 20) (v := ?_) (a' := ?_) #[true, true, true, true, true, true, true, false, false, false, false, false, false, false, false, false] rfl rfl (any_of HT_.out (by kernel_rfl)) (fun _ _ _ h => h) (Or.inl ⟨by rfl, ?_⟩) ?_ ?_
                rotate_left
                · intro w'
                  go_simp
                  with_reducible rfl
                rotate_left
                · simp only [Act.put, List.setIfInBounds_toArray, List.set_cons_zero, List.set_cons_succ, i64_w, i32_w]
                  rfl
                refine pure_ (i := 8) (N := some 22) (v := ?_) (a' := ?_) #[true, true, true, true, true, true, true, false, true, false, false, false, false, false, false, false] rfl rfl (any_of HT_.out (by kernel_rfl)) (fun _ _ _ h => h) (Or.inl ⟨by rfl, ?_⟩) ?_ ?_
                rotate_left
                · intro w'
                  go_simp
                  with_reducible rfl
                rotate_left
                · simp only [Act.put, List.setIfInBounds_toArray, List.set_cons_zero, List.set_cons_succ, i64_w, i32_w]
                  rfl
                refine pure_ (i := 9) (N := some 23) (v := ?_) (a' := ?_) #[true, true, true, true, true, true, true, false, true, true, false, false, false, false, false, false] rfl rfl (any_of HT_.out (by kernel_rfl)) (fun _ _ _ h => h) (Or.inl ⟨by rfl, ?_⟩) ?_ ?_
                rotate_left
                · intro w'
                  go_simp
                  with_reducible rfl
                rotate_left
                · simp only [Act.put, List.setIfInBounds_toArray, List.set_cons_zero, List.set_cons_succ, i64_w, i32_w]
                  rfl
                refine pure_ (i := 10) (N := some 24) (v := ?_) (a' := ?_) #[true, true, true, true, true, true, true, false, true, true, true, false, false, false, false, false] rfl rfl (any_of HT_.out (by kernel_rfl)) (fun _ _ _ h => h) (Or.inl ⟨by rfl, ?_⟩) ?_ ?_
                rotate_left
                · intro w'
                  go_simp
                  with_reducible rfl
                rotate_left
                · simp only [Act.put, List.setIfInBounds_toArray, List.set_cons_zero, List.set_cons_succ, i64_w, i32_w]
                  rfl
                refine take_ (i := 7) (N := some 21) (v := ?_) (a' := ?_) #[true, true, true, true, true, true, true, true, true, true, true, false, false, false, false, false] rfl rfl (take_ofW HT_.out HW_.out (by kernel_rfl)) (fun _ _ _ h => h) (Or.inl ⟨by rfl, ?_⟩) hHeld ?_ ?_
                rotate_left
                · rintro w' ⟨s0, s1⟩
                  go_simp
                  with_reducible rfl
                rotate_left
                · simp only [Act.put, List.setIfInBounds_toArray, List.set_cons_zero, List.set_cons_succ, i64_w, i32_w]
                  rfl
                refine take_ (i := 11) (N := some 25) (v := ?_) (a' := ?_) #[true, true, true, true, true, true, true, true, true, true, true, true, false, false, false, false] rfl rfl (take_ofW HT_.out HW_.out (by kernel_rfl)) (fun _ _ _ h => h) (Or.inl ⟨by rfl, ?_⟩) hHeld ?_ ?_
                rotate_left
                · rintro w' ⟨s0, s1⟩
                  go_simp
                  with_reducible rfl
                rotate_left
                · simp only [Act.put, List.setIfInBounds_toArray, List.set_cons_zero, List.set_cons_succ, i64_w, i32_w]
                  rfl
                refine pure_ (i := 12) (N := some 26) (v := ?_) (a' := ?_) #[true, true, true, true, true, true, true, true, true, true, true, true, true, false, false, false] rfl rfl (any_of HT_.out (by kernel_rfl)) (fun _ _ _ h => h) (Or.inl ⟨by rfl, ?_⟩) ?_ ?_
                rotate_left
                · intro w'
                  go_simp
                  with_reducible rfl
                rotate_left
                · simp only [Act.put, List.setIfInBounds_toArray, List.set_cons_zero, List.set_cons_succ, i64_w, i32_w]
                  rfl
                refine last_ (i := 13) (N := none) #[true, true, true, true, true, true, true, true, true, true, true, true, true, true, false, false] rfl rfl (one_of HT_.out (by kernel_rfl)) (by decide) (fun K hK => ?_)
                refine skip_ (w1 := ?_) (by rfl) rfl ?_ ?_
                rotate_left
                · go_simp
                  rfl
                refine hK.out _ _ ?_
                clear hK K
                refine pure_ (i := 14) (N := some 27) (v := ?_) (a' := ?_) #[true, true, true, true, true, true, true, true, true, true, true, true, true, true, true, false] rfl rfl (any_of HT_.out (by kernel_rfl)) (fun _ _ _ h => h) (Or.inl ⟨by rfl, ?_⟩) ?_ ?_
                rotate_left
                · intro w'
                  go_simp
                  with_reducible rfl
                rotate_left
                · simp only [Act.put, List.setIfInBounds_toArray, List.set_cons_zero, List.set_cons_succ, i64_w, i32_w]
                  rfl
                refine last_ (i := 15) (N := none) #[true, true, true, true, true, true, true, true, true, true, true, true, true, true, true, true] rfl rfl (one_of HT_.out (by kernel_rfl)) (by decide) (fun K hK => ?_)
                refine skip_ (w1 := ?_) (by rfl) rfl ?_ ?_
                rotate_left
                · go_simp
                  rfl
                refine hK.out _ _ ?_
                clear hK K
                refine done_ (done_of HT_.out (by kernel_rfl)) ?_
                try go_wp2
                (try simp only [← hl0_1])
                go_roundg k1
                case measure => have := HK1.out; omega
                case rel => exact ⟨(y179), (wrap64 (x2_1 + 1)), (wrap64 (x3_1 - 1)), (by first | rfl | (simp; done) | (simp [*]; done)), (by first | rfl | (simp; done) | (simp [*]; done)), H', ⟨by have := HK1.out; omega⟩, ⟨by (try simp only [hl0_1]); (with_reducible repeat (first | apply Kd.R_alloc | apply Kd.R_drewN | apply Kd.R_drew)); exact HQ12.out⟩, ⟨by repeat (first | (with_reducible first | exact HK.out | apply Kept.alloc | apply Kept.drewN | apply Kept.drew | refine Kept.setCell ?_ HMgo8.out _ | refine Kept.setCell ?_ HMgo8.out _) | exact HK.out)⟩, ⟨by repeat (first | (with_reducible first | exact HB.out | apply below_alloc | apply pw_below_drewN | apply below_drew1 | refine below_set ?_ GB8.out | refine below_set ?_ GB8.out) | exact HB.out)⟩⟩
              · rw [if_neg c7] at H
                exact absurd H (by simp)
            · rw [if_neg c6] at H
              exact absurd H (by simp)
          · rw [if_neg c5] at H
            exact absurd H (by simp)
        · rw [if_neg c4] at H
          exact absurd H (by simp)
      · rw [if_neg c3] at H
        have c3b0 : decide (x2_1 < x3_1) = false := decide_eq_false c3
        (try (have c3b0r0 := c3b0; rw [hl0_1] at c3b0r0))
        clear c3
        obtain rfl := Option.some.inj H
        go_wp2
        first | go_end0 | ((try simp only [Exit.inBlock, Exit.then]); refine bodyPost_ret (results_none rfl _ _ _) rfl ?_)
        exact ⟨by first | rfl | (simp [errW_none, errW_some] <;> rfl) | (simp [*, errW_none, errW_some] <;> rfl), (by first | exact (by (with_reducible repeat (first | apply Kd.R_alloc | apply Kd.R_drewN | apply Kd.R_drew)); exact HO_0.out) | (simp only [hl0_1]; exact (by (with_reducible repeat (first | apply Kd.R_alloc | apply Kd.R_drewN | apply Kd.R_drew)); exact HO_0.out))), by repeat (first | (with_reducible first | exact HB.out | apply below_alloc | apply pw_below_drewN | apply below_drew1) | exact HB.out), by repeat (first | (with_reducible first | exact HK.out | apply Kept.alloc | apply Kept.drewN | apply Kept.drew) | exact HK.out)⟩

-- NOT PRINTED: function 56 (slices_rotateLeft_int)

-- NOT PRINTED: function 51 (slices_rotateRight_int)

/-! ### slices_Insert_int_int: function 31 -/
theorem ins_list {cs : List Value} {x : Value} {i n : Nat} (hn : cs.length = n) (hi : i ≤ n) {c : Array Value} (hc : n + 1 ≤ c.size) (h : ∀ j, j < n + 1 → c[j]? = if j < i then cs[j]? else if j = i then some x else cs[j - 1]?) : c.toList.take (n + 1) = cs.take i ++ [x] ++ cs.drop i := by
  apply List.ext_getElem?
  intro j
  rw [List.getElem?_take, Array.getElem?_toList, List.append_assoc]
  by_cases hj : j < n + 1
  · rw [if_pos hj, h j hj]
    by_cases h1 : j < i
    · rw [if_pos h1, List.getElem?_append_left (by simp; omega), List.getElem?_take, if_pos h1]
    · rw [if_neg h1, List.getElem?_append_right (by simp; omega), List.length_take, Nat.min_eq_left (by omega)]
      by_cases h2 : j = i
      · subst h2; simp
      · rw [if_neg h2, List.getElem?_append_right (by simp; omega)]
        simp only [List.length_singleton, List.getElem?_drop]
        congr 1; omega
  · rw [if_neg hj, List.getElem?_eq_none (by simp; omega)]
theorem setCells_blk {g : Nat} {t : TypeId} : ∀ (vs : List Value) (o : Nat) (w : World) (c : Array Value), w.heap[g]? = some (.cells c t (0, 0)) → o + vs.length ≤ c.size →
    ∃ c', (w.setCells g o vs).heap[g]? = some (.cells c' t (0, 0)) ∧ c'.size = c.size ∧ ∀ j, c'[j]? = if o ≤ j ∧ j < o + vs.length then vs[j - o]? else c[j]? := by
  intro vs
  induction vs with
  | nil => intro o w c h _; exact ⟨c, h, rfl, fun j => by rw [if_neg (by simp)]⟩
  | cons v vs ih =>
    intro o w c h hl
    rw [List.length_cons] at hl
    obtain ⟨c', h1, h2, h3⟩ := ih (o + 1) (w.setCell ⟨g, o, none⟩ v) (c.setIfInBounds o v) (blk_set h o v) (by simp; omega)
    refine ⟨c', h1, by rw [h2]; simp, fun j => ?_⟩
    rw [h3 j, List.length_cons]
    by_cases hj : j = o
    · subst hj
      rw [if_neg (by omega), if_pos (by omega), Nat.sub_self, List.getElem?_cons_zero, Array.getElem?_setIfInBounds, if_pos rfl, if_pos (by omega)]
    · by_cases h4 : o + 1 ≤ j ∧ j < o + 1 + vs.length
      · rw [if_pos h4, if_pos (by omega), show j - o = (j - (o + 1)) + 1 by omega, List.getElem?_cons_succ]
      · rw [if_neg h4, if_neg (by omega), Array.getElem?_setIfInBounds, if_neg (by omega)]
theorem setCells_below {w0 : World} {B g : Nat} (hg : B ≤ g) : ∀ (vs : List Value) (o : Nat) (W : World), Below B w0 W → Below B w0 (W.setCells g o vs) := by
  intro vs
  induction vs with
  | nil => intro o W h; exact h
  | cons v vs ih => intro o W h; exact ih (o + 1) _ (h.setCell (p := ⟨g, o, none⟩) hg v)
theorem setCells_kept {w : World} {S : Nat → Prop} {g : Nat} (hg : S g ∨ w.heap.size ≤ g) : ∀ (vs : List Value) (o : Nat) (W : World), Kept w W S → Kept w (W.setCells g o vs) S := by
  intro vs
  induction vs with
  | nil => intro o W h; exact h
  | cons v vs ih => intro o W h; exact ih (o + 1) _ (Kept.setCell h (p := ⟨g, o, none⟩) hg v)
theorem setCells_at {g : Nat} : ∀ (vs : List Value) (o : Nat) (W : World), (W.setCells g o vs).heap.size = W.heap.size := by
  intro vs
  induction vs with
  | nil => intro o W; rfl
  | cons v vs ih => intro o W; exact (ih (o + 1) _).trans (by simp)
/-- The row that an insertion leaves. -/
theorem ins_row {W : World} {base g n cap e : Nat} {ok : Nat → Prop} {c : Array Value} {l0 : List Int} {x : Int} {i : Nat} (hb : base ≤ g) (hc : W.heap[g]? = some (.cells c e (0, 0))) (hs : c.size = cap) (hn : l0.length = n) (hi : i ≤ n) (hcap : n + 1 ≤ cap) (hm : cap ≤ maxLen) (hok : ok g)
    (h : ∀ j, j < n + 1 → c[j]? = if j < i then (encs (Value.int .i64) l0)[j]? else if j = i then some (.int .i64 x) else (encs (Value.int .i64) l0)[j - 1]?) :
    Kd.R (Kd.int .i64) e W base ok (.slice (some ⟨g, 0, none⟩) (n + 1) cap) (l0.take i ++ [x] ++ l0.drop i) := by
  have hlen : (l0.take i ++ [x] ++ l0.drop i).length = n + 1 := by simp; omega
  have he : encs (Value.int .i64) (l0.take i ++ [x] ++ l0.drop i) = (encs (Value.int .i64) l0).take i ++ [.int .i64 x] ++ (encs (Value.int .i64) l0).drop i := by simp [encs, List.map_take, List.map_drop]
  have hl := ins_list (cs := encs (Value.int .i64) l0) (x := .int .i64 x) (i := i) (by simp [encs, hn]) hi (by omega) h
  refine Kd.R_of_own (h1 := fun _ => rfl) ⟨by simp [encs], .inr ⟨g, cap, c, by rw [hlen], hb, hc, by omega, hm, by omega, ?_⟩⟩ (fun k hk => by simp [Value.ownBlock] at hk; exact hk ▸ hok)
  rw [hlen, Nat.mul_one, hl, he]
theorem insert_calls {P : Program} {ρ : Go.Shelf.Ren} (L : Lays2.n21 P ρ) (P0_ P2_ : Nat → Prop) (u v : Value) (l0 l2 : List Int) (i : Nat) (x : Int) (w0 w : World) (hB : Below w0.heap.size w0 w)
    (ho0 : Kd.R (Kd.int .i64) (ρ.t 3) w w0.heap.size P0_ u l0) (hp : ∀ k, P0_ k → ¬ P2_ k) (ho2 : Kd.R (Kd.int .i64) (ρ.t 3) w w0.heap.size P2_ v l2) (hi1 : i ≤ l0.length) (hl2 : l2 = [x]) (hbig : (l0.length + 1) * 8 ≤ 140737488355328) :
    Calls P (ρ.f 21) #[u, .int .i64 (i : Int), v] w fun e w' => ∃ v0_ : Value, e = .returned v0_ ∧ Kd.R (Kd.int .i64) (ρ.t 3) w' w0.heap.size (fun k_ => ((P0_ k_ ∨ P2_ k_) ∨ w.heap.size ≤ k_)) v0_ (l0.take i ++ [x] ++ l0.drop i) ∧ Below w0.heap.size w0 w' ∧ Kept w w' (fun k_ => P0_ k_ ∨ P2_ k_) := by
  subst hl2
  obtain ⟨vb, vcap, rfl, hvb, hvlt, vcells, hvc⟩ := Kd.R_form ho2 (by simp)
  have hx : w.cell? ⟨vb, 0, none⟩ = some (.int .i64 x) := by
    obtain ⟨_, _, hC⟩ := Kd.R_reads' ho2
    obtain ⟨ad, e, hc⟩ := Kd.at_int hC 0 (by omega) (by simp)
    cases e
    simpa [rd, add_plain] using hc
  have hvs : ∀ (j : Nat) (q : Value), [Value.int .i64 x][j]? = some q → w.cell? ⟨vb, 0 + j, none⟩ = some q := by
    intro j q hj
    cases j with
    | zero => simp at hj; subst hj; exact hx
    | succ j => simp at hj
  have h1v : ∀ q ∈ [Value.int .i64 x], q.oneCell' = true := by simp [Value.oneCell']
  have hwsz := hB.size
  have hcl : (encs (Value.int .i64) l0).length = l0.length := by simp [encs]
  have h1c : ∀ q ∈ encs (Value.int .i64) l0, q.oneCell' = true := by
    intro q hq
    obtain ⟨z, _, rfl⟩ := List.mem_map.1 hq
    rfl
  have own := Kd.own_of_R ho0
  rcases own.2 with ⟨rfl, hn0⟩ | ⟨g, cap, cur, rfl, hbg, hg, hncap, hcm, hcs, htk⟩
  · -- nil
    have hl0 : l0 = [] := List.eq_nil_of_length_eq_zero hn0
    subst hl0
    obtain rfl : i = 0 := by simpa using hi1
    refine (Any2.slices_Insert_int_end_grow L none 0 0 vb 0 1 vcap [] [.int .i64 x] w (by omega) (by omega) (by omega) (by omega) rfl rfl (fun _ => rfl) (by simp) hvs h1v).mono ?_
    rintro e w' ⟨rfl, rfl⟩
    have hge := grownCap_ge w (0 + 1) 0 (ρ.t 3)
    have hle := grownCap_le_maxLen w (0 + 1) 0 (ρ.t 3) (by decide)
    obtain ⟨G, hG⟩ : ∃ G, grownCap w (0 + 1) 0 (ρ.t 3) = G := ⟨_, rfl⟩
    rw [hG] at hge hle ⊢
    refine ⟨_, rfl, ins_row (n := 0) (i := 0) (c := ([] ++ [Value.int .i64 x]).toArray ++ Builtin.zeroCells (Value.int .i64 0).cells (G - (0 + 1))) hwsz (blk_new w.drew _) ?_ rfl (by omega) hge hle (.inr (Nat.le_refl _)) ?_, below_alloc (below_drew hB) _, Kept.alloc (Kept.drew (Kept.refl w _)) _⟩
    · simp [Builtin.zeroCells, Value.cells]; omega
    · intro j hj
      obtain rfl : j = 0 := by omega
      rw [Array.getElem?_append_left (by simp)]
      rfl
  · have hP0 : P0_ g := ho0.1 g rfl
    have hP2 : P2_ vb := ho2.1 vb rfl
    have hne : vb ≠ g := fun e => hp g hP0 (e ▸ hP2)
    have hglt : g < w.heap.size := blk_lt hg
    have hcur : ∀ j, j < l0.length → cur[j]? = (encs (Value.int .i64) l0)[j]? := by
      intro j hj
      rw [← htk, List.getElem?_take, if_pos (by omega), Array.getElem?_toList]
    have hcell : ∀ (j : Nat) (q : Value), (encs (Value.int .i64) l0)[j]? = some q → w.cell? ⟨g, 0 + j, none⟩ = some q := by
      intro j q hj
      have hjl : j < l0.length := by have := (List.getElem?_eq_some_iff.1 hj).1; omega
      rw [Nat.zero_add, blk_cell hg, hcur j hjl, hj]
    rcases Nat.lt_or_ge i l0.length with hi | hi
    · rcases Nat.lt_or_ge cap (l0.length + 1) with hr | hr
      · -- no room
        refine (Any2.slices_Insert_int_grow L g 0 l0.length cap i vb 0 1 vcap (encs (Value.int .i64) l0) [.int .i64 x] w hi (by omega) hncap (by omega) (by omega) hcl rfl hcell hvs h1c h1v).mono ?_
        rintro e w' ⟨rfl, rfl⟩
        have hge := grownCap_ge w (l0.length + 1) cap (ρ.t 3)
        have hle := grownCap_le_maxLen w (l0.length + 1) cap (ρ.t 3) (by unfold maxLen; omega)
        obtain ⟨c0, hc0⟩ : ∃ c0, ((encs (Value.int .i64) l0).take i).toArray ++ Builtin.zeroCells (Value.int .i64 0).cells (l0.length + 1 - i) ++ Builtin.zeroCells (Value.int .i64 0).cells (grownCap w (l0.length + 1) cap (ρ.t 3) - (l0.length + 1)) = c0 := ⟨_, rfl⟩
        have hs0 : c0.size = grownCap w (l0.length + 1) cap (ρ.t 3) := by rw [← hc0]; simp [Builtin.zeroCells, Value.cells, encs]; omega
        have hlow : ∀ j, j < i → c0[j]? = (encs (Value.int .i64) l0)[j]? := by
          intro j hj
          rw [← hc0, Array.append_assoc, Array.getElem?_append_left (by simp [encs]; omega)]
          simp [List.getElem?_take, hj]
        rw [hc0]
        have b0 := blk_new w (.cells c0 (ρ.t 3))
        obtain ⟨c1, k1, s1, e1⟩ := setCells_blk [Value.int .i64 x] i (w.alloc (.cells c0 (ρ.t 3))).drew c0 b0 (by simp; omega)
        obtain ⟨c2, k2, s2, e2⟩ := setCells_blk ((encs (Value.int .i64) l0).drop i) (i + 1) ((w.alloc (.cells c0 (ρ.t 3))).drew.setCells w.heap.size i [Value.int .i64 x]).drew c1 k1 (by simp [encs]; omega)
        refine ⟨_, rfl, ins_row hwsz k2 (by omega) rfl hi1 hge hle (.inr (Nat.le_refl _)) ?_, ?_, ?_⟩
        · intro j hj
          rw [e2 j, e1 j]
          by_cases h1 : j < i
          · rw [if_neg (by omega), if_neg (by omega), if_pos h1, hlow j h1]
          · rw [if_neg h1]
            by_cases h2 : j = i
            · rw [if_neg (by omega), if_pos (by simp; omega), if_pos h2, show j - i = 0 by omega]; rfl
            · rw [if_pos (by simp [encs]; omega), if_neg h2, List.getElem?_drop]
              congr 1; omega
        · exact setCells_below hwsz _ _ _ (below_drew (setCells_below hwsz _ _ _ (below_drew (below_alloc hB _))))
        · exact setCells_kept (.inr (Nat.le_refl _)) _ _ _ (Kept.drew (setCells_kept (.inr (Nat.le_refl _)) _ _ _ (Kept.drew (Kept.alloc (Kept.refl w _) _))))
      · -- in place
        have hsp : ∀ j, j < l0.length + 1 → (w.cell? ⟨g, 0 + j, none⟩).isSome = true := by
          intro j hj
          rw [Nat.zero_add, blk_cell hg, Array.getElem?_eq_getElem (by omega)]; rfl
        refine (Any2.slices_Insert_int_shift L g 0 l0.length cap i vb 0 1 vcap (encs (Value.int .i64) l0) [.int .i64 x] w hi (by omega) (by omega) (by unfold maxLen at hcm; omega) hne hcl rfl hcell hsp (fun j _ => blk_frozen hg _) hvs h1c h1v (ρ.t 3) (ρ.t 3) vcells.size cur.size (by simp [World.shape?, hvc]) (by simp [World.shape?, hg]) (by omega) (blk_frozen hvc _) (blk_frozen hvc _)).mono ?_
        rintro e w' ⟨rfl, rfl⟩
        obtain ⟨c1, k1, s1, e1⟩ := setCells_blk ((encs (Value.int .i64) l0).drop i) (0 + (i + 1)) w.drew cur hg (by simp [encs]; omega)
        obtain ⟨c2, k2, s2, e2⟩ := setCells_blk [Value.int .i64 x] (0 + i) (w.drew.setCells g (0 + (i + 1)) ((encs (Value.int .i64) l0).drop i)) c1 k1 (by simp; omega)
        refine ⟨_, rfl, ins_row hbg k2 (by omega) rfl hi1 hr hcm (.inl (.inl hP0)) ?_, ?_, ?_⟩
        · intro j hj
          rw [e2 j, e1 j]
          by_cases h1 : j < i
          · rw [if_neg (by omega), if_neg (by omega), if_pos h1, hcur j (by omega)]
          · rw [if_neg h1]
            by_cases h2 : j = i
            · rw [if_pos (by simp; omega), if_pos h2, show j - (0 + i) = 0 by omega]; rfl
            · rw [if_neg (by simp; omega), if_pos (by simp [encs]; omega), if_neg h2, List.getElem?_drop]
              congr 1; omega
        · exact setCells_below hbg _ _ _ (setCells_below hbg _ _ _ (below_drew hB))
        · exact setCells_kept (.inl (.inl hP0)) _ _ _ (setCells_kept (.inl (.inl hP0)) _ _ _ (Kept.drew (Kept.refl w _)))
    · obtain rfl : i = l0.length := by omega
      rcases Nat.lt_or_ge cap (l0.length + 1) with hr | hr
      · refine (Any2.slices_Insert_int_end_grow L (some ⟨g, 0, none⟩) l0.length cap vb 0 1 vcap (encs (Value.int .i64) l0) [.int .i64 x] w (by omega) hncap (by omega) (by omega) hcl rfl (fun h => by cases h) (fun a ha j q hq => by cases ha; rw [add_plain]; have := hcell j q hq; rwa [Nat.zero_add] at this) hvs h1v).mono ?_
        rintro e w' ⟨rfl, rfl⟩
        have hge := grownCap_ge w (l0.length + 1) cap (ρ.t 3)
        have hle := grownCap_le_maxLen w (l0.length + 1) cap (ρ.t 3) (by unfold maxLen; omega)
        refine ⟨_, rfl, ins_row (c := (encs (Value.int .i64) l0 ++ [Value.int .i64 x]).toArray ++ Builtin.zeroCells (Value.int .i64 0).cells (grownCap w (l0.length + 1) cap (ρ.t 3) - (l0.length + 1))) hwsz (blk_new w.drew _) ?_ rfl hi1 hge hle (.inr (Nat.le_refl _)) ?_, below_alloc (below_drew hB) _, Kept.alloc (Kept.drew (Kept.refl w _)) _⟩
        · simp [Builtin.zeroCells, Value.cells, encs]; omega
        · intro j hj
          rw [Array.getElem?_append_left (by simp [encs]; omega)]
          simp only [List.getElem?_toArray]
          by_cases h1 : j < l0.length
          · rw [if_pos h1, List.getElem?_append_left (by omega)]
          · obtain rfl : j = l0.length := by omega
            rw [if_neg h1, if_pos rfl, List.getElem?_append_right (by omega), hcl, Nat.sub_self]; rfl
      · refine (Any2.slices_Insert_int_end_room L g 0 l0.length cap vb 0 1 vcap [.int .i64 x] w (by omega) (by omega) (by unfold maxLen at hcm; omega) rfl (fun j hj => by rw [blk_cell hg, Array.getElem?_eq_getElem (by omega)]; rfl) (fun j _ => blk_frozen hg _) hvs h1v).mono ?_
        rintro e w' ⟨rfl, rfl⟩
        obtain ⟨c1, k1, s1, e1⟩ := setCells_blk [Value.int .i64 x] (0 + l0.length) w cur hg (by simp; omega)
        refine ⟨_, rfl, ins_row hbg k1 (by omega) rfl hi1 hr hcm (.inl (.inl hP0)) ?_, setCells_below hbg _ _ _ hB, setCells_kept (.inl (.inl hP0)) _ _ _ (Kept.refl w _)⟩
        intro j hj
        rw [e1 j]
        by_cases h1 : j < l0.length
        · rw [if_neg (by omega), if_pos h1, hcur j h1]
        · rw [if_pos (by simp; omega), if_neg h1, if_pos (by omega), show j - (0 + l0.length) = 0 by omega]; rfl
def slices_Insert_int_int.ren : Go.Shelf.Ren := ⟨fun | 21 => 31 | 27 => 50 | 28 => 51 | 35 => 56 | 39 => 57 | n => n, fun | 22 => 22 | 3 => 3 | n => n, fun n => n⟩
theorem slices_Insert_int_int.laid : Lays2.n21 Try.prog slices_Insert_int_int.ren := {
  mixed := by kernel_rfl
  f21 := Try.func31.trans (congrArg some (by kernel_rfl))
  f27 := Try.func50.trans (congrArg some (by kernel_rfl))
  f28 := Try.func51.trans (congrArg some (by kernel_rfl))
  f35 := Try.func56.trans (congrArg some (by kernel_rfl))
  f39 := Try.func57.trans (congrArg some (by kernel_rfl))
  t0 := Try.underlying0
  a0 := Try.isAgg0
  z0 := Try.sizeOf0
  v0 := Try.zeroValue0
  t3 := Try.underlying3
  a3 := Try.isAgg3
  z3 := Try.sizeOf3
  v3 := Try.zeroValue3
  t4 := Try.underlying4
  a4 := Try.isAgg4
  z4 := Try.sizeOf4
  v4 := Try.zeroValue4
  t22 := Try.underlying22
  a22 := Try.isAgg22
  z22 := Try.sizeOf22
  v22 := Try.zeroValue22
  i3 := by kernel_rfl }
def slices_Insert_int_int.f (l0 : List Int) (a1 : Int) (l2 : List Int) : Option (List Int) := if l2.length = 1 ∧ 0 ≤ a1 ∧ a1 ≤ (l0.length : Int) ∧ l0.length < 17592186044416 then some (l0.take a1.toNat ++ l2 ++ l0.drop a1.toNat) else none
theorem slices_Insert_int_int.calls (P0_ : Nat → Prop) (u9000_ : Value) (l0 : List Int) (a1 : Int) (P2_ : Nat → Prop) (u9001_ : Value) (l2 : List Int) (r : List Int) (w0 w : World) (hB : Below w0.heap.size w0 w) (ho0 : Kd.R (Kd.int .i64) 3 w w0.heap.size P0_ u9000_ l0) (hp0_2 : ∀ k_, P0_ k_ → ¬ P2_ k_) (ho2 : Kd.R (Kd.int .i64) 3 w w0.heap.size P2_ u9001_ l2) (hp2_0 : ∀ k_, P2_ k_ → ¬ P0_ k_) (h : slices_Insert_int_int.f l0 a1 l2 = some r) :
    Calls Try.prog 31 #[u9000_, .int .i64 a1, u9001_] w fun e w' => ∃ v0_ : Value, e = .returned (v0_) ∧ Kd.R (Kd.int .i64) 3 w' w0.heap.size (fun k_ => ((P0_ k_ ∨ P2_ k_) ∨ w.heap.size ≤ k_)) v0_ r ∧ Below w0.heap.size w0 w' ∧ Kept w w' (fun k_ => P0_ k_ ∨ P2_ k_) := by
  unfold slices_Insert_int_int.f at h
  by_cases hc : l2.length = 1 ∧ 0 ≤ a1 ∧ a1 ≤ (l0.length : Int) ∧ l0.length < 17592186044416
  · rw [if_pos hc] at h
    obtain rfl := Option.some.inj h
    obtain ⟨h1, h2, h3, h4⟩ := hc
    obtain ⟨x, rfl⟩ := List.length_eq_one_iff.1 h1
    obtain ⟨i, rfl⟩ := Int.eq_ofNat_of_zero_le h2
    have := insert_calls slices_Insert_int_int.laid P0_ P2_ u9000_ u9001_ l0 [x] i x w0 w hB ho0 hp0_2 ho2 (by omega) rfl (by omega)
    rw [Int.toNat_natCast]
    exact this
  · rw [if_neg hc] at h
    cases h

end Go.Proofs.Yteemdklfjocidaa.PFnExactByWish
