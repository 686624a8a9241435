-- Laid by this session's own program: the kit's print, turned at a few places. Lean checks it.
import Derived.Test.YtjkbnimgmbnjdaaPFnOnlyInSaldix0
import Derived.Test.YtjkbnimgmbnjdaaPFnOnlyInSaldix2
import Derived.Test.YtjkbnimgmbnjdaaPFnOnlyInSaldix3
namespace Go.Proofs.Ytjkbnimgmbnjdaa.PFnOnlyInSaldi
open Go.RowKit Go.Proofs.YtjkbnimgmbnjdaaW.PrintWords Go.Proofs.YtjkbnimgmbnjdaaW.PrintLast Go.Proofs.YtjkbnimgmbnjdaaW.PrintMore
attribute [local go_sem] max2_int min2_int max_two min_two max_three min_three max_four min_four   -- for this text's walks alone
set_option linter.unusedVariables false
set_option linter.unusedSimpArgs false

/- Short names. -/
abbrev z0_ := @Kd.R_alloc
abbrev z1_ := @Kd.R_drewN
abbrev z2_ := @Kd.R_drew
abbrev z3_ := @below_alloc
abbrev z4_ := @pw_below_drewN
abbrev z5_ := @below_drew1
abbrev z6_ := @KeepBut.set_
abbrev z7_ := @keep_drewN
abbrev z8_ := @keep_drew
abbrev z9_ := @keep_size
abbrev z10_ := @blk_drewN
abbrev z11_ := @blk_alloc
abbrev z12_ := @blk_drew
abbrev z13_ := @KeepBut.trans
abbrev z14_ := @below_weaken
abbrev z15_ := @Kd.R_far
abbrev z16_ := @Kd.R_mono
abbrev z17_ := @Kd.R_keep
abbrev z18_ := @Kd.fresh'
abbrev z19_ := @Kd.R_lt
abbrev z20_ := @Aside0.mk
abbrev z21_ := @keep_alloc
abbrev z22_ := @keep_far
abbrev z23_ := @blk_cell
abbrev z24_ := @blk_frozen
abbrev z25_ := @below_set
abbrev z26_ := @Kd.R_after
abbrev z27_ := @KeepBut.of_grown
abbrev z28_ := @KeepBut.of_below
abbrev z29_ := @of_decide_eq_true
abbrev z30_ := @Kd.R_reads'
abbrev z31_ := @IsS68.alloc
abbrev z32_ := @IsS68.apart
abbrev z33_ := @IsS68.below
abbrev z34_ := @IsS68.drew
abbrev z35_ := @IsS68.drewN
abbrev z36_ := @IsS68.far
abbrev z37_ := @IsS68.ge
abbrev z38_ := @IsS68.grown
abbrev z39_ := @IsS68.own_ne
abbrev z40_ := @IsS68.set_1
set_option maxHeartbeats 8000000 in
set_option maxRecDepth 100000 in
theorem spec_twoBooks.calls (k : Nat) (g : Nat) (s0_0 : List Int) (s0_1 : Int) (r1 : List (S50)) (r2 : List (S50)) (r3 : Int) (w0 w : World) (hI : IsS68 w0 w g s0_0 s0_1) (hB : Below w0.heap.size w0 w) (h : spec_twoBooks.f k s0_0 s0_1 = some (r1, r2, r3)) :
  Calls Try.prog 22 #[.pointer (some ⟨g, 0, none⟩)] w fun e w' => ∃ v0_ v1_ : Value, e = .returned (.tuple #[v0_, v1_]) ∧ Kd.R k50 50 w' w.heap.size (fun k_ => some k_ ≠ (v1_ : Value).ownBlock) v0_ r1 ∧ Kd.R k50 50 w' w.heap.size (fun k_ => some k_ ≠ (v0_ : Value).ownBlock) v1_ r2 ∧ IsS68 w0 w' g s0_0 r3 ∧ Below w0.heap.size w0 w' ∧ KeepBut w w' g none := by
 have hu50 := Try.underlying50
 have HI0 := z20_ hI
 have HK := z20_ (KeepBut.refl w g none)
 have HL := z20_ hB.size
 clear hI
 have HW0 := z20_ hB.size
 have HB := z20_ hB
 clear hB
 have H : ((spec_anyEntries.f k s0_0 s0_1).bind fun bt204 => (spec_twoBooks.l0 k bt204.1 (([] : List (S50))) 0 s0_0 bt204.2)) = some (r1, r2, r3) := h
 clear h
 replace H := Option.bind_eq_some_iff.mp H
 obtain ⟨⟨t204, t207⟩, A20, H⟩ := H
 replace H : (spec_twoBooks.l0 k t204 (([] : List (S50))) 0 s0_0 t207) = some (r1, r2, r3) := H
 have A2 := z20_ A20
 clear A20
 obtain ⟨y208, hy208⟩ : ∃ y_ : List (S50), y_ = (([] : List (S50))) := ⟨_, rfl⟩
 replace H : (spec_twoBooks.l0 k t204 y208 0 s0_0 t207) = some (r1, r2, r3) := by first | (rw [hy208]; with_reducible exact H) | (have H2_ := (Option.bind_some _ _).symm.trans H; rw [hy208]; with_reducible exact H2_) | (have H2_ := (Option.bind_some _ _).symm.trans H; with_reducible exact H2_) | with_reducible exact H | (rw [hy208]; exact H) | exact H
 have Ny208 := z20_ hy208
 clear hy208
 have H' := z20_ H
 clear H
 go_enter Try.func22, Try.ntmps22
 go_wp2_with (first | ((with_reducible refine gate_callee (f := 36) rfl ?_); refine goesL_ (some 12) rfl rfl Try.func36 (by kernel_rfl) rfl #[.pointer (some ⟨g, 0, none⟩)] rfl (by (try simp only [List.map_toArray, List.map_cons, List.map_nil]); first | done | rfl | (simp only [List.length_drop, List.length_take]; rfl)) ?_; (with_reducible refine (spec_anyEntries.calls k g s0_0 s0_1 t204 t207 w0 _ ?side1 ?side2 A2.out).mono ?_); (case side1 => repeat (first | (with_reducible first | exact HI0.out | apply z31_ | apply z35_ | apply z34_ | apply z40_) | exact HI0.out)); (case side2 => repeat (first | (with_reducible first | exact HB.out | apply z3_ | apply z4_ | apply z5_ | refine z25_ ?_ (z37_ HI0.out)) | exact HB.out)); rintro e w3 ⟨v205, rfl, ho0, hi, hb, hk⟩; refine ⟨_, rfl, ?_⟩; have n0_ := z20_ (Kd.R_lower ho0 (z9_ (w := w) (g := g) (row := none) (by repeat (first | (with_reducible first | exact HK.out | apply z6_ | apply z7_ | apply z8_ | apply z21_) | exact HK.out)))); have n1_ := z20_ (z13_ (by repeat (first | (with_reducible first | exact HK.out | apply z6_ | apply z7_ | apply z8_ | apply z21_) | exact HK.out)) hk (.inl rfl)); have n2_ := z20_ (hb); have n3_ := z20_ (hi); clear HK; clear HB; clear HI0; have HO206 := n0_; have HK := n1_; have HB := n2_; have HI0 := n3_; clear n0_ n1_ n2_ n3_; (try clear hb); (try clear hb2); (try clear hk); (try clear hi); (try clear ho0)) | ((with_reducible refine gate_dst (N := 13) rfl ?_); refine Kd.R_lit k50 _ 50 ?hg (N := 13) ?hd (xs := ([] : List (S50))) (inner := []) (ok := fun _ => True) (okp := fun _ => True) ?hr ?hp (fun _ hk => hk) trivial (Below.refl _ _) (Nat.le_refl _) (by simp) ?_; (case hd => rfl); (case hg => rfl); (case hr => first | (go_simp; done) | (go_simp; rfl)); (case hp => exact (Reps.none _ _)); intro v209 w4 ho5 hb hg_ hnew_; clear hg_ hnew_; (first | rw [← Ny208.out] at ho5 | (simp only [Int.reduceToNat] at ho5; rw [← Ny208.out] at ho5)); have n0_ := z20_ (Kd.R_elder' (by (with_reducible repeat (first | apply z0_ | apply z1_ | apply z2_)); exact HO206.out) (Kd.R_base ho5) hb); have n1_ := z20_ (Kd.R_lower (Kd.R_new' ho5 (z19_ (by (with_reducible repeat (first | apply z0_ | apply z1_ | apply z2_)); exact HO206.out))) (z9_ (w := w) (g := g) (row := none) (by repeat (first | (with_reducible first | exact HK.out | apply z6_ | apply z7_ | apply z8_ | apply z21_) | exact HK.out)))); have n2_ := z20_ (z33_ (by repeat (first | (with_reducible first | exact HI0.out | apply z31_ | apply z35_ | apply z34_ | apply z40_) | exact HI0.out)) hb); have n3_ := z20_ (z13_ (by repeat (first | (with_reducible first | exact HK.out | apply z6_ | apply z7_ | apply z8_ | apply z21_) | exact HK.out)) (z28_ hb g none) (.inl rfl)); have n4_ := z20_ (below_step (by repeat (first | (with_reducible first | exact HB.out | apply z3_ | apply z4_ | apply z5_ | refine z25_ ?_ (z37_ HI0.out)) | exact HB.out)) hb); clear HO206; clear HI0; clear HK; clear HB; have HO206 := n0_; have HO210 := n1_; have HI0 := n2_; have HK := n3_; have HB := n4_; clear n0_ n1_ n2_ n3_ n4_; clear hb ho5))
 go_loopg [5, 6] k (fun kq v5 v6 w' => ∃ (Qg : List (S50)) (Qa : Int) (Qi : Int), v6 = .int .i64 Qa ∧ Aside0 (spec_twoBooks.l0 kq t204 Qg Qa s0_0 Qi = some (r1, r2, r3)) ∧ Aside0 (kq ≤ k) ∧ Aside0 (Kd.R k50 50 w' w.heap.size (fun k_ => some k_ ≠ (v5 : Value).ownBlock) v205 t204) ∧ Aside0 (Kd.R k50 50 w' w.heap.size (fun k_ => some k_ ≠ (v205 : Value).ownBlock) v5 Qg) ∧ Aside0 (IsS68 w0 w' g s0_0 Qi) ∧ Aside0 (KeepBut w w' g none) ∧ Aside0 (Below w0.heap.size w0 w'))
 case atStart => exact ⟨(y208), (0), (t207), (by first | rfl | (simp; done) | (simp [*]; done)), H', ⟨Nat.le_refl _⟩, ⟨by (with_reducible repeat (first | apply z0_ | apply z1_ | apply z2_)); exact z16_ HO206.out (fun _ hk => hk.2)⟩, ⟨by (with_reducible repeat (first | apply z0_ | apply z1_ | apply z2_)); exact z16_ HO210.out (fun _ hk => hk.2)⟩, ⟨by repeat (first | (with_reducible first | exact HI0.out | apply z31_ | apply z35_ | apply z34_ | apply z40_) | exact HI0.out)⟩, ⟨by repeat (first | (with_reducible first | exact HK.out | apply z6_ | apply z7_ | apply z8_ | apply z21_) | exact HK.out)⟩, ⟨by repeat (first | (with_reducible first | exact HB.out | apply z3_ | apply z4_ | apply z5_ | refine z25_ ?_ (z37_ HI0.out)) | exact HB.out)⟩⟩
 case round =>
  clear H'
  (try clear c2); (try clear p2); (try clear c3)
  obtain ⟨Qg, Qa, Qi, rfl, HA, HK1, Qe, Qf, HI0, HK, HB⟩ := hrel
  cases gk with
  | zero => exact absurd HA.out (by simp [spec_twoBooks.l0])
  | succ k1 =>
   have H := HA.out
   clear HA
   simp only [spec_twoBooks.l0] at H
   by_cases c6 : Qa < (t204.length : Int)
   ·rw [if_pos c6] at H
    have c6b0 : decide (Qa < (t204.length : Int)) = true := decide_eq_true c6
    clear c6
    by_cases c7 : 0 ≤ Qa
    ·rw [if_pos c7] at H
     have c7b0 : decide (0 ≤ Qa) = true := decide_eq_true c7
     clear c7
     replace H := Option.bind_eq_some_iff.mp H
     obtain ⟨⟨t213, t214⟩, A80, H⟩ := H
     try dsimp only at H
     have A8 := z20_ A80
     clear A80
     by_cases c9 : t213 = 0
     ·rw [if_pos c9] at H
      have c9b0 : (t213 == 0) = true := beq_iff_eq.mpr c9
      have c9b1 : (t213 != 0) = false := bne_eq_false_iff_eq.mpr c9
      clear c9
      obtain ⟨ji10, hji10⟩ : ∃ j_ : Int, (mx ((rd_T50 t204 Qa).f3) 0) = j_ := ⟨_, rfl⟩
      replace H : ((spec_swaps.f k1 (ji10)).bind fun t215 => (if (t215.length : Int) > 0 then ((spec_reader_pick.f k1 s0_0 t214 (t215.length : Int)).bind fun bt218 => (if 0 ≤ bt218.1 then (if bt218.1 < (t215.length : Int) then ((spec_reader_pick.f k1 s0_0 bt218.2 (wrap64 ((Qg.length : Int) + 1))).bind fun bt221 => ((some (([] : List (S50)) : List (S50))).bind fun y223 => (if 0 ≤ bt221.1 then (if bt221.1 ≤ (Qg.length : Int) then ((some (Qg.drop (bt221.1 : Int).toNat : List (S50))).bind fun y226 => (if y223.length + y226.length < 4398046511104 then ((some (y223 ++ y226 : List (S50))).bind fun y230 => ((some (Qg.take (bt221.1 : Int).toNat : List (S50))).bind fun y233 => (if y233.length < 4398046511104 then ((some (y233 ++ [(⟨(rd_T50 t204 Qa).f0, (rd_T50 t204 Qa).f1, (rd_T50 t204 Qa).f2, rd t215 bt218.1⟩ : S50)] : List (S50))).bind fun y236 => (if y236.length + y230.length < 4398046511104 then (spec_twoBooks.l0 k1 t204 (y236 ++ y230) (wrap64 (Qa + 1)) s0_0 bt221.2) else (none))) else (none)))) else (none))) else (none)) else (none)))) else (none)) else (none))) else ((spec_reader_pick.f k1 s0_0 t214 (wrap64 ((Qg.length : Int) + 1))).bind fun bt242 => ((some (([] : List (S50)) : List (S50))).bind fun y244 => (if 0 ≤ bt242.1 then (if bt242.1 ≤ (Qg.length : Int) then ((some (Qg.drop (bt242.1 : Int).toNat : List (S50))).bind fun y247 => (if y244.length + y247.length < 4398046511104 then ((some (y244 ++ y247 : List (S50))).bind fun y251 => ((some (Qg.take (bt242.1 : Int).toNat : List (S50))).bind fun y254 => (if y254.length < 4398046511104 then ((some (y254 ++ [(⟨(rd_T50 t204 Qa).f0, (rd_T50 t204 Qa).f1, (rd_T50 t204 Qa).f2, (rd_T50 t204 Qa).f3⟩ : S50)] : List (S50))).bind fun y257 => (if y257.length + y251.length < 4398046511104 then (spec_twoBooks.l0 k1 t204 (y257 ++ y251) (wrap64 (Qa + 1)) s0_0 bt242.2) else (none))) else (none)))) else (none))) else (none)) else (none)))))) = some (r1, r2, r3) := by first | (rw [hji10] at H; exact H) | (simp only [hji10] at H ⊢; exact H)
      (try rw [hji10] at A8)
      have hji10_ : (if ((rd_T50 t204 Qa).f3) < 0 then 0 else ((rd_T50 t204 Qa).f3)) = ji10 := hji10
      replace H := Option.bind_eq_some_iff.mp H
      obtain ⟨t215, A110, H⟩ := H
      try dsimp only at H
      have A11 := z20_ A110
      clear A110
      by_cases c12 : (t215.length : Int) > 0
      ·rw [if_pos c12] at H
       have c12b0 : decide (0 < (t215.length : Int)) = true := decide_eq_true c12
       have c12b1 : decide (0 < t215.length) = true := decide_eq_true (by omega)
       clear c12
       replace H := Option.bind_eq_some_iff.mp H
       obtain ⟨⟨t218, t219⟩, A130, H⟩ := H
       try dsimp only at H
       have A13 := z20_ A130
       clear A130
       by_cases c14 : 0 ≤ t218
       ·rw [if_pos c14] at H
        have c14b0 : decide (0 ≤ t218) = true := decide_eq_true c14
        clear c14
        by_cases c15 : t218 < (t215.length : Int)
        ·rw [if_pos c15] at H
         have c15b0 : decide (t218 < (t215.length : Int)) = true := decide_eq_true c15
         clear c15
         replace H := Option.bind_eq_some_iff.mp H
         obtain ⟨⟨t221, t222⟩, A160, H⟩ := H
         try dsimp only at H
         have A16 := z20_ A160
         clear A160
         obtain ⟨y223, hy223⟩ : ∃ y_ : List (S50), y_ = (([] : List (S50))) := ⟨_, rfl⟩
         replace H : (if 0 ≤ t221 then (if t221 ≤ (Qg.length : Int) then ((some (Qg.drop (t221 : Int).toNat : List (S50))).bind fun y226 => (if y223.length + y226.length < 4398046511104 then ((some (y223 ++ y226 : List (S50))).bind fun y230 => ((some (Qg.take (t221 : Int).toNat : List (S50))).bind fun y233 => (if y233.length < 4398046511104 then ((some (y233 ++ [(⟨(rd_T50 t204 Qa).f0, (rd_T50 t204 Qa).f1, (rd_T50 t204 Qa).f2, rd t215 t218⟩ : S50)] : List (S50))).bind fun y236 => (if y236.length + y230.length < 4398046511104 then (spec_twoBooks.l0 k1 t204 (y236 ++ y230) (wrap64 (Qa + 1)) s0_0 t222) else (none))) else (none)))) else (none))) else (none)) else (none)) = some (r1, r2, r3) := by first | (rw [hy223]; with_reducible exact H) | (have H2_ := (Option.bind_some _ _).symm.trans H; rw [hy223]; with_reducible exact H2_) | (have H2_ := (Option.bind_some _ _).symm.trans H; with_reducible exact H2_) | with_reducible exact H | (rw [hy223]; exact H) | exact H
         have Ny223 := z20_ hy223
         clear hy223
         by_cases c17 : 0 ≤ t221
         ·rw [if_pos c17] at H
          have c17b0 := eq_true c17
          have c17b1 : decide (0 ≤ t221) = true := decide_eq_true c17
          clear c17
          by_cases c18 : t221 ≤ (Qg.length : Int)
          ·rw [if_pos c18] at H
           have c18b0 := eq_true c18
           have c18b1 : decide (t221 ≤ (Qg.length : Int)) = true := decide_eq_true c18
           clear c18
           obtain ⟨y226, hy226⟩ : ∃ y_ : List (S50), y_ = (Qg.drop (t221 : Int).toNat) := ⟨_, rfl⟩
           replace H : (if y223.length + y226.length < 4398046511104 then ((some (y223 ++ y226 : List (S50))).bind fun y230 => ((some (Qg.take (t221 : Int).toNat : List (S50))).bind fun y233 => (if y233.length < 4398046511104 then ((some (y233 ++ [(⟨(rd_T50 t204 Qa).f0, (rd_T50 t204 Qa).f1, (rd_T50 t204 Qa).f2, rd t215 t218⟩ : S50)] : List (S50))).bind fun y236 => (if y236.length + y230.length < 4398046511104 then (spec_twoBooks.l0 k1 t204 (y236 ++ y230) (wrap64 (Qa + 1)) s0_0 t222) else (none))) else (none)))) else (none)) = some (r1, r2, r3) := by first | (rw [hy226]; with_reducible exact H) | (have H2_ := (Option.bind_some _ _).symm.trans H; rw [hy226]; with_reducible exact H2_) | (have H2_ := (Option.bind_some _ _).symm.trans H; with_reducible exact H2_) | with_reducible exact H | (rw [hy226]; exact H) | exact H
           have Ny226 := z20_ hy226
           clear hy226
           by_cases c19 : y223.length + y226.length < 4398046511104
           ·rw [if_pos c19] at H
            have LMc19 := z20_ c19
            clear c19
            obtain ⟨y230, hy230⟩ : ∃ y_ : List (S50), y_ = (y223 ++ y226) := ⟨_, rfl⟩
            replace H : ((some (Qg.take (t221 : Int).toNat : List (S50))).bind fun y233 => (if y233.length < 4398046511104 then ((some (y233 ++ [(⟨(rd_T50 t204 Qa).f0, (rd_T50 t204 Qa).f1, (rd_T50 t204 Qa).f2, rd t215 t218⟩ : S50)] : List (S50))).bind fun y236 => (if y236.length + y230.length < 4398046511104 then (spec_twoBooks.l0 k1 t204 (y236 ++ y230) (wrap64 (Qa + 1)) s0_0 t222) else (none))) else (none))) = some (r1, r2, r3) := by first | (rw [hy230]; with_reducible exact H) | (have H2_ := (Option.bind_some _ _).symm.trans H; rw [hy230]; with_reducible exact H2_) | (have H2_ := (Option.bind_some _ _).symm.trans H; with_reducible exact H2_) | with_reducible exact H | (rw [hy230]; exact H) | exact H
            have Ny230 := z20_ hy230
            clear hy230
            have c20b0 := eq_true (z29_ (by first | (with_reducible assumption) | assumption) : t221 ≤ (Qg.length : Int))
            obtain ⟨y233, hy233⟩ : ∃ y_ : List (S50), y_ = (Qg.take (t221 : Int).toNat) := ⟨_, rfl⟩
            replace H : (if y233.length < 4398046511104 then ((some (y233 ++ [(⟨(rd_T50 t204 Qa).f0, (rd_T50 t204 Qa).f1, (rd_T50 t204 Qa).f2, rd t215 t218⟩ : S50)] : List (S50))).bind fun y236 => (if y236.length + y230.length < 4398046511104 then (spec_twoBooks.l0 k1 t204 (y236 ++ y230) (wrap64 (Qa + 1)) s0_0 t222) else (none))) else (none)) = some (r1, r2, r3) := by first | (rw [hy233]; with_reducible exact H) | (have H2_ := (Option.bind_some _ _).symm.trans H; rw [hy233]; with_reducible exact H2_) | (have H2_ := (Option.bind_some _ _).symm.trans H; with_reducible exact H2_) | with_reducible exact H | (rw [hy233]; exact H) | exact H
            have Ny233 := z20_ hy233
            clear hy233
            by_cases c21 : y233.length < 4398046511104
            ·rw [if_pos c21] at H
             have LMc21 := z20_ c21
             clear c21
             obtain ⟨y236, hy236⟩ : ∃ y_ : List (S50), y_ = (y233 ++ [(⟨(rd_T50 t204 Qa).f0, (rd_T50 t204 Qa).f1, (rd_T50 t204 Qa).f2, rd t215 t218⟩ : S50)]) := ⟨_, rfl⟩
             replace H : (if y236.length + y230.length < 4398046511104 then (spec_twoBooks.l0 k1 t204 (y236 ++ y230) (wrap64 (Qa + 1)) s0_0 t222) else (none)) = some (r1, r2, r3) := by first | (rw [hy236]; with_reducible exact H) | (have H2_ := (Option.bind_some _ _).symm.trans H; rw [hy236]; with_reducible exact H2_) | (have H2_ := (Option.bind_some _ _).symm.trans H; with_reducible exact H2_) | with_reducible exact H | (rw [hy236]; exact H) | exact H
             have Ny236 := z20_ hy236
             clear hy236
             by_cases c22 : y236.length + y230.length < 4398046511104
             ·rw [if_pos c22] at H
              have LMc22 := z20_ c22
              clear c22
              obtain ⟨y239, hy239⟩ : ∃ y_ : List (S50), y_ = (y236 ++ y230) := ⟨_, rfl⟩
              replace H : (spec_twoBooks.l0 k1 t204 y239 (wrap64 (Qa + 1)) s0_0 t222) = some (r1, r2, r3) := by first | (rw [hy239]; with_reducible exact H) | (have H2_ := (Option.bind_some _ _).symm.trans H; rw [hy239]; with_reducible exact H2_) | (have H2_ := (Option.bind_some _ _).symm.trans H; with_reducible exact H2_) | with_reducible exact H | (rw [hy239]; exact H) | exact H
              have Ny239 := z20_ hy239
              clear hy239
              have H' := z20_ H
              clear H
              obtain ⟨Ao23, co23, eo23⟩ := Kd.R_slice Qe.out
              subst eo23
              have p211 : 0 ≤ (Qa : Int) := z29_ (by first | (with_reducible assumption) | assumption)
              have q211 : Qa < (t204.length : Int) := z29_ (by first | (with_reducible assumption) | assumption)
              obtain ⟨Qj, e211, hx211_0, hx211_1, hx211_2, hx211_3⟩ := at_T50 (z30_ Qe.out).2.2 Qa p211 q211
              cases e211
              replace p211 := eq_true p211; replace q211 := eq_true q211
              try go_wp2_with (first | ((with_reducible refine gate_dst (N := 7) rfl ?_); refine box_event ?hg (N := 7) ?hd (cs := #[.int .i64 0, .int .i64 0, .int .i64 0, .int .i64 0]) (t := 50) ?hr ?_; (case hd => rfl); (case hg => rfl); (case hr => first | (go_simp; done) | (go_simp; rfl)); intro Qc hg w24 hbox hb; have n0_ := z20_ (Kd.R_below (Kd.R_elderB (by (with_reducible repeat (first | apply z0_ | apply z1_ | apply z2_)); exact Qe.out) Qc (Nat.le_of_eq hg.symm)) hb); have n1_ := z20_ (Kd.R_below (Kd.R_elderB (by (with_reducible repeat (first | apply z0_ | apply z1_ | apply z2_)); exact Qf.out) Qc (Nat.le_of_eq hg.symm)) hb); have n2_ := z20_ (z33_ (by repeat (first | (with_reducible first | exact HI0.out | apply z31_ | apply z35_ | apply z34_ | apply z40_) | exact HI0.out)) hb); have n3_ := z20_ (z13_ (by repeat (first | (with_reducible first | exact HK.out | apply z6_ | apply z7_ | apply z8_ | apply z21_) | exact HK.out)) (z28_ hb g none) (.inl rfl)); have n4_ := z20_ (below_step (by repeat (first | (with_reducible first | exact HB.out | apply z3_ | apply z4_ | apply z5_ | refine z25_ ?_ (z37_ HI0.out)) | exact HB.out)) hb); have n5_ := z20_ (hbox); have n6_ := z20_ ((by rw [hg]; exact (z9_ (w := w) (g := g) (row := none) (by repeat (first | (with_reducible first | exact HK.out | apply z6_ | apply z7_ | apply z8_ | apply z21_) | exact HK.out))) : w.heap.size ≤ Qc)); have n7_ := z20_ ((Nat.le_trans HW0.out (by rw [hg]; exact (z9_ (w := w) (g := g) (row := none) (by repeat (first | (with_reducible first | exact HK.out | apply z6_ | apply z7_ | apply z8_ | apply z21_) | exact HK.out))) : w.heap.size ≤ Qc) : w0.heap.size ≤ Qc)); have n8_ := z20_ ((by rw [hg]; exact Nat.ne_of_lt (IsS68.lt (show IsS68 w0 _ g s0_0 Qi from by repeat (first | (with_reducible first | exact HI0.out | apply z31_ | apply z35_ | apply z34_ | apply z40_) | exact HI0.out))) : g ≠ Qc)); have n9_ := z20_ ((by rw [hg]; exact Nat.ne_of_gt (IsS68.lt (show IsS68 w0 _ g s0_0 Qi from by repeat (first | (with_reducible first | exact HI0.out | apply z31_ | apply z35_ | apply z34_ | apply z40_) | exact HI0.out))) : Qc ≠ g)); clear Qe; clear Qf; clear HI0; clear HK; clear HB; have Qe := n0_; have Qf := n1_; have HI0 := n2_; have HK := n3_; have HB := n4_; have Qb := n5_; have Qh := n6_; have Qk := n7_; have Qd := n8_; have Ql := n9_; clear n0_ n1_ n2_ n3_ n4_ n5_ n6_ n7_ n8_ n9_; clear hb hbox hg; have hnb25 := Ql.out; have hnc25 := Qd.out; have hcz26_0 : w24.cell? ⟨Qc, 0, none⟩ = some (.int .i64 0) := (z23_ Qb.out 0).trans rfl; have hcz26_1 : w24.cell? ⟨Qc, 1, none⟩ = some (.int .i64 0) := (z23_ Qb.out 1).trans rfl; have hcz26_2 : w24.cell? ⟨Qc, 2, none⟩ = some (.int .i64 0) := (z23_ Qb.out 2).trans rfl; have hcz26_3 : w24.cell? ⟨Qc, 3, none⟩ = some (.int .i64 0) := (z23_ Qb.out 3).trans rfl; have hfz26_0 := z24_ Qb.out 0; have hfz26_1 := z24_ Qb.out 1; have hfz26_2 := z24_ Qb.out 2; have hfz26_3 := z24_ Qb.out 3) | ((with_reducible refine gate_callee (f := 37) rfl ?_); refine goesL_ (some 25) rfl rfl Try.func37 (by kernel_rfl) rfl #[.pointer (some ⟨g, 0, none⟩), .int .i64 10] rfl (by (try simp only [List.map_toArray, List.map_cons, List.map_nil]); first | done | rfl | (simp only [List.length_drop, List.length_take]; rfl)) ?_; (with_reducible refine (spec_reader_pick.calls k1 g s0_0 Qi 10 t213 t214 w0 _ ?side1 ?side2 A8.out).mono ?_); (case side1 => repeat (first | (with_reducible first | exact HI0.out | apply z31_ | apply z35_ | apply z34_ | apply z40_ | refine z36_ ?_ Qd.out _) | exact HI0.out)); (case side2 => repeat (first | (with_reducible first | exact HB.out | apply z3_ | apply z4_ | apply z5_ | refine z25_ ?_ (z37_ HI0.out) | refine z25_ ?_ Qk.out) | exact HB.out)); rintro e w27 ⟨rfl, hi, hb, hk⟩; refine ⟨_, rfl, ?_⟩; have n0_ := z20_ (z16_ (z17_ (z32_ (show IsS68 w0 _ g s0_0 Qi from by repeat (first | (with_reducible first | exact HI0.out | apply z31_ | apply z35_ | apply z34_ | apply z40_ | refine z36_ ?_ Qd.out _) | exact HI0.out)) (by (with_reducible repeat (first | apply z0_ | apply z1_ | apply z2_)); exact (z16_ (z15_ (p := ⟨Qc, 3, none⟩) (z15_ (p := ⟨Qc, 2, none⟩) (z15_ (p := ⟨Qc, 1, none⟩) (z15_ (p := ⟨Qc, 0, none⟩) (z16_ Qe.out (fun k_ hk => (⟨hk, hk.2⟩ : _ ∧ k_ ≠ Qc))) (fun _ hk => hk.2) (.int .i64 ((rd_T50 t204 Qa).f0))) (fun _ hk => hk.2) (.int .i64 ((rd_T50 t204 Qa).f1))) (fun _ hk => hk.2) (.int .i64 ((rd_T50 t204 Qa).f2))) (fun _ hk => hk.2) (.int .i64 ((rd_T50 t204 Qa).f3))) (fun _ h_ => h_.1))) (by decide)) hk (fun _ h => h.2)) (fun _ h => h.1)); have n1_ := z20_ (z16_ (z17_ (z32_ (show IsS68 w0 _ g s0_0 Qi from by repeat (first | (with_reducible first | exact HI0.out | apply z31_ | apply z35_ | apply z34_ | apply z40_ | refine z36_ ?_ Qd.out _) | exact HI0.out)) (by (with_reducible repeat (first | apply z0_ | apply z1_ | apply z2_)); exact (z16_ (z15_ (p := ⟨Qc, 3, none⟩) (z15_ (p := ⟨Qc, 2, none⟩) (z15_ (p := ⟨Qc, 1, none⟩) (z15_ (p := ⟨Qc, 0, none⟩) (z16_ Qf.out (fun k_ hk => (⟨hk, hk.2⟩ : _ ∧ k_ ≠ Qc))) (fun _ hk => hk.2) (.int .i64 ((rd_T50 t204 Qa).f0))) (fun _ hk => hk.2) (.int .i64 ((rd_T50 t204 Qa).f1))) (fun _ hk => hk.2) (.int .i64 ((rd_T50 t204 Qa).f2))) (fun _ hk => hk.2) (.int .i64 ((rd_T50 t204 Qa).f3))) (fun _ h_ => h_.1))) (by decide)) hk (fun _ h => h.2)) (fun _ h => h.1)); have n2_ := z20_ (KeepBut.blk hk (g' := Qc) (o := .cells #[.int .i64 ((rd_T50 t204 Qa).f0), .int .i64 ((rd_T50 t204 Qa).f1), .int .i64 ((rd_T50 t204 Qa).f2), .int .i64 ((rd_T50 t204 Qa).f3)] 50 (0, 0)) (by (with_reducible repeat (first | refine z10_ ?_ _ | refine z12_ ?_ | refine z11_ ?_ _)); refine blk_put (cs := #[.int .i64 ((rd_T50 t204 Qa).f0), .int .i64 ((rd_T50 t204 Qa).f1), .int .i64 ((rd_T50 t204 Qa).f2), .int .i64 0]) ?_ 3 _ rfl; (with_reducible repeat (first | refine z10_ ?_ _ | refine z12_ ?_ | refine z11_ ?_ _)); refine blk_put (cs := #[.int .i64 ((rd_T50 t204 Qa).f0), .int .i64 ((rd_T50 t204 Qa).f1), .int .i64 0, .int .i64 0]) ?_ 2 _ rfl; (with_reducible repeat (first | refine z10_ ?_ _ | refine z12_ ?_ | refine z11_ ?_ _)); refine blk_put (cs := #[.int .i64 ((rd_T50 t204 Qa).f0), .int .i64 0, .int .i64 0, .int .i64 0]) ?_ 1 _ rfl; (with_reducible repeat (first | refine z10_ ?_ _ | refine z12_ ?_ | refine z11_ ?_ _)); refine blk_put (cs := #[.int .i64 0, .int .i64 0, .int .i64 0, .int .i64 0]) ?_ 0 _ rfl; (with_reducible repeat (first | refine z10_ ?_ _ | refine z12_ ?_ | refine z11_ ?_ _)); exact Qb.out) Ql.out (by simp)); have n3_ := z20_ (z13_ (by repeat (first | (with_reducible first | exact HK.out | apply z6_ | apply z7_ | apply z8_ | apply z21_ | refine z22_ ?_ Qh.out _) | exact HK.out)) hk (.inl rfl)); have n4_ := z20_ (hb); have n5_ := z20_ (hi); clear Qe; clear Qf; clear Qb; clear HK; clear HB; clear HI0; have Qe := n0_; have Qf := n1_; have Qb := n2_; have HK := n3_; have HB := n4_; have HI0 := n5_; clear n0_ n1_ n2_ n3_ n4_ n5_; (try clear hb); (try clear hb2); (try clear hk); (try clear hi); have hcz28_0 : w27.cell? ⟨Qc, 0, none⟩ = some (.int .i64 ((rd_T50 t204 Qa).f0)) := (z23_ Qb.out 0).trans rfl; have hcz28_1 : w27.cell? ⟨Qc, 1, none⟩ = some (.int .i64 ((rd_T50 t204 Qa).f1)) := (z23_ Qb.out 1).trans rfl; have hcz28_2 : w27.cell? ⟨Qc, 2, none⟩ = some (.int .i64 ((rd_T50 t204 Qa).f2)) := (z23_ Qb.out 2).trans rfl; have hcz28_3 : w27.cell? ⟨Qc, 3, none⟩ = some (.int .i64 ((rd_T50 t204 Qa).f3)) := (z23_ Qb.out 3).trans rfl; have hfz28_0 := z24_ Qb.out 0; have hfz28_1 := z24_ Qb.out 1; have hfz28_2 := z24_ Qb.out 2; have hfz28_3 := z24_ Qb.out 3) | ((with_reducible refine gate_callee (f := 38) rfl ?_); refine goesL_ (some 31) rfl rfl Try.func38 (by kernel_rfl) rfl #[.int .i64 ji10] rfl (by (try simp only [List.map_toArray, List.map_cons, List.map_nil]); first | done | (simp only [hji10]; rfl) | rfl | (simp only [List.length_drop, List.length_take]; rfl)) ?_; (with_reducible refine (spec_swaps.calls k1 ji10 t215 _ A11.out).mono ?_); rintro e w29 ⟨v216, rfl, ho0, hb⟩; refine ⟨_, rfl, ?_⟩; have n0_ := z20_ (Kd.R_below (by (with_reducible repeat (first | apply z0_ | apply z1_ | apply z2_)); exact Qe.out) hb); have n1_ := z20_ (Kd.R_below (by (with_reducible repeat (first | apply z0_ | apply z1_ | apply z2_)); exact Qf.out) hb); have n2_ := z20_ (Kd.R_lower ho0 (z9_ (w := w) (g := g) (row := none) (by repeat (first | (with_reducible first | exact HK.out | apply z6_ | apply z7_ | apply z8_ | apply z21_ | refine z22_ ?_ Qh.out _) | exact HK.out)))); have n3_ := z20_ (z33_ (by repeat (first | (with_reducible first | exact HI0.out | apply z31_ | apply z35_ | apply z34_ | apply z40_ | refine z36_ ?_ Qd.out _) | exact HI0.out)) hb); have n4_ := z20_ (blk_below (g := Qc) (o := .cells #[.int .i64 ((rd_T50 t204 Qa).f0), .int .i64 ((rd_T50 t204 Qa).f1), .int .i64 ((rd_T50 t204 Qa).f2), .int .i64 ((rd_T50 t204 Qa).f3)] 50 (0, 0)) (by (with_reducible repeat (first | refine z10_ ?_ _ | refine z12_ ?_ | refine z11_ ?_ _)); exact Qb.out) hb); have n5_ := z20_ (z13_ (by repeat (first | (with_reducible first | exact HK.out | apply z6_ | apply z7_ | apply z8_ | apply z21_ | refine z22_ ?_ Qh.out _) | exact HK.out)) (z28_ hb g none) (.inl rfl)); have n6_ := z20_ (below_step (by repeat (first | (with_reducible first | exact HB.out | apply z3_ | apply z4_ | apply z5_ | refine z25_ ?_ (z37_ HI0.out) | refine z25_ ?_ Qk.out) | exact HB.out)) hb); clear Qe; clear Qf; clear HI0; clear Qb; clear HK; clear HB; have Qe := n0_; have Qf := n1_; have Qm := n2_; have HI0 := n3_; have Qb := n4_; have HK := n5_; have HB := n6_; clear n0_ n1_ n2_ n3_ n4_ n5_ n6_; (try clear hb); (try clear hb2); (try clear hk); (try clear hi); (try clear ho0); obtain ⟨Ao30, co30, eo30⟩ := Kd.R_slice Qm.out; subst eo30) | ((with_reducible refine gate_callee (f := 37) rfl ?_); refine goesL_ (some 39) rfl rfl Try.func37 (by kernel_rfl) rfl #[.pointer (some ⟨g, 0, none⟩), .int .i64 (t215.length : Int)] rfl (by (try simp only [List.map_toArray, List.map_cons, List.map_nil]); first | done | rfl | (simp only [List.length_drop, List.length_take]; rfl)) ?_; (with_reducible refine (spec_reader_pick.calls k1 g s0_0 t214 (t215.length : Int) t218 t219 w0 _ ?side1 ?side2 A13.out).mono ?_); (case side1 => repeat (first | (with_reducible first | exact HI0.out | apply z31_ | apply z35_ | apply z34_ | apply z40_ | refine z36_ ?_ Qd.out _) | exact HI0.out)); (case side2 => repeat (first | (with_reducible first | exact HB.out | apply z3_ | apply z4_ | apply z5_ | refine z25_ ?_ (z37_ HI0.out) | refine z25_ ?_ Qk.out) | exact HB.out)); rintro e w31 ⟨rfl, hi, hb, hk⟩; refine ⟨_, rfl, ?_⟩; have n0_ := z20_ (z16_ (z17_ (z32_ (show IsS68 w0 _ g s0_0 t214 from by repeat (first | (with_reducible first | exact HI0.out | apply z31_ | apply z35_ | apply z34_ | apply z40_ | refine z36_ ?_ Qd.out _) | exact HI0.out)) (by (with_reducible repeat (first | apply z0_ | apply z1_ | apply z2_)); exact Qe.out) (by decide)) hk (fun _ h => h.2)) (fun _ h => h.1)); have n1_ := z20_ (z16_ (z17_ (z32_ (show IsS68 w0 _ g s0_0 t214 from by repeat (first | (with_reducible first | exact HI0.out | apply z31_ | apply z35_ | apply z34_ | apply z40_ | refine z36_ ?_ Qd.out _) | exact HI0.out)) (by (with_reducible repeat (first | apply z0_ | apply z1_ | apply z2_)); exact Qf.out) (by decide)) hk (fun _ h => h.2)) (fun _ h => h.1)); have n2_ := z20_ (KeepBut.blk hk (g' := Qc) (o := .cells #[.int .i64 ((rd_T50 t204 Qa).f0), .int .i64 ((rd_T50 t204 Qa).f1), .int .i64 ((rd_T50 t204 Qa).f2), .int .i64 ((rd_T50 t204 Qa).f3)] 50 (0, 0)) (by (with_reducible repeat (first | refine z10_ ?_ _ | refine z12_ ?_ | refine z11_ ?_ _)); exact Qb.out) Ql.out (by simp)); have n3_ := z20_ (z16_ (z17_ (z32_ (show IsS68 w0 _ g s0_0 t214 from by repeat (first | (with_reducible first | exact HI0.out | apply z31_ | apply z35_ | apply z34_ | apply z40_ | refine z36_ ?_ Qd.out _) | exact HI0.out)) (by (with_reducible repeat (first | apply z0_ | apply z1_ | apply z2_)); exact Qm.out) (by decide)) hk (fun _ h => h.2)) (fun _ h => h.1)); have n4_ := z20_ (z13_ (by repeat (first | (with_reducible first | exact HK.out | apply z6_ | apply z7_ | apply z8_ | apply z21_ | refine z22_ ?_ Qh.out _) | exact HK.out)) hk (.inl rfl)); have n5_ := z20_ (hb); have n6_ := z20_ (hi); clear Qe; clear Qf; clear Qb; clear Qm; clear HK; clear HB; clear HI0; have Qe := n0_; have Qf := n1_; have Qb := n2_; have Qm := n3_; have HK := n4_; have HB := n5_; have HI0 := n6_; clear n0_ n1_ n2_ n3_ n4_ n5_ n6_; (try clear hb); (try clear hb2); (try clear hk); (try clear hi); have p220 : 0 ≤ (t218 : Int) := z29_ (by first | (with_reducible assumption) | assumption); have q220 : t218 < (t215.length : Int) := z29_ (by first | (with_reducible assumption) | assumption); obtain ⟨ad220, e220, hx220_0⟩ := Kd.at_int (z30_ Qm.out).2.2 t218 p220 q220; cases e220; replace p220 := eq_true p220; replace q220 := eq_true q220; have hcz32_0 : w31.cell? ⟨Qc, 0, none⟩ = some (.int .i64 ((rd_T50 t204 Qa).f0)) := (z23_ Qb.out 0).trans rfl; have hcz32_1 : w31.cell? ⟨Qc, 1, none⟩ = some (.int .i64 ((rd_T50 t204 Qa).f1)) := (z23_ Qb.out 1).trans rfl; have hcz32_2 : w31.cell? ⟨Qc, 2, none⟩ = some (.int .i64 ((rd_T50 t204 Qa).f2)) := (z23_ Qb.out 2).trans rfl; have hcz32_3 : w31.cell? ⟨Qc, 3, none⟩ = some (.int .i64 ((rd_T50 t204 Qa).f3)) := (z23_ Qb.out 3).trans rfl; have hfz32_0 := z24_ Qb.out 0; have hfz32_1 := z24_ Qb.out 1; have hfz32_2 := z24_ Qb.out 2; have hfz32_3 := z24_ Qb.out 3; obtain ⟨Ao33, co33, eo33⟩ := Kd.R_slice Qf.out; subst eo33) | ((with_reducible refine gate_callee (f := 37) rfl ?_); refine goesL_ (some 74) rfl rfl Try.func37 (by kernel_rfl) rfl #[.pointer (some ⟨g, 0, none⟩), .int .i64 (wrap64 ((Qg.length : Int) + 1))] rfl (by (try simp only [List.map_toArray, List.map_cons, List.map_nil]); first | done | rfl | (simp only [List.length_drop, List.length_take]; rfl)) ?_; (with_reducible refine (spec_reader_pick.calls k1 g s0_0 t219 (wrap64 ((Qg.length : Int) + 1)) t221 t222 w0 _ ?side1 ?side2 A16.out).mono ?_); (case side1 => repeat (first | (with_reducible first | exact HI0.out | apply z31_ | apply z35_ | apply z34_ | apply z40_ | refine z36_ ?_ Qd.out _) | exact HI0.out)); (case side2 => repeat (first | (with_reducible first | exact HB.out | apply z3_ | apply z4_ | apply z5_ | refine z25_ ?_ (z37_ HI0.out) | refine z25_ ?_ Qk.out) | exact HB.out)); rintro e w34 ⟨rfl, hi, hb, hk⟩; refine ⟨_, rfl, ?_⟩; have n0_ := z20_ (z16_ (z17_ (z32_ (show IsS68 w0 _ g s0_0 t219 from by repeat (first | (with_reducible first | exact HI0.out | apply z31_ | apply z35_ | apply z34_ | apply z40_ | refine z36_ ?_ Qd.out _) | exact HI0.out)) (by (with_reducible repeat (first | apply z0_ | apply z1_ | apply z2_)); exact (z16_ (z15_ (p := ⟨Qc, 3, none⟩) (z16_ Qe.out (fun k_ hk => (⟨hk, hk.2⟩ : _ ∧ k_ ≠ Qc))) (fun _ hk => hk.2) (.int .i64 (rd t215 t218))) (fun _ h_ => h_.1))) (by decide)) hk (fun _ h => h.2)) (fun _ h => h.1)); have n1_ := z20_ (z16_ (z17_ (z32_ (show IsS68 w0 _ g s0_0 t219 from by repeat (first | (with_reducible first | exact HI0.out | apply z31_ | apply z35_ | apply z34_ | apply z40_ | refine z36_ ?_ Qd.out _) | exact HI0.out)) (by (with_reducible repeat (first | apply z0_ | apply z1_ | apply z2_)); exact (z16_ (z15_ (p := ⟨Qc, 3, none⟩) (z16_ Qf.out (fun k_ hk => (⟨hk, hk.2⟩ : _ ∧ k_ ≠ Qc))) (fun _ hk => hk.2) (.int .i64 (rd t215 t218))) (fun _ h_ => h_.1))) (by decide)) hk (fun _ h => h.2)) (fun _ h => h.1)); have n2_ := z20_ (KeepBut.blk hk (g' := Qc) (o := .cells #[.int .i64 ((rd_T50 t204 Qa).f0), .int .i64 ((rd_T50 t204 Qa).f1), .int .i64 ((rd_T50 t204 Qa).f2), .int .i64 (rd t215 t218)] 50 (0, 0)) (by (with_reducible repeat (first | refine z10_ ?_ _ | refine z12_ ?_ | refine z11_ ?_ _)); refine blk_put (cs := #[.int .i64 ((rd_T50 t204 Qa).f0), .int .i64 ((rd_T50 t204 Qa).f1), .int .i64 ((rd_T50 t204 Qa).f2), .int .i64 ((rd_T50 t204 Qa).f3)]) ?_ 3 _ rfl; (with_reducible repeat (first | refine z10_ ?_ _ | refine z12_ ?_ | refine z11_ ?_ _)); exact Qb.out) Ql.out (by simp)); have n3_ := z20_ (z16_ (z17_ (z32_ (show IsS68 w0 _ g s0_0 t219 from by repeat (first | (with_reducible first | exact HI0.out | apply z31_ | apply z35_ | apply z34_ | apply z40_ | refine z36_ ?_ Qd.out _) | exact HI0.out)) (by (with_reducible repeat (first | apply z0_ | apply z1_ | apply z2_)); exact (z16_ (z15_ (p := ⟨Qc, 3, none⟩) (Kd.R_types Qm.out Qb.out (by decide)) (fun _ hk => hk.2) (.int .i64 (rd t215 t218))) (fun _ h_ => h_.1))) (by decide)) hk (fun _ h => h.2)) (fun _ h => h.1)); have n4_ := z20_ (z13_ (by repeat (first | (with_reducible first | exact HK.out | apply z6_ | apply z7_ | apply z8_ | apply z21_ | refine z22_ ?_ Qh.out _) | exact HK.out)) hk (.inl rfl)); have n5_ := z20_ (hb); have n6_ := z20_ (hi); clear Qe; clear Qf; clear Qb; clear Qm; clear HK; clear HB; clear HI0; have Qe := n0_; have Qf := n1_; have Qb := n2_; have Qm := n3_; have HK := n4_; have HB := n5_; have HI0 := n6_; clear n0_ n1_ n2_ n3_ n4_ n5_ n6_; (try clear hb); (try clear hb2); (try clear hk); (try clear hi)) | ((with_reducible refine gate_dst (N := 75) rfl ?_); refine Kd.R_lit k50 _ 50 ?hg (N := 75) ?hd (xs := ([] : List (S50))) (inner := []) (ok := fun _ => True) (okp := fun _ => True) ?hr ?hp (fun _ hk => hk) trivial (Below.refl _ _) (Nat.le_refl _) (by simp) ?_; (case hd => rfl); (case hg => rfl); (case hr => first | (go_simp; done) | (go_simp; rfl)); (case hp => exact (Reps.none _ _)); intro v224 w35 ho36 hb hg_ hnew_; clear hg_ hnew_; (first | rw [← Ny223.out] at ho36 | (simp only [Int.reduceToNat] at ho36; rw [← Ny223.out] at ho36)); have n0_ := z20_ (Kd.R_elder' (by (with_reducible repeat (first | apply z0_ | apply z1_ | apply z2_)); exact Qe.out) (Kd.R_base ho36) hb); have n1_ := z20_ (Kd.R_elder' (by (with_reducible repeat (first | apply z0_ | apply z1_ | apply z2_)); exact Qf.out) (Kd.R_base ho36) hb); have n2_ := z20_ (Kd.R_below (by (with_reducible repeat (first | apply z0_ | apply z1_ | apply z2_)); exact Qm.out) hb); have n3_ := z20_ (Kd.R_lower (Kd.R_newB (Kd.R_new' (Kd.R_new' ho36 (z19_ (by (with_reducible repeat (first | apply z0_ | apply z1_ | apply z2_)); exact Qe.out))) (z19_ (by (with_reducible repeat (first | apply z0_ | apply z1_ | apply z2_)); exact Qf.out))) (g := Qc) (o := .cells #[.int .i64 ((rd_T50 t204 Qa).f0), .int .i64 ((rd_T50 t204 Qa).f1), .int .i64 ((rd_T50 t204 Qa).f2), .int .i64 (rd t215 t218)] 50 (0, 0)) (by (with_reducible repeat (first | refine z10_ ?_ _ | refine z12_ ?_ | refine z11_ ?_ _)); exact Qb.out)) (z9_ (w := w) (g := g) (row := none) (by repeat (first | (with_reducible first | exact HK.out | apply z6_ | apply z7_ | apply z8_ | apply z21_ | refine z22_ ?_ Qh.out _) | exact HK.out)))); have n4_ := z20_ (z33_ (by repeat (first | (with_reducible first | exact HI0.out | apply z31_ | apply z35_ | apply z34_ | apply z40_ | refine z36_ ?_ Qd.out _) | exact HI0.out)) hb); have n5_ := z20_ (blk_below (g := Qc) (o := .cells #[.int .i64 ((rd_T50 t204 Qa).f0), .int .i64 ((rd_T50 t204 Qa).f1), .int .i64 ((rd_T50 t204 Qa).f2), .int .i64 (rd t215 t218)] 50 (0, 0)) (by (with_reducible repeat (first | refine z10_ ?_ _ | refine z12_ ?_ | refine z11_ ?_ _)); exact Qb.out) hb); have n6_ := z20_ (z13_ (by repeat (first | (with_reducible first | exact HK.out | apply z6_ | apply z7_ | apply z8_ | apply z21_ | refine z22_ ?_ Qh.out _) | exact HK.out)) (z28_ hb g none) (.inl rfl)); have n7_ := z20_ (below_step (by repeat (first | (with_reducible first | exact HB.out | apply z3_ | apply z4_ | apply z5_ | refine z25_ ?_ (z37_ HI0.out) | refine z25_ ?_ Qk.out) | exact HB.out)) hb); clear Qe; clear Qf; clear Qm; clear HI0; clear Qb; clear HK; clear HB; have Qe := n0_; have Qf := n1_; have Qm := n2_; have Qw := n3_; have HI0 := n4_; have Qb := n5_; have HK := n6_; have HB := n7_; clear n0_ n1_ n2_ n3_ n4_ n5_ n6_ n7_; clear hb ho36; have q37 : (t221 : Int) ≤ ((Qg.length : Int) : Int) := z29_ (by first | (with_reducible assumption) | assumption); obtain ⟨i037, hi037, _, hsz37, _⟩ := info_parts info50; have hroom37 : Qg.length ≤ co33 := (z30_ Qf.out).2.1; have hC37 : Kd.C k50 _ Ao33 Qg.length Qg := (z30_ Qf.out).2.2; have q037 : (0 : Int) ≤ (t221 : Int) := z29_ (by first | (with_reducible assumption) | assumption); have hcut37 := cut_from (P := Try.prog) 23 50 .i64 Try.underlying23 hi037 4 hsz37 Ao33 Qg.length co33 t221 q037 q37; have hr37 := Kd.C_drop (m := (t221 : Int).toNat) (c := co33) hC37 (by omega) hroom37; obtain ⟨A37, hA37⟩ : ∃ A1, A1 = (if co33 = (t221 : Int).toNat then Ao33 else (Ao33 : Option Addr).map (·.add ((t221 : Int).toNat * 4))) := ⟨_, rfl⟩; obtain ⟨c37, hc37⟩ : ∃ c1, c1 = co33 - (t221 : Int).toNat := ⟨_, rfl⟩; have hy37 : y226.length = Qg.length - (t221 : Int).toNat := (by rw [Ny226.out, List.length_drop] <;> omega); rw [show (Qg).drop (t221 : Int).toNat = y226 from Ny226.out.symm] at hr37; replace hr37 : Kd.C k50 _ A37 y226.length y226 := (by rw [hA37]; exact hr37); rw [← hy37, ← hA37, ← hc37] at hcut37; have HR229 := z20_ hr37; have HC229 := z20_ (show y226.length ≤ c37 from by rw [hy37, hc37]; exact Nat.sub_le_sub_right hroom37 _); clear hr37 hC37 hroom37 hi037 hsz37 hc37; have KY37 := z20_ hy37; have KA37 := z20_ hA37; clear hy37 hA37; have KL37 := z20_ (show (t221 : Int).toNat ≤ Qg.length from by omega); replace q37 := eq_true q37) | ((with_reducible refine gate_builtin (b := .append) (xs := #[.tmp 75, .tmp 78]) rfl ?_); at_builtin; refine Kd.R_append_rows k50 w.heap.size rfl (.tmp 75) (.tmp 78) 23 50 (.agg #[(.int .i64 0), (.int .i64 0), (.int .i64 0), (.int .i64 0)]) 32 rfl Try.underlying23 info50 rfl (by decide) (by omega) v224 y223 y226 _ _ _ (fun k_ => some k_ ≠ (.slice (some Qj) t204.length co23 : Value).ownBlock ∧ some k_ ≠ (.slice Ao33 Qg.length co33 : Value).ownBlock ∧ k_ ≠ Qc) (fun _ => False) rfl rfl ?aO ?aR (fun _ _ h => h) (fun _ h => h.elim) ?aF (Below.refl _ _) ?aS ?aL ?_; (case aR => repeat (first | exact (by repeat (first | (with_reducible exact HR229.out) | (with_reducible refine Kd.C_alloc ?_ _) | (with_reducible refine Kd.C_drewN ?_ _) | (with_reducible refine Kd.C_drew ?_) | exact HR229.out)) | (with_reducible refine Kd.C_alloc ?_ _) | (with_reducible refine Kd.C_drewN ?_ _) | (with_reducible refine Kd.C_drew ?_))); (case aF => exact (fun k_ hk => ⟨z18_ (z19_ (by (with_reducible repeat (first | apply z0_ | apply z1_ | apply z2_)); exact Qe.out)) k_ hk, z18_ (z19_ (by (with_reducible repeat (first | apply z0_ | apply z1_ | apply z2_)); exact Qf.out)) k_ hk, Kd.freshB (g := Qc) (o := .cells #[.int .i64 ((rd_T50 t204 Qa).f0), .int .i64 ((rd_T50 t204 Qa).f1), .int .i64 ((rd_T50 t204 Qa).f2), .int .i64 (rd t215 t218)] 50 (0, 0)) (by (with_reducible repeat (first | refine z10_ ?_ _ | refine z12_ ?_ | refine z11_ ?_ _)); exact Qb.out) k_ hk⟩)); (case aO => exact (by (with_reducible repeat (first | apply z0_ | apply z1_ | apply z2_)); exact z16_ Qw.out (fun _ hk => ⟨hk.1.1.2, ⟨hk.1.2, hk.2⟩⟩))); (case aS => exact (z9_ (w := w) (g := g) (row := none) (by repeat (first | (with_reducible first | exact HK.out | apply z6_ | apply z7_ | apply z8_ | apply z21_ | refine z22_ ?_ Qh.out _) | exact HK.out)))); (case aL => have := LMc19.out; omega); intro v231 w38 ho hb hg hat; rw [← Ny230.out] at ho; have n0_ := z20_ (z26_ (ok := (fun k_ => some k_ ≠ (.slice Ao33 Qg.length co33 : Value).ownBlock ∧ k_ ≠ Qc)) (by (with_reducible repeat (first | apply z0_ | apply z1_ | apply z2_)); exact Qe.out) hg hat); have n1_ := z20_ (z26_ (ok := (fun k_ => some k_ ≠ (.slice (some Qj) t204.length co23 : Value).ownBlock ∧ k_ ≠ Qc)) (by (with_reducible repeat (first | apply z0_ | apply z1_ | apply z2_)); exact Qf.out) hg hat); have n2_ := z20_ (z38_ (by first | ((repeat (first | (with_reducible first | exact HI0.out | apply z31_ | apply z35_ | apply z34_ | apply z40_ | refine z36_ ?_ Qd.out _) | exact HI0.out)); done) | exact z36_ HI0.out Qd.out _ | exact z36_ (z36_ HI0.out Qd.out _) Qd.out _) hg (z39_ HI0.out Qw.out (by decide))); have n3_ := z20_ (blk_grown (g := Qc) (o := .cells #[.int .i64 ((rd_T50 t204 Qa).f0), .int .i64 ((rd_T50 t204 Qa).f1), .int .i64 ((rd_T50 t204 Qa).f2), .int .i64 (rd t215 t218)] 50 (0, 0)) (by (with_reducible repeat (first | refine z10_ ?_ _ | refine z12_ ?_ | refine z11_ ?_ _)); exact Qb.out) hg (Kd.R_away Qw.out (fun _ hk => hk.2))); have n4_ := z20_ (Kd.R_over' (by (with_reducible repeat (first | apply z0_ | apply z1_ | apply z2_)); exact Qm.out) (Kd.R_typed (by (with_reducible repeat (first | apply z0_ | apply z1_ | apply z2_)); exact Qw.out)) (by decide) hg); have n5_ := z20_ (z14_ (by repeat (first | (with_reducible first | exact HB.out | apply z3_ | apply z4_ | apply z5_ | refine z25_ ?_ (z37_ HI0.out) | refine z25_ ?_ Qk.out) | exact HB.out)) HL.out hb); have n6_ := z20_ (z13_ (by repeat (first | (with_reducible first | exact HK.out | apply z6_ | apply z7_ | apply z8_ | apply z21_ | refine z22_ ?_ Qh.out _) | exact HK.out)) (z27_ hg g) (Kd.R_base2 Qw.out)); have n7_ := z20_ ((show Kd.C k50 w38 A37 y226.length y226 from by rw [Ny226.out, KA37.out]; exact Kd.C_drop (m := (t221 : Int).toNat) (c := co33) ((z30_ (z26_ (ok := (fun k_ => some k_ ≠ (.slice (some Qj) t204.length co23 : Value).ownBlock ∧ k_ ≠ Qc)) (by (with_reducible repeat (first | apply z0_ | apply z1_ | apply z2_)); exact Qf.out) hg hat)).2.2) KL37.out ((z30_ (z26_ (ok := (fun k_ => some k_ ≠ (.slice (some Qj) t204.length co23 : Value).ownBlock ∧ k_ ≠ Qc)) (by (with_reducible repeat (first | apply z0_ | apply z1_ | apply z2_)); exact Qf.out) hg hat)).2.1))); have n8_ := z20_ (ho); clear Qe; clear Qf; clear HI0; clear Qb; clear Qm; clear HB; clear HK; clear HR229; clear Qw; have Qe := n0_; have Qf := n1_; have HI0 := n2_; have Qb := n3_; have Qm := n4_; have HB := n5_; have HK := n6_; have HR229 := n7_; have Qo := n8_; clear n0_ n1_ n2_ n3_ n4_ n5_ n6_ n7_ n8_; clear ho hb hg hat))
              have n0_ := z20_ (z2_ Qe.out)
              have n1_ := z20_ (z2_ Qf.out)
              have n2_ := z20_ (z2_ Qm.out)
              have n3_ := z20_ (z2_ Qo.out)
              have n4_ := z20_ (z12_ Qb.out)
              have n5_ := z20_ (Kd.C_drew HR229.out)
              have n6_ := z20_ (z34_ HI0.out)
              have n7_ := z20_ (z8_ HK.out)
              have n8_ := z20_ (z5_ HB.out)
              clear Qe; clear Qf; clear Qm; clear Qo; clear Qb; clear HR229; clear HI0; clear HK; clear HB; have Qe := n0_; have Qf := n1_; have Qm := n2_; have Qo := n3_; have Qb := n4_; have HR229 := n5_; have HI0 := n6_; have HK := n7_; have HB := n8_; clear n0_ n1_ n2_ n3_ n4_ n5_ n6_ n7_ n8_
              have q40 : (t221 : Int) ≤ ((Qg.length : Int) : Int) := z29_ (by first | (with_reducible assumption) | assumption)
              obtain ⟨i040, hi040, _, hsz40, _⟩ := info_parts info50
              have hcut40 := cut_to (P := Try.prog) 23 50 .i64 Try.underlying23 hi040 Ao33 Qg.length co33 t221 (z29_ (by first | (with_reducible assumption) | assumption)) q40 (z30_ Qf.out).2.1
              have hr40 := Kd.R_take (m := (t221 : Int).toNat) Qf.out (by omega)
              have hy40 : y233.length = (t221 : Int).toNat := (by rw [Ny233.out, List.length_take]; omega)
              rw [← Ny233.out] at hr40
              rw [← hy40] at hr40 hcut40
              clear hy40 hi040 hsz40 Qf
              have Qu := z20_ hr40
              clear hr40; replace q40 := eq_true q40
              refine start_ (n := 9) (S := fun w' => w'.cell? ⟨Qc, 0, none⟩ = some (.int .i64 ((rd_T50 t204 Qa).f0)) ∧ w'.cell? ⟨Qc, 1, none⟩ = some (.int .i64 ((rd_T50 t204 Qa).f1)) ∧ w'.cell? ⟨Qc, 2, none⟩ = some (.int .i64 ((rd_T50 t204 Qa).f2)) ∧ w'.cell? ⟨Qc, 3, none⟩ = some (.int .i64 (rd t215 t218))) (ds := []) #[false, false, false, false, false, false, false, false, false] (by kernel_rfl) rfl rfl ⟨(z23_ Qb.out 0).trans rfl, (z23_ Qb.out 1).trans rfl, (z23_ Qb.out 2).trans rfl, (z23_ Qb.out 3).trans rfl⟩ (fun hHeld => ?_); refine with_tabW spec_twoBooks.tab22 spec_twoBooks.bits22 (fun HT_ HW_ => ?_)
              generalize w38.drew = w39 at Qe Qm Qo Qb HR229 HI0 HK HB Qu hHeld ⊢
              refine pure_ (i := 0) (N := some 80) (v := ?_) (a' := ?_) #[true, false, false, false, false, false, false, false, false] rfl rfl (any_of HT_.out (by kernel_rfl)) (fun _ _ _ h => h) (Or.inl ⟨by rfl, ?_⟩) ?_ ?_
              rotate_left
              ·intro w'
               go_simp
               with_reducible rfl
              rotate_left
              ·simp only [Act.put, List.setIfInBounds_toArray, List.set_cons_zero, List.set_cons_succ, i64_w, i32_w]
               rfl
              refine pure_ (i := 1) (N := some 81) (v := ?_) (a' := ?_) #[true, true, false, false, false, false, false, false, false] rfl rfl (any_of HT_.out (by kernel_rfl)) (fun _ _ _ h => h) (Or.inl ⟨by rfl, ?_⟩) ?_ ?_
              rotate_left
              ·intro w'
               go_simp
               with_reducible rfl
              rotate_left
              ·simp only [Act.put, List.setIfInBounds_toArray, List.set_cons_zero, List.set_cons_succ, i64_w, i32_w]
               rfl
              refine pure_ (i := 2) (N := some 82) (v := ?_) (a' := ?_) #[true, true, true, false, false, false, false, false, false] rfl rfl (any_of HT_.out (by kernel_rfl)) (fun _ _ _ h => h) (Or.inl ⟨by rfl, ?_⟩) ?_ ?_
              rotate_left
              ·intro w'
               go_simp
               with_reducible rfl
              rotate_left
              ·simp only [Act.put, List.setIfInBounds_toArray, List.set_cons_zero, List.set_cons_succ, i64_w, i32_w]
               rfl
              refine pure_ (i := 6) (N := some 86) (v := ?_) (a' := ?_) #[true, true, true, false, false, false, true, false, false] rfl rfl (any_of HT_.out (by kernel_rfl)) (fun _ _ _ h => h) (Or.inl ⟨by rfl, ?_⟩) ?_ ?_
              rotate_left
              ·intro w'
               go_simp
               with_reducible rfl
              rotate_left
              ·simp only [Act.put, List.setIfInBounds_toArray, List.set_cons_zero, List.set_cons_succ, i64_w, i32_w]
               rfl
              refine take_ (i := 3) (N := some 83) (v := ?_) (a' := ?_) #[true, true, true, true, false, false, true, false, false] rfl rfl (take_ofW HT_.out HW_.out (by kernel_rfl)) (fun _ _ _ h => h) (Or.inl ⟨by rfl, ?_⟩) hHeld ?_ ?_
              rotate_left
              ·rintro w' ⟨s0, s1, s2, s3⟩
               go_simp
               with_reducible rfl
              rotate_left
              ·simp only [Act.put, List.setIfInBounds_toArray, List.set_cons_zero, List.set_cons_succ, i64_w, i32_w]
               rfl
              refine one_ (i := 4) (N := some 84) #[true, true, true, true, true, false, true, false, false] rfl rfl (one_of HT_.out (by kernel_rfl)) (by decide) (fun K hK => ?_)
              refine value_ (w1 := ?_) (v := ?_) (by rfl) rfl ?_ ?_
              rotate_left 2
              ·go_simp
               constructor
               ·rfl
               ·rfl
              refine hK.out _ _ ⟨(z23_ (z11_ Qb.out _) 0).trans rfl, (z23_ (z11_ Qb.out _) 1).trans rfl, (z23_ (z11_ Qb.out _) 2).trans rfl, (z23_ (z11_ Qb.out _) 3).trans rfl⟩ (fun hHeld => ?_)
              clear hK K
              refine norm_ (a' := ?_) ?_ ?_
              rotate_left
              ·show Act.put _ (some 84) _ = _
               simp only [Act.put, List.setIfInBounds_toArray, List.set_cons_zero, List.set_cons_succ, i64_w, i32_w]
               rfl
              refine one_ (i := 5) (N := some 85) #[true, true, true, true, true, true, true, false, false] rfl rfl (one_of HT_.out (by kernel_rfl)) (by decide) (fun K hK => ?_)
              refine Kd.R_append_step k50 w.heap.size (by rfl) (.tmp 82) (.tmp 84) 23 50 (.agg #[(.int .i64 0), (.int .i64 0), (.int .i64 0), (.int .i64 0)]) 32 rfl Try.underlying23 info50 rfl (by decide) (by omega) (.slice Ao33 y233.length co33) y233 (⟨(rd_T50 t204 Qa).f0, (rd_T50 t204 Qa).f1, (rd_T50 t204 Qa).f2, rd t215 t218⟩ : S50) [.int .i64 ((rd_T50 t204 Qa).f0), .int .i64 ((rd_T50 t204 Qa).f1), .int .i64 ((rd_T50 t204 Qa).f2), .int .i64 (rd t215 t218)] (fun k_ => some k_ ≠ (.slice (some Qj) t204.length co23 : Value).ownBlock ∧ some k_ ≠ (v231 : Value).ownBlock ∧ k_ ≠ Qc) (fun _ => False) rfl rfl ?aP (fun _ hk => hk.elim) ?aF ?aO (Below.refl _ _) ?aS ?aL ?_
              (case aP => exact k50_mkM _ _ _ (⟨(rd_T50 t204 Qa).f0, (rd_T50 t204 Qa).f1, (rd_T50 t204 Qa).f2, rd t215 t218⟩ : S50))
              (case aF => exact (fun k_ hk => ⟨z18_ (z19_ (by (with_reducible repeat (first | apply z0_ | apply z1_ | apply z2_)); exact Qe.out)) k_ hk, z18_ (z19_ (by (with_reducible repeat (first | apply z0_ | apply z1_ | apply z2_)); exact Qo.out)) k_ hk, Kd.freshB (g := Qc) (o := .cells #[.int .i64 ((rd_T50 t204 Qa).f0), .int .i64 ((rd_T50 t204 Qa).f1), .int .i64 ((rd_T50 t204 Qa).f2), .int .i64 (rd t215 t218)] 50 (0, 0)) (by (with_reducible repeat (first | refine z10_ ?_ _ | refine z12_ ?_ | refine z11_ ?_ _)); exact Qb.out) k_ hk⟩))
              (case aO => exact (by (with_reducible repeat (first | apply z0_ | apply z1_ | apply z2_)); exact z16_ Qu.out (fun _ hk => ⟨hk.1.1, ⟨hk.2, hk.1.2⟩⟩)))
              (case aS => exact (z9_ (w := w) (g := g) (row := none) (by repeat (first | (with_reducible first | exact HK.out | apply z6_ | apply z7_ | apply z8_ | apply z21_ | refine z22_ ?_ Qh.out _) | exact HK.out))))
              (case aL => have := LMc21.out; omega)
              intro v237 w41 ho hb hg hat
              have oc_ : (Value.slice Ao33 y233.length co33).ownBlock = (Value.slice Ao33 Qg.length co33).ownBlock := (by generalize Ao33 = z_; cases z_ <;> rfl)
              have hg2_ := hg; have hat2_ := hat
              rw [oc_] at hg2_ hat2_
              rw [← Ny236.out] at ho
              have n0_ := z20_ (z26_ (ok := (fun k_ => some k_ ≠ (v231 : Value).ownBlock ∧ k_ ≠ Qc)) (by (with_reducible repeat (first | apply z0_ | apply z1_ | apply z2_)); exact z16_ Qe.out (fun _ hk => ⟨⟨hk.2, hk.1.2⟩, hk.1.1⟩)) hg2_ hat2_)
              have n1_ := z20_ (z38_ (by first | ((repeat (first | (with_reducible first | exact HI0.out | apply z31_ | apply z35_ | apply z34_ | apply z40_ | refine z36_ ?_ Qd.out _) | exact HI0.out)); done) | exact z36_ HI0.out Qd.out _ | exact z36_ (z36_ HI0.out Qd.out _) Qd.out _) hg (z39_ HI0.out Qu.out (by decide)))
              have n2_ := z20_ (blk_grown (g := Qc) (o := .cells #[.int .i64 ((rd_T50 t204 Qa).f0), .int .i64 ((rd_T50 t204 Qa).f1), .int .i64 ((rd_T50 t204 Qa).f2), .int .i64 (rd t215 t218)] 50 (0, 0)) (by (with_reducible repeat (first | refine z10_ ?_ _ | refine z12_ ?_ | refine z11_ ?_ _)); exact Qb.out) hg (Kd.R_away Qu.out (fun _ hk => hk.1.2)))
              have n3_ := z20_ (Kd.R_over' (by (with_reducible repeat (first | apply z0_ | apply z1_ | apply z2_)); exact Qm.out) (Kd.R_typed (by (with_reducible repeat (first | apply z0_ | apply z1_ | apply z2_)); exact Qu.out)) (by decide) hg)
              have n4_ := z20_ (z26_ (ok := (fun k_ => some k_ ≠ (.slice (some Qj) t204.length co23 : Value).ownBlock ∧ k_ ≠ Qc)) (by (with_reducible repeat (first | apply z0_ | apply z1_ | apply z2_)); exact z16_ Qo.out (fun _ hk => ⟨⟨hk.1, hk.2.2⟩, hk.2.1⟩)) hg2_ hat2_)
              have n5_ := z20_ (z14_ (by repeat (first | (with_reducible first | exact HB.out | apply z3_ | apply z4_ | apply z5_ | refine z25_ ?_ (z37_ HI0.out) | refine z25_ ?_ Qk.out) | exact HB.out)) HL.out hb)
              have n6_ := z20_ (z13_ (by repeat (first | (with_reducible first | exact HK.out | apply z6_ | apply z7_ | apply z8_ | apply z21_ | refine z22_ ?_ Qh.out _) | exact HK.out)) (z27_ hg g) (Kd.R_base2 Qu.out))
              have n7_ := z20_ (ho)
              clear Qe; clear HI0; clear Qb; clear Qm; clear Qo; clear HB; clear HK; clear Qu; have Qe := n0_; have HI0 := n1_; have Qb := n2_; have Qm := n3_; have Qo := n4_; have HB := n5_; have HK := n6_; have Qx := n7_; clear n0_ n1_ n2_ n3_ n4_ n5_ n6_ n7_; clear ho hb hg hat hg2_ hat2_ oc_
              obtain ⟨Ao43, co43, eo43⟩ := Kd.R_slice Qo.out
              (first | subst eo43 | (injection eo43 with f1_ f2_ f3_; have f4_ := f1_.symm; have f5_ := f3_.symm; clear f1_ f2_ f3_; subst f4_; subst f5_))
              refine hK.out _ _ ⟨(z23_ Qb.out 0).trans rfl, (z23_ Qb.out 1).trans rfl, (z23_ Qb.out 2).trans rfl, (z23_ Qb.out 3).trans rfl⟩ (fun hHeld => ?_)
              clear hK K
              refine norm_ (a' := ?_) ?_ ?_
              rotate_left
              ·show Act.put _ (some 85) _ = _
               simp only [Act.put, List.setIfInBounds_toArray, List.set_cons_zero, List.set_cons_succ, i64_w, i32_w]
               rfl
              refine one_ (i := 7) (N := some 87) #[true, true, true, true, true, true, true, true, false] rfl rfl (one_of HT_.out (by kernel_rfl)) (by decide) (fun K hK => ?_)
              refine Kd.R_append_rows_step k50 w.heap.size (by rfl) (.tmp 85) (.tmp 86) 23 50 (.agg #[(.int .i64 0), (.int .i64 0), (.int .i64 0), (.int .i64 0)]) 32 rfl Try.underlying23 info50 rfl (by decide) (by omega) v237 y236 y230 _ _ _ (fun k_ => some k_ ≠ (.slice (some Qj) t204.length co23 : Value).ownBlock ∧ some k_ ≠ (.slice Ao43 y230.length co43 : Value).ownBlock ∧ k_ ≠ Qc) (fun _ => False) rfl rfl ?aO ?aR (fun _ _ h => h) (fun _ h => h.elim) ?aF (Below.refl _ _) ?aS ?aL ?_
              (case aR => repeat (first | exact (z30_ Qo.out).2.2 | (with_reducible refine Kd.C_alloc ?_ _) | (with_reducible refine Kd.C_drewN ?_ _) | (with_reducible refine Kd.C_drew ?_)))
              (case aF => exact (fun k_ hk => ⟨z18_ (z19_ (by (with_reducible repeat (first | apply z0_ | apply z1_ | apply z2_)); exact Qe.out)) k_ hk, z18_ (z19_ (by (with_reducible repeat (first | apply z0_ | apply z1_ | apply z2_)); exact Qo.out)) k_ hk, Kd.freshB (g := Qc) (o := .cells #[.int .i64 ((rd_T50 t204 Qa).f0), .int .i64 ((rd_T50 t204 Qa).f1), .int .i64 ((rd_T50 t204 Qa).f2), .int .i64 (rd t215 t218)] 50 (0, 0)) (by (with_reducible repeat (first | refine z10_ ?_ _ | refine z12_ ?_ | refine z11_ ?_ _)); exact Qb.out) k_ hk⟩))
              (case aO => exact (by (with_reducible repeat (first | apply z0_ | apply z1_ | apply z2_)); exact Qx.out))
              (case aS => exact (z9_ (w := w) (g := g) (row := none) (by repeat (first | (with_reducible first | exact HK.out | apply z6_ | apply z7_ | apply z8_ | apply z21_ | refine z22_ ?_ Qh.out _) | exact HK.out))))
              (case aL => have := LMc22.out; omega)
              intro v240 w42 ho hb hg hat
              rw [← Ny239.out] at ho
              have n0_ := z20_ (z26_ (ok := (fun k_ => some k_ ≠ (.slice Ao43 y230.length co43 : Value).ownBlock ∧ k_ ≠ Qc)) (by (with_reducible repeat (first | apply z0_ | apply z1_ | apply z2_)); exact Qe.out) hg hat)
              have n1_ := z20_ (z38_ (by first | ((repeat (first | (with_reducible first | exact HI0.out | apply z31_ | apply z35_ | apply z34_ | apply z40_ | refine z36_ ?_ Qd.out _) | exact HI0.out)); done) | exact z36_ HI0.out Qd.out _ | exact z36_ (z36_ HI0.out Qd.out _) Qd.out _) hg (z39_ HI0.out Qx.out (by decide)))
              have n2_ := z20_ (blk_grown (g := Qc) (o := .cells #[.int .i64 ((rd_T50 t204 Qa).f0), .int .i64 ((rd_T50 t204 Qa).f1), .int .i64 ((rd_T50 t204 Qa).f2), .int .i64 (rd t215 t218)] 50 (0, 0)) (by (with_reducible repeat (first | refine z10_ ?_ _ | refine z12_ ?_ | refine z11_ ?_ _)); exact Qb.out) hg (Kd.R_away Qx.out (fun _ hk => hk.2.2)))
              have n3_ := z20_ (Kd.R_over' (by (with_reducible repeat (first | apply z0_ | apply z1_ | apply z2_)); exact Qm.out) (Kd.R_typed (by (with_reducible repeat (first | apply z0_ | apply z1_ | apply z2_)); exact Qx.out)) (by decide) hg)
              have n4_ := z20_ (z26_ (ok := (fun k_ => some k_ ≠ (.slice (some Qj) t204.length co23 : Value).ownBlock ∧ k_ ≠ Qc)) (by (with_reducible repeat (first | apply z0_ | apply z1_ | apply z2_)); exact Qo.out) hg hat)
              have n5_ := z20_ (z14_ (by repeat (first | (with_reducible first | exact HB.out | apply z3_ | apply z4_ | apply z5_ | refine z25_ ?_ (z37_ HI0.out) | refine z25_ ?_ Qk.out) | exact HB.out)) HL.out hb)
              have n6_ := z20_ (z13_ (by repeat (first | (with_reducible first | exact HK.out | apply z6_ | apply z7_ | apply z8_ | apply z21_ | refine z22_ ?_ Qh.out _) | exact HK.out)) (z27_ hg g) (Kd.R_base2 Qx.out))
              have n7_ := z20_ (ho)
              clear Qe; clear HI0; clear Qb; clear Qm; clear Qo; clear HB; clear HK; clear Qx; have Qe := n0_; have HI0 := n1_; have Qb := n2_; have Qm := n3_; have Qo := n4_; have HB := n5_; have HK := n6_; have HO241 := n7_; clear n0_ n1_ n2_ n3_ n4_ n5_ n6_ n7_; clear ho hb hg hat
              refine hK.out _ _ ⟨(z23_ Qb.out 0).trans rfl, (z23_ Qb.out 1).trans rfl, (z23_ Qb.out 2).trans rfl, (z23_ Qb.out 3).trans rfl⟩ (fun hHeld => ?_)
              clear hK K
              refine norm_ (a' := ?_) ?_ ?_
              rotate_left
              ·show Act.put _ (some 87) _ = _
               simp only [Act.put, List.setIfInBounds_toArray, List.set_cons_zero, List.set_cons_succ, i64_w, i32_w]
               rfl
              refine pure_ (i := 8) (N := some 5) (v := ?_) (a' := ?_) #[true, true, true, true, true, true, true, true, true] rfl rfl (any_of HT_.out (by kernel_rfl)) (fun _ _ _ h => h) (Or.inl ⟨by rfl, ?_⟩) ?_ ?_
              rotate_left
              ·intro w'
               go_simp
               with_reducible rfl
              rotate_left
              ·simp only [Act.put, List.setIfInBounds_toArray, List.set_cons_zero, List.set_cons_succ, i64_w, i32_w]
               rfl
              refine done_ (done_of HT_.out (by kernel_rfl)) ?_
              try go_wp2
              go_roundg k1
              case measure => have := HK1.out; omega
              case rel => exact ⟨(y239), (wrap64 (Qa + 1)), (t222), (by first | rfl | (simp; done) | (simp [*]; done)), H', ⟨by have := HK1.out; omega⟩, ⟨by (with_reducible repeat (first | apply z0_ | apply z1_ | apply z2_)); exact z16_ Qe.out (fun _ hk => hk.2)⟩, ⟨by (with_reducible repeat (first | apply z0_ | apply z1_ | apply z2_)); exact z16_ HO241.out (fun _ hk => hk.1)⟩, ⟨by repeat (first | (with_reducible first | exact HI0.out | apply z31_ | apply z35_ | apply z34_ | apply z40_ | refine z36_ ?_ Qd.out _) | exact HI0.out)⟩, ⟨by repeat (first | (with_reducible first | exact HK.out | apply z6_ | apply z7_ | apply z8_ | apply z21_ | refine z22_ ?_ Qh.out _) | exact HK.out)⟩, ⟨by repeat (first | (with_reducible first | exact HB.out | apply z3_ | apply z4_ | apply z5_ | refine z25_ ?_ (z37_ HI0.out) | refine z25_ ?_ Qk.out) | exact HB.out)⟩⟩
             ·rw [if_neg c22] at H
              exact absurd H (by simp)
            ·rw [if_neg c21] at H
             exact absurd H (by simp)
           ·rw [if_neg c19] at H
            exact absurd H (by simp)
          ·rw [if_neg c18] at H
           exact absurd H (by simp)
         ·rw [if_neg c17] at H
          exact absurd H (by simp)
        ·rw [if_neg c15] at H
         exact absurd H (by simp)
       ·rw [if_neg c14] at H
        exact absurd H (by simp)
      ·rw [if_neg c12] at H
       have c12b0 : decide (0 < (t215.length : Int)) = false := decide_eq_false c12
       have c12b1 : decide (0 < t215.length) = false := decide_eq_false (by omega)
       clear c12
       replace H := Option.bind_eq_some_iff.mp H
       obtain ⟨⟨t242, t243⟩, A440, H⟩ := H
       try dsimp only at H
       have A44 := z20_ A440
       clear A440
       obtain ⟨y244, hy244⟩ : ∃ y_ : List (S50), y_ = (([] : List (S50))) := ⟨_, rfl⟩
       replace H : (if 0 ≤ t242 then (if t242 ≤ (Qg.length : Int) then ((some (Qg.drop (t242 : Int).toNat : List (S50))).bind fun y247 => (if y244.length + y247.length < 4398046511104 then ((some (y244 ++ y247 : List (S50))).bind fun y251 => ((some (Qg.take (t242 : Int).toNat : List (S50))).bind fun y254 => (if y254.length < 4398046511104 then ((some (y254 ++ [(⟨(rd_T50 t204 Qa).f0, (rd_T50 t204 Qa).f1, (rd_T50 t204 Qa).f2, (rd_T50 t204 Qa).f3⟩ : S50)] : List (S50))).bind fun y257 => (if y257.length + y251.length < 4398046511104 then (spec_twoBooks.l0 k1 t204 (y257 ++ y251) (wrap64 (Qa + 1)) s0_0 t243) else (none))) else (none)))) else (none))) else (none)) else (none)) = some (r1, r2, r3) := by first | (rw [hy244]; with_reducible exact H) | (have H2_ := (Option.bind_some _ _).symm.trans H; rw [hy244]; with_reducible exact H2_) | (have H2_ := (Option.bind_some _ _).symm.trans H; with_reducible exact H2_) | with_reducible exact H | (rw [hy244]; exact H) | exact H
       have Ny244 := z20_ hy244
       clear hy244
       by_cases c45 : 0 ≤ t242
       ·rw [if_pos c45] at H
        have c45b0 := eq_true c45
        have c45b1 : decide (0 ≤ t242) = true := decide_eq_true c45
        clear c45
        by_cases c46 : t242 ≤ (Qg.length : Int)
        ·rw [if_pos c46] at H
         have c46b0 := eq_true c46
         have c46b1 : decide (t242 ≤ (Qg.length : Int)) = true := decide_eq_true c46
         clear c46
         obtain ⟨y247, hy247⟩ : ∃ y_ : List (S50), y_ = (Qg.drop (t242 : Int).toNat) := ⟨_, rfl⟩
         replace H : (if y244.length + y247.length < 4398046511104 then ((some (y244 ++ y247 : List (S50))).bind fun y251 => ((some (Qg.take (t242 : Int).toNat : List (S50))).bind fun y254 => (if y254.length < 4398046511104 then ((some (y254 ++ [(⟨(rd_T50 t204 Qa).f0, (rd_T50 t204 Qa).f1, (rd_T50 t204 Qa).f2, (rd_T50 t204 Qa).f3⟩ : S50)] : List (S50))).bind fun y257 => (if y257.length + y251.length < 4398046511104 then (spec_twoBooks.l0 k1 t204 (y257 ++ y251) (wrap64 (Qa + 1)) s0_0 t243) else (none))) else (none)))) else (none)) = some (r1, r2, r3) := by first | (rw [hy247]; with_reducible exact H) | (have H2_ := (Option.bind_some _ _).symm.trans H; rw [hy247]; with_reducible exact H2_) | (have H2_ := (Option.bind_some _ _).symm.trans H; with_reducible exact H2_) | with_reducible exact H | (rw [hy247]; exact H) | exact H
         have Ny247 := z20_ hy247
         clear hy247
         by_cases c47 : y244.length + y247.length < 4398046511104
         ·rw [if_pos c47] at H
          have LMc47 := z20_ c47
          clear c47
          obtain ⟨y251, hy251⟩ : ∃ y_ : List (S50), y_ = (y244 ++ y247) := ⟨_, rfl⟩
          replace H : ((some (Qg.take (t242 : Int).toNat : List (S50))).bind fun y254 => (if y254.length < 4398046511104 then ((some (y254 ++ [(⟨(rd_T50 t204 Qa).f0, (rd_T50 t204 Qa).f1, (rd_T50 t204 Qa).f2, (rd_T50 t204 Qa).f3⟩ : S50)] : List (S50))).bind fun y257 => (if y257.length + y251.length < 4398046511104 then (spec_twoBooks.l0 k1 t204 (y257 ++ y251) (wrap64 (Qa + 1)) s0_0 t243) else (none))) else (none))) = some (r1, r2, r3) := by first | (rw [hy251]; with_reducible exact H) | (have H2_ := (Option.bind_some _ _).symm.trans H; rw [hy251]; with_reducible exact H2_) | (have H2_ := (Option.bind_some _ _).symm.trans H; with_reducible exact H2_) | with_reducible exact H | (rw [hy251]; exact H) | exact H
          have Ny251 := z20_ hy251
          clear hy251
          have c48b0 := eq_true (z29_ (by first | (with_reducible assumption) | assumption) : t242 ≤ (Qg.length : Int))
          obtain ⟨y254, hy254⟩ : ∃ y_ : List (S50), y_ = (Qg.take (t242 : Int).toNat) := ⟨_, rfl⟩
          replace H : (if y254.length < 4398046511104 then ((some (y254 ++ [(⟨(rd_T50 t204 Qa).f0, (rd_T50 t204 Qa).f1, (rd_T50 t204 Qa).f2, (rd_T50 t204 Qa).f3⟩ : S50)] : List (S50))).bind fun y257 => (if y257.length + y251.length < 4398046511104 then (spec_twoBooks.l0 k1 t204 (y257 ++ y251) (wrap64 (Qa + 1)) s0_0 t243) else (none))) else (none)) = some (r1, r2, r3) := by first | (rw [hy254]; with_reducible exact H) | (have H2_ := (Option.bind_some _ _).symm.trans H; rw [hy254]; with_reducible exact H2_) | (have H2_ := (Option.bind_some _ _).symm.trans H; with_reducible exact H2_) | with_reducible exact H | (rw [hy254]; exact H) | exact H
          have Ny254 := z20_ hy254
          clear hy254
          by_cases c49 : y254.length < 4398046511104
          ·rw [if_pos c49] at H
           have LMc49 := z20_ c49
           clear c49
           obtain ⟨y257, hy257⟩ : ∃ y_ : List (S50), y_ = (y254 ++ [(⟨(rd_T50 t204 Qa).f0, (rd_T50 t204 Qa).f1, (rd_T50 t204 Qa).f2, (rd_T50 t204 Qa).f3⟩ : S50)]) := ⟨_, rfl⟩
           replace H : (if y257.length + y251.length < 4398046511104 then (spec_twoBooks.l0 k1 t204 (y257 ++ y251) (wrap64 (Qa + 1)) s0_0 t243) else (none)) = some (r1, r2, r3) := by first | (rw [hy257]; with_reducible exact H) | (have H2_ := (Option.bind_some _ _).symm.trans H; rw [hy257]; with_reducible exact H2_) | (have H2_ := (Option.bind_some _ _).symm.trans H; with_reducible exact H2_) | with_reducible exact H | (rw [hy257]; exact H) | exact H
           have Ny257 := z20_ hy257
           clear hy257
           by_cases c50 : y257.length + y251.length < 4398046511104
           ·rw [if_pos c50] at H
            have LMc50 := z20_ c50
            clear c50
            obtain ⟨y260, hy260⟩ : ∃ y_ : List (S50), y_ = (y257 ++ y251) := ⟨_, rfl⟩
            replace H : (spec_twoBooks.l0 k1 t204 y260 (wrap64 (Qa + 1)) s0_0 t243) = some (r1, r2, r3) := by first | (rw [hy260]; with_reducible exact H) | (have H2_ := (Option.bind_some _ _).symm.trans H; rw [hy260]; with_reducible exact H2_) | (have H2_ := (Option.bind_some _ _).symm.trans H; with_reducible exact H2_) | with_reducible exact H | (rw [hy260]; exact H) | exact H
            have Ny260 := z20_ hy260
            clear hy260
            have H' := z20_ H
            clear H
            obtain ⟨Ao51, co51, eo51⟩ := Kd.R_slice Qe.out
            subst eo51
            have p211 : 0 ≤ (Qa : Int) := z29_ (by first | (with_reducible assumption) | assumption)
            have q211 : Qa < (t204.length : Int) := z29_ (by first | (with_reducible assumption) | assumption)
            obtain ⟨Qj, e211, hx211_0, hx211_1, hx211_2, hx211_3⟩ := at_T50 (z30_ Qe.out).2.2 Qa p211 q211
            cases e211
            replace p211 := eq_true p211; replace q211 := eq_true q211
            try go_wp2_with (first | ((with_reducible refine gate_dst (N := 7) rfl ?_); refine box_event ?hg (N := 7) ?hd (cs := #[.int .i64 0, .int .i64 0, .int .i64 0, .int .i64 0]) (t := 50) ?hr ?_; (case hd => rfl); (case hg => rfl); (case hr => first | (go_simp; done) | (go_simp; rfl)); intro Qc hg w52 hbox hb; have n0_ := z20_ (Kd.R_below (Kd.R_elderB (by (with_reducible repeat (first | apply z0_ | apply z1_ | apply z2_)); exact Qe.out) Qc (Nat.le_of_eq hg.symm)) hb); have n1_ := z20_ (Kd.R_below (Kd.R_elderB (by (with_reducible repeat (first | apply z0_ | apply z1_ | apply z2_)); exact Qf.out) Qc (Nat.le_of_eq hg.symm)) hb); have n2_ := z20_ (z33_ (by repeat (first | (with_reducible first | exact HI0.out | apply z31_ | apply z35_ | apply z34_ | apply z40_) | exact HI0.out)) hb); have n3_ := z20_ (z13_ (by repeat (first | (with_reducible first | exact HK.out | apply z6_ | apply z7_ | apply z8_ | apply z21_) | exact HK.out)) (z28_ hb g none) (.inl rfl)); have n4_ := z20_ (below_step (by repeat (first | (with_reducible first | exact HB.out | apply z3_ | apply z4_ | apply z5_ | refine z25_ ?_ (z37_ HI0.out)) | exact HB.out)) hb); have n5_ := z20_ (hbox); have n6_ := z20_ ((by rw [hg]; exact (z9_ (w := w) (g := g) (row := none) (by repeat (first | (with_reducible first | exact HK.out | apply z6_ | apply z7_ | apply z8_ | apply z21_) | exact HK.out))) : w.heap.size ≤ Qc)); have n7_ := z20_ ((Nat.le_trans HW0.out (by rw [hg]; exact (z9_ (w := w) (g := g) (row := none) (by repeat (first | (with_reducible first | exact HK.out | apply z6_ | apply z7_ | apply z8_ | apply z21_) | exact HK.out))) : w.heap.size ≤ Qc) : w0.heap.size ≤ Qc)); have n8_ := z20_ ((by rw [hg]; exact Nat.ne_of_lt (IsS68.lt (show IsS68 w0 _ g s0_0 Qi from by repeat (first | (with_reducible first | exact HI0.out | apply z31_ | apply z35_ | apply z34_ | apply z40_) | exact HI0.out))) : g ≠ Qc)); have n9_ := z20_ ((by rw [hg]; exact Nat.ne_of_gt (IsS68.lt (show IsS68 w0 _ g s0_0 Qi from by repeat (first | (with_reducible first | exact HI0.out | apply z31_ | apply z35_ | apply z34_ | apply z40_) | exact HI0.out))) : Qc ≠ g)); clear Qe; clear Qf; clear HI0; clear HK; clear HB; have Qe := n0_; have Qf := n1_; have HI0 := n2_; have HK := n3_; have HB := n4_; have Qb := n5_; have Qh := n6_; have Qk := n7_; have Qd := n8_; have Ql := n9_; clear n0_ n1_ n2_ n3_ n4_ n5_ n6_ n7_ n8_ n9_; clear hb hbox hg; have hnb53 := Ql.out; have hnc53 := Qd.out; have hcz54_0 : w52.cell? ⟨Qc, 0, none⟩ = some (.int .i64 0) := (z23_ Qb.out 0).trans rfl; have hcz54_1 : w52.cell? ⟨Qc, 1, none⟩ = some (.int .i64 0) := (z23_ Qb.out 1).trans rfl; have hcz54_2 : w52.cell? ⟨Qc, 2, none⟩ = some (.int .i64 0) := (z23_ Qb.out 2).trans rfl; have hcz54_3 : w52.cell? ⟨Qc, 3, none⟩ = some (.int .i64 0) := (z23_ Qb.out 3).trans rfl; have hfz54_0 := z24_ Qb.out 0; have hfz54_1 := z24_ Qb.out 1; have hfz54_2 := z24_ Qb.out 2; have hfz54_3 := z24_ Qb.out 3) | ((with_reducible refine gate_callee (f := 37) rfl ?_); refine goesL_ (some 25) rfl rfl Try.func37 (by kernel_rfl) rfl #[.pointer (some ⟨g, 0, none⟩), .int .i64 10] rfl (by (try simp only [List.map_toArray, List.map_cons, List.map_nil]); first | done | rfl | (simp only [List.length_drop, List.length_take]; rfl)) ?_; (with_reducible refine (spec_reader_pick.calls k1 g s0_0 Qi 10 t213 t214 w0 _ ?side1 ?side2 A8.out).mono ?_); (case side1 => repeat (first | (with_reducible first | exact HI0.out | apply z31_ | apply z35_ | apply z34_ | apply z40_ | refine z36_ ?_ Qd.out _) | exact HI0.out)); (case side2 => repeat (first | (with_reducible first | exact HB.out | apply z3_ | apply z4_ | apply z5_ | refine z25_ ?_ (z37_ HI0.out) | refine z25_ ?_ Qk.out) | exact HB.out)); rintro e w55 ⟨rfl, hi, hb, hk⟩; refine ⟨_, rfl, ?_⟩; have n0_ := z20_ (z16_ (z17_ (z32_ (show IsS68 w0 _ g s0_0 Qi from by repeat (first | (with_reducible first | exact HI0.out | apply z31_ | apply z35_ | apply z34_ | apply z40_ | refine z36_ ?_ Qd.out _) | exact HI0.out)) (by (with_reducible repeat (first | apply z0_ | apply z1_ | apply z2_)); exact (z16_ (z15_ (p := ⟨Qc, 3, none⟩) (z15_ (p := ⟨Qc, 2, none⟩) (z15_ (p := ⟨Qc, 1, none⟩) (z15_ (p := ⟨Qc, 0, none⟩) (z16_ Qe.out (fun k_ hk => (⟨hk, hk.2⟩ : _ ∧ k_ ≠ Qc))) (fun _ hk => hk.2) (.int .i64 ((rd_T50 t204 Qa).f0))) (fun _ hk => hk.2) (.int .i64 ((rd_T50 t204 Qa).f1))) (fun _ hk => hk.2) (.int .i64 ((rd_T50 t204 Qa).f2))) (fun _ hk => hk.2) (.int .i64 ((rd_T50 t204 Qa).f3))) (fun _ h_ => h_.1))) (by decide)) hk (fun _ h => h.2)) (fun _ h => h.1)); have n1_ := z20_ (z16_ (z17_ (z32_ (show IsS68 w0 _ g s0_0 Qi from by repeat (first | (with_reducible first | exact HI0.out | apply z31_ | apply z35_ | apply z34_ | apply z40_ | refine z36_ ?_ Qd.out _) | exact HI0.out)) (by (with_reducible repeat (first | apply z0_ | apply z1_ | apply z2_)); exact (z16_ (z15_ (p := ⟨Qc, 3, none⟩) (z15_ (p := ⟨Qc, 2, none⟩) (z15_ (p := ⟨Qc, 1, none⟩) (z15_ (p := ⟨Qc, 0, none⟩) (z16_ Qf.out (fun k_ hk => (⟨hk, hk.2⟩ : _ ∧ k_ ≠ Qc))) (fun _ hk => hk.2) (.int .i64 ((rd_T50 t204 Qa).f0))) (fun _ hk => hk.2) (.int .i64 ((rd_T50 t204 Qa).f1))) (fun _ hk => hk.2) (.int .i64 ((rd_T50 t204 Qa).f2))) (fun _ hk => hk.2) (.int .i64 ((rd_T50 t204 Qa).f3))) (fun _ h_ => h_.1))) (by decide)) hk (fun _ h => h.2)) (fun _ h => h.1)); have n2_ := z20_ (KeepBut.blk hk (g' := Qc) (o := .cells #[.int .i64 ((rd_T50 t204 Qa).f0), .int .i64 ((rd_T50 t204 Qa).f1), .int .i64 ((rd_T50 t204 Qa).f2), .int .i64 ((rd_T50 t204 Qa).f3)] 50 (0, 0)) (by (with_reducible repeat (first | refine z10_ ?_ _ | refine z12_ ?_ | refine z11_ ?_ _)); refine blk_put (cs := #[.int .i64 ((rd_T50 t204 Qa).f0), .int .i64 ((rd_T50 t204 Qa).f1), .int .i64 ((rd_T50 t204 Qa).f2), .int .i64 0]) ?_ 3 _ rfl; (with_reducible repeat (first | refine z10_ ?_ _ | refine z12_ ?_ | refine z11_ ?_ _)); refine blk_put (cs := #[.int .i64 ((rd_T50 t204 Qa).f0), .int .i64 ((rd_T50 t204 Qa).f1), .int .i64 0, .int .i64 0]) ?_ 2 _ rfl; (with_reducible repeat (first | refine z10_ ?_ _ | refine z12_ ?_ | refine z11_ ?_ _)); refine blk_put (cs := #[.int .i64 ((rd_T50 t204 Qa).f0), .int .i64 0, .int .i64 0, .int .i64 0]) ?_ 1 _ rfl; (with_reducible repeat (first | refine z10_ ?_ _ | refine z12_ ?_ | refine z11_ ?_ _)); refine blk_put (cs := #[.int .i64 0, .int .i64 0, .int .i64 0, .int .i64 0]) ?_ 0 _ rfl; (with_reducible repeat (first | refine z10_ ?_ _ | refine z12_ ?_ | refine z11_ ?_ _)); exact Qb.out) Ql.out (by simp)); have n3_ := z20_ (z13_ (by repeat (first | (with_reducible first | exact HK.out | apply z6_ | apply z7_ | apply z8_ | apply z21_ | refine z22_ ?_ Qh.out _) | exact HK.out)) hk (.inl rfl)); have n4_ := z20_ (hb); have n5_ := z20_ (hi); clear Qe; clear Qf; clear Qb; clear HK; clear HB; clear HI0; have Qe := n0_; have Qf := n1_; have Qb := n2_; have HK := n3_; have HB := n4_; have HI0 := n5_; clear n0_ n1_ n2_ n3_ n4_ n5_; (try clear hb); (try clear hb2); (try clear hk); (try clear hi); have hcz56_0 : w55.cell? ⟨Qc, 0, none⟩ = some (.int .i64 ((rd_T50 t204 Qa).f0)) := (z23_ Qb.out 0).trans rfl; have hcz56_1 : w55.cell? ⟨Qc, 1, none⟩ = some (.int .i64 ((rd_T50 t204 Qa).f1)) := (z23_ Qb.out 1).trans rfl; have hcz56_2 : w55.cell? ⟨Qc, 2, none⟩ = some (.int .i64 ((rd_T50 t204 Qa).f2)) := (z23_ Qb.out 2).trans rfl; have hcz56_3 : w55.cell? ⟨Qc, 3, none⟩ = some (.int .i64 ((rd_T50 t204 Qa).f3)) := (z23_ Qb.out 3).trans rfl; have hfz56_0 := z24_ Qb.out 0; have hfz56_1 := z24_ Qb.out 1; have hfz56_2 := z24_ Qb.out 2; have hfz56_3 := z24_ Qb.out 3) | ((with_reducible refine gate_callee (f := 38) rfl ?_); refine goesL_ (some 31) rfl rfl Try.func38 (by kernel_rfl) rfl #[.int .i64 ji10] rfl (by (try simp only [List.map_toArray, List.map_cons, List.map_nil]); first | done | (simp only [hji10]; rfl) | rfl | (simp only [List.length_drop, List.length_take]; rfl)) ?_; (with_reducible refine (spec_swaps.calls k1 ji10 t215 _ A11.out).mono ?_); rintro e w57 ⟨v216, rfl, ho0, hb⟩; refine ⟨_, rfl, ?_⟩; have n0_ := z20_ (Kd.R_below (by (with_reducible repeat (first | apply z0_ | apply z1_ | apply z2_)); exact Qe.out) hb); have n1_ := z20_ (Kd.R_below (by (with_reducible repeat (first | apply z0_ | apply z1_ | apply z2_)); exact Qf.out) hb); have n2_ := z20_ (Kd.R_lower ho0 (z9_ (w := w) (g := g) (row := none) (by repeat (first | (with_reducible first | exact HK.out | apply z6_ | apply z7_ | apply z8_ | apply z21_ | refine z22_ ?_ Qh.out _) | exact HK.out)))); have n3_ := z20_ (z33_ (by repeat (first | (with_reducible first | exact HI0.out | apply z31_ | apply z35_ | apply z34_ | apply z40_ | refine z36_ ?_ Qd.out _) | exact HI0.out)) hb); have n4_ := z20_ (blk_below (g := Qc) (o := .cells #[.int .i64 ((rd_T50 t204 Qa).f0), .int .i64 ((rd_T50 t204 Qa).f1), .int .i64 ((rd_T50 t204 Qa).f2), .int .i64 ((rd_T50 t204 Qa).f3)] 50 (0, 0)) (by (with_reducible repeat (first | refine z10_ ?_ _ | refine z12_ ?_ | refine z11_ ?_ _)); exact Qb.out) hb); have n5_ := z20_ (z13_ (by repeat (first | (with_reducible first | exact HK.out | apply z6_ | apply z7_ | apply z8_ | apply z21_ | refine z22_ ?_ Qh.out _) | exact HK.out)) (z28_ hb g none) (.inl rfl)); have n6_ := z20_ (below_step (by repeat (first | (with_reducible first | exact HB.out | apply z3_ | apply z4_ | apply z5_ | refine z25_ ?_ (z37_ HI0.out) | refine z25_ ?_ Qk.out) | exact HB.out)) hb); clear Qe; clear Qf; clear HI0; clear Qb; clear HK; clear HB; have Qe := n0_; have Qf := n1_; have Qm := n2_; have HI0 := n3_; have Qb := n4_; have HK := n5_; have HB := n6_; clear n0_ n1_ n2_ n3_ n4_ n5_ n6_; (try clear hb); (try clear hb2); (try clear hk); (try clear hi); (try clear ho0); obtain ⟨Ao58, co58, eo58⟩ := Kd.R_slice Qm.out; subst eo58; obtain ⟨Ao59, co59, eo59⟩ := Kd.R_slice Qf.out; subst eo59) | ((with_reducible refine gate_callee (f := 37) rfl ?_); refine goesL_ (some 74) rfl rfl Try.func37 (by kernel_rfl) rfl #[.pointer (some ⟨g, 0, none⟩), .int .i64 (wrap64 ((Qg.length : Int) + 1))] rfl (by (try simp only [List.map_toArray, List.map_cons, List.map_nil]); first | done | rfl | (simp only [List.length_drop, List.length_take]; rfl)) ?_; (with_reducible refine (spec_reader_pick.calls k1 g s0_0 t214 (wrap64 ((Qg.length : Int) + 1)) t242 t243 w0 _ ?side1 ?side2 A44.out).mono ?_); (case side1 => repeat (first | (with_reducible first | exact HI0.out | apply z31_ | apply z35_ | apply z34_ | apply z40_ | refine z36_ ?_ Qd.out _) | exact HI0.out)); (case side2 => repeat (first | (with_reducible first | exact HB.out | apply z3_ | apply z4_ | apply z5_ | refine z25_ ?_ (z37_ HI0.out) | refine z25_ ?_ Qk.out) | exact HB.out)); rintro e w60 ⟨rfl, hi, hb, hk⟩; refine ⟨_, rfl, ?_⟩; have n0_ := z20_ (z16_ (z17_ (z32_ (show IsS68 w0 _ g s0_0 t214 from by repeat (first | (with_reducible first | exact HI0.out | apply z31_ | apply z35_ | apply z34_ | apply z40_ | refine z36_ ?_ Qd.out _) | exact HI0.out)) (by (with_reducible repeat (first | apply z0_ | apply z1_ | apply z2_)); exact Qe.out) (by decide)) hk (fun _ h => h.2)) (fun _ h => h.1)); have n1_ := z20_ (z16_ (z17_ (z32_ (show IsS68 w0 _ g s0_0 t214 from by repeat (first | (with_reducible first | exact HI0.out | apply z31_ | apply z35_ | apply z34_ | apply z40_ | refine z36_ ?_ Qd.out _) | exact HI0.out)) (by (with_reducible repeat (first | apply z0_ | apply z1_ | apply z2_)); exact Qf.out) (by decide)) hk (fun _ h => h.2)) (fun _ h => h.1)); have n2_ := z20_ (KeepBut.blk hk (g' := Qc) (o := .cells #[.int .i64 ((rd_T50 t204 Qa).f0), .int .i64 ((rd_T50 t204 Qa).f1), .int .i64 ((rd_T50 t204 Qa).f2), .int .i64 ((rd_T50 t204 Qa).f3)] 50 (0, 0)) (by (with_reducible repeat (first | refine z10_ ?_ _ | refine z12_ ?_ | refine z11_ ?_ _)); exact Qb.out) Ql.out (by simp)); have n3_ := z20_ (z16_ (z17_ (z32_ (show IsS68 w0 _ g s0_0 t214 from by repeat (first | (with_reducible first | exact HI0.out | apply z31_ | apply z35_ | apply z34_ | apply z40_ | refine z36_ ?_ Qd.out _) | exact HI0.out)) (by (with_reducible repeat (first | apply z0_ | apply z1_ | apply z2_)); exact Qm.out) (by decide)) hk (fun _ h => h.2)) (fun _ h => h.1)); have n4_ := z20_ (z13_ (by repeat (first | (with_reducible first | exact HK.out | apply z6_ | apply z7_ | apply z8_ | apply z21_ | refine z22_ ?_ Qh.out _) | exact HK.out)) hk (.inl rfl)); have n5_ := z20_ (hb); have n6_ := z20_ (hi); clear Qe; clear Qf; clear Qb; clear Qm; clear HK; clear HB; clear HI0; have Qe := n0_; have Qf := n1_; have Qb := n2_; have Qm := n3_; have HK := n4_; have HB := n5_; have HI0 := n6_; clear n0_ n1_ n2_ n3_ n4_ n5_ n6_; (try clear hb); (try clear hb2); (try clear hk); (try clear hi)) | ((with_reducible refine gate_dst (N := 75) rfl ?_); refine Kd.R_lit k50 _ 50 ?hg (N := 75) ?hd (xs := ([] : List (S50))) (inner := []) (ok := fun _ => True) (okp := fun _ => True) ?hr ?hp (fun _ hk => hk) trivial (Below.refl _ _) (Nat.le_refl _) (by simp) ?_; (case hd => rfl); (case hg => rfl); (case hr => first | (go_simp; done) | (go_simp; rfl)); (case hp => exact (Reps.none _ _)); intro v245 w61 ho62 hb hg_ hnew_; clear hg_ hnew_; (first | rw [← Ny244.out] at ho62 | (simp only [Int.reduceToNat] at ho62; rw [← Ny244.out] at ho62)); have n0_ := z20_ (Kd.R_elder' (by (with_reducible repeat (first | apply z0_ | apply z1_ | apply z2_)); exact Qe.out) (Kd.R_base ho62) hb); have n1_ := z20_ (Kd.R_elder' (by (with_reducible repeat (first | apply z0_ | apply z1_ | apply z2_)); exact Qf.out) (Kd.R_base ho62) hb); have n2_ := z20_ (Kd.R_below (by (with_reducible repeat (first | apply z0_ | apply z1_ | apply z2_)); exact Qm.out) hb); have n3_ := z20_ (Kd.R_lower (Kd.R_newB (Kd.R_new' (Kd.R_new' ho62 (z19_ (by (with_reducible repeat (first | apply z0_ | apply z1_ | apply z2_)); exact Qe.out))) (z19_ (by (with_reducible repeat (first | apply z0_ | apply z1_ | apply z2_)); exact Qf.out))) (g := Qc) (o := .cells #[.int .i64 ((rd_T50 t204 Qa).f0), .int .i64 ((rd_T50 t204 Qa).f1), .int .i64 ((rd_T50 t204 Qa).f2), .int .i64 ((rd_T50 t204 Qa).f3)] 50 (0, 0)) (by (with_reducible repeat (first | refine z10_ ?_ _ | refine z12_ ?_ | refine z11_ ?_ _)); exact Qb.out)) (z9_ (w := w) (g := g) (row := none) (by repeat (first | (with_reducible first | exact HK.out | apply z6_ | apply z7_ | apply z8_ | apply z21_ | refine z22_ ?_ Qh.out _) | exact HK.out)))); have n4_ := z20_ (z33_ (by repeat (first | (with_reducible first | exact HI0.out | apply z31_ | apply z35_ | apply z34_ | apply z40_ | refine z36_ ?_ Qd.out _) | exact HI0.out)) hb); have n5_ := z20_ (blk_below (g := Qc) (o := .cells #[.int .i64 ((rd_T50 t204 Qa).f0), .int .i64 ((rd_T50 t204 Qa).f1), .int .i64 ((rd_T50 t204 Qa).f2), .int .i64 ((rd_T50 t204 Qa).f3)] 50 (0, 0)) (by (with_reducible repeat (first | refine z10_ ?_ _ | refine z12_ ?_ | refine z11_ ?_ _)); exact Qb.out) hb); have n6_ := z20_ (z13_ (by repeat (first | (with_reducible first | exact HK.out | apply z6_ | apply z7_ | apply z8_ | apply z21_ | refine z22_ ?_ Qh.out _) | exact HK.out)) (z28_ hb g none) (.inl rfl)); have n7_ := z20_ (below_step (by repeat (first | (with_reducible first | exact HB.out | apply z3_ | apply z4_ | apply z5_ | refine z25_ ?_ (z37_ HI0.out) | refine z25_ ?_ Qk.out) | exact HB.out)) hb); clear Qe; clear Qf; clear Qm; clear HI0; clear Qb; clear HK; clear HB; have Qe := n0_; have Qf := n1_; have Qm := n2_; have Qy := n3_; have HI0 := n4_; have Qb := n5_; have HK := n6_; have HB := n7_; clear n0_ n1_ n2_ n3_ n4_ n5_ n6_ n7_; clear hb ho62; have q63 : (t242 : Int) ≤ ((Qg.length : Int) : Int) := z29_ (by first | (with_reducible assumption) | assumption); obtain ⟨i063, hi063, _, hsz63, _⟩ := info_parts info50; have hroom63 : Qg.length ≤ co59 := (z30_ Qf.out).2.1; have hC63 : Kd.C k50 _ Ao59 Qg.length Qg := (z30_ Qf.out).2.2; have q063 : (0 : Int) ≤ (t242 : Int) := z29_ (by first | (with_reducible assumption) | assumption); have hcut63 := cut_from (P := Try.prog) 23 50 .i64 Try.underlying23 hi063 4 hsz63 Ao59 Qg.length co59 t242 q063 q63; have hr63 := Kd.C_drop (m := (t242 : Int).toNat) (c := co59) hC63 (by omega) hroom63; obtain ⟨A63, hA63⟩ : ∃ A1, A1 = (if co59 = (t242 : Int).toNat then Ao59 else (Ao59 : Option Addr).map (·.add ((t242 : Int).toNat * 4))) := ⟨_, rfl⟩; obtain ⟨c63, hc63⟩ : ∃ c1, c1 = co59 - (t242 : Int).toNat := ⟨_, rfl⟩; have hy63 : y247.length = Qg.length - (t242 : Int).toNat := (by rw [Ny247.out, List.length_drop] <;> omega); rw [show (Qg).drop (t242 : Int).toNat = y247 from Ny247.out.symm] at hr63; replace hr63 : Kd.C k50 _ A63 y247.length y247 := (by rw [hA63]; exact hr63); rw [← hy63, ← hA63, ← hc63] at hcut63; have HR250 := z20_ hr63; have HC250 := z20_ (show y247.length ≤ c63 from by rw [hy63, hc63]; exact Nat.sub_le_sub_right hroom63 _); clear hr63 hC63 hroom63 hi063 hsz63 hc63; have KY63 := z20_ hy63; have KA63 := z20_ hA63; clear hy63 hA63; have KL63 := z20_ (show (t242 : Int).toNat ≤ Qg.length from by omega); replace q63 := eq_true q63) | ((with_reducible refine gate_builtin (b := .append) (xs := #[.tmp 75, .tmp 78]) rfl ?_); at_builtin; refine Kd.R_append_rows k50 w.heap.size rfl (.tmp 75) (.tmp 78) 23 50 (.agg #[(.int .i64 0), (.int .i64 0), (.int .i64 0), (.int .i64 0)]) 32 rfl Try.underlying23 info50 rfl (by decide) (by omega) v245 y244 y247 _ _ _ (fun k_ => some k_ ≠ (.slice (some Qj) t204.length co51 : Value).ownBlock ∧ some k_ ≠ (.slice Ao59 Qg.length co59 : Value).ownBlock ∧ k_ ≠ Qc) (fun _ => False) rfl rfl ?aO ?aR (fun _ _ h => h) (fun _ h => h.elim) ?aF (Below.refl _ _) ?aS ?aL ?_; (case aR => repeat (first | exact (by repeat (first | (with_reducible exact HR250.out) | (with_reducible refine Kd.C_alloc ?_ _) | (with_reducible refine Kd.C_drewN ?_ _) | (with_reducible refine Kd.C_drew ?_) | exact HR250.out)) | (with_reducible refine Kd.C_alloc ?_ _) | (with_reducible refine Kd.C_drewN ?_ _) | (with_reducible refine Kd.C_drew ?_))); (case aF => exact (fun k_ hk => ⟨z18_ (z19_ (by (with_reducible repeat (first | apply z0_ | apply z1_ | apply z2_)); exact Qe.out)) k_ hk, z18_ (z19_ (by (with_reducible repeat (first | apply z0_ | apply z1_ | apply z2_)); exact Qf.out)) k_ hk, Kd.freshB (g := Qc) (o := .cells #[.int .i64 ((rd_T50 t204 Qa).f0), .int .i64 ((rd_T50 t204 Qa).f1), .int .i64 ((rd_T50 t204 Qa).f2), .int .i64 ((rd_T50 t204 Qa).f3)] 50 (0, 0)) (by (with_reducible repeat (first | refine z10_ ?_ _ | refine z12_ ?_ | refine z11_ ?_ _)); exact Qb.out) k_ hk⟩)); (case aO => exact (by (with_reducible repeat (first | apply z0_ | apply z1_ | apply z2_)); exact z16_ Qy.out (fun _ hk => ⟨hk.1.1.2, ⟨hk.1.2, hk.2⟩⟩))); (case aS => exact (z9_ (w := w) (g := g) (row := none) (by repeat (first | (with_reducible first | exact HK.out | apply z6_ | apply z7_ | apply z8_ | apply z21_ | refine z22_ ?_ Qh.out _) | exact HK.out)))); (case aL => have := LMc47.out; omega); intro v252 w64 ho hb hg hat; rw [← Ny251.out] at ho; have n0_ := z20_ (z26_ (ok := (fun k_ => some k_ ≠ (.slice Ao59 Qg.length co59 : Value).ownBlock ∧ k_ ≠ Qc)) (by (with_reducible repeat (first | apply z0_ | apply z1_ | apply z2_)); exact Qe.out) hg hat); have n1_ := z20_ (z26_ (ok := (fun k_ => some k_ ≠ (.slice (some Qj) t204.length co51 : Value).ownBlock ∧ k_ ≠ Qc)) (by (with_reducible repeat (first | apply z0_ | apply z1_ | apply z2_)); exact Qf.out) hg hat); have n2_ := z20_ (z38_ (by first | ((repeat (first | (with_reducible first | exact HI0.out | apply z31_ | apply z35_ | apply z34_ | apply z40_ | refine z36_ ?_ Qd.out _) | exact HI0.out)); done) | exact z36_ HI0.out Qd.out _ | exact z36_ (z36_ HI0.out Qd.out _) Qd.out _) hg (z39_ HI0.out Qy.out (by decide))); have n3_ := z20_ (blk_grown (g := Qc) (o := .cells #[.int .i64 ((rd_T50 t204 Qa).f0), .int .i64 ((rd_T50 t204 Qa).f1), .int .i64 ((rd_T50 t204 Qa).f2), .int .i64 ((rd_T50 t204 Qa).f3)] 50 (0, 0)) (by (with_reducible repeat (first | refine z10_ ?_ _ | refine z12_ ?_ | refine z11_ ?_ _)); exact Qb.out) hg (Kd.R_away Qy.out (fun _ hk => hk.2))); have n4_ := z20_ (Kd.R_over' (by (with_reducible repeat (first | apply z0_ | apply z1_ | apply z2_)); exact Qm.out) (Kd.R_typed (by (with_reducible repeat (first | apply z0_ | apply z1_ | apply z2_)); exact Qy.out)) (by decide) hg); have n5_ := z20_ (z14_ (by repeat (first | (with_reducible first | exact HB.out | apply z3_ | apply z4_ | apply z5_ | refine z25_ ?_ (z37_ HI0.out) | refine z25_ ?_ Qk.out) | exact HB.out)) HL.out hb); have n6_ := z20_ (z13_ (by repeat (first | (with_reducible first | exact HK.out | apply z6_ | apply z7_ | apply z8_ | apply z21_ | refine z22_ ?_ Qh.out _) | exact HK.out)) (z27_ hg g) (Kd.R_base2 Qy.out)); have n7_ := z20_ ((show Kd.C k50 w64 A63 y247.length y247 from by rw [Ny247.out, KA63.out]; exact Kd.C_drop (m := (t242 : Int).toNat) (c := co59) ((z30_ (z26_ (ok := (fun k_ => some k_ ≠ (.slice (some Qj) t204.length co51 : Value).ownBlock ∧ k_ ≠ Qc)) (by (with_reducible repeat (first | apply z0_ | apply z1_ | apply z2_)); exact Qf.out) hg hat)).2.2) KL63.out ((z30_ (z26_ (ok := (fun k_ => some k_ ≠ (.slice (some Qj) t204.length co51 : Value).ownBlock ∧ k_ ≠ Qc)) (by (with_reducible repeat (first | apply z0_ | apply z1_ | apply z2_)); exact Qf.out) hg hat)).2.1))); have n8_ := z20_ (ho); clear Qe; clear Qf; clear HI0; clear Qb; clear Qm; clear HB; clear HK; clear HR250; clear Qy; have Qe := n0_; have Qf := n1_; have HI0 := n2_; have Qb := n3_; have Qm := n4_; have HB := n5_; have HK := n6_; have HR250 := n7_; have Qp := n8_; clear n0_ n1_ n2_ n3_ n4_ n5_ n6_ n7_ n8_; clear ho hb hg hat))
            have n0_ := z20_ (z2_ Qe.out)
            have n1_ := z20_ (z2_ Qf.out)
            have n2_ := z20_ (z2_ Qm.out)
            have n3_ := z20_ (z2_ Qp.out)
            have n4_ := z20_ (z12_ Qb.out)
            have n5_ := z20_ (Kd.C_drew HR250.out)
            have n6_ := z20_ (z34_ HI0.out)
            have n7_ := z20_ (z8_ HK.out)
            have n8_ := z20_ (z5_ HB.out)
            clear Qe; clear Qf; clear Qm; clear Qp; clear Qb; clear HR250; clear HI0; clear HK; clear HB; have Qe := n0_; have Qf := n1_; have Qm := n2_; have Qp := n3_; have Qb := n4_; have HR250 := n5_; have HI0 := n6_; have HK := n7_; have HB := n8_; clear n0_ n1_ n2_ n3_ n4_ n5_ n6_ n7_ n8_
            have q66 : (t242 : Int) ≤ ((Qg.length : Int) : Int) := z29_ (by first | (with_reducible assumption) | assumption)
            obtain ⟨i066, hi066, _, hsz66, _⟩ := info_parts info50
            have hcut66 := cut_to (P := Try.prog) 23 50 .i64 Try.underlying23 hi066 Ao59 Qg.length co59 t242 (z29_ (by first | (with_reducible assumption) | assumption)) q66 (z30_ Qf.out).2.1
            have hr66 := Kd.R_take (m := (t242 : Int).toNat) Qf.out (by omega)
            have hy66 : y254.length = (t242 : Int).toNat := (by rw [Ny254.out, List.length_take]; omega)
            rw [← Ny254.out] at hr66
            rw [← hy66] at hr66 hcut66
            clear hy66 hi066 hsz66 Qf
            have Qv := z20_ hr66
            clear hr66; replace q66 := eq_true q66
            refine start_ (n := 9) (S := fun w' => w'.cell? ⟨Qc, 0, none⟩ = some (.int .i64 ((rd_T50 t204 Qa).f0)) ∧ w'.cell? ⟨Qc, 1, none⟩ = some (.int .i64 ((rd_T50 t204 Qa).f1)) ∧ w'.cell? ⟨Qc, 2, none⟩ = some (.int .i64 ((rd_T50 t204 Qa).f2)) ∧ w'.cell? ⟨Qc, 3, none⟩ = some (.int .i64 ((rd_T50 t204 Qa).f3))) (ds := []) #[false, false, false, false, false, false, false, false, false] (by kernel_rfl) rfl rfl ⟨(z23_ Qb.out 0).trans rfl, (z23_ Qb.out 1).trans rfl, (z23_ Qb.out 2).trans rfl, (z23_ Qb.out 3).trans rfl⟩ (fun hHeld => ?_); refine with_tabW spec_twoBooks.tab22 spec_twoBooks.bits22 (fun HT_ HW_ => ?_)
            generalize w64.drew = w65 at Qe Qm Qp Qb HR250 HI0 HK HB Qv hHeld ⊢
            refine pure_ (i := 0) (N := some 80) (v := ?_) (a' := ?_) #[true, false, false, false, false, false, false, false, false] rfl rfl (any_of HT_.out (by kernel_rfl)) (fun _ _ _ h => h) (Or.inl ⟨by rfl, ?_⟩) ?_ ?_
            rotate_left
            ·intro w'
             go_simp
             with_reducible rfl
            rotate_left
            ·simp only [Act.put, List.setIfInBounds_toArray, List.set_cons_zero, List.set_cons_succ, i64_w, i32_w]
             rfl
            refine pure_ (i := 1) (N := some 81) (v := ?_) (a' := ?_) #[true, true, false, false, false, false, false, false, false] rfl rfl (any_of HT_.out (by kernel_rfl)) (fun _ _ _ h => h) (Or.inl ⟨by rfl, ?_⟩) ?_ ?_
            rotate_left
            ·intro w'
             go_simp
             with_reducible rfl
            rotate_left
            ·simp only [Act.put, List.setIfInBounds_toArray, List.set_cons_zero, List.set_cons_succ, i64_w, i32_w]
             rfl
            refine pure_ (i := 2) (N := some 82) (v := ?_) (a' := ?_) #[true, true, true, false, false, false, false, false, false] rfl rfl (any_of HT_.out (by kernel_rfl)) (fun _ _ _ h => h) (Or.inl ⟨by rfl, ?_⟩) ?_ ?_
            rotate_left
            ·intro w'
             go_simp
             with_reducible rfl
            rotate_left
            ·simp only [Act.put, List.setIfInBounds_toArray, List.set_cons_zero, List.set_cons_succ, i64_w, i32_w]
             rfl
            refine pure_ (i := 6) (N := some 86) (v := ?_) (a' := ?_) #[true, true, true, false, false, false, true, false, false] rfl rfl (any_of HT_.out (by kernel_rfl)) (fun _ _ _ h => h) (Or.inl ⟨by rfl, ?_⟩) ?_ ?_
            rotate_left
            ·intro w'
             go_simp
             with_reducible rfl
            rotate_left
            ·simp only [Act.put, List.setIfInBounds_toArray, List.set_cons_zero, List.set_cons_succ, i64_w, i32_w]
             rfl
            refine take_ (i := 3) (N := some 83) (v := ?_) (a' := ?_) #[true, true, true, true, false, false, true, false, false] rfl rfl (take_ofW HT_.out HW_.out (by kernel_rfl)) (fun _ _ _ h => h) (Or.inl ⟨by rfl, ?_⟩) hHeld ?_ ?_
            rotate_left
            ·rintro w' ⟨s0, s1, s2, s3⟩
             go_simp
             with_reducible rfl
            rotate_left
            ·simp only [Act.put, List.setIfInBounds_toArray, List.set_cons_zero, List.set_cons_succ, i64_w, i32_w]
             rfl
            refine one_ (i := 4) (N := some 84) #[true, true, true, true, true, false, true, false, false] rfl rfl (one_of HT_.out (by kernel_rfl)) (by decide) (fun K hK => ?_)
            refine value_ (w1 := ?_) (v := ?_) (by rfl) rfl ?_ ?_
            rotate_left 2
            ·go_simp
             constructor
             ·rfl
             ·rfl
            refine hK.out _ _ ⟨(z23_ (z11_ Qb.out _) 0).trans rfl, (z23_ (z11_ Qb.out _) 1).trans rfl, (z23_ (z11_ Qb.out _) 2).trans rfl, (z23_ (z11_ Qb.out _) 3).trans rfl⟩ (fun hHeld => ?_)
            clear hK K
            refine norm_ (a' := ?_) ?_ ?_
            rotate_left
            ·show Act.put _ (some 84) _ = _
             simp only [Act.put, List.setIfInBounds_toArray, List.set_cons_zero, List.set_cons_succ, i64_w, i32_w]
             rfl
            refine one_ (i := 5) (N := some 85) #[true, true, true, true, true, true, true, false, false] rfl rfl (one_of HT_.out (by kernel_rfl)) (by decide) (fun K hK => ?_)
            refine Kd.R_append_step k50 w.heap.size (by rfl) (.tmp 82) (.tmp 84) 23 50 (.agg #[(.int .i64 0), (.int .i64 0), (.int .i64 0), (.int .i64 0)]) 32 rfl Try.underlying23 info50 rfl (by decide) (by omega) (.slice Ao59 y254.length co59) y254 (⟨(rd_T50 t204 Qa).f0, (rd_T50 t204 Qa).f1, (rd_T50 t204 Qa).f2, (rd_T50 t204 Qa).f3⟩ : S50) [.int .i64 ((rd_T50 t204 Qa).f0), .int .i64 ((rd_T50 t204 Qa).f1), .int .i64 ((rd_T50 t204 Qa).f2), .int .i64 ((rd_T50 t204 Qa).f3)] (fun k_ => some k_ ≠ (.slice (some Qj) t204.length co51 : Value).ownBlock ∧ some k_ ≠ (v252 : Value).ownBlock ∧ k_ ≠ Qc) (fun _ => False) rfl rfl ?aP (fun _ hk => hk.elim) ?aF ?aO (Below.refl _ _) ?aS ?aL ?_
            (case aP => exact k50_mkM _ _ _ (⟨(rd_T50 t204 Qa).f0, (rd_T50 t204 Qa).f1, (rd_T50 t204 Qa).f2, (rd_T50 t204 Qa).f3⟩ : S50))
            (case aF => exact (fun k_ hk => ⟨z18_ (z19_ (by (with_reducible repeat (first | apply z0_ | apply z1_ | apply z2_)); exact Qe.out)) k_ hk, z18_ (z19_ (by (with_reducible repeat (first | apply z0_ | apply z1_ | apply z2_)); exact Qp.out)) k_ hk, Kd.freshB (g := Qc) (o := .cells #[.int .i64 ((rd_T50 t204 Qa).f0), .int .i64 ((rd_T50 t204 Qa).f1), .int .i64 ((rd_T50 t204 Qa).f2), .int .i64 ((rd_T50 t204 Qa).f3)] 50 (0, 0)) (by (with_reducible repeat (first | refine z10_ ?_ _ | refine z12_ ?_ | refine z11_ ?_ _)); exact Qb.out) k_ hk⟩))
            (case aO => exact (by (with_reducible repeat (first | apply z0_ | apply z1_ | apply z2_)); exact z16_ Qv.out (fun _ hk => ⟨hk.1.1, ⟨hk.2, hk.1.2⟩⟩)))
            (case aS => exact (z9_ (w := w) (g := g) (row := none) (by repeat (first | (with_reducible first | exact HK.out | apply z6_ | apply z7_ | apply z8_ | apply z21_ | refine z22_ ?_ Qh.out _) | exact HK.out))))
            (case aL => have := LMc49.out; omega)
            intro v258 w67 ho hb hg hat
            have oc_ : (Value.slice Ao59 y254.length co59).ownBlock = (Value.slice Ao59 Qg.length co59).ownBlock := (by generalize Ao59 = z_; cases z_ <;> rfl)
            have hg2_ := hg; have hat2_ := hat
            rw [oc_] at hg2_ hat2_
            rw [← Ny257.out] at ho
            have n0_ := z20_ (z26_ (ok := (fun k_ => some k_ ≠ (v252 : Value).ownBlock ∧ k_ ≠ Qc)) (by (with_reducible repeat (first | apply z0_ | apply z1_ | apply z2_)); exact z16_ Qe.out (fun _ hk => ⟨⟨hk.2, hk.1.2⟩, hk.1.1⟩)) hg2_ hat2_)
            have n1_ := z20_ (z38_ (by first | ((repeat (first | (with_reducible first | exact HI0.out | apply z31_ | apply z35_ | apply z34_ | apply z40_ | refine z36_ ?_ Qd.out _) | exact HI0.out)); done) | exact z36_ HI0.out Qd.out _ | exact z36_ (z36_ HI0.out Qd.out _) Qd.out _) hg (z39_ HI0.out Qv.out (by decide)))
            have n2_ := z20_ (blk_grown (g := Qc) (o := .cells #[.int .i64 ((rd_T50 t204 Qa).f0), .int .i64 ((rd_T50 t204 Qa).f1), .int .i64 ((rd_T50 t204 Qa).f2), .int .i64 ((rd_T50 t204 Qa).f3)] 50 (0, 0)) (by (with_reducible repeat (first | refine z10_ ?_ _ | refine z12_ ?_ | refine z11_ ?_ _)); exact Qb.out) hg (Kd.R_away Qv.out (fun _ hk => hk.1.2)))
            have n3_ := z20_ (Kd.R_over' (by (with_reducible repeat (first | apply z0_ | apply z1_ | apply z2_)); exact Qm.out) (Kd.R_typed (by (with_reducible repeat (first | apply z0_ | apply z1_ | apply z2_)); exact Qv.out)) (by decide) hg)
            have n4_ := z20_ (z26_ (ok := (fun k_ => some k_ ≠ (.slice (some Qj) t204.length co51 : Value).ownBlock ∧ k_ ≠ Qc)) (by (with_reducible repeat (first | apply z0_ | apply z1_ | apply z2_)); exact z16_ Qp.out (fun _ hk => ⟨⟨hk.1, hk.2.2⟩, hk.2.1⟩)) hg2_ hat2_)
            have n5_ := z20_ (z14_ (by repeat (first | (with_reducible first | exact HB.out | apply z3_ | apply z4_ | apply z5_ | refine z25_ ?_ (z37_ HI0.out) | refine z25_ ?_ Qk.out) | exact HB.out)) HL.out hb)
            have n6_ := z20_ (z13_ (by repeat (first | (with_reducible first | exact HK.out | apply z6_ | apply z7_ | apply z8_ | apply z21_ | refine z22_ ?_ Qh.out _) | exact HK.out)) (z27_ hg g) (Kd.R_base2 Qv.out))
            have n7_ := z20_ (ho)
            clear Qe; clear HI0; clear Qb; clear Qm; clear Qp; clear HB; clear HK; clear Qv; have Qe := n0_; have HI0 := n1_; have Qb := n2_; have Qm := n3_; have Qp := n4_; have HB := n5_; have HK := n6_; have Qz := n7_; clear n0_ n1_ n2_ n3_ n4_ n5_ n6_ n7_; clear ho hb hg hat hg2_ hat2_ oc_
            obtain ⟨Ao69, co69, eo69⟩ := Kd.R_slice Qp.out
            (first | subst eo69 | (injection eo69 with f1_ f2_ f3_; have f4_ := f1_.symm; have f5_ := f3_.symm; clear f1_ f2_ f3_; subst f4_; subst f5_))
            refine hK.out _ _ ⟨(z23_ Qb.out 0).trans rfl, (z23_ Qb.out 1).trans rfl, (z23_ Qb.out 2).trans rfl, (z23_ Qb.out 3).trans rfl⟩ (fun hHeld => ?_)
            clear hK K
            refine norm_ (a' := ?_) ?_ ?_
            rotate_left
            ·show Act.put _ (some 85) _ = _
             simp only [Act.put, List.setIfInBounds_toArray, List.set_cons_zero, List.set_cons_succ, i64_w, i32_w]
             rfl
            refine one_ (i := 7) (N := some 87) #[true, true, true, true, true, true, true, true, false] rfl rfl (one_of HT_.out (by kernel_rfl)) (by decide) (fun K hK => ?_)
            refine Kd.R_append_rows_step k50 w.heap.size (by rfl) (.tmp 85) (.tmp 86) 23 50 (.agg #[(.int .i64 0), (.int .i64 0), (.int .i64 0), (.int .i64 0)]) 32 rfl Try.underlying23 info50 rfl (by decide) (by omega) v258 y257 y251 _ _ _ (fun k_ => some k_ ≠ (.slice (some Qj) t204.length co51 : Value).ownBlock ∧ some k_ ≠ (.slice Ao69 y251.length co69 : Value).ownBlock ∧ k_ ≠ Qc) (fun _ => False) rfl rfl ?aO ?aR (fun _ _ h => h) (fun _ h => h.elim) ?aF (Below.refl _ _) ?aS ?aL ?_
            (case aR => repeat (first | exact (z30_ Qp.out).2.2 | (with_reducible refine Kd.C_alloc ?_ _) | (with_reducible refine Kd.C_drewN ?_ _) | (with_reducible refine Kd.C_drew ?_)))
            (case aF => exact (fun k_ hk => ⟨z18_ (z19_ (by (with_reducible repeat (first | apply z0_ | apply z1_ | apply z2_)); exact Qe.out)) k_ hk, z18_ (z19_ (by (with_reducible repeat (first | apply z0_ | apply z1_ | apply z2_)); exact Qp.out)) k_ hk, Kd.freshB (g := Qc) (o := .cells #[.int .i64 ((rd_T50 t204 Qa).f0), .int .i64 ((rd_T50 t204 Qa).f1), .int .i64 ((rd_T50 t204 Qa).f2), .int .i64 ((rd_T50 t204 Qa).f3)] 50 (0, 0)) (by (with_reducible repeat (first | refine z10_ ?_ _ | refine z12_ ?_ | refine z11_ ?_ _)); exact Qb.out) k_ hk⟩))
            (case aO => exact (by (with_reducible repeat (first | apply z0_ | apply z1_ | apply z2_)); exact Qz.out))
            (case aS => exact (z9_ (w := w) (g := g) (row := none) (by repeat (first | (with_reducible first | exact HK.out | apply z6_ | apply z7_ | apply z8_ | apply z21_ | refine z22_ ?_ Qh.out _) | exact HK.out))))
            (case aL => have := LMc50.out; omega)
            intro v261 w68 ho hb hg hat
            rw [← Ny260.out] at ho
            have n0_ := z20_ (z26_ (ok := (fun k_ => some k_ ≠ (.slice Ao69 y251.length co69 : Value).ownBlock ∧ k_ ≠ Qc)) (by (with_reducible repeat (first | apply z0_ | apply z1_ | apply z2_)); exact Qe.out) hg hat)
            have n1_ := z20_ (z38_ (by first | ((repeat (first | (with_reducible first | exact HI0.out | apply z31_ | apply z35_ | apply z34_ | apply z40_ | refine z36_ ?_ Qd.out _) | exact HI0.out)); done) | exact z36_ HI0.out Qd.out _ | exact z36_ (z36_ HI0.out Qd.out _) Qd.out _) hg (z39_ HI0.out Qz.out (by decide)))
            have n2_ := z20_ (blk_grown (g := Qc) (o := .cells #[.int .i64 ((rd_T50 t204 Qa).f0), .int .i64 ((rd_T50 t204 Qa).f1), .int .i64 ((rd_T50 t204 Qa).f2), .int .i64 ((rd_T50 t204 Qa).f3)] 50 (0, 0)) (by (with_reducible repeat (first | refine z10_ ?_ _ | refine z12_ ?_ | refine z11_ ?_ _)); exact Qb.out) hg (Kd.R_away Qz.out (fun _ hk => hk.2.2)))
            have n3_ := z20_ (Kd.R_over' (by (with_reducible repeat (first | apply z0_ | apply z1_ | apply z2_)); exact Qm.out) (Kd.R_typed (by (with_reducible repeat (first | apply z0_ | apply z1_ | apply z2_)); exact Qz.out)) (by decide) hg)
            have n4_ := z20_ (z26_ (ok := (fun k_ => some k_ ≠ (.slice (some Qj) t204.length co51 : Value).ownBlock ∧ k_ ≠ Qc)) (by (with_reducible repeat (first | apply z0_ | apply z1_ | apply z2_)); exact Qp.out) hg hat)
            have n5_ := z20_ (z14_ (by repeat (first | (with_reducible first | exact HB.out | apply z3_ | apply z4_ | apply z5_ | refine z25_ ?_ (z37_ HI0.out) | refine z25_ ?_ Qk.out) | exact HB.out)) HL.out hb)
            have n6_ := z20_ (z13_ (by repeat (first | (with_reducible first | exact HK.out | apply z6_ | apply z7_ | apply z8_ | apply z21_ | refine z22_ ?_ Qh.out _) | exact HK.out)) (z27_ hg g) (Kd.R_base2 Qz.out))
            have n7_ := z20_ (ho)
            clear Qe; clear HI0; clear Qb; clear Qm; clear Qp; clear HB; clear HK; clear Qz; have Qe := n0_; have HI0 := n1_; have Qb := n2_; have Qm := n3_; have Qp := n4_; have HB := n5_; have HK := n6_; have HO262 := n7_; clear n0_ n1_ n2_ n3_ n4_ n5_ n6_ n7_; clear ho hb hg hat
            refine hK.out _ _ ⟨(z23_ Qb.out 0).trans rfl, (z23_ Qb.out 1).trans rfl, (z23_ Qb.out 2).trans rfl, (z23_ Qb.out 3).trans rfl⟩ (fun hHeld => ?_)
            clear hK K
            refine norm_ (a' := ?_) ?_ ?_
            rotate_left
            ·show Act.put _ (some 87) _ = _
             simp only [Act.put, List.setIfInBounds_toArray, List.set_cons_zero, List.set_cons_succ, i64_w, i32_w]
             rfl
            refine pure_ (i := 8) (N := some 5) (v := ?_) (a' := ?_) #[true, true, true, true, true, true, true, true, true] rfl rfl (any_of HT_.out (by kernel_rfl)) (fun _ _ _ h => h) (Or.inl ⟨by rfl, ?_⟩) ?_ ?_
            rotate_left
            ·intro w'
             go_simp
             with_reducible rfl
            rotate_left
            ·simp only [Act.put, List.setIfInBounds_toArray, List.set_cons_zero, List.set_cons_succ, i64_w, i32_w]
             rfl
            refine done_ (done_of HT_.out (by kernel_rfl)) ?_
            try go_wp2
            go_roundg k1
            case measure => have := HK1.out; omega
            case rel => exact ⟨(y260), (wrap64 (Qa + 1)), (t243), (by first | rfl | (simp; done) | (simp [*]; done)), H', ⟨by have := HK1.out; omega⟩, ⟨by (with_reducible repeat (first | apply z0_ | apply z1_ | apply z2_)); exact z16_ Qe.out (fun _ hk => hk.2)⟩, ⟨by (with_reducible repeat (first | apply z0_ | apply z1_ | apply z2_)); exact z16_ HO262.out (fun _ hk => hk.1)⟩, ⟨by repeat (first | (with_reducible first | exact HI0.out | apply z31_ | apply z35_ | apply z34_ | apply z40_ | refine z36_ ?_ Qd.out _) | exact HI0.out)⟩, ⟨by repeat (first | (with_reducible first | exact HK.out | apply z6_ | apply z7_ | apply z8_ | apply z21_ | refine z22_ ?_ Qh.out _) | exact HK.out)⟩, ⟨by repeat (first | (with_reducible first | exact HB.out | apply z3_ | apply z4_ | apply z5_ | refine z25_ ?_ (z37_ HI0.out) | refine z25_ ?_ Qk.out) | exact HB.out)⟩⟩
           ·rw [if_neg c50] at H
            exact absurd H (by simp)
          ·rw [if_neg c49] at H
           exact absurd H (by simp)
         ·rw [if_neg c47] at H
          exact absurd H (by simp)
        ·rw [if_neg c46] at H
         exact absurd H (by simp)
       ·rw [if_neg c45] at H
        exact absurd H (by simp)
     ·rw [if_neg c9] at H
      have c9b0 : (t213 == 0) = false := beq_eq_false_iff_ne.mpr c9
      have c9b1 : (t213 != 0) = true := bne_iff_ne.mpr c9
      by_cases c70 : t213 = 1
      ·rw [if_pos c70] at H
       have c70b0 : (t213 == 1) = true := beq_iff_eq.mpr c70
       have c70b1 : (t213 != 1) = false := bne_eq_false_iff_eq.mpr c70
       clear c70
       replace H := Option.bind_eq_some_iff.mp H
       obtain ⟨⟨t265, t266⟩, A710, H⟩ := H
       try dsimp only at H
       have A71 := z20_ A710
       clear A710
       obtain ⟨y267, hy267⟩ : ∃ y_ : List (S50), y_ = (([] : List (S50))) := ⟨_, rfl⟩
       replace H : (if 0 ≤ t265 then (if t265 ≤ (Qg.length : Int) then ((some (Qg.drop (t265 : Int).toNat : List (S50))).bind fun y270 => (if y267.length + y270.length < 4398046511104 then ((some (y267 ++ y270 : List (S50))).bind fun y274 => ((some (Qg.take (t265 : Int).toNat : List (S50))).bind fun y277 => (if y277.length < 4398046511104 then ((some (y277 ++ [(⟨(rd_T50 t204 Qa).f0, (rd_T50 t204 Qa).f2, (rd_T50 t204 Qa).f1, (rd_T50 t204 Qa).f3⟩ : S50)] : List (S50))).bind fun y280 => (if y280.length + y274.length < 4398046511104 then (spec_twoBooks.l0 k1 t204 (y280 ++ y274) (wrap64 (Qa + 1)) s0_0 t266) else (none))) else (none)))) else (none))) else (none)) else (none)) = some (r1, r2, r3) := by first | (rw [hy267]; with_reducible exact H) | (have H2_ := (Option.bind_some _ _).symm.trans H; rw [hy267]; with_reducible exact H2_) | (have H2_ := (Option.bind_some _ _).symm.trans H; with_reducible exact H2_) | with_reducible exact H | (rw [hy267]; exact H) | exact H
       have Ny267 := z20_ hy267
       clear hy267
       by_cases c72 : 0 ≤ t265
       ·rw [if_pos c72] at H
        have c72b0 := eq_true c72
        have c72b1 : decide (0 ≤ t265) = true := decide_eq_true c72
        clear c72
        by_cases c73 : t265 ≤ (Qg.length : Int)
        ·rw [if_pos c73] at H
         have c73b0 := eq_true c73
         have c73b1 : decide (t265 ≤ (Qg.length : Int)) = true := decide_eq_true c73
         clear c73
         obtain ⟨y270, hy270⟩ : ∃ y_ : List (S50), y_ = (Qg.drop (t265 : Int).toNat) := ⟨_, rfl⟩
         replace H : (if y267.length + y270.length < 4398046511104 then ((some (y267 ++ y270 : List (S50))).bind fun y274 => ((some (Qg.take (t265 : Int).toNat : List (S50))).bind fun y277 => (if y277.length < 4398046511104 then ((some (y277 ++ [(⟨(rd_T50 t204 Qa).f0, (rd_T50 t204 Qa).f2, (rd_T50 t204 Qa).f1, (rd_T50 t204 Qa).f3⟩ : S50)] : List (S50))).bind fun y280 => (if y280.length + y274.length < 4398046511104 then (spec_twoBooks.l0 k1 t204 (y280 ++ y274) (wrap64 (Qa + 1)) s0_0 t266) else (none))) else (none)))) else (none)) = some (r1, r2, r3) := by first | (rw [hy270]; with_reducible exact H) | (have H2_ := (Option.bind_some _ _).symm.trans H; rw [hy270]; with_reducible exact H2_) | (have H2_ := (Option.bind_some _ _).symm.trans H; with_reducible exact H2_) | with_reducible exact H | (rw [hy270]; exact H) | exact H
         have Ny270 := z20_ hy270
         clear hy270
         by_cases c74 : y267.length + y270.length < 4398046511104
         ·rw [if_pos c74] at H
          have LMc74 := z20_ c74
          clear c74
          obtain ⟨y274, hy274⟩ : ∃ y_ : List (S50), y_ = (y267 ++ y270) := ⟨_, rfl⟩
          replace H : ((some (Qg.take (t265 : Int).toNat : List (S50))).bind fun y277 => (if y277.length < 4398046511104 then ((some (y277 ++ [(⟨(rd_T50 t204 Qa).f0, (rd_T50 t204 Qa).f2, (rd_T50 t204 Qa).f1, (rd_T50 t204 Qa).f3⟩ : S50)] : List (S50))).bind fun y280 => (if y280.length + y274.length < 4398046511104 then (spec_twoBooks.l0 k1 t204 (y280 ++ y274) (wrap64 (Qa + 1)) s0_0 t266) else (none))) else (none))) = some (r1, r2, r3) := by first | (rw [hy274]; with_reducible exact H) | (have H2_ := (Option.bind_some _ _).symm.trans H; rw [hy274]; with_reducible exact H2_) | (have H2_ := (Option.bind_some _ _).symm.trans H; with_reducible exact H2_) | with_reducible exact H | (rw [hy274]; exact H) | exact H
          have Ny274 := z20_ hy274
          clear hy274
          have c75b0 := eq_true (z29_ (by first | (with_reducible assumption) | assumption) : t265 ≤ (Qg.length : Int))
          obtain ⟨y277, hy277⟩ : ∃ y_ : List (S50), y_ = (Qg.take (t265 : Int).toNat) := ⟨_, rfl⟩
          replace H : (if y277.length < 4398046511104 then ((some (y277 ++ [(⟨(rd_T50 t204 Qa).f0, (rd_T50 t204 Qa).f2, (rd_T50 t204 Qa).f1, (rd_T50 t204 Qa).f3⟩ : S50)] : List (S50))).bind fun y280 => (if y280.length + y274.length < 4398046511104 then (spec_twoBooks.l0 k1 t204 (y280 ++ y274) (wrap64 (Qa + 1)) s0_0 t266) else (none))) else (none)) = some (r1, r2, r3) := by first | (rw [hy277]; with_reducible exact H) | (have H2_ := (Option.bind_some _ _).symm.trans H; rw [hy277]; with_reducible exact H2_) | (have H2_ := (Option.bind_some _ _).symm.trans H; with_reducible exact H2_) | with_reducible exact H | (rw [hy277]; exact H) | exact H
          have Ny277 := z20_ hy277
          clear hy277
          by_cases c76 : y277.length < 4398046511104
          ·rw [if_pos c76] at H
           have LMc76 := z20_ c76
           clear c76
           obtain ⟨y280, hy280⟩ : ∃ y_ : List (S50), y_ = (y277 ++ [(⟨(rd_T50 t204 Qa).f0, (rd_T50 t204 Qa).f2, (rd_T50 t204 Qa).f1, (rd_T50 t204 Qa).f3⟩ : S50)]) := ⟨_, rfl⟩
           replace H : (if y280.length + y274.length < 4398046511104 then (spec_twoBooks.l0 k1 t204 (y280 ++ y274) (wrap64 (Qa + 1)) s0_0 t266) else (none)) = some (r1, r2, r3) := by first | (rw [hy280]; with_reducible exact H) | (have H2_ := (Option.bind_some _ _).symm.trans H; rw [hy280]; with_reducible exact H2_) | (have H2_ := (Option.bind_some _ _).symm.trans H; with_reducible exact H2_) | with_reducible exact H | (rw [hy280]; exact H) | exact H
           have Ny280 := z20_ hy280
           clear hy280
           by_cases c77 : y280.length + y274.length < 4398046511104
           ·rw [if_pos c77] at H
            have LMc77 := z20_ c77
            clear c77
            obtain ⟨y283, hy283⟩ : ∃ y_ : List (S50), y_ = (y280 ++ y274) := ⟨_, rfl⟩
            replace H : (spec_twoBooks.l0 k1 t204 y283 (wrap64 (Qa + 1)) s0_0 t266) = some (r1, r2, r3) := by first | (rw [hy283]; with_reducible exact H) | (have H2_ := (Option.bind_some _ _).symm.trans H; rw [hy283]; with_reducible exact H2_) | (have H2_ := (Option.bind_some _ _).symm.trans H; with_reducible exact H2_) | with_reducible exact H | (rw [hy283]; exact H) | exact H
            have Ny283 := z20_ hy283
            clear hy283
            have H' := z20_ H
            clear H
            obtain ⟨Ao78, co78, eo78⟩ := Kd.R_slice Qe.out
            subst eo78
            have p211 : 0 ≤ (Qa : Int) := z29_ (by first | (with_reducible assumption) | assumption)
            have q211 : Qa < (t204.length : Int) := z29_ (by first | (with_reducible assumption) | assumption)
            obtain ⟨Qj, e211, hx211_0, hx211_1, hx211_2, hx211_3⟩ := at_T50 (z30_ Qe.out).2.2 Qa p211 q211
            cases e211
            replace p211 := eq_true p211; replace q211 := eq_true q211
            try go_wp2_with (first | ((with_reducible refine gate_dst (N := 7) rfl ?_); refine box_event ?hg (N := 7) ?hd (cs := #[.int .i64 0, .int .i64 0, .int .i64 0, .int .i64 0]) (t := 50) ?hr ?_; (case hd => rfl); (case hg => rfl); (case hr => first | (go_simp; done) | (go_simp; rfl)); intro Qc hg w79 hbox hb; have n0_ := z20_ (Kd.R_below (Kd.R_elderB (by (with_reducible repeat (first | apply z0_ | apply z1_ | apply z2_)); exact Qe.out) Qc (Nat.le_of_eq hg.symm)) hb); have n1_ := z20_ (Kd.R_below (Kd.R_elderB (by (with_reducible repeat (first | apply z0_ | apply z1_ | apply z2_)); exact Qf.out) Qc (Nat.le_of_eq hg.symm)) hb); have n2_ := z20_ (z33_ (by repeat (first | (with_reducible first | exact HI0.out | apply z31_ | apply z35_ | apply z34_ | apply z40_) | exact HI0.out)) hb); have n3_ := z20_ (z13_ (by repeat (first | (with_reducible first | exact HK.out | apply z6_ | apply z7_ | apply z8_ | apply z21_) | exact HK.out)) (z28_ hb g none) (.inl rfl)); have n4_ := z20_ (below_step (by repeat (first | (with_reducible first | exact HB.out | apply z3_ | apply z4_ | apply z5_ | refine z25_ ?_ (z37_ HI0.out)) | exact HB.out)) hb); have n5_ := z20_ (hbox); have n6_ := z20_ ((by rw [hg]; exact (z9_ (w := w) (g := g) (row := none) (by repeat (first | (with_reducible first | exact HK.out | apply z6_ | apply z7_ | apply z8_ | apply z21_) | exact HK.out))) : w.heap.size ≤ Qc)); have n7_ := z20_ ((Nat.le_trans HW0.out (by rw [hg]; exact (z9_ (w := w) (g := g) (row := none) (by repeat (first | (with_reducible first | exact HK.out | apply z6_ | apply z7_ | apply z8_ | apply z21_) | exact HK.out))) : w.heap.size ≤ Qc) : w0.heap.size ≤ Qc)); have n8_ := z20_ ((by rw [hg]; exact Nat.ne_of_lt (IsS68.lt (show IsS68 w0 _ g s0_0 Qi from by repeat (first | (with_reducible first | exact HI0.out | apply z31_ | apply z35_ | apply z34_ | apply z40_) | exact HI0.out))) : g ≠ Qc)); have n9_ := z20_ ((by rw [hg]; exact Nat.ne_of_gt (IsS68.lt (show IsS68 w0 _ g s0_0 Qi from by repeat (first | (with_reducible first | exact HI0.out | apply z31_ | apply z35_ | apply z34_ | apply z40_) | exact HI0.out))) : Qc ≠ g)); clear Qe; clear Qf; clear HI0; clear HK; clear HB; have Qe := n0_; have Qf := n1_; have HI0 := n2_; have HK := n3_; have HB := n4_; have Qb := n5_; have Qh := n6_; have Qk := n7_; have Qd := n8_; have Ql := n9_; clear n0_ n1_ n2_ n3_ n4_ n5_ n6_ n7_ n8_ n9_; clear hb hbox hg; have hnb80 := Ql.out; have hnc80 := Qd.out; have hcz81_0 : w79.cell? ⟨Qc, 0, none⟩ = some (.int .i64 0) := (z23_ Qb.out 0).trans rfl; have hcz81_1 : w79.cell? ⟨Qc, 1, none⟩ = some (.int .i64 0) := (z23_ Qb.out 1).trans rfl; have hcz81_2 : w79.cell? ⟨Qc, 2, none⟩ = some (.int .i64 0) := (z23_ Qb.out 2).trans rfl; have hcz81_3 : w79.cell? ⟨Qc, 3, none⟩ = some (.int .i64 0) := (z23_ Qb.out 3).trans rfl; have hfz81_0 := z24_ Qb.out 0; have hfz81_1 := z24_ Qb.out 1; have hfz81_2 := z24_ Qb.out 2; have hfz81_3 := z24_ Qb.out 3) | ((with_reducible refine gate_callee (f := 37) rfl ?_); refine goesL_ (some 25) rfl rfl Try.func37 (by kernel_rfl) rfl #[.pointer (some ⟨g, 0, none⟩), .int .i64 10] rfl (by (try simp only [List.map_toArray, List.map_cons, List.map_nil]); first | done | rfl | (simp only [List.length_drop, List.length_take]; rfl)) ?_; (with_reducible refine (spec_reader_pick.calls k1 g s0_0 Qi 10 t213 t214 w0 _ ?side1 ?side2 A8.out).mono ?_); (case side1 => repeat (first | (with_reducible first | exact HI0.out | apply z31_ | apply z35_ | apply z34_ | apply z40_ | refine z36_ ?_ Qd.out _) | exact HI0.out)); (case side2 => repeat (first | (with_reducible first | exact HB.out | apply z3_ | apply z4_ | apply z5_ | refine z25_ ?_ (z37_ HI0.out) | refine z25_ ?_ Qk.out) | exact HB.out)); rintro e w82 ⟨rfl, hi, hb, hk⟩; refine ⟨_, rfl, ?_⟩; have n0_ := z20_ (z16_ (z17_ (z32_ (show IsS68 w0 _ g s0_0 Qi from by repeat (first | (with_reducible first | exact HI0.out | apply z31_ | apply z35_ | apply z34_ | apply z40_ | refine z36_ ?_ Qd.out _) | exact HI0.out)) (by (with_reducible repeat (first | apply z0_ | apply z1_ | apply z2_)); exact (z16_ (z15_ (p := ⟨Qc, 3, none⟩) (z15_ (p := ⟨Qc, 2, none⟩) (z15_ (p := ⟨Qc, 1, none⟩) (z15_ (p := ⟨Qc, 0, none⟩) (z16_ Qe.out (fun k_ hk => (⟨hk, hk.2⟩ : _ ∧ k_ ≠ Qc))) (fun _ hk => hk.2) (.int .i64 ((rd_T50 t204 Qa).f0))) (fun _ hk => hk.2) (.int .i64 ((rd_T50 t204 Qa).f1))) (fun _ hk => hk.2) (.int .i64 ((rd_T50 t204 Qa).f2))) (fun _ hk => hk.2) (.int .i64 ((rd_T50 t204 Qa).f3))) (fun _ h_ => h_.1))) (by decide)) hk (fun _ h => h.2)) (fun _ h => h.1)); have n1_ := z20_ (z16_ (z17_ (z32_ (show IsS68 w0 _ g s0_0 Qi from by repeat (first | (with_reducible first | exact HI0.out | apply z31_ | apply z35_ | apply z34_ | apply z40_ | refine z36_ ?_ Qd.out _) | exact HI0.out)) (by (with_reducible repeat (first | apply z0_ | apply z1_ | apply z2_)); exact (z16_ (z15_ (p := ⟨Qc, 3, none⟩) (z15_ (p := ⟨Qc, 2, none⟩) (z15_ (p := ⟨Qc, 1, none⟩) (z15_ (p := ⟨Qc, 0, none⟩) (z16_ Qf.out (fun k_ hk => (⟨hk, hk.2⟩ : _ ∧ k_ ≠ Qc))) (fun _ hk => hk.2) (.int .i64 ((rd_T50 t204 Qa).f0))) (fun _ hk => hk.2) (.int .i64 ((rd_T50 t204 Qa).f1))) (fun _ hk => hk.2) (.int .i64 ((rd_T50 t204 Qa).f2))) (fun _ hk => hk.2) (.int .i64 ((rd_T50 t204 Qa).f3))) (fun _ h_ => h_.1))) (by decide)) hk (fun _ h => h.2)) (fun _ h => h.1)); have n2_ := z20_ (KeepBut.blk hk (g' := Qc) (o := .cells #[.int .i64 ((rd_T50 t204 Qa).f0), .int .i64 ((rd_T50 t204 Qa).f1), .int .i64 ((rd_T50 t204 Qa).f2), .int .i64 ((rd_T50 t204 Qa).f3)] 50 (0, 0)) (by (with_reducible repeat (first | refine z10_ ?_ _ | refine z12_ ?_ | refine z11_ ?_ _)); refine blk_put (cs := #[.int .i64 ((rd_T50 t204 Qa).f0), .int .i64 ((rd_T50 t204 Qa).f1), .int .i64 ((rd_T50 t204 Qa).f2), .int .i64 0]) ?_ 3 _ rfl; (with_reducible repeat (first | refine z10_ ?_ _ | refine z12_ ?_ | refine z11_ ?_ _)); refine blk_put (cs := #[.int .i64 ((rd_T50 t204 Qa).f0), .int .i64 ((rd_T50 t204 Qa).f1), .int .i64 0, .int .i64 0]) ?_ 2 _ rfl; (with_reducible repeat (first | refine z10_ ?_ _ | refine z12_ ?_ | refine z11_ ?_ _)); refine blk_put (cs := #[.int .i64 ((rd_T50 t204 Qa).f0), .int .i64 0, .int .i64 0, .int .i64 0]) ?_ 1 _ rfl; (with_reducible repeat (first | refine z10_ ?_ _ | refine z12_ ?_ | refine z11_ ?_ _)); refine blk_put (cs := #[.int .i64 0, .int .i64 0, .int .i64 0, .int .i64 0]) ?_ 0 _ rfl; (with_reducible repeat (first | refine z10_ ?_ _ | refine z12_ ?_ | refine z11_ ?_ _)); exact Qb.out) Ql.out (by simp)); have n3_ := z20_ (z13_ (by repeat (first | (with_reducible first | exact HK.out | apply z6_ | apply z7_ | apply z8_ | apply z21_ | refine z22_ ?_ Qh.out _) | exact HK.out)) hk (.inl rfl)); have n4_ := z20_ (hb); have n5_ := z20_ (hi); clear Qe; clear Qf; clear Qb; clear HK; clear HB; clear HI0; have Qe := n0_; have Qf := n1_; have Qb := n2_; have HK := n3_; have HB := n4_; have HI0 := n5_; clear n0_ n1_ n2_ n3_ n4_ n5_; (try clear hb); (try clear hb2); (try clear hk); (try clear hi); have p263 : 0 ≤ (Qa : Int) := z29_ (by first | (with_reducible assumption) | assumption); have q263 : Qa < (t204.length : Int) := z29_ (by first | (with_reducible assumption) | assumption); obtain ⟨ad263, e263, hx263_0, hx263_1, hx263_2, hx263_3⟩ := at_T50 (z30_ Qe.out).2.2 Qa p263 q263; obtain rfl : Qj = ad263 := (by injection e263); replace p263 := eq_true p263; replace q263 := eq_true q263; have hcz83_0 : w82.cell? ⟨Qc, 0, none⟩ = some (.int .i64 ((rd_T50 t204 Qa).f0)) := (z23_ Qb.out 0).trans rfl; have hcz83_1 : w82.cell? ⟨Qc, 1, none⟩ = some (.int .i64 ((rd_T50 t204 Qa).f1)) := (z23_ Qb.out 1).trans rfl; have hcz83_2 : w82.cell? ⟨Qc, 2, none⟩ = some (.int .i64 ((rd_T50 t204 Qa).f2)) := (z23_ Qb.out 2).trans rfl; have hcz83_3 : w82.cell? ⟨Qc, 3, none⟩ = some (.int .i64 ((rd_T50 t204 Qa).f3)) := (z23_ Qb.out 3).trans rfl; have hfz83_0 := z24_ Qb.out 0; have hfz83_1 := z24_ Qb.out 1; have hfz83_2 := z24_ Qb.out 2; have hfz83_3 := z24_ Qb.out 3; have p264 : 0 ≤ (Qa : Int) := z29_ (by first | (with_reducible assumption) | assumption); have q264 : Qa < (t204.length : Int) := z29_ (by first | (with_reducible assumption) | assumption); obtain ⟨ad264, e264, hx264_0, hx264_1, hx264_2, hx264_3⟩ := at_T50 (z30_ Qe.out).2.2 Qa p264 q264; obtain rfl : Qj = ad264 := (by injection e264); have hn264_0 : Qj.block ≠ Qc := (by first | exact Kd.own_blk (Kd.R_ne Qe.out Qb.out (by decide)) | (have z_ := Qe.out.1 _ rfl; first | exact z_.2 | exact z_.2.2 | exact z_.1.2 | exact z_.2.1 | exact z_.1 | exact z_)); replace hx264_0 := (cell_far (p := ⟨Qc, 1, none⟩) (by first | (rw [add_block]; exact hn264_0) | (show (Addr.add _ _).block ≠ _; rw [add_block]; exact hn264_0) | exact hn264_0) (.int .i64 ((rd_T50 t204 Qa).f2))).trans hx264_0; replace hx264_1 := (cell_far (p := ⟨Qc, 1, none⟩) (by first | (rw [add_block]; exact hn264_0) | (show (Addr.add _ _).block ≠ _; rw [add_block]; exact hn264_0) | exact hn264_0) (.int .i64 ((rd_T50 t204 Qa).f2))).trans hx264_1; replace hx264_2 := (cell_far (p := ⟨Qc, 1, none⟩) (by first | (rw [add_block]; exact hn264_0) | (show (Addr.add _ _).block ≠ _; rw [add_block]; exact hn264_0) | exact hn264_0) (.int .i64 ((rd_T50 t204 Qa).f2))).trans hx264_2; replace hx264_3 := (cell_far (p := ⟨Qc, 1, none⟩) (by first | (rw [add_block]; exact hn264_0) | (show (Addr.add _ _).block ≠ _; rw [add_block]; exact hn264_0) | exact hn264_0) (.int .i64 ((rd_T50 t204 Qa).f2))).trans hx264_3; clear hn264_0; replace p264 := eq_true p264; replace q264 := eq_true q264; obtain ⟨Ao84, co84, eo84⟩ := Kd.R_slice Qf.out; subst eo84) | ((with_reducible refine gate_callee (f := 37) rfl ?_); refine goesL_ (some 74) rfl rfl Try.func37 (by kernel_rfl) rfl #[.pointer (some ⟨g, 0, none⟩), .int .i64 (wrap64 ((Qg.length : Int) + 1))] rfl (by (try simp only [List.map_toArray, List.map_cons, List.map_nil]); first | done | rfl | (simp only [List.length_drop, List.length_take]; rfl)) ?_; (with_reducible refine (spec_reader_pick.calls k1 g s0_0 t214 (wrap64 ((Qg.length : Int) + 1)) t265 t266 w0 _ ?side1 ?side2 A71.out).mono ?_); (case side1 => repeat (first | (with_reducible first | exact HI0.out | apply z31_ | apply z35_ | apply z34_ | apply z40_ | refine z36_ ?_ Qd.out _) | exact HI0.out)); (case side2 => repeat (first | (with_reducible first | exact HB.out | apply z3_ | apply z4_ | apply z5_ | refine z25_ ?_ (z37_ HI0.out) | refine z25_ ?_ Qk.out) | exact HB.out)); rintro e w85 ⟨rfl, hi, hb, hk⟩; refine ⟨_, rfl, ?_⟩; have n0_ := z20_ (z16_ (z17_ (z32_ (show IsS68 w0 _ g s0_0 t214 from by repeat (first | (with_reducible first | exact HI0.out | apply z31_ | apply z35_ | apply z34_ | apply z40_ | refine z36_ ?_ Qd.out _) | exact HI0.out)) (by (with_reducible repeat (first | apply z0_ | apply z1_ | apply z2_)); exact (z16_ (z15_ (p := ⟨Qc, 2, none⟩) (z15_ (p := ⟨Qc, 1, none⟩) (z16_ Qe.out (fun k_ hk => (⟨hk, hk.2⟩ : _ ∧ k_ ≠ Qc))) (fun _ hk => hk.2) (.int .i64 ((rd_T50 t204 Qa).f2))) (fun _ hk => hk.2) (.int .i64 ((rd_T50 t204 Qa).f1))) (fun _ h_ => h_.1))) (by decide)) hk (fun _ h => h.2)) (fun _ h => h.1)); have n1_ := z20_ (z16_ (z17_ (z32_ (show IsS68 w0 _ g s0_0 t214 from by repeat (first | (with_reducible first | exact HI0.out | apply z31_ | apply z35_ | apply z34_ | apply z40_ | refine z36_ ?_ Qd.out _) | exact HI0.out)) (by (with_reducible repeat (first | apply z0_ | apply z1_ | apply z2_)); exact (z16_ (z15_ (p := ⟨Qc, 2, none⟩) (z15_ (p := ⟨Qc, 1, none⟩) (z16_ Qf.out (fun k_ hk => (⟨hk, hk.2⟩ : _ ∧ k_ ≠ Qc))) (fun _ hk => hk.2) (.int .i64 ((rd_T50 t204 Qa).f2))) (fun _ hk => hk.2) (.int .i64 ((rd_T50 t204 Qa).f1))) (fun _ h_ => h_.1))) (by decide)) hk (fun _ h => h.2)) (fun _ h => h.1)); have n2_ := z20_ (KeepBut.blk hk (g' := Qc) (o := .cells #[.int .i64 ((rd_T50 t204 Qa).f0), .int .i64 ((rd_T50 t204 Qa).f2), .int .i64 ((rd_T50 t204 Qa).f1), .int .i64 ((rd_T50 t204 Qa).f3)] 50 (0, 0)) (by (with_reducible repeat (first | refine z10_ ?_ _ | refine z12_ ?_ | refine z11_ ?_ _)); refine blk_put (cs := #[.int .i64 ((rd_T50 t204 Qa).f0), .int .i64 ((rd_T50 t204 Qa).f2), .int .i64 ((rd_T50 t204 Qa).f2), .int .i64 ((rd_T50 t204 Qa).f3)]) ?_ 2 _ rfl; (with_reducible repeat (first | refine z10_ ?_ _ | refine z12_ ?_ | refine z11_ ?_ _)); refine blk_put (cs := #[.int .i64 ((rd_T50 t204 Qa).f0), .int .i64 ((rd_T50 t204 Qa).f1), .int .i64 ((rd_T50 t204 Qa).f2), .int .i64 ((rd_T50 t204 Qa).f3)]) ?_ 1 _ rfl; (with_reducible repeat (first | refine z10_ ?_ _ | refine z12_ ?_ | refine z11_ ?_ _)); exact Qb.out) Ql.out (by simp)); have n3_ := z20_ (z13_ (by repeat (first | (with_reducible first | exact HK.out | apply z6_ | apply z7_ | apply z8_ | apply z21_ | refine z22_ ?_ Qh.out _) | exact HK.out)) hk (.inl rfl)); have n4_ := z20_ (hb); have n5_ := z20_ (hi); clear Qe; clear Qf; clear Qb; clear HK; clear HB; clear HI0; have Qe := n0_; have Qf := n1_; have Qb := n2_; have HK := n3_; have HB := n4_; have HI0 := n5_; clear n0_ n1_ n2_ n3_ n4_ n5_; (try clear hb); (try clear hb2); (try clear hk); (try clear hi)) | ((with_reducible refine gate_dst (N := 75) rfl ?_); refine Kd.R_lit k50 _ 50 ?hg (N := 75) ?hd (xs := ([] : List (S50))) (inner := []) (ok := fun _ => True) (okp := fun _ => True) ?hr ?hp (fun _ hk => hk) trivial (Below.refl _ _) (Nat.le_refl _) (by simp) ?_; (case hd => rfl); (case hg => rfl); (case hr => first | (go_simp; done) | (go_simp; rfl)); (case hp => exact (Reps.none _ _)); intro v268 w86 ho87 hb hg_ hnew_; clear hg_ hnew_; (first | rw [← Ny267.out] at ho87 | (simp only [Int.reduceToNat] at ho87; rw [← Ny267.out] at ho87)); have n0_ := z20_ (Kd.R_elder' (by (with_reducible repeat (first | apply z0_ | apply z1_ | apply z2_)); exact Qe.out) (Kd.R_base ho87) hb); have n1_ := z20_ (Kd.R_elder' (by (with_reducible repeat (first | apply z0_ | apply z1_ | apply z2_)); exact Qf.out) (Kd.R_base ho87) hb); have n2_ := z20_ (Kd.R_lower (Kd.R_newB (Kd.R_new' (Kd.R_new' ho87 (z19_ (by (with_reducible repeat (first | apply z0_ | apply z1_ | apply z2_)); exact Qe.out))) (z19_ (by (with_reducible repeat (first | apply z0_ | apply z1_ | apply z2_)); exact Qf.out))) (g := Qc) (o := .cells #[.int .i64 ((rd_T50 t204 Qa).f0), .int .i64 ((rd_T50 t204 Qa).f2), .int .i64 ((rd_T50 t204 Qa).f1), .int .i64 ((rd_T50 t204 Qa).f3)] 50 (0, 0)) (by (with_reducible repeat (first | refine z10_ ?_ _ | refine z12_ ?_ | refine z11_ ?_ _)); exact Qb.out)) (z9_ (w := w) (g := g) (row := none) (by repeat (first | (with_reducible first | exact HK.out | apply z6_ | apply z7_ | apply z8_ | apply z21_ | refine z22_ ?_ Qh.out _) | exact HK.out)))); have n3_ := z20_ (z33_ (by repeat (first | (with_reducible first | exact HI0.out | apply z31_ | apply z35_ | apply z34_ | apply z40_ | refine z36_ ?_ Qd.out _) | exact HI0.out)) hb); have n4_ := z20_ (blk_below (g := Qc) (o := .cells #[.int .i64 ((rd_T50 t204 Qa).f0), .int .i64 ((rd_T50 t204 Qa).f2), .int .i64 ((rd_T50 t204 Qa).f1), .int .i64 ((rd_T50 t204 Qa).f3)] 50 (0, 0)) (by (with_reducible repeat (first | refine z10_ ?_ _ | refine z12_ ?_ | refine z11_ ?_ _)); exact Qb.out) hb); have n5_ := z20_ (z13_ (by repeat (first | (with_reducible first | exact HK.out | apply z6_ | apply z7_ | apply z8_ | apply z21_ | refine z22_ ?_ Qh.out _) | exact HK.out)) (z28_ hb g none) (.inl rfl)); have n6_ := z20_ (below_step (by repeat (first | (with_reducible first | exact HB.out | apply z3_ | apply z4_ | apply z5_ | refine z25_ ?_ (z37_ HI0.out) | refine z25_ ?_ Qk.out) | exact HB.out)) hb); clear Qe; clear Qf; clear HI0; clear Qb; clear HK; clear HB; have Qe := n0_; have Qf := n1_; have HO269 := n2_; have HI0 := n3_; have Qb := n4_; have HK := n5_; have HB := n6_; clear n0_ n1_ n2_ n3_ n4_ n5_ n6_; clear hb ho87; have q88 : (t265 : Int) ≤ ((Qg.length : Int) : Int) := z29_ (by first | (with_reducible assumption) | assumption); obtain ⟨i088, hi088, _, hsz88, _⟩ := info_parts info50; have hroom88 : Qg.length ≤ co84 := (z30_ Qf.out).2.1; have hC88 : Kd.C k50 _ Ao84 Qg.length Qg := (z30_ Qf.out).2.2; have q088 : (0 : Int) ≤ (t265 : Int) := z29_ (by first | (with_reducible assumption) | assumption); have hcut88 := cut_from (P := Try.prog) 23 50 .i64 Try.underlying23 hi088 4 hsz88 Ao84 Qg.length co84 t265 q088 q88; have hr88 := Kd.C_drop (m := (t265 : Int).toNat) (c := co84) hC88 (by omega) hroom88; obtain ⟨A88, hA88⟩ : ∃ A1, A1 = (if co84 = (t265 : Int).toNat then Ao84 else (Ao84 : Option Addr).map (·.add ((t265 : Int).toNat * 4))) := ⟨_, rfl⟩; obtain ⟨c88, hc88⟩ : ∃ c1, c1 = co84 - (t265 : Int).toNat := ⟨_, rfl⟩; have hy88 : y270.length = Qg.length - (t265 : Int).toNat := (by rw [Ny270.out, List.length_drop] <;> omega); rw [show (Qg).drop (t265 : Int).toNat = y270 from Ny270.out.symm] at hr88; replace hr88 : Kd.C k50 _ A88 y270.length y270 := (by rw [hA88]; exact hr88); rw [← hy88, ← hA88, ← hc88] at hcut88; have HR273 := z20_ hr88; have HC273 := z20_ (show y270.length ≤ c88 from by rw [hy88, hc88]; exact Nat.sub_le_sub_right hroom88 _); clear hr88 hC88 hroom88 hi088 hsz88 hc88; have KY88 := z20_ hy88; have KA88 := z20_ hA88; clear hy88 hA88; have KL88 := z20_ (show (t265 : Int).toNat ≤ Qg.length from by omega); replace q88 := eq_true q88) | ((with_reducible refine gate_builtin (b := .append) (xs := #[.tmp 75, .tmp 78]) rfl ?_); at_builtin; refine Kd.R_append_rows k50 w.heap.size rfl (.tmp 75) (.tmp 78) 23 50 (.agg #[(.int .i64 0), (.int .i64 0), (.int .i64 0), (.int .i64 0)]) 32 rfl Try.underlying23 info50 rfl (by decide) (by omega) v268 y267 y270 _ _ _ (fun k_ => some k_ ≠ (.slice (some Qj) t204.length co78 : Value).ownBlock ∧ some k_ ≠ (.slice Ao84 Qg.length co84 : Value).ownBlock ∧ k_ ≠ Qc) (fun _ => False) rfl rfl ?aO ?aR (fun _ _ h => h) (fun _ h => h.elim) ?aF (Below.refl _ _) ?aS ?aL ?_; (case aR => repeat (first | exact (by repeat (first | (with_reducible exact HR273.out) | (with_reducible refine Kd.C_alloc ?_ _) | (with_reducible refine Kd.C_drewN ?_ _) | (with_reducible refine Kd.C_drew ?_) | exact HR273.out)) | (with_reducible refine Kd.C_alloc ?_ _) | (with_reducible refine Kd.C_drewN ?_ _) | (with_reducible refine Kd.C_drew ?_))); (case aF => exact (fun k_ hk => ⟨z18_ (z19_ (by (with_reducible repeat (first | apply z0_ | apply z1_ | apply z2_)); exact Qe.out)) k_ hk, z18_ (z19_ (by (with_reducible repeat (first | apply z0_ | apply z1_ | apply z2_)); exact Qf.out)) k_ hk, Kd.freshB (g := Qc) (o := .cells #[.int .i64 ((rd_T50 t204 Qa).f0), .int .i64 ((rd_T50 t204 Qa).f2), .int .i64 ((rd_T50 t204 Qa).f1), .int .i64 ((rd_T50 t204 Qa).f3)] 50 (0, 0)) (by (with_reducible repeat (first | refine z10_ ?_ _ | refine z12_ ?_ | refine z11_ ?_ _)); exact Qb.out) k_ hk⟩)); (case aO => exact (by (with_reducible repeat (first | apply z0_ | apply z1_ | apply z2_)); exact z16_ HO269.out (fun _ hk => ⟨hk.1.1.2, ⟨hk.1.2, hk.2⟩⟩))); (case aS => exact (z9_ (w := w) (g := g) (row := none) (by repeat (first | (with_reducible first | exact HK.out | apply z6_ | apply z7_ | apply z8_ | apply z21_ | refine z22_ ?_ Qh.out _) | exact HK.out)))); (case aL => have := LMc74.out; omega); intro v275 w89 ho hb hg hat; rw [← Ny274.out] at ho; have n0_ := z20_ (z26_ (ok := (fun k_ => some k_ ≠ (.slice Ao84 Qg.length co84 : Value).ownBlock ∧ k_ ≠ Qc)) (by (with_reducible repeat (first | apply z0_ | apply z1_ | apply z2_)); exact Qe.out) hg hat); have n1_ := z20_ (z26_ (ok := (fun k_ => some k_ ≠ (.slice (some Qj) t204.length co78 : Value).ownBlock ∧ k_ ≠ Qc)) (by (with_reducible repeat (first | apply z0_ | apply z1_ | apply z2_)); exact Qf.out) hg hat); have n2_ := z20_ (z38_ (by first | ((repeat (first | (with_reducible first | exact HI0.out | apply z31_ | apply z35_ | apply z34_ | apply z40_ | refine z36_ ?_ Qd.out _) | exact HI0.out)); done) | exact z36_ HI0.out Qd.out _ | exact z36_ (z36_ HI0.out Qd.out _) Qd.out _) hg (z39_ HI0.out HO269.out (by decide))); have n3_ := z20_ (blk_grown (g := Qc) (o := .cells #[.int .i64 ((rd_T50 t204 Qa).f0), .int .i64 ((rd_T50 t204 Qa).f2), .int .i64 ((rd_T50 t204 Qa).f1), .int .i64 ((rd_T50 t204 Qa).f3)] 50 (0, 0)) (by (with_reducible repeat (first | refine z10_ ?_ _ | refine z12_ ?_ | refine z11_ ?_ _)); exact Qb.out) hg (Kd.R_away HO269.out (fun _ hk => hk.2))); have n4_ := z20_ (z14_ (by repeat (first | (with_reducible first | exact HB.out | apply z3_ | apply z4_ | apply z5_ | refine z25_ ?_ (z37_ HI0.out) | refine z25_ ?_ Qk.out) | exact HB.out)) HL.out hb); have n5_ := z20_ (z13_ (by repeat (first | (with_reducible first | exact HK.out | apply z6_ | apply z7_ | apply z8_ | apply z21_ | refine z22_ ?_ Qh.out _) | exact HK.out)) (z27_ hg g) (Kd.R_base2 HO269.out)); have n6_ := z20_ ((show Kd.C k50 w89 A88 y270.length y270 from by rw [Ny270.out, KA88.out]; exact Kd.C_drop (m := (t265 : Int).toNat) (c := co84) ((z30_ (z26_ (ok := (fun k_ => some k_ ≠ (.slice (some Qj) t204.length co78 : Value).ownBlock ∧ k_ ≠ Qc)) (by (with_reducible repeat (first | apply z0_ | apply z1_ | apply z2_)); exact Qf.out) hg hat)).2.2) KL88.out ((z30_ (z26_ (ok := (fun k_ => some k_ ≠ (.slice (some Qj) t204.length co78 : Value).ownBlock ∧ k_ ≠ Qc)) (by (with_reducible repeat (first | apply z0_ | apply z1_ | apply z2_)); exact Qf.out) hg hat)).2.1))); have n7_ := z20_ (ho); clear Qe; clear Qf; clear HI0; clear Qb; clear HB; clear HK; clear HR273; clear HO269; have Qe := n0_; have Qf := n1_; have HI0 := n2_; have Qb := n3_; have HB := n4_; have HK := n5_; have HR273 := n6_; have Qq := n7_; clear n0_ n1_ n2_ n3_ n4_ n5_ n6_ n7_; clear ho hb hg hat))
            have n0_ := z20_ (z2_ Qe.out)
            have n1_ := z20_ (z2_ Qf.out)
            have n2_ := z20_ (z2_ Qq.out)
            have n3_ := z20_ (z12_ Qb.out)
            have n4_ := z20_ (Kd.C_drew HR273.out)
            have n5_ := z20_ (z34_ HI0.out)
            have n6_ := z20_ (z8_ HK.out)
            have n7_ := z20_ (z5_ HB.out)
            clear Qe; clear Qf; clear Qq; clear Qb; clear HR273; clear HI0; clear HK; clear HB; have Qe := n0_; have Qf := n1_; have Qq := n2_; have Qb := n3_; have HR273 := n4_; have HI0 := n5_; have HK := n6_; have HB := n7_; clear n0_ n1_ n2_ n3_ n4_ n5_ n6_ n7_
            have q91 : (t265 : Int) ≤ ((Qg.length : Int) : Int) := z29_ (by first | (with_reducible assumption) | assumption)
            obtain ⟨i091, hi091, _, hsz91, _⟩ := info_parts info50
            have hcut91 := cut_to (P := Try.prog) 23 50 .i64 Try.underlying23 hi091 Ao84 Qg.length co84 t265 (z29_ (by first | (with_reducible assumption) | assumption)) q91 (z30_ Qf.out).2.1
            have hr91 := Kd.R_take (m := (t265 : Int).toNat) Qf.out (by omega)
            have hy91 : y277.length = (t265 : Int).toNat := (by rw [Ny277.out, List.length_take]; omega)
            rw [← Ny277.out] at hr91
            rw [← hy91] at hr91 hcut91
            clear hy91 hi091 hsz91 Qf
            have HO279 := z20_ hr91
            clear hr91; replace q91 := eq_true q91
            refine start_ (n := 9) (S := fun w' => w'.cell? ⟨Qc, 0, none⟩ = some (.int .i64 ((rd_T50 t204 Qa).f0)) ∧ w'.cell? ⟨Qc, 1, none⟩ = some (.int .i64 ((rd_T50 t204 Qa).f2)) ∧ w'.cell? ⟨Qc, 2, none⟩ = some (.int .i64 ((rd_T50 t204 Qa).f1)) ∧ w'.cell? ⟨Qc, 3, none⟩ = some (.int .i64 ((rd_T50 t204 Qa).f3))) (ds := []) #[false, false, false, false, false, false, false, false, false] (by kernel_rfl) rfl rfl ⟨(z23_ Qb.out 0).trans rfl, (z23_ Qb.out 1).trans rfl, (z23_ Qb.out 2).trans rfl, (z23_ Qb.out 3).trans rfl⟩ (fun hHeld => ?_); refine with_tabW spec_twoBooks.tab22 spec_twoBooks.bits22 (fun HT_ HW_ => ?_)
            generalize w89.drew = w90 at Qe Qq Qb HR273 HI0 HK HB HO279 hHeld ⊢
            refine pure_ (i := 0) (N := some 80) (v := ?_) (a' := ?_) #[true, false, false, false, false, false, false, false, false] rfl rfl (any_of HT_.out (by kernel_rfl)) (fun _ _ _ h => h) (Or.inl ⟨by rfl, ?_⟩) ?_ ?_
            rotate_left
            ·intro w'
             go_simp
             with_reducible rfl
            rotate_left
            ·simp only [Act.put, List.setIfInBounds_toArray, List.set_cons_zero, List.set_cons_succ, i64_w, i32_w]
             rfl
            refine pure_ (i := 1) (N := some 81) (v := ?_) (a' := ?_) #[true, true, false, false, false, false, false, false, false] rfl rfl (any_of HT_.out (by kernel_rfl)) (fun _ _ _ h => h) (Or.inl ⟨by rfl, ?_⟩) ?_ ?_
            rotate_left
            ·intro w'
             go_simp
             with_reducible rfl
            rotate_left
            ·simp only [Act.put, List.setIfInBounds_toArray, List.set_cons_zero, List.set_cons_succ, i64_w, i32_w]
             rfl
            refine pure_ (i := 2) (N := some 82) (v := ?_) (a' := ?_) #[true, true, true, false, false, false, false, false, false] rfl rfl (any_of HT_.out (by kernel_rfl)) (fun _ _ _ h => h) (Or.inl ⟨by rfl, ?_⟩) ?_ ?_
            rotate_left
            ·intro w'
             go_simp
             with_reducible rfl
            rotate_left
            ·simp only [Act.put, List.setIfInBounds_toArray, List.set_cons_zero, List.set_cons_succ, i64_w, i32_w]
             rfl
            refine pure_ (i := 6) (N := some 86) (v := ?_) (a' := ?_) #[true, true, true, false, false, false, true, false, false] rfl rfl (any_of HT_.out (by kernel_rfl)) (fun _ _ _ h => h) (Or.inl ⟨by rfl, ?_⟩) ?_ ?_
            rotate_left
            ·intro w'
             go_simp
             with_reducible rfl
            rotate_left
            ·simp only [Act.put, List.setIfInBounds_toArray, List.set_cons_zero, List.set_cons_succ, i64_w, i32_w]
             rfl
            refine take_ (i := 3) (N := some 83) (v := ?_) (a' := ?_) #[true, true, true, true, false, false, true, false, false] rfl rfl (take_ofW HT_.out HW_.out (by kernel_rfl)) (fun _ _ _ h => h) (Or.inl ⟨by rfl, ?_⟩) hHeld ?_ ?_
            rotate_left
            ·rintro w' ⟨s0, s1, s2, s3⟩
             go_simp
             with_reducible rfl
            rotate_left
            ·simp only [Act.put, List.setIfInBounds_toArray, List.set_cons_zero, List.set_cons_succ, i64_w, i32_w]
             rfl
            refine one_ (i := 4) (N := some 84) #[true, true, true, true, true, false, true, false, false] rfl rfl (one_of HT_.out (by kernel_rfl)) (by decide) (fun K hK => ?_)
            refine value_ (w1 := ?_) (v := ?_) (by rfl) rfl ?_ ?_
            rotate_left 2
            ·go_simp
             constructor
             ·rfl
             ·rfl
            refine hK.out _ _ ⟨(z23_ (z11_ Qb.out _) 0).trans rfl, (z23_ (z11_ Qb.out _) 1).trans rfl, (z23_ (z11_ Qb.out _) 2).trans rfl, (z23_ (z11_ Qb.out _) 3).trans rfl⟩ (fun hHeld => ?_)
            clear hK K
            refine norm_ (a' := ?_) ?_ ?_
            rotate_left
            ·show Act.put _ (some 84) _ = _
             simp only [Act.put, List.setIfInBounds_toArray, List.set_cons_zero, List.set_cons_succ, i64_w, i32_w]
             rfl
            refine one_ (i := 5) (N := some 85) #[true, true, true, true, true, true, true, false, false] rfl rfl (one_of HT_.out (by kernel_rfl)) (by decide) (fun K hK => ?_)
            refine Kd.R_append_step k50 w.heap.size (by rfl) (.tmp 82) (.tmp 84) 23 50 (.agg #[(.int .i64 0), (.int .i64 0), (.int .i64 0), (.int .i64 0)]) 32 rfl Try.underlying23 info50 rfl (by decide) (by omega) (.slice Ao84 y277.length co84) y277 (⟨(rd_T50 t204 Qa).f0, (rd_T50 t204 Qa).f2, (rd_T50 t204 Qa).f1, (rd_T50 t204 Qa).f3⟩ : S50) [.int .i64 ((rd_T50 t204 Qa).f0), .int .i64 ((rd_T50 t204 Qa).f2), .int .i64 ((rd_T50 t204 Qa).f1), .int .i64 ((rd_T50 t204 Qa).f3)] (fun k_ => some k_ ≠ (.slice (some Qj) t204.length co78 : Value).ownBlock ∧ some k_ ≠ (v275 : Value).ownBlock ∧ k_ ≠ Qc) (fun _ => False) rfl rfl ?aP (fun _ hk => hk.elim) ?aF ?aO (Below.refl _ _) ?aS ?aL ?_
            (case aP => exact k50_mkM _ _ _ (⟨(rd_T50 t204 Qa).f0, (rd_T50 t204 Qa).f2, (rd_T50 t204 Qa).f1, (rd_T50 t204 Qa).f3⟩ : S50))
            (case aF => exact (fun k_ hk => ⟨z18_ (z19_ (by (with_reducible repeat (first | apply z0_ | apply z1_ | apply z2_)); exact Qe.out)) k_ hk, z18_ (z19_ (by (with_reducible repeat (first | apply z0_ | apply z1_ | apply z2_)); exact Qq.out)) k_ hk, Kd.freshB (g := Qc) (o := .cells #[.int .i64 ((rd_T50 t204 Qa).f0), .int .i64 ((rd_T50 t204 Qa).f2), .int .i64 ((rd_T50 t204 Qa).f1), .int .i64 ((rd_T50 t204 Qa).f3)] 50 (0, 0)) (by (with_reducible repeat (first | refine z10_ ?_ _ | refine z12_ ?_ | refine z11_ ?_ _)); exact Qb.out) k_ hk⟩))
            (case aO => exact (by (with_reducible repeat (first | apply z0_ | apply z1_ | apply z2_)); exact z16_ HO279.out (fun _ hk => ⟨hk.1.1, ⟨hk.2, hk.1.2⟩⟩)))
            (case aS => exact (z9_ (w := w) (g := g) (row := none) (by repeat (first | (with_reducible first | exact HK.out | apply z6_ | apply z7_ | apply z8_ | apply z21_ | refine z22_ ?_ Qh.out _) | exact HK.out))))
            (case aL => have := LMc76.out; omega)
            intro v281 w92 ho hb hg hat
            have oc_ : (Value.slice Ao84 y277.length co84).ownBlock = (Value.slice Ao84 Qg.length co84).ownBlock := (by generalize Ao84 = z_; cases z_ <;> rfl)
            have hg2_ := hg; have hat2_ := hat
            rw [oc_] at hg2_ hat2_
            rw [← Ny280.out] at ho
            have n0_ := z20_ (z26_ (ok := (fun k_ => some k_ ≠ (v275 : Value).ownBlock ∧ k_ ≠ Qc)) (by (with_reducible repeat (first | apply z0_ | apply z1_ | apply z2_)); exact z16_ Qe.out (fun _ hk => ⟨⟨hk.2, hk.1.2⟩, hk.1.1⟩)) hg2_ hat2_)
            have n1_ := z20_ (z38_ (by first | ((repeat (first | (with_reducible first | exact HI0.out | apply z31_ | apply z35_ | apply z34_ | apply z40_ | refine z36_ ?_ Qd.out _) | exact HI0.out)); done) | exact z36_ HI0.out Qd.out _ | exact z36_ (z36_ HI0.out Qd.out _) Qd.out _) hg (z39_ HI0.out HO279.out (by decide)))
            have n2_ := z20_ (blk_grown (g := Qc) (o := .cells #[.int .i64 ((rd_T50 t204 Qa).f0), .int .i64 ((rd_T50 t204 Qa).f2), .int .i64 ((rd_T50 t204 Qa).f1), .int .i64 ((rd_T50 t204 Qa).f3)] 50 (0, 0)) (by (with_reducible repeat (first | refine z10_ ?_ _ | refine z12_ ?_ | refine z11_ ?_ _)); exact Qb.out) hg (Kd.R_away HO279.out (fun _ hk => hk.1.2)))
            have n3_ := z20_ (z26_ (ok := (fun k_ => some k_ ≠ (.slice (some Qj) t204.length co78 : Value).ownBlock ∧ k_ ≠ Qc)) (by (with_reducible repeat (first | apply z0_ | apply z1_ | apply z2_)); exact z16_ Qq.out (fun _ hk => ⟨⟨hk.1, hk.2.2⟩, hk.2.1⟩)) hg2_ hat2_)
            have n4_ := z20_ (z14_ (by repeat (first | (with_reducible first | exact HB.out | apply z3_ | apply z4_ | apply z5_ | refine z25_ ?_ (z37_ HI0.out) | refine z25_ ?_ Qk.out) | exact HB.out)) HL.out hb)
            have n5_ := z20_ (z13_ (by repeat (first | (with_reducible first | exact HK.out | apply z6_ | apply z7_ | apply z8_ | apply z21_ | refine z22_ ?_ Qh.out _) | exact HK.out)) (z27_ hg g) (Kd.R_base2 HO279.out))
            have n6_ := z20_ (ho)
            clear Qe; clear HI0; clear Qb; clear Qq; clear HB; clear HK; clear HO279; have Qe := n0_; have HI0 := n1_; have Qb := n2_; have Qq := n3_; have HB := n4_; have HK := n5_; have HO282 := n6_; clear n0_ n1_ n2_ n3_ n4_ n5_ n6_; clear ho hb hg hat hg2_ hat2_ oc_
            obtain ⟨Ao94, co94, eo94⟩ := Kd.R_slice Qq.out
            (first | subst eo94 | (injection eo94 with f1_ f2_ f3_; have f4_ := f1_.symm; have f5_ := f3_.symm; clear f1_ f2_ f3_; subst f4_; subst f5_))
            refine hK.out _ _ ⟨(z23_ Qb.out 0).trans rfl, (z23_ Qb.out 1).trans rfl, (z23_ Qb.out 2).trans rfl, (z23_ Qb.out 3).trans rfl⟩ (fun hHeld => ?_)
            clear hK K
            refine norm_ (a' := ?_) ?_ ?_
            rotate_left
            ·show Act.put _ (some 85) _ = _
             simp only [Act.put, List.setIfInBounds_toArray, List.set_cons_zero, List.set_cons_succ, i64_w, i32_w]
             rfl
            refine one_ (i := 7) (N := some 87) #[true, true, true, true, true, true, true, true, false] rfl rfl (one_of HT_.out (by kernel_rfl)) (by decide) (fun K hK => ?_)
            refine Kd.R_append_rows_step k50 w.heap.size (by rfl) (.tmp 85) (.tmp 86) 23 50 (.agg #[(.int .i64 0), (.int .i64 0), (.int .i64 0), (.int .i64 0)]) 32 rfl Try.underlying23 info50 rfl (by decide) (by omega) v281 y280 y274 _ _ _ (fun k_ => some k_ ≠ (.slice (some Qj) t204.length co78 : Value).ownBlock ∧ some k_ ≠ (.slice Ao94 y274.length co94 : Value).ownBlock ∧ k_ ≠ Qc) (fun _ => False) rfl rfl ?aO ?aR (fun _ _ h => h) (fun _ h => h.elim) ?aF (Below.refl _ _) ?aS ?aL ?_
            (case aR => repeat (first | exact (z30_ Qq.out).2.2 | (with_reducible refine Kd.C_alloc ?_ _) | (with_reducible refine Kd.C_drewN ?_ _) | (with_reducible refine Kd.C_drew ?_)))
            (case aF => exact (fun k_ hk => ⟨z18_ (z19_ (by (with_reducible repeat (first | apply z0_ | apply z1_ | apply z2_)); exact Qe.out)) k_ hk, z18_ (z19_ (by (with_reducible repeat (first | apply z0_ | apply z1_ | apply z2_)); exact Qq.out)) k_ hk, Kd.freshB (g := Qc) (o := .cells #[.int .i64 ((rd_T50 t204 Qa).f0), .int .i64 ((rd_T50 t204 Qa).f2), .int .i64 ((rd_T50 t204 Qa).f1), .int .i64 ((rd_T50 t204 Qa).f3)] 50 (0, 0)) (by (with_reducible repeat (first | refine z10_ ?_ _ | refine z12_ ?_ | refine z11_ ?_ _)); exact Qb.out) k_ hk⟩))
            (case aO => exact (by (with_reducible repeat (first | apply z0_ | apply z1_ | apply z2_)); exact HO282.out))
            (case aS => exact (z9_ (w := w) (g := g) (row := none) (by repeat (first | (with_reducible first | exact HK.out | apply z6_ | apply z7_ | apply z8_ | apply z21_ | refine z22_ ?_ Qh.out _) | exact HK.out))))
            (case aL => have := LMc77.out; omega)
            intro v284 w93 ho hb hg hat
            rw [← Ny283.out] at ho
            have n0_ := z20_ (z26_ (ok := (fun k_ => some k_ ≠ (.slice Ao94 y274.length co94 : Value).ownBlock ∧ k_ ≠ Qc)) (by (with_reducible repeat (first | apply z0_ | apply z1_ | apply z2_)); exact Qe.out) hg hat)
            have n1_ := z20_ (z38_ (by first | ((repeat (first | (with_reducible first | exact HI0.out | apply z31_ | apply z35_ | apply z34_ | apply z40_ | refine z36_ ?_ Qd.out _) | exact HI0.out)); done) | exact z36_ HI0.out Qd.out _ | exact z36_ (z36_ HI0.out Qd.out _) Qd.out _) hg (z39_ HI0.out HO282.out (by decide)))
            have n2_ := z20_ (blk_grown (g := Qc) (o := .cells #[.int .i64 ((rd_T50 t204 Qa).f0), .int .i64 ((rd_T50 t204 Qa).f2), .int .i64 ((rd_T50 t204 Qa).f1), .int .i64 ((rd_T50 t204 Qa).f3)] 50 (0, 0)) (by (with_reducible repeat (first | refine z10_ ?_ _ | refine z12_ ?_ | refine z11_ ?_ _)); exact Qb.out) hg (Kd.R_away HO282.out (fun _ hk => hk.2.2)))
            have n3_ := z20_ (z26_ (ok := (fun k_ => some k_ ≠ (.slice (some Qj) t204.length co78 : Value).ownBlock ∧ k_ ≠ Qc)) (by (with_reducible repeat (first | apply z0_ | apply z1_ | apply z2_)); exact Qq.out) hg hat)
            have n4_ := z20_ (z14_ (by repeat (first | (with_reducible first | exact HB.out | apply z3_ | apply z4_ | apply z5_ | refine z25_ ?_ (z37_ HI0.out) | refine z25_ ?_ Qk.out) | exact HB.out)) HL.out hb)
            have n5_ := z20_ (z13_ (by repeat (first | (with_reducible first | exact HK.out | apply z6_ | apply z7_ | apply z8_ | apply z21_ | refine z22_ ?_ Qh.out _) | exact HK.out)) (z27_ hg g) (Kd.R_base2 HO282.out))
            have n6_ := z20_ (ho)
            clear Qe; clear HI0; clear Qb; clear Qq; clear HB; clear HK; clear HO282; have Qe := n0_; have HI0 := n1_; have Qb := n2_; have Qq := n3_; have HB := n4_; have HK := n5_; have HO285 := n6_; clear n0_ n1_ n2_ n3_ n4_ n5_ n6_; clear ho hb hg hat
            refine hK.out _ _ ⟨(z23_ Qb.out 0).trans rfl, (z23_ Qb.out 1).trans rfl, (z23_ Qb.out 2).trans rfl, (z23_ Qb.out 3).trans rfl⟩ (fun hHeld => ?_)
            clear hK K
            refine norm_ (a' := ?_) ?_ ?_
            rotate_left
            ·show Act.put _ (some 87) _ = _
             simp only [Act.put, List.setIfInBounds_toArray, List.set_cons_zero, List.set_cons_succ, i64_w, i32_w]
             rfl
            refine pure_ (i := 8) (N := some 5) (v := ?_) (a' := ?_) #[true, true, true, true, true, true, true, true, true] rfl rfl (any_of HT_.out (by kernel_rfl)) (fun _ _ _ h => h) (Or.inl ⟨by rfl, ?_⟩) ?_ ?_
            rotate_left
            ·intro w'
             go_simp
             with_reducible rfl
            rotate_left
            ·simp only [Act.put, List.setIfInBounds_toArray, List.set_cons_zero, List.set_cons_succ, i64_w, i32_w]
             rfl
            refine done_ (done_of HT_.out (by kernel_rfl)) ?_
            try go_wp2
            go_roundg k1
            case measure => have := HK1.out; omega
            case rel => exact ⟨(y283), (wrap64 (Qa + 1)), (t266), (by first | rfl | (simp; done) | (simp [*]; done)), H', ⟨by have := HK1.out; omega⟩, ⟨by (with_reducible repeat (first | apply z0_ | apply z1_ | apply z2_)); exact z16_ Qe.out (fun _ hk => hk.2)⟩, ⟨by (with_reducible repeat (first | apply z0_ | apply z1_ | apply z2_)); exact z16_ HO285.out (fun _ hk => hk.1)⟩, ⟨by repeat (first | (with_reducible first | exact HI0.out | apply z31_ | apply z35_ | apply z34_ | apply z40_ | refine z36_ ?_ Qd.out _) | exact HI0.out)⟩, ⟨by repeat (first | (with_reducible first | exact HK.out | apply z6_ | apply z7_ | apply z8_ | apply z21_ | refine z22_ ?_ Qh.out _) | exact HK.out)⟩, ⟨by repeat (first | (with_reducible first | exact HB.out | apply z3_ | apply z4_ | apply z5_ | refine z25_ ?_ (z37_ HI0.out) | refine z25_ ?_ Qk.out) | exact HB.out)⟩⟩
           ·rw [if_neg c77] at H
            exact absurd H (by simp)
          ·rw [if_neg c76] at H
           exact absurd H (by simp)
         ·rw [if_neg c74] at H
          exact absurd H (by simp)
        ·rw [if_neg c73] at H
         exact absurd H (by simp)
       ·rw [if_neg c72] at H
        exact absurd H (by simp)
      ·rw [if_neg c70] at H
       have c70b0 : (t213 == 1) = false := beq_eq_false_iff_ne.mpr c70
       have c70b1 : (t213 != 1) = true := bne_iff_ne.mpr c70
       by_cases c95 : t213 = 2
       ·rw [if_pos c95] at H
        have c95b0 : (t213 == 2) = true := beq_iff_eq.mpr c95
        have c95b1 : (t213 != 2) = false := bne_eq_false_iff_eq.mpr c95
        clear c95
        replace H := Option.bind_eq_some_iff.mp H
        obtain ⟨⟨t286, t287⟩, A960, H⟩ := H
        try dsimp only at H
        have A96 := z20_ A960
        clear A960
        replace H := Option.bind_eq_some_iff.mp H
        obtain ⟨⟨t288, t289⟩, A970, H⟩ := H
        try dsimp only at H
        have A97 := z20_ A970
        clear A970
        obtain ⟨y290, hy290⟩ : ∃ y_ : List (S50), y_ = (([] : List (S50))) := ⟨_, rfl⟩
        replace H : (if 0 ≤ t288 then (if t288 ≤ (Qg.length : Int) then ((some (Qg.drop (t288 : Int).toNat : List (S50))).bind fun y293 => (if y290.length + y293.length < 4398046511104 then ((some (y290 ++ y293 : List (S50))).bind fun y297 => ((some (Qg.take (t288 : Int).toNat : List (S50))).bind fun y300 => (if y300.length < 4398046511104 then ((some (y300 ++ [(⟨t286, (rd_T50 t204 Qa).f1, (rd_T50 t204 Qa).f2, (rd_T50 t204 Qa).f3⟩ : S50)] : List (S50))).bind fun y303 => (if y303.length + y297.length < 4398046511104 then (spec_twoBooks.l0 k1 t204 (y303 ++ y297) (wrap64 (Qa + 1)) s0_0 t289) else (none))) else (none)))) else (none))) else (none)) else (none)) = some (r1, r2, r3) := by first | (rw [hy290]; with_reducible exact H) | (have H2_ := (Option.bind_some _ _).symm.trans H; rw [hy290]; with_reducible exact H2_) | (have H2_ := (Option.bind_some _ _).symm.trans H; with_reducible exact H2_) | with_reducible exact H | (rw [hy290]; exact H) | exact H
        have Ny290 := z20_ hy290
        clear hy290
        by_cases c98 : 0 ≤ t288
        ·rw [if_pos c98] at H
         have c98b0 := eq_true c98
         have c98b1 : decide (0 ≤ t288) = true := decide_eq_true c98
         clear c98
         by_cases c99 : t288 ≤ (Qg.length : Int)
         ·rw [if_pos c99] at H
          have c99b0 := eq_true c99
          have c99b1 : decide (t288 ≤ (Qg.length : Int)) = true := decide_eq_true c99
          clear c99
          obtain ⟨y293, hy293⟩ : ∃ y_ : List (S50), y_ = (Qg.drop (t288 : Int).toNat) := ⟨_, rfl⟩
          replace H : (if y290.length + y293.length < 4398046511104 then ((some (y290 ++ y293 : List (S50))).bind fun y297 => ((some (Qg.take (t288 : Int).toNat : List (S50))).bind fun y300 => (if y300.length < 4398046511104 then ((some (y300 ++ [(⟨t286, (rd_T50 t204 Qa).f1, (rd_T50 t204 Qa).f2, (rd_T50 t204 Qa).f3⟩ : S50)] : List (S50))).bind fun y303 => (if y303.length + y297.length < 4398046511104 then (spec_twoBooks.l0 k1 t204 (y303 ++ y297) (wrap64 (Qa + 1)) s0_0 t289) else (none))) else (none)))) else (none)) = some (r1, r2, r3) := by first | (rw [hy293]; with_reducible exact H) | (have H2_ := (Option.bind_some _ _).symm.trans H; rw [hy293]; with_reducible exact H2_) | (have H2_ := (Option.bind_some _ _).symm.trans H; with_reducible exact H2_) | with_reducible exact H | (rw [hy293]; exact H) | exact H
          have Ny293 := z20_ hy293
          clear hy293
          by_cases c100 : y290.length + y293.length < 4398046511104
          ·rw [if_pos c100] at H
           have LMc100 := z20_ c100
           clear c100
           obtain ⟨y297, hy297⟩ : ∃ y_ : List (S50), y_ = (y290 ++ y293) := ⟨_, rfl⟩
           replace H : ((some (Qg.take (t288 : Int).toNat : List (S50))).bind fun y300 => (if y300.length < 4398046511104 then ((some (y300 ++ [(⟨t286, (rd_T50 t204 Qa).f1, (rd_T50 t204 Qa).f2, (rd_T50 t204 Qa).f3⟩ : S50)] : List (S50))).bind fun y303 => (if y303.length + y297.length < 4398046511104 then (spec_twoBooks.l0 k1 t204 (y303 ++ y297) (wrap64 (Qa + 1)) s0_0 t289) else (none))) else (none))) = some (r1, r2, r3) := by first | (rw [hy297]; with_reducible exact H) | (have H2_ := (Option.bind_some _ _).symm.trans H; rw [hy297]; with_reducible exact H2_) | (have H2_ := (Option.bind_some _ _).symm.trans H; with_reducible exact H2_) | with_reducible exact H | (rw [hy297]; exact H) | exact H
           have Ny297 := z20_ hy297
           clear hy297
           have c101b0 := eq_true (z29_ (by first | (with_reducible assumption) | assumption) : t288 ≤ (Qg.length : Int))
           obtain ⟨y300, hy300⟩ : ∃ y_ : List (S50), y_ = (Qg.take (t288 : Int).toNat) := ⟨_, rfl⟩
           replace H : (if y300.length < 4398046511104 then ((some (y300 ++ [(⟨t286, (rd_T50 t204 Qa).f1, (rd_T50 t204 Qa).f2, (rd_T50 t204 Qa).f3⟩ : S50)] : List (S50))).bind fun y303 => (if y303.length + y297.length < 4398046511104 then (spec_twoBooks.l0 k1 t204 (y303 ++ y297) (wrap64 (Qa + 1)) s0_0 t289) else (none))) else (none)) = some (r1, r2, r3) := by first | (rw [hy300]; with_reducible exact H) | (have H2_ := (Option.bind_some _ _).symm.trans H; rw [hy300]; with_reducible exact H2_) | (have H2_ := (Option.bind_some _ _).symm.trans H; with_reducible exact H2_) | with_reducible exact H | (rw [hy300]; exact H) | exact H
           have Ny300 := z20_ hy300
           clear hy300
           by_cases c102 : y300.length < 4398046511104
           ·rw [if_pos c102] at H
            have LMc102 := z20_ c102
            clear c102
            obtain ⟨y303, hy303⟩ : ∃ y_ : List (S50), y_ = (y300 ++ [(⟨t286, (rd_T50 t204 Qa).f1, (rd_T50 t204 Qa).f2, (rd_T50 t204 Qa).f3⟩ : S50)]) := ⟨_, rfl⟩
            replace H : (if y303.length + y297.length < 4398046511104 then (spec_twoBooks.l0 k1 t204 (y303 ++ y297) (wrap64 (Qa + 1)) s0_0 t289) else (none)) = some (r1, r2, r3) := by first | (rw [hy303]; with_reducible exact H) | (have H2_ := (Option.bind_some _ _).symm.trans H; rw [hy303]; with_reducible exact H2_) | (have H2_ := (Option.bind_some _ _).symm.trans H; with_reducible exact H2_) | with_reducible exact H | (rw [hy303]; exact H) | exact H
            have Ny303 := z20_ hy303
            clear hy303
            by_cases c103 : y303.length + y297.length < 4398046511104
            ·rw [if_pos c103] at H
             have LMc103 := z20_ c103
             clear c103
             obtain ⟨y306, hy306⟩ : ∃ y_ : List (S50), y_ = (y303 ++ y297) := ⟨_, rfl⟩
             replace H : (spec_twoBooks.l0 k1 t204 y306 (wrap64 (Qa + 1)) s0_0 t289) = some (r1, r2, r3) := by first | (rw [hy306]; with_reducible exact H) | (have H2_ := (Option.bind_some _ _).symm.trans H; rw [hy306]; with_reducible exact H2_) | (have H2_ := (Option.bind_some _ _).symm.trans H; with_reducible exact H2_) | with_reducible exact H | (rw [hy306]; exact H) | exact H
             have Ny306 := z20_ hy306
             clear hy306
             have H' := z20_ H
             clear H
             obtain ⟨Ao104, co104, eo104⟩ := Kd.R_slice Qe.out
             subst eo104
             have p211 : 0 ≤ (Qa : Int) := z29_ (by first | (with_reducible assumption) | assumption)
             have q211 : Qa < (t204.length : Int) := z29_ (by first | (with_reducible assumption) | assumption)
             obtain ⟨Qj, e211, hx211_0, hx211_1, hx211_2, hx211_3⟩ := at_T50 (z30_ Qe.out).2.2 Qa p211 q211
             cases e211
             replace p211 := eq_true p211; replace q211 := eq_true q211
             try go_wp2_with (first | ((with_reducible refine gate_dst (N := 7) rfl ?_); refine box_event ?hg (N := 7) ?hd (cs := #[.int .i64 0, .int .i64 0, .int .i64 0, .int .i64 0]) (t := 50) ?hr ?_; (case hd => rfl); (case hg => rfl); (case hr => first | (go_simp; done) | (go_simp; rfl)); intro Qc hg w105 hbox hb; have n0_ := z20_ (Kd.R_below (Kd.R_elderB (by (with_reducible repeat (first | apply z0_ | apply z1_ | apply z2_)); exact Qe.out) Qc (Nat.le_of_eq hg.symm)) hb); have n1_ := z20_ (Kd.R_below (Kd.R_elderB (by (with_reducible repeat (first | apply z0_ | apply z1_ | apply z2_)); exact Qf.out) Qc (Nat.le_of_eq hg.symm)) hb); have n2_ := z20_ (z33_ (by repeat (first | (with_reducible first | exact HI0.out | apply z31_ | apply z35_ | apply z34_ | apply z40_) | exact HI0.out)) hb); have n3_ := z20_ (z13_ (by repeat (first | (with_reducible first | exact HK.out | apply z6_ | apply z7_ | apply z8_ | apply z21_) | exact HK.out)) (z28_ hb g none) (.inl rfl)); have n4_ := z20_ (below_step (by repeat (first | (with_reducible first | exact HB.out | apply z3_ | apply z4_ | apply z5_ | refine z25_ ?_ (z37_ HI0.out)) | exact HB.out)) hb); have n5_ := z20_ (hbox); have n6_ := z20_ ((by rw [hg]; exact (z9_ (w := w) (g := g) (row := none) (by repeat (first | (with_reducible first | exact HK.out | apply z6_ | apply z7_ | apply z8_ | apply z21_) | exact HK.out))) : w.heap.size ≤ Qc)); have n7_ := z20_ ((Nat.le_trans HW0.out (by rw [hg]; exact (z9_ (w := w) (g := g) (row := none) (by repeat (first | (with_reducible first | exact HK.out | apply z6_ | apply z7_ | apply z8_ | apply z21_) | exact HK.out))) : w.heap.size ≤ Qc) : w0.heap.size ≤ Qc)); have n8_ := z20_ ((by rw [hg]; exact Nat.ne_of_lt (IsS68.lt (show IsS68 w0 _ g s0_0 Qi from by repeat (first | (with_reducible first | exact HI0.out | apply z31_ | apply z35_ | apply z34_ | apply z40_) | exact HI0.out))) : g ≠ Qc)); have n9_ := z20_ ((by rw [hg]; exact Nat.ne_of_gt (IsS68.lt (show IsS68 w0 _ g s0_0 Qi from by repeat (first | (with_reducible first | exact HI0.out | apply z31_ | apply z35_ | apply z34_ | apply z40_) | exact HI0.out))) : Qc ≠ g)); clear Qe; clear Qf; clear HI0; clear HK; clear HB; have Qe := n0_; have Qf := n1_; have HI0 := n2_; have HK := n3_; have HB := n4_; have Qb := n5_; have Qh := n6_; have Qk := n7_; have Qd := n8_; have Ql := n9_; clear n0_ n1_ n2_ n3_ n4_ n5_ n6_ n7_ n8_ n9_; clear hb hbox hg; have hnb106 := Ql.out; have hnc106 := Qd.out; have hcz107_0 : w105.cell? ⟨Qc, 0, none⟩ = some (.int .i64 0) := (z23_ Qb.out 0).trans rfl; have hcz107_1 : w105.cell? ⟨Qc, 1, none⟩ = some (.int .i64 0) := (z23_ Qb.out 1).trans rfl; have hcz107_2 : w105.cell? ⟨Qc, 2, none⟩ = some (.int .i64 0) := (z23_ Qb.out 2).trans rfl; have hcz107_3 : w105.cell? ⟨Qc, 3, none⟩ = some (.int .i64 0) := (z23_ Qb.out 3).trans rfl; have hfz107_0 := z24_ Qb.out 0; have hfz107_1 := z24_ Qb.out 1; have hfz107_2 := z24_ Qb.out 2; have hfz107_3 := z24_ Qb.out 3) | ((with_reducible refine gate_callee (f := 37) rfl ?_); refine goesL_ (some 25) rfl rfl Try.func37 (by kernel_rfl) rfl #[.pointer (some ⟨g, 0, none⟩), .int .i64 10] rfl (by (try simp only [List.map_toArray, List.map_cons, List.map_nil]); first | done | rfl | (simp only [List.length_drop, List.length_take]; rfl)) ?_; (with_reducible refine (spec_reader_pick.calls k1 g s0_0 Qi 10 t213 t214 w0 _ ?side1 ?side2 A8.out).mono ?_); (case side1 => repeat (first | (with_reducible first | exact HI0.out | apply z31_ | apply z35_ | apply z34_ | apply z40_ | refine z36_ ?_ Qd.out _) | exact HI0.out)); (case side2 => repeat (first | (with_reducible first | exact HB.out | apply z3_ | apply z4_ | apply z5_ | refine z25_ ?_ (z37_ HI0.out) | refine z25_ ?_ Qk.out) | exact HB.out)); rintro e w108 ⟨rfl, hi, hb, hk⟩; refine ⟨_, rfl, ?_⟩; have n0_ := z20_ (z16_ (z17_ (z32_ (show IsS68 w0 _ g s0_0 Qi from by repeat (first | (with_reducible first | exact HI0.out | apply z31_ | apply z35_ | apply z34_ | apply z40_ | refine z36_ ?_ Qd.out _) | exact HI0.out)) (by (with_reducible repeat (first | apply z0_ | apply z1_ | apply z2_)); exact (z16_ (z15_ (p := ⟨Qc, 3, none⟩) (z15_ (p := ⟨Qc, 2, none⟩) (z15_ (p := ⟨Qc, 1, none⟩) (z15_ (p := ⟨Qc, 0, none⟩) (z16_ Qe.out (fun k_ hk => (⟨hk, hk.2⟩ : _ ∧ k_ ≠ Qc))) (fun _ hk => hk.2) (.int .i64 ((rd_T50 t204 Qa).f0))) (fun _ hk => hk.2) (.int .i64 ((rd_T50 t204 Qa).f1))) (fun _ hk => hk.2) (.int .i64 ((rd_T50 t204 Qa).f2))) (fun _ hk => hk.2) (.int .i64 ((rd_T50 t204 Qa).f3))) (fun _ h_ => h_.1))) (by decide)) hk (fun _ h => h.2)) (fun _ h => h.1)); have n1_ := z20_ (z16_ (z17_ (z32_ (show IsS68 w0 _ g s0_0 Qi from by repeat (first | (with_reducible first | exact HI0.out | apply z31_ | apply z35_ | apply z34_ | apply z40_ | refine z36_ ?_ Qd.out _) | exact HI0.out)) (by (with_reducible repeat (first | apply z0_ | apply z1_ | apply z2_)); exact (z16_ (z15_ (p := ⟨Qc, 3, none⟩) (z15_ (p := ⟨Qc, 2, none⟩) (z15_ (p := ⟨Qc, 1, none⟩) (z15_ (p := ⟨Qc, 0, none⟩) (z16_ Qf.out (fun k_ hk => (⟨hk, hk.2⟩ : _ ∧ k_ ≠ Qc))) (fun _ hk => hk.2) (.int .i64 ((rd_T50 t204 Qa).f0))) (fun _ hk => hk.2) (.int .i64 ((rd_T50 t204 Qa).f1))) (fun _ hk => hk.2) (.int .i64 ((rd_T50 t204 Qa).f2))) (fun _ hk => hk.2) (.int .i64 ((rd_T50 t204 Qa).f3))) (fun _ h_ => h_.1))) (by decide)) hk (fun _ h => h.2)) (fun _ h => h.1)); have n2_ := z20_ (KeepBut.blk hk (g' := Qc) (o := .cells #[.int .i64 ((rd_T50 t204 Qa).f0), .int .i64 ((rd_T50 t204 Qa).f1), .int .i64 ((rd_T50 t204 Qa).f2), .int .i64 ((rd_T50 t204 Qa).f3)] 50 (0, 0)) (by (with_reducible repeat (first | refine z10_ ?_ _ | refine z12_ ?_ | refine z11_ ?_ _)); refine blk_put (cs := #[.int .i64 ((rd_T50 t204 Qa).f0), .int .i64 ((rd_T50 t204 Qa).f1), .int .i64 ((rd_T50 t204 Qa).f2), .int .i64 0]) ?_ 3 _ rfl; (with_reducible repeat (first | refine z10_ ?_ _ | refine z12_ ?_ | refine z11_ ?_ _)); refine blk_put (cs := #[.int .i64 ((rd_T50 t204 Qa).f0), .int .i64 ((rd_T50 t204 Qa).f1), .int .i64 0, .int .i64 0]) ?_ 2 _ rfl; (with_reducible repeat (first | refine z10_ ?_ _ | refine z12_ ?_ | refine z11_ ?_ _)); refine blk_put (cs := #[.int .i64 ((rd_T50 t204 Qa).f0), .int .i64 0, .int .i64 0, .int .i64 0]) ?_ 1 _ rfl; (with_reducible repeat (first | refine z10_ ?_ _ | refine z12_ ?_ | refine z11_ ?_ _)); refine blk_put (cs := #[.int .i64 0, .int .i64 0, .int .i64 0, .int .i64 0]) ?_ 0 _ rfl; (with_reducible repeat (first | refine z10_ ?_ _ | refine z12_ ?_ | refine z11_ ?_ _)); exact Qb.out) Ql.out (by simp)); have n3_ := z20_ (z13_ (by repeat (first | (with_reducible first | exact HK.out | apply z6_ | apply z7_ | apply z8_ | apply z21_ | refine z22_ ?_ Qh.out _) | exact HK.out)) hk (.inl rfl)); have n4_ := z20_ (hb); have n5_ := z20_ (hi); clear Qe; clear Qf; clear Qb; clear HK; clear HB; clear HI0; have Qe := n0_; have Qf := n1_; have Qb := n2_; have HK := n3_; have HB := n4_; have HI0 := n5_; clear n0_ n1_ n2_ n3_ n4_ n5_; (try clear hb); (try clear hb2); (try clear hk); (try clear hi)) | ((with_reducible refine gate_callee (f := 37) rfl ?_); refine goesL_ (some 60) rfl rfl Try.func37 (by kernel_rfl) rfl #[.pointer (some ⟨g, 0, none⟩), .int .i64 6] rfl (by (try simp only [List.map_toArray, List.map_cons, List.map_nil]); first | done | rfl | (simp only [List.length_drop, List.length_take]; rfl)) ?_; (with_reducible refine (spec_reader_pick.calls k1 g s0_0 t214 6 t286 t287 w0 _ ?side1 ?side2 A96.out).mono ?_); (case side1 => repeat (first | (with_reducible first | exact HI0.out | apply z31_ | apply z35_ | apply z34_ | apply z40_ | refine z36_ ?_ Qd.out _) | exact HI0.out)); (case side2 => repeat (first | (with_reducible first | exact HB.out | apply z3_ | apply z4_ | apply z5_ | refine z25_ ?_ (z37_ HI0.out) | refine z25_ ?_ Qk.out) | exact HB.out)); rintro e w109 ⟨rfl, hi, hb, hk⟩; refine ⟨_, rfl, ?_⟩; have n0_ := z20_ (z16_ (z17_ (z32_ (show IsS68 w0 _ g s0_0 t214 from by repeat (first | (with_reducible first | exact HI0.out | apply z31_ | apply z35_ | apply z34_ | apply z40_ | refine z36_ ?_ Qd.out _) | exact HI0.out)) (by (with_reducible repeat (first | apply z0_ | apply z1_ | apply z2_)); exact Qe.out) (by decide)) hk (fun _ h => h.2)) (fun _ h => h.1)); have n1_ := z20_ (z16_ (z17_ (z32_ (show IsS68 w0 _ g s0_0 t214 from by repeat (first | (with_reducible first | exact HI0.out | apply z31_ | apply z35_ | apply z34_ | apply z40_ | refine z36_ ?_ Qd.out _) | exact HI0.out)) (by (with_reducible repeat (first | apply z0_ | apply z1_ | apply z2_)); exact Qf.out) (by decide)) hk (fun _ h => h.2)) (fun _ h => h.1)); have n2_ := z20_ (KeepBut.blk hk (g' := Qc) (o := .cells #[.int .i64 ((rd_T50 t204 Qa).f0), .int .i64 ((rd_T50 t204 Qa).f1), .int .i64 ((rd_T50 t204 Qa).f2), .int .i64 ((rd_T50 t204 Qa).f3)] 50 (0, 0)) (by (with_reducible repeat (first | refine z10_ ?_ _ | refine z12_ ?_ | refine z11_ ?_ _)); exact Qb.out) Ql.out (by simp)); have n3_ := z20_ (z13_ (by repeat (first | (with_reducible first | exact HK.out | apply z6_ | apply z7_ | apply z8_ | apply z21_ | refine z22_ ?_ Qh.out _) | exact HK.out)) hk (.inl rfl)); have n4_ := z20_ (hb); have n5_ := z20_ (hi); clear Qe; clear Qf; clear Qb; clear HK; clear HB; clear HI0; have Qe := n0_; have Qf := n1_; have Qb := n2_; have HK := n3_; have HB := n4_; have HI0 := n5_; clear n0_ n1_ n2_ n3_ n4_ n5_; (try clear hb); (try clear hb2); (try clear hk); (try clear hi); have hcz110_0 : w109.cell? ⟨Qc, 0, none⟩ = some (.int .i64 ((rd_T50 t204 Qa).f0)) := (z23_ Qb.out 0).trans rfl; have hcz110_1 : w109.cell? ⟨Qc, 1, none⟩ = some (.int .i64 ((rd_T50 t204 Qa).f1)) := (z23_ Qb.out 1).trans rfl; have hcz110_2 : w109.cell? ⟨Qc, 2, none⟩ = some (.int .i64 ((rd_T50 t204 Qa).f2)) := (z23_ Qb.out 2).trans rfl; have hcz110_3 : w109.cell? ⟨Qc, 3, none⟩ = some (.int .i64 ((rd_T50 t204 Qa).f3)) := (z23_ Qb.out 3).trans rfl; have hfz110_0 := z24_ Qb.out 0; have hfz110_1 := z24_ Qb.out 1; have hfz110_2 := z24_ Qb.out 2; have hfz110_3 := z24_ Qb.out 3; obtain ⟨Ao111, co111, eo111⟩ := Kd.R_slice Qf.out; subst eo111) | ((with_reducible refine gate_callee (f := 37) rfl ?_); refine goesL_ (some 74) rfl rfl Try.func37 (by kernel_rfl) rfl #[.pointer (some ⟨g, 0, none⟩), .int .i64 (wrap64 ((Qg.length : Int) + 1))] rfl (by (try simp only [List.map_toArray, List.map_cons, List.map_nil]); first | done | rfl | (simp only [List.length_drop, List.length_take]; rfl)) ?_; (with_reducible refine (spec_reader_pick.calls k1 g s0_0 t287 (wrap64 ((Qg.length : Int) + 1)) t288 t289 w0 _ ?side1 ?side2 A97.out).mono ?_); (case side1 => repeat (first | (with_reducible first | exact HI0.out | apply z31_ | apply z35_ | apply z34_ | apply z40_ | refine z36_ ?_ Qd.out _) | exact HI0.out)); (case side2 => repeat (first | (with_reducible first | exact HB.out | apply z3_ | apply z4_ | apply z5_ | refine z25_ ?_ (z37_ HI0.out) | refine z25_ ?_ Qk.out) | exact HB.out)); rintro e w112 ⟨rfl, hi, hb, hk⟩; refine ⟨_, rfl, ?_⟩; have n0_ := z20_ (z16_ (z17_ (z32_ (show IsS68 w0 _ g s0_0 t287 from by repeat (first | (with_reducible first | exact HI0.out | apply z31_ | apply z35_ | apply z34_ | apply z40_ | refine z36_ ?_ Qd.out _) | exact HI0.out)) (by (with_reducible repeat (first | apply z0_ | apply z1_ | apply z2_)); exact (z16_ (z15_ (p := ⟨Qc, 0, none⟩) (z16_ Qe.out (fun k_ hk => (⟨hk, hk.2⟩ : _ ∧ k_ ≠ Qc))) (fun _ hk => hk.2) (.int .i64 t286)) (fun _ h_ => h_.1))) (by decide)) hk (fun _ h => h.2)) (fun _ h => h.1)); have n1_ := z20_ (z16_ (z17_ (z32_ (show IsS68 w0 _ g s0_0 t287 from by repeat (first | (with_reducible first | exact HI0.out | apply z31_ | apply z35_ | apply z34_ | apply z40_ | refine z36_ ?_ Qd.out _) | exact HI0.out)) (by (with_reducible repeat (first | apply z0_ | apply z1_ | apply z2_)); exact (z16_ (z15_ (p := ⟨Qc, 0, none⟩) (z16_ Qf.out (fun k_ hk => (⟨hk, hk.2⟩ : _ ∧ k_ ≠ Qc))) (fun _ hk => hk.2) (.int .i64 t286)) (fun _ h_ => h_.1))) (by decide)) hk (fun _ h => h.2)) (fun _ h => h.1)); have n2_ := z20_ (KeepBut.blk hk (g' := Qc) (o := .cells #[.int .i64 t286, .int .i64 ((rd_T50 t204 Qa).f1), .int .i64 ((rd_T50 t204 Qa).f2), .int .i64 ((rd_T50 t204 Qa).f3)] 50 (0, 0)) (by (with_reducible repeat (first | refine z10_ ?_ _ | refine z12_ ?_ | refine z11_ ?_ _)); refine blk_put (cs := #[.int .i64 ((rd_T50 t204 Qa).f0), .int .i64 ((rd_T50 t204 Qa).f1), .int .i64 ((rd_T50 t204 Qa).f2), .int .i64 ((rd_T50 t204 Qa).f3)]) ?_ 0 _ rfl; (with_reducible repeat (first | refine z10_ ?_ _ | refine z12_ ?_ | refine z11_ ?_ _)); exact Qb.out) Ql.out (by simp)); have n3_ := z20_ (z13_ (by repeat (first | (with_reducible first | exact HK.out | apply z6_ | apply z7_ | apply z8_ | apply z21_ | refine z22_ ?_ Qh.out _) | exact HK.out)) hk (.inl rfl)); have n4_ := z20_ (hb); have n5_ := z20_ (hi); clear Qe; clear Qf; clear Qb; clear HK; clear HB; clear HI0; have Qe := n0_; have Qf := n1_; have Qb := n2_; have HK := n3_; have HB := n4_; have HI0 := n5_; clear n0_ n1_ n2_ n3_ n4_ n5_; (try clear hb); (try clear hb2); (try clear hk); (try clear hi)) | ((with_reducible refine gate_dst (N := 75) rfl ?_); refine Kd.R_lit k50 _ 50 ?hg (N := 75) ?hd (xs := ([] : List (S50))) (inner := []) (ok := fun _ => True) (okp := fun _ => True) ?hr ?hp (fun _ hk => hk) trivial (Below.refl _ _) (Nat.le_refl _) (by simp) ?_; (case hd => rfl); (case hg => rfl); (case hr => first | (go_simp; done) | (go_simp; rfl)); (case hp => exact (Reps.none _ _)); intro v291 w113 ho114 hb hg_ hnew_; clear hg_ hnew_; (first | rw [← Ny290.out] at ho114 | (simp only [Int.reduceToNat] at ho114; rw [← Ny290.out] at ho114)); have n0_ := z20_ (Kd.R_elder' (by (with_reducible repeat (first | apply z0_ | apply z1_ | apply z2_)); exact Qe.out) (Kd.R_base ho114) hb); have n1_ := z20_ (Kd.R_elder' (by (with_reducible repeat (first | apply z0_ | apply z1_ | apply z2_)); exact Qf.out) (Kd.R_base ho114) hb); have n2_ := z20_ (Kd.R_lower (Kd.R_newB (Kd.R_new' (Kd.R_new' ho114 (z19_ (by (with_reducible repeat (first | apply z0_ | apply z1_ | apply z2_)); exact Qe.out))) (z19_ (by (with_reducible repeat (first | apply z0_ | apply z1_ | apply z2_)); exact Qf.out))) (g := Qc) (o := .cells #[.int .i64 t286, .int .i64 ((rd_T50 t204 Qa).f1), .int .i64 ((rd_T50 t204 Qa).f2), .int .i64 ((rd_T50 t204 Qa).f3)] 50 (0, 0)) (by (with_reducible repeat (first | refine z10_ ?_ _ | refine z12_ ?_ | refine z11_ ?_ _)); exact Qb.out)) (z9_ (w := w) (g := g) (row := none) (by repeat (first | (with_reducible first | exact HK.out | apply z6_ | apply z7_ | apply z8_ | apply z21_ | refine z22_ ?_ Qh.out _) | exact HK.out)))); have n3_ := z20_ (z33_ (by repeat (first | (with_reducible first | exact HI0.out | apply z31_ | apply z35_ | apply z34_ | apply z40_ | refine z36_ ?_ Qd.out _) | exact HI0.out)) hb); have n4_ := z20_ (blk_below (g := Qc) (o := .cells #[.int .i64 t286, .int .i64 ((rd_T50 t204 Qa).f1), .int .i64 ((rd_T50 t204 Qa).f2), .int .i64 ((rd_T50 t204 Qa).f3)] 50 (0, 0)) (by (with_reducible repeat (first | refine z10_ ?_ _ | refine z12_ ?_ | refine z11_ ?_ _)); exact Qb.out) hb); have n5_ := z20_ (z13_ (by repeat (first | (with_reducible first | exact HK.out | apply z6_ | apply z7_ | apply z8_ | apply z21_ | refine z22_ ?_ Qh.out _) | exact HK.out)) (z28_ hb g none) (.inl rfl)); have n6_ := z20_ (below_step (by repeat (first | (with_reducible first | exact HB.out | apply z3_ | apply z4_ | apply z5_ | refine z25_ ?_ (z37_ HI0.out) | refine z25_ ?_ Qk.out) | exact HB.out)) hb); clear Qe; clear Qf; clear HI0; clear Qb; clear HK; clear HB; have Qe := n0_; have Qf := n1_; have HO292 := n2_; have HI0 := n3_; have Qb := n4_; have HK := n5_; have HB := n6_; clear n0_ n1_ n2_ n3_ n4_ n5_ n6_; clear hb ho114; have q115 : (t288 : Int) ≤ ((Qg.length : Int) : Int) := z29_ (by first | (with_reducible assumption) | assumption); obtain ⟨i0115, hi0115, _, hsz115, _⟩ := info_parts info50; have hroom115 : Qg.length ≤ co111 := (z30_ Qf.out).2.1; have hC115 : Kd.C k50 _ Ao111 Qg.length Qg := (z30_ Qf.out).2.2; have q0115 : (0 : Int) ≤ (t288 : Int) := z29_ (by first | (with_reducible assumption) | assumption); have hcut115 := cut_from (P := Try.prog) 23 50 .i64 Try.underlying23 hi0115 4 hsz115 Ao111 Qg.length co111 t288 q0115 q115; have hr115 := Kd.C_drop (m := (t288 : Int).toNat) (c := co111) hC115 (by omega) hroom115; obtain ⟨A115, hA115⟩ : ∃ A1, A1 = (if co111 = (t288 : Int).toNat then Ao111 else (Ao111 : Option Addr).map (·.add ((t288 : Int).toNat * 4))) := ⟨_, rfl⟩; obtain ⟨c115, hc115⟩ : ∃ c1, c1 = co111 - (t288 : Int).toNat := ⟨_, rfl⟩; have hy115 : y293.length = Qg.length - (t288 : Int).toNat := (by rw [Ny293.out, List.length_drop] <;> omega); rw [show (Qg).drop (t288 : Int).toNat = y293 from Ny293.out.symm] at hr115; replace hr115 : Kd.C k50 _ A115 y293.length y293 := (by rw [hA115]; exact hr115); rw [← hy115, ← hA115, ← hc115] at hcut115; have HR296 := z20_ hr115; have HC296 := z20_ (show y293.length ≤ c115 from by rw [hy115, hc115]; exact Nat.sub_le_sub_right hroom115 _); clear hr115 hC115 hroom115 hi0115 hsz115 hc115; have KY115 := z20_ hy115; have KA115 := z20_ hA115; clear hy115 hA115; have KL115 := z20_ (show (t288 : Int).toNat ≤ Qg.length from by omega); replace q115 := eq_true q115) | ((with_reducible refine gate_builtin (b := .append) (xs := #[.tmp 75, .tmp 78]) rfl ?_); at_builtin; refine Kd.R_append_rows k50 w.heap.size rfl (.tmp 75) (.tmp 78) 23 50 (.agg #[(.int .i64 0), (.int .i64 0), (.int .i64 0), (.int .i64 0)]) 32 rfl Try.underlying23 info50 rfl (by decide) (by omega) v291 y290 y293 _ _ _ (fun k_ => some k_ ≠ (.slice (some Qj) t204.length co104 : Value).ownBlock ∧ some k_ ≠ (.slice Ao111 Qg.length co111 : Value).ownBlock ∧ k_ ≠ Qc) (fun _ => False) rfl rfl ?aO ?aR (fun _ _ h => h) (fun _ h => h.elim) ?aF (Below.refl _ _) ?aS ?aL ?_; (case aR => repeat (first | exact (by repeat (first | (with_reducible exact HR296.out) | (with_reducible refine Kd.C_alloc ?_ _) | (with_reducible refine Kd.C_drewN ?_ _) | (with_reducible refine Kd.C_drew ?_) | exact HR296.out)) | (with_reducible refine Kd.C_alloc ?_ _) | (with_reducible refine Kd.C_drewN ?_ _) | (with_reducible refine Kd.C_drew ?_))); (case aF => exact (fun k_ hk => ⟨z18_ (z19_ (by (with_reducible repeat (first | apply z0_ | apply z1_ | apply z2_)); exact Qe.out)) k_ hk, z18_ (z19_ (by (with_reducible repeat (first | apply z0_ | apply z1_ | apply z2_)); exact Qf.out)) k_ hk, Kd.freshB (g := Qc) (o := .cells #[.int .i64 t286, .int .i64 ((rd_T50 t204 Qa).f1), .int .i64 ((rd_T50 t204 Qa).f2), .int .i64 ((rd_T50 t204 Qa).f3)] 50 (0, 0)) (by (with_reducible repeat (first | refine z10_ ?_ _ | refine z12_ ?_ | refine z11_ ?_ _)); exact Qb.out) k_ hk⟩)); (case aO => exact (by (with_reducible repeat (first | apply z0_ | apply z1_ | apply z2_)); exact z16_ HO292.out (fun _ hk => ⟨hk.1.1.2, ⟨hk.1.2, hk.2⟩⟩))); (case aS => exact (z9_ (w := w) (g := g) (row := none) (by repeat (first | (with_reducible first | exact HK.out | apply z6_ | apply z7_ | apply z8_ | apply z21_ | refine z22_ ?_ Qh.out _) | exact HK.out)))); (case aL => have := LMc100.out; omega); intro v298 w116 ho hb hg hat; rw [← Ny297.out] at ho; have n0_ := z20_ (z26_ (ok := (fun k_ => some k_ ≠ (.slice Ao111 Qg.length co111 : Value).ownBlock ∧ k_ ≠ Qc)) (by (with_reducible repeat (first | apply z0_ | apply z1_ | apply z2_)); exact Qe.out) hg hat); have n1_ := z20_ (z26_ (ok := (fun k_ => some k_ ≠ (.slice (some Qj) t204.length co104 : Value).ownBlock ∧ k_ ≠ Qc)) (by (with_reducible repeat (first | apply z0_ | apply z1_ | apply z2_)); exact Qf.out) hg hat); have n2_ := z20_ (z38_ (by first | ((repeat (first | (with_reducible first | exact HI0.out | apply z31_ | apply z35_ | apply z34_ | apply z40_ | refine z36_ ?_ Qd.out _) | exact HI0.out)); done) | exact z36_ HI0.out Qd.out _ | exact z36_ (z36_ HI0.out Qd.out _) Qd.out _) hg (z39_ HI0.out HO292.out (by decide))); have n3_ := z20_ (blk_grown (g := Qc) (o := .cells #[.int .i64 t286, .int .i64 ((rd_T50 t204 Qa).f1), .int .i64 ((rd_T50 t204 Qa).f2), .int .i64 ((rd_T50 t204 Qa).f3)] 50 (0, 0)) (by (with_reducible repeat (first | refine z10_ ?_ _ | refine z12_ ?_ | refine z11_ ?_ _)); exact Qb.out) hg (Kd.R_away HO292.out (fun _ hk => hk.2))); have n4_ := z20_ (z14_ (by repeat (first | (with_reducible first | exact HB.out | apply z3_ | apply z4_ | apply z5_ | refine z25_ ?_ (z37_ HI0.out) | refine z25_ ?_ Qk.out) | exact HB.out)) HL.out hb); have n5_ := z20_ (z13_ (by repeat (first | (with_reducible first | exact HK.out | apply z6_ | apply z7_ | apply z8_ | apply z21_ | refine z22_ ?_ Qh.out _) | exact HK.out)) (z27_ hg g) (Kd.R_base2 HO292.out)); have n6_ := z20_ ((show Kd.C k50 w116 A115 y293.length y293 from by rw [Ny293.out, KA115.out]; exact Kd.C_drop (m := (t288 : Int).toNat) (c := co111) ((z30_ (z26_ (ok := (fun k_ => some k_ ≠ (.slice (some Qj) t204.length co104 : Value).ownBlock ∧ k_ ≠ Qc)) (by (with_reducible repeat (first | apply z0_ | apply z1_ | apply z2_)); exact Qf.out) hg hat)).2.2) KL115.out ((z30_ (z26_ (ok := (fun k_ => some k_ ≠ (.slice (some Qj) t204.length co104 : Value).ownBlock ∧ k_ ≠ Qc)) (by (with_reducible repeat (first | apply z0_ | apply z1_ | apply z2_)); exact Qf.out) hg hat)).2.1))); have n7_ := z20_ (ho); clear Qe; clear Qf; clear HI0; clear Qb; clear HB; clear HK; clear HR296; clear HO292; have Qe := n0_; have Qf := n1_; have HI0 := n2_; have Qb := n3_; have HB := n4_; have HK := n5_; have HR296 := n6_; have Qr := n7_; clear n0_ n1_ n2_ n3_ n4_ n5_ n6_ n7_; clear ho hb hg hat))
             have n0_ := z20_ (z2_ Qe.out)
             have n1_ := z20_ (z2_ Qf.out)
             have n2_ := z20_ (z2_ Qr.out)
             have n3_ := z20_ (z12_ Qb.out)
             have n4_ := z20_ (Kd.C_drew HR296.out)
             have n5_ := z20_ (z34_ HI0.out)
             have n6_ := z20_ (z8_ HK.out)
             have n7_ := z20_ (z5_ HB.out)
             clear Qe; clear Qf; clear Qr; clear Qb; clear HR296; clear HI0; clear HK; clear HB; have Qe := n0_; have Qf := n1_; have Qr := n2_; have Qb := n3_; have HR296 := n4_; have HI0 := n5_; have HK := n6_; have HB := n7_; clear n0_ n1_ n2_ n3_ n4_ n5_ n6_ n7_
             have q118 : (t288 : Int) ≤ ((Qg.length : Int) : Int) := z29_ (by first | (with_reducible assumption) | assumption)
             obtain ⟨i0118, hi0118, _, hsz118, _⟩ := info_parts info50
             have hcut118 := cut_to (P := Try.prog) 23 50 .i64 Try.underlying23 hi0118 Ao111 Qg.length co111 t288 (z29_ (by first | (with_reducible assumption) | assumption)) q118 (z30_ Qf.out).2.1
             have hr118 := Kd.R_take (m := (t288 : Int).toNat) Qf.out (by omega)
             have hy118 : y300.length = (t288 : Int).toNat := (by rw [Ny300.out, List.length_take]; omega)
             rw [← Ny300.out] at hr118
             rw [← hy118] at hr118 hcut118
             clear hy118 hi0118 hsz118 Qf
             have HO302 := z20_ hr118
             clear hr118; replace q118 := eq_true q118
             refine start_ (n := 9) (S := fun w' => w'.cell? ⟨Qc, 0, none⟩ = some (.int .i64 t286) ∧ w'.cell? ⟨Qc, 1, none⟩ = some (.int .i64 ((rd_T50 t204 Qa).f1)) ∧ w'.cell? ⟨Qc, 2, none⟩ = some (.int .i64 ((rd_T50 t204 Qa).f2)) ∧ w'.cell? ⟨Qc, 3, none⟩ = some (.int .i64 ((rd_T50 t204 Qa).f3))) (ds := []) #[false, false, false, false, false, false, false, false, false] (by kernel_rfl) rfl rfl ⟨(z23_ Qb.out 0).trans rfl, (z23_ Qb.out 1).trans rfl, (z23_ Qb.out 2).trans rfl, (z23_ Qb.out 3).trans rfl⟩ (fun hHeld => ?_); refine with_tabW spec_twoBooks.tab22 spec_twoBooks.bits22 (fun HT_ HW_ => ?_)
             generalize w116.drew = w117 at Qe Qr Qb HR296 HI0 HK HB HO302 hHeld ⊢
             refine pure_ (i := 0) (N := some 80) (v := ?_) (a' := ?_) #[true, false, false, false, false, false, false, false, false] rfl rfl (any_of HT_.out (by kernel_rfl)) (fun _ _ _ h => h) (Or.inl ⟨by rfl, ?_⟩) ?_ ?_
             rotate_left
             ·intro w'
              go_simp
              with_reducible rfl
             rotate_left
             ·simp only [Act.put, List.setIfInBounds_toArray, List.set_cons_zero, List.set_cons_succ, i64_w, i32_w]
              rfl
             refine pure_ (i := 1) (N := some 81) (v := ?_) (a' := ?_) #[true, true, false, false, false, false, false, false, false] rfl rfl (any_of HT_.out (by kernel_rfl)) (fun _ _ _ h => h) (Or.inl ⟨by rfl, ?_⟩) ?_ ?_
             rotate_left
             ·intro w'
              go_simp
              with_reducible rfl
             rotate_left
             ·simp only [Act.put, List.setIfInBounds_toArray, List.set_cons_zero, List.set_cons_succ, i64_w, i32_w]
              rfl
             refine pure_ (i := 2) (N := some 82) (v := ?_) (a' := ?_) #[true, true, true, false, false, false, false, false, false] rfl rfl (any_of HT_.out (by kernel_rfl)) (fun _ _ _ h => h) (Or.inl ⟨by rfl, ?_⟩) ?_ ?_
             rotate_left
             ·intro w'
              go_simp
              with_reducible rfl
             rotate_left
             ·simp only [Act.put, List.setIfInBounds_toArray, List.set_cons_zero, List.set_cons_succ, i64_w, i32_w]
              rfl
             refine pure_ (i := 6) (N := some 86) (v := ?_) (a' := ?_) #[true, true, true, false, false, false, true, false, false] rfl rfl (any_of HT_.out (by kernel_rfl)) (fun _ _ _ h => h) (Or.inl ⟨by rfl, ?_⟩) ?_ ?_
             rotate_left
             ·intro w'
              go_simp
              with_reducible rfl
             rotate_left
             ·simp only [Act.put, List.setIfInBounds_toArray, List.set_cons_zero, List.set_cons_succ, i64_w, i32_w]
              rfl
             refine take_ (i := 3) (N := some 83) (v := ?_) (a' := ?_) #[true, true, true, true, false, false, true, false, false] rfl rfl (take_ofW HT_.out HW_.out (by kernel_rfl)) (fun _ _ _ h => h) (Or.inl ⟨by rfl, ?_⟩) hHeld ?_ ?_
             rotate_left
             ·rintro w' ⟨s0, s1, s2, s3⟩
              go_simp
              with_reducible rfl
             rotate_left
             ·simp only [Act.put, List.setIfInBounds_toArray, List.set_cons_zero, List.set_cons_succ, i64_w, i32_w]
              rfl
             refine one_ (i := 4) (N := some 84) #[true, true, true, true, true, false, true, false, false] rfl rfl (one_of HT_.out (by kernel_rfl)) (by decide) (fun K hK => ?_)
             refine value_ (w1 := ?_) (v := ?_) (by rfl) rfl ?_ ?_
             rotate_left 2
             ·go_simp
              constructor
              ·rfl
              ·rfl
             refine hK.out _ _ ⟨(z23_ (z11_ Qb.out _) 0).trans rfl, (z23_ (z11_ Qb.out _) 1).trans rfl, (z23_ (z11_ Qb.out _) 2).trans rfl, (z23_ (z11_ Qb.out _) 3).trans rfl⟩ (fun hHeld => ?_)
             clear hK K
             refine norm_ (a' := ?_) ?_ ?_
             rotate_left
             ·show Act.put _ (some 84) _ = _
              simp only [Act.put, List.setIfInBounds_toArray, List.set_cons_zero, List.set_cons_succ, i64_w, i32_w]
              rfl
             refine one_ (i := 5) (N := some 85) #[true, true, true, true, true, true, true, false, false] rfl rfl (one_of HT_.out (by kernel_rfl)) (by decide) (fun K hK => ?_)
             refine Kd.R_append_step k50 w.heap.size (by rfl) (.tmp 82) (.tmp 84) 23 50 (.agg #[(.int .i64 0), (.int .i64 0), (.int .i64 0), (.int .i64 0)]) 32 rfl Try.underlying23 info50 rfl (by decide) (by omega) (.slice Ao111 y300.length co111) y300 (⟨t286, (rd_T50 t204 Qa).f1, (rd_T50 t204 Qa).f2, (rd_T50 t204 Qa).f3⟩ : S50) [.int .i64 t286, .int .i64 ((rd_T50 t204 Qa).f1), .int .i64 ((rd_T50 t204 Qa).f2), .int .i64 ((rd_T50 t204 Qa).f3)] (fun k_ => some k_ ≠ (.slice (some Qj) t204.length co104 : Value).ownBlock ∧ some k_ ≠ (v298 : Value).ownBlock ∧ k_ ≠ Qc) (fun _ => False) rfl rfl ?aP (fun _ hk => hk.elim) ?aF ?aO (Below.refl _ _) ?aS ?aL ?_
             (case aP => exact k50_mkM _ _ _ (⟨t286, (rd_T50 t204 Qa).f1, (rd_T50 t204 Qa).f2, (rd_T50 t204 Qa).f3⟩ : S50))
             (case aF => exact (fun k_ hk => ⟨z18_ (z19_ (by (with_reducible repeat (first | apply z0_ | apply z1_ | apply z2_)); exact Qe.out)) k_ hk, z18_ (z19_ (by (with_reducible repeat (first | apply z0_ | apply z1_ | apply z2_)); exact Qr.out)) k_ hk, Kd.freshB (g := Qc) (o := .cells #[.int .i64 t286, .int .i64 ((rd_T50 t204 Qa).f1), .int .i64 ((rd_T50 t204 Qa).f2), .int .i64 ((rd_T50 t204 Qa).f3)] 50 (0, 0)) (by (with_reducible repeat (first | refine z10_ ?_ _ | refine z12_ ?_ | refine z11_ ?_ _)); exact Qb.out) k_ hk⟩))
             (case aO => exact (by (with_reducible repeat (first | apply z0_ | apply z1_ | apply z2_)); exact z16_ HO302.out (fun _ hk => ⟨hk.1.1, ⟨hk.2, hk.1.2⟩⟩)))
             (case aS => exact (z9_ (w := w) (g := g) (row := none) (by repeat (first | (with_reducible first | exact HK.out | apply z6_ | apply z7_ | apply z8_ | apply z21_ | refine z22_ ?_ Qh.out _) | exact HK.out))))
             (case aL => have := LMc102.out; omega)
             intro v304 w119 ho hb hg hat
             have oc_ : (Value.slice Ao111 y300.length co111).ownBlock = (Value.slice Ao111 Qg.length co111).ownBlock := (by generalize Ao111 = z_; cases z_ <;> rfl)
             have hg2_ := hg; have hat2_ := hat
             rw [oc_] at hg2_ hat2_
             rw [← Ny303.out] at ho
             have n0_ := z20_ (z26_ (ok := (fun k_ => some k_ ≠ (v298 : Value).ownBlock ∧ k_ ≠ Qc)) (by (with_reducible repeat (first | apply z0_ | apply z1_ | apply z2_)); exact z16_ Qe.out (fun _ hk => ⟨⟨hk.2, hk.1.2⟩, hk.1.1⟩)) hg2_ hat2_)
             have n1_ := z20_ (z38_ (by first | ((repeat (first | (with_reducible first | exact HI0.out | apply z31_ | apply z35_ | apply z34_ | apply z40_ | refine z36_ ?_ Qd.out _) | exact HI0.out)); done) | exact z36_ HI0.out Qd.out _ | exact z36_ (z36_ HI0.out Qd.out _) Qd.out _) hg (z39_ HI0.out HO302.out (by decide)))
             have n2_ := z20_ (blk_grown (g := Qc) (o := .cells #[.int .i64 t286, .int .i64 ((rd_T50 t204 Qa).f1), .int .i64 ((rd_T50 t204 Qa).f2), .int .i64 ((rd_T50 t204 Qa).f3)] 50 (0, 0)) (by (with_reducible repeat (first | refine z10_ ?_ _ | refine z12_ ?_ | refine z11_ ?_ _)); exact Qb.out) hg (Kd.R_away HO302.out (fun _ hk => hk.1.2)))
             have n3_ := z20_ (z26_ (ok := (fun k_ => some k_ ≠ (.slice (some Qj) t204.length co104 : Value).ownBlock ∧ k_ ≠ Qc)) (by (with_reducible repeat (first | apply z0_ | apply z1_ | apply z2_)); exact z16_ Qr.out (fun _ hk => ⟨⟨hk.1, hk.2.2⟩, hk.2.1⟩)) hg2_ hat2_)
             have n4_ := z20_ (z14_ (by repeat (first | (with_reducible first | exact HB.out | apply z3_ | apply z4_ | apply z5_ | refine z25_ ?_ (z37_ HI0.out) | refine z25_ ?_ Qk.out) | exact HB.out)) HL.out hb)
             have n5_ := z20_ (z13_ (by repeat (first | (with_reducible first | exact HK.out | apply z6_ | apply z7_ | apply z8_ | apply z21_ | refine z22_ ?_ Qh.out _) | exact HK.out)) (z27_ hg g) (Kd.R_base2 HO302.out))
             have n6_ := z20_ (ho)
             clear Qe; clear HI0; clear Qb; clear Qr; clear HB; clear HK; clear HO302; have Qe := n0_; have HI0 := n1_; have Qb := n2_; have Qr := n3_; have HB := n4_; have HK := n5_; have HO305 := n6_; clear n0_ n1_ n2_ n3_ n4_ n5_ n6_; clear ho hb hg hat hg2_ hat2_ oc_
             obtain ⟨Ao121, co121, eo121⟩ := Kd.R_slice Qr.out
             (first | subst eo121 | (injection eo121 with f1_ f2_ f3_; have f4_ := f1_.symm; have f5_ := f3_.symm; clear f1_ f2_ f3_; subst f4_; subst f5_))
             refine hK.out _ _ ⟨(z23_ Qb.out 0).trans rfl, (z23_ Qb.out 1).trans rfl, (z23_ Qb.out 2).trans rfl, (z23_ Qb.out 3).trans rfl⟩ (fun hHeld => ?_)
             clear hK K
             refine norm_ (a' := ?_) ?_ ?_
             rotate_left
             ·show Act.put _ (some 85) _ = _
              simp only [Act.put, List.setIfInBounds_toArray, List.set_cons_zero, List.set_cons_succ, i64_w, i32_w]
              rfl
             refine one_ (i := 7) (N := some 87) #[true, true, true, true, true, true, true, true, false] rfl rfl (one_of HT_.out (by kernel_rfl)) (by decide) (fun K hK => ?_)
             refine Kd.R_append_rows_step k50 w.heap.size (by rfl) (.tmp 85) (.tmp 86) 23 50 (.agg #[(.int .i64 0), (.int .i64 0), (.int .i64 0), (.int .i64 0)]) 32 rfl Try.underlying23 info50 rfl (by decide) (by omega) v304 y303 y297 _ _ _ (fun k_ => some k_ ≠ (.slice (some Qj) t204.length co104 : Value).ownBlock ∧ some k_ ≠ (.slice Ao121 y297.length co121 : Value).ownBlock ∧ k_ ≠ Qc) (fun _ => False) rfl rfl ?aO ?aR (fun _ _ h => h) (fun _ h => h.elim) ?aF (Below.refl _ _) ?aS ?aL ?_
             (case aR => repeat (first | exact (z30_ Qr.out).2.2 | (with_reducible refine Kd.C_alloc ?_ _) | (with_reducible refine Kd.C_drewN ?_ _) | (with_reducible refine Kd.C_drew ?_)))
             (case aF => exact (fun k_ hk => ⟨z18_ (z19_ (by (with_reducible repeat (first | apply z0_ | apply z1_ | apply z2_)); exact Qe.out)) k_ hk, z18_ (z19_ (by (with_reducible repeat (first | apply z0_ | apply z1_ | apply z2_)); exact Qr.out)) k_ hk, Kd.freshB (g := Qc) (o := .cells #[.int .i64 t286, .int .i64 ((rd_T50 t204 Qa).f1), .int .i64 ((rd_T50 t204 Qa).f2), .int .i64 ((rd_T50 t204 Qa).f3)] 50 (0, 0)) (by (with_reducible repeat (first | refine z10_ ?_ _ | refine z12_ ?_ | refine z11_ ?_ _)); exact Qb.out) k_ hk⟩))
             (case aO => exact (by (with_reducible repeat (first | apply z0_ | apply z1_ | apply z2_)); exact HO305.out))
             (case aS => exact (z9_ (w := w) (g := g) (row := none) (by repeat (first | (with_reducible first | exact HK.out | apply z6_ | apply z7_ | apply z8_ | apply z21_ | refine z22_ ?_ Qh.out _) | exact HK.out))))
             (case aL => have := LMc103.out; omega)
             intro v307 w120 ho hb hg hat
             rw [← Ny306.out] at ho
             have n0_ := z20_ (z26_ (ok := (fun k_ => some k_ ≠ (.slice Ao121 y297.length co121 : Value).ownBlock ∧ k_ ≠ Qc)) (by (with_reducible repeat (first | apply z0_ | apply z1_ | apply z2_)); exact Qe.out) hg hat)
             have n1_ := z20_ (z38_ (by first | ((repeat (first | (with_reducible first | exact HI0.out | apply z31_ | apply z35_ | apply z34_ | apply z40_ | refine z36_ ?_ Qd.out _) | exact HI0.out)); done) | exact z36_ HI0.out Qd.out _ | exact z36_ (z36_ HI0.out Qd.out _) Qd.out _) hg (z39_ HI0.out HO305.out (by decide)))
             have n2_ := z20_ (blk_grown (g := Qc) (o := .cells #[.int .i64 t286, .int .i64 ((rd_T50 t204 Qa).f1), .int .i64 ((rd_T50 t204 Qa).f2), .int .i64 ((rd_T50 t204 Qa).f3)] 50 (0, 0)) (by (with_reducible repeat (first | refine z10_ ?_ _ | refine z12_ ?_ | refine z11_ ?_ _)); exact Qb.out) hg (Kd.R_away HO305.out (fun _ hk => hk.2.2)))
             have n3_ := z20_ (z26_ (ok := (fun k_ => some k_ ≠ (.slice (some Qj) t204.length co104 : Value).ownBlock ∧ k_ ≠ Qc)) (by (with_reducible repeat (first | apply z0_ | apply z1_ | apply z2_)); exact Qr.out) hg hat)
             have n4_ := z20_ (z14_ (by repeat (first | (with_reducible first | exact HB.out | apply z3_ | apply z4_ | apply z5_ | refine z25_ ?_ (z37_ HI0.out) | refine z25_ ?_ Qk.out) | exact HB.out)) HL.out hb)
             have n5_ := z20_ (z13_ (by repeat (first | (with_reducible first | exact HK.out | apply z6_ | apply z7_ | apply z8_ | apply z21_ | refine z22_ ?_ Qh.out _) | exact HK.out)) (z27_ hg g) (Kd.R_base2 HO305.out))
             have n6_ := z20_ (ho)
             clear Qe; clear HI0; clear Qb; clear Qr; clear HB; clear HK; clear HO305; have Qe := n0_; have HI0 := n1_; have Qb := n2_; have Qr := n3_; have HB := n4_; have HK := n5_; have HO308 := n6_; clear n0_ n1_ n2_ n3_ n4_ n5_ n6_; clear ho hb hg hat
             refine hK.out _ _ ⟨(z23_ Qb.out 0).trans rfl, (z23_ Qb.out 1).trans rfl, (z23_ Qb.out 2).trans rfl, (z23_ Qb.out 3).trans rfl⟩ (fun hHeld => ?_)
             clear hK K
             refine norm_ (a' := ?_) ?_ ?_
             rotate_left
             ·show Act.put _ (some 87) _ = _
              simp only [Act.put, List.setIfInBounds_toArray, List.set_cons_zero, List.set_cons_succ, i64_w, i32_w]
              rfl
             refine pure_ (i := 8) (N := some 5) (v := ?_) (a' := ?_) #[true, true, true, true, true, true, true, true, true] rfl rfl (any_of HT_.out (by kernel_rfl)) (fun _ _ _ h => h) (Or.inl ⟨by rfl, ?_⟩) ?_ ?_
             rotate_left
             ·intro w'
              go_simp
              with_reducible rfl
             rotate_left
             ·simp only [Act.put, List.setIfInBounds_toArray, List.set_cons_zero, List.set_cons_succ, i64_w, i32_w]
              rfl
             refine done_ (done_of HT_.out (by kernel_rfl)) ?_
             try go_wp2
             go_roundg k1
             case measure => have := HK1.out; omega
             case rel => exact ⟨(y306), (wrap64 (Qa + 1)), (t289), (by first | rfl | (simp; done) | (simp [*]; done)), H', ⟨by have := HK1.out; omega⟩, ⟨by (with_reducible repeat (first | apply z0_ | apply z1_ | apply z2_)); exact z16_ Qe.out (fun _ hk => hk.2)⟩, ⟨by (with_reducible repeat (first | apply z0_ | apply z1_ | apply z2_)); exact z16_ HO308.out (fun _ hk => hk.1)⟩, ⟨by repeat (first | (with_reducible first | exact HI0.out | apply z31_ | apply z35_ | apply z34_ | apply z40_ | refine z36_ ?_ Qd.out _) | exact HI0.out)⟩, ⟨by repeat (first | (with_reducible first | exact HK.out | apply z6_ | apply z7_ | apply z8_ | apply z21_ | refine z22_ ?_ Qh.out _) | exact HK.out)⟩, ⟨by repeat (first | (with_reducible first | exact HB.out | apply z3_ | apply z4_ | apply z5_ | refine z25_ ?_ (z37_ HI0.out) | refine z25_ ?_ Qk.out) | exact HB.out)⟩⟩
            ·rw [if_neg c103] at H
             exact absurd H (by simp)
           ·rw [if_neg c102] at H
            exact absurd H (by simp)
          ·rw [if_neg c100] at H
           exact absurd H (by simp)
         ·rw [if_neg c99] at H
          exact absurd H (by simp)
        ·rw [if_neg c98] at H
         exact absurd H (by simp)
       ·rw [if_neg c95] at H
        have c95b0 : (t213 == 2) = false := beq_eq_false_iff_ne.mpr c95
        have c95b1 : (t213 != 2) = true := bne_iff_ne.mpr c95
        by_cases c122 : t213 = 3
        ·rw [if_pos c122] at H
         have c122b0 : (t213 == 3) = true := beq_iff_eq.mpr c122
         have c122b1 : (t213 != 3) = false := bne_eq_false_iff_eq.mpr c122
         clear c122
         have H' := z20_ H
         clear H
         obtain ⟨Ao123, co123, eo123⟩ := Kd.R_slice Qe.out
         subst eo123
         have p211 : 0 ≤ (Qa : Int) := z29_ (by first | (with_reducible assumption) | assumption)
         have q211 : Qa < (t204.length : Int) := z29_ (by first | (with_reducible assumption) | assumption)
         obtain ⟨Qj, e211, hx211_0, hx211_1, hx211_2, hx211_3⟩ := at_T50 (z30_ Qe.out).2.2 Qa p211 q211
         cases e211
         replace p211 := eq_true p211; replace q211 := eq_true q211
         go_wp2_with (first | ((with_reducible refine gate_dst (N := 7) rfl ?_); refine box_event ?hg (N := 7) ?hd (cs := #[.int .i64 0, .int .i64 0, .int .i64 0, .int .i64 0]) (t := 50) ?hr ?_; (case hd => rfl); (case hg => rfl); (case hr => first | (go_simp; done) | (go_simp; rfl)); intro Qc hg w124 hbox hb; have n0_ := z20_ (Kd.R_below (Kd.R_elderB (by (with_reducible repeat (first | apply z0_ | apply z1_ | apply z2_)); exact Qe.out) Qc (Nat.le_of_eq hg.symm)) hb); have n1_ := z20_ (Kd.R_below (Kd.R_elderB (by (with_reducible repeat (first | apply z0_ | apply z1_ | apply z2_)); exact Qf.out) Qc (Nat.le_of_eq hg.symm)) hb); have n2_ := z20_ (z33_ (by repeat (first | (with_reducible first | exact HI0.out | apply z31_ | apply z35_ | apply z34_ | apply z40_) | exact HI0.out)) hb); have n3_ := z20_ (z13_ (by repeat (first | (with_reducible first | exact HK.out | apply z6_ | apply z7_ | apply z8_ | apply z21_) | exact HK.out)) (z28_ hb g none) (.inl rfl)); have n4_ := z20_ (below_step (by repeat (first | (with_reducible first | exact HB.out | apply z3_ | apply z4_ | apply z5_ | refine z25_ ?_ (z37_ HI0.out)) | exact HB.out)) hb); have n5_ := z20_ (hbox); have n6_ := z20_ ((by rw [hg]; exact (z9_ (w := w) (g := g) (row := none) (by repeat (first | (with_reducible first | exact HK.out | apply z6_ | apply z7_ | apply z8_ | apply z21_) | exact HK.out))) : w.heap.size ≤ Qc)); have n7_ := z20_ ((Nat.le_trans HW0.out (by rw [hg]; exact (z9_ (w := w) (g := g) (row := none) (by repeat (first | (with_reducible first | exact HK.out | apply z6_ | apply z7_ | apply z8_ | apply z21_) | exact HK.out))) : w.heap.size ≤ Qc) : w0.heap.size ≤ Qc)); have n8_ := z20_ ((by rw [hg]; exact Nat.ne_of_lt (IsS68.lt (show IsS68 w0 _ g s0_0 Qi from by repeat (first | (with_reducible first | exact HI0.out | apply z31_ | apply z35_ | apply z34_ | apply z40_) | exact HI0.out))) : g ≠ Qc)); have n9_ := z20_ ((by rw [hg]; exact Nat.ne_of_gt (IsS68.lt (show IsS68 w0 _ g s0_0 Qi from by repeat (first | (with_reducible first | exact HI0.out | apply z31_ | apply z35_ | apply z34_ | apply z40_) | exact HI0.out))) : Qc ≠ g)); clear Qe; clear Qf; clear HI0; clear HK; clear HB; have Qe := n0_; have Qf := n1_; have HI0 := n2_; have HK := n3_; have HB := n4_; have Qb := n5_; have Qh := n6_; have Qk := n7_; have Qd := n8_; have Ql := n9_; clear n0_ n1_ n2_ n3_ n4_ n5_ n6_ n7_ n8_ n9_; clear hb hbox hg; have hnb125 := Ql.out; have hnc125 := Qd.out; have hcz126_0 : w124.cell? ⟨Qc, 0, none⟩ = some (.int .i64 0) := (z23_ Qb.out 0).trans rfl; have hcz126_1 : w124.cell? ⟨Qc, 1, none⟩ = some (.int .i64 0) := (z23_ Qb.out 1).trans rfl; have hcz126_2 : w124.cell? ⟨Qc, 2, none⟩ = some (.int .i64 0) := (z23_ Qb.out 2).trans rfl; have hcz126_3 : w124.cell? ⟨Qc, 3, none⟩ = some (.int .i64 0) := (z23_ Qb.out 3).trans rfl; have hfz126_0 := z24_ Qb.out 0; have hfz126_1 := z24_ Qb.out 1; have hfz126_2 := z24_ Qb.out 2; have hfz126_3 := z24_ Qb.out 3) | ((with_reducible refine gate_callee (f := 37) rfl ?_); refine goesL_ (some 25) rfl rfl Try.func37 (by kernel_rfl) rfl #[.pointer (some ⟨g, 0, none⟩), .int .i64 10] rfl (by (try simp only [List.map_toArray, List.map_cons, List.map_nil]); first | done | rfl | (simp only [List.length_drop, List.length_take]; rfl)) ?_; (with_reducible refine (spec_reader_pick.calls k1 g s0_0 Qi 10 t213 t214 w0 _ ?side1 ?side2 A8.out).mono ?_); (case side1 => repeat (first | (with_reducible first | exact HI0.out | apply z31_ | apply z35_ | apply z34_ | apply z40_ | refine z36_ ?_ Qd.out _) | exact HI0.out)); (case side2 => repeat (first | (with_reducible first | exact HB.out | apply z3_ | apply z4_ | apply z5_ | refine z25_ ?_ (z37_ HI0.out) | refine z25_ ?_ Qk.out) | exact HB.out)); rintro e w127 ⟨rfl, hi, hb, hk⟩; refine ⟨_, rfl, ?_⟩; have n0_ := z20_ (z16_ (z17_ (z32_ (show IsS68 w0 _ g s0_0 Qi from by repeat (first | (with_reducible first | exact HI0.out | apply z31_ | apply z35_ | apply z34_ | apply z40_ | refine z36_ ?_ Qd.out _) | exact HI0.out)) (by (with_reducible repeat (first | apply z0_ | apply z1_ | apply z2_)); exact (z16_ (z15_ (p := ⟨Qc, 3, none⟩) (z15_ (p := ⟨Qc, 2, none⟩) (z15_ (p := ⟨Qc, 1, none⟩) (z15_ (p := ⟨Qc, 0, none⟩) (z16_ Qe.out (fun k_ hk => (⟨hk, hk.2⟩ : _ ∧ k_ ≠ Qc))) (fun _ hk => hk.2) (.int .i64 ((rd_T50 t204 Qa).f0))) (fun _ hk => hk.2) (.int .i64 ((rd_T50 t204 Qa).f1))) (fun _ hk => hk.2) (.int .i64 ((rd_T50 t204 Qa).f2))) (fun _ hk => hk.2) (.int .i64 ((rd_T50 t204 Qa).f3))) (fun _ h_ => h_.1))) (by decide)) hk (fun _ h => h.2)) (fun _ h => h.1)); have n1_ := z20_ (z16_ (z17_ (z32_ (show IsS68 w0 _ g s0_0 Qi from by repeat (first | (with_reducible first | exact HI0.out | apply z31_ | apply z35_ | apply z34_ | apply z40_ | refine z36_ ?_ Qd.out _) | exact HI0.out)) (by (with_reducible repeat (first | apply z0_ | apply z1_ | apply z2_)); exact (z16_ (z15_ (p := ⟨Qc, 3, none⟩) (z15_ (p := ⟨Qc, 2, none⟩) (z15_ (p := ⟨Qc, 1, none⟩) (z15_ (p := ⟨Qc, 0, none⟩) (z16_ Qf.out (fun k_ hk => (⟨hk, hk.2⟩ : _ ∧ k_ ≠ Qc))) (fun _ hk => hk.2) (.int .i64 ((rd_T50 t204 Qa).f0))) (fun _ hk => hk.2) (.int .i64 ((rd_T50 t204 Qa).f1))) (fun _ hk => hk.2) (.int .i64 ((rd_T50 t204 Qa).f2))) (fun _ hk => hk.2) (.int .i64 ((rd_T50 t204 Qa).f3))) (fun _ h_ => h_.1))) (by decide)) hk (fun _ h => h.2)) (fun _ h => h.1)); have n2_ := z20_ (KeepBut.blk hk (g' := Qc) (o := .cells #[.int .i64 ((rd_T50 t204 Qa).f0), .int .i64 ((rd_T50 t204 Qa).f1), .int .i64 ((rd_T50 t204 Qa).f2), .int .i64 ((rd_T50 t204 Qa).f3)] 50 (0, 0)) (by (with_reducible repeat (first | refine z10_ ?_ _ | refine z12_ ?_ | refine z11_ ?_ _)); refine blk_put (cs := #[.int .i64 ((rd_T50 t204 Qa).f0), .int .i64 ((rd_T50 t204 Qa).f1), .int .i64 ((rd_T50 t204 Qa).f2), .int .i64 0]) ?_ 3 _ rfl; (with_reducible repeat (first | refine z10_ ?_ _ | refine z12_ ?_ | refine z11_ ?_ _)); refine blk_put (cs := #[.int .i64 ((rd_T50 t204 Qa).f0), .int .i64 ((rd_T50 t204 Qa).f1), .int .i64 0, .int .i64 0]) ?_ 2 _ rfl; (with_reducible repeat (first | refine z10_ ?_ _ | refine z12_ ?_ | refine z11_ ?_ _)); refine blk_put (cs := #[.int .i64 ((rd_T50 t204 Qa).f0), .int .i64 0, .int .i64 0, .int .i64 0]) ?_ 1 _ rfl; (with_reducible repeat (first | refine z10_ ?_ _ | refine z12_ ?_ | refine z11_ ?_ _)); refine blk_put (cs := #[.int .i64 0, .int .i64 0, .int .i64 0, .int .i64 0]) ?_ 0 _ rfl; (with_reducible repeat (first | refine z10_ ?_ _ | refine z12_ ?_ | refine z11_ ?_ _)); exact Qb.out) Ql.out (by simp)); have n3_ := z20_ (z13_ (by repeat (first | (with_reducible first | exact HK.out | apply z6_ | apply z7_ | apply z8_ | apply z21_ | refine z22_ ?_ Qh.out _) | exact HK.out)) hk (.inl rfl)); have n4_ := z20_ (hb); have n5_ := z20_ (hi); clear Qe; clear Qf; clear Qb; clear HK; clear HB; clear HI0; have Qe := n0_; have Qf := n1_; have Qb := n2_; have HK := n3_; have HB := n4_; have HI0 := n5_; clear n0_ n1_ n2_ n3_ n4_ n5_; (try clear hb); (try clear hb2); (try clear hk); (try clear hi)))
         go_roundg k1
         case measure => have := HK1.out; omega
         case rel => exact ⟨(Qg), (wrap64 (Qa + 1)), (t214), (by first | rfl | (simp; done) | (simp [*]; done)), H', ⟨by have := HK1.out; omega⟩, ⟨by (with_reducible repeat (first | apply z0_ | apply z1_ | apply z2_)); exact z16_ Qe.out (fun _ hk => hk.1)⟩, ⟨by (with_reducible repeat (first | apply z0_ | apply z1_ | apply z2_)); exact z16_ Qf.out (fun _ hk => hk.1)⟩, ⟨by repeat (first | (with_reducible first | exact HI0.out | apply z31_ | apply z35_ | apply z34_ | apply z40_ | refine z36_ ?_ Qd.out _) | exact HI0.out)⟩, ⟨by repeat (first | (with_reducible first | exact HK.out | apply z6_ | apply z7_ | apply z8_ | apply z21_ | refine z22_ ?_ Qh.out _) | exact HK.out)⟩, ⟨by repeat (first | (with_reducible first | exact HB.out | apply z3_ | apply z4_ | apply z5_ | refine z25_ ?_ (z37_ HI0.out) | refine z25_ ?_ Qk.out) | exact HB.out)⟩⟩
        ·rw [if_neg c122] at H
         have c122b0 : (t213 == 3) = false := beq_eq_false_iff_ne.mpr c122
         have c122b1 : (t213 != 3) = true := bne_iff_ne.mpr c122
         by_cases c128 : t213 = 4
         ·rw [if_pos c128] at H
          have c128b0 : (t213 == 4) = true := beq_iff_eq.mpr c128
          have c128b1 : (t213 != 4) = false := bne_eq_false_iff_eq.mpr c128
          clear c128
          by_cases c129 : Qg.length < 4398046511104
          ·rw [if_pos c129] at H
           have LMc129 := z20_ c129
           clear c129
           obtain ⟨y309, hy309⟩ : ∃ y_ : List (S50), y_ = (Qg ++ [(⟨(rd_T50 t204 Qa).f0, (rd_T50 t204 Qa).f1, (rd_T50 t204 Qa).f2, (rd_T50 t204 Qa).f3⟩ : S50)]) := ⟨_, rfl⟩
           replace H : ((spec_reader_pick.f k1 s0_0 t214 (wrap64 ((y309.length : Int) + 1))).bind fun bt312 => ((some (([] : List (S50)) : List (S50))).bind fun y314 => (if 0 ≤ bt312.1 then (if bt312.1 ≤ (y309.length : Int) then ((some (y309.drop (bt312.1 : Int).toNat : List (S50))).bind fun y317 => (if y314.length + y317.length < 4398046511104 then ((some (y314 ++ y317 : List (S50))).bind fun y321 => ((some (y309.take (bt312.1 : Int).toNat : List (S50))).bind fun y324 => (if y324.length < 4398046511104 then ((some (y324 ++ [(⟨(rd_T50 t204 Qa).f0, (rd_T50 t204 Qa).f1, (rd_T50 t204 Qa).f2, (rd_T50 t204 Qa).f3⟩ : S50)] : List (S50))).bind fun y327 => (if y327.length + y321.length < 4398046511104 then (spec_twoBooks.l0 k1 t204 (y327 ++ y321) (wrap64 (Qa + 1)) s0_0 bt312.2) else (none))) else (none)))) else (none))) else (none)) else (none)))) = some (r1, r2, r3) := by first | (rw [hy309]; with_reducible exact H) | (have H2_ := (Option.bind_some _ _).symm.trans H; rw [hy309]; with_reducible exact H2_) | (have H2_ := (Option.bind_some _ _).symm.trans H; with_reducible exact H2_) | with_reducible exact H | (rw [hy309]; exact H) | exact H
           have Ny309 := z20_ hy309
           clear hy309
           replace H := Option.bind_eq_some_iff.mp H
           obtain ⟨⟨t312, t313⟩, A1300, H⟩ := H
           try dsimp only at H
           have A130 := z20_ A1300
           clear A1300
           obtain ⟨y314, hy314⟩ : ∃ y_ : List (S50), y_ = (([] : List (S50))) := ⟨_, rfl⟩
           replace H : (if 0 ≤ t312 then (if t312 ≤ (y309.length : Int) then ((some (y309.drop (t312 : Int).toNat : List (S50))).bind fun y317 => (if y314.length + y317.length < 4398046511104 then ((some (y314 ++ y317 : List (S50))).bind fun y321 => ((some (y309.take (t312 : Int).toNat : List (S50))).bind fun y324 => (if y324.length < 4398046511104 then ((some (y324 ++ [(⟨(rd_T50 t204 Qa).f0, (rd_T50 t204 Qa).f1, (rd_T50 t204 Qa).f2, (rd_T50 t204 Qa).f3⟩ : S50)] : List (S50))).bind fun y327 => (if y327.length + y321.length < 4398046511104 then (spec_twoBooks.l0 k1 t204 (y327 ++ y321) (wrap64 (Qa + 1)) s0_0 t313) else (none))) else (none)))) else (none))) else (none)) else (none)) = some (r1, r2, r3) := by first | (rw [hy314]; with_reducible exact H) | (have H2_ := (Option.bind_some _ _).symm.trans H; rw [hy314]; with_reducible exact H2_) | (have H2_ := (Option.bind_some _ _).symm.trans H; with_reducible exact H2_) | with_reducible exact H | (rw [hy314]; exact H) | exact H
           have Ny314 := z20_ hy314
           clear hy314
           by_cases c131 : 0 ≤ t312
           ·rw [if_pos c131] at H
            have c131b0 := eq_true c131
            have c131b1 : decide (0 ≤ t312) = true := decide_eq_true c131
            clear c131
            by_cases c132 : t312 ≤ (y309.length : Int)
            ·rw [if_pos c132] at H
             have c132b0 := eq_true c132
             have c132b1 : decide (t312 ≤ (y309.length : Int)) = true := decide_eq_true c132
             clear c132
             obtain ⟨y317, hy317⟩ : ∃ y_ : List (S50), y_ = (y309.drop (t312 : Int).toNat) := ⟨_, rfl⟩
             replace H : (if y314.length + y317.length < 4398046511104 then ((some (y314 ++ y317 : List (S50))).bind fun y321 => ((some (y309.take (t312 : Int).toNat : List (S50))).bind fun y324 => (if y324.length < 4398046511104 then ((some (y324 ++ [(⟨(rd_T50 t204 Qa).f0, (rd_T50 t204 Qa).f1, (rd_T50 t204 Qa).f2, (rd_T50 t204 Qa).f3⟩ : S50)] : List (S50))).bind fun y327 => (if y327.length + y321.length < 4398046511104 then (spec_twoBooks.l0 k1 t204 (y327 ++ y321) (wrap64 (Qa + 1)) s0_0 t313) else (none))) else (none)))) else (none)) = some (r1, r2, r3) := by first | (rw [hy317]; with_reducible exact H) | (have H2_ := (Option.bind_some _ _).symm.trans H; rw [hy317]; with_reducible exact H2_) | (have H2_ := (Option.bind_some _ _).symm.trans H; with_reducible exact H2_) | with_reducible exact H | (rw [hy317]; exact H) | exact H
             have Ny317 := z20_ hy317
             clear hy317
             by_cases c133 : y314.length + y317.length < 4398046511104
             ·rw [if_pos c133] at H
              have LMc133 := z20_ c133
              clear c133
              obtain ⟨y321, hy321⟩ : ∃ y_ : List (S50), y_ = (y314 ++ y317) := ⟨_, rfl⟩
              replace H : ((some (y309.take (t312 : Int).toNat : List (S50))).bind fun y324 => (if y324.length < 4398046511104 then ((some (y324 ++ [(⟨(rd_T50 t204 Qa).f0, (rd_T50 t204 Qa).f1, (rd_T50 t204 Qa).f2, (rd_T50 t204 Qa).f3⟩ : S50)] : List (S50))).bind fun y327 => (if y327.length + y321.length < 4398046511104 then (spec_twoBooks.l0 k1 t204 (y327 ++ y321) (wrap64 (Qa + 1)) s0_0 t313) else (none))) else (none))) = some (r1, r2, r3) := by first | (rw [hy321]; with_reducible exact H) | (have H2_ := (Option.bind_some _ _).symm.trans H; rw [hy321]; with_reducible exact H2_) | (have H2_ := (Option.bind_some _ _).symm.trans H; with_reducible exact H2_) | with_reducible exact H | (rw [hy321]; exact H) | exact H
              have Ny321 := z20_ hy321
              clear hy321
              have c134b0 := eq_true (z29_ (by first | (with_reducible assumption) | assumption) : t312 ≤ (y309.length : Int))
              obtain ⟨y324, hy324⟩ : ∃ y_ : List (S50), y_ = (y309.take (t312 : Int).toNat) := ⟨_, rfl⟩
              replace H : (if y324.length < 4398046511104 then ((some (y324 ++ [(⟨(rd_T50 t204 Qa).f0, (rd_T50 t204 Qa).f1, (rd_T50 t204 Qa).f2, (rd_T50 t204 Qa).f3⟩ : S50)] : List (S50))).bind fun y327 => (if y327.length + y321.length < 4398046511104 then (spec_twoBooks.l0 k1 t204 (y327 ++ y321) (wrap64 (Qa + 1)) s0_0 t313) else (none))) else (none)) = some (r1, r2, r3) := by first | (rw [hy324]; with_reducible exact H) | (have H2_ := (Option.bind_some _ _).symm.trans H; rw [hy324]; with_reducible exact H2_) | (have H2_ := (Option.bind_some _ _).symm.trans H; with_reducible exact H2_) | with_reducible exact H | (rw [hy324]; exact H) | exact H
              have Ny324 := z20_ hy324
              clear hy324
              by_cases c135 : y324.length < 4398046511104
              ·rw [if_pos c135] at H
               have LMc135 := z20_ c135
               clear c135
               obtain ⟨y327, hy327⟩ : ∃ y_ : List (S50), y_ = (y324 ++ [(⟨(rd_T50 t204 Qa).f0, (rd_T50 t204 Qa).f1, (rd_T50 t204 Qa).f2, (rd_T50 t204 Qa).f3⟩ : S50)]) := ⟨_, rfl⟩
               replace H : (if y327.length + y321.length < 4398046511104 then (spec_twoBooks.l0 k1 t204 (y327 ++ y321) (wrap64 (Qa + 1)) s0_0 t313) else (none)) = some (r1, r2, r3) := by first | (rw [hy327]; with_reducible exact H) | (have H2_ := (Option.bind_some _ _).symm.trans H; rw [hy327]; with_reducible exact H2_) | (have H2_ := (Option.bind_some _ _).symm.trans H; with_reducible exact H2_) | with_reducible exact H | (rw [hy327]; exact H) | exact H
               have Ny327 := z20_ hy327
               clear hy327
               by_cases c136 : y327.length + y321.length < 4398046511104
               ·rw [if_pos c136] at H
                have LMc136 := z20_ c136
                clear c136
                obtain ⟨y330, hy330⟩ : ∃ y_ : List (S50), y_ = (y327 ++ y321) := ⟨_, rfl⟩
                replace H : (spec_twoBooks.l0 k1 t204 y330 (wrap64 (Qa + 1)) s0_0 t313) = some (r1, r2, r3) := by first | (rw [hy330]; with_reducible exact H) | (have H2_ := (Option.bind_some _ _).symm.trans H; rw [hy330]; with_reducible exact H2_) | (have H2_ := (Option.bind_some _ _).symm.trans H; with_reducible exact H2_) | with_reducible exact H | (rw [hy330]; exact H) | exact H
                have Ny330 := z20_ hy330
                clear hy330
                have H' := z20_ H
                clear H
                obtain ⟨Ao137, co137, eo137⟩ := Kd.R_slice Qe.out
                subst eo137
                have p211 : 0 ≤ (Qa : Int) := z29_ (by first | (with_reducible assumption) | assumption)
                have q211 : Qa < (t204.length : Int) := z29_ (by first | (with_reducible assumption) | assumption)
                obtain ⟨Qj, e211, hx211_0, hx211_1, hx211_2, hx211_3⟩ := at_T50 (z30_ Qe.out).2.2 Qa p211 q211
                cases e211
                replace p211 := eq_true p211; replace q211 := eq_true q211
                try go_wp2_with (first | ((with_reducible refine gate_dst (N := 7) rfl ?_); refine box_event ?hg (N := 7) ?hd (cs := #[.int .i64 0, .int .i64 0, .int .i64 0, .int .i64 0]) (t := 50) ?hr ?_; (case hd => rfl); (case hg => rfl); (case hr => first | (go_simp; done) | (go_simp; rfl)); intro Qc hg w138 hbox hb; have n0_ := z20_ (Kd.R_below (Kd.R_elderB (by (with_reducible repeat (first | apply z0_ | apply z1_ | apply z2_)); exact Qe.out) Qc (Nat.le_of_eq hg.symm)) hb); have n1_ := z20_ (Kd.R_below (Kd.R_elderB (by (with_reducible repeat (first | apply z0_ | apply z1_ | apply z2_)); exact Qf.out) Qc (Nat.le_of_eq hg.symm)) hb); have n2_ := z20_ (z33_ (by repeat (first | (with_reducible first | exact HI0.out | apply z31_ | apply z35_ | apply z34_ | apply z40_) | exact HI0.out)) hb); have n3_ := z20_ (z13_ (by repeat (first | (with_reducible first | exact HK.out | apply z6_ | apply z7_ | apply z8_ | apply z21_) | exact HK.out)) (z28_ hb g none) (.inl rfl)); have n4_ := z20_ (below_step (by repeat (first | (with_reducible first | exact HB.out | apply z3_ | apply z4_ | apply z5_ | refine z25_ ?_ (z37_ HI0.out)) | exact HB.out)) hb); have n5_ := z20_ (hbox); have n6_ := z20_ ((by rw [hg]; exact (z9_ (w := w) (g := g) (row := none) (by repeat (first | (with_reducible first | exact HK.out | apply z6_ | apply z7_ | apply z8_ | apply z21_) | exact HK.out))) : w.heap.size ≤ Qc)); have n7_ := z20_ ((Nat.le_trans HW0.out (by rw [hg]; exact (z9_ (w := w) (g := g) (row := none) (by repeat (first | (with_reducible first | exact HK.out | apply z6_ | apply z7_ | apply z8_ | apply z21_) | exact HK.out))) : w.heap.size ≤ Qc) : w0.heap.size ≤ Qc)); have n8_ := z20_ ((by rw [hg]; exact Nat.ne_of_lt (IsS68.lt (show IsS68 w0 _ g s0_0 Qi from by repeat (first | (with_reducible first | exact HI0.out | apply z31_ | apply z35_ | apply z34_ | apply z40_) | exact HI0.out))) : g ≠ Qc)); have n9_ := z20_ ((by rw [hg]; exact Nat.ne_of_gt (IsS68.lt (show IsS68 w0 _ g s0_0 Qi from by repeat (first | (with_reducible first | exact HI0.out | apply z31_ | apply z35_ | apply z34_ | apply z40_) | exact HI0.out))) : Qc ≠ g)); clear Qe; clear Qf; clear HI0; clear HK; clear HB; have Qe := n0_; have Qf := n1_; have HI0 := n2_; have HK := n3_; have HB := n4_; have Qb := n5_; have Qh := n6_; have Qk := n7_; have Qd := n8_; have Ql := n9_; clear n0_ n1_ n2_ n3_ n4_ n5_ n6_ n7_ n8_ n9_; clear hb hbox hg; have hnb139 := Ql.out; have hnc139 := Qd.out; have hcz140_0 : w138.cell? ⟨Qc, 0, none⟩ = some (.int .i64 0) := (z23_ Qb.out 0).trans rfl; have hcz140_1 : w138.cell? ⟨Qc, 1, none⟩ = some (.int .i64 0) := (z23_ Qb.out 1).trans rfl; have hcz140_2 : w138.cell? ⟨Qc, 2, none⟩ = some (.int .i64 0) := (z23_ Qb.out 2).trans rfl; have hcz140_3 : w138.cell? ⟨Qc, 3, none⟩ = some (.int .i64 0) := (z23_ Qb.out 3).trans rfl; have hfz140_0 := z24_ Qb.out 0; have hfz140_1 := z24_ Qb.out 1; have hfz140_2 := z24_ Qb.out 2; have hfz140_3 := z24_ Qb.out 3) | ((with_reducible refine gate_callee (f := 37) rfl ?_); refine goesL_ (some 25) rfl rfl Try.func37 (by kernel_rfl) rfl #[.pointer (some ⟨g, 0, none⟩), .int .i64 10] rfl (by (try simp only [List.map_toArray, List.map_cons, List.map_nil]); first | done | rfl | (simp only [List.length_drop, List.length_take]; rfl)) ?_; (with_reducible refine (spec_reader_pick.calls k1 g s0_0 Qi 10 t213 t214 w0 _ ?side1 ?side2 A8.out).mono ?_); (case side1 => repeat (first | (with_reducible first | exact HI0.out | apply z31_ | apply z35_ | apply z34_ | apply z40_ | refine z36_ ?_ Qd.out _) | exact HI0.out)); (case side2 => repeat (first | (with_reducible first | exact HB.out | apply z3_ | apply z4_ | apply z5_ | refine z25_ ?_ (z37_ HI0.out) | refine z25_ ?_ Qk.out) | exact HB.out)); rintro e w141 ⟨rfl, hi, hb, hk⟩; refine ⟨_, rfl, ?_⟩; have n0_ := z20_ (z16_ (z17_ (z32_ (show IsS68 w0 _ g s0_0 Qi from by repeat (first | (with_reducible first | exact HI0.out | apply z31_ | apply z35_ | apply z34_ | apply z40_ | refine z36_ ?_ Qd.out _) | exact HI0.out)) (by (with_reducible repeat (first | apply z0_ | apply z1_ | apply z2_)); exact (z16_ (z15_ (p := ⟨Qc, 3, none⟩) (z15_ (p := ⟨Qc, 2, none⟩) (z15_ (p := ⟨Qc, 1, none⟩) (z15_ (p := ⟨Qc, 0, none⟩) (z16_ Qe.out (fun k_ hk => (⟨hk, hk.2⟩ : _ ∧ k_ ≠ Qc))) (fun _ hk => hk.2) (.int .i64 ((rd_T50 t204 Qa).f0))) (fun _ hk => hk.2) (.int .i64 ((rd_T50 t204 Qa).f1))) (fun _ hk => hk.2) (.int .i64 ((rd_T50 t204 Qa).f2))) (fun _ hk => hk.2) (.int .i64 ((rd_T50 t204 Qa).f3))) (fun _ h_ => h_.1))) (by decide)) hk (fun _ h => h.2)) (fun _ h => h.1)); have n1_ := z20_ (z16_ (z17_ (z32_ (show IsS68 w0 _ g s0_0 Qi from by repeat (first | (with_reducible first | exact HI0.out | apply z31_ | apply z35_ | apply z34_ | apply z40_ | refine z36_ ?_ Qd.out _) | exact HI0.out)) (by (with_reducible repeat (first | apply z0_ | apply z1_ | apply z2_)); exact (z16_ (z15_ (p := ⟨Qc, 3, none⟩) (z15_ (p := ⟨Qc, 2, none⟩) (z15_ (p := ⟨Qc, 1, none⟩) (z15_ (p := ⟨Qc, 0, none⟩) (z16_ Qf.out (fun k_ hk => (⟨hk, hk.2⟩ : _ ∧ k_ ≠ Qc))) (fun _ hk => hk.2) (.int .i64 ((rd_T50 t204 Qa).f0))) (fun _ hk => hk.2) (.int .i64 ((rd_T50 t204 Qa).f1))) (fun _ hk => hk.2) (.int .i64 ((rd_T50 t204 Qa).f2))) (fun _ hk => hk.2) (.int .i64 ((rd_T50 t204 Qa).f3))) (fun _ h_ => h_.1))) (by decide)) hk (fun _ h => h.2)) (fun _ h => h.1)); have n2_ := z20_ (KeepBut.blk hk (g' := Qc) (o := .cells #[.int .i64 ((rd_T50 t204 Qa).f0), .int .i64 ((rd_T50 t204 Qa).f1), .int .i64 ((rd_T50 t204 Qa).f2), .int .i64 ((rd_T50 t204 Qa).f3)] 50 (0, 0)) (by (with_reducible repeat (first | refine z10_ ?_ _ | refine z12_ ?_ | refine z11_ ?_ _)); refine blk_put (cs := #[.int .i64 ((rd_T50 t204 Qa).f0), .int .i64 ((rd_T50 t204 Qa).f1), .int .i64 ((rd_T50 t204 Qa).f2), .int .i64 0]) ?_ 3 _ rfl; (with_reducible repeat (first | refine z10_ ?_ _ | refine z12_ ?_ | refine z11_ ?_ _)); refine blk_put (cs := #[.int .i64 ((rd_T50 t204 Qa).f0), .int .i64 ((rd_T50 t204 Qa).f1), .int .i64 0, .int .i64 0]) ?_ 2 _ rfl; (with_reducible repeat (first | refine z10_ ?_ _ | refine z12_ ?_ | refine z11_ ?_ _)); refine blk_put (cs := #[.int .i64 ((rd_T50 t204 Qa).f0), .int .i64 0, .int .i64 0, .int .i64 0]) ?_ 1 _ rfl; (with_reducible repeat (first | refine z10_ ?_ _ | refine z12_ ?_ | refine z11_ ?_ _)); refine blk_put (cs := #[.int .i64 0, .int .i64 0, .int .i64 0, .int .i64 0]) ?_ 0 _ rfl; (with_reducible repeat (first | refine z10_ ?_ _ | refine z12_ ?_ | refine z11_ ?_ _)); exact Qb.out) Ql.out (by simp)); have n3_ := z20_ (z13_ (by repeat (first | (with_reducible first | exact HK.out | apply z6_ | apply z7_ | apply z8_ | apply z21_ | refine z22_ ?_ Qh.out _) | exact HK.out)) hk (.inl rfl)); have n4_ := z20_ (hb); have n5_ := z20_ (hi); clear Qe; clear Qf; clear Qb; clear HK; clear HB; clear HI0; have Qe := n0_; have Qf := n1_; have Qb := n2_; have HK := n3_; have HB := n4_; have HI0 := n5_; clear n0_ n1_ n2_ n3_ n4_ n5_; (try clear hb); (try clear hb2); (try clear hk); (try clear hi); have hcz142_0 : w141.cell? ⟨Qc, 0, none⟩ = some (.int .i64 ((rd_T50 t204 Qa).f0)) := (z23_ Qb.out 0).trans rfl; have hcz142_1 : w141.cell? ⟨Qc, 1, none⟩ = some (.int .i64 ((rd_T50 t204 Qa).f1)) := (z23_ Qb.out 1).trans rfl; have hcz142_2 : w141.cell? ⟨Qc, 2, none⟩ = some (.int .i64 ((rd_T50 t204 Qa).f2)) := (z23_ Qb.out 2).trans rfl; have hcz142_3 : w141.cell? ⟨Qc, 3, none⟩ = some (.int .i64 ((rd_T50 t204 Qa).f3)) := (z23_ Qb.out 3).trans rfl; have hfz142_0 := z24_ Qb.out 0; have hfz142_1 := z24_ Qb.out 1; have hfz142_2 := z24_ Qb.out 2; have hfz142_3 := z24_ Qb.out 3) | ((with_reducible refine gate_builtin (b := .append) (xs := #[.tmp 66, .tmp 68]) rfl ?_); at_builtin; refine Kd.R_append k50 w.heap.size rfl (.tmp 66) (.tmp 68) 23 50 (.agg #[(.int .i64 0), (.int .i64 0), (.int .i64 0), (.int .i64 0)]) 32 rfl Try.underlying23 info50 rfl (by decide) (by omega) u5 Qg (⟨(rd_T50 t204 Qa).f0, (rd_T50 t204 Qa).f1, (rd_T50 t204 Qa).f2, (rd_T50 t204 Qa).f3⟩ : S50) [.int .i64 ((rd_T50 t204 Qa).f0), .int .i64 ((rd_T50 t204 Qa).f1), .int .i64 ((rd_T50 t204 Qa).f2), .int .i64 ((rd_T50 t204 Qa).f3)] (fun k_ => some k_ ≠ (.slice (some Qj) t204.length co137 : Value).ownBlock ∧ k_ ≠ Qc) (fun _ => False) rfl rfl ?aP (fun _ hk => hk.elim) ?aF ?aO (Below.refl _ _) ?aS ?aL ?_; (case aP => exact k50_mkM _ _ _ (⟨(rd_T50 t204 Qa).f0, (rd_T50 t204 Qa).f1, (rd_T50 t204 Qa).f2, (rd_T50 t204 Qa).f3⟩ : S50)); (case aF => exact (fun k_ hk => ⟨z18_ (z19_ (by (with_reducible repeat (first | apply z0_ | apply z1_ | apply z2_)); exact Qe.out)) k_ hk, Kd.freshB (g := Qc) (o := .cells #[.int .i64 ((rd_T50 t204 Qa).f0), .int .i64 ((rd_T50 t204 Qa).f1), .int .i64 ((rd_T50 t204 Qa).f2), .int .i64 ((rd_T50 t204 Qa).f3)] 50 (0, 0)) (by (with_reducible repeat (first | refine z10_ ?_ _ | refine z12_ ?_ | refine z11_ ?_ _)); exact Qb.out) k_ hk⟩)); (case aO => exact (by (with_reducible repeat (first | apply z0_ | apply z1_ | apply z2_)); exact Qf.out)); (case aS => exact (z9_ (w := w) (g := g) (row := none) (by repeat (first | (with_reducible first | exact HK.out | apply z6_ | apply z7_ | apply z8_ | apply z21_ | refine z22_ ?_ Qh.out _) | exact HK.out)))); (case aL => have := LMc129.out; omega); intro v310 w143 ho hb hg hat; rw [← Ny309.out] at ho; have n0_ := z20_ (z26_ (ok := (fun k_ => k_ ≠ Qc)) (by (with_reducible repeat (first | apply z0_ | apply z1_ | apply z2_)); exact z16_ Qe.out (fun _ hk => ⟨hk.2, hk.1⟩)) hg hat); have n1_ := z20_ (z38_ (by first | ((repeat (first | (with_reducible first | exact HI0.out | apply z31_ | apply z35_ | apply z34_ | apply z40_ | refine z36_ ?_ Qd.out _) | exact HI0.out)); done) | exact z36_ HI0.out Qd.out _ | exact z36_ (z36_ HI0.out Qd.out _) Qd.out _) hg (z39_ HI0.out Qf.out (by decide))); have n2_ := z20_ (blk_grown (g := Qc) (o := .cells #[.int .i64 ((rd_T50 t204 Qa).f0), .int .i64 ((rd_T50 t204 Qa).f1), .int .i64 ((rd_T50 t204 Qa).f2), .int .i64 ((rd_T50 t204 Qa).f3)] 50 (0, 0)) (by (with_reducible repeat (first | refine z10_ ?_ _ | refine z12_ ?_ | refine z11_ ?_ _)); exact Qb.out) hg (Kd.R_away Qf.out (fun _ hk => hk.2))); have n3_ := z20_ (z14_ (by repeat (first | (with_reducible first | exact HB.out | apply z3_ | apply z4_ | apply z5_ | refine z25_ ?_ (z37_ HI0.out) | refine z25_ ?_ Qk.out) | exact HB.out)) HL.out hb); have n4_ := z20_ (z13_ (by repeat (first | (with_reducible first | exact HK.out | apply z6_ | apply z7_ | apply z8_ | apply z21_ | refine z22_ ?_ Qh.out _) | exact HK.out)) (z27_ hg g) (Kd.R_base2 Qf.out)); have n5_ := z20_ (ho); clear Qe; clear HI0; clear Qb; clear HB; clear HK; clear Qf; have Qe := n0_; have HI0 := n1_; have Qb := n2_; have HB := n3_; have HK := n4_; have Qn := n5_; clear n0_ n1_ n2_ n3_ n4_ n5_; clear ho hb hg hat; obtain ⟨Ao144, co144, eo144⟩ := Kd.R_slice Qn.out; subst eo144) | ((with_reducible refine gate_callee (f := 37) rfl ?_); refine goesL_ (some 74) rfl rfl Try.func37 (by kernel_rfl) rfl #[.pointer (some ⟨g, 0, none⟩), .int .i64 (wrap64 ((y309.length : Int) + 1))] rfl (by (try simp only [List.map_toArray, List.map_cons, List.map_nil]); first | done | rfl | (simp only [List.length_drop, List.length_take]; rfl)) ?_; (with_reducible refine (spec_reader_pick.calls k1 g s0_0 t214 (wrap64 ((y309.length : Int) + 1)) t312 t313 w0 _ ?side1 ?side2 A130.out).mono ?_); (case side1 => repeat (first | (with_reducible first | exact HI0.out | apply z31_ | apply z35_ | apply z34_ | apply z40_ | refine z36_ ?_ Qd.out _) | exact HI0.out)); (case side2 => repeat (first | (with_reducible first | exact HB.out | apply z3_ | apply z4_ | apply z5_ | refine z25_ ?_ (z37_ HI0.out) | refine z25_ ?_ Qk.out) | exact HB.out)); rintro e w145 ⟨rfl, hi, hb, hk⟩; refine ⟨_, rfl, ?_⟩; have n0_ := z20_ (z16_ (z17_ (z32_ (show IsS68 w0 _ g s0_0 t214 from by repeat (first | (with_reducible first | exact HI0.out | apply z31_ | apply z35_ | apply z34_ | apply z40_ | refine z36_ ?_ Qd.out _) | exact HI0.out)) (by (with_reducible repeat (first | apply z0_ | apply z1_ | apply z2_)); exact Qe.out) (by decide)) hk (fun _ h => h.2)) (fun _ h => h.1)); have n1_ := z20_ (KeepBut.blk hk (g' := Qc) (o := .cells #[.int .i64 ((rd_T50 t204 Qa).f0), .int .i64 ((rd_T50 t204 Qa).f1), .int .i64 ((rd_T50 t204 Qa).f2), .int .i64 ((rd_T50 t204 Qa).f3)] 50 (0, 0)) (by (with_reducible repeat (first | refine z10_ ?_ _ | refine z12_ ?_ | refine z11_ ?_ _)); exact Qb.out) Ql.out (by simp)); have n2_ := z20_ (z16_ (z17_ (z32_ (show IsS68 w0 _ g s0_0 t214 from by repeat (first | (with_reducible first | exact HI0.out | apply z31_ | apply z35_ | apply z34_ | apply z40_ | refine z36_ ?_ Qd.out _) | exact HI0.out)) (by (with_reducible repeat (first | apply z0_ | apply z1_ | apply z2_)); exact Qn.out) (by decide)) hk (fun _ h => h.2)) (fun _ h => h.1)); have n3_ := z20_ (z13_ (by repeat (first | (with_reducible first | exact HK.out | apply z6_ | apply z7_ | apply z8_ | apply z21_ | refine z22_ ?_ Qh.out _) | exact HK.out)) hk (.inl rfl)); have n4_ := z20_ (hb); have n5_ := z20_ (hi); clear Qe; clear Qb; clear Qn; clear HK; clear HB; clear HI0; have Qe := n0_; have Qb := n1_; have Qn := n2_; have HK := n3_; have HB := n4_; have HI0 := n5_; clear n0_ n1_ n2_ n3_ n4_ n5_; (try clear hb); (try clear hb2); (try clear hk); (try clear hi)) | ((with_reducible refine gate_dst (N := 75) rfl ?_); refine Kd.R_lit k50 _ 50 ?hg (N := 75) ?hd (xs := ([] : List (S50))) (inner := []) (ok := fun _ => True) (okp := fun _ => True) ?hr ?hp (fun _ hk => hk) trivial (Below.refl _ _) (Nat.le_refl _) (by simp) ?_; (case hd => rfl); (case hg => rfl); (case hr => first | (go_simp; done) | (go_simp; rfl)); (case hp => exact (Reps.none _ _)); intro v315 w146 ho147 hb hg_ hnew_; clear hg_ hnew_; (first | rw [← Ny314.out] at ho147 | (simp only [Int.reduceToNat] at ho147; rw [← Ny314.out] at ho147)); have n0_ := z20_ (Kd.R_elder' (by (with_reducible repeat (first | apply z0_ | apply z1_ | apply z2_)); exact Qe.out) (Kd.R_base ho147) hb); have n1_ := z20_ (Kd.R_elder' (by (with_reducible repeat (first | apply z0_ | apply z1_ | apply z2_)); exact Qn.out) (Kd.R_base ho147) hb); have n2_ := z20_ (Kd.R_lower (Kd.R_newB (Kd.R_new' (Kd.R_new' ho147 (z19_ (by (with_reducible repeat (first | apply z0_ | apply z1_ | apply z2_)); exact Qe.out))) (z19_ (by (with_reducible repeat (first | apply z0_ | apply z1_ | apply z2_)); exact Qn.out))) (g := Qc) (o := .cells #[.int .i64 ((rd_T50 t204 Qa).f0), .int .i64 ((rd_T50 t204 Qa).f1), .int .i64 ((rd_T50 t204 Qa).f2), .int .i64 ((rd_T50 t204 Qa).f3)] 50 (0, 0)) (by (with_reducible repeat (first | refine z10_ ?_ _ | refine z12_ ?_ | refine z11_ ?_ _)); exact Qb.out)) (z9_ (w := w) (g := g) (row := none) (by repeat (first | (with_reducible first | exact HK.out | apply z6_ | apply z7_ | apply z8_ | apply z21_ | refine z22_ ?_ Qh.out _) | exact HK.out)))); have n3_ := z20_ (z33_ (by repeat (first | (with_reducible first | exact HI0.out | apply z31_ | apply z35_ | apply z34_ | apply z40_ | refine z36_ ?_ Qd.out _) | exact HI0.out)) hb); have n4_ := z20_ (blk_below (g := Qc) (o := .cells #[.int .i64 ((rd_T50 t204 Qa).f0), .int .i64 ((rd_T50 t204 Qa).f1), .int .i64 ((rd_T50 t204 Qa).f2), .int .i64 ((rd_T50 t204 Qa).f3)] 50 (0, 0)) (by (with_reducible repeat (first | refine z10_ ?_ _ | refine z12_ ?_ | refine z11_ ?_ _)); exact Qb.out) hb); have n5_ := z20_ (z13_ (by repeat (first | (with_reducible first | exact HK.out | apply z6_ | apply z7_ | apply z8_ | apply z21_ | refine z22_ ?_ Qh.out _) | exact HK.out)) (z28_ hb g none) (.inl rfl)); have n6_ := z20_ (below_step (by repeat (first | (with_reducible first | exact HB.out | apply z3_ | apply z4_ | apply z5_ | refine z25_ ?_ (z37_ HI0.out) | refine z25_ ?_ Qk.out) | exact HB.out)) hb); clear Qe; clear Qn; clear HI0; clear Qb; clear HK; clear HB; have Qe := n0_; have Qn := n1_; have HO316 := n2_; have HI0 := n3_; have Qb := n4_; have HK := n5_; have HB := n6_; clear n0_ n1_ n2_ n3_ n4_ n5_ n6_; clear hb ho147; have q148 : (t312 : Int) ≤ ((y309.length : Int) : Int) := z29_ (by first | (with_reducible assumption) | assumption); obtain ⟨i0148, hi0148, _, hsz148, _⟩ := info_parts info50; have hroom148 : y309.length ≤ co144 := (z30_ Qn.out).2.1; have hC148 : Kd.C k50 _ Ao144 y309.length y309 := (z30_ Qn.out).2.2; have q0148 : (0 : Int) ≤ (t312 : Int) := z29_ (by first | (with_reducible assumption) | assumption); have hcut148 := cut_from (P := Try.prog) 23 50 .i64 Try.underlying23 hi0148 4 hsz148 Ao144 y309.length co144 t312 q0148 q148; have hr148 := Kd.C_drop (m := (t312 : Int).toNat) (c := co144) hC148 (by omega) hroom148; obtain ⟨A148, hA148⟩ : ∃ A1, A1 = (if co144 = (t312 : Int).toNat then Ao144 else (Ao144 : Option Addr).map (·.add ((t312 : Int).toNat * 4))) := ⟨_, rfl⟩; obtain ⟨c148, hc148⟩ : ∃ c1, c1 = co144 - (t312 : Int).toNat := ⟨_, rfl⟩; have hy148 : y317.length = y309.length - (t312 : Int).toNat := (by rw [Ny317.out, List.length_drop] <;> omega); rw [show (y309).drop (t312 : Int).toNat = y317 from Ny317.out.symm] at hr148; replace hr148 : Kd.C k50 _ A148 y317.length y317 := (by rw [hA148]; exact hr148); rw [← hy148, ← hA148, ← hc148] at hcut148; have HR320 := z20_ hr148; have HC320 := z20_ (show y317.length ≤ c148 from by rw [hy148, hc148]; exact Nat.sub_le_sub_right hroom148 _); clear hr148 hC148 hroom148 hi0148 hsz148 hc148; have KY148 := z20_ hy148; have KA148 := z20_ hA148; clear hy148 hA148; have KL148 := z20_ (show (t312 : Int).toNat ≤ y309.length from by omega); replace q148 := eq_true q148) | ((with_reducible refine gate_builtin (b := .append) (xs := #[.tmp 75, .tmp 78]) rfl ?_); at_builtin; refine Kd.R_append_rows k50 w.heap.size rfl (.tmp 75) (.tmp 78) 23 50 (.agg #[(.int .i64 0), (.int .i64 0), (.int .i64 0), (.int .i64 0)]) 32 rfl Try.underlying23 info50 rfl (by decide) (by omega) v315 y314 y317 _ _ _ (fun k_ => some k_ ≠ (.slice (some Qj) t204.length co137 : Value).ownBlock ∧ some k_ ≠ (.slice Ao144 y309.length co144 : Value).ownBlock ∧ k_ ≠ Qc) (fun _ => False) rfl rfl ?aO ?aR (fun _ _ h => h) (fun _ h => h.elim) ?aF (Below.refl _ _) ?aS ?aL ?_; (case aR => repeat (first | exact (by repeat (first | (with_reducible exact HR320.out) | (with_reducible refine Kd.C_alloc ?_ _) | (with_reducible refine Kd.C_drewN ?_ _) | (with_reducible refine Kd.C_drew ?_) | exact HR320.out)) | (with_reducible refine Kd.C_alloc ?_ _) | (with_reducible refine Kd.C_drewN ?_ _) | (with_reducible refine Kd.C_drew ?_))); (case aF => exact (fun k_ hk => ⟨z18_ (z19_ (by (with_reducible repeat (first | apply z0_ | apply z1_ | apply z2_)); exact Qe.out)) k_ hk, z18_ (z19_ (by (with_reducible repeat (first | apply z0_ | apply z1_ | apply z2_)); exact Qn.out)) k_ hk, Kd.freshB (g := Qc) (o := .cells #[.int .i64 ((rd_T50 t204 Qa).f0), .int .i64 ((rd_T50 t204 Qa).f1), .int .i64 ((rd_T50 t204 Qa).f2), .int .i64 ((rd_T50 t204 Qa).f3)] 50 (0, 0)) (by (with_reducible repeat (first | refine z10_ ?_ _ | refine z12_ ?_ | refine z11_ ?_ _)); exact Qb.out) k_ hk⟩)); (case aO => exact (by (with_reducible repeat (first | apply z0_ | apply z1_ | apply z2_)); exact z16_ HO316.out (fun _ hk => ⟨hk.1.1.2, ⟨hk.1.2, hk.2⟩⟩))); (case aS => exact (z9_ (w := w) (g := g) (row := none) (by repeat (first | (with_reducible first | exact HK.out | apply z6_ | apply z7_ | apply z8_ | apply z21_ | refine z22_ ?_ Qh.out _) | exact HK.out)))); (case aL => have := LMc133.out; omega); intro v322 w149 ho hb hg hat; rw [← Ny321.out] at ho; have n0_ := z20_ (z26_ (ok := (fun k_ => some k_ ≠ (.slice Ao144 y309.length co144 : Value).ownBlock ∧ k_ ≠ Qc)) (by (with_reducible repeat (first | apply z0_ | apply z1_ | apply z2_)); exact z16_ Qe.out (fun _ hk => ⟨⟨hk.1.2, hk.1.1⟩, hk.2⟩)) hg hat); have n1_ := z20_ (z38_ (by first | ((repeat (first | (with_reducible first | exact HI0.out | apply z31_ | apply z35_ | apply z34_ | apply z40_ | refine z36_ ?_ Qd.out _) | exact HI0.out)); done) | exact z36_ HI0.out Qd.out _ | exact z36_ (z36_ HI0.out Qd.out _) Qd.out _) hg (z39_ HI0.out HO316.out (by decide))); have n2_ := z20_ (blk_grown (g := Qc) (o := .cells #[.int .i64 ((rd_T50 t204 Qa).f0), .int .i64 ((rd_T50 t204 Qa).f1), .int .i64 ((rd_T50 t204 Qa).f2), .int .i64 ((rd_T50 t204 Qa).f3)] 50 (0, 0)) (by (with_reducible repeat (first | refine z10_ ?_ _ | refine z12_ ?_ | refine z11_ ?_ _)); exact Qb.out) hg (Kd.R_away HO316.out (fun _ hk => hk.2))); have n3_ := z20_ (z26_ (ok := (fun k_ => some k_ ≠ (.slice (some Qj) t204.length co137 : Value).ownBlock ∧ k_ ≠ Qc)) (by (with_reducible repeat (first | apply z0_ | apply z1_ | apply z2_)); exact Qn.out) hg hat); have n4_ := z20_ (z14_ (by repeat (first | (with_reducible first | exact HB.out | apply z3_ | apply z4_ | apply z5_ | refine z25_ ?_ (z37_ HI0.out) | refine z25_ ?_ Qk.out) | exact HB.out)) HL.out hb); have n5_ := z20_ (z13_ (by repeat (first | (with_reducible first | exact HK.out | apply z6_ | apply z7_ | apply z8_ | apply z21_ | refine z22_ ?_ Qh.out _) | exact HK.out)) (z27_ hg g) (Kd.R_base2 HO316.out)); have n6_ := z20_ ((show Kd.C k50 w149 A148 y317.length y317 from by rw [Ny317.out, KA148.out]; exact Kd.C_drop (m := (t312 : Int).toNat) (c := co144) ((z30_ (z26_ (ok := (fun k_ => some k_ ≠ (.slice (some Qj) t204.length co137 : Value).ownBlock ∧ k_ ≠ Qc)) (by (with_reducible repeat (first | apply z0_ | apply z1_ | apply z2_)); exact Qn.out) hg hat)).2.2) KL148.out ((z30_ (z26_ (ok := (fun k_ => some k_ ≠ (.slice (some Qj) t204.length co137 : Value).ownBlock ∧ k_ ≠ Qc)) (by (with_reducible repeat (first | apply z0_ | apply z1_ | apply z2_)); exact Qn.out) hg hat)).2.1))); have n7_ := z20_ (ho); clear Qe; clear HI0; clear Qb; clear Qn; clear HB; clear HK; clear HR320; clear HO316; have Qe := n0_; have HI0 := n1_; have Qb := n2_; have Qn := n3_; have HB := n4_; have HK := n5_; have HR320 := n6_; have Qs := n7_; clear n0_ n1_ n2_ n3_ n4_ n5_ n6_ n7_; clear ho hb hg hat))
                have n0_ := z20_ (z2_ Qe.out)
                have n1_ := z20_ (z2_ Qn.out)
                have n2_ := z20_ (z2_ Qs.out)
                have n3_ := z20_ (z12_ Qb.out)
                have n4_ := z20_ (Kd.C_drew HR320.out)
                have n5_ := z20_ (z34_ HI0.out)
                have n6_ := z20_ (z8_ HK.out)
                have n7_ := z20_ (z5_ HB.out)
                clear Qe; clear Qn; clear Qs; clear Qb; clear HR320; clear HI0; clear HK; clear HB; have Qe := n0_; have Qn := n1_; have Qs := n2_; have Qb := n3_; have HR320 := n4_; have HI0 := n5_; have HK := n6_; have HB := n7_; clear n0_ n1_ n2_ n3_ n4_ n5_ n6_ n7_
                have q151 : (t312 : Int) ≤ ((y309.length : Int) : Int) := z29_ (by first | (with_reducible assumption) | assumption)
                obtain ⟨i0151, hi0151, _, hsz151, _⟩ := info_parts info50
                have hcut151 := cut_to (P := Try.prog) 23 50 .i64 Try.underlying23 hi0151 Ao144 y309.length co144 t312 (z29_ (by first | (with_reducible assumption) | assumption)) q151 (z30_ Qn.out).2.1
                have hr151 := Kd.R_take (m := (t312 : Int).toNat) Qn.out (by omega)
                have hy151 : y324.length = (t312 : Int).toNat := (by rw [Ny324.out, List.length_take]; omega)
                rw [← Ny324.out] at hr151
                rw [← hy151] at hr151 hcut151
                clear hy151 hi0151 hsz151 Qn
                have HO326 := z20_ hr151
                clear hr151; replace q151 := eq_true q151
                refine start_ (n := 9) (S := fun w' => w'.cell? ⟨Qc, 0, none⟩ = some (.int .i64 ((rd_T50 t204 Qa).f0)) ∧ w'.cell? ⟨Qc, 1, none⟩ = some (.int .i64 ((rd_T50 t204 Qa).f1)) ∧ w'.cell? ⟨Qc, 2, none⟩ = some (.int .i64 ((rd_T50 t204 Qa).f2)) ∧ w'.cell? ⟨Qc, 3, none⟩ = some (.int .i64 ((rd_T50 t204 Qa).f3))) (ds := []) #[false, false, false, false, false, false, false, false, false] (by kernel_rfl) rfl rfl ⟨(z23_ Qb.out 0).trans rfl, (z23_ Qb.out 1).trans rfl, (z23_ Qb.out 2).trans rfl, (z23_ Qb.out 3).trans rfl⟩ (fun hHeld => ?_); refine with_tabW spec_twoBooks.tab22 spec_twoBooks.bits22 (fun HT_ HW_ => ?_)
                generalize w149.drew = w150 at Qe Qs Qb HR320 HI0 HK HB HO326 hHeld ⊢
                refine pure_ (i := 0) (N := some 80) (v := ?_) (a' := ?_) #[true, false, false, false, false, false, false, false, false] rfl rfl (any_of HT_.out (by kernel_rfl)) (fun _ _ _ h => h) (Or.inl ⟨by rfl, ?_⟩) ?_ ?_
                rotate_left
                ·intro w'
                 go_simp
                 with_reducible rfl
                rotate_left
                ·simp only [Act.put, List.setIfInBounds_toArray, List.set_cons_zero, List.set_cons_succ, i64_w, i32_w]
                 rfl
                refine pure_ (i := 1) (N := some 81) (v := ?_) (a' := ?_) #[true, true, false, false, false, false, false, false, false] rfl rfl (any_of HT_.out (by kernel_rfl)) (fun _ _ _ h => h) (Or.inl ⟨by rfl, ?_⟩) ?_ ?_
                rotate_left
                ·intro w'
                 go_simp
                 with_reducible rfl
                rotate_left
                ·simp only [Act.put, List.setIfInBounds_toArray, List.set_cons_zero, List.set_cons_succ, i64_w, i32_w]
                 rfl
                refine pure_ (i := 2) (N := some 82) (v := ?_) (a' := ?_) #[true, true, true, false, false, false, false, false, false] rfl rfl (any_of HT_.out (by kernel_rfl)) (fun _ _ _ h => h) (Or.inl ⟨by rfl, ?_⟩) ?_ ?_
                rotate_left
                ·intro w'
                 go_simp
                 with_reducible rfl
                rotate_left
                ·simp only [Act.put, List.setIfInBounds_toArray, List.set_cons_zero, List.set_cons_succ, i64_w, i32_w]
                 rfl
                refine pure_ (i := 6) (N := some 86) (v := ?_) (a' := ?_) #[true, true, true, false, false, false, true, false, false] rfl rfl (any_of HT_.out (by kernel_rfl)) (fun _ _ _ h => h) (Or.inl ⟨by rfl, ?_⟩) ?_ ?_
                rotate_left
                ·intro w'
                 go_simp
                 with_reducible rfl
                rotate_left
                ·simp only [Act.put, List.setIfInBounds_toArray, List.set_cons_zero, List.set_cons_succ, i64_w, i32_w]
                 rfl
                refine take_ (i := 3) (N := some 83) (v := ?_) (a' := ?_) #[true, true, true, true, false, false, true, false, false] rfl rfl (take_ofW HT_.out HW_.out (by kernel_rfl)) (fun _ _ _ h => h) (Or.inl ⟨by rfl, ?_⟩) hHeld ?_ ?_
                rotate_left
                ·rintro w' ⟨s0, s1, s2, s3⟩
                 go_simp
                 with_reducible rfl
                rotate_left
                ·simp only [Act.put, List.setIfInBounds_toArray, List.set_cons_zero, List.set_cons_succ, i64_w, i32_w]
                 rfl
                refine one_ (i := 4) (N := some 84) #[true, true, true, true, true, false, true, false, false] rfl rfl (one_of HT_.out (by kernel_rfl)) (by decide) (fun K hK => ?_)
                refine value_ (w1 := ?_) (v := ?_) (by rfl) rfl ?_ ?_
                rotate_left 2
                ·go_simp
                 constructor
                 ·rfl
                 ·rfl
                refine hK.out _ _ ⟨(z23_ (z11_ Qb.out _) 0).trans rfl, (z23_ (z11_ Qb.out _) 1).trans rfl, (z23_ (z11_ Qb.out _) 2).trans rfl, (z23_ (z11_ Qb.out _) 3).trans rfl⟩ (fun hHeld => ?_)
                clear hK K
                refine norm_ (a' := ?_) ?_ ?_
                rotate_left
                ·show Act.put _ (some 84) _ = _
                 simp only [Act.put, List.setIfInBounds_toArray, List.set_cons_zero, List.set_cons_succ, i64_w, i32_w]
                 rfl
                refine one_ (i := 5) (N := some 85) #[true, true, true, true, true, true, true, false, false] rfl rfl (one_of HT_.out (by kernel_rfl)) (by decide) (fun K hK => ?_)
                refine Kd.R_append_step k50 w.heap.size (by rfl) (.tmp 82) (.tmp 84) 23 50 (.agg #[(.int .i64 0), (.int .i64 0), (.int .i64 0), (.int .i64 0)]) 32 rfl Try.underlying23 info50 rfl (by decide) (by omega) (.slice Ao144 y324.length co144) y324 (⟨(rd_T50 t204 Qa).f0, (rd_T50 t204 Qa).f1, (rd_T50 t204 Qa).f2, (rd_T50 t204 Qa).f3⟩ : S50) [.int .i64 ((rd_T50 t204 Qa).f0), .int .i64 ((rd_T50 t204 Qa).f1), .int .i64 ((rd_T50 t204 Qa).f2), .int .i64 ((rd_T50 t204 Qa).f3)] (fun k_ => some k_ ≠ (.slice (some Qj) t204.length co137 : Value).ownBlock ∧ some k_ ≠ (v322 : Value).ownBlock ∧ k_ ≠ Qc) (fun _ => False) rfl rfl ?aP (fun _ hk => hk.elim) ?aF ?aO (Below.refl _ _) ?aS ?aL ?_
                (case aP => exact k50_mkM _ _ _ (⟨(rd_T50 t204 Qa).f0, (rd_T50 t204 Qa).f1, (rd_T50 t204 Qa).f2, (rd_T50 t204 Qa).f3⟩ : S50))
                (case aF => exact (fun k_ hk => ⟨z18_ (z19_ (by (with_reducible repeat (first | apply z0_ | apply z1_ | apply z2_)); exact Qe.out)) k_ hk, z18_ (z19_ (by (with_reducible repeat (first | apply z0_ | apply z1_ | apply z2_)); exact Qs.out)) k_ hk, Kd.freshB (g := Qc) (o := .cells #[.int .i64 ((rd_T50 t204 Qa).f0), .int .i64 ((rd_T50 t204 Qa).f1), .int .i64 ((rd_T50 t204 Qa).f2), .int .i64 ((rd_T50 t204 Qa).f3)] 50 (0, 0)) (by (with_reducible repeat (first | refine z10_ ?_ _ | refine z12_ ?_ | refine z11_ ?_ _)); exact Qb.out) k_ hk⟩))
                (case aO => exact (by (with_reducible repeat (first | apply z0_ | apply z1_ | apply z2_)); exact z16_ HO326.out (fun _ hk => ⟨hk.1.1, ⟨hk.2, hk.1.2⟩⟩)))
                (case aS => exact (z9_ (w := w) (g := g) (row := none) (by repeat (first | (with_reducible first | exact HK.out | apply z6_ | apply z7_ | apply z8_ | apply z21_ | refine z22_ ?_ Qh.out _) | exact HK.out))))
                (case aL => have := LMc135.out; omega)
                intro v328 w152 ho hb hg hat
                have oc_ : (Value.slice Ao144 y324.length co144).ownBlock = (Value.slice Ao144 y309.length co144).ownBlock := (by generalize Ao144 = z_; cases z_ <;> rfl)
                have hg2_ := hg; have hat2_ := hat
                rw [oc_] at hg2_ hat2_
                rw [← Ny327.out] at ho
                have n0_ := z20_ (z26_ (ok := (fun k_ => some k_ ≠ (v322 : Value).ownBlock ∧ k_ ≠ Qc)) (by (with_reducible repeat (first | apply z0_ | apply z1_ | apply z2_)); exact z16_ Qe.out (fun _ hk => ⟨⟨hk.2, hk.1.2⟩, hk.1.1⟩)) hg2_ hat2_)
                have n1_ := z20_ (z38_ (by first | ((repeat (first | (with_reducible first | exact HI0.out | apply z31_ | apply z35_ | apply z34_ | apply z40_ | refine z36_ ?_ Qd.out _) | exact HI0.out)); done) | exact z36_ HI0.out Qd.out _ | exact z36_ (z36_ HI0.out Qd.out _) Qd.out _) hg (z39_ HI0.out HO326.out (by decide)))
                have n2_ := z20_ (blk_grown (g := Qc) (o := .cells #[.int .i64 ((rd_T50 t204 Qa).f0), .int .i64 ((rd_T50 t204 Qa).f1), .int .i64 ((rd_T50 t204 Qa).f2), .int .i64 ((rd_T50 t204 Qa).f3)] 50 (0, 0)) (by (with_reducible repeat (first | refine z10_ ?_ _ | refine z12_ ?_ | refine z11_ ?_ _)); exact Qb.out) hg (Kd.R_away HO326.out (fun _ hk => hk.1.2)))
                have n3_ := z20_ (z26_ (ok := (fun k_ => some k_ ≠ (.slice (some Qj) t204.length co137 : Value).ownBlock ∧ k_ ≠ Qc)) (by (with_reducible repeat (first | apply z0_ | apply z1_ | apply z2_)); exact z16_ Qs.out (fun _ hk => ⟨⟨hk.1, hk.2.2⟩, hk.2.1⟩)) hg2_ hat2_)
                have n4_ := z20_ (z14_ (by repeat (first | (with_reducible first | exact HB.out | apply z3_ | apply z4_ | apply z5_ | refine z25_ ?_ (z37_ HI0.out) | refine z25_ ?_ Qk.out) | exact HB.out)) HL.out hb)
                have n5_ := z20_ (z13_ (by repeat (first | (with_reducible first | exact HK.out | apply z6_ | apply z7_ | apply z8_ | apply z21_ | refine z22_ ?_ Qh.out _) | exact HK.out)) (z27_ hg g) (Kd.R_base2 HO326.out))
                have n6_ := z20_ (ho)
                clear Qe; clear HI0; clear Qb; clear Qs; clear HB; clear HK; clear HO326; have Qe := n0_; have HI0 := n1_; have Qb := n2_; have Qs := n3_; have HB := n4_; have HK := n5_; have HO329 := n6_; clear n0_ n1_ n2_ n3_ n4_ n5_ n6_; clear ho hb hg hat hg2_ hat2_ oc_
                obtain ⟨Ao154, co154, eo154⟩ := Kd.R_slice Qs.out
                (first | subst eo154 | (injection eo154 with f1_ f2_ f3_; have f4_ := f1_.symm; have f5_ := f3_.symm; clear f1_ f2_ f3_; subst f4_; subst f5_))
                refine hK.out _ _ ⟨(z23_ Qb.out 0).trans rfl, (z23_ Qb.out 1).trans rfl, (z23_ Qb.out 2).trans rfl, (z23_ Qb.out 3).trans rfl⟩ (fun hHeld => ?_)
                clear hK K
                refine norm_ (a' := ?_) ?_ ?_
                rotate_left
                ·show Act.put _ (some 85) _ = _
                 simp only [Act.put, List.setIfInBounds_toArray, List.set_cons_zero, List.set_cons_succ, i64_w, i32_w]
                 rfl
                refine one_ (i := 7) (N := some 87) #[true, true, true, true, true, true, true, true, false] rfl rfl (one_of HT_.out (by kernel_rfl)) (by decide) (fun K hK => ?_)
                refine Kd.R_append_rows_step k50 w.heap.size (by rfl) (.tmp 85) (.tmp 86) 23 50 (.agg #[(.int .i64 0), (.int .i64 0), (.int .i64 0), (.int .i64 0)]) 32 rfl Try.underlying23 info50 rfl (by decide) (by omega) v328 y327 y321 _ _ _ (fun k_ => some k_ ≠ (.slice (some Qj) t204.length co137 : Value).ownBlock ∧ some k_ ≠ (.slice Ao154 y321.length co154 : Value).ownBlock ∧ k_ ≠ Qc) (fun _ => False) rfl rfl ?aO ?aR (fun _ _ h => h) (fun _ h => h.elim) ?aF (Below.refl _ _) ?aS ?aL ?_
                (case aR => repeat (first | exact (z30_ Qs.out).2.2 | (with_reducible refine Kd.C_alloc ?_ _) | (with_reducible refine Kd.C_drewN ?_ _) | (with_reducible refine Kd.C_drew ?_)))
                (case aF => exact (fun k_ hk => ⟨z18_ (z19_ (by (with_reducible repeat (first | apply z0_ | apply z1_ | apply z2_)); exact Qe.out)) k_ hk, z18_ (z19_ (by (with_reducible repeat (first | apply z0_ | apply z1_ | apply z2_)); exact Qs.out)) k_ hk, Kd.freshB (g := Qc) (o := .cells #[.int .i64 ((rd_T50 t204 Qa).f0), .int .i64 ((rd_T50 t204 Qa).f1), .int .i64 ((rd_T50 t204 Qa).f2), .int .i64 ((rd_T50 t204 Qa).f3)] 50 (0, 0)) (by (with_reducible repeat (first | refine z10_ ?_ _ | refine z12_ ?_ | refine z11_ ?_ _)); exact Qb.out) k_ hk⟩))
                (case aO => exact (by (with_reducible repeat (first | apply z0_ | apply z1_ | apply z2_)); exact HO329.out))
                (case aS => exact (z9_ (w := w) (g := g) (row := none) (by repeat (first | (with_reducible first | exact HK.out | apply z6_ | apply z7_ | apply z8_ | apply z21_ | refine z22_ ?_ Qh.out _) | exact HK.out))))
                (case aL => have := LMc136.out; omega)
                intro v331 w153 ho hb hg hat
                rw [← Ny330.out] at ho
                have n0_ := z20_ (z26_ (ok := (fun k_ => some k_ ≠ (.slice Ao154 y321.length co154 : Value).ownBlock ∧ k_ ≠ Qc)) (by (with_reducible repeat (first | apply z0_ | apply z1_ | apply z2_)); exact Qe.out) hg hat)
                have n1_ := z20_ (z38_ (by first | ((repeat (first | (with_reducible first | exact HI0.out | apply z31_ | apply z35_ | apply z34_ | apply z40_ | refine z36_ ?_ Qd.out _) | exact HI0.out)); done) | exact z36_ HI0.out Qd.out _ | exact z36_ (z36_ HI0.out Qd.out _) Qd.out _) hg (z39_ HI0.out HO329.out (by decide)))
                have n2_ := z20_ (blk_grown (g := Qc) (o := .cells #[.int .i64 ((rd_T50 t204 Qa).f0), .int .i64 ((rd_T50 t204 Qa).f1), .int .i64 ((rd_T50 t204 Qa).f2), .int .i64 ((rd_T50 t204 Qa).f3)] 50 (0, 0)) (by (with_reducible repeat (first | refine z10_ ?_ _ | refine z12_ ?_ | refine z11_ ?_ _)); exact Qb.out) hg (Kd.R_away HO329.out (fun _ hk => hk.2.2)))
                have n3_ := z20_ (z26_ (ok := (fun k_ => some k_ ≠ (.slice (some Qj) t204.length co137 : Value).ownBlock ∧ k_ ≠ Qc)) (by (with_reducible repeat (first | apply z0_ | apply z1_ | apply z2_)); exact Qs.out) hg hat)
                have n4_ := z20_ (z14_ (by repeat (first | (with_reducible first | exact HB.out | apply z3_ | apply z4_ | apply z5_ | refine z25_ ?_ (z37_ HI0.out) | refine z25_ ?_ Qk.out) | exact HB.out)) HL.out hb)
                have n5_ := z20_ (z13_ (by repeat (first | (with_reducible first | exact HK.out | apply z6_ | apply z7_ | apply z8_ | apply z21_ | refine z22_ ?_ Qh.out _) | exact HK.out)) (z27_ hg g) (Kd.R_base2 HO329.out))
                have n6_ := z20_ (ho)
                clear Qe; clear HI0; clear Qb; clear Qs; clear HB; clear HK; clear HO329; have Qe := n0_; have HI0 := n1_; have Qb := n2_; have Qs := n3_; have HB := n4_; have HK := n5_; have HO332 := n6_; clear n0_ n1_ n2_ n3_ n4_ n5_ n6_; clear ho hb hg hat
                refine hK.out _ _ ⟨(z23_ Qb.out 0).trans rfl, (z23_ Qb.out 1).trans rfl, (z23_ Qb.out 2).trans rfl, (z23_ Qb.out 3).trans rfl⟩ (fun hHeld => ?_)
                clear hK K
                refine norm_ (a' := ?_) ?_ ?_
                rotate_left
                ·show Act.put _ (some 87) _ = _
                 simp only [Act.put, List.setIfInBounds_toArray, List.set_cons_zero, List.set_cons_succ, i64_w, i32_w]
                 rfl
                refine pure_ (i := 8) (N := some 5) (v := ?_) (a' := ?_) #[true, true, true, true, true, true, true, true, true] rfl rfl (any_of HT_.out (by kernel_rfl)) (fun _ _ _ h => h) (Or.inl ⟨by rfl, ?_⟩) ?_ ?_
                rotate_left
                ·intro w'
                 go_simp
                 with_reducible rfl
                rotate_left
                ·simp only [Act.put, List.setIfInBounds_toArray, List.set_cons_zero, List.set_cons_succ, i64_w, i32_w]
                 rfl
                refine done_ (done_of HT_.out (by kernel_rfl)) ?_
                try go_wp2
                go_roundg k1
                case measure => have := HK1.out; omega
                case rel => exact ⟨(y330), (wrap64 (Qa + 1)), (t313), (by first | rfl | (simp; done) | (simp [*]; done)), H', ⟨by have := HK1.out; omega⟩, ⟨by (with_reducible repeat (first | apply z0_ | apply z1_ | apply z2_)); exact z16_ Qe.out (fun _ hk => hk.2)⟩, ⟨by (with_reducible repeat (first | apply z0_ | apply z1_ | apply z2_)); exact z16_ HO332.out (fun _ hk => hk.1)⟩, ⟨by repeat (first | (with_reducible first | exact HI0.out | apply z31_ | apply z35_ | apply z34_ | apply z40_ | refine z36_ ?_ Qd.out _) | exact HI0.out)⟩, ⟨by repeat (first | (with_reducible first | exact HK.out | apply z6_ | apply z7_ | apply z8_ | apply z21_ | refine z22_ ?_ Qh.out _) | exact HK.out)⟩, ⟨by repeat (first | (with_reducible first | exact HB.out | apply z3_ | apply z4_ | apply z5_ | refine z25_ ?_ (z37_ HI0.out) | refine z25_ ?_ Qk.out) | exact HB.out)⟩⟩
               ·rw [if_neg c136] at H
                exact absurd H (by simp)
              ·rw [if_neg c135] at H
               exact absurd H (by simp)
             ·rw [if_neg c133] at H
              exact absurd H (by simp)
            ·rw [if_neg c132] at H
             exact absurd H (by simp)
           ·rw [if_neg c131] at H
            exact absurd H (by simp)
          ·rw [if_neg c129] at H
           exact absurd H (by simp)
         ·rw [if_neg c128] at H
          have c128b0 : (t213 == 4) = false := beq_eq_false_iff_ne.mpr c128
          have c128b1 : (t213 != 4) = true := bne_iff_ne.mpr c128
          replace H := Option.bind_eq_some_iff.mp H
          obtain ⟨⟨t333, t334⟩, A1550, H⟩ := H
          try dsimp only at H
          have A155 := z20_ A1550
          clear A1550
          obtain ⟨y335, hy335⟩ : ∃ y_ : List (S50), y_ = (([] : List (S50))) := ⟨_, rfl⟩
          replace H : (if 0 ≤ t333 then (if t333 ≤ (Qg.length : Int) then ((some (Qg.drop (t333 : Int).toNat : List (S50))).bind fun y338 => (if y335.length + y338.length < 4398046511104 then ((some (y335 ++ y338 : List (S50))).bind fun y342 => ((some (Qg.take (t333 : Int).toNat : List (S50))).bind fun y345 => (if y345.length < 4398046511104 then ((some (y345 ++ [(⟨(rd_T50 t204 Qa).f0, (rd_T50 t204 Qa).f1, (rd_T50 t204 Qa).f2, (rd_T50 t204 Qa).f3⟩ : S50)] : List (S50))).bind fun y348 => (if y348.length + y342.length < 4398046511104 then (spec_twoBooks.l0 k1 t204 (y348 ++ y342) (wrap64 (Qa + 1)) s0_0 t334) else (none))) else (none)))) else (none))) else (none)) else (none)) = some (r1, r2, r3) := by first | (rw [hy335]; with_reducible exact H) | (have H2_ := (Option.bind_some _ _).symm.trans H; rw [hy335]; with_reducible exact H2_) | (have H2_ := (Option.bind_some _ _).symm.trans H; with_reducible exact H2_) | with_reducible exact H | (rw [hy335]; exact H) | exact H
          have Ny335 := z20_ hy335
          clear hy335
          by_cases c156 : 0 ≤ t333
          ·rw [if_pos c156] at H
           have c156b0 := eq_true c156
           have c156b1 : decide (0 ≤ t333) = true := decide_eq_true c156
           clear c156
           by_cases c157 : t333 ≤ (Qg.length : Int)
           ·rw [if_pos c157] at H
            have c157b0 := eq_true c157
            have c157b1 : decide (t333 ≤ (Qg.length : Int)) = true := decide_eq_true c157
            clear c157
            obtain ⟨y338, hy338⟩ : ∃ y_ : List (S50), y_ = (Qg.drop (t333 : Int).toNat) := ⟨_, rfl⟩
            replace H : (if y335.length + y338.length < 4398046511104 then ((some (y335 ++ y338 : List (S50))).bind fun y342 => ((some (Qg.take (t333 : Int).toNat : List (S50))).bind fun y345 => (if y345.length < 4398046511104 then ((some (y345 ++ [(⟨(rd_T50 t204 Qa).f0, (rd_T50 t204 Qa).f1, (rd_T50 t204 Qa).f2, (rd_T50 t204 Qa).f3⟩ : S50)] : List (S50))).bind fun y348 => (if y348.length + y342.length < 4398046511104 then (spec_twoBooks.l0 k1 t204 (y348 ++ y342) (wrap64 (Qa + 1)) s0_0 t334) else (none))) else (none)))) else (none)) = some (r1, r2, r3) := by first | (rw [hy338]; with_reducible exact H) | (have H2_ := (Option.bind_some _ _).symm.trans H; rw [hy338]; with_reducible exact H2_) | (have H2_ := (Option.bind_some _ _).symm.trans H; with_reducible exact H2_) | with_reducible exact H | (rw [hy338]; exact H) | exact H
            have Ny338 := z20_ hy338
            clear hy338
            by_cases c158 : y335.length + y338.length < 4398046511104
            ·rw [if_pos c158] at H
             have LMc158 := z20_ c158
             clear c158
             obtain ⟨y342, hy342⟩ : ∃ y_ : List (S50), y_ = (y335 ++ y338) := ⟨_, rfl⟩
             replace H : ((some (Qg.take (t333 : Int).toNat : List (S50))).bind fun y345 => (if y345.length < 4398046511104 then ((some (y345 ++ [(⟨(rd_T50 t204 Qa).f0, (rd_T50 t204 Qa).f1, (rd_T50 t204 Qa).f2, (rd_T50 t204 Qa).f3⟩ : S50)] : List (S50))).bind fun y348 => (if y348.length + y342.length < 4398046511104 then (spec_twoBooks.l0 k1 t204 (y348 ++ y342) (wrap64 (Qa + 1)) s0_0 t334) else (none))) else (none))) = some (r1, r2, r3) := by first | (rw [hy342]; with_reducible exact H) | (have H2_ := (Option.bind_some _ _).symm.trans H; rw [hy342]; with_reducible exact H2_) | (have H2_ := (Option.bind_some _ _).symm.trans H; with_reducible exact H2_) | with_reducible exact H | (rw [hy342]; exact H) | exact H
             have Ny342 := z20_ hy342
             clear hy342
             have c159b0 := eq_true (z29_ (by first | (with_reducible assumption) | assumption) : t333 ≤ (Qg.length : Int))
             obtain ⟨y345, hy345⟩ : ∃ y_ : List (S50), y_ = (Qg.take (t333 : Int).toNat) := ⟨_, rfl⟩
             replace H : (if y345.length < 4398046511104 then ((some (y345 ++ [(⟨(rd_T50 t204 Qa).f0, (rd_T50 t204 Qa).f1, (rd_T50 t204 Qa).f2, (rd_T50 t204 Qa).f3⟩ : S50)] : List (S50))).bind fun y348 => (if y348.length + y342.length < 4398046511104 then (spec_twoBooks.l0 k1 t204 (y348 ++ y342) (wrap64 (Qa + 1)) s0_0 t334) else (none))) else (none)) = some (r1, r2, r3) := by first | (rw [hy345]; with_reducible exact H) | (have H2_ := (Option.bind_some _ _).symm.trans H; rw [hy345]; with_reducible exact H2_) | (have H2_ := (Option.bind_some _ _).symm.trans H; with_reducible exact H2_) | with_reducible exact H | (rw [hy345]; exact H) | exact H
             have Ny345 := z20_ hy345
             clear hy345
             by_cases c160 : y345.length < 4398046511104
             ·rw [if_pos c160] at H
              have LMc160 := z20_ c160
              clear c160
              obtain ⟨y348, hy348⟩ : ∃ y_ : List (S50), y_ = (y345 ++ [(⟨(rd_T50 t204 Qa).f0, (rd_T50 t204 Qa).f1, (rd_T50 t204 Qa).f2, (rd_T50 t204 Qa).f3⟩ : S50)]) := ⟨_, rfl⟩
              replace H : (if y348.length + y342.length < 4398046511104 then (spec_twoBooks.l0 k1 t204 (y348 ++ y342) (wrap64 (Qa + 1)) s0_0 t334) else (none)) = some (r1, r2, r3) := by first | (rw [hy348]; with_reducible exact H) | (have H2_ := (Option.bind_some _ _).symm.trans H; rw [hy348]; with_reducible exact H2_) | (have H2_ := (Option.bind_some _ _).symm.trans H; with_reducible exact H2_) | with_reducible exact H | (rw [hy348]; exact H) | exact H
              have Ny348 := z20_ hy348
              clear hy348
              by_cases c161 : y348.length + y342.length < 4398046511104
              ·rw [if_pos c161] at H
               have LMc161 := z20_ c161
               clear c161
               obtain ⟨y351, hy351⟩ : ∃ y_ : List (S50), y_ = (y348 ++ y342) := ⟨_, rfl⟩
               replace H : (spec_twoBooks.l0 k1 t204 y351 (wrap64 (Qa + 1)) s0_0 t334) = some (r1, r2, r3) := by first | (rw [hy351]; with_reducible exact H) | (have H2_ := (Option.bind_some _ _).symm.trans H; rw [hy351]; with_reducible exact H2_) | (have H2_ := (Option.bind_some _ _).symm.trans H; with_reducible exact H2_) | with_reducible exact H | (rw [hy351]; exact H) | exact H
               have Ny351 := z20_ hy351
               clear hy351
               have H' := z20_ H
               clear H
               obtain ⟨Ao162, co162, eo162⟩ := Kd.R_slice Qe.out
               subst eo162
               have p211 : 0 ≤ (Qa : Int) := z29_ (by first | (with_reducible assumption) | assumption)
               have q211 : Qa < (t204.length : Int) := z29_ (by first | (with_reducible assumption) | assumption)
               obtain ⟨Qj, e211, hx211_0, hx211_1, hx211_2, hx211_3⟩ := at_T50 (z30_ Qe.out).2.2 Qa p211 q211
               cases e211
               replace p211 := eq_true p211; replace q211 := eq_true q211
               try go_wp2_with (first | ((with_reducible refine gate_dst (N := 7) rfl ?_); refine box_event ?hg (N := 7) ?hd (cs := #[.int .i64 0, .int .i64 0, .int .i64 0, .int .i64 0]) (t := 50) ?hr ?_; (case hd => rfl); (case hg => rfl); (case hr => first | (go_simp; done) | (go_simp; rfl)); intro Qc hg w163 hbox hb; have n0_ := z20_ (Kd.R_below (Kd.R_elderB (by (with_reducible repeat (first | apply z0_ | apply z1_ | apply z2_)); exact Qe.out) Qc (Nat.le_of_eq hg.symm)) hb); have n1_ := z20_ (Kd.R_below (Kd.R_elderB (by (with_reducible repeat (first | apply z0_ | apply z1_ | apply z2_)); exact Qf.out) Qc (Nat.le_of_eq hg.symm)) hb); have n2_ := z20_ (z33_ (by repeat (first | (with_reducible first | exact HI0.out | apply z31_ | apply z35_ | apply z34_ | apply z40_) | exact HI0.out)) hb); have n3_ := z20_ (z13_ (by repeat (first | (with_reducible first | exact HK.out | apply z6_ | apply z7_ | apply z8_ | apply z21_) | exact HK.out)) (z28_ hb g none) (.inl rfl)); have n4_ := z20_ (below_step (by repeat (first | (with_reducible first | exact HB.out | apply z3_ | apply z4_ | apply z5_ | refine z25_ ?_ (z37_ HI0.out)) | exact HB.out)) hb); have n5_ := z20_ (hbox); have n6_ := z20_ ((by rw [hg]; exact (z9_ (w := w) (g := g) (row := none) (by repeat (first | (with_reducible first | exact HK.out | apply z6_ | apply z7_ | apply z8_ | apply z21_) | exact HK.out))) : w.heap.size ≤ Qc)); have n7_ := z20_ ((Nat.le_trans HW0.out (by rw [hg]; exact (z9_ (w := w) (g := g) (row := none) (by repeat (first | (with_reducible first | exact HK.out | apply z6_ | apply z7_ | apply z8_ | apply z21_) | exact HK.out))) : w.heap.size ≤ Qc) : w0.heap.size ≤ Qc)); have n8_ := z20_ ((by rw [hg]; exact Nat.ne_of_lt (IsS68.lt (show IsS68 w0 _ g s0_0 Qi from by repeat (first | (with_reducible first | exact HI0.out | apply z31_ | apply z35_ | apply z34_ | apply z40_) | exact HI0.out))) : g ≠ Qc)); have n9_ := z20_ ((by rw [hg]; exact Nat.ne_of_gt (IsS68.lt (show IsS68 w0 _ g s0_0 Qi from by repeat (first | (with_reducible first | exact HI0.out | apply z31_ | apply z35_ | apply z34_ | apply z40_) | exact HI0.out))) : Qc ≠ g)); clear Qe; clear Qf; clear HI0; clear HK; clear HB; have Qe := n0_; have Qf := n1_; have HI0 := n2_; have HK := n3_; have HB := n4_; have Qb := n5_; have Qh := n6_; have Qk := n7_; have Qd := n8_; have Ql := n9_; clear n0_ n1_ n2_ n3_ n4_ n5_ n6_ n7_ n8_ n9_; clear hb hbox hg; have hnb164 := Ql.out; have hnc164 := Qd.out; have hcz165_0 : w163.cell? ⟨Qc, 0, none⟩ = some (.int .i64 0) := (z23_ Qb.out 0).trans rfl; have hcz165_1 : w163.cell? ⟨Qc, 1, none⟩ = some (.int .i64 0) := (z23_ Qb.out 1).trans rfl; have hcz165_2 : w163.cell? ⟨Qc, 2, none⟩ = some (.int .i64 0) := (z23_ Qb.out 2).trans rfl; have hcz165_3 : w163.cell? ⟨Qc, 3, none⟩ = some (.int .i64 0) := (z23_ Qb.out 3).trans rfl; have hfz165_0 := z24_ Qb.out 0; have hfz165_1 := z24_ Qb.out 1; have hfz165_2 := z24_ Qb.out 2; have hfz165_3 := z24_ Qb.out 3) | ((with_reducible refine gate_callee (f := 37) rfl ?_); refine goesL_ (some 25) rfl rfl Try.func37 (by kernel_rfl) rfl #[.pointer (some ⟨g, 0, none⟩), .int .i64 10] rfl (by (try simp only [List.map_toArray, List.map_cons, List.map_nil]); first | done | rfl | (simp only [List.length_drop, List.length_take]; rfl)) ?_; (with_reducible refine (spec_reader_pick.calls k1 g s0_0 Qi 10 t213 t214 w0 _ ?side1 ?side2 A8.out).mono ?_); (case side1 => repeat (first | (with_reducible first | exact HI0.out | apply z31_ | apply z35_ | apply z34_ | apply z40_ | refine z36_ ?_ Qd.out _) | exact HI0.out)); (case side2 => repeat (first | (with_reducible first | exact HB.out | apply z3_ | apply z4_ | apply z5_ | refine z25_ ?_ (z37_ HI0.out) | refine z25_ ?_ Qk.out) | exact HB.out)); rintro e w166 ⟨rfl, hi, hb, hk⟩; refine ⟨_, rfl, ?_⟩; have n0_ := z20_ (z16_ (z17_ (z32_ (show IsS68 w0 _ g s0_0 Qi from by repeat (first | (with_reducible first | exact HI0.out | apply z31_ | apply z35_ | apply z34_ | apply z40_ | refine z36_ ?_ Qd.out _) | exact HI0.out)) (by (with_reducible repeat (first | apply z0_ | apply z1_ | apply z2_)); exact (z16_ (z15_ (p := ⟨Qc, 3, none⟩) (z15_ (p := ⟨Qc, 2, none⟩) (z15_ (p := ⟨Qc, 1, none⟩) (z15_ (p := ⟨Qc, 0, none⟩) (z16_ Qe.out (fun k_ hk => (⟨hk, hk.2⟩ : _ ∧ k_ ≠ Qc))) (fun _ hk => hk.2) (.int .i64 ((rd_T50 t204 Qa).f0))) (fun _ hk => hk.2) (.int .i64 ((rd_T50 t204 Qa).f1))) (fun _ hk => hk.2) (.int .i64 ((rd_T50 t204 Qa).f2))) (fun _ hk => hk.2) (.int .i64 ((rd_T50 t204 Qa).f3))) (fun _ h_ => h_.1))) (by decide)) hk (fun _ h => h.2)) (fun _ h => h.1)); have n1_ := z20_ (z16_ (z17_ (z32_ (show IsS68 w0 _ g s0_0 Qi from by repeat (first | (with_reducible first | exact HI0.out | apply z31_ | apply z35_ | apply z34_ | apply z40_ | refine z36_ ?_ Qd.out _) | exact HI0.out)) (by (with_reducible repeat (first | apply z0_ | apply z1_ | apply z2_)); exact (z16_ (z15_ (p := ⟨Qc, 3, none⟩) (z15_ (p := ⟨Qc, 2, none⟩) (z15_ (p := ⟨Qc, 1, none⟩) (z15_ (p := ⟨Qc, 0, none⟩) (z16_ Qf.out (fun k_ hk => (⟨hk, hk.2⟩ : _ ∧ k_ ≠ Qc))) (fun _ hk => hk.2) (.int .i64 ((rd_T50 t204 Qa).f0))) (fun _ hk => hk.2) (.int .i64 ((rd_T50 t204 Qa).f1))) (fun _ hk => hk.2) (.int .i64 ((rd_T50 t204 Qa).f2))) (fun _ hk => hk.2) (.int .i64 ((rd_T50 t204 Qa).f3))) (fun _ h_ => h_.1))) (by decide)) hk (fun _ h => h.2)) (fun _ h => h.1)); have n2_ := z20_ (KeepBut.blk hk (g' := Qc) (o := .cells #[.int .i64 ((rd_T50 t204 Qa).f0), .int .i64 ((rd_T50 t204 Qa).f1), .int .i64 ((rd_T50 t204 Qa).f2), .int .i64 ((rd_T50 t204 Qa).f3)] 50 (0, 0)) (by (with_reducible repeat (first | refine z10_ ?_ _ | refine z12_ ?_ | refine z11_ ?_ _)); refine blk_put (cs := #[.int .i64 ((rd_T50 t204 Qa).f0), .int .i64 ((rd_T50 t204 Qa).f1), .int .i64 ((rd_T50 t204 Qa).f2), .int .i64 0]) ?_ 3 _ rfl; (with_reducible repeat (first | refine z10_ ?_ _ | refine z12_ ?_ | refine z11_ ?_ _)); refine blk_put (cs := #[.int .i64 ((rd_T50 t204 Qa).f0), .int .i64 ((rd_T50 t204 Qa).f1), .int .i64 0, .int .i64 0]) ?_ 2 _ rfl; (with_reducible repeat (first | refine z10_ ?_ _ | refine z12_ ?_ | refine z11_ ?_ _)); refine blk_put (cs := #[.int .i64 ((rd_T50 t204 Qa).f0), .int .i64 0, .int .i64 0, .int .i64 0]) ?_ 1 _ rfl; (with_reducible repeat (first | refine z10_ ?_ _ | refine z12_ ?_ | refine z11_ ?_ _)); refine blk_put (cs := #[.int .i64 0, .int .i64 0, .int .i64 0, .int .i64 0]) ?_ 0 _ rfl; (with_reducible repeat (first | refine z10_ ?_ _ | refine z12_ ?_ | refine z11_ ?_ _)); exact Qb.out) Ql.out (by simp)); have n3_ := z20_ (z13_ (by repeat (first | (with_reducible first | exact HK.out | apply z6_ | apply z7_ | apply z8_ | apply z21_ | refine z22_ ?_ Qh.out _) | exact HK.out)) hk (.inl rfl)); have n4_ := z20_ (hb); have n5_ := z20_ (hi); clear Qe; clear Qf; clear Qb; clear HK; clear HB; clear HI0; have Qe := n0_; have Qf := n1_; have Qb := n2_; have HK := n3_; have HB := n4_; have HI0 := n5_; clear n0_ n1_ n2_ n3_ n4_ n5_; (try clear hb); (try clear hb2); (try clear hk); (try clear hi); obtain ⟨Ao167, co167, eo167⟩ := Kd.R_slice Qf.out; subst eo167) | ((with_reducible refine gate_callee (f := 37) rfl ?_); refine goesL_ (some 74) rfl rfl Try.func37 (by kernel_rfl) rfl #[.pointer (some ⟨g, 0, none⟩), .int .i64 (wrap64 ((Qg.length : Int) + 1))] rfl (by (try simp only [List.map_toArray, List.map_cons, List.map_nil]); first | done | rfl | (simp only [List.length_drop, List.length_take]; rfl)) ?_; (with_reducible refine (spec_reader_pick.calls k1 g s0_0 t214 (wrap64 ((Qg.length : Int) + 1)) t333 t334 w0 _ ?side1 ?side2 A155.out).mono ?_); (case side1 => repeat (first | (with_reducible first | exact HI0.out | apply z31_ | apply z35_ | apply z34_ | apply z40_ | refine z36_ ?_ Qd.out _) | exact HI0.out)); (case side2 => repeat (first | (with_reducible first | exact HB.out | apply z3_ | apply z4_ | apply z5_ | refine z25_ ?_ (z37_ HI0.out) | refine z25_ ?_ Qk.out) | exact HB.out)); rintro e w168 ⟨rfl, hi, hb, hk⟩; refine ⟨_, rfl, ?_⟩; have n0_ := z20_ (z16_ (z17_ (z32_ (show IsS68 w0 _ g s0_0 t214 from by repeat (first | (with_reducible first | exact HI0.out | apply z31_ | apply z35_ | apply z34_ | apply z40_ | refine z36_ ?_ Qd.out _) | exact HI0.out)) (by (with_reducible repeat (first | apply z0_ | apply z1_ | apply z2_)); exact Qe.out) (by decide)) hk (fun _ h => h.2)) (fun _ h => h.1)); have n1_ := z20_ (z16_ (z17_ (z32_ (show IsS68 w0 _ g s0_0 t214 from by repeat (first | (with_reducible first | exact HI0.out | apply z31_ | apply z35_ | apply z34_ | apply z40_ | refine z36_ ?_ Qd.out _) | exact HI0.out)) (by (with_reducible repeat (first | apply z0_ | apply z1_ | apply z2_)); exact Qf.out) (by decide)) hk (fun _ h => h.2)) (fun _ h => h.1)); have n2_ := z20_ (KeepBut.blk hk (g' := Qc) (o := .cells #[.int .i64 ((rd_T50 t204 Qa).f0), .int .i64 ((rd_T50 t204 Qa).f1), .int .i64 ((rd_T50 t204 Qa).f2), .int .i64 ((rd_T50 t204 Qa).f3)] 50 (0, 0)) (by (with_reducible repeat (first | refine z10_ ?_ _ | refine z12_ ?_ | refine z11_ ?_ _)); exact Qb.out) Ql.out (by simp)); have n3_ := z20_ (z13_ (by repeat (first | (with_reducible first | exact HK.out | apply z6_ | apply z7_ | apply z8_ | apply z21_ | refine z22_ ?_ Qh.out _) | exact HK.out)) hk (.inl rfl)); have n4_ := z20_ (hb); have n5_ := z20_ (hi); clear Qe; clear Qf; clear Qb; clear HK; clear HB; clear HI0; have Qe := n0_; have Qf := n1_; have Qb := n2_; have HK := n3_; have HB := n4_; have HI0 := n5_; clear n0_ n1_ n2_ n3_ n4_ n5_; (try clear hb); (try clear hb2); (try clear hk); (try clear hi)) | ((with_reducible refine gate_dst (N := 75) rfl ?_); refine Kd.R_lit k50 _ 50 ?hg (N := 75) ?hd (xs := ([] : List (S50))) (inner := []) (ok := fun _ => True) (okp := fun _ => True) ?hr ?hp (fun _ hk => hk) trivial (Below.refl _ _) (Nat.le_refl _) (by simp) ?_; (case hd => rfl); (case hg => rfl); (case hr => first | (go_simp; done) | (go_simp; rfl)); (case hp => exact (Reps.none _ _)); intro v336 w169 ho170 hb hg_ hnew_; clear hg_ hnew_; (first | rw [← Ny335.out] at ho170 | (simp only [Int.reduceToNat] at ho170; rw [← Ny335.out] at ho170)); have n0_ := z20_ (Kd.R_elder' (by (with_reducible repeat (first | apply z0_ | apply z1_ | apply z2_)); exact Qe.out) (Kd.R_base ho170) hb); have n1_ := z20_ (Kd.R_elder' (by (with_reducible repeat (first | apply z0_ | apply z1_ | apply z2_)); exact Qf.out) (Kd.R_base ho170) hb); have n2_ := z20_ (Kd.R_lower (Kd.R_newB (Kd.R_new' (Kd.R_new' ho170 (z19_ (by (with_reducible repeat (first | apply z0_ | apply z1_ | apply z2_)); exact Qe.out))) (z19_ (by (with_reducible repeat (first | apply z0_ | apply z1_ | apply z2_)); exact Qf.out))) (g := Qc) (o := .cells #[.int .i64 ((rd_T50 t204 Qa).f0), .int .i64 ((rd_T50 t204 Qa).f1), .int .i64 ((rd_T50 t204 Qa).f2), .int .i64 ((rd_T50 t204 Qa).f3)] 50 (0, 0)) (by (with_reducible repeat (first | refine z10_ ?_ _ | refine z12_ ?_ | refine z11_ ?_ _)); exact Qb.out)) (z9_ (w := w) (g := g) (row := none) (by repeat (first | (with_reducible first | exact HK.out | apply z6_ | apply z7_ | apply z8_ | apply z21_ | refine z22_ ?_ Qh.out _) | exact HK.out)))); have n3_ := z20_ (z33_ (by repeat (first | (with_reducible first | exact HI0.out | apply z31_ | apply z35_ | apply z34_ | apply z40_ | refine z36_ ?_ Qd.out _) | exact HI0.out)) hb); have n4_ := z20_ (blk_below (g := Qc) (o := .cells #[.int .i64 ((rd_T50 t204 Qa).f0), .int .i64 ((rd_T50 t204 Qa).f1), .int .i64 ((rd_T50 t204 Qa).f2), .int .i64 ((rd_T50 t204 Qa).f3)] 50 (0, 0)) (by (with_reducible repeat (first | refine z10_ ?_ _ | refine z12_ ?_ | refine z11_ ?_ _)); exact Qb.out) hb); have n5_ := z20_ (z13_ (by repeat (first | (with_reducible first | exact HK.out | apply z6_ | apply z7_ | apply z8_ | apply z21_ | refine z22_ ?_ Qh.out _) | exact HK.out)) (z28_ hb g none) (.inl rfl)); have n6_ := z20_ (below_step (by repeat (first | (with_reducible first | exact HB.out | apply z3_ | apply z4_ | apply z5_ | refine z25_ ?_ (z37_ HI0.out) | refine z25_ ?_ Qk.out) | exact HB.out)) hb); clear Qe; clear Qf; clear HI0; clear Qb; clear HK; clear HB; have Qe := n0_; have Qf := n1_; have HO337 := n2_; have HI0 := n3_; have Qb := n4_; have HK := n5_; have HB := n6_; clear n0_ n1_ n2_ n3_ n4_ n5_ n6_; clear hb ho170; have q171 : (t333 : Int) ≤ ((Qg.length : Int) : Int) := z29_ (by first | (with_reducible assumption) | assumption); obtain ⟨i0171, hi0171, _, hsz171, _⟩ := info_parts info50; have hroom171 : Qg.length ≤ co167 := (z30_ Qf.out).2.1; have hC171 : Kd.C k50 _ Ao167 Qg.length Qg := (z30_ Qf.out).2.2; have q0171 : (0 : Int) ≤ (t333 : Int) := z29_ (by first | (with_reducible assumption) | assumption); have hcut171 := cut_from (P := Try.prog) 23 50 .i64 Try.underlying23 hi0171 4 hsz171 Ao167 Qg.length co167 t333 q0171 q171; have hr171 := Kd.C_drop (m := (t333 : Int).toNat) (c := co167) hC171 (by omega) hroom171; obtain ⟨A171, hA171⟩ : ∃ A1, A1 = (if co167 = (t333 : Int).toNat then Ao167 else (Ao167 : Option Addr).map (·.add ((t333 : Int).toNat * 4))) := ⟨_, rfl⟩; obtain ⟨c171, hc171⟩ : ∃ c1, c1 = co167 - (t333 : Int).toNat := ⟨_, rfl⟩; have hy171 : y338.length = Qg.length - (t333 : Int).toNat := (by rw [Ny338.out, List.length_drop] <;> omega); rw [show (Qg).drop (t333 : Int).toNat = y338 from Ny338.out.symm] at hr171; replace hr171 : Kd.C k50 _ A171 y338.length y338 := (by rw [hA171]; exact hr171); rw [← hy171, ← hA171, ← hc171] at hcut171; have HR341 := z20_ hr171; have HC341 := z20_ (show y338.length ≤ c171 from by rw [hy171, hc171]; exact Nat.sub_le_sub_right hroom171 _); clear hr171 hC171 hroom171 hi0171 hsz171 hc171; have KY171 := z20_ hy171; have KA171 := z20_ hA171; clear hy171 hA171; have KL171 := z20_ (show (t333 : Int).toNat ≤ Qg.length from by omega); replace q171 := eq_true q171) | ((with_reducible refine gate_builtin (b := .append) (xs := #[.tmp 75, .tmp 78]) rfl ?_); at_builtin; refine Kd.R_append_rows k50 w.heap.size rfl (.tmp 75) (.tmp 78) 23 50 (.agg #[(.int .i64 0), (.int .i64 0), (.int .i64 0), (.int .i64 0)]) 32 rfl Try.underlying23 info50 rfl (by decide) (by omega) v336 y335 y338 _ _ _ (fun k_ => some k_ ≠ (.slice (some Qj) t204.length co162 : Value).ownBlock ∧ some k_ ≠ (.slice Ao167 Qg.length co167 : Value).ownBlock ∧ k_ ≠ Qc) (fun _ => False) rfl rfl ?aO ?aR (fun _ _ h => h) (fun _ h => h.elim) ?aF (Below.refl _ _) ?aS ?aL ?_; (case aR => repeat (first | exact (by repeat (first | (with_reducible exact HR341.out) | (with_reducible refine Kd.C_alloc ?_ _) | (with_reducible refine Kd.C_drewN ?_ _) | (with_reducible refine Kd.C_drew ?_) | exact HR341.out)) | (with_reducible refine Kd.C_alloc ?_ _) | (with_reducible refine Kd.C_drewN ?_ _) | (with_reducible refine Kd.C_drew ?_))); (case aF => exact (fun k_ hk => ⟨z18_ (z19_ (by (with_reducible repeat (first | apply z0_ | apply z1_ | apply z2_)); exact Qe.out)) k_ hk, z18_ (z19_ (by (with_reducible repeat (first | apply z0_ | apply z1_ | apply z2_)); exact Qf.out)) k_ hk, Kd.freshB (g := Qc) (o := .cells #[.int .i64 ((rd_T50 t204 Qa).f0), .int .i64 ((rd_T50 t204 Qa).f1), .int .i64 ((rd_T50 t204 Qa).f2), .int .i64 ((rd_T50 t204 Qa).f3)] 50 (0, 0)) (by (with_reducible repeat (first | refine z10_ ?_ _ | refine z12_ ?_ | refine z11_ ?_ _)); exact Qb.out) k_ hk⟩)); (case aO => exact (by (with_reducible repeat (first | apply z0_ | apply z1_ | apply z2_)); exact z16_ HO337.out (fun _ hk => ⟨hk.1.1.2, ⟨hk.1.2, hk.2⟩⟩))); (case aS => exact (z9_ (w := w) (g := g) (row := none) (by repeat (first | (with_reducible first | exact HK.out | apply z6_ | apply z7_ | apply z8_ | apply z21_ | refine z22_ ?_ Qh.out _) | exact HK.out)))); (case aL => have := LMc158.out; omega); intro v343 w172 ho hb hg hat; rw [← Ny342.out] at ho; have n0_ := z20_ (z26_ (ok := (fun k_ => some k_ ≠ (.slice Ao167 Qg.length co167 : Value).ownBlock ∧ k_ ≠ Qc)) (by (with_reducible repeat (first | apply z0_ | apply z1_ | apply z2_)); exact Qe.out) hg hat); have n1_ := z20_ (z26_ (ok := (fun k_ => some k_ ≠ (.slice (some Qj) t204.length co162 : Value).ownBlock ∧ k_ ≠ Qc)) (by (with_reducible repeat (first | apply z0_ | apply z1_ | apply z2_)); exact Qf.out) hg hat); have n2_ := z20_ (z38_ (by first | ((repeat (first | (with_reducible first | exact HI0.out | apply z31_ | apply z35_ | apply z34_ | apply z40_ | refine z36_ ?_ Qd.out _) | exact HI0.out)); done) | exact z36_ HI0.out Qd.out _ | exact z36_ (z36_ HI0.out Qd.out _) Qd.out _) hg (z39_ HI0.out HO337.out (by decide))); have n3_ := z20_ (blk_grown (g := Qc) (o := .cells #[.int .i64 ((rd_T50 t204 Qa).f0), .int .i64 ((rd_T50 t204 Qa).f1), .int .i64 ((rd_T50 t204 Qa).f2), .int .i64 ((rd_T50 t204 Qa).f3)] 50 (0, 0)) (by (with_reducible repeat (first | refine z10_ ?_ _ | refine z12_ ?_ | refine z11_ ?_ _)); exact Qb.out) hg (Kd.R_away HO337.out (fun _ hk => hk.2))); have n4_ := z20_ (z14_ (by repeat (first | (with_reducible first | exact HB.out | apply z3_ | apply z4_ | apply z5_ | refine z25_ ?_ (z37_ HI0.out) | refine z25_ ?_ Qk.out) | exact HB.out)) HL.out hb); have n5_ := z20_ (z13_ (by repeat (first | (with_reducible first | exact HK.out | apply z6_ | apply z7_ | apply z8_ | apply z21_ | refine z22_ ?_ Qh.out _) | exact HK.out)) (z27_ hg g) (Kd.R_base2 HO337.out)); have n6_ := z20_ ((show Kd.C k50 w172 A171 y338.length y338 from by rw [Ny338.out, KA171.out]; exact Kd.C_drop (m := (t333 : Int).toNat) (c := co167) ((z30_ (z26_ (ok := (fun k_ => some k_ ≠ (.slice (some Qj) t204.length co162 : Value).ownBlock ∧ k_ ≠ Qc)) (by (with_reducible repeat (first | apply z0_ | apply z1_ | apply z2_)); exact Qf.out) hg hat)).2.2) KL171.out ((z30_ (z26_ (ok := (fun k_ => some k_ ≠ (.slice (some Qj) t204.length co162 : Value).ownBlock ∧ k_ ≠ Qc)) (by (with_reducible repeat (first | apply z0_ | apply z1_ | apply z2_)); exact Qf.out) hg hat)).2.1))); have n7_ := z20_ (ho); clear Qe; clear Qf; clear HI0; clear Qb; clear HB; clear HK; clear HR341; clear HO337; have Qe := n0_; have Qf := n1_; have HI0 := n2_; have Qb := n3_; have HB := n4_; have HK := n5_; have HR341 := n6_; have Qt := n7_; clear n0_ n1_ n2_ n3_ n4_ n5_ n6_ n7_; clear ho hb hg hat))
               have n0_ := z20_ (z2_ Qe.out)
               have n1_ := z20_ (z2_ Qf.out)
               have n2_ := z20_ (z2_ Qt.out)
               have n3_ := z20_ (z12_ Qb.out)
               have n4_ := z20_ (Kd.C_drew HR341.out)
               have n5_ := z20_ (z34_ HI0.out)
               have n6_ := z20_ (z8_ HK.out)
               have n7_ := z20_ (z5_ HB.out)
               clear Qe; clear Qf; clear Qt; clear Qb; clear HR341; clear HI0; clear HK; clear HB; have Qe := n0_; have Qf := n1_; have Qt := n2_; have Qb := n3_; have HR341 := n4_; have HI0 := n5_; have HK := n6_; have HB := n7_; clear n0_ n1_ n2_ n3_ n4_ n5_ n6_ n7_
               have q174 : (t333 : Int) ≤ ((Qg.length : Int) : Int) := z29_ (by first | (with_reducible assumption) | assumption)
               obtain ⟨i0174, hi0174, _, hsz174, _⟩ := info_parts info50
               have hcut174 := cut_to (P := Try.prog) 23 50 .i64 Try.underlying23 hi0174 Ao167 Qg.length co167 t333 (z29_ (by first | (with_reducible assumption) | assumption)) q174 (z30_ Qf.out).2.1
               have hr174 := Kd.R_take (m := (t333 : Int).toNat) Qf.out (by omega)
               have hy174 : y345.length = (t333 : Int).toNat := (by rw [Ny345.out, List.length_take]; omega)
               rw [← Ny345.out] at hr174
               rw [← hy174] at hr174 hcut174
               clear hy174 hi0174 hsz174 Qf
               have HO347 := z20_ hr174
               clear hr174; replace q174 := eq_true q174
               refine start_ (n := 9) (S := fun w' => w'.cell? ⟨Qc, 0, none⟩ = some (.int .i64 ((rd_T50 t204 Qa).f0)) ∧ w'.cell? ⟨Qc, 1, none⟩ = some (.int .i64 ((rd_T50 t204 Qa).f1)) ∧ w'.cell? ⟨Qc, 2, none⟩ = some (.int .i64 ((rd_T50 t204 Qa).f2)) ∧ w'.cell? ⟨Qc, 3, none⟩ = some (.int .i64 ((rd_T50 t204 Qa).f3))) (ds := []) #[false, false, false, false, false, false, false, false, false] (by kernel_rfl) rfl rfl ⟨(z23_ Qb.out 0).trans rfl, (z23_ Qb.out 1).trans rfl, (z23_ Qb.out 2).trans rfl, (z23_ Qb.out 3).trans rfl⟩ (fun hHeld => ?_); refine with_tabW spec_twoBooks.tab22 spec_twoBooks.bits22 (fun HT_ HW_ => ?_)
               generalize w172.drew = w173 at Qe Qt Qb HR341 HI0 HK HB HO347 hHeld ⊢
               refine pure_ (i := 0) (N := some 80) (v := ?_) (a' := ?_) #[true, false, false, false, false, false, false, false, false] rfl rfl (any_of HT_.out (by kernel_rfl)) (fun _ _ _ h => h) (Or.inl ⟨by rfl, ?_⟩) ?_ ?_
               rotate_left
               ·intro w'
                go_simp
                with_reducible rfl
               rotate_left
               ·simp only [Act.put, List.setIfInBounds_toArray, List.set_cons_zero, List.set_cons_succ, i64_w, i32_w]
                rfl
               refine pure_ (i := 1) (N := some 81) (v := ?_) (a' := ?_) #[true, true, false, false, false, false, false, false, false] rfl rfl (any_of HT_.out (by kernel_rfl)) (fun _ _ _ h => h) (Or.inl ⟨by rfl, ?_⟩) ?_ ?_
               rotate_left
               ·intro w'
                go_simp
                with_reducible rfl
               rotate_left
               ·simp only [Act.put, List.setIfInBounds_toArray, List.set_cons_zero, List.set_cons_succ, i64_w, i32_w]
                rfl
               refine pure_ (i := 2) (N := some 82) (v := ?_) (a' := ?_) #[true, true, true, false, false, false, false, false, false] rfl rfl (any_of HT_.out (by kernel_rfl)) (fun _ _ _ h => h) (Or.inl ⟨by rfl, ?_⟩) ?_ ?_
               rotate_left
               ·intro w'
                go_simp
                with_reducible rfl
               rotate_left
               ·simp only [Act.put, List.setIfInBounds_toArray, List.set_cons_zero, List.set_cons_succ, i64_w, i32_w]
                rfl
               refine pure_ (i := 6) (N := some 86) (v := ?_) (a' := ?_) #[true, true, true, false, false, false, true, false, false] rfl rfl (any_of HT_.out (by kernel_rfl)) (fun _ _ _ h => h) (Or.inl ⟨by rfl, ?_⟩) ?_ ?_
               rotate_left
               ·intro w'
                go_simp
                with_reducible rfl
               rotate_left
               ·simp only [Act.put, List.setIfInBounds_toArray, List.set_cons_zero, List.set_cons_succ, i64_w, i32_w]
                rfl
               refine take_ (i := 3) (N := some 83) (v := ?_) (a' := ?_) #[true, true, true, true, false, false, true, false, false] rfl rfl (take_ofW HT_.out HW_.out (by kernel_rfl)) (fun _ _ _ h => h) (Or.inl ⟨by rfl, ?_⟩) hHeld ?_ ?_
               rotate_left
               ·rintro w' ⟨s0, s1, s2, s3⟩
                go_simp
                with_reducible rfl
               rotate_left
               ·simp only [Act.put, List.setIfInBounds_toArray, List.set_cons_zero, List.set_cons_succ, i64_w, i32_w]
                rfl
               refine one_ (i := 4) (N := some 84) #[true, true, true, true, true, false, true, false, false] rfl rfl (one_of HT_.out (by kernel_rfl)) (by decide) (fun K hK => ?_)
               refine value_ (w1 := ?_) (v := ?_) (by rfl) rfl ?_ ?_
               rotate_left 2
               ·go_simp
                constructor
                ·rfl
                ·rfl
               refine hK.out _ _ ⟨(z23_ (z11_ Qb.out _) 0).trans rfl, (z23_ (z11_ Qb.out _) 1).trans rfl, (z23_ (z11_ Qb.out _) 2).trans rfl, (z23_ (z11_ Qb.out _) 3).trans rfl⟩ (fun hHeld => ?_)
               clear hK K
               refine norm_ (a' := ?_) ?_ ?_
               rotate_left
               ·show Act.put _ (some 84) _ = _
                simp only [Act.put, List.setIfInBounds_toArray, List.set_cons_zero, List.set_cons_succ, i64_w, i32_w]
                rfl
               refine one_ (i := 5) (N := some 85) #[true, true, true, true, true, true, true, false, false] rfl rfl (one_of HT_.out (by kernel_rfl)) (by decide) (fun K hK => ?_)
               refine Kd.R_append_step k50 w.heap.size (by rfl) (.tmp 82) (.tmp 84) 23 50 (.agg #[(.int .i64 0), (.int .i64 0), (.int .i64 0), (.int .i64 0)]) 32 rfl Try.underlying23 info50 rfl (by decide) (by omega) (.slice Ao167 y345.length co167) y345 (⟨(rd_T50 t204 Qa).f0, (rd_T50 t204 Qa).f1, (rd_T50 t204 Qa).f2, (rd_T50 t204 Qa).f3⟩ : S50) [.int .i64 ((rd_T50 t204 Qa).f0), .int .i64 ((rd_T50 t204 Qa).f1), .int .i64 ((rd_T50 t204 Qa).f2), .int .i64 ((rd_T50 t204 Qa).f3)] (fun k_ => some k_ ≠ (.slice (some Qj) t204.length co162 : Value).ownBlock ∧ some k_ ≠ (v343 : Value).ownBlock ∧ k_ ≠ Qc) (fun _ => False) rfl rfl ?aP (fun _ hk => hk.elim) ?aF ?aO (Below.refl _ _) ?aS ?aL ?_
               (case aP => exact k50_mkM _ _ _ (⟨(rd_T50 t204 Qa).f0, (rd_T50 t204 Qa).f1, (rd_T50 t204 Qa).f2, (rd_T50 t204 Qa).f3⟩ : S50))
               (case aF => exact (fun k_ hk => ⟨z18_ (z19_ (by (with_reducible repeat (first | apply z0_ | apply z1_ | apply z2_)); exact Qe.out)) k_ hk, z18_ (z19_ (by (with_reducible repeat (first | apply z0_ | apply z1_ | apply z2_)); exact Qt.out)) k_ hk, Kd.freshB (g := Qc) (o := .cells #[.int .i64 ((rd_T50 t204 Qa).f0), .int .i64 ((rd_T50 t204 Qa).f1), .int .i64 ((rd_T50 t204 Qa).f2), .int .i64 ((rd_T50 t204 Qa).f3)] 50 (0, 0)) (by (with_reducible repeat (first | refine z10_ ?_ _ | refine z12_ ?_ | refine z11_ ?_ _)); exact Qb.out) k_ hk⟩))
               (case aO => exact (by (with_reducible repeat (first | apply z0_ | apply z1_ | apply z2_)); exact z16_ HO347.out (fun _ hk => ⟨hk.1.1, ⟨hk.2, hk.1.2⟩⟩)))
               (case aS => exact (z9_ (w := w) (g := g) (row := none) (by repeat (first | (with_reducible first | exact HK.out | apply z6_ | apply z7_ | apply z8_ | apply z21_ | refine z22_ ?_ Qh.out _) | exact HK.out))))
               (case aL => have := LMc160.out; omega)
               intro v349 w175 ho hb hg hat
               have oc_ : (Value.slice Ao167 y345.length co167).ownBlock = (Value.slice Ao167 Qg.length co167).ownBlock := (by generalize Ao167 = z_; cases z_ <;> rfl)
               have hg2_ := hg; have hat2_ := hat
               rw [oc_] at hg2_ hat2_
               rw [← Ny348.out] at ho
               have n0_ := z20_ (z26_ (ok := (fun k_ => some k_ ≠ (v343 : Value).ownBlock ∧ k_ ≠ Qc)) (by (with_reducible repeat (first | apply z0_ | apply z1_ | apply z2_)); exact z16_ Qe.out (fun _ hk => ⟨⟨hk.2, hk.1.2⟩, hk.1.1⟩)) hg2_ hat2_)
               have n1_ := z20_ (z38_ (by first | ((repeat (first | (with_reducible first | exact HI0.out | apply z31_ | apply z35_ | apply z34_ | apply z40_ | refine z36_ ?_ Qd.out _) | exact HI0.out)); done) | exact z36_ HI0.out Qd.out _ | exact z36_ (z36_ HI0.out Qd.out _) Qd.out _) hg (z39_ HI0.out HO347.out (by decide)))
               have n2_ := z20_ (blk_grown (g := Qc) (o := .cells #[.int .i64 ((rd_T50 t204 Qa).f0), .int .i64 ((rd_T50 t204 Qa).f1), .int .i64 ((rd_T50 t204 Qa).f2), .int .i64 ((rd_T50 t204 Qa).f3)] 50 (0, 0)) (by (with_reducible repeat (first | refine z10_ ?_ _ | refine z12_ ?_ | refine z11_ ?_ _)); exact Qb.out) hg (Kd.R_away HO347.out (fun _ hk => hk.1.2)))
               have n3_ := z20_ (z26_ (ok := (fun k_ => some k_ ≠ (.slice (some Qj) t204.length co162 : Value).ownBlock ∧ k_ ≠ Qc)) (by (with_reducible repeat (first | apply z0_ | apply z1_ | apply z2_)); exact z16_ Qt.out (fun _ hk => ⟨⟨hk.1, hk.2.2⟩, hk.2.1⟩)) hg2_ hat2_)
               have n4_ := z20_ (z14_ (by repeat (first | (with_reducible first | exact HB.out | apply z3_ | apply z4_ | apply z5_ | refine z25_ ?_ (z37_ HI0.out) | refine z25_ ?_ Qk.out) | exact HB.out)) HL.out hb)
               have n5_ := z20_ (z13_ (by repeat (first | (with_reducible first | exact HK.out | apply z6_ | apply z7_ | apply z8_ | apply z21_ | refine z22_ ?_ Qh.out _) | exact HK.out)) (z27_ hg g) (Kd.R_base2 HO347.out))
               have n6_ := z20_ (ho)
               clear Qe; clear HI0; clear Qb; clear Qt; clear HB; clear HK; clear HO347; have Qe := n0_; have HI0 := n1_; have Qb := n2_; have Qt := n3_; have HB := n4_; have HK := n5_; have HO350 := n6_; clear n0_ n1_ n2_ n3_ n4_ n5_ n6_; clear ho hb hg hat hg2_ hat2_ oc_
               obtain ⟨Ao177, co177, eo177⟩ := Kd.R_slice Qt.out
               (first | subst eo177 | (injection eo177 with f1_ f2_ f3_; have f4_ := f1_.symm; have f5_ := f3_.symm; clear f1_ f2_ f3_; subst f4_; subst f5_))
               refine hK.out _ _ ⟨(z23_ Qb.out 0).trans rfl, (z23_ Qb.out 1).trans rfl, (z23_ Qb.out 2).trans rfl, (z23_ Qb.out 3).trans rfl⟩ (fun hHeld => ?_)
               clear hK K
               refine norm_ (a' := ?_) ?_ ?_
               rotate_left
               ·show Act.put _ (some 85) _ = _
                simp only [Act.put, List.setIfInBounds_toArray, List.set_cons_zero, List.set_cons_succ, i64_w, i32_w]
                rfl
               refine one_ (i := 7) (N := some 87) #[true, true, true, true, true, true, true, true, false] rfl rfl (one_of HT_.out (by kernel_rfl)) (by decide) (fun K hK => ?_)
               refine Kd.R_append_rows_step k50 w.heap.size (by rfl) (.tmp 85) (.tmp 86) 23 50 (.agg #[(.int .i64 0), (.int .i64 0), (.int .i64 0), (.int .i64 0)]) 32 rfl Try.underlying23 info50 rfl (by decide) (by omega) v349 y348 y342 _ _ _ (fun k_ => some k_ ≠ (.slice (some Qj) t204.length co162 : Value).ownBlock ∧ some k_ ≠ (.slice Ao177 y342.length co177 : Value).ownBlock ∧ k_ ≠ Qc) (fun _ => False) rfl rfl ?aO ?aR (fun _ _ h => h) (fun _ h => h.elim) ?aF (Below.refl _ _) ?aS ?aL ?_
               (case aR => repeat (first | exact (z30_ Qt.out).2.2 | (with_reducible refine Kd.C_alloc ?_ _) | (with_reducible refine Kd.C_drewN ?_ _) | (with_reducible refine Kd.C_drew ?_)))
               (case aF => exact (fun k_ hk => ⟨z18_ (z19_ (by (with_reducible repeat (first | apply z0_ | apply z1_ | apply z2_)); exact Qe.out)) k_ hk, z18_ (z19_ (by (with_reducible repeat (first | apply z0_ | apply z1_ | apply z2_)); exact Qt.out)) k_ hk, Kd.freshB (g := Qc) (o := .cells #[.int .i64 ((rd_T50 t204 Qa).f0), .int .i64 ((rd_T50 t204 Qa).f1), .int .i64 ((rd_T50 t204 Qa).f2), .int .i64 ((rd_T50 t204 Qa).f3)] 50 (0, 0)) (by (with_reducible repeat (first | refine z10_ ?_ _ | refine z12_ ?_ | refine z11_ ?_ _)); exact Qb.out) k_ hk⟩))
               (case aO => exact (by (with_reducible repeat (first | apply z0_ | apply z1_ | apply z2_)); exact HO350.out))
               (case aS => exact (z9_ (w := w) (g := g) (row := none) (by repeat (first | (with_reducible first | exact HK.out | apply z6_ | apply z7_ | apply z8_ | apply z21_ | refine z22_ ?_ Qh.out _) | exact HK.out))))
               (case aL => have := LMc161.out; omega)
               intro v352 w176 ho hb hg hat
               rw [← Ny351.out] at ho
               have n0_ := z20_ (z26_ (ok := (fun k_ => some k_ ≠ (.slice Ao177 y342.length co177 : Value).ownBlock ∧ k_ ≠ Qc)) (by (with_reducible repeat (first | apply z0_ | apply z1_ | apply z2_)); exact Qe.out) hg hat)
               have n1_ := z20_ (z38_ (by first | ((repeat (first | (with_reducible first | exact HI0.out | apply z31_ | apply z35_ | apply z34_ | apply z40_ | refine z36_ ?_ Qd.out _) | exact HI0.out)); done) | exact z36_ HI0.out Qd.out _ | exact z36_ (z36_ HI0.out Qd.out _) Qd.out _) hg (z39_ HI0.out HO350.out (by decide)))
               have n2_ := z20_ (blk_grown (g := Qc) (o := .cells #[.int .i64 ((rd_T50 t204 Qa).f0), .int .i64 ((rd_T50 t204 Qa).f1), .int .i64 ((rd_T50 t204 Qa).f2), .int .i64 ((rd_T50 t204 Qa).f3)] 50 (0, 0)) (by (with_reducible repeat (first | refine z10_ ?_ _ | refine z12_ ?_ | refine z11_ ?_ _)); exact Qb.out) hg (Kd.R_away HO350.out (fun _ hk => hk.2.2)))
               have n3_ := z20_ (z26_ (ok := (fun k_ => some k_ ≠ (.slice (some Qj) t204.length co162 : Value).ownBlock ∧ k_ ≠ Qc)) (by (with_reducible repeat (first | apply z0_ | apply z1_ | apply z2_)); exact Qt.out) hg hat)
               have n4_ := z20_ (z14_ (by repeat (first | (with_reducible first | exact HB.out | apply z3_ | apply z4_ | apply z5_ | refine z25_ ?_ (z37_ HI0.out) | refine z25_ ?_ Qk.out) | exact HB.out)) HL.out hb)
               have n5_ := z20_ (z13_ (by repeat (first | (with_reducible first | exact HK.out | apply z6_ | apply z7_ | apply z8_ | apply z21_ | refine z22_ ?_ Qh.out _) | exact HK.out)) (z27_ hg g) (Kd.R_base2 HO350.out))
               have n6_ := z20_ (ho)
               clear Qe; clear HI0; clear Qb; clear Qt; clear HB; clear HK; clear HO350; have Qe := n0_; have HI0 := n1_; have Qb := n2_; have Qt := n3_; have HB := n4_; have HK := n5_; have HO353 := n6_; clear n0_ n1_ n2_ n3_ n4_ n5_ n6_; clear ho hb hg hat
               refine hK.out _ _ ⟨(z23_ Qb.out 0).trans rfl, (z23_ Qb.out 1).trans rfl, (z23_ Qb.out 2).trans rfl, (z23_ Qb.out 3).trans rfl⟩ (fun hHeld => ?_)
               clear hK K
               refine norm_ (a' := ?_) ?_ ?_
               rotate_left
               ·show Act.put _ (some 87) _ = _
                simp only [Act.put, List.setIfInBounds_toArray, List.set_cons_zero, List.set_cons_succ, i64_w, i32_w]
                rfl
               refine pure_ (i := 8) (N := some 5) (v := ?_) (a' := ?_) #[true, true, true, true, true, true, true, true, true] rfl rfl (any_of HT_.out (by kernel_rfl)) (fun _ _ _ h => h) (Or.inl ⟨by rfl, ?_⟩) ?_ ?_
               rotate_left
               ·intro w'
                go_simp
                with_reducible rfl
               rotate_left
               ·simp only [Act.put, List.setIfInBounds_toArray, List.set_cons_zero, List.set_cons_succ, i64_w, i32_w]
                rfl
               refine done_ (done_of HT_.out (by kernel_rfl)) ?_
               try go_wp2
               go_roundg k1
               case measure => have := HK1.out; omega
               case rel => exact ⟨(y351), (wrap64 (Qa + 1)), (t334), (by first | rfl | (simp; done) | (simp [*]; done)), H', ⟨by have := HK1.out; omega⟩, ⟨by (with_reducible repeat (first | apply z0_ | apply z1_ | apply z2_)); exact z16_ Qe.out (fun _ hk => hk.2)⟩, ⟨by (with_reducible repeat (first | apply z0_ | apply z1_ | apply z2_)); exact z16_ HO353.out (fun _ hk => hk.1)⟩, ⟨by repeat (first | (with_reducible first | exact HI0.out | apply z31_ | apply z35_ | apply z34_ | apply z40_ | refine z36_ ?_ Qd.out _) | exact HI0.out)⟩, ⟨by repeat (first | (with_reducible first | exact HK.out | apply z6_ | apply z7_ | apply z8_ | apply z21_ | refine z22_ ?_ Qh.out _) | exact HK.out)⟩, ⟨by repeat (first | (with_reducible first | exact HB.out | apply z3_ | apply z4_ | apply z5_ | refine z25_ ?_ (z37_ HI0.out) | refine z25_ ?_ Qk.out) | exact HB.out)⟩⟩
              ·rw [if_neg c161] at H
               exact absurd H (by simp)
             ·rw [if_neg c160] at H
              exact absurd H (by simp)
            ·rw [if_neg c158] at H
             exact absurd H (by simp)
           ·rw [if_neg c157] at H
            exact absurd H (by simp)
          ·rw [if_neg c156] at H
           exact absurd H (by simp)
    ·rw [if_neg c7] at H
     exact absurd H (by simp)
   ·rw [if_neg c6] at H
    have c6b0 : decide (Qa < (t204.length : Int)) = false := decide_eq_false c6
    clear c6
    simp only [Option.some.injEq, Prod.mk.injEq] at H
    obtain ⟨rfl, rfl, rfl⟩ := H
    obtain ⟨Ao178, co178, eo178⟩ := Kd.R_slice Qe.out
    subst eo178
    go_wp2
    go_ret2
    exact ⟨_, _, by first | rfl | (simp [errW_none, errW_some] <;> rfl) | (simp [*, errW_none, errW_some] <;> rfl), by (with_reducible repeat (first | apply z0_ | apply z1_ | apply z2_)); exact Qe.out, by (with_reducible repeat (first | apply z0_ | apply z1_ | apply z2_)); exact Qf.out, by repeat (first | (with_reducible first | exact HI0.out | apply z31_ | apply z35_ | apply z34_ | apply z40_) | exact HI0.out), by repeat (first | (with_reducible first | exact HB.out | apply z3_ | apply z4_ | apply z5_ | refine z25_ ?_ (z37_ HI0.out)) | exact HB.out), by repeat (first | (with_reducible first | exact HK.out | apply z6_ | apply z7_ | apply z8_ | apply z21_) | exact HK.out)⟩

end Go.Proofs.Ytjkbnimgmbnjdaa.PFnOnlyInSaldi
