/- laws.FnExactDealLock: its walk, in one way (all that is needed lies in premises; the pure text pays them). Own work. -/
import Derived.Test.YtlkcolomkhgjfaaHLockDealL
namespace Go.Proofs.Ytlkcolomkhgjfaa.PFnExactDealLock
open Go.RowKit Go.Proofs.YtlkcolomkhgjfaaW.PrintWords Go.Proofs.YtlkcolomkhgjfaaW.PrintLast Go.Proofs.YtlkcolomkhgjfaaW.PrintMore
attribute [local go_sem] max2_int min2_int max_two min_two max_three min_three max_four min_four
set_option linter.unusedVariables false
set_option linter.unusedSimpArgs false
set_option maxHeartbeats 16000000 in
set_option maxRecDepth 100000 in
theorem lawNeg.calls (k : Nat) (n0 : Int) (A1 : Option Addr) (c1 : Nat) (l1 : List Int) (A2 : Option Addr) (c2 : Nat) (l2 : List S42) (a1 a2 : Int) (t1 : Int) (w : World) (hr1 : (Kd.int .i64).C w A1 l1.length l1) (hc1 : l1.length ≤ c1) (hr2 : k42.C w A2 l2.length l2) (hc2 : l2.length ≤ c2) (h1 : laws_szLock.f k n0 l1 l2 1048576 = some t1) (hn : t1 < 0) :
    Calls Try.prog 5 #[.agg #[.int .i64 n0, .slice A1 l1.length c1, .slice A2 l2.length c2], .int .i64 a1, .int .i64 a2] w fun e w' => e = .returned (.bool true) ∧ Below w.heap.size w w' := by
  have hu26 := Try.underlying26
  have hu42 := Try.underlying42
  have HR1 := Aside0.mk hr1
  have HC1 := Aside0.mk hc1
  have HR2 := Aside0.mk hr2
  have HC2 := Aside0.mk hc2
  have H1 := Aside0.mk h1
  clear hr1 hc1 hr2 hc2 h1
  have HB := Aside0.mk (Below.refl w.heap.size w)
  have st0 : True := trivial
  have c1b0 : decide (t1 < 0) = true := decide_eq_true hn
  clear hn
  go_enter Try.func5, Try.ntmps5
  go_wp2_with (first | ((with_reducible refine gate_dst (N := 3) rfl ?_); refine box_event ?hg (N := 3) ?hd (cs := #[.int .i64 n0, .slice A1 l1.length c1, .slice A2 l2.length c2]) (t := 42) ?hr ?_; (case hd => rfl); (case hg => rfl); (case hr => first | (go_simp; done) | (go_simp; rfl)); intro gb hgb w0_ hbox hb; have BK := Aside0.mk hbox; have n1_ := Aside0.mk (below_step (by repeat (first | (with_reducible first | exact HB.out | apply below_alloc | apply pw_below_drewN | apply below_drew1) | exact HB.out)) hb); clear HB; have HB := n1_; clear n1_ hb hbox hgb; have c0_ : w0_.cell? ⟨gb, 0, none⟩ = some (.int .i64 n0) := (blk_cell BK.out 0).trans rfl; have c1_ : w0_.cell? ⟨gb, 1, none⟩ = some (.slice A1 l1.length c1) := (blk_cell BK.out 1).trans rfl; have c2_ : w0_.cell? ⟨gb, 2, none⟩ = some (.slice A2 l2.length c2) := (blk_cell BK.out 2).trans rfl) | ((with_reducible refine gate_callee (f := 18) rfl ?_); clear st0; refine goesL_ (some 17) rfl rfl Try.func18 (by kernel_rfl) rfl #[.agg #[.int .i64 n0, .slice A1 l1.length c1, .slice A2 l2.length c2], .int .i64 1048576] rfl (by (try simp only [List.map_toArray, List.map_cons, List.map_nil]); first | done | rfl) ?_; (refine (laws_szLock.calls k (laws_szLockS.all k) n0 _ _ l1 _ _ l2 1048576 t1 _ ?side1 ?side2 ?side3 ?side4 H1.out).mono ?_); (case side1 => exact Kd.C_below HR1.out HB.out); (case side2 => exact HC1.out); (case side3 => exact Kd.C_below HR2.out HB.out); (case side4 => exact HC2.out); rintro e w0_ ⟨rfl, hb⟩; refine ⟨_, rfl, ?_⟩; have n0_ := Aside0.mk (blk_below BK.out hb); have n1_ := Aside0.mk (below_step HB.out hb); clear BK HB hb; have BK := n0_; have HB := n1_; clear n0_ n1_; have b00_ : w0_.cell? ⟨gb, 0, none⟩ = some (.int .i64 n0) := (blk_cell BK.out 0).trans rfl; have b01_ : w0_.cell? ⟨gb, 1, none⟩ = some (.slice A1 l1.length c1) := (blk_cell BK.out 1).trans rfl; have b02_ : w0_.cell? ⟨gb, 2, none⟩ = some (.slice A2 l2.length c2) := (blk_cell BK.out 2).trans rfl; have st1 : True := trivial))
  go_ret
  exact ⟨rfl, (by repeat (first | (with_reducible first | exact HB.out | apply below_alloc | apply pw_below_drewN | apply below_drew1) | exact HB.out))⟩
set_option maxHeartbeats 16000000 in
set_option maxRecDepth 100000 in
theorem lawPos.calls (k : Nat) (n0 : Int) (A1 : Option Addr) (c1 : Nat) (l1 : List Int) (A2 : Option Addr) (c2 : Nat) (l2 : List S42) (a1 a2 : Int) (t1 : Int) (r1 : Int) (r2 : List Int) (r3 : List S26) (t : List Int) (b9 m : Int) (t' : List Int) (w : World) (hr1 : (Kd.int .i64).C w A1 l1.length l1) (hc1 : l1.length ≤ c1) (hr2 : k42.C w A2 l2.length l2) (hc2 : l2.length ≤ c2) (h1 : laws_szLock.f k n0 l1 l2 1048576 = some t1) (hn : 0 ≤ t1) (h2 : laws_toLock.f k n0 l1 l2 = some (r1, r2, r3)) (h3 : spec_DealLock.f k r1 r2 r3 a1 a2 = some t) (h5 : dealL.f k r1 r2 r3 a1 a2 = some t) (h6 : laws_eqIntS.f k t t = some true) (h8 : laws_eqLock.f k r1 r2 r3 r1 r2 r3 = some true) (h9 : markL.f k r2.length r3 1 = some b9) (h9b : 0 ≤ b9) (h11 : laws_markIntS.f k t 1 = some (m, t')) (hl : t'.length = t.length) (h12 : laws_heldIntS.f k t' 1 = some m) (h12b : 0 ≤ m) :
    Calls Try.prog 5 #[.agg #[.int .i64 n0, .slice A1 l1.length c1, .slice A2 l2.length c2], .int .i64 a1, .int .i64 a2] w fun e w' => e = .returned (.bool true) ∧ Below w.heap.size w w' := by
  have hu26 := Try.underlying26
  have hu42 := Try.underlying42
  have HR1 := Aside0.mk hr1
  have HC1 := Aside0.mk hc1
  have HR2 := Aside0.mk hr2
  have HC2 := Aside0.mk hc2
  have H1 := Aside0.mk h1
  clear hr1 hc1 hr2 hc2 h1
  have HB := Aside0.mk (Below.refl w.heap.size w)
  have st0 : True := trivial
  have H2 := Aside0.mk h2
  have H3 := Aside0.mk h3
  have H5 := Aside0.mk h5
  have H6 := Aside0.mk h6
  have H8 := Aside0.mk h8
  have H9 := Aside0.mk h9
  have H11 := Aside0.mk h11
  have H12 := Aside0.mk h12
  have HL := Aside0.mk hl
  have c1b0 : decide (t1 < 0) = false := decide_eq_false (Int.not_lt.2 hn)
  have c9b0 : decide (b9 < 0) = false := decide_eq_false (Int.not_lt.2 h9b)
  have c12b0 : decide (m < 0) = false := decide_eq_false (Int.not_lt.2 h12b)
  have c12b1 : (m != m) = false := bne_self_eq_false m
  clear hn h2 h3 h5 h6 h8 h9 h9b h11 hl h12 h12b
  go_enter Try.func5, Try.ntmps5
  go_upto_region 7 with (first | ((with_reducible refine gate_dst (N := 3) rfl ?_); refine box_event ?hg (N := 3) ?hd (cs := #[.int .i64 n0, .slice A1 l1.length c1, .slice A2 l2.length c2]) (t := 42) ?hr ?_; (case hd => rfl); (case hg => rfl); (case hr => first | (go_simp; done) | (go_simp; rfl)); intro gb hgb w0_ hbox hb; have BK := Aside0.mk hbox; have n1_ := Aside0.mk (below_step (by repeat (first | (with_reducible first | exact HB.out | apply below_alloc | apply pw_below_drewN | apply below_drew1) | exact HB.out)) hb); clear HB; have HB := n1_; clear n1_ hb hbox hgb; have c0_ : w0_.cell? ⟨gb, 0, none⟩ = some (.int .i64 n0) := (blk_cell BK.out 0).trans rfl; have c1_ : w0_.cell? ⟨gb, 1, none⟩ = some (.slice A1 l1.length c1) := (blk_cell BK.out 1).trans rfl; have c2_ : w0_.cell? ⟨gb, 2, none⟩ = some (.slice A2 l2.length c2) := (blk_cell BK.out 2).trans rfl) | ((with_reducible refine gate_callee (f := 18) rfl ?_); clear st0; refine goesL_ (some 17) rfl rfl Try.func18 (by kernel_rfl) rfl #[.agg #[.int .i64 n0, .slice A1 l1.length c1, .slice A2 l2.length c2], .int .i64 1048576] rfl (by (try simp only [List.map_toArray, List.map_cons, List.map_nil]); first | done | rfl) ?_; (refine (laws_szLock.calls k (laws_szLockS.all k) n0 _ _ l1 _ _ l2 1048576 t1 _ ?side1 ?side2 ?side3 ?side4 H1.out).mono ?_); (case side1 => exact Kd.C_below HR1.out HB.out); (case side2 => exact HC1.out); (case side3 => exact Kd.C_below HR2.out HB.out); (case side4 => exact HC2.out); rintro e w0_ ⟨rfl, hb⟩; refine ⟨_, rfl, ?_⟩; have n0_ := Aside0.mk (blk_below BK.out hb); have n1_ := Aside0.mk (below_step HB.out hb); clear BK HB hb; have BK := n0_; have HB := n1_; clear n0_ n1_; have b00_ : w0_.cell? ⟨gb, 0, none⟩ = some (.int .i64 n0) := (blk_cell BK.out 0).trans rfl; have b01_ : w0_.cell? ⟨gb, 1, none⟩ = some (.slice A1 l1.length c1) := (blk_cell BK.out 1).trans rfl; have b02_ : w0_.cell? ⟨gb, 2, none⟩ = some (.slice A2 l2.length c2) := (blk_cell BK.out 2).trans rfl; have st1 : True := trivial) | ((with_reducible refine gate_callee (f := 20) rfl ?_); clear st1; refine goesL_ (some 21) rfl rfl Try.func20 (by kernel_rfl) rfl #[.agg #[.int .i64 n0, .slice A1 l1.length c1, .slice A2 l2.length c2]] rfl (by (try simp only [List.map_toArray, List.map_cons, List.map_nil]); first | done | rfl) ?_; (refine (laws_toLock.calls k (laws_toLockS.all k) n0 _ _ l1 _ _ l2 r1 r2 r3 _ ?side1 ?side2 ?side3 ?side4 H2.out).mono ?_); (case side1 => exact Kd.C_below HR1.out HB.out); (case side2 => exact HC1.out); (case side3 => exact Kd.C_below HR2.out HB.out); (case side4 => exact HC2.out); rintro e w1_ ⟨v1, v2, rfl, ho1, ho2, hb⟩; refine ⟨_, rfl, ?_⟩; obtain ⟨At, ct, rfl⟩ := Kd.R_slice ho1; obtain ⟨Au, cu, rfl⟩ := Kd.R_slice ho2; have n0_ := Aside0.mk (blk_below BK.out hb); have n1_ := Aside0.mk (below_step HB.out hb); have n2_ := Aside0.mk (Kd.R_lower (Kd.R_mono (ok' := (fun _ => True)) (Kd.R_bound ho1) (fun _ _ => trivial)) (below_size HB.out)); have n3_ := Aside0.mk (Kd.R_lower (Kd.R_mono (ok' := (fun _ => True)) (Kd.R_bound ho2) (fun _ _ => trivial)) (below_size HB.out)); clear BK HB hb ho1 ho2; have BK := n0_; have HB := n1_; have HT1 := n2_; have HT2 := n3_; clear n0_ n1_ n2_ n3_; have b10_ : w1_.cell? ⟨gb, 0, none⟩ = some (.int .i64 n0) := (blk_cell BK.out 0).trans rfl; have b11_ : w1_.cell? ⟨gb, 1, none⟩ = some (.slice A1 l1.length c1) := (blk_cell BK.out 1).trans rfl; have b12_ : w1_.cell? ⟨gb, 2, none⟩ = some (.slice A2 l2.length c2) := (blk_cell BK.out 2).trans rfl; have st2 : True := trivial) | ((with_reducible refine gate_callee (f := 19) rfl ?_); clear st2; refine goesL_ (some 24) rfl rfl Try.func19 (by kernel_rfl) rfl #[.agg #[.int .i64 r1, .slice At r2.length ct, .slice Au r3.length cu], .int .i64 a1, .int .i64 a2] rfl (by (try simp only [List.map_toArray, List.map_cons, List.map_nil]); first | done | rfl) ?_; (refine (spec_DealLock.calls k r1 _ _ r2 _ _ r3 a1 a2 t _ ?side1 ?side2 ?side3 ?side4 H3.out).mono ?_); (case side1 => exact (Kd.R_reads' HT1.out).2.2); (case side2 => exact (Kd.R_reads' HT1.out).2.1); (case side3 => exact (Kd.R_reads' HT2.out).2.2); (case side4 => exact (Kd.R_reads' HT2.out).2.1); rintro e w2_ ⟨v1, rfl, ho1, hb⟩; refine ⟨_, rfl, ?_⟩; obtain ⟨Aw, cw, rfl⟩ := Kd.R_slice ho1; have n0_ := Aside0.mk (blk_below BK.out hb); have n1_ := Aside0.mk (below_step HB.out hb); have n2_ := Aside0.mk (Kd.R_lower (Kd.R_mono (ok' := fun k_ => k_ < w2_.heap.size) (Kd.R_bound ho1) (fun _ h_ => h_.2.2.1)) (below_size HB.out)); clear BK HB HT1 HT2 hb ho1; have BK := n0_; have HB := n1_; have HW := n2_; clear n0_ n1_ n2_; have GB := Aside0.mk (blk_lt BK.out); have b20_ : w2_.cell? ⟨gb, 0, none⟩ = some (.int .i64 n0) := (blk_cell BK.out 0).trans rfl; have b21_ : w2_.cell? ⟨gb, 1, none⟩ = some (.slice A1 l1.length c1) := (blk_cell BK.out 1).trans rfl; have b22_ : w2_.cell? ⟨gb, 2, none⟩ = some (.slice A2 l2.length c2) := (blk_cell BK.out 2).trans rfl; have st3 : True := trivial) | ((with_reducible refine gate_callee (f := 20) rfl ?_); clear st3; refine goesL_ (some 26) rfl rfl Try.func20 (by kernel_rfl) rfl #[.agg #[.int .i64 n0, .slice A1 l1.length c1, .slice A2 l2.length c2]] rfl (by (try simp only [List.map_toArray, List.map_cons, List.map_nil]); first | done | rfl) ?_; (refine (laws_toLock.calls k (laws_toLockS.all k) n0 _ _ l1 _ _ l2 r1 r2 r3 _ ?side1 ?side2 ?side3 ?side4 H2.out).mono ?_); (case side1 => exact Kd.C_below HR1.out HB.out); (case side2 => exact HC1.out); (case side3 => exact Kd.C_below HR2.out HB.out); (case side4 => exact HC2.out); rintro e w3_ ⟨v1, v2, rfl, ho1, ho2, hb⟩; have hsz_ := hb.size; refine ⟨_, rfl, ?_⟩; obtain ⟨Ax, cx, rfl⟩ := Kd.R_slice ho1; obtain ⟨Ay, cy, rfl⟩ := Kd.R_slice ho2; have n0_ := Aside0.mk (blk_below BK.out hb); have n1_ := Aside0.mk (below_step HB.out hb); have n2_ := Aside0.mk (Kd.R_below HW.out hb); have n3_ := Aside0.mk (Kd.R_lower (Kd.R_mono (ok' := (fun k_ => w2_.heap.size ≤ k_ ∧ k_ < w3_.heap.size)) (Kd.R_bound ho1) (fun _ h_ => ⟨h_.2.1, h_.2.2.1⟩)) (below_size HB.out)); have n4_ := Aside0.mk (Kd.R_lower (Kd.R_mono (ok' := (fun k_ => w2_.heap.size ≤ k_ ∧ k_ < w3_.heap.size)) (Kd.R_bound ho2) (fun _ h_ => ⟨h_.2.1, h_.2.2.1⟩)) (below_size HB.out)); clear BK HB HW hb ho1 ho2; have BK := n0_; have HB := n1_; have HW := n2_; have HX1 := n3_; have HX2 := n4_; clear n0_ n1_ n2_ n3_ n4_; have b30_ : w3_.cell? ⟨gb, 0, none⟩ = some (.int .i64 n0) := (blk_cell BK.out 0).trans rfl; have b31_ : w3_.cell? ⟨gb, 1, none⟩ = some (.slice A1 l1.length c1) := (blk_cell BK.out 1).trans rfl; have b32_ : w3_.cell? ⟨gb, 2, none⟩ = some (.slice A2 l2.length c2) := (blk_cell BK.out 2).trans rfl; have S12 := Aside0.mk (show w2_.heap.size ≤ w3_.heap.size from hsz_); have st4 : True := trivial) | ((with_reducible refine gate_dst (N := 9) rfl ?_); refine box_event ?hg (N := 9) ?hd (cs := #[.int .i64 0, .slice none 0 0, .slice none 0 0]) (t := 26) ?hr ?_; (case hd => rfl); (case hg => rfl); (case hr => first | (go_simp; done) | (go_simp; rfl)); clear st4; intro gx hgx wA hbox hb; have HZ := Aside0.mk hbox; have HZB := Aside0.mk hb; have GX := Aside0.mk (show w3_.heap.size ≤ gx from by rw [hgx]; exact Nat.le_refl _); clear hbox hb hgx; have z0_ : wA.cell? ⟨gx, 0, none⟩ = some (.int .i64 0) := (blk_cell HZ.out 0).trans rfl; have z1_ : wA.cell? ⟨gx, 1, none⟩ = some (.slice none 0 0) := (blk_cell HZ.out 1).trans rfl; have z2_ : wA.cell? ⟨gx, 2, none⟩ = some (.slice none 0 0) := (blk_cell HZ.out 2).trans rfl; have hf0_ := blk_frozen HZ.out 0; have hf1_ := blk_frozen HZ.out 1; have hf2_ := blk_frozen HZ.out 2; have st5 : True := trivial))
  have hKX : Aside0 ((((wA.setCell ⟨gx, 0, none⟩ (.int .i64 r1)).setCell ⟨gx, 1, none⟩ (.slice Ax r2.length cx)).setCell ⟨gx, 2, none⟩ (.slice Ay r3.length cy)).heap[gx]? = some (.cells #[.int .i64 r1, .slice Ax r2.length cx, .slice Ay r3.length cy] 26 (0, 0))) := ⟨blk_put (blk_put (blk_put HZ.out 0 _ rfl) 1 _ rfl) 2 _ rfl⟩
  have hb_ : Aside0 (Below w3_.heap.size w3_ (((wA.setCell ⟨gx, 0, none⟩ (.int .i64 r1)).setCell ⟨gx, 1, none⟩ (.slice Ax r2.length cx)).setCell ⟨gx, 2, none⟩ (.slice Ay r3.length cy))) := ⟨below_set (below_set (below_set HZB.out GX.out) GX.out) GX.out⟩
  clear HZ HZB z0_ z1_ z2_ hf0_ hf1_ hf2_
  generalize (((wA.setCell ⟨gx, 0, none⟩ (.int .i64 r1)).setCell ⟨gx, 1, none⟩ (.slice Ax r2.length cx)).setCell ⟨gx, 2, none⟩ (.slice Ay r3.length cy)) = wB at hKX hb_ ⊢
  have hb := hb_.out
  clear hb_
  have S2B := Aside0.mk hb.size
  have n0_ := Aside0.mk (blk_below BK.out hb)
  have n1_ := Aside0.mk (below_step HB.out hb)
  have n2_ := Aside0.mk (Kd.R_below HW.out hb)
  have n3_ := Aside0.mk (Kd.R_below HX1.out hb)
  have n4_ := Aside0.mk (Kd.R_below HX2.out hb)
  clear BK HB HW HX1 HX2 hb
  have BK := n0_
  have HB := n1_
  have HW := n2_
  have HX1 := n3_
  have HX2 := n4_
  clear n0_ n1_ n2_ n3_ n4_
  have BX := hKX
  clear hKX
  have y0_ : wB.cell? ⟨gb, 0, none⟩ = some (.int .i64 n0) := (blk_cell BK.out 0).trans rfl
  have y1_ : wB.cell? ⟨gb, 1, none⟩ = some (.slice A1 l1.length c1) := (blk_cell BK.out 1).trans rfl
  have y2_ : wB.cell? ⟨gb, 2, none⟩ = some (.slice A2 l2.length c2) := (blk_cell BK.out 2).trans rfl
  have x0_ : wB.cell? ⟨gx, 0, none⟩ = some (.int .i64 r1) := (blk_cell BX.out 0).trans rfl
  have x1_ : wB.cell? ⟨gx, 1, none⟩ = some (.slice Ax r2.length cx) := (blk_cell BX.out 1).trans rfl
  have x2_ : wB.cell? ⟨gx, 2, none⟩ = some (.slice Ay r3.length cy) := (blk_cell BX.out 2).trans rfl
  (try simp only [Act.put, List.setIfInBounds_toArray, List.set_cons_zero, List.set_cons_succ])
  go_wp2_with (first | ((with_reducible refine gate_callee (f := 21) rfl ?_); clear st5; refine goesL_ (some 30) rfl rfl Try.func21 (by kernel_rfl) rfl #[.agg #[.int .i64 r1, .slice Ax r2.length cx, .slice Ay r3.length cy], .int .i64 a1, .int .i64 a2] rfl (by (try simp only [List.map_toArray, List.map_cons, List.map_nil]); first | done | rfl) ?_; (refine (dealL.calls k r1 _ _ r2 _ _ r3 a1 a2 t _ ?side1 ?side2 ?side3 ?side4 H5.out).mono ?_); (case side1 => exact (Kd.R_reads' HX1.out).2.2); (case side2 => exact (Kd.R_reads' HX1.out).2.1); (case side3 => exact (Kd.R_reads' HX2.out).2.2); (case side4 => exact (Kd.R_reads' HX2.out).2.1); rintro e w5_ ⟨v1, rfl, ho1, hb⟩; refine ⟨_, rfl, ?_⟩; obtain ⟨Ag, cg, rfl⟩ := Kd.R_slice ho1; have n0_ := Aside0.mk (blk_below BK.out hb); have n1_ := Aside0.mk (blk_below BX.out hb); have n2_ := Aside0.mk (below_step HB.out hb); have n3_ := Aside0.mk (Kd.R_below HW.out hb); have n4_ := Aside0.mk (Kd.R_below HX1.out hb); have n5_ := Aside0.mk (Kd.R_below HX2.out hb); have n6_ := Aside0.mk (Kd.R_lower (Kd.R_mono (ok' := fun k_ => w3_.heap.size ≤ k_) (Kd.R_bound ho1) (fun _ h_ => Nat.le_trans S2B.out h_.2.1)) (below_size HB.out)); clear BK BX HB HW HX1 HX2 hb ho1; have BK := n0_; have BX := n1_; have HB := n2_; have HW := n3_; have HX1 := n4_; have HX2 := n5_; have HG := n6_; clear n0_ n1_ n2_ n3_ n4_ n5_ n6_; have st6 : True := trivial) | ((with_reducible refine gate_callee (f := 22) rfl ?_); clear st6; refine goesL_ (some 33) rfl rfl Try.func22 (by kernel_rfl) rfl #[(.slice Ag t.length cg), (.slice Aw t.length cw)] rfl (by (try simp only [List.map_toArray, List.map_cons, List.map_nil]); first | done | rfl) ?_; (refine (laws_eqIntS.calls k _ _ t _ _ t true _ ?side1 ?side2 ?side3 ?side4 H6.out).mono ?_); (case side1 => exact (Kd.R_reads' HG.out).2.2); (case side2 => exact (Kd.R_reads' HG.out).2.1); (case side3 => exact (Kd.R_reads' HW.out).2.2); (case side4 => exact (Kd.R_reads' HW.out).2.1); rintro e w6_ ⟨rfl, hd⟩; refine ⟨_, rfl, ?_⟩; have hb := hd.below; clear hd; have n0_ := Aside0.mk (blk_below BK.out hb); have n1_ := Aside0.mk (blk_below BX.out hb); have n2_ := Aside0.mk (below_step HB.out hb); have n3_ := Aside0.mk (Kd.R_below HG.out hb); have n4_ := Aside0.mk (Kd.R_below HW.out hb); have n5_ := Aside0.mk (Kd.R_below HX1.out hb); have n6_ := Aside0.mk (Kd.R_below HX2.out hb); clear BK BX HB HG HW HX1 HX2 hb; have BK := n0_; have BX := n1_; have HB := n2_; have HG := n3_; have HW := n4_; have HX1 := n5_; have HX2 := n6_; clear n0_ n1_ n2_ n3_ n4_ n5_ n6_; have b60_ : w6_.cell? ⟨gb, 0, none⟩ = some (.int .i64 n0) := (blk_cell BK.out 0).trans rfl; have b61_ : w6_.cell? ⟨gb, 1, none⟩ = some (.slice A1 l1.length c1) := (blk_cell BK.out 1).trans rfl; have b62_ : w6_.cell? ⟨gb, 2, none⟩ = some (.slice A2 l2.length c2) := (blk_cell BK.out 2).trans rfl; have st7 : True := trivial))
  have n0_ := Aside0.mk (blk_drew BK.out)
  have n1_ := Aside0.mk (blk_drew BX.out)
  have n2_ := Aside0.mk (below_drew1 HB.out)
  have n3_ := Aside0.mk (Kd.R_drew HG.out)
  have n4_ := Aside0.mk (Kd.R_drew HW.out)
  have n5_ := Aside0.mk (Kd.R_drew HX1.out)
  have n6_ := Aside0.mk (Kd.R_drew HX2.out)
  clear BK BX HB HG HW HX1 HX2
  have BK := n0_
  have BX := n1_
  have HB := n2_
  have HG := n3_
  have HW := n4_
  have HX1 := n5_
  have HX2 := n6_
  clear n0_ n1_ n2_ n3_ n4_ n5_ n6_
  refine start_ (n := 5) (S := fun w' => w'.cell? ⟨gx, 0, none⟩ = some (.int .i64 r1) ∧ w'.cell? ⟨gx, 1, none⟩ = some (.slice Ax r2.length cx) ∧ w'.cell? ⟨gx, 2, none⟩ = some (.slice Ay r3.length cy) ∧ w'.cell? ⟨gb, 0, none⟩ = some (.int .i64 n0) ∧ w'.cell? ⟨gb, 1, none⟩ = some (.slice A1 l1.length c1) ∧ w'.cell? ⟨gb, 2, none⟩ = some (.slice A2 l2.length c2)) (ds := []) #[false, false, false, false, false] (by kernel_rfl) rfl rfl ⟨(blk_cell BX.out 0).trans rfl, (blk_cell BX.out 1).trans rfl, (blk_cell BX.out 2).trans rfl, (blk_cell BK.out 0).trans rfl, (blk_cell BK.out 1).trans rfl, (blk_cell BK.out 2).trans rfl⟩ (fun hHeld => ?_)
  generalize w6_.drew = wd at BK BX HB HG HW HX1 HX2 hHeld ⊢
  refine take_ (i := 0) (N := some 35) (v := ?_) (a' := ?_) #[true, false, false, false, false] rfl rfl (by kernel_rfl) (fun _ _ _ h => h) (Or.inl ⟨by rfl, ?_⟩) hHeld ?_ ?_
  rotate_left
  · rintro w' ⟨s0, s1, s2, s3, s4, s5⟩
    go_simp
    with_reducible rfl
  rotate_left
  · simp only [Act.put, List.setIfInBounds_toArray, List.set_cons_zero, List.set_cons_succ, i64_w, i32_w]
    rfl
  refine take_ (i := 1) (N := some 36) (v := ?_) (a' := ?_) #[true, true, false, false, false] rfl rfl (by kernel_rfl) (fun _ _ _ h => h) (Or.inl ⟨by rfl, ?_⟩) hHeld ?_ ?_
  rotate_left
  · rintro w' ⟨s0, s1, s2, s3, s4, s5⟩
    go_simp
    with_reducible rfl
  rotate_left
  · simp only [Act.put, List.setIfInBounds_toArray, List.set_cons_zero, List.set_cons_succ, i64_w, i32_w]
    rfl
  refine one_ (i := 2) (N := some 37) #[true, true, true, false, false] rfl rfl (by kernel_rfl) (by decide) (fun K hK => ?_)
  refine goes_ Try.func20 (by kernel_rfl) rfl #[.agg #[.int .i64 n0, .slice A1 l1.length c1, .slice A2 l2.length c2]] (by rfl) rfl rfl (by (try simp only [List.map_toArray, List.map_cons, List.map_nil]); first | done | rfl) ?_
  refine (laws_toLock.calls k (laws_toLockS.all k) n0 _ _ l1 _ _ l2 r1 r2 r3 _ ?side1 ?side2 ?side3 ?side4 H2.out).mono ?_
  (case side1 => exact Kd.C_below HR1.out HB.out)
  (case side2 => exact HC1.out)
  (case side3 => exact Kd.C_below HR2.out HB.out)
  (case side4 => exact HC2.out)
  rintro e w3 ⟨v1, v2, rfl, ho1, ho2, hb⟩
  refine ⟨_, rfl, ?_⟩
  obtain ⟨At, ct, rfl⟩ := Kd.R_slice ho1
  obtain ⟨Au, cu, rfl⟩ := Kd.R_slice ho2
  have n0_ := Aside0.mk (blk_below BK.out hb)
  have n1_ := Aside0.mk (blk_below BX.out hb)
  have n2_ := Aside0.mk (below_step HB.out hb)
  have n3_ := Aside0.mk (Kd.R_below HG.out hb)
  have n4_ := Aside0.mk (Kd.R_below HW.out hb)
  have n5_ := Aside0.mk (Kd.R_below HX1.out hb)
  have n6_ := Aside0.mk (Kd.R_below HX2.out hb)
  have n7_ := Aside0.mk (Kd.R_lower (Kd.R_mono (ok' := fun _ => True) ho1 (fun _ _ => trivial)) (below_size HB.out))
  have n8_ := Aside0.mk (Kd.R_lower (Kd.R_mono (ok' := fun _ => True) ho2 (fun _ _ => trivial)) (below_size HB.out))
  clear BK BX HB HG HW HX1 HX2 hb ho1 ho2
  have BK := n0_
  have BX := n1_
  have HB := n2_
  have HG := n3_
  have HW := n4_
  have HX1 := n5_
  have HX2 := n6_
  have HT1 := n7_
  have HT2 := n8_
  clear n0_ n1_ n2_ n3_ n4_ n5_ n6_ n7_ n8_
  refine hK.out _ _ ⟨(blk_cell BX.out 0).trans rfl, (blk_cell BX.out 1).trans rfl, (blk_cell BX.out 2).trans rfl, (blk_cell BK.out 0).trans rfl, (blk_cell BK.out 1).trans rfl, (blk_cell BK.out 2).trans rfl⟩ (fun hHeld => ?_)
  clear hK K
  refine norm_ (a' := ?_) ?_ ?_
  rotate_left
  · show Act.put _ (some 37) _ = _
    simp only [Act.put, List.setIfInBounds_toArray, List.set_cons_zero, List.set_cons_succ, i64_w, i32_w]
    rfl
  refine one_ (i := 3) (N := some 38) #[true, true, true, true, false] rfl rfl (by kernel_rfl) (by decide) (fun K hK => ?_)
  refine goes_ Try.func23 (by kernel_rfl) rfl #[.agg #[.int .i64 r1, .slice Ax r2.length cx, .slice Ay r3.length cy], .agg #[.int .i64 r1, .slice At r2.length ct, .slice Au r3.length cu]] (by rfl) rfl rfl (by (try simp only [List.map_toArray, List.map_cons, List.map_nil]); first | done | rfl) ?_
  refine (laws_eqLock.calls k (laws_eqLockS.all k) r1 _ _ r2 _ _ r3 r1 _ _ r2 _ _ r3 true _ ?side1 ?side2 ?side3 ?side4 ?side5 ?side6 ?side7 ?side8 H8.out).mono ?_
  (case side1 => exact (Kd.R_reads' HX1.out).2.2)
  (case side2 => exact (Kd.R_reads' HX1.out).2.1)
  (case side3 => exact (Kd.R_reads' HX2.out).2.2)
  (case side4 => exact (Kd.R_reads' HX2.out).2.1)
  (case side5 => exact (Kd.R_reads' HT1.out).2.2)
  (case side6 => exact (Kd.R_reads' HT1.out).2.1)
  (case side7 => exact (Kd.R_reads' HT2.out).2.2)
  (case side8 => exact (Kd.R_reads' HT2.out).2.1)
  rintro e w4 ⟨rfl, hb⟩
  refine ⟨_, rfl, ?_⟩
  have n0_ := Aside0.mk (blk_below BK.out hb)
  have n1_ := Aside0.mk (blk_below BX.out hb)
  have n2_ := Aside0.mk (below_step HB.out hb)
  have n3_ := Aside0.mk (Kd.R_below HG.out hb)
  have n4_ := Aside0.mk (Kd.R_below HW.out hb)
  have n5_ := Aside0.mk (Kd.R_below HX1.out hb)
  have n6_ := Aside0.mk (Kd.R_below HX2.out hb)
  clear BK BX HB HG HW HX1 HX2 HT1 HT2 hb
  have BK := n0_
  have BX := n1_
  have HB := n2_
  have HG := n3_
  have HW := n4_
  have HX1 := n5_
  have HX2 := n6_
  clear n0_ n1_ n2_ n3_ n4_ n5_ n6_
  refine hK.out _ _ ⟨(blk_cell BX.out 0).trans rfl, (blk_cell BX.out 1).trans rfl, (blk_cell BX.out 2).trans rfl, (blk_cell BK.out 0).trans rfl, (blk_cell BK.out 1).trans rfl, (blk_cell BK.out 2).trans rfl⟩ (fun hHeld => ?_)
  clear hK K
  refine norm_ (a' := ?_) ?_ ?_
  rotate_left
  · show Act.put _ (some 38) _ = _
    simp only [Act.put, List.setIfInBounds_toArray, List.set_cons_zero, List.set_cons_succ, i64_w, i32_w]
    rfl
  refine pure_ (i := 4) (N := some 39) (v := ?_) (a' := ?_) #[true, true, true, true, true] rfl rfl (by kernel_rfl) (fun _ _ _ h => h) (Or.inl ⟨by rfl, ?_⟩) ?_ ?_
  rotate_left
  · intro w'
    go_simp
    with_reducible rfl
  rotate_left
  · simp only [Act.put, List.setIfInBounds_toArray, List.set_cons_zero, List.set_cons_succ, i64_w, i32_w]
    rfl
  refine done_ (by kernel_rfl) ?_
  have e0_ : w4.cell? ⟨gb, 0, none⟩ = some (.int .i64 n0) := (blk_cell BK.out 0).trans rfl
  have e1_ : w4.cell? ⟨gb, 1, none⟩ = some (.slice A1 l1.length c1) := (blk_cell BK.out 1).trans rfl
  have e2_ : w4.cell? ⟨gb, 2, none⟩ = some (.slice A2 l2.length c2) := (blk_cell BK.out 2).trans rfl
  have f0_ : w4.cell? ⟨gx, 0, none⟩ = some (.int .i64 r1) := (blk_cell BX.out 0).trans rfl
  have f1_ : w4.cell? ⟨gx, 1, none⟩ = some (.slice Ax r2.length cx) := (blk_cell BX.out 1).trans rfl
  have f2_ : w4.cell? ⟨gx, 2, none⟩ = some (.slice Ay r3.length cy) := (blk_cell BX.out 2).trans rfl
  obtain ⟨mm, hsh_⟩ := ShL.of_R HX2.out (P := (fun k_ => w2_.heap.size ≤ k_ ∧ k_ < w3_.heap.size)) (fun _ h_ => h_)
  have HSH := Aside0.mk hsh_
  clear hsh_
  go_wp2_with (first | ((with_reducible refine gate_callee (f := 24) rfl ?_); clear st7; refine goesL_ (some 42) rfl rfl Try.func24 (by kernel_rfl) rfl #[.agg #[.int .i64 r1, .slice Ax r2.length cx, .slice Ay r3.length cy], .int .i64 1] rfl (by (try simp only [List.map_toArray, List.map_cons, List.map_nil]); first | done | rfl) ?_; (refine (markL.calls k (fun k_ => w2_.heap.size ≤ k_ ∧ k_ < w3_.heap.size) mm r1 _ _ r2.length r3 1 b9 w _ HB.out (RI.of_R HX1.out (fun _ h_ => h_)) HSH.out H9.out).mono ?_); skip; rintro e w7_ ⟨rfl, hb, hs⟩; refine ⟨_, rfl, ?_⟩; have n0_ := Aside0.mk (Kd.R_kept HW.out hs.kept (fun k_ h_ p_ => absurd p_.1 (Nat.not_le.2 h_))); have n1_ := Aside0.mk (Kd.R_kept HG.out hs.kept (fun k_ h_ p_ => absurd p_.2 (Nat.not_lt.2 h_))); have n2_ := Aside0.mk (blk_kept BK.out hs.kept (fun p_ => absurd p_.1 (Nat.not_le.2 GB.out))); have n3_ := Aside0.mk (hb); clear HW HG BK HB HX1 HX2 BX HSH hb hs; have HW := n0_; have HG := n1_; have BK := n2_; have HB := n3_; clear n0_ n1_ n2_ n3_; have b70_ : w7_.cell? ⟨gb, 0, none⟩ = some (.int .i64 n0) := (blk_cell BK.out 0).trans rfl; have b71_ : w7_.cell? ⟨gb, 1, none⟩ = some (.slice A1 l1.length c1) := (blk_cell BK.out 1).trans rfl; have b72_ : w7_.cell? ⟨gb, 2, none⟩ = some (.slice A2 l2.length c2) := (blk_cell BK.out 2).trans rfl; have st8 : True := trivial) | (go_at_call 22; clear st8; (refine (laws_eqIntS.calls k _ _ t _ _ t true _ ?side1 ?side2 ?side3 ?side4 H6.out).mono ?_); (case side1 => exact (Kd.R_reads' HG.out).2.2); (case side2 => exact (Kd.R_reads' HG.out).2.1); (case side3 => exact (Kd.R_reads' HW.out).2.2); (case side4 => exact (Kd.R_reads' HW.out).2.1); rintro e w8_ ⟨rfl, hd⟩; have hb := hd.below; clear hd; have n0_ := Aside0.mk (blk_below BK.out hb); have n1_ := Aside0.mk (below_step HB.out hb); have n2_ := Aside0.mk (Kd.R_below HG.out hb); have n3_ := Aside0.mk (Kd.R_below HW.out hb); clear BK HB HG HW hb; have BK := n0_; have HB := n1_; have HG := n2_; have HW := n3_; clear n0_ n1_ n2_ n3_; have b80_ : w8_.cell? ⟨gb, 0, none⟩ = some (.int .i64 n0) := (blk_cell BK.out 0).trans rfl; have b81_ : w8_.cell? ⟨gb, 1, none⟩ = some (.slice A1 l1.length c1) := (blk_cell BK.out 1).trans rfl; have b82_ : w8_.cell? ⟨gb, 2, none⟩ = some (.slice A2 l2.length c2) := (blk_cell BK.out 2).trans rfl; have st9 : True := trivial) | ((with_reducible refine gate_callee (f := 25) rfl ?_); clear st9; refine goesL_ (some 53) rfl rfl Try.func25 (by kernel_rfl) rfl #[(.slice Ag t.length cg), .int .i64 1] rfl (by (try simp only [List.map_toArray, List.map_cons, List.map_nil]); first | done | rfl) ?_; (refine (laws_markIntS.calls k (fun k_ => w3_.heap.size ≤ k_) _ t 1 m t' w _ HB.out HG.out H11.out).mono ?_); skip; rintro e w9_ ⟨rfl, hy, hb, hs⟩; refine ⟨_, rfl, ?_⟩; have n0_ := Aside0.mk (Kd.R_kept HW.out hs (fun k_ h_ p_ => absurd (Nat.le_trans S12.out p_) (Nat.not_le.2 h_))); have n1_ := Aside0.mk (show Kd.R (Kd.int .i64) 3 w9_ w.heap.size (fun _ => True) (.slice Ag t'.length cg) t' from by rw [HL.out]; exact Kd.R_mono hy (fun _ _ => trivial)); have n2_ := Aside0.mk (blk_kept BK.out hs (fun p_ => absurd (Nat.le_trans S12.out p_) (Nat.not_le.2 GB.out))); have n3_ := Aside0.mk (hb); clear HW HG BK HB hb hs hy; have HW := n0_; have HG := n1_; have BK := n2_; have HB := n3_; clear n0_ n1_ n2_ n3_; have b90_ : w9_.cell? ⟨gb, 0, none⟩ = some (.int .i64 n0) := (blk_cell BK.out 0).trans rfl; have b91_ : w9_.cell? ⟨gb, 1, none⟩ = some (.slice A1 l1.length c1) := (blk_cell BK.out 1).trans rfl; have b92_ : w9_.cell? ⟨gb, 2, none⟩ = some (.slice A2 l2.length c2) := (blk_cell BK.out 2).trans rfl; have st10 : True := trivial) | ((with_reducible refine gate_callee (f := 26) rfl ?_); clear st10; refine goesL_ (some 56) rfl rfl Try.func26 (by kernel_rfl) rfl #[(.slice Ag t.length cg), .int .i64 1] rfl (by (try simp only [List.map_toArray, List.map_cons, List.map_nil]); first | done | rfl) ?_; (have hh_ := laws_heldIntS.calls k _ _ t' 1 m _ (Kd.R_reads' HG.out).2.2 (Kd.R_reads' HG.out).2.1 H12.out; rw [HL.out] at hh_; refine hh_.mono ?_; clear hh_); skip; rintro e w10_ ⟨rfl, hd⟩; refine ⟨_, rfl, ?_⟩; have hb := hd.below; clear hd; have n0_ := Aside0.mk (blk_below BK.out hb); have n1_ := Aside0.mk (below_step HB.out hb); have n2_ := Aside0.mk (Kd.R_below HG.out hb); have n3_ := Aside0.mk (Kd.R_below HW.out hb); clear BK HB HG HW hb; have BK := n0_; have HB := n1_; have HG := n2_; have HW := n3_; clear n0_ n1_ n2_ n3_; have b100_ : w10_.cell? ⟨gb, 0, none⟩ = some (.int .i64 n0) := (blk_cell BK.out 0).trans rfl; have b101_ : w10_.cell? ⟨gb, 1, none⟩ = some (.slice A1 l1.length c1) := (blk_cell BK.out 1).trans rfl; have b102_ : w10_.cell? ⟨gb, 2, none⟩ = some (.slice A2 l2.length c2) := (blk_cell BK.out 2).trans rfl; have st11 : True := trivial) | ((with_reducible refine gate_callee (f := 20) rfl ?_); clear st11; refine goesL_ (some 63) rfl rfl Try.func20 (by kernel_rfl) rfl #[.agg #[.int .i64 n0, .slice A1 l1.length c1, .slice A2 l2.length c2]] rfl (by (try simp only [List.map_toArray, List.map_cons, List.map_nil]); first | done | rfl) ?_; (refine (laws_toLock.calls k (laws_toLockS.all k) n0 _ _ l1 _ _ l2 r1 r2 r3 _ ?side1 ?side2 ?side3 ?side4 H2.out).mono ?_); (case side1 => exact Kd.C_below HR1.out HB.out); (case side2 => exact HC1.out); (case side3 => exact Kd.C_below HR2.out HB.out); (case side4 => exact HC2.out); rintro e w11_ ⟨v1, v2, rfl, ho1, ho2, hb⟩; refine ⟨_, rfl, ?_⟩; obtain ⟨At, ct, rfl⟩ := Kd.R_slice ho1; obtain ⟨Au, cu, rfl⟩ := Kd.R_slice ho2; have n0_ := Aside0.mk (blk_below BK.out hb); have n1_ := Aside0.mk (below_step HB.out hb); have n2_ := Aside0.mk (Kd.R_below HG.out hb); have n3_ := Aside0.mk (Kd.R_below HW.out hb); have n4_ := Aside0.mk (Kd.R_lower (Kd.R_mono (ok' := (fun _ => True)) (Kd.R_bound ho1) (fun _ _ => trivial)) (below_size HB.out)); have n5_ := Aside0.mk (Kd.R_lower (Kd.R_mono (ok' := (fun _ => True)) (Kd.R_bound ho2) (fun _ _ => trivial)) (below_size HB.out)); clear BK HB HG HW hb ho1 ho2; have BK := n0_; have HB := n1_; have HG := n2_; have HW := n3_; have HT1 := n4_; have HT2 := n5_; clear n0_ n1_ n2_ n3_ n4_ n5_; have b110_ : w11_.cell? ⟨gb, 0, none⟩ = some (.int .i64 n0) := (blk_cell BK.out 0).trans rfl; have b111_ : w11_.cell? ⟨gb, 1, none⟩ = some (.slice A1 l1.length c1) := (blk_cell BK.out 1).trans rfl; have b112_ : w11_.cell? ⟨gb, 2, none⟩ = some (.slice A2 l2.length c2) := (blk_cell BK.out 2).trans rfl; have st12 : True := trivial) | ((with_reducible refine gate_callee (f := 21) rfl ?_); clear st12; refine goesL_ (some 66) rfl rfl Try.func21 (by kernel_rfl) rfl #[.agg #[.int .i64 r1, .slice At r2.length ct, .slice Au r3.length cu], .int .i64 a1, .int .i64 a2] rfl (by (try simp only [List.map_toArray, List.map_cons, List.map_nil]); first | done | rfl) ?_; (refine (dealL.calls k r1 _ _ r2 _ _ r3 a1 a2 t _ ?side1 ?side2 ?side3 ?side4 H5.out).mono ?_); (case side1 => exact (Kd.R_reads' HT1.out).2.2); (case side2 => exact (Kd.R_reads' HT1.out).2.1); (case side3 => exact (Kd.R_reads' HT2.out).2.2); (case side4 => exact (Kd.R_reads' HT2.out).2.1); rintro e w12_ ⟨v1, rfl, ho1, hb⟩; refine ⟨_, rfl, ?_⟩; obtain ⟨Ah, ch, rfl⟩ := Kd.R_slice ho1; have n0_ := Aside0.mk (blk_below BK.out hb); have n1_ := Aside0.mk (below_step HB.out hb); have n2_ := Aside0.mk (Kd.R_below HG.out hb); have n3_ := Aside0.mk (Kd.R_below HW.out hb); have n4_ := Aside0.mk (Kd.R_lower ho1 (below_size HB.out)); clear BK HB HG HW HT1 HT2 hb ho1; have BK := n0_; have HB := n1_; have HG := n2_; have HW := n3_; have HH := n4_; clear n0_ n1_ n2_ n3_ n4_; have st13 : True := trivial) | ((with_reducible refine gate_callee (f := 22) rfl ?_); clear st13; refine goesL_ (some 69) rfl rfl Try.func22 (by kernel_rfl) rfl #[(.slice Ah t.length ch), (.slice Aw t.length cw)] rfl (by (try simp only [List.map_toArray, List.map_cons, List.map_nil]); first | done | rfl) ?_; (refine (laws_eqIntS.calls k _ _ t _ _ t true _ ?side1 ?side2 ?side3 ?side4 H6.out).mono ?_); (case side1 => exact (Kd.R_reads' HH.out).2.2); (case side2 => exact (Kd.R_reads' HH.out).2.1); (case side3 => exact (Kd.R_reads' HW.out).2.2); (case side4 => exact (Kd.R_reads' HW.out).2.1); rintro e w13_ ⟨rfl, hd⟩; refine ⟨_, rfl, ?_⟩; have hb := hd.below; clear hd; have n0_ := Aside0.mk (blk_below BK.out hb); have n1_ := Aside0.mk (below_step HB.out hb); have n2_ := Aside0.mk (Kd.R_below HG.out hb); have n3_ := Aside0.mk (Kd.R_below HH.out hb); have n4_ := Aside0.mk (Kd.R_below HW.out hb); clear BK HB HG HH HW hb; have BK := n0_; have HB := n1_; have HG := n2_; have HH := n3_; have HW := n4_; clear n0_ n1_ n2_ n3_ n4_; have b130_ : w13_.cell? ⟨gb, 0, none⟩ = some (.int .i64 n0) := (blk_cell BK.out 0).trans rfl; have b131_ : w13_.cell? ⟨gb, 1, none⟩ = some (.slice A1 l1.length c1) := (blk_cell BK.out 1).trans rfl; have b132_ : w13_.cell? ⟨gb, 2, none⟩ = some (.slice A2 l2.length c2) := (blk_cell BK.out 2).trans rfl; have st14 : True := trivial) | ((with_reducible refine gate_callee (f := 26) rfl ?_); clear st14; refine goesL_ (some 73) rfl rfl Try.func26 (by kernel_rfl) rfl #[(.slice Ag t.length cg), .int .i64 1] rfl (by (try simp only [List.map_toArray, List.map_cons, List.map_nil]); first | done | rfl) ?_; (have hh_ := laws_heldIntS.calls k _ _ t' 1 m _ (Kd.R_reads' HG.out).2.2 (Kd.R_reads' HG.out).2.1 H12.out; rw [HL.out] at hh_; refine hh_.mono ?_; clear hh_); skip; rintro e w14_ ⟨rfl, hd⟩; refine ⟨_, rfl, ?_⟩; have hb := hd.below; clear hd; have n0_ := Aside0.mk (blk_below BK.out hb); have n1_ := Aside0.mk (below_step HB.out hb); have n2_ := Aside0.mk (Kd.R_below HG.out hb); have n3_ := Aside0.mk (Kd.R_below HH.out hb); have n4_ := Aside0.mk (Kd.R_below HW.out hb); clear BK HB HG HH HW hb; have BK := n0_; have HB := n1_; have HG := n2_; have HH := n3_; have HW := n4_; clear n0_ n1_ n2_ n3_ n4_; have b140_ : w14_.cell? ⟨gb, 0, none⟩ = some (.int .i64 n0) := (blk_cell BK.out 0).trans rfl; have b141_ : w14_.cell? ⟨gb, 1, none⟩ = some (.slice A1 l1.length c1) := (blk_cell BK.out 1).trans rfl; have b142_ : w14_.cell? ⟨gb, 2, none⟩ = some (.slice A2 l2.length c2) := (blk_cell BK.out 2).trans rfl; have st15 : True := trivial))

  go_ret
  exact ⟨rfl, (by repeat (first | (with_reducible first | exact HB.out | apply below_alloc | apply pw_below_drewN | apply below_drew1) | exact HB.out))⟩
end Go.Proofs.Ytlkcolomkhgjfaa.PFnExactDealLock
