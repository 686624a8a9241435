-- Laid by this session's own program: the kit's print, turned at a few places. Lean checks it.
import Derived.Test.YtaoecaikeikneaaPFnWrongShareMadex0
import Derived.Test.YtaoecaikeikneaaPFnWrongShareMadex3
import Derived.Test.YtaoecaikeikneaaPFnWrongShareMadex6
namespace Go.Proofs.Ytaoecaikeikneaa.PFnWrongShareMade
open Go.RowKit Go.Proofs.YtaoecaikeikneaaW.PrintWords Go.Proofs.YtaoecaikeikneaaW.PrintLast Go.Proofs.YtaoecaikeikneaaW.PrintMore
attribute [local go_sem] max2_int min2_int max_two min_two max_three min_three max_four min_four   -- for this text's walks alone
set_option linter.unusedVariables false
set_option linter.unusedSimpArgs false

/-! ### impl_polyOf: function 60 -/
open Go.Proofs.Ytaoecaikeikneaa.Pure
/-- The shares' numbers. -/
def xyOf (l : List S40) : List (Int × Int) := l.map fun s => (s.f0, s.f1)
/-- At most eight shares, rests, no two at one place. -/
def polyOK (l : List S40) : Bool := decide (l.length ≤ 8) && (l.all (fun s => decide (0 ≤ s.f0 ∧ s.f0 < 251 ∧ 0 ≤ s.f1 ∧ s.f1 < 251)) && decide ((l.map (·.f0)).Nodup))
def impl_polyOf.f (l0 : List S40) : Option (List Int) := if polyOK l0 = true then some (thr (xyOf l0)) else none
theorem polyOK_places {l : List S40} (h : polyOK l = true) : l.length ≤ 8 ∧ Places (xyOf l) := by
  unfold polyOK at h
  rw [Bool.and_eq_true, Bool.and_eq_true] at h
  obtain ⟨h1, h2, h3⟩ := h
  refine ⟨of_decide_eq_true h1, ⟨fun q hq => ?_, ?_⟩⟩
  · obtain ⟨s, hs, rfl⟩ := List.mem_map.1 hq
    obtain ⟨a, b, c, d⟩ := of_decide_eq_true (List.all_eq_true.1 h2 s hs)
    exact ⟨⟨a, b⟩, ⟨c, d⟩⟩
  · have e : (xyOf l).map (·.1) = l.map (·.f0) := by simp [xyOf, Function.comp_def]
    rw [e]
    exact of_decide_eq_true h3
theorem newt_snoc : ∀ (a : List (Int × Int)) (st : List Int × List Int) (p : Int × Int), newt st (a ++ [p]) = newtS (newt st a) p.1 p.2 := by
  intro a
  induction a with
  | nil => intro st p; rfl
  | cons q t ih => intro st p; simp only [List.cons_append, newt]; exact ih _ _
/-- Newton's way after some shares. -/
def stOf (l : List S40) (i : Nat) : List Int × List Int := newt ([], [1]) ((xyOf l).take i)
theorem stOf_succ {l : List S40} {i : Nat} (h : i < l.length) : stOf l (i + 1) = newtS (stOf l i) (rd_T40 l i).f0 (rd_T40 l i).f1 := by
  have hi : i < (xyOf l).length := by simpa [xyOf] using h
  have e : (xyOf l)[i] = ((rd_T40 l i).f0, (rd_T40 l i).f1) := by
    simp [xyOf, rd_T40, List.getD_eq_getElem?_getD, List.getElem?_eq_getElem h]
  unfold stOf
  rw [List.take_succ_eq_append_getElem hi, newt_snoc, e]
theorem stOf_inv {l : List S40} (hp : Places (xyOf l)) (i : Nat) : NewtI ((xyOf l).take i) (stOf l i) :=
  newt_inv _ [] _ NewtI.zero (fun q hq => hp.xy q (List.mem_of_mem_take hq)) (hp.nd.sublist ((List.take_sublist _ _).map _))
/-- What a round needs. -/
theorem stOf_facts {l : List S40} (hp : Places (xyOf l)) {i : Nat} (h : i < l.length) : (stOf l i).1.length = i ∧ (stOf l i).2.length = i + 1 ∧ Rests (stOf l i).1 ∧ Rests (stOf l i).2 ∧
    (0 ≤ (rd_T40 l i).f0 ∧ (rd_T40 l i).f0 < 251) ∧ (0 ≤ (rd_T40 l i).f1 ∧ (rd_T40 l i).f1 < 251) ∧ (0 ≤ hornM (stOf l i).1 (rd_T40 l i).f0 ∧ hornM (stOf l i).1 (rd_T40 l i).f0 < 251) ∧ (1 ≤ hornM (stOf l i).2 (rd_T40 l i).f0 ∧ hornM (stOf l i).2 (rd_T40 l i).f0 ≤ 250) := by
  have hi : i < (xyOf l).length := by simpa [xyOf] using h
  have e : (xyOf l)[i] = ((rd_T40 l i).f0, (rd_T40 l i).f1) := by
    simp [xyOf, rd_T40, List.getD_eq_getElem?_getD, List.getElem?_eq_getElem h]
  have hI := stOf_inv hp i
  have hxy := hp.xy _ (List.getElem_mem hi)
  rw [e] at hxy
  refine ⟨by rw [hI.l1, List.length_take]; omega, by rw [hI.l2, List.length_take]; omega, hI.r1, hI.r2, hxy.1, hxy.2, hornM_range _ _, horn_nz (hI.nz _ hxy.1.1 hxy.1.2 fun q hq he => ?_)⟩
  obtain ⟨j, hj, rfl⟩ := List.getElem_of_mem hq
  rw [List.getElem_take] at he
  have hj2 : j < i := by rw [List.length_take] at hj; omega
  have hnd := hp.nd
  rw [List.Nodup, List.pairwise_iff_getElem] at hnd
  refine hnd j i (by simp; omega) (by simpa using hi) hj2 ?_
  rw [List.getElem_map, List.getElem_map, e]
  exact he
theorem stOf_end (l : List S40) : (stOf l l.length).1 = thr (xyOf l) := by
  unfold stOf thr
  rw [List.take_of_length_le (by simp [xyOf])]
theorem inv_loop {n : Int} (h0 : 1 ≤ n) (h1 : n ≤ 250) : ∀ (d k : Nat) (i : Int), d < k → 1 ≤ i → i ≤ invM n → (invM n - i).toNat = d → impl_InverseOf.l0 k n i = some (invM n) := by
  have hm := invM_mul h0 h1
  have hr := invM_range n
  intro d
  induction d with
  | zero =>
    intro k i hk hi hin hd
    obtain ⟨k, rfl⟩ : ∃ m, k = m + 1 := ⟨k - 1, by omega⟩
    obtain rfl : i = invM n := by omega
    simp only [impl_InverseOf.l0]
    have hb : 0 ≤ invM n * n := Int.mul_nonneg (by omega) (by omega)
    have hb2 : invM n * n ≤ 250 * 250 := Int.mul_le_mul (by omega) (by omega) (by omega) (by omega)
    rw [wrap_id (by omega) (by omega), Int.mul_comm] 
    rw [Int.mul_comm] at hb
    rw [if_pos (by rw [Int.tmod_eq_emod_of_nonneg hb]; exact hm)]
  | succ d ih =>
    intro k i hk hi hin hd
    obtain ⟨k, rfl⟩ : ∃ m, k = m + 1 := ⟨k - 1, by omega⟩
    simp only [impl_InverseOf.l0]
    have hb : 0 ≤ i * n := Int.mul_nonneg (by omega) (by omega)
    have hb2 : i * n ≤ 250 * 250 := Int.mul_le_mul (by omega) (by omega) (by omega) (by omega)
    rw [wrap_id (by omega) (by omega), Int.tmod_eq_emod_of_nonneg hb, if_neg, wrap_succ' (by omega) (by omega)]
    · exact ih k (i + 1) (by omega) (by omega) (by omega) (by omega)
    · intro e
      have e1 : Eqv (i * n) 1 := by unfold Eqv; omega
      have e2 : Eqv (n * invM n) 1 := by unfold Eqv; omega
      have e3 : Eqv (i * (n * invM n)) (i * 1) := Eqv.mul_l i e2
      have e4 : Eqv (invM n * (i * n)) (invM n * 1) := Eqv.mul_l (invM n) e1
      rw [Int.mul_one] at e3 e4
      have e5 : i * (n * invM n) = invM n * (i * n) := by rw [← Int.mul_assoc, Int.mul_comm]
      rw [e5] at e3
      have := (e3.symm.trans e4).eq ⟨by omega, by omega⟩ hr
      omega
theorem inv_spec {n : Int} (h0 : 1 ≤ n) (h1 : n ≤ 250) (k : Nat) (hk : 300 ≤ k) : impl_InverseOf.f k n = some (invM n) := by
  unfold impl_InverseOf.f
  rw [if_neg (by omega), decide_eq_false (by omega)]
  obtain ⟨k, rfl⟩ : ∃ m, k = m + 1 := ⟨k - 1, by omega⟩
  simp only [impl_InverseOf.j0]
  rw [if_neg (by decide)]
  have := invM_pos h0 h1
  have := invM_range n
  exact inv_loop h0 h1 _ k 1 (by omega) (by omega) (by omega) rfl
/-- Horner's way, as the machine reckons. -/
def hornP : List Int → Int → Int
  | [], _ => 0
  | c :: t, x => Int.tmod (wrap64 (wrap64 (hornP t x * x) + c)) 251
theorem hornP_down (zs : List Int) (x : Int) : ∀ k : Nat, k ≤ zs.length → (downTo zs k).foldl (fun v p => Int.tmod (wrap64 (wrap64 (v * x) + p.2)) 251) 0 = hornP (zs.drop (zs.length - k)) x := by
  intro k
  induction k with
  | zero => intro _; simp [downTo, hornP]
  | succ k ih =>
    intro hk
    rw [downTo_succ, List.foldl_append, ih (by omega)]
    have e : zs.drop (zs.length - (k + 1)) = rd zs ((zs.length - 1 - k : Nat) : Int) :: zs.drop (zs.length - k) := by
      have h1 : zs.length - (k + 1) < zs.length := by omega
      rw [List.drop_eq_getElem_cons h1, show zs.length - (k + 1) + 1 = zs.length - k by omega]
      congr 1
      simp only [rd, List.getD_eq_getElem?_getD, Int.toNat_natCast, show zs.length - 1 - k = zs.length - (k + 1) by omega, List.getElem?_eq_getElem h1, Option.getD_some]
    rw [e]
    simp [hornP]
theorem hornP_eq {x : Int} (hx : 0 ≤ x ∧ x < 251) : ∀ zs : List Int, Rests zs → hornP zs x = hornM zs x := by
  intro zs
  induction zs with
  | nil => intro _; rfl
  | cons c t ih =>
    intro h
    have hc := h c (by simp)
    have hr := hornM_range t x
    have hb : 0 ≤ hornM t x * x := Int.mul_nonneg (by omega) (by omega)
    have hb2 : hornM t x * x ≤ 250 * 250 := Int.mul_le_mul (by omega) (by omega) (by omega) (by omega)
    simp only [hornP, hornM]
    rw [ih fun d hd => h d (by simp [hd]), wrap_id (x := hornM t x * x) (by omega) (by omega), wrap_id (by omega) (by omega), Int.tmod_eq_emod_of_nonneg (by omega)]
/-- The marks of the loops over a function that are over. -/
def Marks (ds : List Nat) (W : World) : Prop := ∀ D ∈ ds, W.heap[D]? = some (.deferred (some []))
theorem Marks.below {ds : List Nat} {W X : World} (h : Marks ds W) (hb : Below W.heap.size W X) : Marks ds X := fun D hD => (hb.block D (Array.getElem?_eq_some_iff.1 (h D hD)).1).trans (h D hD)
theorem Marks.set_ {ds : List Nat} {W : World} (h : Marks ds W) {g : Nat} {t : TypeId} {cs : Array Value} (hg : W.heap[g]? = some (.cells cs t (0, 0))) (i : Nat) (u : Value) : Marks ds (W.setCell ⟨g, i, none⟩ u) := fun D hD => by
  refine (Below.heap_setCell W _ u D fun e => ?_).trans (h D hD)
  have := h D hD
  simp only at e
  rw [e, hg] at this
  cases this
theorem Marks.grown {ds : List Nat} {W X : World} (h : Marks ds W) {row : Option Nat} (hg : W.grownBy X row) (hr : ∀ k, row = some k → ∃ cs t, W.heap[k]? = some (.cells cs t (0, 0))) : Marks ds X := fun D hD => by
  refine (hg.block D (Array.getElem?_eq_some_iff.1 (h D hD)).1 fun e => ?_).trans (h D hD)
  obtain ⟨cs, t, hc⟩ := hr D e.symm
  rw [h D hD] at hc
  cases hc
/-- The blocks that the marks shut. -/
def shutAll : List Nat → World → World
  | [], W => W
  | D :: ds, W => shutAll ds (W.putObj D (.deferred none))
theorem shutAll_other : ∀ (ds : List Nat) (W : World) (k : Nat), k ∉ ds → (shutAll ds W).heap[k]? = W.heap[k]? := by
  intro ds
  induction ds with
  | nil => intro W k _; rfl
  | cons D ds ih =>
    intro W k hk
    simp only [shutAll]
    rw [ih _ k (fun h => hk (by simp [h]))]
    exact World.putObj_heap_other fun e => hk (by simp [e])
theorem leaves_marks {P : Program} {F : Fence} {n : Nat} {fn : Func} {tmps : Array Value} {R : Ending → World → Prop} : ∀ (ds : List Nat) (W : World), ds.Nodup → Marks ds W →
    LeavesInM F n P fn tmps R [] .returning (shutAll ds W) → LeavesInM F n P fn tmps R (ds.map fun D => ({ target := .collected D, args := #[] } : Deferred)) .returning W := by
  intro ds
  induction ds with
  | nil => intro W _ _ h; exact h
  | cons D ds ih =>
    intro W hn hm h
    refine ⟨by simp, .inl ⟨_, _, rfl, run_takeDeferred (hm D (by simp)), ih _ (List.nodup_cons.1 hn).2 (fun E hE => ?_) h⟩⟩
    exact (World.putObj_heap_other fun e => (List.nodup_cons.1 hn).1 (by rw [← e]; exact hE)).trans (hm E (by simp [hE]))
/-- A mark on the activation's deferred calls. -/
def mkD (D : Nat) : Deferred := { target := .collected D, args := #[] }
/-- What the loop over the shares keeps. -/
structure PolyI (w : World) (l0 : List S40) (i : Nat) (v3 v4 : Value) (ds : List Nat) (W : World) : Prop where
  hi : i ≤ l0.length
  r3 : Kd.R (Kd.int .i64) 3 W w.heap.size (fun _ => True) v3 (stOf l0 i).1
  r4 : Kd.R (Kd.int .i64) 3 W w.heap.size (fun _ => True) v4 (stOf l0 i).2
  ne : v3.ownBlock = none ∨ v3.ownBlock ≠ v4.ownBlock
  nd : ds.Nodup
  ge : ∀ D ∈ ds, w.heap.size ≤ D
  mks : Marks ds W
  bl : Below w.heap.size w W
theorem blk4 (w : World) (a b c d : Obj) : ((((w.alloc a).alloc b).alloc c).alloc d).heap[w.heap.size]? = some a ∧ ((((w.alloc a).alloc b).alloc c).alloc d).heap[w.heap.size + 1]? = some b ∧
    ((((w.alloc a).alloc b).alloc c).alloc d).heap[w.heap.size + 1 + 1]? = some c ∧ ((((w.alloc a).alloc b).alloc c).alloc d).heap[w.heap.size + 1 + 1 + 1]? = some d ∧ ((((w.alloc a).alloc b).alloc c).alloc d).heap.size = w.heap.size + 1 + 1 + 1 + 1 := by
  have h1 := blk_new w a
  have h2 := blk_new (w.alloc a) b
  have h3 := blk_new ((w.alloc a).alloc b) c
  have h4 := blk_new (((w.alloc a).alloc b).alloc c) d
  have s1 : (w.alloc a).heap.size = w.heap.size + 1 := by simp
  have s2 : ((w.alloc a).alloc b).heap.size = w.heap.size + 1 + 1 := by simp
  have s3 : (((w.alloc a).alloc b).alloc c).heap.size = w.heap.size + 1 + 1 + 1 := by simp
  rw [s1] at h2
  rw [s2] at h3
  rw [s3] at h4
  have e2 := (Below.refl (w.alloc a).heap.size (w.alloc a)).alloc (Nat.le_refl _) b
  have e3 := (Below.refl ((w.alloc a).alloc b).heap.size ((w.alloc a).alloc b)).alloc (Nat.le_refl _) c
  have e4 := (Below.refl (((w.alloc a).alloc b).alloc c).heap.size (((w.alloc a).alloc b).alloc c)).alloc (Nat.le_refl _) d
  rw [s1] at e2
  rw [s2] at e3
  rw [s3] at e4
  exact ⟨(e4.block _ (by omega)).trans ((e3.block _ (by omega)).trans ((e2.block _ (by omega)).trans h1)), (e4.block _ (by omega)).trans ((e3.block _ (by omega)).trans h2), (e4.block _ (by omega)).trans h3, h4, by simp⟩
theorem ownFrom_keepBut {β : Type} {B g : Nat} {W : World} (h : W.heap.size ≤ B) : OwnFrom B (fun (_ : β) X => KeepBut W X g none) :=
  fun _ A C row hs hg hr => ⟨Nat.le_trans hs.1 hg.size, fun i hi hg' _ => (hg.block i (Nat.lt_of_lt_of_le hi hs.1) (fun e => by have := (hr i e.symm).1; omega)).trans (hs.2 i hi hg' (by simp))⟩
theorem backward_calls (a : Option Addr) (len cap : Nat) (w : World) : Calls Try.prog 66 #[.slice a len cap] w fun e w' => e = .returned (.func (.func 82) #[] #[.pointer (some ⟨w.heap.size, 0, none⟩)]) ∧ w' = w.alloc (.cells #[.slice a len cap] 23) :=
  (callsIn_wide (n := 3)).1 (backward_in Fence.wide 3 trivial rfl a len cap w)
theorem inv_quiet {b : Int} (h1 : 1 ≤ b) (h2 : b ≤ 250) (w : World) : Calls Try.prog 79 #[.int .i64 b] w fun e w' => e = .returned (.int .i64 (invM b)) ∧ ∃ m, w' = w.drewN m :=
  (impl_InverseOf.calls 300 b _ w (inv_spec h1 h2 300 (by omega))).mono fun _ _ h => ⟨h.1, h.2.out⟩
section
attribute [local go_sem] Oper.semAt_some
theorem Kd.R_of_own_ne {e : Nat} {w : World} {base : Nat} {ok : Nat → Prop} {v : Value} {xs : List Int} {g : Nat} (h : (Kd.int .i64).R e w base ok v xs) (hne : v.ownBlock = none ∨ v.ownBlock ≠ some g) : (Kd.int .i64).R e w base (fun k => k ≠ g) v xs :=
  Kd.R_of_own (Kd.own_of_R h) fun k hk he => by
    rcases hne with h | h
    · rw [hk] at h; cases h
    · exact h (by rw [hk, he])
/-- What the inner loop keeps. -/
structure PolyJ (w : World) (fct x y : Int) (ds : List Nat) (hs g3 g4 g5 c3 c4 c5 : Nat) (cs bs : List Int) (j : Nat) (W : World) : Prop where
  m1 : Marks ds W
  m4 : Below w.heap.size w W
  m5 : Kd.R (Kd.int .i64) 3 W w.heap.size (fun k => k = g3) (.slice (some ⟨g3, 0, none⟩) (cs.length + 1) c3) (innM fct (251 - x) bs (cs ++ [0]) (List.replicate (bs.length + 1) 0) j).1
  m6 : Kd.R (Kd.int .i64) 3 W w.heap.size (fun k => k = g4) (.slice (some ⟨g4, 0, none⟩) bs.length c4) bs
  m9 : Kd.R (Kd.int .i64) 3 W w.heap.size (fun k => k = g5) (.slice (some ⟨g5, 0, none⟩) (bs.length + 1) c5) (innM fct (251 - x) bs (cs ++ [0]) (List.replicate (bs.length + 1) 0) j).2
  ks : W.heap[hs]? = some (.cells #[.int .i64 x, .int .i64 y] 40)
theorem row_cell {W : World} {base g n c : Nat} {ok : Nat → Prop} {xs : List Int} (h : Kd.R (Kd.int .i64) 3 W base ok (.slice (some ⟨g, 0, none⟩) n c) xs) {j : Nat} (hj : j < xs.length) : W.cell? ⟨g, j, none⟩ = some (.int .i64 (rd xs (j : Int))) := by
  obtain ⟨_, _, hC⟩ := Kd.R_reads' h
  obtain ⟨ad, e, hc⟩ := Kd.at_int hC (j : Int) (by omega) (by omega)
  cases e
  rwa [Int.toNat_natCast, add_plain] at hc
theorem row_frozen {W : World} {base g n c : Nat} {ok : Nat → Prop} {xs : List Int} (h : Kd.R (Kd.int .i64) 3 W base ok (.slice (some ⟨g, 0, none⟩) n c) xs) (j : Nat) : W.frozen? ⟨g, j, none⟩ = false := by
  obtain ⟨inner, ho⟩ := Kd.R_own h
  obtain ⟨cells, hc⟩ := own_typed ho g rfl
  exact blk_frozen hc j
theorem row_blk {W : World} {base g n c : Nat} {ok : Nat → Prop} {xs : List Int} (h : Kd.R (Kd.int .i64) 3 W base ok (.slice (some ⟨g, 0, none⟩) n c) xs) : ∃ cells, W.heap[g]? = some (.cells cells 3 (0, 0)) := by
  obtain ⟨inner, ho⟩ := Kd.R_own h
  exact own_typed ho g rfl
theorem row_base {W : World} {base g n c : Nat} {ok : Nat → Prop} {xs : List Int} (h : Kd.R (Kd.int .i64) 3 W base ok (.slice (some ⟨g, 0, none⟩) n c) xs) : base ≤ g := by
  obtain ⟨inner, ho⟩ := Kd.R_own h
  exact own_base ho g rfl
theorem row_put {W : World} {base g n c : Nat} {ok : Nat → Prop} {xs : List Int} (h : Kd.R (Kd.int .i64) 3 W base ok (.slice (some ⟨g, 0, none⟩) n c) xs) (j : Nat) (v : Int) : Kd.R (Kd.int .i64) 3 (W.setCell ⟨g, j, none⟩ (.int .i64 v)) base ok (.slice (some ⟨g, 0, none⟩) n c) (xs.set j v) := by
  have := Kd.R_putn (enc := Value.int .i64) (h1 := fun _ => rfl) h (j : Int) v
  rwa [Int.toNat_natCast] at this
theorem PolyJ.step {w : World} {fct x y : Int} {ds : List Nat} {hs g3 g4 g5 c3 c4 c5 : Nat} {cs bs : List Int} {j : Nat} {W : World} (h : PolyJ w fct x y ds hs g3 g4 g5 c3 c4 c5 cs bs j W) (h43 : g3 ≠ g4) (h53 : g5 ≠ g3) (h54 : g5 ≠ g4) (n3 : hs ≠ g3) (n5 : hs ≠ g5) {v1 v2 v3 : Int}
    (hinn : innM fct (251 - x) bs (cs ++ [0]) (List.replicate (bs.length + 1) 0) (j + 1) = ((innM fct (251 - x) bs (cs ++ [0]) (List.replicate (bs.length + 1) 0) j).1.set j v1, ((innM fct (251 - x) bs (cs ++ [0]) (List.replicate (bs.length + 1) 0) j).2.set (j + 1) v2).set j v3)) :
    PolyJ w fct x y ds hs g3 g4 g5 c3 c4 c5 cs bs (j + 1) ((((W.setCell ⟨g3, j, none⟩ (.int .i64 v1)).setCell ⟨g5, j + 1, none⟩ (.int .i64 v2)).drew).setCell ⟨g5, j, none⟩ (.int .i64 v3)) := by
  have a5 := row_put h.m5 j v1
  have b5 := Kd.R_far (p := ⟨g5, j + 1, none⟩) a5 (fun k hk => by simp only at hk ⊢; omega) (.int .i64 v2)
  have d5 := Kd.R_far (p := ⟨g5, j, none⟩) (Kd.R_drew b5) (fun k hk => by simp only at hk ⊢; omega) (.int .i64 v3)
  have a6 := Kd.R_far (p := ⟨g3, j, none⟩) h.m6 (fun k hk => by simp only at hk ⊢; omega) (.int .i64 v1)
  have b6 := Kd.R_far (p := ⟨g5, j + 1, none⟩) a6 (fun k hk => by simp only at hk ⊢; omega) (.int .i64 v2)
  have d6 := Kd.R_far (p := ⟨g5, j, none⟩) (Kd.R_drew b6) (fun k hk => by simp only at hk ⊢; omega) (.int .i64 v3)
  have a9 := Kd.R_far (p := ⟨g3, j, none⟩) h.m9 (fun k hk => by simp only at hk ⊢; omega) (.int .i64 v1)
  have b9 := row_put a9 (j + 1) v2
  have d9 := row_put (Kd.R_drew b9) j v3
  obtain ⟨e3, he3⟩ := row_blk h.m5
  obtain ⟨e5, he5⟩ := row_blk a9
  obtain ⟨f5, hf5⟩ := row_blk (Kd.R_drew b9)
  refine ⟨((h.m1.set_ he3 j _).set_ he5 (j + 1) _ : Marks ds _).set_ (W := ((W.setCell ⟨g3, j, none⟩ (.int .i64 v1)).setCell ⟨g5, j + 1, none⟩ (.int .i64 v2)).drew) hf5 j _, ?_, ?_, d6, ?_, ?_⟩
  · exact (below_drew ((h.m4.setCell (p := ⟨g3, j, none⟩) (row_base h.m5) _).setCell (p := ⟨g5, j + 1, none⟩) (row_base h.m9) _)).setCell (p := ⟨g5, j, none⟩) (row_base h.m9) _
  · rw [hinn]; exact d5
  · rw [hinn]; exact d9
  · exact (Below.heap_setCell _ ⟨g5, j, none⟩ _ hs n5).trans ((Below.heap_setCell _ ⟨g5, j + 1, none⟩ _ hs n5).trans ((Below.heap_setCell _ ⟨g3, j, none⟩ _ hs n3).trans h.ks))
theorem shutAll_below {w : World} : ∀ (ds : List Nat) (W : World), Below w.heap.size w W → ds.Nodup → Marks ds W → (∀ D ∈ ds, w.heap.size ≤ D) → Below w.heap.size w (shutAll ds W) := by
  intro ds
  induction ds with
  | nil => intro W h _ _ _; exact h
  | cons D ds ih =>
    intro W h hn hm hg
    refine ih _ (h.trans (belowK_b (w := w) (Nat.le_refl _) W D _ _ (hg D (by simp)) (hm D (by simp)) rfl rfl)) (List.nodup_cons.1 hn).2 (fun E hE => ?_) fun E hE => hg E (by simp [hE])
    exact (World.putObj_heap_other fun e => (List.nodup_cons.1 hn).1 (by rw [← e]; exact hE)).trans (hm E (by simp [hE]))
theorem shutAll_row {W : World} {base : Nat} {ok : Nat → Prop} {v : Value} {xs : List Int} {ds : List Nat} (h : Kd.R (Kd.int .i64) 3 W base ok v xs) (hm : Marks ds W) : Kd.R (Kd.int .i64) 3 (shutAll ds W) base ok v xs :=
  Kd.R_mono (Kd.R_move (Kd.R_bound h) fun k hk => shutAll_other ds W k fun hD => by
    obtain ⟨_, _, _, q, _, cells, hc⟩ := hk
    rw [hm k hD] at hc
    cases hc) fun _ hk => hk.1
/-- The loop's frame. -/
def PolyInv (w : World) (A0 : Option Addr) (c0 : Nat) (l0 : List S40) (v4 : Value) (a' : Act) (w' : World) : Prop := ∃ (i : Nat) (v3_ v4_ : Value) (ds : List Nat) (u : Nat → Value), PolyI w l0 i v3_ v4_ ds w' ∧ a' = { tmps := #[.slice A0 l0.length c0, undef, .slice none 0 0, v3_, v4_, undef, u 6, u 7, u 8, undef, undef, undef, undef, u 13, u 14, u 15, u 16, v4, .slice A0 l0.length c0, .int .i64 (l0.length : Int), .int .i64 (i : Int), u 21, u 22, u 23, u 24, u 25, undef, undef, undef, undef, undef, undef, undef, undef, undef, u 35, u 36, undef, undef, undef, undef, undef, undef, undef, undef, undef, u 46, u 47, u 48, u 49, u 50, u 51, u 52, u 53, u 54, u 55, u 56, u 57, u 58, u 59, u 60, u 61, u 62, u 63, u 64, u 65, u 66, u 67, u 68, u 69, u 70, u 71, u 72, u 73, u 74, u 75, u 76, u 77, u 78, u 79, u 80, u 81, u 82, u 83, u 84, u 85, u 86, u 87, u 88, u 89, u 90, u 91, u 92, u 93, u 94, u 95, u 96, u 97, u 98, u 99, u 100, u 101, u 102, u 103, u 104, u 105, u 106, u 107, u 108, u 109, undef], defers := ds.map mkD }
/-- The inner loop's frame. -/
def PolyInv2 (w : World) (ad : Addr) (c0 : Nat) (l0 : List S40) (v4 : Value) (i : Nat) (fct x y : Int) (ds : List Nat) (hs g3 g4 g5 c3 c4 c5 : Nat) (cs bs : List Int) (a' : Act) (w' : World) : Prop := ∃ (j : Nat) (u : Nat → Value), j ≤ bs.length ∧ PolyJ w fct x y ds hs g3 g4 g5 c3 c4 c5 cs bs j w' ∧ a' = { tmps := #[.slice (some ad) l0.length c0, undef, .slice none 0 0, .slice (some ⟨g3, 0, none⟩) (cs.length + 1) c3, .slice (some ⟨g4, 0, none⟩) bs.length c4, undef, .pointer (some ⟨hs, 0, none⟩), u 7, u 8, undef, undef, undef, undef, .int .i64 fct, .slice (some ⟨g5, 0, none⟩) (bs.length + 1) c5, u 15, u 16, v4, .slice (some ad) l0.length c0, .int .i64 (l0.length : Int), .int .i64 (i : Int), u 21, u 22, u 23, u 24, u 25, undef, undef, undef, undef, undef, undef, undef, undef, undef, u 35, u 36, undef, undef, undef, undef, undef, undef, undef, undef, undef, u 46, u 47, u 48, u 49, u 50, u 51, u 52, u 53, u 54, u 55, u 56, u 57, u 58, u 59, u 60, u 61, .slice (some ⟨g4, 0, none⟩) bs.length c4, .int .i64 (bs.length : Int), .int .i64 (j : Int), u 65, u 66, u 67, u 68, u 69, u 70, u 71, u 72, u 73, u 74, u 75, u 76, u 77, u 78, u 79, u 80, u 81, u 82, u 83, u 84, u 85, u 86, u 87, u 88, u 89, u 90, u 91, u 92, u 93, u 94, u 95, u 96, u 97, u 98, u 99, u 100, u 101, u 102, u 103, u 104, u 105, u 106, u 107, u 108, u 109, undef], defers := ds.map mkD }
theorem PolyInv2.of {w : World} {ad : Addr} {c0 : Nat} {l0 : List S40} {v4 : Value} {i : Nat} {fct x y : Int} {ds : List Nat} {hs g3 g4 g5 c3 c4 c5 : Nat} {cs bs : List Int} {t : Array Value} {df : List Deferred} {w' : World} (j : Nat) (hj : j ≤ bs.length) (hJ : PolyJ w fct x y ds hs g3 g4 g5 c3 c4 c5 cs bs j w') (ht : t = #[.slice (some ad) l0.length c0, undef, .slice none 0 0, .slice (some ⟨g3, 0, none⟩) (cs.length + 1) c3, .slice (some ⟨g4, 0, none⟩) bs.length c4, undef, .pointer (some ⟨hs, 0, none⟩), t.getD 7 undef, t.getD 8 undef, undef, undef, undef, undef, .int .i64 fct, .slice (some ⟨g5, 0, none⟩) (bs.length + 1) c5, t.getD 15 undef, t.getD 16 undef, v4, .slice (some ad) l0.length c0, .int .i64 (l0.length : Int), .int .i64 (i : Int), t.getD 21 undef, t.getD 22 undef, t.getD 23 undef, t.getD 24 undef, t.getD 25 undef, undef, undef, undef, undef, undef, undef, undef, undef, undef, t.getD 35 undef, t.getD 36 undef, undef, undef, undef, undef, undef, undef, undef, undef, undef, t.getD 46 undef, t.getD 47 undef, t.getD 48 undef, t.getD 49 undef, t.getD 50 undef, t.getD 51 undef, t.getD 52 undef, t.getD 53 undef, t.getD 54 undef, t.getD 55 undef, t.getD 56 undef, t.getD 57 undef, t.getD 58 undef, t.getD 59 undef, t.getD 60 undef, t.getD 61 undef, .slice (some ⟨g4, 0, none⟩) bs.length c4, .int .i64 (bs.length : Int), .int .i64 (j : Int), t.getD 65 undef, t.getD 66 undef, t.getD 67 undef, t.getD 68 undef, t.getD 69 undef, t.getD 70 undef, t.getD 71 undef, t.getD 72 undef, t.getD 73 undef, t.getD 74 undef, t.getD 75 undef, t.getD 76 undef, t.getD 77 undef, t.getD 78 undef, t.getD 79 undef, t.getD 80 undef, t.getD 81 undef, t.getD 82 undef, t.getD 83 undef, t.getD 84 undef, t.getD 85 undef, t.getD 86 undef, t.getD 87 undef, t.getD 88 undef, t.getD 89 undef, t.getD 90 undef, t.getD 91 undef, t.getD 92 undef, t.getD 93 undef, t.getD 94 undef, t.getD 95 undef, t.getD 96 undef, t.getD 97 undef, t.getD 98 undef, t.getD 99 undef, t.getD 100 undef, t.getD 101 undef, t.getD 102 undef, t.getD 103 undef, t.getD 104 undef, t.getD 105 undef, t.getD 106 undef, t.getD 107 undef, t.getD 108 undef, t.getD 109 undef, undef]) (hd : df = ds.map mkD) : PolyInv2 w ad c0 l0 v4 i fct x y ds hs g3 g4 g5 c3 c4 c5 cs bs { tmps := t, defers := df } w' := ⟨j, fun n => t.getD n undef, hj, hJ, congr (congrArg Act.mk ht) hd⟩
def PolyMu2 (n : Nat) (a' : Act) (_ : World) : Nat := n - (intOf (a'.tmps.getD 64 undef)).toNat
theorem PolyInv.of {w : World} {A0 : Option Addr} {c0 : Nat} {l0 : List S40} {v4 : Value} {t : Array Value} {df : List Deferred} {w' : World} (i : Nat) (v3_ v4_ : Value) (ds : List Nat) (hI : PolyI w l0 i v3_ v4_ ds w') (ht : t = #[.slice A0 l0.length c0, undef, .slice none 0 0, v3_, v4_, undef, t.getD 6 undef, t.getD 7 undef, t.getD 8 undef, undef, undef, undef, undef, t.getD 13 undef, t.getD 14 undef, t.getD 15 undef, t.getD 16 undef, v4, .slice A0 l0.length c0, .int .i64 (l0.length : Int), .int .i64 (i : Int), t.getD 21 undef, t.getD 22 undef, t.getD 23 undef, t.getD 24 undef, t.getD 25 undef, undef, undef, undef, undef, undef, undef, undef, undef, undef, t.getD 35 undef, t.getD 36 undef, undef, undef, undef, undef, undef, undef, undef, undef, undef, t.getD 46 undef, t.getD 47 undef, t.getD 48 undef, t.getD 49 undef, t.getD 50 undef, t.getD 51 undef, t.getD 52 undef, t.getD 53 undef, t.getD 54 undef, t.getD 55 undef, t.getD 56 undef, t.getD 57 undef, t.getD 58 undef, t.getD 59 undef, t.getD 60 undef, t.getD 61 undef, t.getD 62 undef, t.getD 63 undef, t.getD 64 undef, t.getD 65 undef, t.getD 66 undef, t.getD 67 undef, t.getD 68 undef, t.getD 69 undef, t.getD 70 undef, t.getD 71 undef, t.getD 72 undef, t.getD 73 undef, t.getD 74 undef, t.getD 75 undef, t.getD 76 undef, t.getD 77 undef, t.getD 78 undef, t.getD 79 undef, t.getD 80 undef, t.getD 81 undef, t.getD 82 undef, t.getD 83 undef, t.getD 84 undef, t.getD 85 undef, t.getD 86 undef, t.getD 87 undef, t.getD 88 undef, t.getD 89 undef, t.getD 90 undef, t.getD 91 undef, t.getD 92 undef, t.getD 93 undef, t.getD 94 undef, t.getD 95 undef, t.getD 96 undef, t.getD 97 undef, t.getD 98 undef, t.getD 99 undef, t.getD 100 undef, t.getD 101 undef, t.getD 102 undef, t.getD 103 undef, t.getD 104 undef, t.getD 105 undef, t.getD 106 undef, t.getD 107 undef, t.getD 108 undef, t.getD 109 undef, undef]) (hd : df = ds.map mkD) : PolyInv w A0 c0 l0 v4 { tmps := t, defers := df } w' := ⟨i, v3_, v4_, ds, fun n => t.getD n undef, hI, congr (congrArg Act.mk ht) hd⟩
def PolyMu (l0 : List S40) (a' : Act) (_ : World) : Nat := l0.length - (intOf (a'.tmps.getD 20 undef)).toNat
set_option maxHeartbeats 8000000 in
set_option maxRecDepth 100000 in
theorem impl_polyOf.calls (A0 : Option Addr) (c0 : Nat) (l0 : List S40) (r : List Int) (w : World) (hr0 : Kd.C k40 w A0 l0.length l0) (hc0 : l0.length ≤ c0) (h : impl_polyOf.f l0 = some r) :
    Calls Try.prog 60 #[.slice A0 l0.length c0] w fun e w' => ∃ v0_ : Value, e = .returned (v0_) ∧ Kd.R (Kd.int .i64) 3 w' w.heap.size (fun _ => True) v0_ r ∧ Below w.heap.size w w' := by
  unfold impl_polyOf.f at h
  by_cases hok : polyOK l0 = true
  case neg => rw [if_neg hok] at h; cases h
  rw [if_pos hok] at h
  obtain rfl := Option.some.inj h
  clear h
  obtain ⟨hl8, hpl⟩ := polyOK_places hok
  clear hok
  have HPL := Aside0.mk hpl
  clear hpl
  have HR0 := Aside0.mk hr0
  have HC0 := Aside0.mk hc0
  clear hr0 hc0
  have HB := Aside0.mk (Below.refl w.heap.size w)
  refine (callsIn_wide (n := 3)).1 ?_
  refine callsIn_of_wp_marks Try.func60 rfl trivial ?_ rfl
  simp only [Try.ntmps60, List.size_toArray, List.length_cons, List.length_nil, Nat.reduceAdd, Nat.reduceSub, Array.replicate_succ, Array.replicate_zero, List.push_toArray, List.append_toArray, List.nil_append, List.cons_append]
  refine wpIn_wide.2 ?_
  go_wp2_with (first | ((with_reducible refine gate_dst (N := 17) rfl ?_); refine Kd.R_lit (Kd.int .i64) _ 3 ?hg (N := 17) ?hd (xs := ([1] : List Int)) (inner := [.int .i64 1]) (ok := fun _ => True) (okp := fun _ => True) ?hr ?hp (fun _ hk => hk) trivial (Below.refl _ _) (Nat.le_refl _) (by simp) ?_; (case hd => rfl); (case hg => rfl); (case hr => first | (go_simp; done) | (go_simp; rfl)); (case hp => exact (Reps.one (show Kd.M (Kd.int .i64) _ _ _ 1 [.int .i64 1] from rfl) (Reps.none _ _))); intro v4 w1 ho4 hb hg_ hnew_; clear hg_ hnew_; have n0_ := Aside0.mk (Kd.R_lower ho4 (below_size (by repeat (first | (with_reducible first | exact HB.out | apply below_alloc | apply pw_below_drewN | apply below_drew1) | exact HB.out)))); have n1_ := Aside0.mk (below_step (by repeat (first | (with_reducible first | exact HB.out | apply below_alloc | apply pw_below_drewN | apply below_drew1) | exact HB.out)) hb); clear HB; have HO4 := n0_; have HB := n1_; clear n0_ n1_; clear hb ho4))
  refine wp_loop (PolyInv w A0 c0 l0 v4) (PolyMu l0) ?_ ?_
  · exact ⟨0, Value.slice none 0 0, v4, [], fun _ => undef, ⟨Nat.zero_le _, Kd.R_nil _ _ _ _ _, HO4.out, .inl rfl, List.nodup_nil, by simp, by simp [Marks], HB.out⟩, rfl⟩
  rintro _ wo ⟨i, v3, v4_, ds, u, HI, rfl⟩
  generalize hmu : PolyMu l0 _ wo = mu
  have HPLo := HPL.out
  by_cases hlt : i < l0.length
  · have c1 : decide ((i : Int) < (l0.length : Int)) = true := decide_eq_true (by omega)
    obtain ⟨f1, f2, f3, f4, f5, f6, f7, f8⟩ := stOf_facts HPL.out hlt
    clear HPLo
    obtain ⟨hi, r3, r4, hne, hnd, hge, hmk, hbl⟩ := HI
    obtain ⟨ad, rfl, hx0, hx1⟩ := at_T40 (Kd.C_below HR0.out hbl) (i : Int) (by omega) (by omega)
    rw [Int.toNat_natCast] at hx0 hx1
    have hstep := stOf_succ hlt
    obtain ⟨x, hx⟩ : ∃ x, (rd_T40 l0 (i : Int)).f0 = x := ⟨_, rfl⟩
    obtain ⟨y, hy⟩ : ∃ y, (rd_T40 l0 (i : Int)).f1 = y := ⟨_, rfl⟩
    rw [hx] at f5 f7 f8 hx0 hstep
    rw [hy] at f6 hx1 hstep
    clear hx hy
    obtain ⟨cs, hcs⟩ : ∃ cs, (stOf l0 i).1 = cs := ⟨_, rfl⟩
    obtain ⟨bs, hbs⟩ : ∃ bs, (stOf l0 i).2 = bs := ⟨_, rfl⟩
    rw [hcs] at f1 f3 f7 r3
    rw [hbs] at f2 f4 f8 r4
    have hst : stOf l0 i = (cs, bs) := by rw [← hcs, ← hbs]
    rw [hst] at hstep
    clear hcs hbs hst
    obtain ⟨A3, c3, rfl, hc3, hC3⟩ := Kd.R_reads r3
    obtain ⟨g4, c4, rfl, hb4, hl4, cells4, hcell4⟩ := Kd.R_form r4 (by omega)
    have hl3 : ∀ ad, A3 = some ad → 0 < cs.length → ad.block < wo.heap.size := by
      intro ad' e hpos
      obtain ⟨ad2, e2, hcell⟩ := Kd.at_int hC3 0 (by omega) (by omega)
      rw [e] at e2
      cases e2
      have := World.block_lt_of_cell? wo _ hcell
      rwa [add_block] at this
    have HF := Aside0.mk (And.intro f1 (And.intro f2 (And.intro f3 (And.intro f4 hstep))))
    have HN := Aside0.mk (And.intro f5 (And.intro f6 (And.intro f7 f8)))
    clear f1 f2 f3 f4 f5 f6 f7 f8 hstep
    have HG := Aside0.mk (And.intro hne (And.intro hnd (And.intro hge (And.intro hmk hbl))))
    clear hne hnd hge hmk hbl
    have HR3 := Aside0.mk (And.intro r3 (And.intro hc3 hC3))
    have HR4 := Aside0.mk (And.intro r4 (And.intro hb4 (And.intro hl4 hcell4)))
    clear r3 hc3 hC3 r4 hb4 hl4 hcell4
    have HL3 := Aside0.mk hl3
    clear hl3
    have HMU := Aside0.mk hmu
    clear hmu
    go_wp2_with (go_at_call 66; (with_reducible refine (backward_calls _ _ _ _).mono ?_); rintro e w' ⟨rfl, rfl⟩)
    obtain ⟨b0, b1, b2, b3, hsz⟩ := blk4 wo (Obj.cells #[Value.int .i64 x, Value.int .i64 y] 40) (Obj.cells #[Value.int .i64 0] 3) (Obj.cells #[Value.int .i64 0] 3) (Obj.cells #[Value.slice A3 cs.length c3] 23)
    have hB0 : Below wo.heap.size wo ((((wo.alloc (Obj.cells #[Value.int .i64 x, Value.int .i64 y] 40)).alloc (Obj.cells #[Value.int .i64 0] 3)).alloc (Obj.cells #[Value.int .i64 0] 3)).alloc (Obj.cells #[Value.slice A3 cs.length c3] 23)) :=
      ((((Below.refl _ _).alloc (Nat.le_refl _) _).alloc (by simp) _).alloc (by simp; omega) _).alloc (by simp; omega) _
    obtain ⟨W0, hW0⟩ : ∃ W0, ((((wo.alloc (Obj.cells #[Value.int .i64 x, Value.int .i64 y] 40)).alloc (Obj.cells #[Value.int .i64 0] 3)).alloc (Obj.cells #[Value.int .i64 0] 3)).alloc (Obj.cells #[Value.slice A3 cs.length c3] 23)) = W0 := ⟨_, rfl⟩
    rw [hW0] at b0 b1 b2 b3 hsz hB0 ⊢
    clear hW0
    have hdown := hornP_down cs x cs.length (Nat.le_refl _)
    rw [Nat.sub_self, List.drop_zero] at hdown
    have HDOWN := Aside0.mk hdown
    clear hdown
    refine (wpIn_wide (n := 3)).1 ?_
    refine wpIn_rangeFunc_ownG rfl (by omega) (gf := 82) (lb := #[.pointer (some ⟨wo.heap.size + 1 + 1 + 1, 0, none⟩)]) rfl trivial (enters_of Try.func82 (by kernel_rfl) rfl)
      (backward_stops Fence.wide (3 - 1) trivial rfl (by omega) (wo.heap.size + 1 + 1 + 1) (wo.heap.size + 1) A3 c3 cs (by have := HF.out.1; omega) W0 (by omega) (by omega) (by rw [blk_cell b3]; rfl) (Kd.C_below HR3.out.2.2 hB0) (fun a' e hp => by have := HL3.out a' e hp; omega)) KpB.t KpB.b (Below.refl _ _) (fun _ => rfl)
      (fun pre W => (W.cell? ⟨wo.heap.size + 1, 0, none⟩ = some (.int .i64 (pre.foldl (fun v p => Int.tmod (wrap64 (wrap64 (v * x) + p.2)) 251) 0)) ∧ W.frozen? ⟨wo.heap.size + 1, 0, none⟩ = false ∧ W.cell? ⟨wo.heap.size + 1 + 1, 0, none⟩ = some (.int .i64 0) ∧ W.frozen? ⟨wo.heap.size + 1 + 1, 0, none⟩ = false) ∧ (Below (wo.heap.size + 1) W0 W ∧ KeepBut W0 W (wo.heap.size + 1) none))
      (fun _ _ _ => False)
      (OwnFrom.and (Own.from (fun s A B row hs hg hr => ⟨cell_kept hs.1 hg hr, (frozen_kept hs.1 hg hr).trans hs.2.1, cell_kept hs.2.2.1 hg hr, (frozen_kept hs.2.2.1 hg hr).trans hs.2.2.2⟩) _) (OwnFrom.and (ownFrom_below (by omega) (by omega)) (ownFrom_keepBut (Nat.le_refl _))))
      (fun _ _ _ _ _ hs _ _ => hs)
      ⟨⟨by rw [blk_cell b1]; rfl, blk_frozen b1 0, by rw [blk_cell b2]; rfl, blk_frozen b2 0⟩, Below.refl _ _, KeepBut.refl _ _ _⟩
      (fun p => { tmps := #[.slice (some ad) l0.length c0, undef, .slice none 0 0, .slice A3 cs.length c3, .slice (some ⟨g4, 0, none⟩) bs.length c4, undef, .pointer (some ⟨wo.heap.size, 0, none⟩), .pointer (some ⟨wo.heap.size + 1, 0, none⟩), .pointer (some ⟨wo.heap.size + 1 + 1, 0, none⟩), undef, .int .i64 p.2, undef, undef, u 13, u 14, u 15, u 16, v4, .slice (some ad) l0.length c0, .int .i64 (l0.length : Int), .int .i64 (i : Int), .bool true, .pointer (some (ad.add (i * 2))), .agg #[.int .i64 x, .int .i64 y], .slice A3 cs.length c3, .func (.func 82) #[] #[.pointer (some ⟨wo.heap.size + 1 + 1 + 1, 0, none⟩)], .int .i64 p.1, .int .i64 p.2, undef, undef, undef, undef, undef, undef, undef, u 35, u 36, undef, undef, undef, undef, undef, undef, undef, undef, undef, u 46, u 47, u 48, u 49, u 50, u 51, u 52, u 53, u 54, u 55, u 56, u 57, u 58, u 59, u 60, u 61, u 62, u 63, u 64, u 65, u 66, u 67, u 68, u 69, u 70, u 71, u 72, u 73, u 74, u 75, u 76, u 77, u 78, u 79, u 80, u 81, u 82, u 83, u 84, u 85, u 86, u 87, u 88, u 89, u 90, u 91, u 92, u 93, u 94, u 95, u 96, u 97, u 98, u 99, u 100, u 101, u 102, u 103, u 104, u 105, u 106, u 107, u 108, u 109, undef], defers := [] }) ?assign ?body ?done ?stop
    case assign =>
      intro l p W K hK
      gi_wp2
      exact hK
    case stop =>
      rintro D c pre W _ _ h _
      exact h.elim
    case body =>
      rintro l pre p W ⟨⟨hc, hf, hc2, hf2⟩, hB, hK0⟩ _
      have hxc : W.cell? ⟨wo.heap.size, 0, none⟩ = some (.int .i64 x) := (hB.cell (p := ⟨wo.heap.size, 0, none⟩) (by simp)).trans (by rw [blk_cell b0]; rfl)
      gi_wp2
      refine ⟨(KeepsOthers.setCell _ _ _).from _, fun a v ha hv => (World.cell?_of_block (Below.heap_setCell W _ _ a.block ha)).trans hv, ⟨?_, by rw [World.frozen?_setCell]; exact hf, (World.cell?_of_block (Below.heap_setCell W _ _ (wo.heap.size + 1 + 1) (by simp))).trans hc2, by rw [World.frozen?_setCell]; exact hf2⟩, hB.setCell (p := ⟨wo.heap.size + 1, 0, none⟩) (by simp) _, hK0.set_ _ _⟩
      rw [List.foldl_append]
      exact World.cell?_setCell_same' _ _ _ (by rw [hc]; rfl)
    case done =>
      rintro D ys W hD rfl ⟨⟨hc, hf, hc2, hf2⟩, hB, hK0⟩ hK
      rw [HDOWN.out] at hc
      have HK0 := Aside0.mk hK0
      have HK := Aside0.mk hK
      clear hK hK0
      go_wp2_with (go_at_call 66; (with_reducible refine (backward_calls _ _ _ _).mono ?_); rintro e w' ⟨rfl, rfl⟩)
      have hszW := HK0.out.1
      have bz := blk_new W (Obj.cells #[Value.slice (some ⟨g4, 0, none⟩) bs.length c4] 23)
      have hs2 : (W.alloc (Obj.cells #[Value.slice (some ⟨g4, 0, none⟩) bs.length c4] 23)).heap.size = W.heap.size + 1 := by simp
      have hBz : Below W.heap.size W (W.alloc (Obj.cells #[Value.slice (some ⟨g4, 0, none⟩) bs.length c4] 23)) := (Below.refl _ _).alloc (Nat.le_refl _) _
      have hc2' : (W.alloc (Obj.cells #[Value.slice (some ⟨g4, 0, none⟩) bs.length c4] 23)).cell? ⟨wo.heap.size + 1 + 1, 0, none⟩ = some (.int .i64 0) := pw_cell_below hBz hc2
      have hf2' : (W.alloc (Obj.cells #[Value.slice (some ⟨g4, 0, none⟩) bs.length c4] 23)).frozen? ⟨wo.heap.size + 1 + 1, 0, none⟩ = false := (hBz.frozen (p := ⟨wo.heap.size + 1 + 1, 0, none⟩) (by simp only; omega)).trans hf2
      have hBw : Below wo.heap.size wo (W.alloc (Obj.cells #[Value.slice (some ⟨g4, 0, none⟩) bs.length c4] 23)) := below_then (hB0.trans (hB.mono (by omega))) (by omega) hBz
      obtain ⟨W2, hW2⟩ : ∃ W2, W.alloc (Obj.cells #[Value.slice (some ⟨g4, 0, none⟩) bs.length c4] 23) = W2 := ⟨_, rfl⟩
      rw [hW2] at bz hs2 hc2' hf2' hBz hBw ⊢
      clear hW2
      have hdown2 := hornP_down bs x bs.length (Nat.le_refl _)
      rw [Nat.sub_self, List.drop_zero] at hdown2
      have HDOWN2 := Aside0.mk hdown2
      clear hdown2
      refine (wpIn_wide (n := 3)).1 ?_
      refine wpIn_rangeFunc_ownG rfl (by omega) (gf := 82) (lb := #[.pointer (some ⟨W.heap.size, 0, none⟩)]) rfl trivial (enters_of Try.func82 (by kernel_rfl) rfl)
        (backward_stops Fence.wide (3 - 1) trivial rfl (by omega) W.heap.size (wo.heap.size + 1 + 1) (some ⟨g4, 0, none⟩) c4 bs (by have := HF.out.2.1; omega) W2 (by omega) (by omega) (by rw [blk_cell bz]; rfl) (Kd.C_below (Kd.R_reads' HR4.out.1).2.2 hBw) (fun a' e hp => by cases e; have := HR4.out.2.2.1; simp only; omega)) KpB.t KpB.b (Below.refl _ _) (fun _ => rfl)
        (fun pre X => (X.cell? ⟨wo.heap.size + 1 + 1, 0, none⟩ = some (.int .i64 (pre.foldl (fun v p => Int.tmod (wrap64 (wrap64 (v * x) + p.2)) 251) 0)) ∧ X.frozen? ⟨wo.heap.size + 1 + 1, 0, none⟩ = false) ∧ (Below (wo.heap.size + 1 + 1) W2 X ∧ KeepBut W2 X (wo.heap.size + 1 + 1) none))
        (fun _ _ _ => False)
        (OwnFrom.and (Own.from (fun s A B row hs hg hr => ⟨cell_kept hs.1 hg hr, (frozen_kept hs.1 hg hr).trans hs.2⟩) _) (OwnFrom.and (ownFrom_below (by omega) (by omega)) (ownFrom_keepBut (Nat.le_refl _))))
        (fun _ _ _ _ _ hs _ _ => hs)
        ⟨⟨hc2', hf2'⟩, Below.refl _ _, KeepBut.refl _ _ _⟩
        (fun p => { tmps := #[.slice (some ad) l0.length c0, undef, .slice none 0 0, .slice A3 cs.length c3, .slice (some ⟨g4, 0, none⟩) bs.length c4, undef, .pointer (some ⟨wo.heap.size, 0, none⟩), .pointer (some ⟨wo.heap.size + 1, 0, none⟩), .pointer (some ⟨wo.heap.size + 1 + 1, 0, none⟩), undef, undef, undef, .int .i64 p.2, u 13, u 14, u 15, u 16, v4, .slice (some ad) l0.length c0, .int .i64 (l0.length : Int), .int .i64 (i : Int), .bool true, .pointer (some (ad.add (i * 2))), .agg #[.int .i64 x, .int .i64 y], .slice A3 cs.length c3, .func (.func 82) #[] #[.pointer (some ⟨wo.heap.size + 1 + 1 + 1, 0, none⟩)], undef, undef, undef, undef, undef, undef, undef, undef, undef, .slice (some ⟨g4, 0, none⟩) bs.length c4, .func (.func 82) #[] #[.pointer (some ⟨W.heap.size, 0, none⟩)], .int .i64 p.1, .int .i64 p.2, undef, undef, undef, undef, undef, undef, undef, u 46, u 47, u 48, u 49, u 50, u 51, u 52, u 53, u 54, u 55, u 56, u 57, u 58, u 59, u 60, u 61, u 62, u 63, u 64, u 65, u 66, u 67, u 68, u 69, u 70, u 71, u 72, u 73, u 74, u 75, u 76, u 77, u 78, u 79, u 80, u 81, u 82, u 83, u 84, u 85, u 86, u 87, u 88, u 89, u 90, u 91, u 92, u 93, u 94, u 95, u 96, u 97, u 98, u 99, u 100, u 101, u 102, u 103, u 104, u 105, u 106, u 107, u 108, u 109, undef], defers := [] }) ?assign2 ?body2 ?done2 ?stop2
      case assign2 =>
        intro l p X K hK
        gi_wp2
        exact hK
      case stop2 =>
        rintro D c pre X _ _ h _
        exact h.elim
      case body2 =>
        rintro l pre p X ⟨⟨hcX, hfX⟩, hBX, hKX⟩ _
        have hxc : X.cell? ⟨wo.heap.size, 0, none⟩ = some (.int .i64 x) := (hBX.cell (p := ⟨wo.heap.size, 0, none⟩) (by simp; omega)).trans ((hBz.cell (p := ⟨wo.heap.size, 0, none⟩) (by simp; omega)).trans ((hB.cell (p := ⟨wo.heap.size, 0, none⟩) (by simp)).trans (by rw [blk_cell b0]; rfl)))
        gi_wp2
        refine ⟨(KeepsOthers.setCell _ _ _).from _, fun a v ha hv => (World.cell?_of_block (Below.heap_setCell X _ _ a.block ha)).trans hv, ⟨?_, by rw [World.frozen?_setCell]; exact hfX⟩, hBX.setCell (p := ⟨wo.heap.size + 1 + 1, 0, none⟩) (by simp) _, hKX.set_ _ _⟩
        rw [List.foldl_append]
        exact World.cell?_setCell_same' _ _ _ (by rw [hcX]; rfl)
      case done2 =>
        rintro D2 ys X hD2 rfl ⟨⟨hcX, hfX⟩, hBX, hKX⟩ hKD
        rw [HDOWN2.out] at hcX
        obtain ⟨f5, f6, f7, f8⟩ := HN.out
        obtain ⟨f1, f2, f3, f4, hstep⟩ := HF.out
        obtain ⟨hne, hnd, hge, hmk, hbl⟩ := HG.out
        have hDlt : D < W.heap.size := (Array.getElem?_eq_some_iff.1 HK.out).1
        have hBwX : Below wo.heap.size wo X := hBw.trans (hBX.mono (by omega))
        have hbX : Below w.heap.size w X := below_step hbl hBwX
        have hszX := hKX.1
        have k0 : X.heap[wo.heap.size]? = some (.cells #[.int .i64 x, .int .i64 y] 40) := (hKX.2 _ (by omega) (by omega) (by simp)).trans ((hBz.block _ (by omega)).trans ((HK0.out.2 _ (by omega) (by omega) (by simp)).trans b0))
        have hcy : X.cell? ⟨wo.heap.size, 1, none⟩ = some (.int .i64 y) := by rw [blk_cell k0]; rfl
        have hca : X.cell? ⟨wo.heap.size + 1, 0, none⟩ = some (.int .i64 (hornP cs x)) := (World.cell?_of_block (hKX.2 (wo.heap.size + 1) (by omega) (by omega) (by simp))).trans (pw_cell_below hBz hc)
        have hmX : Marks (D2 :: D :: ds) X := by
          intro E hE
          rcases List.mem_cons.1 hE with rfl | hE
          · exact hKD
          · rcases List.mem_cons.1 hE with rfl | hE
            · exact (hKX.2 E (by omega) (by omega) (by simp)).trans ((hBz.block E hDlt).trans HK.out)
            · exact (hmk.below hBwX) E hE
        have hdlt : ∀ E ∈ ds, E < wo.heap.size := fun E hE => (Array.getElem?_eq_some_iff.1 (hmk E hE)).1
        have hndX : (D2 :: D :: ds).Nodup := List.nodup_cons.2 ⟨fun h => (List.mem_cons.1 h).elim (fun h => by omega) (fun h => by have := hdlt _ h; omega), List.nodup_cons.2 ⟨fun h => by have := hdlt _ h; omega, hnd⟩⟩
        have hwsz := hbl.size
        have hgeX : ∀ E ∈ D2 :: D :: ds, w.heap.size ≤ E := by
          intro E hE
          rcases List.mem_cons.1 hE with rfl | hE
          · omega
          · rcases List.mem_cons.1 hE with rfl | hE
            · omega
            · exact hge E hE
        have r3X : Kd.R (Kd.int .i64) 3 X w.heap.size (fun k => k ≠ g4) (.slice A3 cs.length c3) cs := Kd.R_of_own_ne (Kd.R_below HR3.out.1 hBwX) (hne.elim .inl (fun h => .inr h))
        have r4X : Kd.R (Kd.int .i64) 3 X w.heap.size (fun k => k = g4) (.slice (some ⟨g4, 0, none⟩) bs.length c4) bs := Kd.R_of_own (h1 := fun _ => rfl) (Kd.own_of_R (Kd.R_below HR4.out.1 hBwX)) (fun k hk => by simp [Value.ownBlock] at hk; exact hk.symm)
        have hg4X : X.heap[g4]? = some (Obj.cells cells4 3) := (hBwX.block g4 HR4.out.2.2.1).trans HR4.out.2.2.2
        rw [hornP_eq f5 cs f3] at hca
        rw [hornP_eq f5 bs f4] at hcX
        obtain ⟨a, ha⟩ : ∃ a, hornM cs x = a := ⟨_, rfl⟩
        obtain ⟨b, hb⟩ : ∃ b, hornM bs x = b := ⟨_, rfl⟩
        rw [ha] at f7 hca
        rw [hb] at f8 hcX
        obtain ⟨fct, hfct⟩ : ∃ fct, (y - a + 251) * invM b % 251 = fct := ⟨_, rfl⟩
        have hfr : 0 ≤ fct ∧ fct < 251 := by rw [← hfct]; exact emod_rest _
        have hin := invM_range b
        have hp0 : 0 ≤ (y - a + 251) * invM b := Int.mul_nonneg (by omega) hin.1
        have hp1 : (y - a + 251) * invM b ≤ 501 * 250 := Int.mul_le_mul (by omega) (by omega) hin.1 (by omega)
        have hnew : stOf l0 (i + 1) = innM fct (251 - x) bs (cs ++ [0]) (List.replicate (bs.length + 1) 0) bs.length := by rw [hstep]; simp only [newtS, ha, hb, hfct]
        have hw1 : IntKind.i64.wrap (y - a) = y - a := by rw [IntKind.wrap_i64]; omega
        have hw2 : IntKind.i64.wrap (y - a + 251) = y - a + 251 := by rw [IntKind.wrap_i64]; omega
        have hw3 : IntKind.i64.wrap ((y - a + 251) * invM b) = (y - a + 251) * invM b := by rw [IntKind.wrap_i64]; omega
        have hw4 : ((y - a + 251) * invM b).tmod 251 = fct := by rw [Int.tmod_eq_emod_of_nonneg hp0]; exact hfct
        have KX := Aside0.mk k0
        have HS := Aside0.mk (And.intro hmX (And.intro hndX (And.intro hgeX (And.intro hbX (And.intro r3X (And.intro r4X hg4X))))))
        have HQ := Aside0.mk (And.intro hnew (And.intro f1 (And.intro f2 (And.intro f3 f4))))
        have hwX : wo.heap.size ≤ X.heap.size := by omega
        clear hmX hndX hgeX hbX r3X r4X hg4X hnew f1 f2 f3 f4 hstep hne hnd hge hmk hbl hdlt k0 hfct ha hb hin hp0 hp1 hBwX hKX hKD hBX hfX hszX hDlt hwsz hf2 hc2 hf hc hsz hszW hs2 hc2' hf2' bz b0 b1 b2 b3 hBz hBw HN HF HG HR3 HL3 HK0 HK HDOWN HDOWN2 hx0 hx1
        go_wp2
        go_quiet ((go_at_call 79; exact Calls.quiet_of (inv_quiet f8.1 f8.2 _)))
        clear hw1 hw2 hw3 hw4 hcy hca hcX f6 f7 f8 hwX
        obtain ⟨m1, m2, m3, m4, m5, m6, m7⟩ := HS.out
        clear HS
        replace m1 : Marks (D2 :: D :: ds) (X.drewN nq) := m1
        replace m4 := pw_below_drewN m4 nq
        replace m5 := Kd.R_drewN m5 nq
        replace m6 := Kd.R_drewN m6 nq
        replace m7 : (X.drewN nq).heap[g4]? = some (Obj.cells cells4 3) := m7
        have k4 : (X.drewN nq).heap[wo.heap.size]? = some (.cells #[.int .i64 x, .int .i64 y] 40) := KX.out
        clear KX
        obtain ⟨X4, hX4⟩ : ∃ X4, X.drewN nq = X4 := ⟨_, rfl⟩
        rw [hX4] at m1 m4 m5 m6 m7 k4 ⊢
        clear hX4
        have hg4lt : g4 < X4.heap.size := blk_lt m7
        have hwX4 := m4.size
        obtain ⟨q0, q1, q2, q3, q4⟩ := HQ.out
        have hcl : cs.length ≤ 8 := by omega
        have hbl : bs.length ≤ 9 := by omega
        have hcb : cs.length + 1 = bs.length := by omega
        clear HQ
        have HQ := Aside0.mk (And.intro q0 (And.intro q1 (And.intro q2 (And.intro q3 (And.intro q4 hcb)))))
        clear q0 q1 q2 q3 q4 hcb
        have hslt : wo.heap.size < X4.heap.size := blk_lt k4
        have KX := Aside0.mk k4
        clear k4
        have M1 := Aside0.mk m1
        have M23 := Aside0.mk (And.intro m2 m3)
        have M4 := Aside0.mk m4
        have M5 := Aside0.mk m5
        have M6 := Aside0.mk m6
        have M7 := Aside0.mk m7
        clear m1 m2 m3 m4 m5 m6 m7
        go_wp2_with (first | ((with_reducible refine gate_builtin (b := .append) (xs := #[.tmp 55, .tmp 56]) rfl ?_); at_builtin; refine Kd.R_append (Kd.int .i64) (w0 := w) w.heap.size rfl (.tmp 55) (.tmp 56) 23 3 (.int .i64 0) 8 rfl Try.underlying23 info3 rfl (by decide) (by omega) (.slice A3 cs.length c3) cs 0 [.int .i64 0] (fun k => k ≠ g4) (fun _ => False) rfl rfl ?aP (fun _ hk => hk.elim) ?aF ?aO ?aB ?aS ?aL ?_; (case aP => exact rfl); (case aF => exact fun k hk => by omega); (case aO => exact M5.out); (case aB => exact M4.out); (case aS => exact hwX4); (case aL => omega); intro v3n X5 ho5 hb5 hg5 hat5; clear hat5; have n1_ := Aside0.mk (Marks.grown M1.out hg5 (fun k hk => by obtain ⟨inner, ho⟩ := Kd.R_own M5.out; obtain ⟨cells, hc⟩ := own_typed ho k hk; exact ⟨cells, _, hc⟩)); have n7_ := Aside0.mk ((hg5.block g4 hg4lt (fun e => M5.out.1 g4 e.symm rfl)).trans M7.out); have n6_ := Aside0.mk (Kd.R_grown M6.out hg5 (fun k hk e => M5.out.1 k e.symm hk)); have nk_ := Aside0.mk ((hg5.block wo.heap.size hslt (Kd.R_ne M5.out KX.out (by decide))).trans KX.out); clear KX; have KX := nk_; clear nk_; have hs5 := hg5.size; clear hg5 M1 M4 M5 M6 M7; (obtain ⟨g3, c3n, rfl, hb3, hl3, cells3, hcell3⟩ := Kd.R_form ho5 (by simp)); have M1 := n1_; have M4 := Aside0.mk hb5; have M5 := Aside0.mk ho5; have M6 := n6_; have M7 := n7_; have M8 := Aside0.mk hcell3; have HB3 := Aside0.mk hb3; clear n1_ n6_ n7_ hb5 ho5 hcell3 hb3) | ((with_reducible refine gate_dst (N := 61) rfl ?_); refine Kd.R_make (Kd.int .i64) _ 3 rfl (N := 61) rfl 23 _ _ rfl ((bs.length : Int) + 1) rfl rfl Try.underlying23 (.int .i64 0) 8 info3 rfl (by decide) (by omega) 0 (ok := fun _ => True) (okp := fun _ => True) rfl (fun _ hk => hk) trivial (by omega) (by omega) (Below.refl _ _) (Nat.le_refl _) ?_; intro v14 X6 ho6 hb6 hg6 hnew6; clear hg6 hnew6; (rw [show ((bs.length : Int) + 1).toNat = bs.length + 1 from by omega] at ho6); (obtain ⟨g5, c5, rfl, hb5, hl5, cells5, hcell5⟩ := Kd.R_form ho6 (by simp)); have n1_ := Aside0.mk (Marks.below M1.out hb6); have n4_ := Aside0.mk (below_step M4.out hb6); have n5_ := Aside0.mk (Kd.R_below M5.out hb6); have n6_ := Aside0.mk (Kd.R_below M6.out hb6); have n7_ := Aside0.mk ((hb6.block g4 (by omega)).trans M7.out); have n8_ := Aside0.mk ((hb6.block g3 (by omega)).trans M8.out); have nk_ := Aside0.mk ((hb6.block wo.heap.size (by omega)).trans KX.out); clear KX; have KX := nk_; clear nk_; have hs6 := hb6.size; clear M1 M4 M5 M6 M7 M8 hb6; have M1 := n1_; have M4 := n4_; have M5 := n5_; have M6 := n6_; have M7 := n7_; have M8 := n8_; have M9 := Aside0.mk ho6; have M10 := Aside0.mk hcell5; clear n1_ n4_ n5_ n6_ n7_ n8_ ho6 hcell5))
        have hn43 : g3 ≠ g4 := M5.out.1 g3 rfl
        have hn53 : g5 ≠ g3 := by omega
        have hn54 : g5 ≠ g4 := by omega
        have hn3 : wo.heap.size ≠ g3 := fun e => Kd.R_ne M5.out KX.out (by decide) (by rw [e]; rfl)
        have hn4 : wo.heap.size ≠ g4 := fun e => Kd.R_ne M6.out KX.out (by decide) (by rw [e]; rfl)
        have hn5 : wo.heap.size ≠ g5 := fun e => Kd.R_ne M9.out KX.out (by decide) (by rw [e]; rfl)
        have HJ : PolyJ w fct x y (D2 :: D :: ds) wo.heap.size g3 g4 g5 c3n c4 c5 cs bs 0 X6 := by
          obtain ⟨q0, q1, q2, q3, q4, hcb⟩ := HQ.out
          refine ⟨M1.out, M4.out, ?_, M6.out, ?_, KX.out⟩
          · have := Kd.R_of_own (h1 := fun _ => rfl) (ok := fun k => k = g3) (Kd.own_of_R M5.out) (fun k hk => by simp [Value.ownBlock] at hk; exact hk.symm)
            rw [List.length_append] at this
            exact this
          · have := Kd.R_lower (base' := w.heap.size) (Kd.R_of_own (h1 := fun _ => rfl) (ok := fun k => k = g5) (Kd.own_of_R M9.out) (fun k hk => by simp [Value.ownBlock] at hk; exact hk.symm)) (by omega)
            rw [List.length_replicate] at this
            exact this
        clear M1 M4 M5 M6 M7 M8 M9 M10 KX HB3 hs5 hs6 hl3 hb5 hl5 hg4lt hslt
        have HJ0 := Aside0.mk HJ
        clear HJ
        refine wp_loop (PolyInv2 w ad c0 l0 v4 i fct x y (D2 :: D :: ds) wo.heap.size g3 g4 g5 c3n c4 c5 cs bs) (PolyMu2 bs.length) ?_ ?_
        · exact ⟨0, fun n => #[.slice (some ad) l0.length c0, undef, .slice none 0 0, .slice (some ⟨g3, 0, none⟩) (cs.length + 1) c3n, .slice (some ⟨g4, 0, none⟩) bs.length c4, undef, .pointer (some ⟨wo.heap.size, 0, none⟩), .pointer (some ⟨wo.heap.size + 1, 0, none⟩), .pointer (some ⟨wo.heap.size + 1 + 1, 0, none⟩), undef, undef, undef, undef, .int .i64 fct, .slice (some ⟨g5, 0, none⟩) (bs.length + 1) c5, u 15, u 16, v4, .slice (some ad) l0.length c0, .int .i64 (l0.length : Int), .int .i64 (i : Int), .bool true, .pointer (some (ad.add (i * 2))), .agg #[.int .i64 x, .int .i64 y], .slice A3 cs.length c3, .func (.func 82) #[] #[.pointer (some ⟨wo.heap.size + 1 + 1 + 1, 0, none⟩)], undef, undef, undef, undef, undef, undef, undef, undef, undef, .slice (some ⟨g4, 0, none⟩) bs.length c4, .func (.func 82) #[] #[.pointer (some ⟨W.heap.size, 0, none⟩)], undef, undef, undef, undef, undef, undef, undef, undef, undef, .pointer (some ⟨wo.heap.size, 1, none⟩), .int .i64 y, .int .i64 a, .int .i64 (y - a), .int .i64 (y - a + 251), .int .i64 b, .int .i64 (invM b), .int .i64 ((y - a + 251) * invM b), .int .i64 fct, .slice A3 cs.length c3, .slice (some ⟨X4.heap.size, 0, none⟩) 1 1, .slice (some ⟨g3, 0, none⟩) (cs.length + 1) c3n, .slice (some ⟨g4, 0, none⟩) bs.length c4, .int .i64 (bs.length : Int), .int .i64 ((bs.length : Int) + 1), .slice (some ⟨g5, 0, none⟩) (bs.length + 1) c5, .slice (some ⟨g4, 0, none⟩) bs.length c4, .int .i64 (bs.length : Int), .int .i64 0, u 65, u 66, u 67, u 68, u 69, u 70, u 71, u 72, u 73, u 74, u 75, u 76, u 77, u 78, u 79, u 80, u 81, u 82, u 83, u 84, u 85, u 86, u 87, u 88, u 89, u 90, u 91, u 92, u 93, u 94, u 95, u 96, u 97, u 98, u 99, u 100, u 101, u 102, u 103, u 104, u 105, u 106, u 107, u 108, u 109, undef].getD n undef, by omega, HJ0.out, rfl⟩
        clear HJ0
        rintro _ wr ⟨j, u2, hj, HJ, rfl⟩
        generalize hmu2 : PolyMu2 bs.length _ wr = mu2
        have HMU2 := Aside0.mk hmu2
        clear hmu2
        have HJ' := Aside0.mk HJ
        by_cases hjl : j < bs.length
        · have cj : decide ((j : Int) < (bs.length : Int)) = true := decide_eq_true (by omega)
          have hx4 : wr.cell? ⟨g4, j, none⟩ = some (.int .i64 (rd bs (j : Int))) := row_cell HJ.m6 hjl
          obtain ⟨q0, q1, q2, q3, q4, hcb⟩ := HQ.out
          have hl := innM_length fct (251 - x) bs (cs ++ [0]) (List.replicate (bs.length + 1) 0) j
          have hl1 : (innM fct (251 - x) bs (cs ++ [0]) (List.replicate (bs.length + 1) 0) j).1.length = bs.length := by rw [hl.1, List.length_append]; simp; omega
          have hl2 : (innM fct (251 - x) bs (cs ++ [0]) (List.replicate (bs.length + 1) 0) j).2.length = bs.length + 1 := by rw [hl.2, List.length_replicate]
          have e3 := innM_cs fct (251 - x) bs (cs ++ [0]) (List.replicate (bs.length + 1) 0) (by rw [List.length_append]; simp; omega) j (by omega) j hjl
          have e5 := innM_nx fct (251 - x) bs (cs ++ [0]) q4 j (by omega) j (by omega)
          have e6 := innM_nx fct (251 - x) bs (cs ++ [0]) q4 j (by omega) (j + 1) (by omega)
          rw [if_neg (by omega)] at e3
          rw [if_neg (by omega), if_pos rfl] at e5
          rw [if_neg (by omega), if_neg (by omega)] at e6
          have b3 : 0 ≤ rd (cs ++ [0]) (j : Int) ∧ rd (cs ++ [0]) (j : Int) < 251 := (q3.pad 1) _ (rd_mem (by rw [List.length_append]; simp; omega))
          have b5 : 0 ≤ rd (0 :: bs) (j : Int) ∧ rd (0 :: bs) (j : Int) < 251 := by
            rcases List.mem_cons.1 (rd_mem (xs := 0 :: bs) (i := j) (by simp; omega)) with h | h
            · rw [h]; omega
            · exact q4 _ h
          have b4 := q4 _ (rd_mem hjl)
          have hinn : innM fct (251 - x) bs (cs ++ [0]) (List.replicate (bs.length + 1) 0) (j + 1) = (((innM fct (251 - x) bs (cs ++ [0]) (List.replicate (bs.length + 1) 0) j).1.set j ((rd (cs ++ [0]) (j : Int) + fct * rd bs (j : Int)) % 251)), (((innM fct (251 - x) bs (cs ++ [0]) (List.replicate (bs.length + 1) 0) j).2.set (j + 1) ((0 + rd bs (j : Int)) % 251)).set j ((rd (0 :: bs) (j : Int) + (251 - x) * rd bs (j : Int)) % 251))) := by
            simp only [innM]
            rw [rd_set_ne (by omega), e3, e5, e6]
          have hx3 : wr.cell? ⟨g3, j, none⟩ = some (.int .i64 (rd (cs ++ [0]) (j : Int))) := by rw [← e3]; exact row_cell HJ.m5 (by omega)
          have hx5 : wr.cell? ⟨g5, j, none⟩ = some (.int .i64 (rd (0 :: bs) (j : Int))) := by rw [← e5]; exact row_cell HJ.m9 (by omega)
          have hx6 : wr.cell? ⟨g5, j + 1, none⟩ = some (.int .i64 0) := by rw [← e6]; exact row_cell HJ.m9 (by omega)
          have hxs : wr.cell? ⟨wo.heap.size, 0, none⟩ = some (.int .i64 x) := by rw [blk_cell HJ.ks]; rfl
          have hf3 := row_frozen HJ.m5 j
          have hf5 := row_frozen HJ.m9 j
          have hf6 := row_frozen HJ.m9 (j + 1)
          obtain ⟨p3, hp3⟩ : ∃ p, rd (cs ++ [0]) (j : Int) = p := ⟨_, rfl⟩
          obtain ⟨p4, hp4⟩ : ∃ p, rd bs (j : Int) = p := ⟨_, rfl⟩
          obtain ⟨p5, hp5⟩ : ∃ p, rd (0 :: bs) (j : Int) = p := ⟨_, rfl⟩
          rw [hp3] at b3 hinn hx3
          rw [hp4] at b4 hinn hx4
          rw [hp5] at b5 hinn hx5
          have cj3 : (j : Int) < (cs.length : Int) + 1 := by omega
          have cj5 : (j : Int) < (bs.length : Int) + 1 := by omega
          have cj6 : (j : Int) + 1 < (bs.length : Int) + 1 := by omega
          have cj7 : ((j : Int) + 1).toNat = j + 1 := by omega
          rw [Int.zero_add] at hinn
          clear hp3 hp4 hp5 e3 e5 e6 q0 q1 q2 q3 q4 hcb
          have n1 : 0 ≤ fct * p4 := Int.mul_nonneg (by omega) (by omega)
          have n2 : fct * p4 ≤ 250 * 250 := Int.mul_le_mul (by omega) (by omega) (by omega) (by omega)
          have n3 : 0 ≤ (251 - x) * p4 := Int.mul_nonneg (by omega) (by omega)
          have n4 : (251 - x) * p4 ≤ 251 * 250 := Int.mul_le_mul (by omega) (by omega) (by omega) (by omega)
          have s6 : ∀ v : Value, (wr.setCell ⟨g3, j, none⟩ v).cell? ⟨g5, j + 1, none⟩ = some (.int .i64 0) := fun v => (World.cell?_setCell_other _ _ _ _ (fun e => hn53 (congrArg Addr.block e).symm)).trans hx6
          have s5 : ∀ v u : Value, ((wr.setCell ⟨g3, j, none⟩ v).setCell ⟨g5, j + 1, none⟩ u).cell? ⟨g5, j, none⟩ = some (.int .i64 p5) := fun v u => (World.cell?_setCell_other _ _ _ _ (fun e => by have := congrArg Addr.off e; simp at this)).trans ((World.cell?_setCell_other _ _ _ _ (fun e => hn53 (congrArg Addr.block e).symm)).trans hx5)
          have ss : ∀ v u : Value, ((wr.setCell ⟨g3, j, none⟩ v).setCell ⟨g5, j + 1, none⟩ u).cell? ⟨wo.heap.size, 0, none⟩ = some (.int .i64 x) := fun v u => (World.cell?_setCell_other _ _ _ _ (fun e => hn5 (congrArg Addr.block e).symm)).trans ((World.cell?_setCell_other _ _ _ _ (fun e => hn3 (congrArg Addr.block e).symm)).trans hxs)
          have HINN := Aside0.mk hinn
          have HLL := Aside0.mk (And.intro hl1 hl2)
          clear hinn hl1 hl2 hl HJ hxs hx5 hx6
          go_wp2
          have ff : ((wr.setCell ⟨g3, j, none⟩ (.int .i64 ((p3 + fct * p4) % 251))).setCell ⟨g5, j + 1, none⟩ (.int .i64 (p4 % 251))).frozen? ⟨g5, j, none⟩ = false := by rw [World.frozen?_setCell, World.frozen?_setCell]; exact hf5
          have t5 := s5 (.int .i64 ((p3 + fct * p4) % 251)) (.int .i64 (p4 % 251))
          have ts := ss (.int .i64 ((p3 + fct * p4) % 251)) (.int .i64 (p4 % 251))
          have hs7 := HJ'.out.step hn43 hn53 hn54 hn3 hn5 HINN.out
          obtain ⟨W7, hW7⟩ : ∃ W7, ((wr.setCell ⟨g3, j, none⟩ (.int .i64 ((p3 + fct * p4) % 251))).setCell ⟨g5, j + 1, none⟩ (.int .i64 (p4 % 251))) = W7 := ⟨_, rfl⟩
          rw [hW7] at ff t5 ts hs7 ⊢
          clear hW7 s5 s6 ss hf3 hf5 hf6 hx3 hx4
          have HS7 := Aside0.mk hs7
          clear hs7
          have hw1 : IntKind.i64.wrap (251 - x) = 251 - x := by rw [IntKind.wrap_i64]; omega
          have hw3 : IntKind.i64.wrap ((251 - x) * p4) = (251 - x) * p4 := by rw [IntKind.wrap_i64]; omega
          have hw4 : IntKind.i64.wrap (p5 + (251 - x) * p4) = p5 + (251 - x) * p4 := by rw [IntKind.wrap_i64]; omega
          have hw5 : (p5 + (251 - x) * p4).tmod 251 = (p5 + (251 - x) * p4) % 251 := Int.tmod_eq_emod_of_nonneg (by omega)
          go_still_tail 14, (by kernel_rfl)
          change wpList _ _ _ _ _ W7.drew
          have t7 : W7.drew.cell? ⟨g5, j, none⟩ = some (.int .i64 p5) := t5
          have f7 : W7.drew.frozen? ⟨g5, j, none⟩ = false := ff
          clear hw1 hw3 hw4 hw5 t5 ts ff
          obtain ⟨W8, hW8⟩ : ∃ W8, W7.drew = W8 := ⟨_, rfl⟩
          rw [hW8] at t7 f7 HS7 ⊢
          clear hW8
          go_wp2
          refine ⟨PolyInv2.of (j + 1) (by omega) HS7.out rfl rfl, ?_⟩
          rw [← HMU2.out]
          show bs.length - (intOf (.int .i64 ((j : Int) + 1))).toNat < bs.length - (intOf (.int .i64 (j : Int))).toNat
          simp only [intOf]
          omega
        · have cj : decide ((j : Int) < (bs.length : Int)) = false := decide_eq_false (by omega)
          clear HJ
          go_wp2
          refine ⟨PolyInv.of (i + 1) _ _ (D2 :: D :: ds) ?_ rfl rfl, ?_⟩
          · obtain ⟨q0, q1, q2, q3, q4, hcb⟩ := HQ.out
            obtain rfl : j = bs.length := by omega
            exact ⟨by omega, by rw [q0]; exact Kd.R_mono HJ'.out.m5 (fun _ _ => trivial), by rw [q0]; exact Kd.R_mono HJ'.out.m9 (fun _ _ => trivial), .inr (by simp [Value.ownBlock]; omega), M23.out.1, M23.out.2, HJ'.out.m1, HJ'.out.m4⟩
          rw [← HMU.out]
          show l0.length - (intOf (.int .i64 ((i : Int) + 1))).toNat < l0.length - (intOf (.int .i64 (i : Int))).toNat
          simp only [intOf]
          omega
  · have c1 : decide ((i : Int) < (l0.length : Int)) = false := decide_eq_false (by omega)
    have HI' := Aside0.mk HI
    clear HI HPLo
    have HMU := Aside0.mk hmu
    clear hmu
    go_wp2
    have hi2 : i = l0.length := by have := HI'.out.hi; omega
    refine leaves_marks ds wo HI'.out.nd HI'.out.mks ⟨_, results_tmp rfl _ _ _, v3, rfl, ?_, shutAll_below ds wo HI'.out.bl HI'.out.nd HI'.out.mks HI'.out.ge⟩
    have := shutAll_row HI'.out.r3 HI'.out.mks
    rwa [hi2, stOf_end] at this
end

end Go.Proofs.Ytaoecaikeikneaa.PFnWrongShareMade
