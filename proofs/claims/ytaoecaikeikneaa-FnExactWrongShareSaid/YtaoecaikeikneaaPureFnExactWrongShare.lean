/- The law FnExactWrongShare holds: the program's function answers as the reference does at every drawn input, and has the law's property; no condition. -/
import Derived.Test.YtaoecaikeikneaaPFnExactWrongSharex10
import Derived.Test.YtaoecaikeikneaaPoly
set_option linter.unusedVariables false
set_option linter.unusedSimpArgs false
namespace Go.Proofs.Ytaoecaikeikneaa.Pure
open Go.RowKit Go.Proofs.Ytaoecaikeikneaa.PFnExactWrongShare Go.Proofs.YtaoecaikeikneaaW.PrintWords Go.Proofs.YtaoecaikeikneaaW.PrintLast Go.Proofs.YtaoecaikeikneaaW.PrintMore

/-! ### within -/
theorem allWithin_l0 (xs : List Int) (lo up : Int) (hb : xs.length < 4611686018427387904) : ∀ (d k i : Nat), i + d = xs.length → d < k → impl_allWithin.l0 k lo up xs (xs.length : Int) (i : Int) = some ((xs.drop i).all fun x => decide (lo ≤ x ∧ x ≤ up)) := by
  intro d
  induction d with
  | zero =>
    intro k i hi hk
    obtain ⟨k, rfl, -⟩ := fuel hk
    simp only [impl_allWithin.l0]
    rw [if_neg (by omega), drop_end (by omega)]
    simp
  | succ d ih =>
    intro k i hi hk
    obtain ⟨k, rfl, hk⟩ := fuel hk
    simp only [impl_allWithin.l0]
    rw [if_pos (by omega), if_pos (by omega), if_pos (by omega), wrap_succ (by omega), drop_rd (by omega)]
    simp only [List.all_cons]
    rw [ih k (i + 1) (by omega) (by omega)]
    by_cases h1 : rd xs (i : Int) < lo
    · rw [if_pos h1, decide_eq_false (by omega)]; rfl
    · rw [if_neg h1]
      by_cases h2 : rd xs (i : Int) > up
      · rw [if_pos h2, decide_eq_false (by omega)]; rfl
      · rw [if_neg h2, decide_eq_true (by omega)]; rfl
theorem allWithin_spec (k : Nat) (xs : List Int) (lo up : Int) (hb : xs.length < 4611686018427387904) (hk : xs.length < k) : impl_allWithin.f k xs lo up = some (xs.all fun x => decide (lo ≤ x ∧ x ≤ up)) := by
  unfold impl_allWithin.f
  have := allWithin_l0 xs lo up hb xs.length k 0 (by omega) hk
  simpa using this

/-! ### polyat -/
theorem hornW_eq {x : Int} (hx : 0 ≤ x ∧ x < 251) : ∀ zs : List Int, Rests zs → hornW zs x = hornM zs x := by
  intro zs
  induction zs with
  | nil => intro _; rfl
  | cons c t ih =>
    intro h
    have hc := h c (by simp)
    have hr := hornM_range t x
    have hb : 0 ≤ hornM t x * x := Int.mul_nonneg (by omega) (by omega)
    have hb2 : hornM t x * x ≤ 250 * 250 := Int.mul_le_mul (by omega) (by omega) (by omega) (by omega)
    simp only [hornW, hornM]
    rw [ih fun d hd => h d (by simp [hd]), wrap_id (x := hornM t x * x) (by omega) (by omega), wrap_id (by omega) (by omega), Int.tmod_eq_emod_of_nonneg (by omega)]
instance (cs : List Int) : Decidable (Rests cs) := by unfold Rests; infer_instance
theorem ivalidCoefs_spec (k : Nat) (cs : List Int) (hk : 10 < k) : impl_validCoefs.f k cs = some (decide (cs.length ≤ 8 ∧ Rests cs)) := by
  unfold impl_validCoefs.f
  by_cases h : (cs.length : Int) ≤ 8
  · rw [if_pos h, allWithin_spec k cs 0 250 (by omega) (by omega), Option.bind_some]
    congr 1
    rw [Bool.eq_iff_iff, decide_eq_true_iff, List.all_eq_true]
    constructor
    · exact fun h2 => ⟨by omega, fun c hc => by have := h2 c hc; simp at this; omega⟩
    · exact fun h2 c hc => by have := h2.2 c hc; simp; omega
  · rw [if_neg h, decide_eq_false (fun h2 => h (by omega))]
theorem ipolyAt_spec (k : Nat) (cs : List Int) (x : Int) (hr : Rests cs) (hl : cs.length ≤ 8) (hx : 0 ≤ x ∧ x < 251) (hk : 10 < k) : impl_PolyAt.f k cs x = some (hornM cs x) := by
  unfold impl_PolyAt.f
  rw [ivalidCoefs_spec k cs hk, decide_eq_true ⟨hl, hr⟩, Option.bind_some, if_pos rfl, if_neg (by omega), if_neg (by omega), if_pos (by omega), hornW_eq hx cs hr]

/-! ### different -/
theorem flags_set {fl : List Bool} {n : Int} {seen : List Int} {x : Int} (hl : (fl.length : Int) = n) (h : ∀ j : Int, 0 ≤ j → j < n → rdOf false fl j = decide (j ∈ seen)) (h0 : 0 ≤ x) (h1 : x < n) :
    ∀ j : Int, 0 ≤ j → j < n → rdOf false (fl.set x.toNat true) j = decide (j ∈ seen ++ [x]) := by
  intro j hj0 hj
  have := h j hj0 hj
  simp only [rdOf, List.getD_eq_getElem?_getD, List.getElem?_set] at this ⊢
  by_cases e : x = j
  · subst e
    rw [if_pos rfl, if_pos (by omega)]
    simp
  · rw [if_neg (by omega), this]
    have : ¬ j = x := fun h => e h.symm
    simp [this]
theorem different_l0 (xs : List Int) (n : Int) (hb : xs.length < 4611686018427387904) : ∀ (d k i : Nat) (fl : List Bool), (fl.length : Int) = n → (∀ j : Int, 0 ≤ j → j < n → rdOf false fl j = decide (j ∈ xs.take i)) → i + d = xs.length → d < k → impl_differentBelow.l0 k n fl xs (xs.length : Int) (i : Int) = some (memB n (xs.take i) (xs.drop i)) := by
  intro d
  induction d with
  | zero =>
    intro k i fl hl hf hi hk
    obtain ⟨k, rfl, -⟩ := fuel hk
    simp only [impl_differentBelow.l0]
    rw [if_neg (by omega), drop_end (by omega)]
    simp [memB]
  | succ d ih =>
    intro k i fl hl hf hi hk
    obtain ⟨k, rfl, hk⟩ := fuel hk
    simp only [impl_differentBelow.l0]
    rw [if_pos (by omega), if_pos (by omega), if_pos (by omega), wrap_succ (by omega), drop_rd (by omega)]
    simp only [memB]
    by_cases h1 : rd xs (i : Int) < 0
    · rw [if_pos h1, decide_eq_false (by omega)]; rfl
    · rw [if_neg h1]
      by_cases h2 : rd xs (i : Int) ≥ n
      · rw [if_pos h2, decide_eq_false (by omega)]; rfl
      · rw [if_neg h2, if_pos (by omega), if_pos (by omega), hf _ (by omega) (by omega), decide_eq_true (show 0 ≤ rd xs (i : Int) ∧ rd xs (i : Int) < n by omega)]
        by_cases h3 : rd xs (i : Int) ∈ xs.take i
        · rw [decide_eq_true h3, if_pos rfl]; rfl
        · rw [decide_eq_false h3, if_neg (by decide), ih k (i + 1) _ (by simpa using hl) (by rw [take_rd (by omega)]; exact flags_set hl hf (by omega) (by omega)) (by omega) (by omega), take_rd (by omega)]; rfl
theorem different_spec (k : Nat) (xs : List Int) (n : Int) (hn : 0 ≤ n) (hn2 : n ≤ 281474976710656) (hb : xs.length < 4611686018427387904) (hk : xs.length < k) : impl_differentBelow.f k xs n = some (decide (GoodM xs n)) := by
  unfold impl_differentBelow.f
  by_cases h : (xs.length : Int) > n
  · rw [if_pos h, decide_eq_false]
    intro hg
    obtain ⟨m, rfl⟩ := Int.eq_ofNat_of_zero_le hn
    have := hg.le
    omega
  · rw [if_neg h, if_pos hn, if_pos (by omega)]
    have := different_l0 xs n hb xs.length k 0 (List.replicate n.toNat false) (by simp; omega) (fun j h0 h1 => by simp [rdOf, List.getD_eq_getElem?_getD, List.getElem?_replicate]; split <;> rfl) (by omega) hk
    rw [← memB_good]
    simpa using this

/-! ### place -/
theorem placeIn_l0 (xs : List Int) (x : Int) (hb : xs.length < 4611686018427387904) : ∀ (d k i : Nat), i + d = xs.length → d < k → spec_placeIn.l0 k xs x (i : Int) = some (idxM (xs.drop i) x i) := by
  intro d
  induction d with
  | zero =>
    intro k i hi hk
    obtain ⟨k, rfl, -⟩ := fuel hk
    simp only [spec_placeIn.l0]
    rw [if_neg (by omega), drop_end (by omega)]
    simp [idxM]
  | succ d ih =>
    intro k i hi hk
    obtain ⟨k, rfl, hk⟩ := fuel hk
    simp only [spec_placeIn.l0]
    rw [if_pos (by omega), if_pos (by omega), wrap_succ (by omega), drop_rd (by omega)]
    simp only [idxM]
    rw [ih k (i + 1) (by omega) (by omega)]
    split <;> rfl
theorem placeIn_spec (k : Nat) (xs : List Int) (x : Int) (hb : xs.length < 4611686018427387904) (hk : xs.length < k) : spec_placeIn.f k xs x = some (idxM xs x 0) := by
  unfold spec_placeIn.f
  have := placeIn_l0 xs x hb xs.length k 0 (by omega) hk
  simpa using this

/-! ### inrange -/
theorem inRange_spec (a lo up : Int) : spec_inRange.f a lo up = some (decide (lo ≤ a ∧ a ≤ up)) := by
  unfold spec_inRange.f
  by_cases h : lo ≤ a <;> simp [h]

/-! ### ranges -/
theorem allIn_l0 (xs : List Int) (lo up : Int) (hb : xs.length < 4611686018427387904) : ∀ (d k i : Nat), i + d = xs.length → d < k → spec_allIn.l0 k xs lo up (i : Int) = some ((xs.drop i).all fun x => decide (lo ≤ x ∧ x ≤ up)) := by
  intro d
  induction d with
  | zero =>
    intro k i hi hk
    obtain ⟨k, rfl, -⟩ := fuel hk
    simp only [spec_allIn.l0]
    rw [if_neg (by omega), drop_end (by omega)]
    simp
  | succ d ih =>
    intro k i hi hk
    obtain ⟨k, rfl, hk⟩ := fuel hk
    simp only [spec_allIn.l0]
    rw [if_pos (by omega), if_pos (by omega), inRange_spec, wrap_succ (by omega), drop_rd (by omega)]
    simp only [Option.bind_some, List.all_cons]
    rw [ih k (i + 1) (by omega) (by omega)]
    cases decide (lo ≤ rd xs (i : Int) ∧ rd xs (i : Int) ≤ up) <;> simp
theorem allIn_spec (k : Nat) (xs : List Int) (lo up : Int) (hb : xs.length < 4611686018427387904) (hk : xs.length < k) : spec_allIn.f k xs lo up = some (xs.all fun x => decide (lo ≤ x ∧ x ≤ up)) := by
  unfold spec_allIn.f
  have := allIn_l0 xs lo up hb xs.length k 0 (by omega) hk
  simpa using this

/-! ### shares -/
theorem rdS_at {xs : List S40} {i : Nat} (h : i < xs.length) : rd_T40 xs (i : Int) = xs[i] := by
  simp [rd_T40, List.getD_eq_getElem?_getD, List.getElem?_eq_getElem h]
theorem rdS_mem {xs : List S40} {i : Nat} (h : i < xs.length) : rd_T40 xs (i : Int) ∈ xs := by rw [rdS_at h]; exact List.getElem_mem h
theorem takeS {xs : List S40} {i : Nat} (h : i < xs.length) : xs.take (i + 1) = xs.take i ++ [rd_T40 xs (i : Int)] := by
  rw [rdS_at h, List.take_succ_eq_append_getElem h]
theorem dropS {xs : List S40} {i : Nat} (h : i < xs.length) : xs.drop i = rd_T40 xs (i : Int) :: xs.drop (i + 1) := by
  rw [rdS_at h, List.drop_eq_getElem_cons h]
theorem rdX {xs : List S40} {i : Nat} (h : i < xs.length) : rd (xs.map (·.f0)) (i : Int) = (rd_T40 xs (i : Int)).f0 := by
  rw [rdS_at h, rd_get (by simpa using h), List.getElem_map]
theorem rdY {xs : List S40} {i : Nat} (h : i < xs.length) : rd (xs.map (·.f1)) (i : Int) = (rd_T40 xs (i : Int)).f1 := by
  rw [rdS_at h, rd_get (by simpa using h), List.getElem_map]
/-- Valid shares. -/
def OkSh (l : List S40) : Prop := l.length ≤ 12 ∧ (∀ s ∈ l, (1 ≤ s.f0 ∧ s.f0 ≤ 250) ∧ (0 ≤ s.f1 ∧ s.f1 ≤ 250)) ∧ (l.map (·.f0)).Nodup
instance (l : List S40) : Decidable (OkSh l) := by unfold OkSh; infer_instance
theorem ivalid_l0 (l : List S40) (hl : l.length ≤ 12) : ∀ (d k i : Nat), i + d = l.length → d + 30 < k → impl_ValidShares.l0 k ((l.take i).map (·.f0)) ((l.take i).map (·.f1)) l (l.length : Int) (i : Int) = some (decide (OkSh l)) := by
  intro d
  induction d with
  | zero =>
    intro k i hi hk
    obtain ⟨k, rfl, -⟩ := fuel (show 0 < k by omega)
    simp only [impl_ValidShares.l0]
    rw [if_neg (by omega), List.take_of_length_le (by omega), allWithin_spec k _ 1 250 (by simp; omega) (by simp; omega), Option.bind_some]
    by_cases h1 : ((l.map (·.f0)).all fun x => decide (1 ≤ x ∧ x ≤ 250)) = true
    · rw [if_pos h1, different_spec k _ 251 (by omega) (by omega) (by simp; omega) (by simp; omega), Option.bind_some]
      by_cases h2 : GoodM (l.map (·.f0)) 251
      · rw [decide_eq_true h2, if_pos rfl, allWithin_spec k _ 0 250 (by simp; omega) (by simp; omega), Option.bind_some]
        congr 1
        rw [Bool.eq_iff_iff, decide_eq_true_iff, List.all_eq_true]
        rw [List.all_eq_true] at h1
        constructor
        · intro h3
          refine ⟨hl, fun s hs => ⟨?_, ?_⟩, h2.1⟩
          · simpa using h1 s.f0 (List.mem_map_of_mem hs)
          · simpa using h3 s.f1 (List.mem_map_of_mem hs)
        · intro h3 y hy
          obtain ⟨s, hs, rfl⟩ := List.mem_map.1 hy
          simpa using (h3.2.1 s hs).2
      · rw [decide_eq_false h2, if_neg (by decide), decide_eq_false]
        intro h3
        refine h2 ⟨h3.2.2, fun x hx => ?_⟩
        obtain ⟨s, hs, rfl⟩ := List.mem_map.1 hx
        have := h3.2.1 s hs
        omega
    · rw [if_neg h1, decide_eq_false]
      intro h3
      refine h1 (List.all_eq_true.2 fun x hx => ?_)
      obtain ⟨s, hs, rfl⟩ := List.mem_map.1 hx
      simpa using (h3.2.1 s hs).1
  | succ d ih =>
    intro k i hi hk
    obtain ⟨k, rfl, hk⟩ := fuel hk
    simp only [impl_ValidShares.l0]
    rw [if_pos (by omega), if_pos (by omega), if_pos (by omega), wrap_succ (by omega), Option.bind_some, if_pos (by simp; omega), Option.bind_some, if_pos (by simp; omega)]
    have := ih k (i + 1) (by omega) (by omega)
    rw [takeS (by omega), List.map_append, List.map_append] at this
    exact this
theorem ivalid_spec (k : Nat) (l : List S40) (hk : 50 < k) : impl_ValidShares.f k l = some (decide (OkSh l)) := by
  unfold impl_ValidShares.f
  by_cases h : (l.length : Int) > 12
  · rw [if_pos h, decide_eq_false]
    intro h2
    have := h2.1
    omega
  · rw [if_neg h]
    have := ivalid_l0 l (by omega) l.length k 0 (by omega) (by omega)
    simpa using this
theorem idxM_ge : ∀ (xs : List Int) (x : Int) (i : Nat), (idxM xs x i ≥ 0) ↔ x ∈ xs := by
  intro xs
  induction xs with
  | nil => intro x i; simp [idxM]
  | cons a t ih =>
    intro x i
    simp only [idxM]
    by_cases e : a = x
    · rw [if_pos e]; simp [e]
    · rw [if_neg e, ih]
      simp [Ne.symm e]
theorem splaces_l0 (xs : List Int) (hb : xs.length ≤ 1048576) : ∀ (d k i : Nat), i + d = xs.length → (xs.take i).Nodup → d + 1048580 < k → spec_validPlaces.l0 k xs (i : Int) = some (decide (xs.length ≤ 12 ∧ (∀ x ∈ xs, 1 ≤ x ∧ x ≤ 250) ∧ xs.Nodup)) := by
  intro d
  induction d with
  | zero =>
    intro k i hi hn hk
    obtain ⟨k, rfl, -⟩ := fuel (show 0 < k by omega)
    simp only [spec_validPlaces.l0]
    rw [List.take_of_length_le (by omega)] at hn
    rw [if_neg (by omega)]
    by_cases h : (xs.length : Int) ≤ 12
    · rw [if_pos h, allIn_spec k xs 1 250 (by omega) (by omega), Option.bind_some]
      congr 1
      rw [Bool.eq_iff_iff, decide_eq_true_iff, List.all_eq_true]
      constructor
      · exact fun h2 => ⟨by omega, fun x hx => by simpa using h2 x hx, hn⟩
      · exact fun h2 x hx => by simpa using h2.2.1 x hx
    · rw [if_neg h, decide_eq_false (fun h2 => h (by omega))]
  | succ d ih =>
    intro k i hi hn hk
    obtain ⟨k, rfl, hk⟩ := fuel hk
    simp only [spec_validPlaces.l0]
    rw [if_pos (by omega), if_pos (by omega), if_pos (by omega), wrap_succ (by omega), toNat_cast, placeIn_spec k _ _ (by simp; omega) (by simp; omega), Option.bind_some]
    by_cases h : rd xs (i : Int) ∈ xs.take i
    · rw [if_pos ((idxM_ge _ _ _).2 h), decide_eq_false]
      intro h2
      have h3 := h2.2.2
      rw [← List.take_append_drop i xs, List.nodup_append] at h3
      exact h3.2.2 _ h _ (by rw [drop_rd (by omega)]; simp) rfl
    · rw [if_neg (fun h2 => h ((idxM_ge _ _ _).1 h2))]
      refine ih k (i + 1) (by omega) ?_ (by omega)
      rw [take_rd (by omega), List.nodup_append]
      exact ⟨hn, by simp, fun a ha b hb2 => by rw [List.mem_singleton] at hb2; subst hb2; exact fun e => h (e ▸ ha)⟩
theorem splaces_spec (k : Nat) (xs : List Int) (hb : xs.length ≤ 1048576) (hk : 2097200 < k) : spec_validPlaces.f k xs = some (decide (xs.length ≤ 12 ∧ (∀ x ∈ xs, 1 ≤ x ∧ x ≤ 250) ∧ xs.Nodup)) := by
  unfold spec_validPlaces.f
  exact splaces_l0 xs hb xs.length k 0 (by omega) (by simp) (by omega)

/-! ### placeso -/
theorem xyOf_x (l : List S40) : (xyOf l).map (·.1) = l.map (·.f0) := by simp [xyOf, Function.comp_def]
theorem xyOf_y (l : List S40) : (xyOf l).map (·.2) = l.map (·.f1) := by simp [xyOf, Function.comp_def]
theorem xyOf_length (l : List S40) : (xyOf l).length = l.length := by simp [xyOf]
theorem OkSh.places {l : List S40} (h : OkSh l) : Places (xyOf l) := by
  refine ⟨fun q hq => ?_, by rw [xyOf_x]; exact h.2.2⟩
  obtain ⟨s, hs, rfl⟩ := List.mem_map.1 hq
  have := h.2.1 s hs
  exact ⟨⟨by simp only; omega, by simp only; omega⟩, ⟨by simp only; omega, by simp only; omega⟩⟩
theorem ipoly_spec {l : List S40} (h : Places (xyOf l)) (hl : l.length ≤ 8) : impl_polyOf.f l = some (thr (xyOf l)) := by
  unfold impl_polyOf.f
  rw [if_pos]
  unfold polyOK
  rw [Bool.and_eq_true, Bool.and_eq_true]
  refine ⟨decide_eq_true hl, List.all_eq_true.2 fun s hs => ?_, decide_eq_true ?_⟩
  · have := h.xy (s.f0, s.f1) (List.mem_map_of_mem (f := fun s : S40 => (s.f0, s.f1)) hs)
    exact decide_eq_true ⟨this.1.1, this.1.2, this.2.1, this.2.2⟩
  · have := h.nd; rwa [xyOf_x] at this

/-! ### fit -/
/-- Whether shares fit. -/
def FitS (l : List S40) (need : Int) : Prop := OkSh l ∧ (1 ≤ need ∧ need ≤ 8) ∧ Fit (xyOf l) need.toNat
theorem ifit_l0 (cs : List Int) (hr : Rests cs) (hl : cs.length ≤ 8) (l : List S40) (hx : ∀ s ∈ l, 0 ≤ s.f0 ∧ s.f0 < 251) (hb : l.length ≤ 12) (b : Bool) (hbb : b = true ↔ ∀ s ∈ l, hornM cs s.f0 = s.f1) : ∀ (d k i : Nat), i + d = l.length → (∀ s ∈ l.take i, hornM cs s.f0 = s.f1) → d + 12 < k → impl_FitTogether.l0 k cs l (l.length : Int) (i : Int) = some b := by
  intro d
  induction d with
  | zero =>
    intro k i hi hp hk
    obtain ⟨k, rfl, -⟩ := fuel hk
    simp only [impl_FitTogether.l0]
    rw [List.take_of_length_le (by omega)] at hp
    rw [if_neg (by omega), hbb.2 hp]
  | succ d ih =>
    intro k i hi hp hk
    obtain ⟨k, rfl, hk⟩ := fuel hk
    simp only [impl_FitTogether.l0]
    rw [if_pos (by omega), if_pos (by omega), if_pos (by omega), ipolyAt_spec k cs _ hr hl (hx _ (rdS_mem (by omega))) (by omega), Option.bind_some]
    by_cases h : hornM cs (rd_T40 l (i : Int)).f0 = (rd_T40 l (i : Int)).f1
    · rw [if_pos h, wrap_succ (by omega)]
      refine ih k (i + 1) (by omega) (fun s hs => ?_) (by omega)
      rw [takeS (by omega)] at hs
      rcases List.mem_append.1 hs with hs | hs
      · exact hp s hs
      · rw [List.mem_singleton] at hs; subst hs; exact h
    · rw [if_neg h]
      cases b with
      | false => rfl
      | true => exact absurd (hbb.1 rfl _ (rdS_mem (by omega))) h
theorem xyOf_take (l : List S40) (n : Nat) : xyOf (l.take n) = (xyOf l).take n := by simp [xyOf, List.map_take]
theorem xyOf_drop (l : List S40) (n : Nat) : xyOf (l.drop n) = (xyOf l).drop n := by simp [xyOf, List.map_drop]
theorem ifit_spec (k : Nat) (l : List S40) (need : Int) (hk : 60 < k) (b : Bool) (hb : b = true ↔ FitS l need) : impl_FitTogether.f k l need = some b := by
  obtain ⟨k, rfl, hk⟩ := fuel hk
  unfold impl_FitTogether.f
  have hj : ∀ q : Nat, q = k + 1 → ¬ FitS l need → impl_FitTogether.j0 q l need true = some b := fun q e h => by
    subst e
    simp only [impl_FitTogether.j0]
    rw [if_pos trivial]
    cases b with
    | false => rfl
    | true => exact absurd (hb.1 rfl) h
  rw [ivalid_spec _ l (by omega), Option.bind_some]
  by_cases h1 : OkSh l
  · rw [decide_eq_true h1, if_pos rfl]
    by_cases h2 : need < 1
    · rw [if_pos h2]; exact hj _ rfl fun h => by have := h.2.1; omega
    · rw [if_neg h2]
      by_cases h3 : need > 8
      · rw [decide_eq_true h3]; exact hj _ rfl fun h => by have := h.2.1; omega
      · rw [decide_eq_false h3]
        simp only [impl_FitTogether.j0]
        rw [if_neg (by decide)]
        obtain ⟨n, rfl⟩ := Int.eq_ofNat_of_zero_le (show 0 ≤ need by omega)
        have hp := h1.places
        by_cases h4 : (l.length : Int) ≤ (n : Int)
        · rw [if_pos h4, hb.2 ⟨h1, by omega, by rw [Int.toNat_natCast]; exact fit_few hp (by rw [xyOf_length]; omega)⟩]
        · have hpt : Places (xyOf (l.take n)) := by rw [xyOf_take]; exact hp.sub (List.take_sublist _ _)
          rw [if_neg h4, if_pos (by omega), if_pos (by omega), toNat_cast, ipoly_spec hpt (by rw [List.length_take]; omega), Option.bind_some, Option.bind_some]
          have hl12 := h1.1
          refine ifit_l0 (thr (xyOf (l.take n))) (thr_rests hpt) (by rw [thr_length hpt, xyOf_length, List.length_take]; omega) (l.drop n) (fun s hs => by have := h1.2.1 s (List.mem_of_mem_drop hs); omega) (by rw [List.length_drop]; omega) b ?_ (l.drop n).length k 0 (by omega) (by simp) (by rw [List.length_drop]; omega)
          rw [hb]
          unfold FitS
          rw [Int.toNat_natCast, fit_drop hp (by rw [xyOf_length]; omega), ← xyOf_take, ← xyOf_drop]
          constructor
          · exact fun h s hs => h.2.2 (s.f0, s.f1) (List.mem_map_of_mem (f := fun s : S40 => (s.f0, s.f1)) hs)
          · exact fun h => ⟨h1, by omega, fun p hp => by obtain ⟨s, hs, rfl⟩ := List.mem_map.1 hp; exact h s hs⟩
  · rw [decide_eq_false h1, if_neg (by decide)]
    exact hj _ rfl fun h => h1 h.1
theorem ifit_true (k : Nat) (l : List S40) (need : Int) (hk : 60 < k) (h : FitS l need) : impl_FitTogether.f k l need = some true := ifit_spec k l need hk true ⟨fun _ => h, fun _ => rfl⟩
theorem ifit_false (k : Nat) (l : List S40) (need : Int) (hk : 60 < k) (h : ¬ FitS l need) : impl_FitTogether.f k l need = some false := ifit_spec k l need hk false ⟨fun h2 => (by cases h2), fun h2 => absurd h2 h⟩

/-! ### iwrong -/
/-- The shares without one. -/
def without (l : List S40) (i : Nat) : List S40 := l.take i ++ l.drop (i + 1)
theorem without_erase (l : List S40) (i : Nat) : without l i = l.eraseIdx i := (List.eraseIdx_eq_take_drop_succ l i).symm
theorem idel_spec (l : List S40) (i : Nat) (hi : i < l.length) (hl : l.length ≤ 1000) : impl_Share_74.f l (i : Int) (wrap64 ((i : Int) + 1)) = some (without l i) := by
  unfold impl_Share_74.f without
  rw [wrap_succ (by omega), if_pos ⟨by omega, by omega, by omega⟩, toNat_cast, toNat_cast]
theorem iclone_spec (l : List S40) (hl : l.length ≤ 1000) : impl_Share_75.f l = some l := by
  unfold impl_Share_75.f
  rw [if_pos (by omega)]
theorem fitB (l : List S40) (need : Int) : ∃ b : Bool, b = true ↔ FitS l need := by
  by_cases h2 : FitS l need
  · exact ⟨true, fun _ => h2, fun _ => rfl⟩
  · exact ⟨false, fun h => (by cases h), fun h => absurd h h2⟩
/-- Which share is wrong, from one place on. -/
def WrongAt (l : List S40) (need : Int) (i : Nat) (r : Int) : Prop := (r = -1 ∧ ∀ j : Nat, i ≤ j → j < l.length → ¬ FitS (without l j) need) ∨ ∃ j : Nat, r = (j : Int) ∧ i ≤ j ∧ j < l.length ∧ FitS (without l j) need ∧ ∀ q : Nat, i ≤ q → q < j → ¬ FitS (without l q) need
theorem WrongAt.one {l : List S40} {need : Int} {i : Nat} {r s : Int} (h : WrongAt l need i r) (h' : WrongAt l need i s) : r = s := by
  rcases h with ⟨rfl, h⟩ | ⟨j, rfl, h1, h2, h3, h4⟩ <;> rcases h' with ⟨rfl, h'⟩ | ⟨j', rfl, h1', h2', h3', h4'⟩
  · rfl
  · exact absurd h3' (h j' h1' h2')
  · exact absurd h3 (h' j h1 h2)
  · rcases Nat.lt_trichotomy j j' with hlt | he | hlt
    · exact absurd h3 (h4' j h1 hlt)
    · rw [he]
    · exact absurd h3' (h4 j' h1' hlt)
theorem WrongAt.step {l : List S40} {need : Int} {i : Nat} {r : Int} (h : WrongAt l need (i + 1) r) (hi : ¬ FitS (without l i) need) : WrongAt l need i r := by
  have all : ∀ q : Nat, i ≤ q → q = i ∨ i + 1 ≤ q := fun q hq => by omega
  rcases h with ⟨rfl, h⟩ | ⟨j, rfl, h1, h2, h3, h4⟩
  · refine .inl ⟨rfl, fun j hj hj2 => ?_⟩
    rcases all j hj with rfl | hj
    · exact hi
    · exact h j hj hj2
  · refine .inr ⟨j, rfl, by omega, h2, h3, fun q hq hq2 => ?_⟩
    rcases all q hq with rfl | hq
    · exact hi
    · exact h4 q hq hq2
theorem iwrong_l0 (l : List S40) (hl : l.length ≤ 12) (need : Int) : ∀ (d k i : Nat), i + d = l.length → d + 80 < k → ∃ r, impl_WrongShare.l0 k l need (l.length : Int) (i : Int) = some r ∧ WrongAt l need i r := by
  intro d
  induction d with
  | zero =>
    intro k i hi hk
    obtain ⟨k, rfl, -⟩ := fuel hk
    simp only [impl_WrongShare.l0]
    rw [if_neg (by omega)]
    exact ⟨_, rfl, .inl ⟨rfl, fun j hj hj2 => by omega⟩⟩
  | succ d ih =>
    intro k i hi hk
    obtain ⟨k, rfl, hk⟩ := fuel (show d + 81 < k by omega)
    obtain ⟨b, hb⟩ := fitB (without l i) need
    simp only [impl_WrongShare.l0]
    rw [if_pos (by omega), iclone_spec l (by omega), Option.bind_some, idel_spec l i (by omega) (by omega), Option.bind_some, ifit_spec k _ need (by omega) b hb, Option.bind_some]
    by_cases h : b = true
    · rw [if_pos h]
      exact ⟨_, rfl, .inr ⟨i, rfl, Nat.le_refl _, by omega, hb.1 h, fun q hq hq2 => by omega⟩⟩
    · rw [if_neg h, wrap_succ (by omega)]
      obtain ⟨r, h1, h2⟩ := ih k (i + 1) (by omega) (by omega)
      exact ⟨r, h1, h2.step (fun hf => h (hb.2 hf))⟩
def CanWrong (l : List S40) (need : Int) : Prop := OkSh l ∧ (1 ≤ need ∧ need ≤ 8) ∧ need + 2 ≤ (l.length : Int) ∧ ¬ FitS l need
def WrongIs (l : List S40) (need : Int) (r : Int) : Prop := (CanWrong l need ∧ WrongAt l need 0 r) ∨ (¬ CanWrong l need ∧ r = -1)
theorem WrongIs.one {l : List S40} {need : Int} {r s : Int} (h : WrongIs l need r) (h' : WrongIs l need s) : r = s := by
  rcases h with ⟨h1, h2⟩ | ⟨h1, h2⟩ <;> rcases h' with ⟨h1', h2'⟩ | ⟨h1', h2'⟩
  · exact h2.one h2'
  · exact absurd h1 h1'
  · exact absurd h1' h1
  · rw [h2, h2']
theorem iwrong_spec (k : Nat) (l : List S40) (need : Int) (hk : 200 < k) : ∃ r, impl_WrongShare.f k l need = some r ∧ WrongIs l need r := by
  unfold impl_WrongShare.f
  rw [ivalid_spec k l (by omega), Option.bind_some]
  obtain ⟨b, hb⟩ := fitB l need
  have hfit : ∀ k, 60 < k → impl_FitTogether.f k l need = some b := fun k hk => ifit_spec k l need hk b hb
  obtain ⟨k, rfl, hk'⟩ := fuel hk
  simp only [impl_WrongShare.j0, if_true]
  by_cases h1 : OkSh l
  · rw [decide_eq_true h1, if_pos rfl]
    by_cases h2 : need < 1
    · rw [if_pos h2]; exact ⟨_, rfl, .inr ⟨fun h => by have := h.2.1.1; omega, rfl⟩⟩
    rw [if_neg h2]
    by_cases h3 : need > 8
    · rw [if_pos h3]; exact ⟨_, rfl, .inr ⟨fun h => by have := h.2.1.2; omega, rfl⟩⟩
    rw [if_neg h3, wrap_id (by omega) (by omega)]
    by_cases h4 : (l.length : Int) < need + 2
    · rw [if_pos h4]; exact ⟨_, rfl, .inr ⟨fun h => by have := h.2.2.1; omega, rfl⟩⟩
    rw [if_neg h4, hfit _ (by omega), Option.bind_some]
    by_cases h5 : b = true
    · rw [if_pos h5]; exact ⟨_, rfl, .inr ⟨fun h => h.2.2.2 (hb.1 h5), rfl⟩⟩
    · rw [if_neg h5]
      obtain ⟨r, e, hw⟩ := iwrong_l0 l h1.1 need l.length k 0 (by omega) (by have := h1.1; omega)
      exact ⟨r, e, .inl ⟨⟨h1, by omega, by omega, fun hf => h5 (hb.2 hf)⟩, hw⟩⟩
  · rw [decide_eq_false h1, if_neg (by decide)]
    exact ⟨_, rfl, .inr ⟨fun h => h1 h.1, rfl⟩⟩

/-! ### spolyat -/
theorem spolyAt_l0 (cs : List Int) (x : Int) (hr : Rests cs) (hx : 0 ≤ x ∧ x < 251) (hb : cs.length ≤ 1000) : ∀ (i k : Nat), i ≤ cs.length → i < k → spec_polyAt.l0 k cs x (hornM (cs.drop i) x) ((i : Int) - 1) = some (hornM cs x) := by
  intro i
  induction i with
  | zero =>
    intro k hi hk
    obtain ⟨k, rfl, -⟩ := fuel hk
    simp only [spec_polyAt.l0]
    rw [if_neg (by omega), List.drop_zero]
  | succ i ih =>
    intro k hi hk
    obtain ⟨k, rfl, hk⟩ := fuel hk
    simp only [spec_polyAt.l0]
    have e : ((i + 1 : Nat) : Int) - 1 = (i : Int) := by omega
    have hm := hornM_range (cs.drop (i + 1)) x
    have hc := hr _ (rd_mem (xs := cs) (i := i) (by omega))
    have n0 : 0 ≤ hornM (cs.drop (i + 1)) x * x := Int.mul_nonneg (by omega) (by omega)
    have n1 : hornM (cs.drop (i + 1)) x * x ≤ 250 * 250 := Int.mul_le_mul (by omega) (by omega) (by omega) (by omega)
    rw [e, if_pos (by omega), if_pos (by omega), if_pos (by omega), wrap_id (x := hornM (cs.drop (i + 1)) x * x) (by omega) (by omega), wrap_id (x := hornM (cs.drop (i + 1)) x * x + rd cs (i : Int)) (by omega) (by omega), wrap_id (by omega) (by omega), Int.tmod_eq_emod_of_nonneg (by omega)]
    have := ih k (by omega) (by omega)
    rw [drop_rd (by omega)] at this
    exact this
theorem spolyAt_spec (k : Nat) (cs : List Int) (x : Int) (hr : Rests cs) (hx : 0 ≤ x ∧ x < 251) (hb : cs.length ≤ 1000) (hk : cs.length < k) : spec_polyAt.f k cs x = some (hornM cs x) := by
  unfold spec_polyAt.f
  rw [wrap_id (by omega) (by omega)]
  have := spolyAt_l0 cs x hr hx hb cs.length k (Nat.le_refl _) hk
  rw [List.drop_length] at this
  exact this

/-! ### srest -/
theorem svalidRest_spec (n : Int) : spec_validRest.f n = some (decide (0 ≤ n ∧ n ≤ 250)) := by
  unfold spec_validRest.f
  rw [inRange_spec, Option.bind_some]

/-! ### svalid -/
theorem svalid_l0 (l : List S40) (hb : l.length ≤ 1048576) : ∀ (d k i : Nat), i + d = l.length → (∀ s ∈ l.take i, 0 ≤ s.f1 ∧ s.f1 ≤ 250) → d + 2097201 < k → spec_validShares.l0 k l ((l.take i).map (·.f0)) (i : Int) = some (decide (OkSh l)) := by
  intro d
  induction d with
  | zero =>
    intro k i hi hy hk
    obtain ⟨k, rfl, hk⟩ := fuel hk
    simp only [spec_validShares.l0]
    rw [List.take_of_length_le (by omega)] at hy
    rw [if_neg (by omega), List.take_of_length_le (by omega), splaces_spec k _ (by simpa using hb) (by omega), Option.bind_some]
    congr 1
    rw [decide_eq_decide]
    unfold OkSh
    rw [List.length_map]
    constructor
    · exact fun h => ⟨h.1, fun s hs => ⟨h.2.1 _ (List.mem_map_of_mem hs), hy s hs⟩, h.2.2⟩
    · exact fun h => ⟨h.1, fun x hx => by obtain ⟨s, hs, rfl⟩ := List.mem_map.1 hx; exact (h.2.1 s hs).1, h.2.2⟩
  | succ d ih =>
    intro k i hi hy hk
    obtain ⟨k, rfl, hk⟩ := fuel hk
    simp only [spec_validShares.l0]
    rw [if_pos (by omega), if_pos (by omega), svalidRest_spec, Option.bind_some]
    by_cases h : 0 ≤ (rd_T40 l (i : Int)).f1 ∧ (rd_T40 l (i : Int)).f1 ≤ 250
    · rw [decide_eq_true h, if_pos rfl, if_pos (by simp; omega), wrap_succ (by omega)]
      have := ih k (i + 1) (by omega) (fun s hs => by
        rw [takeS (by omega)] at hs
        rcases List.mem_append.1 hs with hs | hs
        · exact hy s hs
        · rw [List.mem_singleton] at hs; subst hs; exact h) (by omega)
      rw [takeS (by omega), List.map_append] at this
      exact this
    · rw [decide_eq_false h, if_neg (by decide), decide_eq_false]
      exact fun h2 => h (h2.2.1 _ (rdS_mem (by omega))).2
theorem svalid_spec (k : Nat) (l : List S40) (hb : l.length ≤ 1048576) (hk : 3145800 < k) : spec_validShares.f k l = some (decide (OkSh l)) := by
  unfold spec_validShares.f
  have := svalid_l0 l hb l.length k 0 (by omega) (by simp) (by omega)
  simpa using this

/-! ### through -/
theorem times_l0 (poly : List Int) (x : Int) (hr : Rests poly) (hx : 0 ≤ x ∧ x < 251) (hb : poly.length ≤ 1000) : ∀ (d k i : Nat), i + d = poly.length → d < k → spec_times.l0 k poly x (innM 0 (251 - x) poly poly (List.replicate (poly.length + 1) 0) i).2 (i : Int) = some (timesM poly x) := by
  intro d
  induction d with
  | zero =>
    intro k i hi hk
    obtain ⟨k, rfl, -⟩ := fuel hk
    simp only [spec_times.l0]
    rw [if_neg (by omega), show i = poly.length by omega]
    rfl
  | succ d ih =>
    intro k i hi hk
    obtain ⟨k, rfl, hk⟩ := fuel hk
    have hl := (innM_length 0 (251 - x) poly poly (List.replicate (poly.length + 1) 0) i).2
    rw [List.length_replicate] at hl
    have e1 := innM_nx 0 (251 - x) poly poly hr i (by omega) i (by omega)
    have e2 := innM_nx 0 (251 - x) poly poly hr i (by omega) (i + 1) (by omega)
    rw [if_neg (by omega), if_pos rfl] at e1
    rw [if_neg (by omega), if_neg (by omega)] at e2
    have b0 := hr _ (rd_mem (xs := poly) (i := i) (by omega))
    have b1 : 0 ≤ rd (0 :: poly) (i : Int) ∧ rd (0 :: poly) (i : Int) < 251 := by
      rcases List.mem_cons.1 (rd_mem (xs := 0 :: poly) (i := i) (by simp; omega)) with h | h
      · rw [h]; omega
      · exact hr _ h
    have n0 : 0 ≤ rd poly (i : Int) * (251 - x) := Int.mul_nonneg (by omega) (by omega)
    have n1 : rd poly (i : Int) * (251 - x) ≤ 250 * 251 := Int.mul_le_mul (by omega) (by omega) (by omega) (by omega)
    simp only [spec_times.l0]
    rw [if_pos (by omega), wrap_succ (by omega), if_pos (by omega), if_pos (by omega), if_pos (by omega), Option.bind_some, toNat_cast, toNat_cast, if_pos (by simp; omega), rd_set_ne (by omega), e1, e2]
    rw [wrap_id (x := 0 + rd poly (i : Int)) (by omega) (by omega), wrap_id (x := 251 - x) (by omega) (by omega), wrap_id (x := rd poly (i : Int) * (251 - x)) (by omega) (by omega), wrap_id (by omega) (by omega), Int.tmod_eq_emod_of_nonneg (by omega), Int.tmod_eq_emod_of_nonneg (by omega)]
    have := ih k (i + 1) (by omega) (by omega)
    simp only [innM] at this
    rw [rd_set_ne (by omega), e1, e2, Int.mul_comm (251 - x)] at this
    exact this
theorem times_spec (k : Nat) (poly : List Int) (x : Int) (hr : Rests poly) (hx : 0 ≤ x ∧ x < 251) (hb : poly.length ≤ 1000) (hk : poly.length < k) : spec_times.f k poly x = some (timesM poly x) := by
  unfold spec_times.f
  have e : wrap64 ((poly.length : Int) + 1) = ((poly.length + 1 : Nat) : Int) := wrap_succ (by omega)
  rw [e, if_pos (by omega), toNat_cast, if_pos (by omega)]
  exact times_l0 poly x hr hx hb poly.length k 0 (by omega) hk
theorem inverse_l0 {n : Int} (h0 : 0 ≤ n) (h1 : n ≤ 250) : ∀ (d k i : Nat), i + d = 249 → d < k → spec_inverse.l0 k n ((n.toNat ^ i % 251 : Nat) : Int) (i : Int) = some (invM n) := by
  intro d
  induction d with
  | zero =>
    intro k i hi hk
    obtain ⟨k, rfl, -⟩ := fuel hk
    simp only [spec_inverse.l0]
    rw [if_neg (by omega), show i = 249 by omega]
    rfl
  | succ d ih =>
    intro k i hi hk
    obtain ⟨k, rfl, hk⟩ := fuel hk
    simp only [spec_inverse.l0]
    rw [if_pos (by omega), wrap_succ (by omega)]
    have hq : n.toNat ^ (i + 1) % 251 = n.toNat ^ i % 251 * n.toNat % 251 := by rw [Nat.pow_succ]; simp [Nat.mul_mod]
    have := ih k (i + 1) (by omega) (by omega)
    rw [hq] at this
    obtain ⟨m, rfl⟩ := Int.eq_ofNat_of_zero_le h0
    rw [Int.toNat_natCast] at *
    obtain ⟨q, hq2⟩ : ∃ q, m ^ i % 251 = q := ⟨_, rfl⟩
    have hql : q < 251 := by rw [← hq2]; exact Nat.mod_lt _ (by omega)
    rw [hq2] at this ⊢
    clear hq hq2
    have n0 : 0 ≤ (q : Int) * (m : Int) := Int.mul_nonneg (by omega) (by omega)
    have n1 : (q : Int) * (m : Int) ≤ 250 * 250 := Int.mul_le_mul (by omega) (by omega) (by omega) (by omega)
    rw [wrap_id (by omega) (by omega), Int.tmod_eq_emod_of_nonneg n0]
    rw [show ((q * m % 251 : Nat) : Int) = (q : Int) * (m : Int) % 251 by rw [Int.natCast_emod, Int.natCast_mul]; rfl] at this
    exact this
theorem inverse_spec (k : Nat) {n : Int} (h0 : 0 ≤ n) (h1 : n ≤ 250) (hk : 250 < k) : spec_inverse.f k n = some (invM n) := by
  unfold spec_inverse.f
  have := inverse_l0 h0 h1 249 k 0 (by omega) (by omega)
  simpa using this
theorem through_l2 (l : List S40) (i : Nat) (f : Int) (hf : 0 ≤ f ∧ f < 251) (base cs : List Int) (hr : Rests base) (hc : Rests cs) (hl : cs.length = base.length) (hb : base.length ≤ 1000) (hi : i < 1000) (r : List Int) (R : Nat) (hnext : ∀ k, R < k → spec_through.l0 k l (accM f base cs) ((i + 1 : Nat) : Int) = some r) :
    ∀ (d k j : Nat), j + d = base.length → d + R + 1 < k → spec_through.l2 k l (innM f 0 base cs [] j).1 (i : Int) base f (j : Int) = some r := by
  intro d
  induction d with
  | zero =>
    intro k j hj hk
    obtain ⟨k, rfl, hk⟩ := fuel hk
    simp only [spec_through.l2]
    rw [if_neg (by omega), wrap_succ (by omega), show j = base.length by omega]
    exact hnext k (by omega)
  | succ d ih =>
    intro k j hj hk
    obtain ⟨k, rfl, hk⟩ := fuel hk
    have hlen := (innM_length f 0 base cs [] j).1
    have e := innM_cs f 0 base cs [] hl j (by omega) j (by omega)
    rw [if_neg (by omega)] at e
    have b0 := hr _ (rd_mem (xs := base) (i := j) (by omega))
    have b1 := hc _ (rd_mem (xs := cs) (i := j) (by omega))
    have n0 : 0 ≤ f * rd base (j : Int) := Int.mul_nonneg (by omega) (by omega)
    have n1 : f * rd base (j : Int) ≤ 250 * 250 := Int.mul_le_mul (by omega) (by omega) (by omega) (by omega)
    simp only [spec_through.l2]
    rw [if_pos (by omega), if_pos (by omega), if_pos (by omega), wrap_succ (by omega), toNat_cast, e, wrap_id (x := f * rd base (j : Int)) (by omega) (by omega), wrap_id (by omega) (by omega), Int.tmod_eq_emod_of_nonneg (by omega)]
    have := ih k (j + 1) (by omega) (by omega)
    simp only [innM] at this
    rw [e] at this
    exact this
theorem through_l1 (l : List S40) (hx : ∀ x ∈ l.map (·.f0), 0 ≤ x ∧ x < 251) (hnd : (l.map (·.f0)).Nodup) (hy : ∀ x ∈ l.map (·.f1), 0 ≤ x ∧ x < 251) (hb : l.length ≤ 100) (i : Nat) (hi : i < l.length) (cs : List Int) (hc : Rests cs) (hl : cs.length = l.length) (r : List Int) (R : Nat) (hR : 300 ≤ R)
    (hnext : ∀ k, R < k → spec_through.l0 k l (accM (rd (l.map (·.f1)) i * invM (lagP (l.map (·.f0)) i l.length).2 % 251) (lagP (l.map (·.f0)) i l.length).1 cs) ((i + 1 : Nat) : Int) = some r) :
    ∀ (d k j : Nat), j + d = l.length → d + l.length + R + 2 < k → spec_through.l1 k l cs (i : Int) (lagP (l.map (·.f0)) i j).1 (lagP (l.map (·.f0)) i j).2 (j : Int) = some r := by
  have hxl : (l.map (·.f0)).length = l.length := by simp
  intro d
  induction d with
  | zero =>
    intro k j hj hk
    obtain ⟨k, rfl, hk⟩ := fuel hk
    obtain ⟨p1, p2, p3⟩ := lagP_inv hx hnd (show i < (l.map (·.f0)).length by omega) l.length (by omega)
    have hy1 := hy _ (rd_mem (xs := l.map (·.f1)) (i := i) (by simpa using hi))
    have hiv := invM_range (lagP (l.map (·.f0)) i l.length).2
    simp only [spec_through.l1]
    rw [if_neg (by omega), if_pos (by omega), if_pos (by omega), show j = l.length by omega, inverse_spec k (by omega) (by omega) (by omega), Option.bind_some, ← rdY hi]
    have n0 : 0 ≤ rd (l.map (·.f1)) (i : Int) * invM (lagP (l.map (·.f0)) i l.length).2 := Int.mul_nonneg (by omega) (by omega)
    have n1 : rd (l.map (·.f1)) (i : Int) * invM (lagP (l.map (·.f0)) i l.length).2 ≤ 250 * 250 := Int.mul_le_mul (by omega) (by omega) (by omega) (by omega)
    rw [wrap_id (by omega) (by omega), Int.tmod_eq_emod_of_nonneg n0]
    have hpl : (lagP (l.map (·.f0)) i l.length).1.length = l.length := by rw [lagP_length, if_pos hi]
    exact through_l2 l i _ (emod_rest _) _ cs (lagP_rests _ _ _) hc (by rw [hpl]; exact hl) (by omega) (by omega) r R hnext l.length k 0 (by omega) (by omega)
  | succ d ih =>
    intro k j hj hk
    obtain ⟨k, rfl, hk⟩ := fuel hk
    have := ih k (j + 1) (by omega) (by omega)
    simp only [lagP] at this
    simp only [spec_through.l1]
    by_cases e : j = i
    · subst e
      rw [if_pos rfl] at this
      rw [if_pos (by omega), if_pos rfl, wrap_succ (by omega)]
      exact this
    · rw [if_neg e] at this
      obtain ⟨p1, p2, p3⟩ := lagP_inv hx hnd (show i < (l.map (·.f0)).length by omega) j (by omega)
      have b0 := hx _ (rd_mem (xs := l.map (·.f0)) (i := j) (by omega))
      have b1 := hx _ (rd_mem (xs := l.map (·.f0)) (i := i) (by omega))
      have hpl := lagP_length (l.map (·.f0)) i j
      have hpl2 : (lagP (l.map (·.f0)) i j).1.length ≤ j + 1 := by rw [hpl]; split <;> omega
      rw [if_pos (by omega), if_neg (by omega), if_pos (by omega), ← rdX (by omega), times_spec k _ _ (lagP_rests _ _ _) b0 (by omega) (by omega), Option.bind_some, if_pos (by omega), if_pos (by omega), ← rdX hi, wrap_succ (by omega)]
      have n0 : 0 ≤ (lagP (l.map (·.f0)) i j).2 * (rd (l.map (·.f0)) (i : Int) - rd (l.map (·.f0)) (j : Int) + 251) := Int.mul_nonneg (by omega) (by omega)
      have n1 : (lagP (l.map (·.f0)) i j).2 * (rd (l.map (·.f0)) (i : Int) - rd (l.map (·.f0)) (j : Int) + 251) ≤ 250 * 501 := Int.mul_le_mul (by omega) (by omega) (by omega) (by omega)
      rw [wrap_id (x := rd (l.map (·.f0)) (i : Int) - rd (l.map (·.f0)) (j : Int)) (by omega) (by omega), wrap_id (x := rd (l.map (·.f0)) (i : Int) - rd (l.map (·.f0)) (j : Int) + 251) (by omega) (by omega), wrap_id (by omega) (by omega), Int.tmod_eq_emod_of_nonneg n0]
      exact this
theorem through_l0 (l : List S40) (hx : ∀ x ∈ l.map (·.f0), 0 ≤ x ∧ x < 251) (hnd : (l.map (·.f0)).Nodup) (hy : ∀ x ∈ l.map (·.f1), 0 ≤ x ∧ x < 251) (hb : l.length ≤ 12) :
    ∀ (d k i : Nat), i + d = l.length → d * 30 + 310 < k → spec_through.l0 k l (lagr (l.map (·.f0)) (l.map (·.f1)) i) (i : Int) = some (lagr (l.map (·.f0)) (l.map (·.f1)) l.length) := by
  have hxl : (l.map (·.f0)).length = l.length := by simp
  intro d
  induction d with
  | zero =>
    intro k i hi hk
    obtain ⟨k, rfl, hk⟩ := fuel hk
    simp only [spec_through.l0]
    rw [if_neg (by omega), show i = l.length by omega]
  | succ d ih =>
    intro k i hi hk
    obtain ⟨k, rfl, hk⟩ := fuel hk
    simp only [spec_through.l0]
    rw [if_pos (by omega)]
    obtain ⟨q1, q2⟩ := lagr_inv (l.map (·.f1)) hx hnd i (by omega)
    obtain ⟨R, hR⟩ : ∃ R, R = d * 30 + 310 := ⟨_, rfl⟩
    have hR0 : 300 ≤ R := by omega
    have hk2 : l.length + l.length + R + 2 < k := by omega
    have hnext : ∀ k, R < k → spec_through.l0 k l (accM (rd (l.map (·.f1)) i * invM (lagP (l.map (·.f0)) i l.length).2 % 251) (lagP (l.map (·.f0)) i l.length).1 (lagr (l.map (·.f0)) (l.map (·.f1)) i)) ((i + 1 : Nat) : Int) = some (lagr (l.map (·.f0)) (l.map (·.f1)) l.length) := by
      intro k' hk'
      have := ih k' (i + 1) (by omega) (by omega)
      rw [lagr, hxl] at this
      exact this
    exact through_l1 l hx hnd hy (by omega) i (by omega) _ q1 (by rw [lagr_length, hxl]) _ R hR0 hnext l.length k 0 (Nat.zero_add _) hk2
theorem through_spec (k : Nat) (l : List S40) (hp : Places (xyOf l)) (hb : l.length ≤ 12) (hk : 1000 < k) : spec_through.f k l = some (thr (xyOf l)) := by
  have hx : ∀ x ∈ l.map (·.f0), 0 ≤ x ∧ x < 251 := fun x hx => by
    obtain ⟨s, hs, rfl⟩ := List.mem_map.1 hx
    exact (hp.xy (s.f0, s.f1) (List.mem_map_of_mem (f := fun s : S40 => (s.f0, s.f1)) hs)).1
  have hy : ∀ x ∈ l.map (·.f1), 0 ≤ x ∧ x < 251 := fun x hx => by
    obtain ⟨s, hs, rfl⟩ := List.mem_map.1 hx
    exact (hp.xy (s.f0, s.f1) (List.mem_map_of_mem (f := fun s : S40 => (s.f0, s.f1)) hs)).2
  have hnd := hp.nd
  rw [xyOf_x] at hnd
  unfold spec_through.f
  rw [if_pos (by omega), toNat_cast, if_pos (by omega)]
  have := through_l0 l hx hnd hy hb l.length k 0 (by omega) (by omega)
  have e := lagr_thr hp
  rw [xyOf_x, xyOf_y, xyOf_length] at e
  rw [e, lagr, List.length_map] at this
  exact this

/-! ### sfit -/
theorem sfits_l0 (cs : List Int) (hr : Rests cs) (hl : cs.length ≤ 8) (l : List S40) (hx : ∀ s ∈ l, 0 ≤ s.f0 ∧ s.f0 < 251) (hb : l.length ≤ 12) (b : Bool) (hbb : b = true ↔ ∀ s ∈ l, hornM cs s.f0 = s.f1) : ∀ (d k i : Nat), i + d = l.length → (∀ s ∈ l.take i, hornM cs s.f0 = s.f1) → d + 12 < k → spec_fits.l0 k l cs (i : Int) = some b := by
  intro d
  induction d with
  | zero =>
    intro k i hi hp hk
    obtain ⟨k, rfl, -⟩ := fuel hk
    simp only [spec_fits.l0]
    rw [List.take_of_length_le (by omega)] at hp
    rw [if_neg (by omega), hbb.2 hp]
  | succ d ih =>
    intro k i hi hp hk
    obtain ⟨k, rfl, hk⟩ := fuel hk
    simp only [spec_fits.l0]
    rw [if_pos (by omega), if_pos (by omega), spolyAt_spec k cs _ hr (hx _ (rdS_mem (by omega))) (by omega) (by omega), Option.bind_some]
    by_cases h : hornM cs (rd_T40 l (i : Int)).f0 = (rd_T40 l (i : Int)).f1
    · rw [if_pos h, wrap_succ (by omega)]
      refine ih k (i + 1) (by omega) (fun s hs => ?_) (by omega)
      rw [takeS (by omega)] at hs
      rcases List.mem_append.1 hs with hs | hs
      · exact hp s hs
      · rw [List.mem_singleton] at hs; subst hs; exact h
    · rw [if_neg h]
      cases b with
      | false => rfl
      | true => exact absurd (hbb.1 rfl _ (rdS_mem (by omega))) h
theorem sfits_spec (k : Nat) (l : List S40) (h1 : OkSh l) (need : Int) (h2 : 1 ≤ need ∧ need ≤ 8) (hk : 1100 < k) (b : Bool) (hb : b = true ↔ FitS l need) : spec_fits.f k l need = some b := by
  unfold spec_fits.f
  obtain ⟨n, rfl⟩ := Int.eq_ofNat_of_zero_le (show 0 ≤ need by omega)
  have hp := h1.places
  have hl12 := h1.1
  have hm : mn (n : Int) (l.length : Int) = ((min n l.length : Nat) : Int) := by unfold mn; split <;> omega
  have hpt : Places (xyOf (l.take (min n l.length))) := by rw [xyOf_take]; exact hp.sub (List.take_sublist _ _)
  rw [hm, if_pos (by omega), if_pos (by omega), toNat_cast, through_spec k _ hpt (by rw [List.length_take]; omega) (by omega), Option.bind_some]
  refine sfits_l0 (thr (xyOf (l.take (min n l.length)))) (thr_rests hpt) (by rw [thr_length hpt, xyOf_length, List.length_take]; omega) l (fun s hs => by have := h1.2.1 s hs; omega) hl12 b ?_ l.length k 0 (by omega) (by simp) (by omega)
  rw [hb]
  unfold FitS
  rw [Int.toNat_natCast]
  have back : (∀ p ∈ xyOf l, hornM (thr (xyOf (l.take (min n l.length)))) p.1 = p.2) ↔ ∀ s ∈ l, hornM (thr (xyOf (l.take (min n l.length)))) s.f0 = s.f1 := by
    constructor
    · exact fun h s hs => h (s.f0, s.f1) (List.mem_map_of_mem (f := fun s : S40 => (s.f0, s.f1)) hs)
    · exact fun h p hp => by obtain ⟨s, hs, rfl⟩ := List.mem_map.1 hp; exact h s hs
  rw [← back]
  rcases Nat.lt_or_ge n l.length with h3 | h3
  · rw [Nat.min_eq_left (by omega), xyOf_take, fit_iff hp (by rw [xyOf_length]; omega)]
    exact ⟨fun h => h.2.2, fun h => ⟨h1, by omega, h⟩⟩
  · rw [Nat.min_eq_right h3, List.take_length]
    exact ⟨fun _ p hp2 => thr_horn hp hp2, fun _ => ⟨h1, by omega, fit_few hp (by rw [xyOf_length]; omega)⟩⟩
/-! ### swrong -/
theorem sdrop_spec (l : List S40) (i : Nat) (hi : i < l.length) (hl : l.length ≤ 1000) : spec_dropShare.f l (i : Int) = some (without l i) := by
  unfold spec_dropShare.f without
  rw [Option.bind_some, if_pos (by omega), if_pos (by omega), Option.bind_some, if_pos (by simp; omega), Option.bind_some, wrap_succ (by omega), if_pos (by omega), if_pos (by omega), Option.bind_some, if_pos (by simp; omega), toNat_cast, toNat_cast, List.nil_append]
theorem OkSh.sub {l m : List S40} (h : OkSh l) (hs : m.Sublist l) : OkSh m := by
  refine ⟨?_, fun s hm => h.2.1 s (hs.subset hm), h.2.2.sublist (hs.map _)⟩
  have := hs.length_le
  have := h.1
  omega
theorem without_sub (l : List S40) (i : Nat) : (without l i).Sublist l := by rw [without_erase]; exact List.eraseIdx_sublist _ _
theorem swrong_l0 (l : List S40) (h : OkSh l) (need : Int) (hn : 1 ≤ need ∧ need ≤ 8) : ∀ (d k i : Nat), i + d = l.length → d + 1200 < k → ∃ r, spec_WrongShare.l0 k l need (i : Int) = some r ∧ WrongAt l need i r := by
  have hl := h.1
  intro d
  induction d with
  | zero =>
    intro k i hi hk
    obtain ⟨k, rfl, -⟩ := fuel hk
    simp only [spec_WrongShare.l0]
    rw [if_neg (by omega)]
    exact ⟨_, rfl, .inl ⟨rfl, fun j hj hj2 => by omega⟩⟩
  | succ d ih =>
    intro k i hi hk
    obtain ⟨k, rfl, hk⟩ := fuel (show d + 1201 < k by omega)
    obtain ⟨b, hb⟩ := fitB (without l i) need
    simp only [spec_WrongShare.l0]
    rw [if_pos (by omega), sdrop_spec l i (by omega) (by omega), Option.bind_some, sfits_spec k _ (h.sub (without_sub l i)) need hn (by omega) b hb, Option.bind_some]
    by_cases h : b = true
    · rw [if_pos h]
      exact ⟨_, rfl, .inr ⟨i, rfl, Nat.le_refl _, by omega, hb.1 h, fun q hq hq2 => by omega⟩⟩
    · rw [if_neg h, wrap_succ (by omega)]
      obtain ⟨r, h1, h2⟩ := ih k (i + 1) (by omega) (by omega)
      exact ⟨r, h1, h2.step (fun hf => h (hb.2 hf))⟩
theorem swrong_spec (k : Nat) (l : List S40) (need : Int) (hb : l.length ≤ 1048576) (hk : 3145800 < k) : ∃ r, spec_WrongShare.f k l need = some r ∧ WrongIs l need r := by
  unfold spec_WrongShare.f
  rw [svalid_spec k l hb (by omega), Option.bind_some]
  obtain ⟨b, hbb⟩ := fitB l need
  have hfit : OkSh l → (1 ≤ need ∧ need ≤ 8) → ∀ k, 1100 < k → spec_fits.f k l need = some b := fun h1 h2 k hk => sfits_spec k l h1 need h2 hk b hbb
  obtain ⟨k, rfl, hk'⟩ := fuel hk
  simp only [spec_WrongShare.j0, if_true]
  by_cases h1 : OkSh l
  · rw [decide_eq_true h1, if_pos rfl, inRange_spec, Option.bind_some]
    by_cases h2 : 1 ≤ need ∧ need ≤ 8
    · rw [decide_eq_true h2, if_pos rfl, wrap_id (by omega) (by omega)]
      by_cases h4 : (l.length : Int) < need + 2
      · rw [if_pos h4]; exact ⟨_, rfl, .inr ⟨fun h => by have := h.2.2.1; omega, rfl⟩⟩
      rw [if_neg h4, hfit h1 h2 _ (by omega), Option.bind_some]
      by_cases h5 : b = true
      · rw [if_pos h5]; exact ⟨_, rfl, .inr ⟨fun h => h.2.2.2 (hbb.1 h5), rfl⟩⟩
      · rw [if_neg h5]
        obtain ⟨r, e, hw⟩ := swrong_l0 l h1 need h2 l.length k 0 (by omega) (by have := h1.1; omega)
        exact ⟨r, e, .inl ⟨⟨h1, by omega, by omega, fun hf => h5 (hbb.2 hf)⟩, hw⟩⟩
    · rw [decide_eq_false h2, if_neg (by decide)]
      exact ⟨_, rfl, .inr ⟨fun h => h2 h.2.1, rfl⟩⟩
  · rw [decide_eq_false h1, if_neg (by decide)]
    exact ⟨_, rfl, .inr ⟨fun h => h1 h.1, rfl⟩⟩

/-! ### exactshares -/
def convSh (x : S70) : S40 := ⟨x.f0, x.f1⟩
theorem rdLS_at {xs : List S70} {i : Nat} (h : i < xs.length) : rd_T70 xs (i : Int) = xs[i] := by
  simp [rd_T70, List.getD_eq_getElem?_getD, List.getElem?_eq_getElem h]
theorem takeLS {xs : List S70} {i : Nat} (h : i < xs.length) : xs.take (i + 1) = xs.take i ++ [rd_T70 xs (i : Int)] := by
  rw [rdLS_at h, List.take_succ_eq_append_getElem h]
theorem toShareS_l0 (xs : List S70) (hb : xs.length ≤ 1048576) : ∀ (d k i : Nat), i + d = xs.length → d < k → laws_toShareS.l0 k xs ((xs.take i).map convSh ++ List.replicate d z40) (i : Int) = some (xs.map convSh) := by
  intro d
  induction d with
  | zero =>
    intro k i hi hk
    obtain ⟨k, rfl, -⟩ := fuel hk
    simp only [laws_toShareS.l0]
    rw [if_neg (by omega), List.take_of_length_le (by omega)]
    simp
  | succ d ih =>
    intro k i hi hk
    obtain ⟨k, rfl, hk⟩ := fuel hk
    have hti : ((xs.take i).map convSh).length = i := by simp; omega
    simp only [laws_toShareS.l0, laws_toShare.f]
    rw [if_pos (by omega), if_pos (by omega), Option.bind_some, if_pos (by rw [List.length_append, hti, List.length_replicate]; omega), toNat_cast, wrap_succ (by omega)]
    have := ih k (i + 1) (by omega) (by omega)
    rw [takeLS (by omega), List.map_append, List.append_assoc] at this
    rw [List.replicate_succ, List.set_append_right _ _ (by omega), hti, Nat.sub_self, List.set_cons_zero]
    exact this
theorem toShareS_spec (k : Nat) (xs : List S70) (hb : xs.length ≤ 1048576) (hk : 1048600 < k) : laws_toShareS.f k xs = some (xs.map convSh) := by
  unfold laws_toShareS.f
  have := toShareS_l0 xs hb xs.length k 0 (by omega) (by omega)
  rw [if_pos (by omega), toNat_cast, if_pos (by omega)]
  simpa using this
theorem szShareS_spec (xs : List S70) (h : xs.length ≤ maxLen) : ∃ r, laws_szShareS.f xs 1048576 = some r ∧ (0 ≤ r → xs.length ≤ 1048576) := by
  have hm : maxLen ≤ 9223372036854775807 := by decide
  unfold laws_szShareS.f
  rw [wrap_id (by omega) (by omega)]
  by_cases h1 : 1048576 - (xs.length : Int) < 0
  · rw [if_pos h1]
    exact ⟨_, rfl, fun h => by omega⟩
  · rw [if_neg h1]
    exact ⟨_, rfl, fun _ => by omega⟩
theorem eqShareS_l0 (a : List S40) (hb : a.length ≤ 1048576) : ∀ (d k i : Nat), i + d = a.length → d < k → laws_eqShareS.l0 k a a (i : Int) = some true := by
  intro d
  induction d with
  | zero =>
    intro k i hi hk
    obtain ⟨k, rfl, -⟩ := fuel hk
    simp only [laws_eqShareS.l0]
    rw [if_neg (by omega)]
  | succ d ih =>
    intro k i hi hk
    obtain ⟨k, rfl, hk⟩ := fuel hk
    simp only [laws_eqShareS.l0, laws_eqShare.f]
    rw [if_pos (by omega), if_pos (by omega), if_pos (by omega), if_pos trivial, if_pos trivial, Option.bind_some, if_pos rfl, wrap_succ (by omega)]
    exact ih k (i + 1) (by omega) (by omega)
theorem eqShareS_self (k : Nat) (a : List S40) (hb : a.length ≤ 1048576) (hk : 1048600 < k) : laws_eqShareS.f k a a = some true := by
  unfold laws_eqShareS.f
  rw [if_pos rfl]
  exact eqShareS_l0 a hb a.length k 0 (by omega) (by omega)

/-! ### the law -/
theorem FnExactWrongShare (l0 : List S70) (a1 : Int) (h0 : l0.length ≤ maxLen) (q0 : ∀ x2 ∈ l0, ((Lit.int .i64 x2.f0).wf = true ∧ (Lit.int .i64 x2.f1).wf = true)) (w1 : (Lit.int .i64 a1).wf = true) : laws_FnExactWrongShare.f 4000000 l0 a1 = some true := by
  unfold laws_FnExactWrongShare.f
  obtain ⟨r, hr, hl⟩ := szShareS_spec l0 h0
  rw [hr, Option.bind_some]
  by_cases h1 : r < 0
  · rw [if_pos h1]
  · have hb := hl (by omega)
    obtain ⟨s, e1, w1⟩ := swrong_spec 4000000 (l0.map convSh) a1 (by simpa using hb) (by omega)
    obtain ⟨t, e2, w2⟩ := iwrong_spec 4000000 (l0.map convSh) a1 (by omega)
    rw [if_neg h1, toShareS_spec _ _ hb (by omega), Option.bind_some, e1, Option.bind_some, Option.bind_some, e2, Option.bind_some, if_pos (w2.one w1), Option.bind_some, eqShareS_self _ _ (by simpa using hb) (by omega), Option.bind_some, if_pos rfl]

end Go.Proofs.Ytaoecaikeikneaa.Pure
