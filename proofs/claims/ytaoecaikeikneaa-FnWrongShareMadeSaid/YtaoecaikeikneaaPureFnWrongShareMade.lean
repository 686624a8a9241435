/- The law FnWrongShareMade holds: the program's function answers as the reference does at every drawn input, and has the law's property; no condition. -/
import Derived.Test.YtaoecaikeikneaaPFnWrongShareMadex9
import Derived.Test.YtaoecaikeikneaaPoly
set_option linter.unusedVariables false
set_option linter.unusedSimpArgs false
namespace Go.Proofs.Ytaoecaikeikneaa.Pure
open Go.RowKit Go.Proofs.Ytaoecaikeikneaa.PFnWrongShareMade Go.Proofs.YtaoecaikeikneaaW.PrintWords Go.Proofs.YtaoecaikeikneaaW.PrintLast Go.Proofs.YtaoecaikeikneaaW.PrintMore

/-! ### within -/
theorem allWithin_l0 (xs : List Int) (lo up : Int) (hb : xs.length < 4611686018427387904) : ∀ (d k i : Nat), i + d = xs.length → d < k → impl_allWithin.l0 k lo up xs (xs.length : Int) (i : Int) = some ((xs.drop i).all fun x => decide (lo ≤ x ∧ x ≤ up)) := by
  intro d
  induction d with
  | zero =>
    intro k i hi hk
    obtain ⟨k, rfl, -⟩ := fuel hk
    simp only [impl_allWithin.l0]
    rw [if_neg (by omega), drop_end (by omega)]
    simp
  | succ d ih =>
    intro k i hi hk
    obtain ⟨k, rfl, hk⟩ := fuel hk
    simp only [impl_allWithin.l0]
    rw [if_pos (by omega), if_pos (by omega), if_pos (by omega), wrap_succ (by omega), drop_rd (by omega)]
    simp only [List.all_cons]
    rw [ih k (i + 1) (by omega) (by omega)]
    by_cases h1 : rd xs (i : Int) < lo
    · rw [if_pos h1, decide_eq_false (by omega)]; rfl
    · rw [if_neg h1]
      by_cases h2 : rd xs (i : Int) > up
      · rw [if_pos h2, decide_eq_false (by omega)]; rfl
      · rw [if_neg h2, decide_eq_true (by omega)]; rfl
theorem allWithin_spec (k : Nat) (xs : List Int) (lo up : Int) (hb : xs.length < 4611686018427387904) (hk : xs.length < k) : impl_allWithin.f k xs lo up = some (xs.all fun x => decide (lo ≤ x ∧ x ≤ up)) := by
  unfold impl_allWithin.f
  have := allWithin_l0 xs lo up hb xs.length k 0 (by omega) hk
  simpa using this

/-! ### different -/
theorem flags_set {fl : List Bool} {n : Int} {seen : List Int} {x : Int} (hl : (fl.length : Int) = n) (h : ∀ j : Int, 0 ≤ j → j < n → rdOf false fl j = decide (j ∈ seen)) (h0 : 0 ≤ x) (h1 : x < n) :
    ∀ j : Int, 0 ≤ j → j < n → rdOf false (fl.set x.toNat true) j = decide (j ∈ seen ++ [x]) := by
  intro j hj0 hj
  have := h j hj0 hj
  simp only [rdOf, List.getD_eq_getElem?_getD, List.getElem?_set] at this ⊢
  by_cases e : x = j
  · subst e
    rw [if_pos rfl, if_pos (by omega)]
    simp
  · rw [if_neg (by omega), this]
    have : ¬ j = x := fun h => e h.symm
    simp [this]
theorem different_l0 (xs : List Int) (n : Int) (hb : xs.length < 4611686018427387904) : ∀ (d k i : Nat) (fl : List Bool), (fl.length : Int) = n → (∀ j : Int, 0 ≤ j → j < n → rdOf false fl j = decide (j ∈ xs.take i)) → i + d = xs.length → d < k → impl_differentBelow.l0 k n fl xs (xs.length : Int) (i : Int) = some (memB n (xs.take i) (xs.drop i)) := by
  intro d
  induction d with
  | zero =>
    intro k i fl hl hf hi hk
    obtain ⟨k, rfl, -⟩ := fuel hk
    simp only [impl_differentBelow.l0]
    rw [if_neg (by omega), drop_end (by omega)]
    simp [memB]
  | succ d ih =>
    intro k i fl hl hf hi hk
    obtain ⟨k, rfl, hk⟩ := fuel hk
    simp only [impl_differentBelow.l0]
    rw [if_pos (by omega), if_pos (by omega), if_pos (by omega), wrap_succ (by omega), drop_rd (by omega)]
    simp only [memB]
    by_cases h1 : rd xs (i : Int) < 0
    · rw [if_pos h1, decide_eq_false (by omega)]; rfl
    · rw [if_neg h1]
      by_cases h2 : rd xs (i : Int) ≥ n
      · rw [if_pos h2, decide_eq_false (by omega)]; rfl
      · rw [if_neg h2, if_pos (by omega), if_pos (by omega), hf _ (by omega) (by omega), decide_eq_true (show 0 ≤ rd xs (i : Int) ∧ rd xs (i : Int) < n by omega)]
        by_cases h3 : rd xs (i : Int) ∈ xs.take i
        · rw [decide_eq_true h3, if_pos rfl]; rfl
        · rw [decide_eq_false h3, if_neg (by decide), ih k (i + 1) _ (by simpa using hl) (by rw [take_rd (by omega)]; exact flags_set hl hf (by omega) (by omega)) (by omega) (by omega), take_rd (by omega)]; rfl
theorem different_spec (k : Nat) (xs : List Int) (n : Int) (hn : 0 ≤ n) (hn2 : n ≤ 281474976710656) (hb : xs.length < 4611686018427387904) (hk : xs.length < k) : impl_differentBelow.f k xs n = some (decide (GoodM xs n)) := by
  unfold impl_differentBelow.f
  by_cases h : (xs.length : Int) > n
  · rw [if_pos h, decide_eq_false]
    intro hg
    obtain ⟨m, rfl⟩ := Int.eq_ofNat_of_zero_le hn
    have := hg.le
    omega
  · rw [if_neg h, if_pos hn, if_pos (by omega)]
    have := different_l0 xs n hb xs.length k 0 (List.replicate n.toNat false) (by simp; omega) (fun j h0 h1 => by simp [rdOf, List.getD_eq_getElem?_getD, List.getElem?_replicate]; split <;> rfl) (by omega) hk
    rw [← memB_good]
    simpa using this

/-! ### place -/
theorem placeIn_l0 (xs : List Int) (x : Int) (hb : xs.length < 4611686018427387904) : ∀ (d k i : Nat), i + d = xs.length → d < k → spec_placeIn.l0 k xs x (i : Int) = some (idxM (xs.drop i) x i) := by
  intro d
  induction d with
  | zero =>
    intro k i hi hk
    obtain ⟨k, rfl, -⟩ := fuel hk
    simp only [spec_placeIn.l0]
    rw [if_neg (by omega), drop_end (by omega)]
    simp [idxM]
  | succ d ih =>
    intro k i hi hk
    obtain ⟨k, rfl, hk⟩ := fuel hk
    simp only [spec_placeIn.l0]
    rw [if_pos (by omega), if_pos (by omega), wrap_succ (by omega), drop_rd (by omega)]
    simp only [idxM]
    rw [ih k (i + 1) (by omega) (by omega)]
    split <;> rfl
theorem placeIn_spec (k : Nat) (xs : List Int) (x : Int) (hb : xs.length < 4611686018427387904) (hk : xs.length < k) : spec_placeIn.f k xs x = some (idxM xs x 0) := by
  unfold spec_placeIn.f
  have := placeIn_l0 xs x hb xs.length k 0 (by omega) hk
  simpa using this

/-! ### inrange -/
theorem inRange_spec (a lo up : Int) : spec_inRange.f a lo up = some (decide (lo ≤ a ∧ a ≤ up)) := by
  unfold spec_inRange.f
  by_cases h : lo ≤ a <;> simp [h]

/-! ### ranges -/
theorem allIn_l0 (xs : List Int) (lo up : Int) (hb : xs.length < 4611686018427387904) : ∀ (d k i : Nat), i + d = xs.length → d < k → spec_allIn.l0 k xs lo up (i : Int) = some ((xs.drop i).all fun x => decide (lo ≤ x ∧ x ≤ up)) := by
  intro d
  induction d with
  | zero =>
    intro k i hi hk
    obtain ⟨k, rfl, -⟩ := fuel hk
    simp only [spec_allIn.l0]
    rw [if_neg (by omega), drop_end (by omega)]
    simp
  | succ d ih =>
    intro k i hi hk
    obtain ⟨k, rfl, hk⟩ := fuel hk
    simp only [spec_allIn.l0]
    rw [if_pos (by omega), if_pos (by omega), inRange_spec, wrap_succ (by omega), drop_rd (by omega)]
    simp only [Option.bind_some, List.all_cons]
    rw [ih k (i + 1) (by omega) (by omega)]
    cases decide (lo ≤ rd xs (i : Int) ∧ rd xs (i : Int) ≤ up) <;> simp
theorem allIn_spec (k : Nat) (xs : List Int) (lo up : Int) (hb : xs.length < 4611686018427387904) (hk : xs.length < k) : spec_allIn.f k xs lo up = some (xs.all fun x => decide (lo ≤ x ∧ x ≤ up)) := by
  unfold spec_allIn.f
  have := allIn_l0 xs lo up hb xs.length k 0 (by omega) hk
  simpa using this

/-! ### shares -/
theorem rdS_at {xs : List S40} {i : Nat} (h : i < xs.length) : rd_T40 xs (i : Int) = xs[i] := by
  simp [rd_T40, List.getD_eq_getElem?_getD, List.getElem?_eq_getElem h]
theorem rdS_mem {xs : List S40} {i : Nat} (h : i < xs.length) : rd_T40 xs (i : Int) ∈ xs := by rw [rdS_at h]; exact List.getElem_mem h
theorem takeS {xs : List S40} {i : Nat} (h : i < xs.length) : xs.take (i + 1) = xs.take i ++ [rd_T40 xs (i : Int)] := by
  rw [rdS_at h, List.take_succ_eq_append_getElem h]
theorem dropS {xs : List S40} {i : Nat} (h : i < xs.length) : xs.drop i = rd_T40 xs (i : Int) :: xs.drop (i + 1) := by
  rw [rdS_at h, List.drop_eq_getElem_cons h]
theorem rdX {xs : List S40} {i : Nat} (h : i < xs.length) : rd (xs.map (·.f0)) (i : Int) = (rd_T40 xs (i : Int)).f0 := by
  rw [rdS_at h, rd_get (by simpa using h), List.getElem_map]
theorem rdY {xs : List S40} {i : Nat} (h : i < xs.length) : rd (xs.map (·.f1)) (i : Int) = (rd_T40 xs (i : Int)).f1 := by
  rw [rdS_at h, rd_get (by simpa using h), List.getElem_map]
/-- Valid shares. -/
def OkSh (l : List S40) : Prop := l.length ≤ 12 ∧ (∀ s ∈ l, (1 ≤ s.f0 ∧ s.f0 ≤ 250) ∧ (0 ≤ s.f1 ∧ s.f1 ≤ 250)) ∧ (l.map (·.f0)).Nodup
instance (l : List S40) : Decidable (OkSh l) := by unfold OkSh; infer_instance
theorem ivalid_l0 (l : List S40) (hl : l.length ≤ 12) : ∀ (d k i : Nat), i + d = l.length → d + 30 < k → impl_ValidShares.l0 k ((l.take i).map (·.f0)) ((l.take i).map (·.f1)) l (l.length : Int) (i : Int) = some (decide (OkSh l)) := by
  intro d
  induction d with
  | zero =>
    intro k i hi hk
    obtain ⟨k, rfl, -⟩ := fuel (show 0 < k by omega)
    simp only [impl_ValidShares.l0]
    rw [if_neg (by omega), List.take_of_length_le (by omega), allWithin_spec k _ 1 250 (by simp; omega) (by simp; omega), Option.bind_some]
    by_cases h1 : ((l.map (·.f0)).all fun x => decide (1 ≤ x ∧ x ≤ 250)) = true
    · rw [if_pos h1, different_spec k _ 251 (by omega) (by omega) (by simp; omega) (by simp; omega), Option.bind_some]
      by_cases h2 : GoodM (l.map (·.f0)) 251
      · rw [decide_eq_true h2, if_pos rfl, allWithin_spec k _ 0 250 (by simp; omega) (by simp; omega), Option.bind_some]
        congr 1
        rw [Bool.eq_iff_iff, decide_eq_true_iff, List.all_eq_true]
        rw [List.all_eq_true] at h1
        constructor
        · intro h3
          refine ⟨hl, fun s hs => ⟨?_, ?_⟩, h2.1⟩
          · simpa using h1 s.f0 (List.mem_map_of_mem hs)
          · simpa using h3 s.f1 (List.mem_map_of_mem hs)
        · intro h3 y hy
          obtain ⟨s, hs, rfl⟩ := List.mem_map.1 hy
          simpa using (h3.2.1 s hs).2
      · rw [decide_eq_false h2, if_neg (by decide), decide_eq_false]
        intro h3
        refine h2 ⟨h3.2.2, fun x hx => ?_⟩
        obtain ⟨s, hs, rfl⟩ := List.mem_map.1 hx
        have := h3.2.1 s hs
        omega
    · rw [if_neg h1, decide_eq_false]
      intro h3
      refine h1 (List.all_eq_true.2 fun x hx => ?_)
      obtain ⟨s, hs, rfl⟩ := List.mem_map.1 hx
      simpa using (h3.2.1 s hs).1
  | succ d ih =>
    intro k i hi hk
    obtain ⟨k, rfl, hk⟩ := fuel hk
    simp only [impl_ValidShares.l0]
    rw [if_pos (by omega), if_pos (by omega), if_pos (by omega), wrap_succ (by omega), Option.bind_some, if_pos (by simp; omega), Option.bind_some, if_pos (by simp; omega)]
    have := ih k (i + 1) (by omega) (by omega)
    rw [takeS (by omega), List.map_append, List.map_append] at this
    exact this
theorem ivalid_spec (k : Nat) (l : List S40) (hk : 50 < k) : impl_ValidShares.f k l = some (decide (OkSh l)) := by
  unfold impl_ValidShares.f
  by_cases h : (l.length : Int) > 12
  · rw [if_pos h, decide_eq_false]
    intro h2
    have := h2.1
    omega
  · rw [if_neg h]
    have := ivalid_l0 l (by omega) l.length k 0 (by omega) (by omega)
    simpa using this
theorem idxM_ge : ∀ (xs : List Int) (x : Int) (i : Nat), (idxM xs x i ≥ 0) ↔ x ∈ xs := by
  intro xs
  induction xs with
  | nil => intro x i; simp [idxM]
  | cons a t ih =>
    intro x i
    simp only [idxM]
    by_cases e : a = x
    · rw [if_pos e]; simp [e]
    · rw [if_neg e, ih]
      simp [Ne.symm e]
theorem splaces_l0 (xs : List Int) (hb : xs.length ≤ 1048576) : ∀ (d k i : Nat), i + d = xs.length → (xs.take i).Nodup → d + 1048580 < k → spec_validPlaces.l0 k xs (i : Int) = some (decide (xs.length ≤ 12 ∧ (∀ x ∈ xs, 1 ≤ x ∧ x ≤ 250) ∧ xs.Nodup)) := by
  intro d
  induction d with
  | zero =>
    intro k i hi hn hk
    obtain ⟨k, rfl, -⟩ := fuel (show 0 < k by omega)
    simp only [spec_validPlaces.l0]
    rw [List.take_of_length_le (by omega)] at hn
    rw [if_neg (by omega)]
    by_cases h : (xs.length : Int) ≤ 12
    · rw [if_pos h, allIn_spec k xs 1 250 (by omega) (by omega), Option.bind_some]
      congr 1
      rw [Bool.eq_iff_iff, decide_eq_true_iff, List.all_eq_true]
      constructor
      · exact fun h2 => ⟨by omega, fun x hx => by simpa using h2 x hx, hn⟩
      · exact fun h2 x hx => by simpa using h2.2.1 x hx
    · rw [if_neg h, decide_eq_false (fun h2 => h (by omega))]
  | succ d ih =>
    intro k i hi hn hk
    obtain ⟨k, rfl, hk⟩ := fuel hk
    simp only [spec_validPlaces.l0]
    rw [if_pos (by omega), if_pos (by omega), if_pos (by omega), wrap_succ (by omega), toNat_cast, placeIn_spec k _ _ (by simp; omega) (by simp; omega), Option.bind_some]
    by_cases h : rd xs (i : Int) ∈ xs.take i
    · rw [if_pos ((idxM_ge _ _ _).2 h), decide_eq_false]
      intro h2
      have h3 := h2.2.2
      rw [← List.take_append_drop i xs, List.nodup_append] at h3
      exact h3.2.2 _ h _ (by rw [drop_rd (by omega)]; simp) rfl
    · rw [if_neg (fun h2 => h ((idxM_ge _ _ _).1 h2))]
      refine ih k (i + 1) (by omega) ?_ (by omega)
      rw [take_rd (by omega), List.nodup_append]
      exact ⟨hn, by simp, fun a ha b hb2 => by rw [List.mem_singleton] at hb2; subst hb2; exact fun e => h (e ▸ ha)⟩
theorem splaces_spec (k : Nat) (xs : List Int) (hb : xs.length ≤ 1048576) (hk : 2097200 < k) : spec_validPlaces.f k xs = some (decide (xs.length ≤ 12 ∧ (∀ x ∈ xs, 1 ≤ x ∧ x ≤ 250) ∧ xs.Nodup)) := by
  unfold spec_validPlaces.f
  exact splaces_l0 xs hb xs.length k 0 (by omega) (by simp) (by omega)

/-! ### placeso -/
theorem xyOf_x (l : List S40) : (xyOf l).map (·.1) = l.map (·.f0) := by simp [xyOf, Function.comp_def]
theorem xyOf_y (l : List S40) : (xyOf l).map (·.2) = l.map (·.f1) := by simp [xyOf, Function.comp_def]
theorem xyOf_length (l : List S40) : (xyOf l).length = l.length := by simp [xyOf]
theorem OkSh.places {l : List S40} (h : OkSh l) : Places (xyOf l) := by
  refine ⟨fun q hq => ?_, by rw [xyOf_x]; exact h.2.2⟩
  obtain ⟨s, hs, rfl⟩ := List.mem_map.1 hq
  have := h.2.1 s hs
  exact ⟨⟨by simp only; omega, by simp only; omega⟩, ⟨by simp only; omega, by simp only; omega⟩⟩
theorem ipoly_spec {l : List S40} (h : Places (xyOf l)) (hl : l.length ≤ 8) : impl_polyOf.f l = some (thr (xyOf l)) := by
  unfold impl_polyOf.f
  rw [if_pos]
  unfold polyOK
  rw [Bool.and_eq_true, Bool.and_eq_true]
  refine ⟨decide_eq_true hl, List.all_eq_true.2 fun s hs => ?_, decide_eq_true ?_⟩
  · have := h.xy (s.f0, s.f1) (List.mem_map_of_mem (f := fun s : S40 => (s.f0, s.f1)) hs)
    exact decide_eq_true ⟨this.1.1, this.1.2, this.2.1, this.2.2⟩
  · have := h.nd; rwa [xyOf_x] at this

/-! ### polyat -/
theorem hornW_eq {x : Int} (hx : 0 ≤ x ∧ x < 251) : ∀ zs : List Int, Rests zs → hornW zs x = hornM zs x := by
  intro zs
  induction zs with
  | nil => intro _; rfl
  | cons c t ih =>
    intro h
    have hc := h c (by simp)
    have hr := hornM_range t x
    have hb : 0 ≤ hornM t x * x := Int.mul_nonneg (by omega) (by omega)
    have hb2 : hornM t x * x ≤ 250 * 250 := Int.mul_le_mul (by omega) (by omega) (by omega) (by omega)
    simp only [hornW, hornM]
    rw [ih fun d hd => h d (by simp [hd]), wrap_id (x := hornM t x * x) (by omega) (by omega), wrap_id (by omega) (by omega), Int.tmod_eq_emod_of_nonneg (by omega)]
instance (cs : List Int) : Decidable (Rests cs) := by unfold Rests; infer_instance
theorem ivalidCoefs_spec (k : Nat) (cs : List Int) (hk : 10 < k) : impl_validCoefs.f k cs = some (decide (cs.length ≤ 8 ∧ Rests cs)) := by
  unfold impl_validCoefs.f
  by_cases h : (cs.length : Int) ≤ 8
  · rw [if_pos h, allWithin_spec k cs 0 250 (by omega) (by omega), Option.bind_some]
    congr 1
    rw [Bool.eq_iff_iff, decide_eq_true_iff, List.all_eq_true]
    constructor
    · exact fun h2 => ⟨by omega, fun c hc => by have := h2 c hc; simp at this; omega⟩
    · exact fun h2 c hc => by have := h2.2 c hc; simp; omega
  · rw [if_neg h, decide_eq_false (fun h2 => h (by omega))]
theorem ipolyAt_spec (k : Nat) (cs : List Int) (x : Int) (hr : Rests cs) (hl : cs.length ≤ 8) (hx : 0 ≤ x ∧ x < 251) (hk : 10 < k) : impl_PolyAt.f k cs x = some (hornM cs x) := by
  unfold impl_PolyAt.f
  rw [ivalidCoefs_spec k cs hk, decide_eq_true ⟨hl, hr⟩, Option.bind_some, if_pos rfl, if_neg (by omega), if_neg (by omega), if_pos (by omega), hornW_eq hx cs hr]

/-! ### spolyat -/
theorem spolyAt_l0 (cs : List Int) (x : Int) (hr : Rests cs) (hx : 0 ≤ x ∧ x < 251) (hb : cs.length ≤ 1000) : ∀ (i k : Nat), i ≤ cs.length → i < k → spec_polyAt.l0 k cs x (hornM (cs.drop i) x) ((i : Int) - 1) = some (hornM cs x) := by
  intro i
  induction i with
  | zero =>
    intro k hi hk
    obtain ⟨k, rfl, -⟩ := fuel hk
    simp only [spec_polyAt.l0]
    rw [if_neg (by omega), List.drop_zero]
  | succ i ih =>
    intro k hi hk
    obtain ⟨k, rfl, hk⟩ := fuel hk
    simp only [spec_polyAt.l0]
    have e : ((i + 1 : Nat) : Int) - 1 = (i : Int) := by omega
    have hm := hornM_range (cs.drop (i + 1)) x
    have hc := hr _ (rd_mem (xs := cs) (i := i) (by omega))
    have n0 : 0 ≤ hornM (cs.drop (i + 1)) x * x := Int.mul_nonneg (by omega) (by omega)
    have n1 : hornM (cs.drop (i + 1)) x * x ≤ 250 * 250 := Int.mul_le_mul (by omega) (by omega) (by omega) (by omega)
    rw [e, if_pos (by omega), if_pos (by omega), if_pos (by omega), wrap_id (x := hornM (cs.drop (i + 1)) x * x) (by omega) (by omega), wrap_id (x := hornM (cs.drop (i + 1)) x * x + rd cs (i : Int)) (by omega) (by omega), wrap_id (by omega) (by omega), Int.tmod_eq_emod_of_nonneg (by omega)]
    have := ih k (by omega) (by omega)
    rw [drop_rd (by omega)] at this
    exact this
theorem spolyAt_spec (k : Nat) (cs : List Int) (x : Int) (hr : Rests cs) (hx : 0 ≤ x ∧ x < 251) (hb : cs.length ≤ 1000) (hk : cs.length < k) : spec_polyAt.f k cs x = some (hornM cs x) := by
  unfold spec_polyAt.f
  rw [wrap_id (by omega) (by omega)]
  have := spolyAt_l0 cs x hr hx hb cs.length k (Nat.le_refl _) hk
  rw [List.drop_length] at this
  exact this

/-! ### dealbase -/
/-- The shares of a polynomial. -/
def dealS (cs xs : List Int) : List S40 := xs.map fun x => ⟨x, hornM cs x⟩
theorem dealS_length (cs xs : List Int) : (dealS cs xs).length = xs.length := by simp [dealS]
theorem dealS_x (cs xs : List Int) : (dealS cs xs).map (·.f0) = xs := by simp [dealS, Function.comp_def]
theorem dealS_xy (cs xs : List Int) : xyOf (dealS cs xs) = dealM cs xs := by simp [dealS, dealM, xyOf, Function.comp_def]
/-- What shares are dealt of. -/
def OkDeal (cs xs : List Int) : Prop := (cs.length ≤ 8 ∧ Rests cs) ∧ (xs.length ≤ 12 ∧ (∀ x ∈ xs, 1 ≤ x ∧ x ≤ 250) ∧ xs.Nodup)
instance (cs xs : List Int) : Decidable (OkDeal cs xs) := by unfold OkDeal; infer_instance
theorem OkDeal.ok {cs xs : List Int} (h : OkDeal cs xs) : OkSh (dealS cs xs) := by
  refine ⟨by rw [dealS_length]; exact h.2.1, fun s hs => ?_, by rw [dealS_x]; exact h.2.2.2⟩
  obtain ⟨x, hx, rfl⟩ := List.mem_map.1 hs
  have := h.2.2.1 x hx
  have := hornM_range cs x
  exact ⟨by simp only; omega, by simp only; omega⟩
def dealM2 (cs xs : List Int) : List S40 := if OkDeal cs xs then dealS cs xs else []
theorem sdeal_l0 (cs xs : List Int) (hc : cs.length ≤ 8 ∧ Rests cs) (hx : ∀ x ∈ xs, 1 ≤ x ∧ x ≤ 250) (hl : xs.length ≤ 1000) : ∀ (d k i : Nat), i + d = xs.length → d + 20 < k → spec_deal.l0 k cs xs (dealS cs (xs.take i)) (i : Int) = some (dealS cs xs) := by
  intro d
  induction d with
  | zero =>
    intro k i hi hk
    obtain ⟨k, rfl, -⟩ := fuel hk
    simp only [spec_deal.l0]
    rw [if_neg (by omega), List.take_of_length_le (by omega)]
  | succ d ih =>
    intro k i hi hk
    obtain ⟨k, rfl, hk⟩ := fuel hk
    have hxi := hx _ (rd_mem (xs := xs) (i := i) (by omega))
    have := ih k (i + 1) (by omega) (by omega)
    simp only [spec_deal.l0]
    rw [if_pos (by omega), if_pos (by omega), spolyAt_spec k cs _ hc.2 (by omega) (by omega) (by omega), Option.bind_some, if_pos (by rw [dealS_length, List.length_take]; omega), wrap_succ (by omega)]
    rw [take_rd (by omega), dealS, List.map_append] at this
    exact this
theorem sdeal_spec (k : Nat) (cs xs : List Int) (hc : cs.length ≤ 8 ∧ Rests cs) (hx : ∀ x ∈ xs, 1 ≤ x ∧ x ≤ 250) (hl : xs.length ≤ 1000) (hk : 1100 < k) : spec_deal.f k cs xs = some (dealS cs xs) := by
  unfold spec_deal.f
  exact sdeal_l0 cs xs hc hx hl xs.length k 0 (by omega) (by omega)

/-! ### deal -/
theorem ideal_l0 (cs xs : List Int) (hc : cs.length ≤ 8 ∧ Rests cs) (hx : ∀ x ∈ xs, 1 ≤ x ∧ x ≤ 250) (hl : xs.length ≤ 12) : ∀ (d k i : Nat), i + d = xs.length → d + 20 < k → impl_DealShares.l0 k cs (dealS cs (xs.take i)) xs (xs.length : Int) (i : Int) = some (dealS cs xs) := by
  intro d
  induction d with
  | zero =>
    intro k i hi hk
    obtain ⟨k, rfl, -⟩ := fuel hk
    simp only [impl_DealShares.l0]
    rw [if_neg (by omega), List.take_of_length_le (by omega)]
  | succ d ih =>
    intro k i hi hk
    obtain ⟨k, rfl, hk⟩ := fuel hk
    have hxi := hx _ (rd_mem (xs := xs) (i := i) (by omega))
    have := ih k (i + 1) (by omega) (by omega)
    simp only [impl_DealShares.l0]
    rw [if_pos (by omega), if_pos (by omega), if_pos (by omega), ipolyAt_spec k cs _ hc.2 hc.1 (by omega) (by omega), Option.bind_some, if_pos (by rw [dealS_length, List.length_take]; omega), wrap_succ (by omega)]
    rw [take_rd (by omega), dealS, List.map_append] at this
    exact this
theorem ideal_spec (k : Nat) (cs xs : List Int) (hb : xs.length ≤ 1048576) (hk : 1048600 < k) : impl_DealShares.f k cs xs = some (dealM2 cs xs) := by
  obtain ⟨k, rfl, hk⟩ := fuel hk
  unfold impl_DealShares.f dealM2
  have hj : ∀ q : Nat, q = k + 1 → impl_DealShares.j0 q cs xs true = some [] := fun q e => by subst e; simp [impl_DealShares.j0]
  rw [ivalidCoefs_spec _ cs (by omega), Option.bind_some]
  by_cases h1 : cs.length ≤ 8 ∧ Rests cs
  · rw [decide_eq_true h1, if_pos rfl]
    by_cases h2 : (xs.length : Int) > 12
    · rw [if_pos h2, hj _ rfl, if_neg (fun h3 => by have := h3.2.1; omega)]
    · rw [if_neg h2, allWithin_spec _ xs 1 250 (by omega) (by omega), Option.bind_some]
      by_cases h3 : (xs.all fun x => decide (1 ≤ x ∧ x ≤ 250)) = true
      · have h3' : ∀ x ∈ xs, 1 ≤ x ∧ x ≤ 250 := fun x hx => by simpa using List.all_eq_true.1 h3 x hx
        rw [if_pos h3, different_spec _ xs 251 (by omega) (by omega) (by omega) (by omega), Option.bind_some]
        by_cases h4 : GoodM xs 251
        · rw [decide_eq_true h4, if_pos ⟨h1, by omega, h3', h4.1⟩]
          simp only [impl_DealShares.j0]
          rw [if_neg (by decide)]
          exact ideal_l0 cs xs h1 h3' (by omega) xs.length k 0 (by omega) (by omega)
        · rw [decide_eq_false h4, if_neg (fun h5 => h4 ⟨h5.2.2.2, fun x hx => by have := h5.2.2.1 x hx; omega⟩)]
          exact hj _ rfl
      · rw [if_neg h3, hj _ rfl, if_neg (fun h5 => h3 (List.all_eq_true.2 fun x hx => by simpa using h5.2.2.1 x hx))]
  · rw [decide_eq_false h1, if_neg (by decide), hj _ rfl, if_neg (fun h5 => h1 h5.1)]

/-! ### svalidpoly -/
theorem svalidPoly_spec (k : Nat) (cs : List Int) (hk : 10 < k) : spec_validPoly.f k cs = some (decide (cs.length ≤ 8 ∧ ∀ c ∈ cs, 0 ≤ c ∧ c < 251)) := by
  unfold spec_validPoly.f
  by_cases h : (cs.length : Int) ≤ 8
  · rw [if_pos h, allIn_spec k cs 0 250 (by omega) (by omega), Option.bind_some]
    congr 1
    rw [Bool.eq_iff_iff, decide_eq_true_iff, List.all_eq_true]
    constructor
    · exact fun h2 => ⟨by omega, fun c hc => by have := h2 c hc; simp at this; omega⟩
    · exact fun h2 c hc => by have := h2.2 c hc; simp; omega
  · rw [if_neg h, decide_eq_false (fun h2 => h (by omega))]

/-! ### sdealshares -/
theorem sdealShares_spec (k : Nat) (cs xs : List Int) (hb : xs.length ≤ 1048576) (hk : 2097300 < k) : spec_DealShares.f k cs xs = some (dealM2 cs xs) := by
  unfold spec_DealShares.f dealM2
  rw [svalidPoly_spec k cs (by omega), Option.bind_some]
  by_cases h1 : cs.length ≤ 8 ∧ ∀ c ∈ cs, 0 ≤ c ∧ c < 251
  · rw [decide_eq_true h1, if_pos rfl, splaces_spec k xs hb (by omega), Option.bind_some]
    by_cases h2 : xs.length ≤ 12 ∧ (∀ x ∈ xs, 1 ≤ x ∧ x ≤ 250) ∧ xs.Nodup
    · rw [decide_eq_true h2, if_pos rfl, sdeal_spec k cs xs h1 h2.2.1 (by omega) (by omega), Option.bind_some, if_pos ⟨h1, h2⟩]
    · rw [decide_eq_false h2, if_neg (by decide), if_neg (fun h3 => h2 h3.2)]
  · rw [decide_eq_false h1, if_neg (by decide), if_neg (fun h3 => h1 h3.1)]

/-! ### fit -/
/-- Whether shares fit. -/
def FitS (l : List S40) (need : Int) : Prop := OkSh l ∧ (1 ≤ need ∧ need ≤ 8) ∧ Fit (xyOf l) need.toNat
theorem ifit_l0 (cs : List Int) (hr : Rests cs) (hl : cs.length ≤ 8) (l : List S40) (hx : ∀ s ∈ l, 0 ≤ s.f0 ∧ s.f0 < 251) (hb : l.length ≤ 12) (b : Bool) (hbb : b = true ↔ ∀ s ∈ l, hornM cs s.f0 = s.f1) : ∀ (d k i : Nat), i + d = l.length → (∀ s ∈ l.take i, hornM cs s.f0 = s.f1) → d + 12 < k → impl_FitTogether.l0 k cs l (l.length : Int) (i : Int) = some b := by
  intro d
  induction d with
  | zero =>
    intro k i hi hp hk
    obtain ⟨k, rfl, -⟩ := fuel hk
    simp only [impl_FitTogether.l0]
    rw [List.take_of_length_le (by omega)] at hp
    rw [if_neg (by omega), hbb.2 hp]
  | succ d ih =>
    intro k i hi hp hk
    obtain ⟨k, rfl, hk⟩ := fuel hk
    simp only [impl_FitTogether.l0]
    rw [if_pos (by omega), if_pos (by omega), if_pos (by omega), ipolyAt_spec k cs _ hr hl (hx _ (rdS_mem (by omega))) (by omega), Option.bind_some]
    by_cases h : hornM cs (rd_T40 l (i : Int)).f0 = (rd_T40 l (i : Int)).f1
    · rw [if_pos h, wrap_succ (by omega)]
      refine ih k (i + 1) (by omega) (fun s hs => ?_) (by omega)
      rw [takeS (by omega)] at hs
      rcases List.mem_append.1 hs with hs | hs
      · exact hp s hs
      · rw [List.mem_singleton] at hs; subst hs; exact h
    · rw [if_neg h]
      cases b with
      | false => rfl
      | true => exact absurd (hbb.1 rfl _ (rdS_mem (by omega))) h
theorem xyOf_take (l : List S40) (n : Nat) : xyOf (l.take n) = (xyOf l).take n := by simp [xyOf, List.map_take]
theorem xyOf_drop (l : List S40) (n : Nat) : xyOf (l.drop n) = (xyOf l).drop n := by simp [xyOf, List.map_drop]
theorem ifit_spec (k : Nat) (l : List S40) (need : Int) (hk : 60 < k) (b : Bool) (hb : b = true ↔ FitS l need) : impl_FitTogether.f k l need = some b := by
  obtain ⟨k, rfl, hk⟩ := fuel hk
  unfold impl_FitTogether.f
  have hj : ∀ q : Nat, q = k + 1 → ¬ FitS l need → impl_FitTogether.j0 q l need true = some b := fun q e h => by
    subst e
    simp only [impl_FitTogether.j0]
    rw [if_pos trivial]
    cases b with
    | false => rfl
    | true => exact absurd (hb.1 rfl) h
  rw [ivalid_spec _ l (by omega), Option.bind_some]
  by_cases h1 : OkSh l
  · rw [decide_eq_true h1, if_pos rfl]
    by_cases h2 : need < 1
    · rw [if_pos h2]; exact hj _ rfl fun h => by have := h.2.1; omega
    · rw [if_neg h2]
      by_cases h3 : need > 8
      · rw [decide_eq_true h3]; exact hj _ rfl fun h => by have := h.2.1; omega
      · rw [decide_eq_false h3]
        simp only [impl_FitTogether.j0]
        rw [if_neg (by decide)]
        obtain ⟨n, rfl⟩ := Int.eq_ofNat_of_zero_le (show 0 ≤ need by omega)
        have hp := h1.places
        by_cases h4 : (l.length : Int) ≤ (n : Int)
        · rw [if_pos h4, hb.2 ⟨h1, by omega, by rw [Int.toNat_natCast]; exact fit_few hp (by rw [xyOf_length]; omega)⟩]
        · have hpt : Places (xyOf (l.take n)) := by rw [xyOf_take]; exact hp.sub (List.take_sublist _ _)
          rw [if_neg h4, if_pos (by omega), if_pos (by omega), toNat_cast, ipoly_spec hpt (by rw [List.length_take]; omega), Option.bind_some, Option.bind_some]
          have hl12 := h1.1
          refine ifit_l0 (thr (xyOf (l.take n))) (thr_rests hpt) (by rw [thr_length hpt, xyOf_length, List.length_take]; omega) (l.drop n) (fun s hs => by have := h1.2.1 s (List.mem_of_mem_drop hs); omega) (by rw [List.length_drop]; omega) b ?_ (l.drop n).length k 0 (by omega) (by simp) (by rw [List.length_drop]; omega)
          rw [hb]
          unfold FitS
          rw [Int.toNat_natCast, fit_drop hp (by rw [xyOf_length]; omega), ← xyOf_take, ← xyOf_drop]
          constructor
          · exact fun h s hs => h.2.2 (s.f0, s.f1) (List.mem_map_of_mem (f := fun s : S40 => (s.f0, s.f1)) hs)
          · exact fun h => ⟨h1, by omega, fun p hp => by obtain ⟨s, hs, rfl⟩ := List.mem_map.1 hp; exact h s hs⟩
  · rw [decide_eq_false h1, if_neg (by decide)]
    exact hj _ rfl fun h => h1 h.1
theorem ifit_true (k : Nat) (l : List S40) (need : Int) (hk : 60 < k) (h : FitS l need) : impl_FitTogether.f k l need = some true := ifit_spec k l need hk true ⟨fun _ => h, fun _ => rfl⟩
theorem ifit_false (k : Nat) (l : List S40) (need : Int) (hk : 60 < k) (h : ¬ FitS l need) : impl_FitTogether.f k l need = some false := ifit_spec k l need hk false ⟨fun h2 => (by cases h2), fun h2 => absurd h2 h⟩

/-! ### iwrong -/
/-- The shares without one. -/
def without (l : List S40) (i : Nat) : List S40 := l.take i ++ l.drop (i + 1)
theorem without_erase (l : List S40) (i : Nat) : without l i = l.eraseIdx i := (List.eraseIdx_eq_take_drop_succ l i).symm
theorem idel_spec (l : List S40) (i : Nat) (hi : i < l.length) (hl : l.length ≤ 1000) : impl_Share_74.f l (i : Int) (wrap64 ((i : Int) + 1)) = some (without l i) := by
  unfold impl_Share_74.f without
  rw [wrap_succ (by omega), if_pos ⟨by omega, by omega, by omega⟩, toNat_cast, toNat_cast]
theorem iclone_spec (l : List S40) (hl : l.length ≤ 1000) : impl_Share_75.f l = some l := by
  unfold impl_Share_75.f
  rw [if_pos (by omega)]
theorem fitB (l : List S40) (need : Int) : ∃ b : Bool, b = true ↔ FitS l need := by
  by_cases h2 : FitS l need
  · exact ⟨true, fun _ => h2, fun _ => rfl⟩
  · exact ⟨false, fun h => (by cases h), fun h => absurd h h2⟩
/-- Which share is wrong, from one place on. -/
def WrongAt (l : List S40) (need : Int) (i : Nat) (r : Int) : Prop := (r = -1 ∧ ∀ j : Nat, i ≤ j → j < l.length → ¬ FitS (without l j) need) ∨ ∃ j : Nat, r = (j : Int) ∧ i ≤ j ∧ j < l.length ∧ FitS (without l j) need ∧ ∀ q : Nat, i ≤ q → q < j → ¬ FitS (without l q) need
theorem WrongAt.one {l : List S40} {need : Int} {i : Nat} {r s : Int} (h : WrongAt l need i r) (h' : WrongAt l need i s) : r = s := by
  rcases h with ⟨rfl, h⟩ | ⟨j, rfl, h1, h2, h3, h4⟩ <;> rcases h' with ⟨rfl, h'⟩ | ⟨j', rfl, h1', h2', h3', h4'⟩
  · rfl
  · exact absurd h3' (h j' h1' h2')
  · exact absurd h3 (h' j h1 h2)
  · rcases Nat.lt_trichotomy j j' with hlt | he | hlt
    · exact absurd h3 (h4' j h1 hlt)
    · rw [he]
    · exact absurd h3' (h4 j' h1' hlt)
theorem WrongAt.step {l : List S40} {need : Int} {i : Nat} {r : Int} (h : WrongAt l need (i + 1) r) (hi : ¬ FitS (without l i) need) : WrongAt l need i r := by
  have all : ∀ q : Nat, i ≤ q → q = i ∨ i + 1 ≤ q := fun q hq => by omega
  rcases h with ⟨rfl, h⟩ | ⟨j, rfl, h1, h2, h3, h4⟩
  · refine .inl ⟨rfl, fun j hj hj2 => ?_⟩
    rcases all j hj with rfl | hj
    · exact hi
    · exact h j hj hj2
  · refine .inr ⟨j, rfl, by omega, h2, h3, fun q hq hq2 => ?_⟩
    rcases all q hq with rfl | hq
    · exact hi
    · exact h4 q hq hq2
theorem iwrong_l0 (l : List S40) (hl : l.length ≤ 12) (need : Int) : ∀ (d k i : Nat), i + d = l.length → d + 80 < k → ∃ r, impl_WrongShare.l0 k l need (l.length : Int) (i : Int) = some r ∧ WrongAt l need i r := by
  intro d
  induction d with
  | zero =>
    intro k i hi hk
    obtain ⟨k, rfl, -⟩ := fuel hk
    simp only [impl_WrongShare.l0]
    rw [if_neg (by omega)]
    exact ⟨_, rfl, .inl ⟨rfl, fun j hj hj2 => by omega⟩⟩
  | succ d ih =>
    intro k i hi hk
    obtain ⟨k, rfl, hk⟩ := fuel (show d + 81 < k by omega)
    obtain ⟨b, hb⟩ := fitB (without l i) need
    simp only [impl_WrongShare.l0]
    rw [if_pos (by omega), iclone_spec l (by omega), Option.bind_some, idel_spec l i (by omega) (by omega), Option.bind_some, ifit_spec k _ need (by omega) b hb, Option.bind_some]
    by_cases h : b = true
    · rw [if_pos h]
      exact ⟨_, rfl, .inr ⟨i, rfl, Nat.le_refl _, by omega, hb.1 h, fun q hq hq2 => by omega⟩⟩
    · rw [if_neg h, wrap_succ (by omega)]
      obtain ⟨r, h1, h2⟩ := ih k (i + 1) (by omega) (by omega)
      exact ⟨r, h1, h2.step (fun hf => h (hb.2 hf))⟩
def CanWrong (l : List S40) (need : Int) : Prop := OkSh l ∧ (1 ≤ need ∧ need ≤ 8) ∧ need + 2 ≤ (l.length : Int) ∧ ¬ FitS l need
def WrongIs (l : List S40) (need : Int) (r : Int) : Prop := (CanWrong l need ∧ WrongAt l need 0 r) ∨ (¬ CanWrong l need ∧ r = -1)
theorem WrongIs.one {l : List S40} {need : Int} {r s : Int} (h : WrongIs l need r) (h' : WrongIs l need s) : r = s := by
  rcases h with ⟨h1, h2⟩ | ⟨h1, h2⟩ <;> rcases h' with ⟨h1', h2'⟩ | ⟨h1', h2'⟩
  · exact h2.one h2'
  · exact absurd h1 h1'
  · exact absurd h1' h1
  · rw [h2, h2']
theorem iwrong_spec (k : Nat) (l : List S40) (need : Int) (hk : 200 < k) : ∃ r, impl_WrongShare.f k l need = some r ∧ WrongIs l need r := by
  unfold impl_WrongShare.f
  rw [ivalid_spec k l (by omega), Option.bind_some]
  obtain ⟨b, hb⟩ := fitB l need
  have hfit : ∀ k, 60 < k → impl_FitTogether.f k l need = some b := fun k hk => ifit_spec k l need hk b hb
  obtain ⟨k, rfl, hk'⟩ := fuel hk
  simp only [impl_WrongShare.j0, if_true]
  by_cases h1 : OkSh l
  · rw [decide_eq_true h1, if_pos rfl]
    by_cases h2 : need < 1
    · rw [if_pos h2]; exact ⟨_, rfl, .inr ⟨fun h => by have := h.2.1.1; omega, rfl⟩⟩
    rw [if_neg h2]
    by_cases h3 : need > 8
    · rw [if_pos h3]; exact ⟨_, rfl, .inr ⟨fun h => by have := h.2.1.2; omega, rfl⟩⟩
    rw [if_neg h3, wrap_id (by omega) (by omega)]
    by_cases h4 : (l.length : Int) < need + 2
    · rw [if_pos h4]; exact ⟨_, rfl, .inr ⟨fun h => by have := h.2.2.1; omega, rfl⟩⟩
    rw [if_neg h4, hfit _ (by omega), Option.bind_some]
    by_cases h5 : b = true
    · rw [if_pos h5]; exact ⟨_, rfl, .inr ⟨fun h => h.2.2.2 (hb.1 h5), rfl⟩⟩
    · rw [if_neg h5]
      obtain ⟨r, e, hw⟩ := iwrong_l0 l h1.1 need l.length k 0 (by omega) (by have := h1.1; omega)
      exact ⟨r, e, .inl ⟨⟨h1, by omega, by omega, fun hf => h5 (hb.2 hf)⟩, hw⟩⟩
  · rw [decide_eq_false h1, if_neg (by decide)]
    exact ⟨_, rfl, .inr ⟨fun h => h1 h.1, rfl⟩⟩

/-! ### equalshares -/
theorem equalShares_l0 (a : List S40) (hb : a.length ≤ 1048576) : ∀ (d k i : Nat), i + d = a.length → d < k → laws_equalShares.l0 k a a (i : Int) = some true := by
  intro d
  induction d with
  | zero =>
    intro k i hi hk
    obtain ⟨k, rfl, -⟩ := fuel hk
    simp only [laws_equalShares.l0]
    rw [if_neg (by omega)]
  | succ d ih =>
    intro k i hi hk
    obtain ⟨k, rfl, hk⟩ := fuel hk
    simp only [laws_equalShares.l0]
    rw [if_pos (by omega), if_pos (by omega), if_pos (by omega), beq_self_eq_true, beq_self_eq_true, if_neg (by decide), wrap_succ (by omega)]
    exact ih k (i + 1) (by omega) (by omega)
theorem equalShares_self (k : Nat) (a : List S40) (hb : a.length ≤ 1048576) (hk : 1048600 < k) : laws_equalShares.f k a a = some true := by
  unfold laws_equalShares.f
  rw [if_pos rfl]
  exact equalShares_l0 a hb a.length k 0 (by omega) (by omega)

/-! ### reader -/
/-- A pick: a number below the bound (0 where there is none), one place on. -/
theorem pick_spec (k : Nat) (hk : 1 ≤ k) (b : List Int) (hb : ∀ x ∈ b, 0 ≤ x ∧ x ≤ 255) (hl : b.length ≤ 2000) (p : Int) (hp0 : 0 ≤ p) (hp : p ≤ 1000000) (n : Int) (hn : n ≤ 1000000000000) :
    ∃ v, spec_reader_pick.f k b p n = some (v, p + 1) ∧ 0 ≤ v ∧ (0 < n → v < n) ∧ (n ≤ 0 → v = 0) := by
  obtain ⟨k, rfl, -⟩ := fuel hk
  have hw : wrap64 (p + 1) = p + 1 := wrap_succ' hp0 (by omega)
  have hw2 : wrap64 (p + 1 - 1) = p := by rw [wrap_id (by omega) (by omega)]; omega
  unfold spec_reader_pick.f
  rw [hw]
  by_cases h1 : n < 1
  · rw [if_pos h1]
    exact ⟨0, by simp [spec_reader_pick.j0], by omega, by omega, fun _ => rfl⟩
  · rw [if_neg h1]
    by_cases h2 : b.length = 0
    · have e : ((b.length : Int) == 0) = true := by simp [h2]
      rw [e]
      exact ⟨0, by simp [spec_reader_pick.j0], by omega, fun _ => by omega, fun _ => rfl⟩
    · have e : ((b.length : Int) == 0) = false := by rw [beq_eq_false_iff_ne]; omega
      rw [e]
      simp only [spec_reader_pick.j0]
      rw [if_neg (by decide), hw2]
      have rdb : ∀ i : Int, 0 ≤ i → i < (b.length : Int) → 0 ≤ rd b i ∧ rd b i ≤ 255 := fun i h0 h => hb _ (rd_mem' h0 h)
      by_cases h3 : p < (b.length : Int)
      · rw [if_pos h3, if_pos hp0, if_neg (by omega)]
        have hr := rdb p hp0 h3
        rw [wrap_id (x := rd b p) (by omega) (by omega), Int.tmod_eq_emod_of_nonneg hr.1]
        exact ⟨_, rfl, Int.emod_nonneg _ (by omega), fun _ => Int.emod_lt_of_pos _ (by omega), fun h => by omega⟩
      · have hL : (0 : Int) < (b.length : Int) := by omega
        have m1 := Int.emod_nonneg p (b := (b.length : Int)) (by omega)
        have m2 := Int.emod_lt_of_pos p hL
        have w7 : wrap64 (wrap64 (p * 7) + 3) = p * 7 + 3 := by rw [wrap_add_l, wrap_id (by omega) (by omega)]
        have m3 := Int.emod_nonneg (p * 7 + 3) (b := (b.length : Int)) (by omega)
        have m4 := Int.emod_lt_of_pos (p * 7 + 3) hL
        rw [if_neg h3, if_neg (by omega)]
        rw [w7]
        rw [Int.tmod_eq_emod_of_nonneg hp0, Int.tmod_eq_emod_of_nonneg (by omega : (0 : Int) ≤ p * 7 + 3)]
        rw [if_pos m1, if_pos m2, if_pos m3, if_pos m4, if_neg (by omega)]
        have r1 := rdb _ m1 m2
        have r2 := rdb _ m3 m4
        have hq : 0 ≤ Int.tdiv p (b.length : Int) ∧ Int.tdiv p (b.length : Int) ≤ p := by
          rw [Int.tdiv_eq_ediv_of_nonneg hp0]
          exact ⟨Int.ediv_nonneg hp0 (by omega), Int.ediv_le_self _ hp0⟩
        generalize rd b (p % (b.length : Int)) = x at *
        generalize rd b ((p * 7 + 3) % (b.length : Int)) = y at *
        generalize Int.tdiv p (b.length : Int) = q at *
        have hx : wrap64 x = x := wrap_id (by omega) (by omega)
        have hy : wrap64 y = y := wrap_id (by omega) (by omega)
        have hqq : wrap64 q = q := wrap_id (by omega) (by omega)
        rw [hx, hy, hqq]
        have e1 : wrap64 (x * 131) = x * 131 := wrap_id (by omega) (by omega)
        have e2 : wrap64 (y * 1117) = y * 1117 := wrap_id (by omega) (by omega)
        have e3 : wrap64 (p * 29) = p * 29 := wrap_id (by omega) (by omega)
        have e4 : wrap64 (q * 53) = q * 53 := wrap_id (by omega) (by omega)
        rw [e1, e2, e3, e4]
        have e5 : wrap64 (x * 131 + y * 1117) = x * 131 + y * 1117 := wrap_id (by omega) (by omega)
        rw [e5]
        have e6 : wrap64 (x * 131 + y * 1117 + p * 29) = x * 131 + y * 1117 + p * 29 := wrap_id (by omega) (by omega)
        rw [e6]
        have e7 : wrap64 (x * 131 + y * 1117 + p * 29 + q * 53) = x * 131 + y * 1117 + p * 29 + q * 53 := wrap_id (by omega) (by omega)
        rw [e7]
        have hz : 0 ≤ x * 131 + y * 1117 + p * 29 + q * 53 ∧ x * 131 + y * 1117 + p * 29 + q * 53 ≤ 1000000000 := by omega
        generalize x * 131 + y * 1117 + p * 29 + q * 53 = z at *
        have hz64 : 0 ≤ Int.tdiv z 64 ∧ Int.tdiv z 64 ≤ z := by
          rw [Int.tdiv_eq_ediv_of_nonneg hz.1]; omega
        rw [wrap_id (x := Int.tdiv z 64) (by omega) (by omega)]
        have hxor := bits_xor (a := z) (b := Int.tdiv z 64) hz.1 (by omega) hz64.1 (by omega)
        rw [Int.tmod_eq_emod_of_nonneg hxor.1]
        exact ⟨_, rfl, Int.emod_nonneg _ (by omega), fun _ => Int.emod_lt_of_pos _ (by omega), fun h => by omega⟩
/-- One of some numbers. -/
theorem one_spec (k : Nat) (hk : 1 ≤ k) (b : List Int) (hb : ∀ x ∈ b, 0 ≤ x ∧ x ≤ 255) (hl : b.length ≤ 2000) (p : Int) (hp0 : 0 ≤ p) (hp : p ≤ 1000000) (l : List Int) (hn0 : l ≠ []) (hn : l.length ≤ 1000000) :
    ∃ v, spec_reader_one.f k b p l = some (v, p + 1) ∧ v ∈ l := by
  have h0 : 0 < l.length := List.length_pos_iff.2 hn0
  obtain ⟨v, hv, h1, h2, -⟩ := pick_spec k hk b hb hl p hp0 hp (l.length : Int) (by omega)
  unfold spec_reader_one.f
  rw [hv]
  simp only [Option.bind_some]
  rw [if_pos h1, if_pos (h2 (by omega))]
  exact ⟨_, rfl, rd_mem' h1 (h2 (by omega))⟩
theorem reader_bytes {l : List Int} (h : ∀ x ∈ l, (Lit.int .u8 x).wf = true) : ∀ x ∈ l, 0 ≤ x ∧ x ≤ 255 := by
  intro x hx
  have := h x hx
  simp [Lit.wf, IntKind.min, IntKind.max, IntKind.bits, IntKind.signed] at this
  omega
/-- A reader of some code: its bytes. -/
theorem newReader_spec (l : List Int) (h : ∀ x ∈ l, 0 ≤ x ∧ x ≤ 255) : ∃ b : List Int, spec_newReader.f l = some (b, 0) ∧ (∀ x ∈ b, 0 ≤ x ∧ x ≤ 255) ∧ b.length ≤ 2000 := by
  unfold spec_newReader.f
  by_cases h1 : (l.length : Int) > 2000
  · rw [if_pos h1, if_pos (by omega)]
    exact ⟨_, rfl, fun x hx => h x (List.mem_of_mem_take hx), by simp; omega⟩
  · rw [if_neg h1]
    exact ⟨_, rfl, h, by omega⟩

/-! ### drawplaces -/
theorem somePlaces_l0 (b : List Int) (hb : ∀ x ∈ b, 0 ≤ x ∧ x ≤ 255) (hl : b.length ≤ 2000) : ∀ (d k : Nat) (acc : List Int) (p : Int), acc.length + d ≤ 8 → 30 + d < k → 0 ≤ p → p + 2 * d + 2 ≤ 1000000 →
    ∃ out q, spec_somePlaces.l0 k acc (d : Int) b p = some (out, q) ∧ out.length ≤ 8 ∧ 0 ≤ q ∧ q ≤ p + 2 * d + 2 := by
  intro d
  induction d with
  | zero =>
    intro k acc p ha hk h0 h1
    obtain ⟨k, rfl, hk⟩ := fuel hk
    simp only [spec_somePlaces.l0]
    rw [if_neg (by omega)]
    by_cases h2 : (acc.length : Int) > 0
    · obtain ⟨v, hv, -⟩ := pick_spec k (by omega) b hb hl p h0 (by omega) 16 (by omega)
      rw [if_pos h2, hv, Option.bind_some]
      simp only
      by_cases h3 : v = 0
      · have hw : wrap64 ((acc.length : Int) - 1) = (acc.length : Int) - 1 := wrap_id (by omega) (by omega)
        obtain ⟨u, hu, -⟩ := one_spec k (by omega) b hb hl (p + 1) (by omega) (by omega) [0, 251, rd acc (wrap64 ((acc.length : Int) - 1))] (by simp) (by simp)
        rw [if_pos h3, hw, if_pos (by omega), if_pos (by omega)]
        rw [hw] at hu
        rw [hu, Option.bind_some]
        simp only
        rw [if_pos (by omega)]
        exact ⟨_, _, rfl, by simp; omega, by omega, by omega⟩
      · rw [if_neg h3]
        exact ⟨_, _, rfl, by omega, by omega, by omega⟩
    · rw [if_neg h2]
      exact ⟨_, _, rfl, by omega, by omega, by omega⟩
  | succ d ih =>
    intro k acc p ha hk h0 h1
    obtain ⟨k, rfl, hk⟩ := fuel hk
    simp only [spec_somePlaces.l0]
    obtain ⟨v, hv, hv0, hv1, -⟩ := pick_spec k (by omega) b hb hl p h0 (by omega) 250 (by omega)
    rw [if_pos (by omega), hv, Option.bind_some]
    simp only
    obtain ⟨u, hu, -⟩ := one_spec k (by omega) b hb hl (p + 1) (by omega) (by omega) [wrap64 (1 + v), wrap64 ((acc.length : Int) + 1)] (by simp) (by simp)
    rw [hu, Option.bind_some]
    simp only
    rw [placeIn_spec k acc u (by omega) (by omega), Option.bind_some]
    have hd : wrap64 (((d + 1 : Nat) : Int) - 1) = (d : Int) := by rw [wrap_id (by omega) (by omega)]; omega
    rw [hd]
    by_cases h4 : idxM acc u 0 < 0
    · rw [if_pos h4, if_pos (by omega)]
      obtain ⟨out, q, ho, h5, h6, h7⟩ := ih k (acc ++ [u]) (p + 1 + 1) (by simp; omega) (by omega) (by omega) (by omega)
      exact ⟨out, q, ho, h5, h6, by omega⟩
    · rw [if_neg h4]
      obtain ⟨out, q, ho, h5, h6, h7⟩ := ih k acc (p + 1 + 1) (by omega) (by omega) (by omega) (by omega)
      exact ⟨out, q, ho, h5, h6, by omega⟩
theorem somePlaces_spec (b : List Int) (hb : ∀ x ∈ b, 0 ≤ x ∧ x ≤ 255) (hl : b.length ≤ 2000) (k : Nat) (p : Int) (hk : 50 < k) (h0 : 0 ≤ p) (h1 : p ≤ 100000) : ∃ out q, spec_somePlaces.f k b p = some (out, q) ∧ out.length ≤ 8 ∧ 0 ≤ q ∧ q ≤ p + 20 := by
  unfold spec_somePlaces.f
  obtain ⟨v, hv, hm⟩ := one_spec k (by omega) b hb hl p h0 (by omega) [4, 5, 3, 6, 1, 0, 8] (by simp) (by simp)
  rw [hv, Option.bind_some]
  have hvr : 0 ≤ v ∧ v ≤ 8 := by
    simp only [List.mem_cons, List.not_mem_nil, or_false] at hm
    omega
  obtain ⟨n, rfl⟩ := Int.eq_ofNat_of_zero_le hvr.1
  obtain ⟨out, q, ho, a, b2, c⟩ := somePlaces_l0 b hb hl n k [] (p + 1) (by simp; omega) (by omega) (by omega) (by omega)
  exact ⟨out, q, ho, a, b2, by omega⟩

/-! ### drawcoefs -/
theorem someCoefs_l0 (b : List Int) (hb : ∀ x ∈ b, 0 ≤ x ∧ x ≤ 255) (hl : b.length ≤ 2000) : ∀ (d k : Nat) (acc : List Int) (p : Int), acc.length + d ≤ 8 → 30 + d < k → 0 ≤ p → p + 2 * d + 2 ≤ 1000000 →
    ∃ out q, spec_someCoefs.l0 k acc (d : Int) b p = some (out, q) ∧ out.length ≤ 8 ∧ 0 ≤ q ∧ q ≤ p + 2 * d + 2 := by
  intro d
  induction d with
  | zero =>
    intro k acc p ha hk h0 h1
    obtain ⟨k, rfl, hk⟩ := fuel hk
    simp only [spec_someCoefs.l0]
    rw [if_neg (by omega)]
    by_cases h2 : (acc.length : Int) > 0
    · obtain ⟨v, hv, -⟩ := pick_spec k (by omega) b hb hl p h0 (by omega) 16 (by omega)
      rw [if_pos h2, hv, Option.bind_some]
      simp only
      by_cases h3 : v = 0
      · obtain ⟨u, hu, -⟩ := one_spec k (by omega) b hb hl (p + 1) (by omega) (by omega) [(-1), 251] (by simp) (by simp)
        rw [if_pos h3, hu, Option.bind_some]
        simp only
        rw [if_pos (by omega)]
        exact ⟨_, _, rfl, by simp; omega, by omega, by omega⟩
      · rw [if_neg h3]
        exact ⟨_, _, rfl, by omega, by omega, by omega⟩
    · rw [if_neg h2]
      exact ⟨_, _, rfl, by omega, by omega, by omega⟩
  | succ d ih =>
    intro k acc p ha hk h0 h1
    obtain ⟨k, rfl, hk⟩ := fuel hk
    simp only [spec_someCoefs.l0]
    obtain ⟨v, hv, -⟩ := pick_spec k (by omega) b hb hl p h0 (by omega) 251 (by omega)
    rw [if_pos (by omega), hv, Option.bind_some]
    simp only
    obtain ⟨u, hu, -⟩ := one_spec k (by omega) b hb hl (p + 1) (by omega) (by omega) [v, 0, 250, 1] (by simp) (by simp)
    rw [hu, Option.bind_some]
    simp only
    have hd : wrap64 (((d + 1 : Nat) : Int) - 1) = (d : Int) := by rw [wrap_id (by omega) (by omega)]; omega
    rw [hd, if_pos (by omega)]
    obtain ⟨out, q, ho, h5, h6, h7⟩ := ih k (acc ++ [u]) (p + 1 + 1) (by simp; omega) (by omega) (by omega) (by omega)
    exact ⟨out, q, ho, h5, h6, by omega⟩
theorem someCoefs_spec (b : List Int) (hb : ∀ x ∈ b, 0 ≤ x ∧ x ≤ 255) (hl : b.length ≤ 2000) (k : Nat) (p : Int) (hk : 50 < k) (h0 : 0 ≤ p) (h1 : p ≤ 100000) : ∃ out q, spec_someCoefs.f k b p = some (out, q) ∧ out.length ≤ 8 ∧ 0 ≤ q ∧ q ≤ p + 20 := by
  unfold spec_someCoefs.f
  obtain ⟨v, hv, hm⟩ := one_spec k (by omega) b hb hl p h0 (by omega) [3, 2, 4, 1, 0, 8] (by simp) (by simp)
  rw [hv, Option.bind_some]
  have hvr : 0 ≤ v ∧ v ≤ 8 := by
    simp only [List.mem_cons, List.not_mem_nil, or_false] at hm
    omega
  obtain ⟨n, rfl⟩ := Int.eq_ofNat_of_zero_le hvr.1
  obtain ⟨out, q, ho, a, b2, c⟩ := someCoefs_l0 b hb hl n k [] (p + 1) (by simp; omega) (by omega) (by omega) (by omega)
  exact ⟨out, q, ho, a, b2, by omega⟩

/-! ### the law -/
/-- A share that lies on the polynomial. -/
def OnP (cs : List Int) (s : S40) : Prop := hornM cs s.f0 = s.f1
theorem on_fit {cs : List Int} {l : List S40} (hl : OkSh l) (hr : Rests cs) (hc : 1 ≤ cs.length ∧ cs.length ≤ 8) (h : ∀ s ∈ l, OnP cs s) : FitS l (cs.length : Int) := by
  refine ⟨hl, by omega, ?_⟩
  rw [Int.toNat_natCast]
  refine ⟨cs, rfl, hr, fun p hp => ?_⟩
  obtain ⟨s, hs, rfl⟩ := List.mem_map.1 hp
  exact h s hs
theorem off_fit {cs : List Int} {A B : List S40} {b : S40} (hl : OkSh (A ++ b :: B)) (hr : Rests cs) (hA : ∀ s ∈ A, OnP cs s) (hB : ∀ s ∈ B, OnP cs s) (hb : ¬ OnP cs b) (hn : cs.length ≤ A.length + B.length) : ¬ FitS (A ++ b :: B) (cs.length : Int) := by
  intro hf
  have h3 := hf.2.2
  rw [Int.toNat_natCast] at h3
  refine not_fit hl.places hr (xyOf (A ++ B)) ?_ ?_ ?_ (b.f0, b.f1) ?_ hb h3
  · exact (List.Sublist.append (List.Sublist.refl _) (List.sublist_cons_self _ _)).map _
  · simp [xyOf]; omega
  · intro p hp
    obtain ⟨s, hs, rfl⟩ := List.mem_map.1 hp
    rcases List.mem_append.1 hs with hs | hs
    · exact hA s hs
    · exact hB s hs
  · exact List.mem_map.2 ⟨b, by simp, rfl⟩
theorem sub_ok {l m : List S40} (h : OkSh l) (hs : m.Sublist l) : OkSh m := by
  refine ⟨?_, fun s hm => h.2.1 s (hs.subset hm), h.2.2.sublist (hs.map _)⟩
  have := hs.length_le
  have := h.1
  omega
theorem wrong_made {cs : List Int} {A B : List S40} {b : S40} (hl : OkSh (A ++ b :: B)) (hr : Rests cs) (hc : 1 ≤ cs.length ∧ cs.length ≤ 8) (hA : ∀ s ∈ A, OnP cs s) (hB : ∀ s ∈ B, OnP cs s) (hb : ¬ OnP cs b) (hn : cs.length + 1 ≤ A.length + B.length) : WrongIs (A ++ b :: B) (cs.length : Int) (A.length : Int) := by
  refine .inl ⟨⟨hl, by omega, by simp; omega, off_fit hl hr hA hB hb (by omega)⟩, .inr ⟨A.length, rfl, by omega, by simp, ?_, fun q _ hq => ?_⟩⟩
  · have e : without (A ++ b :: B) A.length = A ++ B := by unfold without; simp
    rw [e]
    refine on_fit (sub_ok hl (List.Sublist.append (List.Sublist.refl _) (List.sublist_cons_self _ _))) hr hc (fun s hs => ?_)
    rcases List.mem_append.1 hs with hs | hs
    · exact hA s hs
    · exact hB s hs
  · have e : without (A ++ b :: B) q = A.eraseIdx q ++ b :: B := by rw [without_erase, List.eraseIdx_append_of_lt_length hq]
    rw [e]
    refine off_fit (sub_ok hl (List.Sublist.append (List.eraseIdx_sublist _ _) (List.Sublist.refl _))) hr (fun s hs => hA s (List.mem_of_mem_eraseIdx hs)) hB hb ?_
    rw [List.length_eraseIdx]
    split <;> omega
theorem deal_on (cs xs : List Int) : ∀ s ∈ dealS cs xs, OnP cs s := by
  intro s hs
  obtain ⟨x, _, rfl⟩ := List.mem_map.1 hs
  rfl
theorem set_at {α : Type} (l : List α) (i : Nat) (v : α) (h : i < l.length) : l.set i v = l.take i ++ v :: l.drop (i + 1) := by
  rw [List.set_eq_take_append_cons_drop, if_pos h]
theorem rdSh_at {xs : List S40} {i : Nat} (h : i < xs.length) : rd_T40 xs (i : Int) = xs[i] := by
  unfold rd_T40
  simp [h]
theorem wrong_l0 (cs xs : List Int) (h : OkDeal cs xs) (hc : 1 ≤ cs.length) (hn : cs.length + 2 ≤ xs.length) : ∀ (d k i : Nat), i + d = xs.length → d + 300 < k → laws_FnWrongShareMade.l0 k cs (dealS cs xs) (i : Int) = some true := by
  have hlen := dealS_length cs xs
  have hx12 := h.2.1
  have hc8 := h.1.1
  intro d
  induction d with
  | zero =>
    intro k i hi hk
    obtain ⟨k, rfl, hk⟩ := fuel (show 300 < k by omega)
    simp only [laws_FnWrongShareMade.l0]
    obtain ⟨r, e, hw⟩ := iwrong_spec k (dealS cs xs) (cs.length : Int) (by omega)
    have hm : WrongIs (dealS cs xs) (cs.length : Int) (-1) := .inr ⟨fun hcw => hcw.2.2.2 (on_fit h.ok h.1.2 ⟨hc, hc8⟩ (deal_on cs xs)), rfl⟩
    rw [if_neg (by omega), e, Option.bind_some, hw.one hm]
    rfl
  | succ d ih =>
    intro k i hi hk
    obtain ⟨k, rfl, hk⟩ := fuel (show d + 301 < k by omega)
    have hil : i < (dealS cs xs).length := by omega
    have hs := h.ok.2.1 _ (List.getElem_mem hil)
    have hon := deal_on cs xs _ (List.getElem_mem hil)
    generalize hb : (⟨((dealS cs xs)[i]).f0, ((dealS cs xs)[i].f1 + 1 + (i : Int)) % 251⟩ : S40) = b at *
    have hb0 : b.f0 = ((dealS cs xs)[i]).f0 := by rw [← hb]
    have hb1 : b.f1 = ((dealS cs xs)[i].f1 + 1 + (i : Int)) % 251 := by rw [← hb]
    have hbad : ¬ OnP cs b := by
      intro hbo
      unfold OnP at hbo hon
      rw [hb0, hon, hb1] at hbo
      omega
    have hsplit : dealS cs xs = (dealS cs xs).take i ++ (dealS cs xs)[i] :: (dealS cs xs).drop (i + 1) := by
      conv => lhs; rw [← List.take_append_drop i (dealS cs xs), List.drop_eq_getElem_cons hil]
    have hok : OkSh ((dealS cs xs).take i ++ b :: (dealS cs xs).drop (i + 1)) := by
      have h0 := h.ok
      rw [hsplit] at h0
      obtain ⟨o1, o2, o3⟩ := h0
      refine ⟨by have o1_ := h.ok.1; simp only [List.length_append, List.length_cons, List.length_take, List.length_drop]; omega, fun s hm => ?_, ?_⟩
      · rcases List.mem_append.1 hm with hm | hm
        · exact o2 s (List.mem_append_left _ hm)
        · rcases List.mem_cons.1 hm with rfl | hm
          · exact ⟨by rw [hb0]; exact hs.1, by rw [hb1]; omega⟩
          · exact o2 s (List.mem_append_right _ (List.mem_cons_of_mem _ hm))
      · have e : ((dealS cs xs).take i ++ b :: (dealS cs xs).drop (i + 1)).map (·.f0) = ((dealS cs xs).take i ++ (dealS cs xs)[i] :: (dealS cs xs).drop (i + 1)).map (·.f0) := by
          simp only [List.map_append, List.map_cons, hb0]
        rw [e]; exact o3
    have hm := wrong_made (cs := cs) hok h.1.2 ⟨hc, hc8⟩ (fun s hs => deal_on cs xs s (List.mem_of_mem_take hs)) (fun s hs => deal_on cs xs s (List.mem_of_mem_drop hs)) hbad (by rw [List.length_take, List.length_drop]; omega)
    rw [List.length_take, Nat.min_eq_left (by omega)] at hm
    obtain ⟨r, e, hw⟩ := iwrong_spec k ((dealS cs xs).take i ++ b :: (dealS cs xs).drop (i + 1)) (cs.length : Int) (by omega)
    simp only [laws_FnWrongShareMade.l0]
    rw [if_pos (by omega), Option.bind_some, if_pos (by simp; omega), Option.bind_some, List.nil_append, if_pos (by omega), if_pos (by omega), toNat_cast, rdSh_at hil, wrap_id (x := (dealS cs xs)[i].f1 + 1) (by omega) (by omega), wrap_id (by omega) (by omega), Int.tmod_eq_emod_of_nonneg (by omega), hb, set_at _ _ _ hil, e, Option.bind_some, if_pos (hw.one hm), wrap_succ (by omega)]
    exact ih k (i + 1) (by omega) (by omega)
theorem FnWrongShareMade : laws_FnWrongShareMade.Pure := by
  intro l0 _ _ hw
  refine ⟨4000001, ?_⟩
  unfold laws_FnWrongShareMade.f
  by_cases h1 : (l0.length : Int) > 1048576
  · rw [if_pos h1]
  · rw [if_neg h1]
    have hd : ∃ cs xs : List Int, spec_DrawDealShares.f 4000001 l0 = some (cs, xs) ∧ cs.length ≤ 8 ∧ xs.length ≤ 8 := by
      unfold spec_DrawDealShares.f
      obtain ⟨b, hb, hb1, hb2⟩ := newReader_spec l0 (reader_bytes hw)
      obtain ⟨cs, q, hc, hc8, hq0, hq1⟩ := someCoefs_spec b hb1 hb2 4000001 0 (by omega) (by omega) (by omega)
      obtain ⟨xs, q2, hx, hx8, -, -⟩ := somePlaces_spec b hb1 hb2 4000001 q (by omega) hq0 (by omega)
      rw [hb, Option.bind_some]
      simp only
      rw [hc, Option.bind_some]
      simp only
      rw [hx, Option.bind_some]
      exact ⟨cs, xs, rfl, hc8, hx8⟩
    obtain ⟨cs, xs, hl, hc8, hx8⟩ := hd
    have hlen : (dealM2 cs xs).length ≤ 8 := by
      unfold dealM2
      by_cases h : OkDeal cs xs
      · rw [if_pos h, dealS_length]; exact hx8
      · rw [if_neg h]; simp
    rw [hl, Option.bind_some]
    simp only
    rw [ideal_spec _ cs xs (by omega) (by omega), Option.bind_some, sdealShares_spec _ cs xs (by omega) (by omega), Option.bind_some, equalShares_self _ _ (by omega) (by omega), Option.bind_some, if_pos rfl]
    have hj : laws_FnWrongShareMade.j0 4000001 cs xs (dealM2 cs xs) true = some true := by
      simp only [laws_FnWrongShareMade.j0]
      rw [if_pos trivial, sdealShares_spec _ cs xs (by omega) (by omega), Option.bind_some, equalShares_self _ _ (by omega) (by omega), Option.bind_some]
    by_cases h2 : (cs.length : Int) = 0
    · rw [if_pos h2]; exact hj
    · rw [if_neg h2, wrap_id (by omega) (by omega)]
      by_cases h3 : ((dealM2 cs xs).length : Int) < (cs.length : Int) + 2
      · rw [decide_eq_true h3]; exact hj
      · have h5 : OkDeal cs xs := by
          by_cases h5 : OkDeal cs xs
          · exact h5
          · exfalso; apply h3; unfold dealM2; rw [if_neg h5]; simp; omega
        have e : dealM2 cs xs = dealS cs xs := by unfold dealM2; rw [if_pos h5]
        rw [decide_eq_false h3]
        rw [e, dealS_length] at h3
        rw [e]
        simp only [laws_FnWrongShareMade.j0]
        rw [if_neg (by decide)]
        exact wrong_l0 cs xs h5 (by omega) (by omega) xs.length 4000000 0 (by omega) (by omega)

end Go.Proofs.Ytaoecaikeikneaa.Pure
