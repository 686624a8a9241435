/- The law FnRefreshShares holds: the program's function answers as the reference does at every drawn input, and has the law's property; no condition. -/
import Derived.Test.YtaoecaikeikneaaPFnRefreshSharesx9
import Derived.Test.YtaoecaikeikneaaPoly
set_option linter.unusedVariables false
set_option linter.unusedSimpArgs false
namespace Go.Proofs.Ytaoecaikeikneaa.Pure
open Go.RowKit Go.Proofs.Ytaoecaikeikneaa.PFnRefreshShares Go.Proofs.YtaoecaikeikneaaW.PrintWords Go.Proofs.YtaoecaikeikneaaW.PrintLast Go.Proofs.YtaoecaikeikneaaW.PrintMore

/-! ### within -/
theorem allWithin_l0 (xs : List Int) (lo up : Int) (hb : xs.length < 4611686018427387904) : ∀ (d k i : Nat), i + d = xs.length → d < k → impl_allWithin.l0 k lo up xs (xs.length : Int) (i : Int) = some ((xs.drop i).all fun x => decide (lo ≤ x ∧ x ≤ up)) := by
  intro d
  induction d with
  | zero =>
    intro k i hi hk
    obtain ⟨k, rfl, -⟩ := fuel hk
    simp only [impl_allWithin.l0]
    rw [if_neg (by omega), drop_end (by omega)]
    simp
  | succ d ih =>
    intro k i hi hk
    obtain ⟨k, rfl, hk⟩ := fuel hk
    simp only [impl_allWithin.l0]
    rw [if_pos (by omega), if_pos (by omega), if_pos (by omega), wrap_succ (by omega), drop_rd (by omega)]
    simp only [List.all_cons]
    rw [ih k (i + 1) (by omega) (by omega)]
    by_cases h1 : rd xs (i : Int) < lo
    · rw [if_pos h1, decide_eq_false (by omega)]; rfl
    · rw [if_neg h1]
      by_cases h2 : rd xs (i : Int) > up
      · rw [if_pos h2, decide_eq_false (by omega)]; rfl
      · rw [if_neg h2, decide_eq_true (by omega)]; rfl
theorem allWithin_spec (k : Nat) (xs : List Int) (lo up : Int) (hb : xs.length < 4611686018427387904) (hk : xs.length < k) : impl_allWithin.f k xs lo up = some (xs.all fun x => decide (lo ≤ x ∧ x ≤ up)) := by
  unfold impl_allWithin.f
  have := allWithin_l0 xs lo up hb xs.length k 0 (by omega) hk
  simpa using this

/-! ### different -/
theorem flags_set {fl : List Bool} {n : Int} {seen : List Int} {x : Int} (hl : (fl.length : Int) = n) (h : ∀ j : Int, 0 ≤ j → j < n → rdOf false fl j = decide (j ∈ seen)) (h0 : 0 ≤ x) (h1 : x < n) :
    ∀ j : Int, 0 ≤ j → j < n → rdOf false (fl.set x.toNat true) j = decide (j ∈ seen ++ [x]) := by
  intro j hj0 hj
  have := h j hj0 hj
  simp only [rdOf, List.getD_eq_getElem?_getD, List.getElem?_set] at this ⊢
  by_cases e : x = j
  · subst e
    rw [if_pos rfl, if_pos (by omega)]
    simp
  · rw [if_neg (by omega), this]
    have : ¬ j = x := fun h => e h.symm
    simp [this]
theorem different_l0 (xs : List Int) (n : Int) (hb : xs.length < 4611686018427387904) : ∀ (d k i : Nat) (fl : List Bool), (fl.length : Int) = n → (∀ j : Int, 0 ≤ j → j < n → rdOf false fl j = decide (j ∈ xs.take i)) → i + d = xs.length → d < k → impl_differentBelow.l0 k n fl xs (xs.length : Int) (i : Int) = some (memB n (xs.take i) (xs.drop i)) := by
  intro d
  induction d with
  | zero =>
    intro k i fl hl hf hi hk
    obtain ⟨k, rfl, -⟩ := fuel hk
    simp only [impl_differentBelow.l0]
    rw [if_neg (by omega), drop_end (by omega)]
    simp [memB]
  | succ d ih =>
    intro k i fl hl hf hi hk
    obtain ⟨k, rfl, hk⟩ := fuel hk
    simp only [impl_differentBelow.l0]
    rw [if_pos (by omega), if_pos (by omega), if_pos (by omega), wrap_succ (by omega), drop_rd (by omega)]
    simp only [memB]
    by_cases h1 : rd xs (i : Int) < 0
    · rw [if_pos h1, decide_eq_false (by omega)]; rfl
    · rw [if_neg h1]
      by_cases h2 : rd xs (i : Int) ≥ n
      · rw [if_pos h2, decide_eq_false (by omega)]; rfl
      · rw [if_neg h2, if_pos (by omega), if_pos (by omega), hf _ (by omega) (by omega), decide_eq_true (show 0 ≤ rd xs (i : Int) ∧ rd xs (i : Int) < n by omega)]
        by_cases h3 : rd xs (i : Int) ∈ xs.take i
        · rw [decide_eq_true h3, if_pos rfl]; rfl
        · rw [decide_eq_false h3, if_neg (by decide), ih k (i + 1) _ (by simpa using hl) (by rw [take_rd (by omega)]; exact flags_set hl hf (by omega) (by omega)) (by omega) (by omega), take_rd (by omega)]; rfl
theorem different_spec (k : Nat) (xs : List Int) (n : Int) (hn : 0 ≤ n) (hn2 : n ≤ 281474976710656) (hb : xs.length < 4611686018427387904) (hk : xs.length < k) : impl_differentBelow.f k xs n = some (decide (GoodM xs n)) := by
  unfold impl_differentBelow.f
  by_cases h : (xs.length : Int) > n
  · rw [if_pos h, decide_eq_false]
    intro hg
    obtain ⟨m, rfl⟩ := Int.eq_ofNat_of_zero_le hn
    have := hg.le
    omega
  · rw [if_neg h, if_pos hn, if_pos (by omega)]
    have := different_l0 xs n hb xs.length k 0 (List.replicate n.toNat false) (by simp; omega) (fun j h0 h1 => by simp [rdOf, List.getD_eq_getElem?_getD, List.getElem?_replicate]; split <;> rfl) (by omega) hk
    rw [← memB_good]
    simpa using this

/-! ### place -/
theorem placeIn_l0 (xs : List Int) (x : Int) (hb : xs.length < 4611686018427387904) : ∀ (d k i : Nat), i + d = xs.length → d < k → spec_placeIn.l0 k xs x (i : Int) = some (idxM (xs.drop i) x i) := by
  intro d
  induction d with
  | zero =>
    intro k i hi hk
    obtain ⟨k, rfl, -⟩ := fuel hk
    simp only [spec_placeIn.l0]
    rw [if_neg (by omega), drop_end (by omega)]
    simp [idxM]
  | succ d ih =>
    intro k i hi hk
    obtain ⟨k, rfl, hk⟩ := fuel hk
    simp only [spec_placeIn.l0]
    rw [if_pos (by omega), if_pos (by omega), wrap_succ (by omega), drop_rd (by omega)]
    simp only [idxM]
    rw [ih k (i + 1) (by omega) (by omega)]
    split <;> rfl
theorem placeIn_spec (k : Nat) (xs : List Int) (x : Int) (hb : xs.length < 4611686018427387904) (hk : xs.length < k) : spec_placeIn.f k xs x = some (idxM xs x 0) := by
  unfold spec_placeIn.f
  have := placeIn_l0 xs x hb xs.length k 0 (by omega) hk
  simpa using this

/-! ### inrange -/
theorem inRange_spec (a lo up : Int) : spec_inRange.f a lo up = some (decide (lo ≤ a ∧ a ≤ up)) := by
  unfold spec_inRange.f
  by_cases h : lo ≤ a <;> simp [h]

/-! ### ranges -/
theorem allIn_l0 (xs : List Int) (lo up : Int) (hb : xs.length < 4611686018427387904) : ∀ (d k i : Nat), i + d = xs.length → d < k → spec_allIn.l0 k xs lo up (i : Int) = some ((xs.drop i).all fun x => decide (lo ≤ x ∧ x ≤ up)) := by
  intro d
  induction d with
  | zero =>
    intro k i hi hk
    obtain ⟨k, rfl, -⟩ := fuel hk
    simp only [spec_allIn.l0]
    rw [if_neg (by omega), drop_end (by omega)]
    simp
  | succ d ih =>
    intro k i hi hk
    obtain ⟨k, rfl, hk⟩ := fuel hk
    simp only [spec_allIn.l0]
    rw [if_pos (by omega), if_pos (by omega), inRange_spec, wrap_succ (by omega), drop_rd (by omega)]
    simp only [Option.bind_some, List.all_cons]
    rw [ih k (i + 1) (by omega) (by omega)]
    cases decide (lo ≤ rd xs (i : Int) ∧ rd xs (i : Int) ≤ up) <;> simp
theorem allIn_spec (k : Nat) (xs : List Int) (lo up : Int) (hb : xs.length < 4611686018427387904) (hk : xs.length < k) : spec_allIn.f k xs lo up = some (xs.all fun x => decide (lo ≤ x ∧ x ≤ up)) := by
  unfold spec_allIn.f
  have := allIn_l0 xs lo up hb xs.length k 0 (by omega) hk
  simpa using this

/-! ### shares -/
theorem rdS_at {xs : List S40} {i : Nat} (h : i < xs.length) : rd_T40 xs (i : Int) = xs[i] := by
  simp [rd_T40, List.getD_eq_getElem?_getD, List.getElem?_eq_getElem h]
theorem rdS_mem {xs : List S40} {i : Nat} (h : i < xs.length) : rd_T40 xs (i : Int) ∈ xs := by rw [rdS_at h]; exact List.getElem_mem h
theorem takeS {xs : List S40} {i : Nat} (h : i < xs.length) : xs.take (i + 1) = xs.take i ++ [rd_T40 xs (i : Int)] := by
  rw [rdS_at h, List.take_succ_eq_append_getElem h]
theorem dropS {xs : List S40} {i : Nat} (h : i < xs.length) : xs.drop i = rd_T40 xs (i : Int) :: xs.drop (i + 1) := by
  rw [rdS_at h, List.drop_eq_getElem_cons h]
theorem rdX {xs : List S40} {i : Nat} (h : i < xs.length) : rd (xs.map (·.f0)) (i : Int) = (rd_T40 xs (i : Int)).f0 := by
  rw [rdS_at h, rd_get (by simpa using h), List.getElem_map]
theorem rdY {xs : List S40} {i : Nat} (h : i < xs.length) : rd (xs.map (·.f1)) (i : Int) = (rd_T40 xs (i : Int)).f1 := by
  rw [rdS_at h, rd_get (by simpa using h), List.getElem_map]
/-- Valid shares. -/
def OkSh (l : List S40) : Prop := l.length ≤ 12 ∧ (∀ s ∈ l, (1 ≤ s.f0 ∧ s.f0 ≤ 250) ∧ (0 ≤ s.f1 ∧ s.f1 ≤ 250)) ∧ (l.map (·.f0)).Nodup
instance (l : List S40) : Decidable (OkSh l) := by unfold OkSh; infer_instance
theorem ivalid_l0 (l : List S40) (hl : l.length ≤ 12) : ∀ (d k i : Nat), i + d = l.length → d + 30 < k → impl_ValidShares.l0 k ((l.take i).map (·.f0)) ((l.take i).map (·.f1)) l (l.length : Int) (i : Int) = some (decide (OkSh l)) := by
  intro d
  induction d with
  | zero =>
    intro k i hi hk
    obtain ⟨k, rfl, -⟩ := fuel (show 0 < k by omega)
    simp only [impl_ValidShares.l0]
    rw [if_neg (by omega), List.take_of_length_le (by omega), allWithin_spec k _ 1 250 (by simp; omega) (by simp; omega), Option.bind_some]
    by_cases h1 : ((l.map (·.f0)).all fun x => decide (1 ≤ x ∧ x ≤ 250)) = true
    · rw [if_pos h1, different_spec k _ 251 (by omega) (by omega) (by simp; omega) (by simp; omega), Option.bind_some]
      by_cases h2 : GoodM (l.map (·.f0)) 251
      · rw [decide_eq_true h2, if_pos rfl, allWithin_spec k _ 0 250 (by simp; omega) (by simp; omega), Option.bind_some]
        congr 1
        rw [Bool.eq_iff_iff, decide_eq_true_iff, List.all_eq_true]
        rw [List.all_eq_true] at h1
        constructor
        · intro h3
          refine ⟨hl, fun s hs => ⟨?_, ?_⟩, h2.1⟩
          · simpa using h1 s.f0 (List.mem_map_of_mem hs)
          · simpa using h3 s.f1 (List.mem_map_of_mem hs)
        · intro h3 y hy
          obtain ⟨s, hs, rfl⟩ := List.mem_map.1 hy
          simpa using (h3.2.1 s hs).2
      · rw [decide_eq_false h2, if_neg (by decide), decide_eq_false]
        intro h3
        refine h2 ⟨h3.2.2, fun x hx => ?_⟩
        obtain ⟨s, hs, rfl⟩ := List.mem_map.1 hx
        have := h3.2.1 s hs
        omega
    · rw [if_neg h1, decide_eq_false]
      intro h3
      refine h1 (List.all_eq_true.2 fun x hx => ?_)
      obtain ⟨s, hs, rfl⟩ := List.mem_map.1 hx
      simpa using (h3.2.1 s hs).1
  | succ d ih =>
    intro k i hi hk
    obtain ⟨k, rfl, hk⟩ := fuel hk
    simp only [impl_ValidShares.l0]
    rw [if_pos (by omega), if_pos (by omega), if_pos (by omega), wrap_succ (by omega), Option.bind_some, if_pos (by simp; omega), Option.bind_some, if_pos (by simp; omega)]
    have := ih k (i + 1) (by omega) (by omega)
    rw [takeS (by omega), List.map_append, List.map_append] at this
    exact this
theorem ivalid_spec (k : Nat) (l : List S40) (hk : 50 < k) : impl_ValidShares.f k l = some (decide (OkSh l)) := by
  unfold impl_ValidShares.f
  by_cases h : (l.length : Int) > 12
  · rw [if_pos h, decide_eq_false]
    intro h2
    have := h2.1
    omega
  · rw [if_neg h]
    have := ivalid_l0 l (by omega) l.length k 0 (by omega) (by omega)
    simpa using this
theorem idxM_ge : ∀ (xs : List Int) (x : Int) (i : Nat), (idxM xs x i ≥ 0) ↔ x ∈ xs := by
  intro xs
  induction xs with
  | nil => intro x i; simp [idxM]
  | cons a t ih =>
    intro x i
    simp only [idxM]
    by_cases e : a = x
    · rw [if_pos e]; simp [e]
    · rw [if_neg e, ih]
      simp [Ne.symm e]
theorem splaces_l0 (xs : List Int) (hb : xs.length ≤ 1048576) : ∀ (d k i : Nat), i + d = xs.length → (xs.take i).Nodup → d + 1048580 < k → spec_validPlaces.l0 k xs (i : Int) = some (decide (xs.length ≤ 12 ∧ (∀ x ∈ xs, 1 ≤ x ∧ x ≤ 250) ∧ xs.Nodup)) := by
  intro d
  induction d with
  | zero =>
    intro k i hi hn hk
    obtain ⟨k, rfl, -⟩ := fuel (show 0 < k by omega)
    simp only [spec_validPlaces.l0]
    rw [List.take_of_length_le (by omega)] at hn
    rw [if_neg (by omega)]
    by_cases h : (xs.length : Int) ≤ 12
    · rw [if_pos h, allIn_spec k xs 1 250 (by omega) (by omega), Option.bind_some]
      congr 1
      rw [Bool.eq_iff_iff, decide_eq_true_iff, List.all_eq_true]
      constructor
      · exact fun h2 => ⟨by omega, fun x hx => by simpa using h2 x hx, hn⟩
      · exact fun h2 x hx => by simpa using h2.2.1 x hx
    · rw [if_neg h, decide_eq_false (fun h2 => h (by omega))]
  | succ d ih =>
    intro k i hi hn hk
    obtain ⟨k, rfl, hk⟩ := fuel hk
    simp only [spec_validPlaces.l0]
    rw [if_pos (by omega), if_pos (by omega), if_pos (by omega), wrap_succ (by omega), toNat_cast, placeIn_spec k _ _ (by simp; omega) (by simp; omega), Option.bind_some]
    by_cases h : rd xs (i : Int) ∈ xs.take i
    · rw [if_pos ((idxM_ge _ _ _).2 h), decide_eq_false]
      intro h2
      have h3 := h2.2.2
      rw [← List.take_append_drop i xs, List.nodup_append] at h3
      exact h3.2.2 _ h _ (by rw [drop_rd (by omega)]; simp) rfl
    · rw [if_neg (fun h2 => h ((idxM_ge _ _ _).1 h2))]
      refine ih k (i + 1) (by omega) ?_ (by omega)
      rw [take_rd (by omega), List.nodup_append]
      exact ⟨hn, by simp, fun a ha b hb2 => by rw [List.mem_singleton] at hb2; subst hb2; exact fun e => h (e ▸ ha)⟩
theorem splaces_spec (k : Nat) (xs : List Int) (hb : xs.length ≤ 1048576) (hk : 2097200 < k) : spec_validPlaces.f k xs = some (decide (xs.length ≤ 12 ∧ (∀ x ∈ xs, 1 ≤ x ∧ x ≤ 250) ∧ xs.Nodup)) := by
  unfold spec_validPlaces.f
  exact splaces_l0 xs hb xs.length k 0 (by omega) (by simp) (by omega)

/-! ### srest -/
theorem svalidRest_spec (n : Int) : spec_validRest.f n = some (decide (0 ≤ n ∧ n ≤ 250)) := by
  unfold spec_validRest.f
  rw [inRange_spec, Option.bind_some]

/-! ### svalid -/
theorem svalid_l0 (l : List S40) (hb : l.length ≤ 1048576) : ∀ (d k i : Nat), i + d = l.length → (∀ s ∈ l.take i, 0 ≤ s.f1 ∧ s.f1 ≤ 250) → d + 2097201 < k → spec_validShares.l0 k l ((l.take i).map (·.f0)) (i : Int) = some (decide (OkSh l)) := by
  intro d
  induction d with
  | zero =>
    intro k i hi hy hk
    obtain ⟨k, rfl, hk⟩ := fuel hk
    simp only [spec_validShares.l0]
    rw [List.take_of_length_le (by omega)] at hy
    rw [if_neg (by omega), List.take_of_length_le (by omega), splaces_spec k _ (by simpa using hb) (by omega), Option.bind_some]
    congr 1
    rw [decide_eq_decide]
    unfold OkSh
    rw [List.length_map]
    constructor
    · exact fun h => ⟨h.1, fun s hs => ⟨h.2.1 _ (List.mem_map_of_mem hs), hy s hs⟩, h.2.2⟩
    · exact fun h => ⟨h.1, fun x hx => by obtain ⟨s, hs, rfl⟩ := List.mem_map.1 hx; exact (h.2.1 s hs).1, h.2.2⟩
  | succ d ih =>
    intro k i hi hy hk
    obtain ⟨k, rfl, hk⟩ := fuel hk
    simp only [spec_validShares.l0]
    rw [if_pos (by omega), if_pos (by omega), svalidRest_spec, Option.bind_some]
    by_cases h : 0 ≤ (rd_T40 l (i : Int)).f1 ∧ (rd_T40 l (i : Int)).f1 ≤ 250
    · rw [decide_eq_true h, if_pos rfl, if_pos (by simp; omega), wrap_succ (by omega)]
      have := ih k (i + 1) (by omega) (fun s hs => by
        rw [takeS (by omega)] at hs
        rcases List.mem_append.1 hs with hs | hs
        · exact hy s hs
        · rw [List.mem_singleton] at hs; subst hs; exact h) (by omega)
      rw [takeS (by omega), List.map_append] at this
      exact this
    · rw [decide_eq_false h, if_neg (by decide), decide_eq_false]
      exact fun h2 => h (h2.2.1 _ (rdS_mem (by omega))).2
theorem svalid_spec (k : Nat) (l : List S40) (hb : l.length ≤ 1048576) (hk : 3145800 < k) : spec_validShares.f k l = some (decide (OkSh l)) := by
  unfold spec_validShares.f
  have := svalid_l0 l hb l.length k 0 (by omega) (by simp) (by omega)
  simpa using this

/-! ### placeso -/
theorem xyOf_x (l : List S40) : (xyOf l).map (·.1) = l.map (·.f0) := by simp [xyOf, Function.comp_def]
theorem xyOf_y (l : List S40) : (xyOf l).map (·.2) = l.map (·.f1) := by simp [xyOf, Function.comp_def]
theorem xyOf_length (l : List S40) : (xyOf l).length = l.length := by simp [xyOf]
theorem OkSh.places {l : List S40} (h : OkSh l) : Places (xyOf l) := by
  refine ⟨fun q hq => ?_, by rw [xyOf_x]; exact h.2.2⟩
  obtain ⟨s, hs, rfl⟩ := List.mem_map.1 hq
  have := h.2.1 s hs
  exact ⟨⟨by simp only; omega, by simp only; omega⟩, ⟨by simp only; omega, by simp only; omega⟩⟩
theorem ipoly_spec {l : List S40} (h : Places (xyOf l)) (hl : l.length ≤ 8) : impl_polyOf.f l = some (thr (xyOf l)) := by
  unfold impl_polyOf.f
  rw [if_pos]
  unfold polyOK
  rw [Bool.and_eq_true, Bool.and_eq_true]
  refine ⟨decide_eq_true hl, List.all_eq_true.2 fun s hs => ?_, decide_eq_true ?_⟩
  · have := h.xy (s.f0, s.f1) (List.mem_map_of_mem (f := fun s : S40 => (s.f0, s.f1)) hs)
    exact decide_eq_true ⟨this.1.1, this.1.2, this.2.1, this.2.2⟩
  · have := h.nd; rwa [xyOf_x] at this

/-! ### ipolythr -/
theorem thr_rd0 {l : List S40} (h : Places (xyOf l)) (h0 : 0 < l.length) : 0 ≤ rd (thr (xyOf l)) 0 ∧ rd (thr (xyOf l)) 0 < 251 := thr_rests h _ (rd_mem (i := 0) (by rw [thr_length h, xyOf_length]; exact h0))
theorem ipolyThrough_spec (k : Nat) (l : List S40) (hk : 50 < k) : impl_PolyThrough.f k l = some (if l.length ≤ 8 ∧ OkSh l then thr (xyOf l) else []) := by
  unfold impl_PolyThrough.f
  by_cases h : (l.length : Int) > 8
  · rw [if_pos h, if_neg (fun h2 => by omega)]
  · rw [if_neg h, ivalid_spec k l hk, Option.bind_some]
    by_cases h2 : OkSh l
    · rw [decide_eq_true h2, if_pos rfl, ipoly_spec h2.places (by omega), Option.bind_some, if_pos ⟨by omega, h2⟩]
    · rw [decide_eq_false h2, if_neg (by decide), if_neg (fun h3 => h2 h3.2)]
/-- The polynomial through shares, none of invalid ones. -/
def polyM (l : List S40) : List Int := if l.length ≤ 8 ∧ OkSh l then thr (xyOf l) else []
theorem polyM_length (l : List S40) : (polyM l).length ≤ 8 := by
  unfold polyM
  by_cases h : l.length ≤ 8 ∧ OkSh l
  · rw [if_pos h, thr_length h.2.places, xyOf_length]; exact h.1
  · rw [if_neg h]; simp
theorem ipoly_M (k : Nat) (l : List S40) (hk : 50 < k) : impl_PolyThrough.f k l = some (polyM l) := ipolyThrough_spec k l hk

/-! ### iopen -/
/-- The secret of shares. -/
def secM (l : List S40) : Int := if (1 ≤ l.length ∧ l.length ≤ 8) ∧ OkSh l then rd (thr (xyOf l)) 0 else -1
theorem iopen_spec (k : Nat) (l : List S40) (hk : 50 < k) : impl_OpenSecret.f k l = some (secM l) := by
  unfold impl_OpenSecret.f secM
  rw [ipolyThrough_spec k l hk, Option.bind_some]
  by_cases h : l.length ≤ 8 ∧ OkSh l
  · rw [if_pos h, thr_length h.2.places, xyOf_length]
    by_cases h0 : l.length = 0
    · rw [if_pos (by omega), if_neg (by omega)]
    · rw [if_neg (by omega), if_pos (by omega), if_pos ⟨⟨by omega, h.1⟩, h.2⟩]
  · rw [if_neg h, if_pos (by simp), if_neg (fun h2 => h ⟨h2.1.2, h2.2⟩)]

/-! ### polyat -/
theorem hornW_eq {x : Int} (hx : 0 ≤ x ∧ x < 251) : ∀ zs : List Int, Rests zs → hornW zs x = hornM zs x := by
  intro zs
  induction zs with
  | nil => intro _; rfl
  | cons c t ih =>
    intro h
    have hc := h c (by simp)
    have hr := hornM_range t x
    have hb : 0 ≤ hornM t x * x := Int.mul_nonneg (by omega) (by omega)
    have hb2 : hornM t x * x ≤ 250 * 250 := Int.mul_le_mul (by omega) (by omega) (by omega) (by omega)
    simp only [hornW, hornM]
    rw [ih fun d hd => h d (by simp [hd]), wrap_id (x := hornM t x * x) (by omega) (by omega), wrap_id (by omega) (by omega), Int.tmod_eq_emod_of_nonneg (by omega)]
instance (cs : List Int) : Decidable (Rests cs) := by unfold Rests; infer_instance
theorem ivalidCoefs_spec (k : Nat) (cs : List Int) (hk : 10 < k) : impl_validCoefs.f k cs = some (decide (cs.length ≤ 8 ∧ Rests cs)) := by
  unfold impl_validCoefs.f
  by_cases h : (cs.length : Int) ≤ 8
  · rw [if_pos h, allWithin_spec k cs 0 250 (by omega) (by omega), Option.bind_some]
    congr 1
    rw [Bool.eq_iff_iff, decide_eq_true_iff, List.all_eq_true]
    constructor
    · exact fun h2 => ⟨by omega, fun c hc => by have := h2 c hc; simp at this; omega⟩
    · exact fun h2 c hc => by have := h2.2 c hc; simp; omega
  · rw [if_neg h, decide_eq_false (fun h2 => h (by omega))]
theorem ipolyAt_spec (k : Nat) (cs : List Int) (x : Int) (hr : Rests cs) (hl : cs.length ≤ 8) (hx : 0 ≤ x ∧ x < 251) (hk : 10 < k) : impl_PolyAt.f k cs x = some (hornM cs x) := by
  unfold impl_PolyAt.f
  rw [ivalidCoefs_spec k cs hk, decide_eq_true ⟨hl, hr⟩, Option.bind_some, if_pos rfl, if_neg (by omega), if_neg (by omega), if_pos (by omega), hornW_eq hx cs hr]

/-! ### spolyat -/
theorem spolyAt_l0 (cs : List Int) (x : Int) (hr : Rests cs) (hx : 0 ≤ x ∧ x < 251) (hb : cs.length ≤ 1000) : ∀ (i k : Nat), i ≤ cs.length → i < k → spec_polyAt.l0 k cs x (hornM (cs.drop i) x) ((i : Int) - 1) = some (hornM cs x) := by
  intro i
  induction i with
  | zero =>
    intro k hi hk
    obtain ⟨k, rfl, -⟩ := fuel hk
    simp only [spec_polyAt.l0]
    rw [if_neg (by omega), List.drop_zero]
  | succ i ih =>
    intro k hi hk
    obtain ⟨k, rfl, hk⟩ := fuel hk
    simp only [spec_polyAt.l0]
    have e : ((i + 1 : Nat) : Int) - 1 = (i : Int) := by omega
    have hm := hornM_range (cs.drop (i + 1)) x
    have hc := hr _ (rd_mem (xs := cs) (i := i) (by omega))
    have n0 : 0 ≤ hornM (cs.drop (i + 1)) x * x := Int.mul_nonneg (by omega) (by omega)
    have n1 : hornM (cs.drop (i + 1)) x * x ≤ 250 * 250 := Int.mul_le_mul (by omega) (by omega) (by omega) (by omega)
    rw [e, if_pos (by omega), if_pos (by omega), if_pos (by omega), wrap_id (x := hornM (cs.drop (i + 1)) x * x) (by omega) (by omega), wrap_id (x := hornM (cs.drop (i + 1)) x * x + rd cs (i : Int)) (by omega) (by omega), wrap_id (by omega) (by omega), Int.tmod_eq_emod_of_nonneg (by omega)]
    have := ih k (by omega) (by omega)
    rw [drop_rd (by omega)] at this
    exact this
theorem spolyAt_spec (k : Nat) (cs : List Int) (x : Int) (hr : Rests cs) (hx : 0 ≤ x ∧ x < 251) (hb : cs.length ≤ 1000) (hk : cs.length < k) : spec_polyAt.f k cs x = some (hornM cs x) := by
  unfold spec_polyAt.f
  rw [wrap_id (by omega) (by omega)]
  have := spolyAt_l0 cs x hr hx hb cs.length k (Nat.le_refl _) hk
  rw [List.drop_length] at this
  exact this
theorem svalidPoly_spec (k : Nat) (cs : List Int) (hk : 10 < k) : spec_validPoly.f k cs = some (decide (cs.length ≤ 8 ∧ ∀ c ∈ cs, 0 ≤ c ∧ c < 251)) := by
  unfold spec_validPoly.f
  by_cases h : (cs.length : Int) ≤ 8
  · rw [if_pos h, allIn_spec k cs 0 250 (by omega) (by omega), Option.bind_some]
    congr 1
    rw [Bool.eq_iff_iff, decide_eq_true_iff, List.all_eq_true]
    constructor
    · exact fun h2 => ⟨by omega, fun c hc => by have := h2 c hc; simp at this; omega⟩
    · exact fun h2 c hc => by have := h2.2 c hc; simp; omega
  · rw [if_neg h, decide_eq_false (fun h2 => h (by omega))]

/-! ### equalshares -/
theorem equalShares_l0 (a : List S40) (hb : a.length ≤ 1048576) : ∀ (d k i : Nat), i + d = a.length → d < k → laws_equalShares.l0 k a a (i : Int) = some true := by
  intro d
  induction d with
  | zero =>
    intro k i hi hk
    obtain ⟨k, rfl, -⟩ := fuel hk
    simp only [laws_equalShares.l0]
    rw [if_neg (by omega)]
  | succ d ih =>
    intro k i hi hk
    obtain ⟨k, rfl, hk⟩ := fuel hk
    simp only [laws_equalShares.l0]
    rw [if_pos (by omega), if_pos (by omega), if_pos (by omega), beq_self_eq_true, beq_self_eq_true, if_neg (by decide), wrap_succ (by omega)]
    exact ih k (i + 1) (by omega) (by omega)
theorem equalShares_self (k : Nat) (a : List S40) (hb : a.length ≤ 1048576) (hk : 1048600 < k) : laws_equalShares.f k a a = some true := by
  unfold laws_equalShares.f
  rw [if_pos rfl]
  exact equalShares_l0 a hb a.length k 0 (by omega) (by omega)

/-! ### reader -/
/-- A pick: a number below the bound (0 where there is none), one place on. -/
theorem pick_spec (k : Nat) (hk : 1 ≤ k) (b : List Int) (hb : ∀ x ∈ b, 0 ≤ x ∧ x ≤ 255) (hl : b.length ≤ 2000) (p : Int) (hp0 : 0 ≤ p) (hp : p ≤ 1000000) (n : Int) (hn : n ≤ 1000000000000) :
    ∃ v, spec_reader_pick.f k b p n = some (v, p + 1) ∧ 0 ≤ v ∧ (0 < n → v < n) ∧ (n ≤ 0 → v = 0) := by
  obtain ⟨k, rfl, -⟩ := fuel hk
  have hw : wrap64 (p + 1) = p + 1 := wrap_succ' hp0 (by omega)
  have hw2 : wrap64 (p + 1 - 1) = p := by rw [wrap_id (by omega) (by omega)]; omega
  unfold spec_reader_pick.f
  rw [hw]
  by_cases h1 : n < 1
  · rw [if_pos h1]
    exact ⟨0, by simp [spec_reader_pick.j0], by omega, by omega, fun _ => rfl⟩
  · rw [if_neg h1]
    by_cases h2 : b.length = 0
    · have e : ((b.length : Int) == 0) = true := by simp [h2]
      rw [e]
      exact ⟨0, by simp [spec_reader_pick.j0], by omega, fun _ => by omega, fun _ => rfl⟩
    · have e : ((b.length : Int) == 0) = false := by rw [beq_eq_false_iff_ne]; omega
      rw [e]
      simp only [spec_reader_pick.j0]
      rw [if_neg (by decide), hw2]
      have rdb : ∀ i : Int, 0 ≤ i → i < (b.length : Int) → 0 ≤ rd b i ∧ rd b i ≤ 255 := fun i h0 h => hb _ (rd_mem' h0 h)
      by_cases h3 : p < (b.length : Int)
      · rw [if_pos h3, if_pos hp0, if_neg (by omega)]
        have hr := rdb p hp0 h3
        rw [wrap_id (x := rd b p) (by omega) (by omega), Int.tmod_eq_emod_of_nonneg hr.1]
        exact ⟨_, rfl, Int.emod_nonneg _ (by omega), fun _ => Int.emod_lt_of_pos _ (by omega), fun h => by omega⟩
      · have hL : (0 : Int) < (b.length : Int) := by omega
        have m1 := Int.emod_nonneg p (b := (b.length : Int)) (by omega)
        have m2 := Int.emod_lt_of_pos p hL
        have w7 : wrap64 (wrap64 (p * 7) + 3) = p * 7 + 3 := by rw [wrap_add_l, wrap_id (by omega) (by omega)]
        have m3 := Int.emod_nonneg (p * 7 + 3) (b := (b.length : Int)) (by omega)
        have m4 := Int.emod_lt_of_pos (p * 7 + 3) hL
        rw [if_neg h3, if_neg (by omega)]
        rw [w7]
        rw [Int.tmod_eq_emod_of_nonneg hp0, Int.tmod_eq_emod_of_nonneg (by omega : (0 : Int) ≤ p * 7 + 3)]
        rw [if_pos m1, if_pos m2, if_pos m3, if_pos m4, if_neg (by omega)]
        have r1 := rdb _ m1 m2
        have r2 := rdb _ m3 m4
        have hq : 0 ≤ Int.tdiv p (b.length : Int) ∧ Int.tdiv p (b.length : Int) ≤ p := by
          rw [Int.tdiv_eq_ediv_of_nonneg hp0]
          exact ⟨Int.ediv_nonneg hp0 (by omega), Int.ediv_le_self _ hp0⟩
        generalize rd b (p % (b.length : Int)) = x at *
        generalize rd b ((p * 7 + 3) % (b.length : Int)) = y at *
        generalize Int.tdiv p (b.length : Int) = q at *
        have hx : wrap64 x = x := wrap_id (by omega) (by omega)
        have hy : wrap64 y = y := wrap_id (by omega) (by omega)
        have hqq : wrap64 q = q := wrap_id (by omega) (by omega)
        rw [hx, hy, hqq]
        have e1 : wrap64 (x * 131) = x * 131 := wrap_id (by omega) (by omega)
        have e2 : wrap64 (y * 1117) = y * 1117 := wrap_id (by omega) (by omega)
        have e3 : wrap64 (p * 29) = p * 29 := wrap_id (by omega) (by omega)
        have e4 : wrap64 (q * 53) = q * 53 := wrap_id (by omega) (by omega)
        rw [e1, e2, e3, e4]
        have e5 : wrap64 (x * 131 + y * 1117) = x * 131 + y * 1117 := wrap_id (by omega) (by omega)
        rw [e5]
        have e6 : wrap64 (x * 131 + y * 1117 + p * 29) = x * 131 + y * 1117 + p * 29 := wrap_id (by omega) (by omega)
        rw [e6]
        have e7 : wrap64 (x * 131 + y * 1117 + p * 29 + q * 53) = x * 131 + y * 1117 + p * 29 + q * 53 := wrap_id (by omega) (by omega)
        rw [e7]
        have hz : 0 ≤ x * 131 + y * 1117 + p * 29 + q * 53 ∧ x * 131 + y * 1117 + p * 29 + q * 53 ≤ 1000000000 := by omega
        generalize x * 131 + y * 1117 + p * 29 + q * 53 = z at *
        have hz64 : 0 ≤ Int.tdiv z 64 ∧ Int.tdiv z 64 ≤ z := by
          rw [Int.tdiv_eq_ediv_of_nonneg hz.1]; omega
        rw [wrap_id (x := Int.tdiv z 64) (by omega) (by omega)]
        have hxor := bits_xor (a := z) (b := Int.tdiv z 64) hz.1 (by omega) hz64.1 (by omega)
        rw [Int.tmod_eq_emod_of_nonneg hxor.1]
        exact ⟨_, rfl, Int.emod_nonneg _ (by omega), fun _ => Int.emod_lt_of_pos _ (by omega), fun h => by omega⟩
/-- One of some numbers. -/
theorem one_spec (k : Nat) (hk : 1 ≤ k) (b : List Int) (hb : ∀ x ∈ b, 0 ≤ x ∧ x ≤ 255) (hl : b.length ≤ 2000) (p : Int) (hp0 : 0 ≤ p) (hp : p ≤ 1000000) (l : List Int) (hn0 : l ≠ []) (hn : l.length ≤ 1000000) :
    ∃ v, spec_reader_one.f k b p l = some (v, p + 1) ∧ v ∈ l := by
  have h0 : 0 < l.length := List.length_pos_iff.2 hn0
  obtain ⟨v, hv, h1, h2, -⟩ := pick_spec k hk b hb hl p hp0 hp (l.length : Int) (by omega)
  unfold spec_reader_one.f
  rw [hv]
  simp only [Option.bind_some]
  rw [if_pos h1, if_pos (h2 (by omega))]
  exact ⟨_, rfl, rd_mem' h1 (h2 (by omega))⟩
theorem reader_bytes {l : List Int} (h : ∀ x ∈ l, (Lit.int .u8 x).wf = true) : ∀ x ∈ l, 0 ≤ x ∧ x ≤ 255 := by
  intro x hx
  have := h x hx
  simp [Lit.wf, IntKind.min, IntKind.max, IntKind.bits, IntKind.signed] at this
  omega
/-- A reader of some code: its bytes. -/
theorem newReader_spec (l : List Int) (h : ∀ x ∈ l, 0 ≤ x ∧ x ≤ 255) : ∃ b : List Int, spec_newReader.f l = some (b, 0) ∧ (∀ x ∈ b, 0 ≤ x ∧ x ≤ 255) ∧ b.length ≤ 2000 := by
  unfold spec_newReader.f
  by_cases h1 : (l.length : Int) > 2000
  · rw [if_pos h1, if_pos (by omega)]
    exact ⟨_, rfl, fun x hx => h x (List.mem_of_mem_take hx), by simp; omega⟩
  · rw [if_neg h1]
    exact ⟨_, rfl, h, by omega⟩

/-! ### drawplaces -/
theorem somePlaces_l0 (b : List Int) (hb : ∀ x ∈ b, 0 ≤ x ∧ x ≤ 255) (hl : b.length ≤ 2000) : ∀ (d k : Nat) (acc : List Int) (p : Int), acc.length + d ≤ 8 → 30 + d < k → 0 ≤ p → p + 2 * d + 2 ≤ 1000000 →
    ∃ out q, spec_somePlaces.l0 k acc (d : Int) b p = some (out, q) ∧ out.length ≤ 8 ∧ 0 ≤ q ∧ q ≤ p + 2 * d + 2 := by
  intro d
  induction d with
  | zero =>
    intro k acc p ha hk h0 h1
    obtain ⟨k, rfl, hk⟩ := fuel hk
    simp only [spec_somePlaces.l0]
    rw [if_neg (by omega)]
    by_cases h2 : (acc.length : Int) > 0
    · obtain ⟨v, hv, -⟩ := pick_spec k (by omega) b hb hl p h0 (by omega) 16 (by omega)
      rw [if_pos h2, hv, Option.bind_some]
      simp only
      by_cases h3 : v = 0
      · have hw : wrap64 ((acc.length : Int) - 1) = (acc.length : Int) - 1 := wrap_id (by omega) (by omega)
        obtain ⟨u, hu, -⟩ := one_spec k (by omega) b hb hl (p + 1) (by omega) (by omega) [0, 251, rd acc (wrap64 ((acc.length : Int) - 1))] (by simp) (by simp)
        rw [if_pos h3, hw, if_pos (by omega), if_pos (by omega)]
        rw [hw] at hu
        rw [hu, Option.bind_some]
        simp only
        rw [if_pos (by omega)]
        exact ⟨_, _, rfl, by simp; omega, by omega, by omega⟩
      · rw [if_neg h3]
        exact ⟨_, _, rfl, by omega, by omega, by omega⟩
    · rw [if_neg h2]
      exact ⟨_, _, rfl, by omega, by omega, by omega⟩
  | succ d ih =>
    intro k acc p ha hk h0 h1
    obtain ⟨k, rfl, hk⟩ := fuel hk
    simp only [spec_somePlaces.l0]
    obtain ⟨v, hv, hv0, hv1, -⟩ := pick_spec k (by omega) b hb hl p h0 (by omega) 250 (by omega)
    rw [if_pos (by omega), hv, Option.bind_some]
    simp only
    obtain ⟨u, hu, -⟩ := one_spec k (by omega) b hb hl (p + 1) (by omega) (by omega) [wrap64 (1 + v), wrap64 ((acc.length : Int) + 1)] (by simp) (by simp)
    rw [hu, Option.bind_some]
    simp only
    rw [placeIn_spec k acc u (by omega) (by omega), Option.bind_some]
    have hd : wrap64 (((d + 1 : Nat) : Int) - 1) = (d : Int) := by rw [wrap_id (by omega) (by omega)]; omega
    rw [hd]
    by_cases h4 : idxM acc u 0 < 0
    · rw [if_pos h4, if_pos (by omega)]
      obtain ⟨out, q, ho, h5, h6, h7⟩ := ih k (acc ++ [u]) (p + 1 + 1) (by simp; omega) (by omega) (by omega) (by omega)
      exact ⟨out, q, ho, h5, h6, by omega⟩
    · rw [if_neg h4]
      obtain ⟨out, q, ho, h5, h6, h7⟩ := ih k acc (p + 1 + 1) (by omega) (by omega) (by omega) (by omega)
      exact ⟨out, q, ho, h5, h6, by omega⟩
theorem somePlaces_spec (b : List Int) (hb : ∀ x ∈ b, 0 ≤ x ∧ x ≤ 255) (hl : b.length ≤ 2000) (k : Nat) (p : Int) (hk : 50 < k) (h0 : 0 ≤ p) (h1 : p ≤ 100000) : ∃ out q, spec_somePlaces.f k b p = some (out, q) ∧ out.length ≤ 8 ∧ 0 ≤ q ∧ q ≤ p + 20 := by
  unfold spec_somePlaces.f
  obtain ⟨v, hv, hm⟩ := one_spec k (by omega) b hb hl p h0 (by omega) [4, 5, 3, 6, 1, 0, 8] (by simp) (by simp)
  rw [hv, Option.bind_some]
  have hvr : 0 ≤ v ∧ v ≤ 8 := by
    simp only [List.mem_cons, List.not_mem_nil, or_false] at hm
    omega
  obtain ⟨n, rfl⟩ := Int.eq_ofNat_of_zero_le hvr.1
  obtain ⟨out, q, ho, a, b2, c⟩ := somePlaces_l0 b hb hl n k [] (p + 1) (by simp; omega) (by omega) (by omega) (by omega)
  exact ⟨out, q, ho, a, b2, by omega⟩

/-! ### drawshares -/
theorem someShares_l0 (b : List Int) (hb : ∀ x ∈ b, 0 ≤ x ∧ x ≤ 255) (hl : b.length ≤ 2000) (xs : List Int) (hx : xs.length ≤ 8) : ∀ (d k i : Nat) (acc : List S40) (p : Int), i + d = xs.length → acc.length = i → d + 10 < k → 0 ≤ p → p + d + 2 ≤ 1000000 →
    ∃ out q, spec_someShares.l0 k acc xs (i : Int) b p = some (out, q) ∧ out.length ≤ 8 ∧ 0 ≤ q ∧ q ≤ p + d + 2 := by
  intro d
  induction d with
  | zero =>
    intro k i acc p hi ha hk h0 h1
    obtain ⟨k, rfl, hk⟩ := fuel hk
    simp only [spec_someShares.l0]
    rw [if_neg (by omega)]
    by_cases h2 : (acc.length : Int) > 0
    · obtain ⟨v, hv, -⟩ := pick_spec k (by omega) b hb hl p h0 (by omega) 20 (by omega)
      rw [if_pos h2, hv, Option.bind_some]
      simp only
      by_cases h3 : v = 0
      · obtain ⟨u, hu, -⟩ := one_spec k (by omega) b hb hl (p + 1) (by omega) (by omega) [(-1), 251] (by simp) (by simp)
        rw [if_pos h3, hu, Option.bind_some]
        simp only
        rw [if_pos (by omega)]
        exact ⟨_, _, rfl, by simp; omega, by omega, by omega⟩
      · rw [if_neg h3]
        exact ⟨_, _, rfl, by omega, by omega, by omega⟩
    · rw [if_neg h2]
      exact ⟨_, _, rfl, by omega, by omega, by omega⟩
  | succ d ih =>
    intro k i acc p hi ha hk h0 h1
    obtain ⟨k, rfl, hk⟩ := fuel hk
    simp only [spec_someShares.l0]
    obtain ⟨v, hv, -⟩ := pick_spec k (by omega) b hb hl p h0 (by omega) 251 (by omega)
    rw [if_pos (by omega), if_pos (by omega), hv, Option.bind_some]
    simp only
    rw [if_pos (by omega), wrap_succ (by omega)]
    obtain ⟨out, q, ho, h5, h6, h7⟩ := ih k (i + 1) (acc ++ [⟨rd xs (i : Int), v⟩]) (p + 1) (by omega) (by simp; omega) (by omega) (by omega) (by omega)
    exact ⟨out, q, ho, h5, h6, by omega⟩
theorem someShares_spec (b : List Int) (hb : ∀ x ∈ b, 0 ≤ x ∧ x ≤ 255) (hl : b.length ≤ 2000) (k : Nat) (p : Int) (hk : 50 < k) (h0 : 0 ≤ p) (h1 : p ≤ 90000) : ∃ out q, spec_someShares.f k b p = some (out, q) ∧ out.length ≤ 8 ∧ 0 ≤ q ∧ q ≤ p + 40 := by
  unfold spec_someShares.f
  obtain ⟨xs, q, hx, hx8, hq0, hq1⟩ := somePlaces_spec b hb hl k p hk h0 (by omega)
  rw [hx, Option.bind_some]
  obtain ⟨out, q2, ho, a, b2, c⟩ := someShares_l0 b hb hl xs hx8 xs.length k 0 [] q (by omega) rfl (by omega) hq0 (by omega)
  exact ⟨out, q2, ho, a, b2, by omega⟩

/-! ### drawcoefs -/
theorem someCoefs_l0 (b : List Int) (hb : ∀ x ∈ b, 0 ≤ x ∧ x ≤ 255) (hl : b.length ≤ 2000) : ∀ (d k : Nat) (acc : List Int) (p : Int), acc.length + d ≤ 8 → 30 + d < k → 0 ≤ p → p + 2 * d + 2 ≤ 1000000 →
    ∃ out q, spec_someCoefs.l0 k acc (d : Int) b p = some (out, q) ∧ out.length ≤ 8 ∧ 0 ≤ q ∧ q ≤ p + 2 * d + 2 := by
  intro d
  induction d with
  | zero =>
    intro k acc p ha hk h0 h1
    obtain ⟨k, rfl, hk⟩ := fuel hk
    simp only [spec_someCoefs.l0]
    rw [if_neg (by omega)]
    by_cases h2 : (acc.length : Int) > 0
    · obtain ⟨v, hv, -⟩ := pick_spec k (by omega) b hb hl p h0 (by omega) 16 (by omega)
      rw [if_pos h2, hv, Option.bind_some]
      simp only
      by_cases h3 : v = 0
      · obtain ⟨u, hu, -⟩ := one_spec k (by omega) b hb hl (p + 1) (by omega) (by omega) [(-1), 251] (by simp) (by simp)
        rw [if_pos h3, hu, Option.bind_some]
        simp only
        rw [if_pos (by omega)]
        exact ⟨_, _, rfl, by simp; omega, by omega, by omega⟩
      · rw [if_neg h3]
        exact ⟨_, _, rfl, by omega, by omega, by omega⟩
    · rw [if_neg h2]
      exact ⟨_, _, rfl, by omega, by omega, by omega⟩
  | succ d ih =>
    intro k acc p ha hk h0 h1
    obtain ⟨k, rfl, hk⟩ := fuel hk
    simp only [spec_someCoefs.l0]
    obtain ⟨v, hv, -⟩ := pick_spec k (by omega) b hb hl p h0 (by omega) 251 (by omega)
    rw [if_pos (by omega), hv, Option.bind_some]
    simp only
    obtain ⟨u, hu, -⟩ := one_spec k (by omega) b hb hl (p + 1) (by omega) (by omega) [v, 0, 250, 1] (by simp) (by simp)
    rw [hu, Option.bind_some]
    simp only
    have hd : wrap64 (((d + 1 : Nat) : Int) - 1) = (d : Int) := by rw [wrap_id (by omega) (by omega)]; omega
    rw [hd, if_pos (by omega)]
    obtain ⟨out, q, ho, h5, h6, h7⟩ := ih k (acc ++ [u]) (p + 1 + 1) (by simp; omega) (by omega) (by omega) (by omega)
    exact ⟨out, q, ho, h5, h6, by omega⟩
theorem someCoefs_spec (b : List Int) (hb : ∀ x ∈ b, 0 ≤ x ∧ x ≤ 255) (hl : b.length ≤ 2000) (k : Nat) (p : Int) (hk : 50 < k) (h0 : 0 ≤ p) (h1 : p ≤ 100000) : ∃ out q, spec_someCoefs.f k b p = some (out, q) ∧ out.length ≤ 8 ∧ 0 ≤ q ∧ q ≤ p + 20 := by
  unfold spec_someCoefs.f
  obtain ⟨v, hv, hm⟩ := one_spec k (by omega) b hb hl p h0 (by omega) [3, 2, 4, 1, 0, 8] (by simp) (by simp)
  rw [hv, Option.bind_some]
  have hvr : 0 ≤ v ∧ v ≤ 8 := by
    simp only [List.mem_cons, List.not_mem_nil, or_false] at hm
    omega
  obtain ⟨n, rfl⟩ := Int.eq_ofNat_of_zero_le hvr.1
  obtain ⟨out, q, ho, a, b2, c⟩ := someCoefs_l0 b hb hl n k [] (p + 1) (by simp; omega) (by omega) (by omega) (by omega)
  exact ⟨out, q, ho, a, b2, by omega⟩

/-! ### the law -/
/-- Shares to which a polynomial's values are added. -/
def freshS (cs : List Int) (l : List S40) : List S40 := l.map fun s => ⟨s.f0, (s.f1 + hornM cs s.f0) % 251⟩
theorem freshS_length (cs : List Int) (l : List S40) : (freshS cs l).length = l.length := by simp [freshS]
/-- What is made fresh. -/
def FreshOk (l : List S40) (more : List Int) : Prop := OkSh l ∧ (more.length ≤ 7 ∧ ∀ c ∈ more, 0 ≤ c ∧ c < 251)
instance (l : List S40) (more : List Int) : Decidable (FreshOk l more) := by unfold FreshOk; infer_instance
def freshM (l : List S40) (more : List Int) : List S40 := if FreshOk l more then freshS (0 :: more) l else []
theorem FreshOk.rests {l : List S40} {more : List Int} (h : FreshOk l more) : Rests (0 :: more) := by
  intro c hc
  rcases List.mem_cons.1 hc with rfl | hc
  · omega
  · exact h.2.2 c hc
theorem fresh_wrap {l : List S40} (h : OkSh l) (cs : List Int) {i : Nat} (hi : i < l.length) : Int.tmod (wrap64 ((rd_T40 l (i : Int)).f1 + hornM cs (rd_T40 l (i : Int)).f0)) 251 = ((rd_T40 l (i : Int)).f1 + hornM cs (rd_T40 l (i : Int)).f0) % 251 := by
  have e1 := (h.2.1 _ (rdS_mem hi)).2
  have e2 := hornM_range cs (rd_T40 l (i : Int)).f0
  rw [wrap_id (by omega) (by omega), Int.tmod_eq_emod_of_nonneg (by omega)]
theorem ifresh_l0 (l : List S40) (more : List Int) (h : FreshOk l more) : ∀ (d k i : Nat), i + d = l.length → d + 20 < k → impl_RefreshShares.l0 k (0 :: more) (freshS (0 :: more) (l.take i)) l (l.length : Int) (i : Int) = some (freshS (0 :: more) l) := by
  have h12 := h.1.1
  intro d
  induction d with
  | zero =>
    intro k i hi hk
    obtain ⟨k, rfl, -⟩ := fuel hk
    simp only [impl_RefreshShares.l0]
    rw [if_neg (by omega), List.take_of_length_le (by omega)]
  | succ d ih =>
    intro k i hi hk
    obtain ⟨k, rfl, hk⟩ := fuel hk
    have hs := h.1.2.1 _ (rdS_mem (xs := l) (i := i) (by omega))
    simp only [impl_RefreshShares.l0]
    rw [if_pos (by omega), if_pos (by omega), if_pos (by omega), ipolyAt_spec k _ _ h.rests (by have := h.2.1; simp; omega) (by omega) (by omega), Option.bind_some, if_pos (by rw [freshS_length, List.length_take]; omega), wrap_succ (by omega), fresh_wrap h.1 _ (by omega)]
    have := ih k (i + 1) (by omega) (by omega)
    rw [takeS (by omega), freshS, List.map_append] at this
    exact this
theorem ifresh_spec (k : Nat) (l : List S40) (more : List Int) (hm : more.length ≤ 1000) (hk : 1100 < k) : impl_RefreshShares.f k l more = some (freshM l more) := by
  obtain ⟨k, rfl, hk⟩ := fuel hk
  unfold impl_RefreshShares.f freshM
  have hj : ∀ q : Nat, q = k + 1 → impl_RefreshShares.j0 q l more true = some [] := fun q e => by subst e; simp [impl_RefreshShares.j0]
  rw [ivalid_spec _ l (by omega), Option.bind_some]
  by_cases h1 : OkSh l
  · rw [decide_eq_true h1, if_pos rfl]
    by_cases h2 : (more.length : Int) > 7
    · rw [if_pos h2, hj _ rfl, if_neg (fun h3 => by have := h3.2.1; omega)]
    · rw [if_neg h2, allWithin_spec _ more 0 250 (by omega) (by omega), Option.bind_some]
      by_cases h3 : (more.all fun x => decide (0 ≤ x ∧ x ≤ 250)) = true
      · have ok : FreshOk l more := ⟨h1, by omega, fun c hc => by have := List.all_eq_true.1 h3 c hc; simp at this; omega⟩
        rw [h3, if_pos ok]
        simp only [impl_RefreshShares.j0]
        have := h1.1
        rw [if_neg (by decide), Option.bind_some, if_pos (by simp; omega)]
        exact ifresh_l0 l more ok l.length k 0 (by omega) (by omega)
      · rw [Bool.not_eq_true] at h3
        rw [h3, if_neg (fun h4 => by
          have : (more.all fun x => decide (0 ≤ x ∧ x ≤ 250)) = true := List.all_eq_true.2 fun c hc => by have := h4.2.2 c hc; simp; omega
          rw [h3] at this; cases this)]
        exact hj _ rfl
  · rw [decide_eq_false h1, if_neg (by decide), hj _ rfl, if_neg (fun h4 => h1 h4.1)]
theorem sfresh_l0 (l : List S40) (more : List Int) (h : FreshOk l more) : ∀ (d k i : Nat), i + d = l.length → d + 20 < k → spec_RefreshShares.l0 k l (0 :: more) (freshS (0 :: more) (l.take i)) (i : Int) = some (freshS (0 :: more) l) := by
  have h12 := h.1.1
  intro d
  induction d with
  | zero =>
    intro k i hi hk
    obtain ⟨k, rfl, -⟩ := fuel hk
    simp only [spec_RefreshShares.l0]
    rw [if_neg (by omega), List.take_of_length_le (by omega)]
  | succ d ih =>
    intro k i hi hk
    obtain ⟨k, rfl, hk⟩ := fuel hk
    have hs := h.1.2.1 _ (rdS_mem (xs := l) (i := i) (by omega))
    have h7 := h.2.1
    simp only [spec_RefreshShares.l0]
    rw [if_pos (by omega), if_pos (by omega), spolyAt_spec k _ _ h.rests (by omega) (by simp; omega) (by simp; omega), Option.bind_some, if_pos (by rw [freshS_length, List.length_take]; omega), wrap_succ (by omega), fresh_wrap h.1 _ (by omega)]
    have := ih k (i + 1) (by omega) (by omega)
    rw [takeS (by omega), freshS, List.map_append] at this
    exact this
theorem sfresh_spec (k : Nat) (l : List S40) (more : List Int) (hl : l.length ≤ 1048576) (hm : more.length ≤ 1000) (hk : 3145900 < k) : spec_RefreshShares.f k l more = some (freshM l more) := by
  obtain ⟨k, rfl, hk⟩ := fuel hk
  unfold spec_RefreshShares.f freshM
  have hj : ∀ q : Nat, q = k + 1 → spec_RefreshShares.j0 q l (0 :: more) true = some [] := fun q e => by subst e; simp [spec_RefreshShares.j0]
  rw [Option.bind_some, if_pos (by simp; omega), Option.bind_some, List.singleton_append, svalid_spec _ l hl (by omega), Option.bind_some]
  by_cases h1 : OkSh l
  · rw [decide_eq_true h1, if_pos rfl, svalidPoly_spec _ _ (by omega), Option.bind_some]
    by_cases h2 : (0 :: more).length ≤ 8 ∧ ∀ c ∈ 0 :: more, 0 ≤ c ∧ c < 251
    · have ok : FreshOk l more := ⟨h1, by have := h2.1; simp at this; omega, fun c hc => h2.2 c (by simp [hc])⟩
      rw [decide_eq_true h2, if_pos ok]
      simp only [spec_RefreshShares.j0]
      have := h1.1
      rw [if_neg (by decide)]
      exact sfresh_l0 l more ok l.length k 0 (by omega) (by omega)
    · rw [decide_eq_false h2, if_neg (fun h3 => h2 ⟨by have := h3.2.1; simp; omega, h3.rests⟩)]
      exact hj _ rfl
  · rw [decide_eq_false h1, if_neg (by decide), hj _ rfl, if_neg (fun h4 => h1 h4.1)]
theorem freshS_ok {cs : List Int} {l : List S40} (h : OkSh l) : OkSh (freshS cs l) := by
  refine ⟨by rw [freshS_length]; exact h.1, fun s hs => ?_, ?_⟩
  · obtain ⟨t, ht, rfl⟩ := List.mem_map.1 hs
    have := (h.2.1 t ht).1
    exact ⟨this, by simp only; omega⟩
  · have e : (freshS cs l).map (·.f0) = l.map (·.f0) := by simp [freshS, Function.comp_def]
    rw [e]; exact h.2.2
theorem fresh_secret {l : List S40} {more : List Int} (h : FreshOk l more) (hl : more.length < l.length) : rd (thr (xyOf (freshS (0 :: more) l))) 0 = rd (thr (xyOf l)) 0 := by
  have hp := h.1.places
  have hq := (freshS_ok (cs := 0 :: more) h.1).places
  have key := thr_add (a := xyOf l) (b := dealM (0 :: more) (l.map (·.f0))) (c := xyOf (freshS (0 :: more) l)) hp (dealM_places (fun x hx => by obtain ⟨s, hs, rfl⟩ := List.mem_map.1 hx; have := h.1.2.1 s hs; omega) h.1.2.2) hq (by simp [xyOf, dealM]) (by simp [xyOf, freshS]) (fun i hi => by
    simp only [xyOf, freshS, dealM, List.getElem_map]
    exact ⟨trivial, trivial, Eqv.mod _⟩) 0 (by simp [xyOf]; omega)
  have e : thr (dealM (0 :: more) (l.map (·.f0))) = (0 :: more) ++ List.replicate ((l.map (·.f0)).length - (0 :: more).length) 0 := thr_deal h.rests (fun x hx => by obtain ⟨s, hs, rfl⟩ := List.mem_map.1 hx; have := h.1.2.1 s hs; omega) h.1.2.2 (by simp; omega)
  rw [e] at key
  have key2 : rd (thr (xyOf (freshS (0 :: more) l))) 0 = (rd (thr (xyOf l)) 0 + rd ((0 :: more) ++ List.replicate ((l.map (·.f0)).length - (0 :: more).length) 0) 0) % 251 := key
  have z : rd ((0 :: more) ++ List.replicate ((l.map (·.f0)).length - (0 :: more).length) 0) 0 = 0 := by simp [rd]
  have r1 := thr_rd0 hp (by omega)
  rw [key2, z]
  omega
theorem freshLaw_l0 (l : List S40) (more : List Int) (h : FreshOk l more) (h0 : 0 < l.length) : ∀ (d k i : Nat), i + d = l.length → d + 100 < k → laws_FnRefreshShares.l0 k l more (freshS (0 :: more) l) (i : Int) = some true := by
  have h12 := h.1.1
  intro d
  induction d with
  | zero =>
    intro k i hi hk
    obtain ⟨k, rfl, hk⟩ := fuel hk
    simp only [laws_FnRefreshShares.l0]
    rw [freshS_length, if_neg (by omega)]
    by_cases h1 : (l.length : Int) ≤ (more.length : Int)
    · rw [if_pos h1]
    · rw [if_neg h1]
      by_cases h2 : (l.length : Int) > 8
      · rw [if_pos h2]
      · rw [if_neg h2, iopen_spec k _ (by omega), Option.bind_some, iopen_spec k _ (by omega), Option.bind_some]
        unfold secM
        rw [if_pos ⟨by rw [freshS_length]; omega, freshS_ok h.1⟩, if_pos ⟨by omega, h.1⟩, fresh_secret h (by omega), beq_self_eq_true]
  | succ d ih =>
    intro k i hi hk
    obtain ⟨k, rfl, hk⟩ := fuel hk
    simp only [laws_FnRefreshShares.l0]
    have e : (rd_T40 (freshS (0 :: more) l) (i : Int)).f0 = (rd_T40 l (i : Int)).f0 := by
      rw [rdS_at (by rw [freshS_length]; omega), rdS_at (by omega)]; simp [freshS]
    rw [freshS_length, if_pos (by omega), if_pos (by omega), if_pos (by omega), if_pos e, wrap_succ (by omega)]
    exact ih k (i + 1) (by omega) (by omega)
theorem FnRefreshShares : laws_FnRefreshShares.Pure := by
  intro l0 _ _ hw
  refine ⟨4000001, ?_⟩
  unfold laws_FnRefreshShares.f
  by_cases h1 : (l0.length : Int) > 1048576
  · rw [if_pos h1]
  · rw [if_neg h1]
    have hd : ∃ (l : List S40) (cs : List Int), spec_DrawRefreshShares.f 4000001 l0 = some (l, cs) ∧ l.length ≤ 8 ∧ cs.length ≤ 8 := by
      unfold spec_DrawRefreshShares.f
      obtain ⟨b, hb, hb1, hb2⟩ := newReader_spec l0 (reader_bytes hw)
      obtain ⟨l, q, hl, hl8, hq0, hq1⟩ := someShares_spec b hb1 hb2 4000001 0 (by omega) (by omega) (by omega)
      obtain ⟨cs, q2, hc, hc8, -, -⟩ := someCoefs_spec b hb1 hb2 4000001 q (by omega) hq0 (by omega)
      rw [hb, Option.bind_some]
      simp only
      rw [hl, Option.bind_some]
      simp only
      rw [hc, Option.bind_some]
      exact ⟨l, cs, rfl, hl8, hc8⟩
    obtain ⟨l, cs, hl, hl8, hc8⟩ := hd
    have hlen : (freshM l cs).length ≤ 8 := by
      unfold freshM
      by_cases h : FreshOk l cs
      · rw [if_pos h, freshS_length]; exact hl8
      · rw [if_neg h]; simp
    rw [hl, Option.bind_some]
    simp only
    rw [ifresh_spec _ l cs (by omega) (by omega), Option.bind_some, sfresh_spec _ l cs (by omega) (by omega) (by omega), Option.bind_some, equalShares_self _ _ (by omega) (by omega), Option.bind_some, if_pos rfl]
    simp only [laws_FnRefreshShares.j0]
    by_cases h2 : ((freshM l cs).length : Int) = 0
    · rw [if_pos (by rw [h2]; rfl), sfresh_spec _ l cs (by omega) (by omega) (by omega), Option.bind_some, equalShares_self _ _ (by omega) (by omega), Option.bind_some]
    · have h5 : FreshOk l cs := by
        by_cases h5 : FreshOk l cs
        · exact h5
        · exfalso; apply h2; unfold freshM; rw [if_neg h5]; rfl
      have e : freshM l cs = freshS (0 :: cs) l := by unfold freshM; rw [if_pos h5]
      rw [if_neg (by simpa using h2), e]
      rw [e, freshS_length] at h2
      exact freshLaw_l0 l cs h5 (by omega) l.length 4000000 0 (by omega) (by omega)

end Go.Proofs.Ytaoecaikeikneaa.Pure
