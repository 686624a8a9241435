/- The law FnAddShares holds: the program's function answers as the reference does at every drawn input, and has the law's property; no condition. -/
import Derived.Test.YtaoecaikeikneaaPFnAddSharesx10
import Derived.Test.YtaoecaikeikneaaPoly
set_option linter.unusedVariables false
set_option linter.unusedSimpArgs false
namespace Go.Proofs.Ytaoecaikeikneaa.Pure
open Go.RowKit Go.Proofs.Ytaoecaikeikneaa.PFnAddShares Go.Proofs.YtaoecaikeikneaaW.PrintWords Go.Proofs.YtaoecaikeikneaaW.PrintLast Go.Proofs.YtaoecaikeikneaaW.PrintMore

/-! ### within -/
theorem allWithin_l0 (xs : List Int) (lo up : Int) (hb : xs.length < 4611686018427387904) : ∀ (d k i : Nat), i + d = xs.length → d < k → impl_allWithin.l0 k lo up xs (xs.length : Int) (i : Int) = some ((xs.drop i).all fun x => decide (lo ≤ x ∧ x ≤ up)) := by
  intro d
  induction d with
  | zero =>
    intro k i hi hk
    obtain ⟨k, rfl, -⟩ := fuel hk
    simp only [impl_allWithin.l0]
    rw [if_neg (by omega), drop_end (by omega)]
    simp
  | succ d ih =>
    intro k i hi hk
    obtain ⟨k, rfl, hk⟩ := fuel hk
    simp only [impl_allWithin.l0]
    rw [if_pos (by omega), if_pos (by omega), if_pos (by omega), wrap_succ (by omega), drop_rd (by omega)]
    simp only [List.all_cons]
    rw [ih k (i + 1) (by omega) (by omega)]
    by_cases h1 : rd xs (i : Int) < lo
    · rw [if_pos h1, decide_eq_false (by omega)]; rfl
    · rw [if_neg h1]
      by_cases h2 : rd xs (i : Int) > up
      · rw [if_pos h2, decide_eq_false (by omega)]; rfl
      · rw [if_neg h2, decide_eq_true (by omega)]; rfl
theorem allWithin_spec (k : Nat) (xs : List Int) (lo up : Int) (hb : xs.length < 4611686018427387904) (hk : xs.length < k) : impl_allWithin.f k xs lo up = some (xs.all fun x => decide (lo ≤ x ∧ x ≤ up)) := by
  unfold impl_allWithin.f
  have := allWithin_l0 xs lo up hb xs.length k 0 (by omega) hk
  simpa using this

/-! ### different -/
theorem flags_set {fl : List Bool} {n : Int} {seen : List Int} {x : Int} (hl : (fl.length : Int) = n) (h : ∀ j : Int, 0 ≤ j → j < n → rdOf false fl j = decide (j ∈ seen)) (h0 : 0 ≤ x) (h1 : x < n) :
    ∀ j : Int, 0 ≤ j → j < n → rdOf false (fl.set x.toNat true) j = decide (j ∈ seen ++ [x]) := by
  intro j hj0 hj
  have := h j hj0 hj
  simp only [rdOf, List.getD_eq_getElem?_getD, List.getElem?_set] at this ⊢
  by_cases e : x = j
  · subst e
    rw [if_pos rfl, if_pos (by omega)]
    simp
  · rw [if_neg (by omega), this]
    have : ¬ j = x := fun h => e h.symm
    simp [this]
theorem different_l0 (xs : List Int) (n : Int) (hb : xs.length < 4611686018427387904) : ∀ (d k i : Nat) (fl : List Bool), (fl.length : Int) = n → (∀ j : Int, 0 ≤ j → j < n → rdOf false fl j = decide (j ∈ xs.take i)) → i + d = xs.length → d < k → impl_differentBelow.l0 k n fl xs (xs.length : Int) (i : Int) = some (memB n (xs.take i) (xs.drop i)) := by
  intro d
  induction d with
  | zero =>
    intro k i fl hl hf hi hk
    obtain ⟨k, rfl, -⟩ := fuel hk
    simp only [impl_differentBelow.l0]
    rw [if_neg (by omega), drop_end (by omega)]
    simp [memB]
  | succ d ih =>
    intro k i fl hl hf hi hk
    obtain ⟨k, rfl, hk⟩ := fuel hk
    simp only [impl_differentBelow.l0]
    rw [if_pos (by omega), if_pos (by omega), if_pos (by omega), wrap_succ (by omega), drop_rd (by omega)]
    simp only [memB]
    by_cases h1 : rd xs (i : Int) < 0
    · rw [if_pos h1, decide_eq_false (by omega)]; rfl
    · rw [if_neg h1]
      by_cases h2 : rd xs (i : Int) ≥ n
      · rw [if_pos h2, decide_eq_false (by omega)]; rfl
      · rw [if_neg h2, if_pos (by omega), if_pos (by omega), hf _ (by omega) (by omega), decide_eq_true (show 0 ≤ rd xs (i : Int) ∧ rd xs (i : Int) < n by omega)]
        by_cases h3 : rd xs (i : Int) ∈ xs.take i
        · rw [decide_eq_true h3, if_pos rfl]; rfl
        · rw [decide_eq_false h3, if_neg (by decide), ih k (i + 1) _ (by simpa using hl) (by rw [take_rd (by omega)]; exact flags_set hl hf (by omega) (by omega)) (by omega) (by omega), take_rd (by omega)]; rfl
theorem different_spec (k : Nat) (xs : List Int) (n : Int) (hn : 0 ≤ n) (hn2 : n ≤ 281474976710656) (hb : xs.length < 4611686018427387904) (hk : xs.length < k) : impl_differentBelow.f k xs n = some (decide (GoodM xs n)) := by
  unfold impl_differentBelow.f
  by_cases h : (xs.length : Int) > n
  · rw [if_pos h, decide_eq_false]
    intro hg
    obtain ⟨m, rfl⟩ := Int.eq_ofNat_of_zero_le hn
    have := hg.le
    omega
  · rw [if_neg h, if_pos hn, if_pos (by omega)]
    have := different_l0 xs n hb xs.length k 0 (List.replicate n.toNat false) (by simp; omega) (fun j h0 h1 => by simp [rdOf, List.getD_eq_getElem?_getD, List.getElem?_replicate]; split <;> rfl) (by omega) hk
    rw [← memB_good]
    simpa using this

/-! ### place -/
theorem placeIn_l0 (xs : List Int) (x : Int) (hb : xs.length < 4611686018427387904) : ∀ (d k i : Nat), i + d = xs.length → d < k → spec_placeIn.l0 k xs x (i : Int) = some (idxM (xs.drop i) x i) := by
  intro d
  induction d with
  | zero =>
    intro k i hi hk
    obtain ⟨k, rfl, -⟩ := fuel hk
    simp only [spec_placeIn.l0]
    rw [if_neg (by omega), drop_end (by omega)]
    simp [idxM]
  | succ d ih =>
    intro k i hi hk
    obtain ⟨k, rfl, hk⟩ := fuel hk
    simp only [spec_placeIn.l0]
    rw [if_pos (by omega), if_pos (by omega), wrap_succ (by omega), drop_rd (by omega)]
    simp only [idxM]
    rw [ih k (i + 1) (by omega) (by omega)]
    split <;> rfl
theorem placeIn_spec (k : Nat) (xs : List Int) (x : Int) (hb : xs.length < 4611686018427387904) (hk : xs.length < k) : spec_placeIn.f k xs x = some (idxM xs x 0) := by
  unfold spec_placeIn.f
  have := placeIn_l0 xs x hb xs.length k 0 (by omega) hk
  simpa using this

/-! ### inrange -/
theorem inRange_spec (a lo up : Int) : spec_inRange.f a lo up = some (decide (lo ≤ a ∧ a ≤ up)) := by
  unfold spec_inRange.f
  by_cases h : lo ≤ a <;> simp [h]

/-! ### ranges -/
theorem allIn_l0 (xs : List Int) (lo up : Int) (hb : xs.length < 4611686018427387904) : ∀ (d k i : Nat), i + d = xs.length → d < k → spec_allIn.l0 k xs lo up (i : Int) = some ((xs.drop i).all fun x => decide (lo ≤ x ∧ x ≤ up)) := by
  intro d
  induction d with
  | zero =>
    intro k i hi hk
    obtain ⟨k, rfl, -⟩ := fuel hk
    simp only [spec_allIn.l0]
    rw [if_neg (by omega), drop_end (by omega)]
    simp
  | succ d ih =>
    intro k i hi hk
    obtain ⟨k, rfl, hk⟩ := fuel hk
    simp only [spec_allIn.l0]
    rw [if_pos (by omega), if_pos (by omega), inRange_spec, wrap_succ (by omega), drop_rd (by omega)]
    simp only [Option.bind_some, List.all_cons]
    rw [ih k (i + 1) (by omega) (by omega)]
    cases decide (lo ≤ rd xs (i : Int) ∧ rd xs (i : Int) ≤ up) <;> simp
theorem allIn_spec (k : Nat) (xs : List Int) (lo up : Int) (hb : xs.length < 4611686018427387904) (hk : xs.length < k) : spec_allIn.f k xs lo up = some (xs.all fun x => decide (lo ≤ x ∧ x ≤ up)) := by
  unfold spec_allIn.f
  have := allIn_l0 xs lo up hb xs.length k 0 (by omega) hk
  simpa using this

/-! ### shares -/
theorem rdS_at {xs : List S40} {i : Nat} (h : i < xs.length) : rd_T40 xs (i : Int) = xs[i] := by
  simp [rd_T40, List.getD_eq_getElem?_getD, List.getElem?_eq_getElem h]
theorem rdS_mem {xs : List S40} {i : Nat} (h : i < xs.length) : rd_T40 xs (i : Int) ∈ xs := by rw [rdS_at h]; exact List.getElem_mem h
theorem takeS {xs : List S40} {i : Nat} (h : i < xs.length) : xs.take (i + 1) = xs.take i ++ [rd_T40 xs (i : Int)] := by
  rw [rdS_at h, List.take_succ_eq_append_getElem h]
theorem dropS {xs : List S40} {i : Nat} (h : i < xs.length) : xs.drop i = rd_T40 xs (i : Int) :: xs.drop (i + 1) := by
  rw [rdS_at h, List.drop_eq_getElem_cons h]
theorem rdX {xs : List S40} {i : Nat} (h : i < xs.length) : rd (xs.map (·.f0)) (i : Int) = (rd_T40 xs (i : Int)).f0 := by
  rw [rdS_at h, rd_get (by simpa using h), List.getElem_map]
theorem rdY {xs : List S40} {i : Nat} (h : i < xs.length) : rd (xs.map (·.f1)) (i : Int) = (rd_T40 xs (i : Int)).f1 := by
  rw [rdS_at h, rd_get (by simpa using h), List.getElem_map]
/-- Valid shares. -/
def OkSh (l : List S40) : Prop := l.length ≤ 12 ∧ (∀ s ∈ l, (1 ≤ s.f0 ∧ s.f0 ≤ 250) ∧ (0 ≤ s.f1 ∧ s.f1 ≤ 250)) ∧ (l.map (·.f0)).Nodup
instance (l : List S40) : Decidable (OkSh l) := by unfold OkSh; infer_instance
theorem ivalid_l0 (l : List S40) (hl : l.length ≤ 12) : ∀ (d k i : Nat), i + d = l.length → d + 30 < k → impl_ValidShares.l0 k ((l.take i).map (·.f0)) ((l.take i).map (·.f1)) l (l.length : Int) (i : Int) = some (decide (OkSh l)) := by
  intro d
  induction d with
  | zero =>
    intro k i hi hk
    obtain ⟨k, rfl, -⟩ := fuel (show 0 < k by omega)
    simp only [impl_ValidShares.l0]
    rw [if_neg (by omega), List.take_of_length_le (by omega), allWithin_spec k _ 1 250 (by simp; omega) (by simp; omega), Option.bind_some]
    by_cases h1 : ((l.map (·.f0)).all fun x => decide (1 ≤ x ∧ x ≤ 250)) = true
    · rw [if_pos h1, different_spec k _ 251 (by omega) (by omega) (by simp; omega) (by simp; omega), Option.bind_some]
      by_cases h2 : GoodM (l.map (·.f0)) 251
      · rw [decide_eq_true h2, if_pos rfl, allWithin_spec k _ 0 250 (by simp; omega) (by simp; omega), Option.bind_some]
        congr 1
        rw [Bool.eq_iff_iff, decide_eq_true_iff, List.all_eq_true]
        rw [List.all_eq_true] at h1
        constructor
        · intro h3
          refine ⟨hl, fun s hs => ⟨?_, ?_⟩, h2.1⟩
          · simpa using h1 s.f0 (List.mem_map_of_mem hs)
          · simpa using h3 s.f1 (List.mem_map_of_mem hs)
        · intro h3 y hy
          obtain ⟨s, hs, rfl⟩ := List.mem_map.1 hy
          simpa using (h3.2.1 s hs).2
      · rw [decide_eq_false h2, if_neg (by decide), decide_eq_false]
        intro h3
        refine h2 ⟨h3.2.2, fun x hx => ?_⟩
        obtain ⟨s, hs, rfl⟩ := List.mem_map.1 hx
        have := h3.2.1 s hs
        omega
    · rw [if_neg h1, decide_eq_false]
      intro h3
      refine h1 (List.all_eq_true.2 fun x hx => ?_)
      obtain ⟨s, hs, rfl⟩ := List.mem_map.1 hx
      simpa using (h3.2.1 s hs).1
  | succ d ih =>
    intro k i hi hk
    obtain ⟨k, rfl, hk⟩ := fuel hk
    simp only [impl_ValidShares.l0]
    rw [if_pos (by omega), if_pos (by omega), if_pos (by omega), wrap_succ (by omega), Option.bind_some, if_pos (by simp; omega), Option.bind_some, if_pos (by simp; omega)]
    have := ih k (i + 1) (by omega) (by omega)
    rw [takeS (by omega), List.map_append, List.map_append] at this
    exact this
theorem ivalid_spec (k : Nat) (l : List S40) (hk : 50 < k) : impl_ValidShares.f k l = some (decide (OkSh l)) := by
  unfold impl_ValidShares.f
  by_cases h : (l.length : Int) > 12
  · rw [if_pos h, decide_eq_false]
    intro h2
    have := h2.1
    omega
  · rw [if_neg h]
    have := ivalid_l0 l (by omega) l.length k 0 (by omega) (by omega)
    simpa using this
theorem idxM_ge : ∀ (xs : List Int) (x : Int) (i : Nat), (idxM xs x i ≥ 0) ↔ x ∈ xs := by
  intro xs
  induction xs with
  | nil => intro x i; simp [idxM]
  | cons a t ih =>
    intro x i
    simp only [idxM]
    by_cases e : a = x
    · rw [if_pos e]; simp [e]
    · rw [if_neg e, ih]
      simp [Ne.symm e]
theorem splaces_l0 (xs : List Int) (hb : xs.length ≤ 1048576) : ∀ (d k i : Nat), i + d = xs.length → (xs.take i).Nodup → d + 1048580 < k → spec_validPlaces.l0 k xs (i : Int) = some (decide (xs.length ≤ 12 ∧ (∀ x ∈ xs, 1 ≤ x ∧ x ≤ 250) ∧ xs.Nodup)) := by
  intro d
  induction d with
  | zero =>
    intro k i hi hn hk
    obtain ⟨k, rfl, -⟩ := fuel (show 0 < k by omega)
    simp only [spec_validPlaces.l0]
    rw [List.take_of_length_le (by omega)] at hn
    rw [if_neg (by omega)]
    by_cases h : (xs.length : Int) ≤ 12
    · rw [if_pos h, allIn_spec k xs 1 250 (by omega) (by omega), Option.bind_some]
      congr 1
      rw [Bool.eq_iff_iff, decide_eq_true_iff, List.all_eq_true]
      constructor
      · exact fun h2 => ⟨by omega, fun x hx => by simpa using h2 x hx, hn⟩
      · exact fun h2 x hx => by simpa using h2.2.1 x hx
    · rw [if_neg h, decide_eq_false (fun h2 => h (by omega))]
  | succ d ih =>
    intro k i hi hn hk
    obtain ⟨k, rfl, hk⟩ := fuel hk
    simp only [spec_validPlaces.l0]
    rw [if_pos (by omega), if_pos (by omega), if_pos (by omega), wrap_succ (by omega), toNat_cast, placeIn_spec k _ _ (by simp; omega) (by simp; omega), Option.bind_some]
    by_cases h : rd xs (i : Int) ∈ xs.take i
    · rw [if_pos ((idxM_ge _ _ _).2 h), decide_eq_false]
      intro h2
      have h3 := h2.2.2
      rw [← List.take_append_drop i xs, List.nodup_append] at h3
      exact h3.2.2 _ h _ (by rw [drop_rd (by omega)]; simp) rfl
    · rw [if_neg (fun h2 => h ((idxM_ge _ _ _).1 h2))]
      refine ih k (i + 1) (by omega) ?_ (by omega)
      rw [take_rd (by omega), List.nodup_append]
      exact ⟨hn, by simp, fun a ha b hb2 => by rw [List.mem_singleton] at hb2; subst hb2; exact fun e => h (e ▸ ha)⟩
theorem splaces_spec (k : Nat) (xs : List Int) (hb : xs.length ≤ 1048576) (hk : 2097200 < k) : spec_validPlaces.f k xs = some (decide (xs.length ≤ 12 ∧ (∀ x ∈ xs, 1 ≤ x ∧ x ≤ 250) ∧ xs.Nodup)) := by
  unfold spec_validPlaces.f
  exact splaces_l0 xs hb xs.length k 0 (by omega) (by simp) (by omega)

/-! ### srest -/
theorem svalidRest_spec (n : Int) : spec_validRest.f n = some (decide (0 ≤ n ∧ n ≤ 250)) := by
  unfold spec_validRest.f
  rw [inRange_spec, Option.bind_some]

/-! ### svalid -/
theorem svalid_l0 (l : List S40) (hb : l.length ≤ 1048576) : ∀ (d k i : Nat), i + d = l.length → (∀ s ∈ l.take i, 0 ≤ s.f1 ∧ s.f1 ≤ 250) → d + 2097201 < k → spec_validShares.l0 k l ((l.take i).map (·.f0)) (i : Int) = some (decide (OkSh l)) := by
  intro d
  induction d with
  | zero =>
    intro k i hi hy hk
    obtain ⟨k, rfl, hk⟩ := fuel hk
    simp only [spec_validShares.l0]
    rw [List.take_of_length_le (by omega)] at hy
    rw [if_neg (by omega), List.take_of_length_le (by omega), splaces_spec k _ (by simpa using hb) (by omega), Option.bind_some]
    congr 1
    rw [decide_eq_decide]
    unfold OkSh
    rw [List.length_map]
    constructor
    · exact fun h => ⟨h.1, fun s hs => ⟨h.2.1 _ (List.mem_map_of_mem hs), hy s hs⟩, h.2.2⟩
    · exact fun h => ⟨h.1, fun x hx => by obtain ⟨s, hs, rfl⟩ := List.mem_map.1 hx; exact (h.2.1 s hs).1, h.2.2⟩
  | succ d ih =>
    intro k i hi hy hk
    obtain ⟨k, rfl, hk⟩ := fuel hk
    simp only [spec_validShares.l0]
    rw [if_pos (by omega), if_pos (by omega), svalidRest_spec, Option.bind_some]
    by_cases h : 0 ≤ (rd_T40 l (i : Int)).f1 ∧ (rd_T40 l (i : Int)).f1 ≤ 250
    · rw [decide_eq_true h, if_pos rfl, if_pos (by simp; omega), wrap_succ (by omega)]
      have := ih k (i + 1) (by omega) (fun s hs => by
        rw [takeS (by omega)] at hs
        rcases List.mem_append.1 hs with hs | hs
        · exact hy s hs
        · rw [List.mem_singleton] at hs; subst hs; exact h) (by omega)
      rw [takeS (by omega), List.map_append] at this
      exact this
    · rw [decide_eq_false h, if_neg (by decide), decide_eq_false]
      exact fun h2 => h (h2.2.1 _ (rdS_mem (by omega))).2
theorem svalid_spec (k : Nat) (l : List S40) (hb : l.length ≤ 1048576) (hk : 3145800 < k) : spec_validShares.f k l = some (decide (OkSh l)) := by
  unfold spec_validShares.f
  have := svalid_l0 l hb l.length k 0 (by omega) (by simp) (by omega)
  simpa using this

/-! ### placeso -/
theorem xyOf_x (l : List S40) : (xyOf l).map (·.1) = l.map (·.f0) := by simp [xyOf, Function.comp_def]
theorem xyOf_y (l : List S40) : (xyOf l).map (·.2) = l.map (·.f1) := by simp [xyOf, Function.comp_def]
theorem xyOf_length (l : List S40) : (xyOf l).length = l.length := by simp [xyOf]
theorem OkSh.places {l : List S40} (h : OkSh l) : Places (xyOf l) := by
  refine ⟨fun q hq => ?_, by rw [xyOf_x]; exact h.2.2⟩
  obtain ⟨s, hs, rfl⟩ := List.mem_map.1 hq
  have := h.2.1 s hs
  exact ⟨⟨by simp only; omega, by simp only; omega⟩, ⟨by simp only; omega, by simp only; omega⟩⟩
theorem ipoly_spec {l : List S40} (h : Places (xyOf l)) (hl : l.length ≤ 8) : impl_polyOf.f l = some (thr (xyOf l)) := by
  unfold impl_polyOf.f
  rw [if_pos]
  unfold polyOK
  rw [Bool.and_eq_true, Bool.and_eq_true]
  refine ⟨decide_eq_true hl, List.all_eq_true.2 fun s hs => ?_, decide_eq_true ?_⟩
  · have := h.xy (s.f0, s.f1) (List.mem_map_of_mem (f := fun s : S40 => (s.f0, s.f1)) hs)
    exact decide_eq_true ⟨this.1.1, this.1.2, this.2.1, this.2.2⟩
  · have := h.nd; rwa [xyOf_x] at this

/-! ### ipolythr -/
theorem thr_rd0 {l : List S40} (h : Places (xyOf l)) (h0 : 0 < l.length) : 0 ≤ rd (thr (xyOf l)) 0 ∧ rd (thr (xyOf l)) 0 < 251 := thr_rests h _ (rd_mem (i := 0) (by rw [thr_length h, xyOf_length]; exact h0))
theorem ipolyThrough_spec (k : Nat) (l : List S40) (hk : 50 < k) : impl_PolyThrough.f k l = some (if l.length ≤ 8 ∧ OkSh l then thr (xyOf l) else []) := by
  unfold impl_PolyThrough.f
  by_cases h : (l.length : Int) > 8
  · rw [if_pos h, if_neg (fun h2 => by omega)]
  · rw [if_neg h, ivalid_spec k l hk, Option.bind_some]
    by_cases h2 : OkSh l
    · rw [decide_eq_true h2, if_pos rfl, ipoly_spec h2.places (by omega), Option.bind_some, if_pos ⟨by omega, h2⟩]
    · rw [decide_eq_false h2, if_neg (by decide), if_neg (fun h3 => h2 h3.2)]
/-- The polynomial through shares, none of invalid ones. -/
def polyM (l : List S40) : List Int := if l.length ≤ 8 ∧ OkSh l then thr (xyOf l) else []
theorem polyM_length (l : List S40) : (polyM l).length ≤ 8 := by
  unfold polyM
  by_cases h : l.length ≤ 8 ∧ OkSh l
  · rw [if_pos h, thr_length h.2.places, xyOf_length]; exact h.1
  · rw [if_neg h]; simp
theorem ipoly_M (k : Nat) (l : List S40) (hk : 50 < k) : impl_PolyThrough.f k l = some (polyM l) := ipolyThrough_spec k l hk

/-! ### iopen -/
/-- The secret of shares. -/
def secM (l : List S40) : Int := if (1 ≤ l.length ∧ l.length ≤ 8) ∧ OkSh l then rd (thr (xyOf l)) 0 else -1
theorem iopen_spec (k : Nat) (l : List S40) (hk : 50 < k) : impl_OpenSecret.f k l = some (secM l) := by
  unfold impl_OpenSecret.f secM
  rw [ipolyThrough_spec k l hk, Option.bind_some]
  by_cases h : l.length ≤ 8 ∧ OkSh l
  · rw [if_pos h, thr_length h.2.places, xyOf_length]
    by_cases h0 : l.length = 0
    · rw [if_pos (by omega), if_neg (by omega)]
    · rw [if_neg (by omega), if_pos (by omega), if_pos ⟨⟨by omega, h.1⟩, h.2⟩]
  · rw [if_neg h, if_pos (by simp), if_neg (fun h2 => h ⟨h2.1.2, h2.2⟩)]

/-! ### equalshares -/
theorem equalShares_l0 (a : List S40) (hb : a.length ≤ 1048576) : ∀ (d k i : Nat), i + d = a.length → d < k → laws_equalShares.l0 k a a (i : Int) = some true := by
  intro d
  induction d with
  | zero =>
    intro k i hi hk
    obtain ⟨k, rfl, -⟩ := fuel hk
    simp only [laws_equalShares.l0]
    rw [if_neg (by omega)]
  | succ d ih =>
    intro k i hi hk
    obtain ⟨k, rfl, hk⟩ := fuel hk
    simp only [laws_equalShares.l0]
    rw [if_pos (by omega), if_pos (by omega), if_pos (by omega), beq_self_eq_true, beq_self_eq_true, if_neg (by decide), wrap_succ (by omega)]
    exact ih k (i + 1) (by omega) (by omega)
theorem equalShares_self (k : Nat) (a : List S40) (hb : a.length ≤ 1048576) (hk : 1048600 < k) : laws_equalShares.f k a a = some true := by
  unfold laws_equalShares.f
  rw [if_pos rfl]
  exact equalShares_l0 a hb a.length k 0 (by omega) (by omega)

/-! ### reader -/
/-- A pick: a number below the bound (0 where there is none), one place on. -/
theorem pick_spec (k : Nat) (hk : 1 ≤ k) (b : List Int) (hb : ∀ x ∈ b, 0 ≤ x ∧ x ≤ 255) (hl : b.length ≤ 2000) (p : Int) (hp0 : 0 ≤ p) (hp : p ≤ 1000000) (n : Int) (hn : n ≤ 1000000000000) :
    ∃ v, spec_reader_pick.f k b p n = some (v, p + 1) ∧ 0 ≤ v ∧ (0 < n → v < n) ∧ (n ≤ 0 → v = 0) := by
  obtain ⟨k, rfl, -⟩ := fuel hk
  have hw : wrap64 (p + 1) = p + 1 := wrap_succ' hp0 (by omega)
  have hw2 : wrap64 (p + 1 - 1) = p := by rw [wrap_id (by omega) (by omega)]; omega
  unfold spec_reader_pick.f
  rw [hw]
  by_cases h1 : n < 1
  · rw [if_pos h1]
    exact ⟨0, by simp [spec_reader_pick.j0], by omega, by omega, fun _ => rfl⟩
  · rw [if_neg h1]
    by_cases h2 : b.length = 0
    · have e : ((b.length : Int) == 0) = true := by simp [h2]
      rw [e]
      exact ⟨0, by simp [spec_reader_pick.j0], by omega, fun _ => by omega, fun _ => rfl⟩
    · have e : ((b.length : Int) == 0) = false := by rw [beq_eq_false_iff_ne]; omega
      rw [e]
      simp only [spec_reader_pick.j0]
      rw [if_neg (by decide), hw2]
      have rdb : ∀ i : Int, 0 ≤ i → i < (b.length : Int) → 0 ≤ rd b i ∧ rd b i ≤ 255 := fun i h0 h => hb _ (rd_mem' h0 h)
      by_cases h3 : p < (b.length : Int)
      · rw [if_pos h3, if_pos hp0, if_neg (by omega)]
        have hr := rdb p hp0 h3
        rw [wrap_id (x := rd b p) (by omega) (by omega), Int.tmod_eq_emod_of_nonneg hr.1]
        exact ⟨_, rfl, Int.emod_nonneg _ (by omega), fun _ => Int.emod_lt_of_pos _ (by omega), fun h => by omega⟩
      · have hL : (0 : Int) < (b.length : Int) := by omega
        have m1 := Int.emod_nonneg p (b := (b.length : Int)) (by omega)
        have m2 := Int.emod_lt_of_pos p hL
        have w7 : wrap64 (wrap64 (p * 7) + 3) = p * 7 + 3 := by rw [wrap_add_l, wrap_id (by omega) (by omega)]
        have m3 := Int.emod_nonneg (p * 7 + 3) (b := (b.length : Int)) (by omega)
        have m4 := Int.emod_lt_of_pos (p * 7 + 3) hL
        rw [if_neg h3, if_neg (by omega)]
        rw [w7]
        rw [Int.tmod_eq_emod_of_nonneg hp0, Int.tmod_eq_emod_of_nonneg (by omega : (0 : Int) ≤ p * 7 + 3)]
        rw [if_pos m1, if_pos m2, if_pos m3, if_pos m4, if_neg (by omega)]
        have r1 := rdb _ m1 m2
        have r2 := rdb _ m3 m4
        have hq : 0 ≤ Int.tdiv p (b.length : Int) ∧ Int.tdiv p (b.length : Int) ≤ p := by
          rw [Int.tdiv_eq_ediv_of_nonneg hp0]
          exact ⟨Int.ediv_nonneg hp0 (by omega), Int.ediv_le_self _ hp0⟩
        generalize rd b (p % (b.length : Int)) = x at *
        generalize rd b ((p * 7 + 3) % (b.length : Int)) = y at *
        generalize Int.tdiv p (b.length : Int) = q at *
        have hx : wrap64 x = x := wrap_id (by omega) (by omega)
        have hy : wrap64 y = y := wrap_id (by omega) (by omega)
        have hqq : wrap64 q = q := wrap_id (by omega) (by omega)
        rw [hx, hy, hqq]
        have e1 : wrap64 (x * 131) = x * 131 := wrap_id (by omega) (by omega)
        have e2 : wrap64 (y * 1117) = y * 1117 := wrap_id (by omega) (by omega)
        have e3 : wrap64 (p * 29) = p * 29 := wrap_id (by omega) (by omega)
        have e4 : wrap64 (q * 53) = q * 53 := wrap_id (by omega) (by omega)
        rw [e1, e2, e3, e4]
        have e5 : wrap64 (x * 131 + y * 1117) = x * 131 + y * 1117 := wrap_id (by omega) (by omega)
        rw [e5]
        have e6 : wrap64 (x * 131 + y * 1117 + p * 29) = x * 131 + y * 1117 + p * 29 := wrap_id (by omega) (by omega)
        rw [e6]
        have e7 : wrap64 (x * 131 + y * 1117 + p * 29 + q * 53) = x * 131 + y * 1117 + p * 29 + q * 53 := wrap_id (by omega) (by omega)
        rw [e7]
        have hz : 0 ≤ x * 131 + y * 1117 + p * 29 + q * 53 ∧ x * 131 + y * 1117 + p * 29 + q * 53 ≤ 1000000000 := by omega
        generalize x * 131 + y * 1117 + p * 29 + q * 53 = z at *
        have hz64 : 0 ≤ Int.tdiv z 64 ∧ Int.tdiv z 64 ≤ z := by
          rw [Int.tdiv_eq_ediv_of_nonneg hz.1]; omega
        rw [wrap_id (x := Int.tdiv z 64) (by omega) (by omega)]
        have hxor := bits_xor (a := z) (b := Int.tdiv z 64) hz.1 (by omega) hz64.1 (by omega)
        rw [Int.tmod_eq_emod_of_nonneg hxor.1]
        exact ⟨_, rfl, Int.emod_nonneg _ (by omega), fun _ => Int.emod_lt_of_pos _ (by omega), fun h => by omega⟩
/-- One of some numbers. -/
theorem one_spec (k : Nat) (hk : 1 ≤ k) (b : List Int) (hb : ∀ x ∈ b, 0 ≤ x ∧ x ≤ 255) (hl : b.length ≤ 2000) (p : Int) (hp0 : 0 ≤ p) (hp : p ≤ 1000000) (l : List Int) (hn0 : l ≠ []) (hn : l.length ≤ 1000000) :
    ∃ v, spec_reader_one.f k b p l = some (v, p + 1) ∧ v ∈ l := by
  have h0 : 0 < l.length := List.length_pos_iff.2 hn0
  obtain ⟨v, hv, h1, h2, -⟩ := pick_spec k hk b hb hl p hp0 hp (l.length : Int) (by omega)
  unfold spec_reader_one.f
  rw [hv]
  simp only [Option.bind_some]
  rw [if_pos h1, if_pos (h2 (by omega))]
  exact ⟨_, rfl, rd_mem' h1 (h2 (by omega))⟩
theorem reader_bytes {l : List Int} (h : ∀ x ∈ l, (Lit.int .u8 x).wf = true) : ∀ x ∈ l, 0 ≤ x ∧ x ≤ 255 := by
  intro x hx
  have := h x hx
  simp [Lit.wf, IntKind.min, IntKind.max, IntKind.bits, IntKind.signed] at this
  omega
/-- A reader of some code: its bytes. -/
theorem newReader_spec (l : List Int) (h : ∀ x ∈ l, 0 ≤ x ∧ x ≤ 255) : ∃ b : List Int, spec_newReader.f l = some (b, 0) ∧ (∀ x ∈ b, 0 ≤ x ∧ x ≤ 255) ∧ b.length ≤ 2000 := by
  unfold spec_newReader.f
  by_cases h1 : (l.length : Int) > 2000
  · rw [if_pos h1, if_pos (by omega)]
    exact ⟨_, rfl, fun x hx => h x (List.mem_of_mem_take hx), by simp; omega⟩
  · rw [if_neg h1]
    exact ⟨_, rfl, h, by omega⟩

/-! ### drawplaces -/
theorem somePlaces_l0 (b : List Int) (hb : ∀ x ∈ b, 0 ≤ x ∧ x ≤ 255) (hl : b.length ≤ 2000) : ∀ (d k : Nat) (acc : List Int) (p : Int), acc.length + d ≤ 8 → 30 + d < k → 0 ≤ p → p + 2 * d + 2 ≤ 1000000 →
    ∃ out q, spec_somePlaces.l0 k acc (d : Int) b p = some (out, q) ∧ out.length ≤ 8 ∧ 0 ≤ q ∧ q ≤ p + 2 * d + 2 := by
  intro d
  induction d with
  | zero =>
    intro k acc p ha hk h0 h1
    obtain ⟨k, rfl, hk⟩ := fuel hk
    simp only [spec_somePlaces.l0]
    rw [if_neg (by omega)]
    by_cases h2 : (acc.length : Int) > 0
    · obtain ⟨v, hv, -⟩ := pick_spec k (by omega) b hb hl p h0 (by omega) 16 (by omega)
      rw [if_pos h2, hv, Option.bind_some]
      simp only
      by_cases h3 : v = 0
      · have hw : wrap64 ((acc.length : Int) - 1) = (acc.length : Int) - 1 := wrap_id (by omega) (by omega)
        obtain ⟨u, hu, -⟩ := one_spec k (by omega) b hb hl (p + 1) (by omega) (by omega) [0, 251, rd acc (wrap64 ((acc.length : Int) - 1))] (by simp) (by simp)
        rw [if_pos h3, hw, if_pos (by omega), if_pos (by omega)]
        rw [hw] at hu
        rw [hu, Option.bind_some]
        simp only
        rw [if_pos (by omega)]
        exact ⟨_, _, rfl, by simp; omega, by omega, by omega⟩
      · rw [if_neg h3]
        exact ⟨_, _, rfl, by omega, by omega, by omega⟩
    · rw [if_neg h2]
      exact ⟨_, _, rfl, by omega, by omega, by omega⟩
  | succ d ih =>
    intro k acc p ha hk h0 h1
    obtain ⟨k, rfl, hk⟩ := fuel hk
    simp only [spec_somePlaces.l0]
    obtain ⟨v, hv, hv0, hv1, -⟩ := pick_spec k (by omega) b hb hl p h0 (by omega) 250 (by omega)
    rw [if_pos (by omega), hv, Option.bind_some]
    simp only
    obtain ⟨u, hu, -⟩ := one_spec k (by omega) b hb hl (p + 1) (by omega) (by omega) [wrap64 (1 + v), wrap64 ((acc.length : Int) + 1)] (by simp) (by simp)
    rw [hu, Option.bind_some]
    simp only
    rw [placeIn_spec k acc u (by omega) (by omega), Option.bind_some]
    have hd : wrap64 (((d + 1 : Nat) : Int) - 1) = (d : Int) := by rw [wrap_id (by omega) (by omega)]; omega
    rw [hd]
    by_cases h4 : idxM acc u 0 < 0
    · rw [if_pos h4, if_pos (by omega)]
      obtain ⟨out, q, ho, h5, h6, h7⟩ := ih k (acc ++ [u]) (p + 1 + 1) (by simp; omega) (by omega) (by omega) (by omega)
      exact ⟨out, q, ho, h5, h6, by omega⟩
    · rw [if_neg h4]
      obtain ⟨out, q, ho, h5, h6, h7⟩ := ih k acc (p + 1 + 1) (by omega) (by omega) (by omega) (by omega)
      exact ⟨out, q, ho, h5, h6, by omega⟩
theorem somePlaces_spec (b : List Int) (hb : ∀ x ∈ b, 0 ≤ x ∧ x ≤ 255) (hl : b.length ≤ 2000) (k : Nat) (p : Int) (hk : 50 < k) (h0 : 0 ≤ p) (h1 : p ≤ 100000) : ∃ out q, spec_somePlaces.f k b p = some (out, q) ∧ out.length ≤ 8 ∧ 0 ≤ q ∧ q ≤ p + 20 := by
  unfold spec_somePlaces.f
  obtain ⟨v, hv, hm⟩ := one_spec k (by omega) b hb hl p h0 (by omega) [4, 5, 3, 6, 1, 0, 8] (by simp) (by simp)
  rw [hv, Option.bind_some]
  have hvr : 0 ≤ v ∧ v ≤ 8 := by
    simp only [List.mem_cons, List.not_mem_nil, or_false] at hm
    omega
  obtain ⟨n, rfl⟩ := Int.eq_ofNat_of_zero_le hvr.1
  obtain ⟨out, q, ho, a, b2, c⟩ := somePlaces_l0 b hb hl n k [] (p + 1) (by simp; omega) (by omega) (by omega) (by omega)
  exact ⟨out, q, ho, a, b2, by omega⟩

/-! ### drawshares -/
theorem someShares_l0 (b : List Int) (hb : ∀ x ∈ b, 0 ≤ x ∧ x ≤ 255) (hl : b.length ≤ 2000) (xs : List Int) (hx : xs.length ≤ 8) : ∀ (d k i : Nat) (acc : List S40) (p : Int), i + d = xs.length → acc.length = i → d + 10 < k → 0 ≤ p → p + d + 2 ≤ 1000000 →
    ∃ out q, spec_someShares.l0 k acc xs (i : Int) b p = some (out, q) ∧ out.length ≤ 8 ∧ 0 ≤ q ∧ q ≤ p + d + 2 := by
  intro d
  induction d with
  | zero =>
    intro k i acc p hi ha hk h0 h1
    obtain ⟨k, rfl, hk⟩ := fuel hk
    simp only [spec_someShares.l0]
    rw [if_neg (by omega)]
    by_cases h2 : (acc.length : Int) > 0
    · obtain ⟨v, hv, -⟩ := pick_spec k (by omega) b hb hl p h0 (by omega) 20 (by omega)
      rw [if_pos h2, hv, Option.bind_some]
      simp only
      by_cases h3 : v = 0
      · obtain ⟨u, hu, -⟩ := one_spec k (by omega) b hb hl (p + 1) (by omega) (by omega) [(-1), 251] (by simp) (by simp)
        rw [if_pos h3, hu, Option.bind_some]
        simp only
        rw [if_pos (by omega)]
        exact ⟨_, _, rfl, by simp; omega, by omega, by omega⟩
      · rw [if_neg h3]
        exact ⟨_, _, rfl, by omega, by omega, by omega⟩
    · rw [if_neg h2]
      exact ⟨_, _, rfl, by omega, by omega, by omega⟩
  | succ d ih =>
    intro k i acc p hi ha hk h0 h1
    obtain ⟨k, rfl, hk⟩ := fuel hk
    simp only [spec_someShares.l0]
    obtain ⟨v, hv, -⟩ := pick_spec k (by omega) b hb hl p h0 (by omega) 251 (by omega)
    rw [if_pos (by omega), if_pos (by omega), hv, Option.bind_some]
    simp only
    rw [if_pos (by omega), wrap_succ (by omega)]
    obtain ⟨out, q, ho, h5, h6, h7⟩ := ih k (i + 1) (acc ++ [⟨rd xs (i : Int), v⟩]) (p + 1) (by omega) (by simp; omega) (by omega) (by omega) (by omega)
    exact ⟨out, q, ho, h5, h6, by omega⟩
theorem someShares_spec (b : List Int) (hb : ∀ x ∈ b, 0 ≤ x ∧ x ≤ 255) (hl : b.length ≤ 2000) (k : Nat) (p : Int) (hk : 50 < k) (h0 : 0 ≤ p) (h1 : p ≤ 90000) : ∃ out q, spec_someShares.f k b p = some (out, q) ∧ out.length ≤ 8 ∧ 0 ≤ q ∧ q ≤ p + 40 := by
  unfold spec_someShares.f
  obtain ⟨xs, q, hx, hx8, hq0, hq1⟩ := somePlaces_spec b hb hl k p hk h0 (by omega)
  rw [hx, Option.bind_some]
  obtain ⟨out, q2, ho, a, b2, c⟩ := someShares_l0 b hb hl xs hx8 xs.length k 0 [] q (by omega) rfl (by omega) hq0 (by omega)
  exact ⟨out, q2, ho, a, b2, by omega⟩

/-! ### the law -/
/-- The sums of two shares. -/
def addS (a b : List S40) : List S40 := List.zipWith (fun s t => ⟨s.f0, (s.f1 + t.f1) % 251⟩) a b
theorem addS_length {a b : List S40} (h : a.length = b.length) : (addS a b).length = a.length := by simp [addS, h]
theorem addS_take {a b : List S40} {i : Nat} (h1 : i < a.length) (h2 : i < b.length) : addS (a.take (i + 1)) (b.take (i + 1)) = addS (a.take i) (b.take i) ++ [⟨(rd_T40 a (i : Int)).f0, ((rd_T40 a (i : Int)).f1 + (rd_T40 b (i : Int)).f1) % 251⟩] := by
  rw [takeS h1, takeS h2, addS, List.zipWith_append (by simp; omega)]
  rfl
/-- What is added. -/
def AddOk (a b : List S40) : Prop := (OkSh a ∧ OkSh b) ∧ a.length = b.length
instance (a b : List S40) : Decidable (AddOk a b) := by unfold AddOk; infer_instance
def addM2 (a b : List S40) : List S40 := if AddOk a b then (if a.map (·.f0) = b.map (·.f0) then addS a b else []) else []
theorem rd_ne_map {a b : List S40} {i : Nat} (h1 : i < a.length) (h2 : i < b.length) (h : (rd_T40 a (i : Int)).f0 ≠ (rd_T40 b (i : Int)).f0) : a.map (·.f0) ≠ b.map (·.f0) := by
  intro e
  apply h
  rw [← rdX h1, ← rdX h2, e]
theorem add_wrap {a b : List S40} (ha : OkSh a) (hb : OkSh b) {i : Nat} (h1 : i < a.length) (h2 : i < b.length) : Int.tmod (wrap64 ((rd_T40 a (i : Int)).f1 + (rd_T40 b (i : Int)).f1)) 251 = ((rd_T40 a (i : Int)).f1 + (rd_T40 b (i : Int)).f1) % 251 := by
  have e1 := (ha.2.1 _ (rdS_mem h1)).2
  have e2 := (hb.2.1 _ (rdS_mem h2)).2
  rw [wrap_id (by omega) (by omega), Int.tmod_eq_emod_of_nonneg (by omega)]
theorem iadd_l0 (a b : List S40) (h : AddOk a b) : ∀ (d k i : Nat), i + d = a.length → (∀ j : Nat, j < i → (rd_T40 a (j : Int)).f0 = (rd_T40 b (j : Int)).f0) → d + 12 < k → impl_AddShares.l0 k b (addS (a.take i) (b.take i)) a (a.length : Int) (i : Int) = some (if a.map (·.f0) = b.map (·.f0) then addS a b else []) := by
  have hl := h.2
  have h12 := h.1.1.1
  intro d
  induction d with
  | zero =>
    intro k i hi hp hk
    obtain ⟨k, rfl, -⟩ := fuel hk
    simp only [impl_AddShares.l0]
    have e : a.map (·.f0) = b.map (·.f0) := by
      apply ext_rd (by simp [hl])
      intro j hj
      rw [List.length_map] at hj
      rw [rdX hj, rdX (by omega)]
      exact hp j (by omega)
    rw [if_neg (by omega), List.take_of_length_le (by omega), List.take_of_length_le (by omega), if_pos e]
  | succ d ih =>
    intro k i hi hp hk
    obtain ⟨k, rfl, hk⟩ := fuel hk
    simp only [impl_AddShares.l0]
    rw [if_pos (by omega), if_pos (by omega), if_pos (by omega), if_pos (by omega)]
    by_cases h1 : (rd_T40 a (i : Int)).f0 = (rd_T40 b (i : Int)).f0
    · rw [if_pos h1, if_pos (by rw [addS_length (by simp; omega), List.length_take]; omega), wrap_succ (by omega), add_wrap h.1.1 h.1.2 (by omega) (by omega)]
      have := ih k (i + 1) (by omega) (fun j hj => by
        rcases Nat.lt_or_ge j i with h3 | h3
        · exact hp j h3
        · obtain rfl : j = i := by omega
          exact h1) (by omega)
      rw [addS_take (by omega) (by omega)] at this
      exact this
    · rw [if_neg h1, if_neg (rd_ne_map (by omega) (by omega) h1)]
theorem sadd_l0 (a b : List S40) (h : AddOk a b) : ∀ (d k i : Nat), i + d = a.length → (∀ j : Nat, j < i → (rd_T40 a (j : Int)).f0 = (rd_T40 b (j : Int)).f0) → d + 12 < k → spec_AddShares.l0 k a b (addS (a.take i) (b.take i)) (i : Int) = some (if a.map (·.f0) = b.map (·.f0) then addS a b else []) := by
  have hl := h.2
  have h12 := h.1.1.1
  intro d
  induction d with
  | zero =>
    intro k i hi hp hk
    obtain ⟨k, rfl, -⟩ := fuel hk
    simp only [spec_AddShares.l0]
    have e : a.map (·.f0) = b.map (·.f0) := by
      apply ext_rd (by simp [hl])
      intro j hj
      rw [List.length_map] at hj
      rw [rdX hj, rdX (by omega)]
      exact hp j (by omega)
    rw [if_neg (by omega), List.take_of_length_le (by omega), List.take_of_length_le (by omega), if_pos e]
  | succ d ih =>
    intro k i hi hp hk
    obtain ⟨k, rfl, hk⟩ := fuel hk
    simp only [spec_AddShares.l0]
    rw [if_pos (by omega), if_pos (by omega), if_pos (by omega)]
    by_cases h1 : (rd_T40 a (i : Int)).f0 = (rd_T40 b (i : Int)).f0
    · rw [if_pos h1, if_pos (by rw [addS_length (by simp; omega), List.length_take]; omega), wrap_succ (by omega), add_wrap h.1.1 h.1.2 (by omega) (by omega)]
      have := ih k (i + 1) (by omega) (fun j hj => by
        rcases Nat.lt_or_ge j i with h3 | h3
        · exact hp j h3
        · obtain rfl : j = i := by omega
          exact h1) (by omega)
      rw [addS_take (by omega) (by omega)] at this
      exact this
    · rw [if_neg h1, if_neg (rd_ne_map (by omega) (by omega) h1)]
theorem iadd_spec (k : Nat) (a b : List S40) (hk : 60 < k) : impl_AddShares.f k a b = some (addM2 a b) := by
  obtain ⟨k, rfl, hk⟩ := fuel hk
  unfold impl_AddShares.f addM2
  have hj : ∀ q : Nat, q = k + 1 → impl_AddShares.j0 q a b true = some [] := fun q e => by subst e; simp [impl_AddShares.j0]
  rw [ivalid_spec _ a (by omega), Option.bind_some]
  by_cases h1 : OkSh a
  · rw [decide_eq_true h1, if_pos rfl, ivalid_spec _ b (by omega), Option.bind_some]
    by_cases h2 : OkSh b
    · rw [decide_eq_true h2, if_pos rfl]
      by_cases h3 : (a.length : Int) = (b.length : Int)
      · rw [show ((a.length : Int) != (b.length : Int)) = false from bne_eq_false_iff_eq.mpr h3]
        have ok : AddOk a b := ⟨⟨h1, h2⟩, by omega⟩
        simp only [impl_AddShares.j0]
        rw [if_neg (by decide), if_pos ok]
        have := h1.1
        exact iadd_l0 a b ok a.length k 0 (by omega) (fun j hj => by omega) (by omega)
      · rw [show ((a.length : Int) != (b.length : Int)) = true from bne_iff_ne.mpr h3, hj _ rfl, if_neg (fun h4 => h3 (by have := h4.2; omega))]
    · rw [decide_eq_false h2, if_neg (by decide), hj _ rfl, if_neg (fun h4 => h2 h4.1.2)]
  · rw [decide_eq_false h1, if_neg (by decide), hj _ rfl, if_neg (fun h4 => h1 h4.1.1)]
theorem sadd_spec (k : Nat) (a b : List S40) (ha : a.length ≤ 1048576) (hb : b.length ≤ 1048576) (hk : 3145900 < k) : spec_AddShares.f k a b = some (addM2 a b) := by
  obtain ⟨k, rfl, hk⟩ := fuel hk
  unfold spec_AddShares.f addM2
  have hj : ∀ q : Nat, q = k + 1 → spec_AddShares.j0 q a b true = some [] := fun q e => by subst e; simp [spec_AddShares.j0]
  rw [svalid_spec _ a ha (by omega), Option.bind_some]
  by_cases h1 : OkSh a
  · rw [decide_eq_true h1, if_pos rfl, svalid_spec _ b hb (by omega), Option.bind_some]
    by_cases h2 : OkSh b
    · rw [decide_eq_true h2, if_pos rfl]
      by_cases h3 : (a.length : Int) = (b.length : Int)
      · rw [show ((a.length : Int) != (b.length : Int)) = false from bne_eq_false_iff_eq.mpr h3]
        have ok : AddOk a b := ⟨⟨h1, h2⟩, by omega⟩
        simp only [spec_AddShares.j0]
        rw [if_neg (by decide), if_pos ok]
        have := h1.1
        exact sadd_l0 a b ok a.length k 0 (by omega) (fun j hj => by omega) (by omega)
      · rw [show ((a.length : Int) != (b.length : Int)) = true from bne_iff_ne.mpr h3, hj _ rfl, if_neg (fun h4 => h3 (by have := h4.2; omega))]
    · rw [decide_eq_false h2, if_neg (by decide), hj _ rfl, if_neg (fun h4 => h2 h4.1.2)]
  · rw [decide_eq_false h1, if_neg (by decide), hj _ rfl, if_neg (fun h4 => h1 h4.1.1)]
theorem addS_x {a b : List S40} (hl : a.length = b.length) : (addS a b).map (·.f0) = a.map (·.f0) := by
  apply ext_rd (by rw [List.length_map, List.length_map, addS_length hl])
  intro j hj
  rw [List.length_map, addS_length hl] at hj
  rw [rd_get (by rw [List.length_map, addS_length hl]; exact hj), rd_get (by simpa using hj)]
  simp [addS]
theorem addS_ok {a b : List S40} (h : AddOk a b) : OkSh (addS a b) := by
  refine ⟨by rw [addS_length h.2]; exact h.1.1.1, fun s hs => ?_, by rw [addS_x h.2]; exact h.1.1.2.2⟩
  obtain ⟨j, hj, rfl⟩ := List.getElem_of_mem hs
  rw [addS_length h.2] at hj
  have e : (addS a b)[j]'(by rw [addS_length h.2]; exact hj) = ⟨a[j].f0, (a[j].f1 + (b[j]'(by have := h.2; omega)).f1) % 251⟩ := by simp [addS]
  rw [e]
  have := (h.1.1.2.1 a[j] (List.getElem_mem hj)).1
  exact ⟨this, by simp only; omega⟩
theorem drawAdd_l0 (b : List Int) (hb : ∀ x ∈ b, 0 ≤ x ∧ x ≤ 255) (hl : b.length ≤ 2000) (x5 : List S40) : ∀ (d k i : Nat) (acc : List S40) (p : Int), i + d = acc.length → acc.length ≤ 8 → d + 100 < k → 0 ≤ p → p + d ≤ 1000 →
    ∃ out, spec_DrawAddShares.l0 k x5 acc (i : Int) b p = some (x5, out) ∧ out.length ≤ 8 := by
  intro d
  induction d with
  | zero =>
    intro k i acc p hi ha hk h0 h1
    obtain ⟨k, rfl, hk⟩ := fuel hk
    simp only [spec_DrawAddShares.l0]
    obtain ⟨v, hv, -⟩ := pick_spec k (by omega) b hb hl p h0 (by omega) 8 (by omega)
    rw [if_neg (by omega), hv, Option.bind_some]
    simp only
    by_cases h2 : v = 0
    · obtain ⟨out, q, ho, ho8, -, -⟩ := someShares_spec b hb hl k (p + 1) (by omega) (by omega) (by omega)
      rw [if_pos h2, ho, Option.bind_some]
      exact ⟨out, rfl, ho8⟩
    · rw [if_neg h2]
      exact ⟨acc, rfl, ha⟩
  | succ d ih =>
    intro k i acc p hi ha hk h0 h1
    obtain ⟨k, rfl, hk⟩ := fuel hk
    simp only [spec_DrawAddShares.l0]
    obtain ⟨v, hv, -⟩ := pick_spec k (by omega) b hb hl p h0 (by omega) 251 (by omega)
    rw [if_pos (by omega), hv, Option.bind_some]
    simp only
    rw [if_pos (by omega), wrap_succ (by omega)]
    exact ih k (i + 1) _ (p + 1) (by rw [List.length_set]; omega) (by rw [List.length_set]; exact ha) (by omega) (by omega) (by omega)
theorem FnAddShares : laws_FnAddShares.Pure := by
  intro l0 _ _ hw
  refine ⟨4000001, ?_⟩
  unfold laws_FnAddShares.f
  by_cases h1 : (l0.length : Int) > 1048576
  · rw [if_pos h1]
  · rw [if_neg h1]
    have hd : ∃ a b : List S40, spec_DrawAddShares.f 4000001 l0 = some (a, b) ∧ a.length ≤ 8 ∧ b.length ≤ 8 := by
      unfold spec_DrawAddShares.f
      obtain ⟨b, hb, hb1, hb2⟩ := newReader_spec l0 (reader_bytes hw)
      obtain ⟨l, q, hl, hl8, hq0, hq1⟩ := someShares_spec b hb1 hb2 4000001 0 (by omega) (by omega) (by omega)
      obtain ⟨out, ho, ho8⟩ := drawAdd_l0 b hb1 hb2 l l.length 4000001 0 l q (by omega) hl8 (by omega) hq0 (by omega)
      rw [hb, Option.bind_some]
      simp only
      rw [hl, Option.bind_some, Option.bind_some]
      simp only
      rw [if_pos (by simp; omega), List.nil_append]
      exact ⟨l, out, ho, hl8, ho8⟩
    obtain ⟨a, b, hl, ha8, hb8⟩ := hd
    have hlen : (addM2 a b).length ≤ 8 := by
      unfold addM2
      by_cases h : AddOk a b
      · rw [if_pos h]
        by_cases h2 : a.map (·.f0) = b.map (·.f0)
        · rw [if_pos h2, addS_length h.2]; exact ha8
        · rw [if_neg h2]; simp
      · rw [if_neg h]; simp
    rw [hl, Option.bind_some]
    simp only
    rw [iadd_spec _ a b (by omega), Option.bind_some, sadd_spec _ a b (by omega) (by omega) (by omega), Option.bind_some, equalShares_self _ _ (by omega) (by omega), Option.bind_some, if_pos rfl]
    simp only [laws_FnAddShares.j0]
    by_cases h2 : ((addM2 a b).length : Int) = 0
    · rw [if_pos (by rw [h2]; rfl), sadd_spec _ a b (by omega) (by omega) (by omega), Option.bind_some, equalShares_self _ _ (by omega) (by omega), Option.bind_some]
    · have h3 : AddOk a b ∧ a.map (·.f0) = b.map (·.f0) := by
        by_cases h3 : AddOk a b
        · refine ⟨h3, ?_⟩
          by_cases h4 : a.map (·.f0) = b.map (·.f0)
          · exact h4
          · exfalso; apply h2; unfold addM2; rw [if_pos h3, if_neg h4]; rfl
        · exfalso; apply h2; unfold addM2; rw [if_neg h3]; rfl
      have e : addM2 a b = addS a b := by unfold addM2; rw [if_pos h3.1, if_pos h3.2]
      have hok := addS_ok h3.1
      have hal := addS_length h3.1.2
      have h0 : 0 < a.length := by rw [e, hal] at h2; omega
      rw [if_neg (by simpa using h2), e, ivalid_spec _ _ (by omega), decide_eq_true hok, Option.bind_some, if_pos rfl, if_neg (by omega), iopen_spec _ _ (by omega), Option.bind_some, iopen_spec _ _ (by omega), Option.bind_some, iopen_spec _ _ (by omega), Option.bind_some]
      have hb0 := h3.1.2
      unfold secM
      rw [if_pos ⟨by omega, hok⟩, if_pos ⟨by omega, h3.1.1.1⟩, if_pos ⟨by omega, h3.1.1.2⟩]
      have r1 := thr_rd0 h3.1.1.1.places h0
      have r2 := thr_rd0 h3.1.1.2.places (by omega)
      have key := thr_add h3.1.1.1.places h3.1.1.2.places hok.places (by simp [xyOf]; omega) (by simp [xyOf]; omega) (fun i hi => by
        have hi2 : i < a.length := by simpa [xyOf] using hi
        have hx1 : a[i].f0 = (b[i]'(by omega)).f0 := by
          have t1 := rdX (xs := a) hi2
          have t2 := rdX (xs := b) (i := i) (by omega)
          rw [h3.2, t2, rdS_at hi2, rdS_at (by omega)] at t1
          exact t1.symm
        have e3 : (addS a b)[i]'(by omega) = ⟨a[i].f0, (a[i].f1 + (b[i]'(by omega)).f1) % 251⟩ := by simp [addS]
        simp only [xyOf, List.getElem_map]
        rw [e3]
        exact ⟨hx1, rfl, Eqv.mod _⟩) 0 (by simp [xyOf]; omega)
      have key2 : rd (thr (xyOf (addS a b))) 0 = (rd (thr (xyOf a)) 0 + rd (thr (xyOf b)) 0) % 251 := key
      rw [key2, wrap_id (by omega) (by omega), Int.tmod_eq_emod_of_nonneg (by omega), beq_self_eq_true]

end Go.Proofs.Ytaoecaikeikneaa.Pure
