/- The law FnExactBidOrder holds: the program's function answers as the reference does at every drawn input, and has the law's property; no condition. -/
import Derived.Test.YteknmkikpcdjbaaPFnExactBidOrderx6
set_option linter.unusedVariables false
set_option linter.unusedSimpArgs false
namespace Go.Proofs.Yteknmkikpcdjbaa.Pure
open Go.RowKit Go.Proofs.Yteknmkikpcdjbaa.PFnExactBidOrder Go.Proofs.YteknmkikpcdjbaaW.PrintWords Go.Proofs.YteknmkikpcdjbaaW.PrintLast Go.Proofs.YteknmkikpcdjbaaW.PrintMore

/-! ### base -/
theorem fuel {k n : Nat} (h : n < k) : ∃ m, k = m + 1 ∧ n ≤ m := ⟨k - 1, by omega, by omega⟩
theorem wrap_id {x : Int} (h1 : -9223372036854775808 ≤ x) (h2 : x ≤ 9223372036854775807) : wrap64 x = x := by unfold wrap64; omega
theorem wrap_succ {i : Nat} (h : i < 4611686018427387904) : wrap64 ((i : Int) + 1) = ((i + 1 : Nat) : Int) := by unfold wrap64; omega
theorem wrap_succ' {i : Int} (h0 : 0 ≤ i) (h : i < 4611686018427387904) : wrap64 (i + 1) = i + 1 := by unfold wrap64; omega
theorem wrap_wrap (x : Int) : wrap64 (wrap64 x) = wrap64 x := by unfold wrap64; omega
theorem wrap_add_l (x y : Int) : wrap64 (wrap64 x + y) = wrap64 (x + y) := by unfold wrap64; omega
theorem wrap_add_r (x y : Int) : wrap64 (x + wrap64 y) = wrap64 (x + y) := by unfold wrap64; omega
theorem wrap_sub_l (x y : Int) : wrap64 (wrap64 x - y) = wrap64 (x - y) := by unfold wrap64; omega
theorem rd_get {xs : List Int} {i : Nat} (h : i < xs.length) : rd xs (i : Int) = xs[i] := by
  simp [rd, List.getD_eq_getElem?_getD, List.getElem?_eq_getElem h]
theorem drop_rd {xs : List Int} {i : Nat} (h : i < xs.length) : xs.drop i = rd xs (i : Int) :: xs.drop (i + 1) := by
  rw [rd_get h, List.drop_eq_getElem_cons h]
theorem drop_end {α : Type} {xs : List α} {i : Nat} (h : xs.length ≤ i) : xs.drop i = [] := List.drop_eq_nil_of_le h
theorem take_rd {xs : List Int} {i : Nat} (h : i < xs.length) : xs.take (i + 1) = xs.take i ++ [rd xs (i : Int)] := by
  rw [rd_get h, List.take_succ_eq_append_getElem h]
theorem rd_mem {xs : List Int} {i : Nat} (h : i < xs.length) : rd xs (i : Int) ∈ xs := by
  rw [rd_get h]; exact List.getElem_mem h
theorem rd_mem' {xs : List Int} {i : Int} (h0 : 0 ≤ i) (h : i < (xs.length : Int)) : rd xs i ∈ xs := by
  obtain ⟨j, rfl⟩ := Int.eq_ofNat_of_zero_le h0
  exact rd_mem (by omega)
theorem mem_rd {xs : List Int} {x : Int} (h : x ∈ xs) : ∃ i : Nat, i < xs.length ∧ rd xs (i : Int) = x := by
  obtain ⟨i, hi, he⟩ := List.getElem_of_mem h
  exact ⟨i, hi, by rw [rd_get hi, he]⟩
theorem ext_rd {xs ys : List Int} (hl : xs.length = ys.length) (h : ∀ i : Nat, i < xs.length → rd xs (i : Int) = rd ys (i : Int)) : xs = ys := by
  apply List.ext_getElem hl
  intro i h1 h2
  have := h i h1
  rwa [rd_get h1, rd_get h2] at this
theorem rd_set {xs : List Int} {i j : Nat} {v : Int} (hj : j < xs.length) : rd (xs.set i v) (j : Int) = if i = j then v else rd xs (j : Int) := by
  rw [rd_get (by simpa using hj), rd_get hj, List.getElem_set]
theorem rd_set_ne {xs : List Int} {i j : Nat} {v : Int} (h : i ≠ j) : rd (xs.set i v) (j : Int) = rd xs (j : Int) := by
  simp only [rd, List.getD_eq_getElem?_getD, Int.toNat_natCast, List.getElem?_set_ne h]
theorem rd_append_l {xs ys : List Int} {i : Nat} (h : i < xs.length) : rd (xs ++ ys) (i : Int) = rd xs (i : Int) := by
  rw [rd_get (by simp; omega), rd_get h, List.getElem_append_left h]
theorem rd_append_r {xs ys : List Int} {i : Nat} (h : xs.length ≤ i) (h2 : i < xs.length + ys.length) : rd (xs ++ ys) (i : Int) = rd ys ((i - xs.length : Nat) : Int) := by
  rw [rd_get (by simp; omega), rd_get (by omega), List.getElem_append_right h]
theorem rd_replicate {n i : Nat} {v : Int} (h : i < n) : rd (List.replicate n v) (i : Int) = v := by
  rw [rd_get (by simpa using h)]; simp
theorem rd_mapRange {n i : Nat} {f : Nat → Int} (h : i < n) : rd ((List.range n).map f) (i : Int) = f i := by
  rw [rd_get (by simpa using h)]; simp
theorem toNat_cast (i : Nat) : ((i : Int) : Int).toNat = i := by simp
theorem mx_max (a b : Int) : mx a b = max a b := by unfold mx; omega
theorem mn_min (a b : Int) : mn a b = min a b := by unfold mn; omega
theorem bits_xor {a b : Int} (ha : 0 ≤ a) (ha2 : a < 4611686018427387904) (hb : 0 ≤ b) (hb2 : b < 4611686018427387904) : 0 ≤ Go.bits .xor .i64 a b ∧ Go.bits .xor .i64 a b < 4611686018427387904 := by
  obtain ⟨a, rfl⟩ := Int.eq_ofNat_of_zero_le ha
  obtain ⟨b, rfl⟩ := Int.eq_ofNat_of_zero_le hb
  have h1 : a < 2 ^ 62 := by omega
  have h2 : b < 2 ^ 62 := by omega
  have h3 := Nat.xor_lt_two_pow h1 h2
  have e : Go.bits .xor .i64 (a : Int) (b : Int) = IntKind.i64.wrap (((BitVec.ofInt 64 (a : Int)) ^^^ (BitVec.ofInt 64 (b : Int))).toNat : Int) := rfl
  have ha' : (BitVec.ofInt 64 (a : Int)).toNat = a := by rw [BitVec.ofInt_natCast, BitVec.toNat_ofNat]; exact Nat.mod_eq_of_lt (by omega)
  have hb' : (BitVec.ofInt 64 (b : Int)).toNat = b := by rw [BitVec.ofInt_natCast, BitVec.toNat_ofNat]; exact Nat.mod_eq_of_lt (by omega)
  rw [e, BitVec.toNat_xor, ha', hb', IntKind.wrap_i64]
  omega
theorem cast0 : ((0 : Nat) : Int) = 0 := rfl
theorem w01 : wrap64 (0 + 1) = 1 := by unfold wrap64; omega
theorem w12 : wrap64 (1 + 1) = 2 := by unfold wrap64; omega
theorem w23 : wrap64 (2 + 1) = 3 := by unfold wrap64; omega
theorem w34 : wrap64 (3 + 1) = 4 := by unfold wrap64; omega
theorem w45 : wrap64 (4 + 1) = 5 := by unfold wrap64; omega

/-! ### listm -/
theorem pigeon : ∀ (n : Nat) (xs : List Int), xs.Nodup → (∀ x ∈ xs, 0 ≤ x ∧ x < (n : Int)) → xs.length ≤ n := by
  intro n
  induction n with
  | zero =>
    intro xs _ h
    cases xs with
    | nil => simp
    | cons x xs => have := h x (by simp); omega
  | succ n ih =>
    intro xs hn h
    by_cases hm : (n : Int) ∈ xs
    · have h1 := ih (xs.erase (n : Int)) (hn.erase _) (fun x hx => by
        have h2 := (hn.mem_erase_iff).1 hx
        have h3 := h x h2.2
        have h4 := h2.1
        omega)
      rw [List.length_erase_of_mem hm] at h1
      omega
    · have h1 := ih xs hn (fun x hx => by
        have h3 := h x hx
        have h4 : x ≠ (n : Int) := fun e => hm (e ▸ hx)
        omega)
      omega
/-- Fewer different members than there are: one is missing. -/
theorem one_missing : ∀ (n : Nat) (xs : List Int), xs.length < n → ∃ j : Nat, j < n ∧ (j : Int) ∉ xs := by
  intro n
  induction n with
  | zero => intro xs h; omega
  | succ n ih =>
    intro xs h
    by_cases hm : (n : Int) ∈ xs
    · obtain ⟨j, hj, hx⟩ := ih (xs.erase (n : Int)) (by rw [List.length_erase_of_mem hm]; have := List.length_pos_of_mem hm; omega)
      refine ⟨j, by omega, fun hmem => hx ?_⟩
      exact (List.mem_erase_of_ne (by omega)).2 hmem
    · exact ⟨n, by omega, hm⟩
/-- Members, one after the other, in range and not seen yet. -/
def memB (n : Int) : List Int → List Int → Bool
  | _, [] => true
  | seen, x :: rest => decide (0 ≤ x ∧ x < n) && (!decide (x ∈ seen) && memB n (seen ++ [x]) rest)
theorem memB_iff (n : Int) : ∀ (xs seen : List Int), memB n seen xs = true ↔ (∀ x ∈ xs, 0 ≤ x ∧ x < n ∧ x ∉ seen) ∧ xs.Nodup := by
  intro xs
  induction xs with
  | nil => intro seen; simp [memB]
  | cons a xs ih =>
    intro seen
    simp only [memB, Bool.and_eq_true, decide_eq_true_eq, Bool.not_eq_true', decide_eq_false_iff_not, ih, List.mem_cons, List.mem_append, List.not_mem_nil, or_false, List.nodup_cons]
    constructor
    · rintro ⟨⟨h1, h2⟩, h3, h4, h5⟩
      refine ⟨?_, fun ha => (h4 a ha).2.2 (Or.inr rfl), h5⟩
      rintro x (rfl | hx)
      · exact ⟨h1, h2, h3⟩
      · obtain ⟨a1, a2, a3⟩ := h4 x hx
        exact ⟨a1, a2, fun h => a3 (Or.inl h)⟩
    · rintro ⟨h1, h2, h3⟩
      obtain ⟨a1, a2, a3⟩ := h1 a (Or.inl rfl)
      refine ⟨⟨a1, a2⟩, a3, fun x hx => ?_, h3⟩
      obtain ⟨b1, b2, b3⟩ := h1 x (Or.inr hx)
      refine ⟨b1, b2, ?_⟩
      rintro (h | rfl)
      · exact b3 h
      · exact h2 hx
/-- Different members of a body. -/
def GoodM (xs : List Int) (n : Int) : Prop := xs.Nodup ∧ ∀ x ∈ xs, 0 ≤ x ∧ x < n
instance (xs : List Int) (n : Int) : Decidable (GoodM xs n) := inferInstanceAs (Decidable (_ ∧ _))
theorem memB_good (n : Int) (xs : List Int) : memB n [] xs = decide (GoodM xs n) := by
  rw [Bool.eq_iff_iff, memB_iff, decide_eq_true_eq]
  unfold GoodM
  constructor
  · rintro ⟨h, hn⟩
    exact ⟨hn, fun x hx => ⟨(h x hx).1, (h x hx).2.1⟩⟩
  · rintro ⟨hn, h⟩
    exact ⟨fun x hx => ⟨(h x hx).1, (h x hx).2, by simp⟩, hn⟩
theorem GoodM.le {xs : List Int} {n : Nat} (h : GoodM xs (n : Int)) : xs.length ≤ n := pigeon n xs h.1 h.2
/-- The first place of a number behind some. -/
def idxM : List Int → Int → Nat → Int
  | [], _, _ => -1
  | y :: ys, x, i => if y = x then (i : Int) else idxM ys x (i + 1)
theorem idxM_neg : ∀ (xs : List Int) (x : Int) (i : Nat), idxM xs x i < 0 ↔ x ∉ xs := by
  intro xs
  induction xs with
  | nil => intro x i; simp [idxM]
  | cons y ys ih =>
    intro x i
    simp only [idxM]
    by_cases e : y = x
    · rw [if_pos e]; simp [e]
    · rw [if_neg e, ih]
      have e' : ¬ x = y := fun h => e h.symm
      simp [e']
theorem idxM_nonneg (xs : List Int) (x : Int) (i : Nat) : 0 ≤ idxM xs x i ↔ x ∈ xs := by
  have := idxM_neg xs x i
  by_cases h : x ∈ xs
  · simp only [h, not_true, iff_false] at this
    simp [h]; omega
  · simp only [h, not_false_iff, iff_true] at this
    simp [h]; omega
theorem idxM_at : ∀ (xs : List Int) (x : Int) (i : Nat), x ∈ xs → ∃ j : Nat, idxM xs x i = ((i + j : Nat) : Int) ∧ j < xs.length ∧ rd xs (j : Int) = x ∧ ∀ q : Nat, q < j → rd xs (q : Int) ≠ x := by
  intro xs
  induction xs with
  | nil => intro x i h; simp at h
  | cons y ys ih =>
    intro x i h
    by_cases e : y = x
    · exact ⟨0, by simp [idxM, e], by simp, by simp [rd, e], fun q hq => by omega⟩
    · have hx : x ∈ ys := by
        rcases List.mem_cons.1 h with h | h
        · exact absurd h.symm e
        · exact h
      obtain ⟨j, h1, h2, h3, h4⟩ := ih x (i + 1) hx
      refine ⟨j + 1, by simp only [idxM, if_neg e, h1]; omega, by simp; omega, ?_, ?_⟩
      · rw [← h3, rd_get (by simp; omega), rd_get h2]; simp
      · intro q hq
        cases q with
        | zero => rw [rd_get (by simp)]; simpa using e
        | succ q => have := h4 q (by omega); rw [rd_get (by simp; omega)]; rw [rd_get (by omega)] at this; simpa using this
theorem sum_set : ∀ (xs : List Int) (i : Nat) (v : Int), i < xs.length → (xs.set i v).sum = xs.sum - rd xs (i : Int) + v := by
  intro xs
  induction xs with
  | nil => intro i v h; simp at h
  | cons x xs ih =>
    intro i v h
    cases i with
    | zero => simp [rd]; omega
    | succ i =>
      have h2 : i < xs.length := by simpa using h
      have := ih i v h2
      have e : rd (x :: xs) ((i + 1 : Nat) : Int) = rd xs (i : Int) := by rw [rd_get h, rd_get h2]; simp
      simp only [List.set_cons_succ, List.sum_cons, this, e]
      omega
theorem sum_replicate0 (n : Nat) : (List.replicate n (0 : Int)).sum = 0 := by
  induction n with
  | zero => rfl
  | succ n ih => simp [List.replicate_succ, ih]
theorem set_fill {α : Type} (A : List α) (d : Nat) (z v : α) : (A ++ List.replicate (d + 1) z).set A.length v = (A ++ [v]) ++ List.replicate d z := by
  rw [List.set_append_right _ _ (Nat.le_refl _)]
  simp [List.replicate_succ]
theorem set_fill' {α : Type} {A : List α} {i d : Nat} {z v : α} (h : A.length = i) : (A ++ List.replicate (d + 1) z).set i v = (A ++ [v]) ++ List.replicate d z := by
  subst h; exact set_fill A d z v
theorem sum_bound : ∀ (xs : List Int) (lo hi : Int), (∀ x ∈ xs, lo ≤ x ∧ x ≤ hi) → (xs.length : Int) * lo ≤ xs.sum ∧ xs.sum ≤ (xs.length : Int) * hi := by
  intro xs lo hi
  induction xs with
  | nil => intro _; simp
  | cons x xs ih =>
    intro h
    have h1 := ih (fun y hy => h y (by simp [hy]))
    have h2 := h x (by simp)
    have e1 : ((x :: xs).length : Int) * lo = (xs.length : Int) * lo + lo := by simp [Int.add_mul]
    have e2 : ((x :: xs).length : Int) * hi = (xs.length : Int) * hi + hi := by simp [Int.add_mul]
    rw [e1, e2, List.sum_cons]
    omega

/-! ### inrange -/
theorem inRange_spec (a lo up : Int) : spec_inRange.f a lo up = some (decide (lo ≤ a ∧ a ≤ up)) := by
  unfold spec_inRange.f
  by_cases h : lo ≤ a <;> simp [h]

/-! ### ranges -/
theorem allIn_l0 (xs : List Int) (lo up : Int) (hb : xs.length < 4611686018427387904) : ∀ (d k i : Nat), i + d = xs.length → d < k → spec_allIn.l0 k xs lo up (i : Int) = some ((xs.drop i).all fun x => decide (lo ≤ x ∧ x ≤ up)) := by
  intro d
  induction d with
  | zero =>
    intro k i hi hk
    obtain ⟨k, rfl, -⟩ := fuel hk
    simp only [spec_allIn.l0]
    rw [if_neg (by omega), drop_end (by omega)]
    simp
  | succ d ih =>
    intro k i hi hk
    obtain ⟨k, rfl, hk⟩ := fuel hk
    simp only [spec_allIn.l0]
    rw [if_pos (by omega), if_pos (by omega), inRange_spec, wrap_succ (by omega), drop_rd (by omega)]
    simp only [Option.bind_some, List.all_cons]
    rw [ih k (i + 1) (by omega) (by omega)]
    cases decide (lo ≤ rd xs (i : Int) ∧ rd xs (i : Int) ≤ up) <;> simp
theorem allIn_spec (k : Nat) (xs : List Int) (lo up : Int) (hb : xs.length < 4611686018427387904) (hk : xs.length < k) : spec_allIn.f k xs lo up = some (xs.all fun x => decide (lo ≤ x ∧ x ≤ up)) := by
  unfold spec_allIn.f
  have := allIn_l0 xs lo up hb xs.length k 0 (by omega) hk
  simpa using this

/-! ### within -/
theorem allWithin_l0 (xs : List Int) (lo up : Int) (hb : xs.length < 4611686018427387904) : ∀ (d k i : Nat), i + d = xs.length → d < k → impl_allWithin.l0 k lo up xs (xs.length : Int) (i : Int) = some ((xs.drop i).all fun x => decide (lo ≤ x ∧ x ≤ up)) := by
  intro d
  induction d with
  | zero =>
    intro k i hi hk
    obtain ⟨k, rfl, -⟩ := fuel hk
    simp only [impl_allWithin.l0]
    rw [if_neg (by omega), drop_end (by omega)]
    simp
  | succ d ih =>
    intro k i hi hk
    obtain ⟨k, rfl, hk⟩ := fuel hk
    simp only [impl_allWithin.l0]
    rw [if_pos (by omega), if_pos (by omega), if_pos (by omega), wrap_succ (by omega), drop_rd (by omega)]
    simp only [List.all_cons]
    rw [ih k (i + 1) (by omega) (by omega)]
    by_cases h1 : rd xs (i : Int) < lo
    · rw [if_pos h1, decide_eq_false (by omega)]; rfl
    · rw [if_neg h1]
      by_cases h2 : rd xs (i : Int) > up
      · rw [if_pos h2, decide_eq_false (by omega)]; rfl
      · rw [if_neg h2, decide_eq_true (by omega)]; rfl
theorem allWithin_spec (k : Nat) (xs : List Int) (lo up : Int) (hb : xs.length < 4611686018427387904) (hk : xs.length < k) : impl_allWithin.f k xs lo up = some (xs.all fun x => decide (lo ≤ x ∧ x ≤ up)) := by
  unfold impl_allWithin.f
  have := allWithin_l0 xs lo up hb xs.length k 0 (by omega) hk
  simpa using this

/-! ### index -/
theorem index_l0 (xs : List Int) (x : Int) (hb : xs.length < 4611686018427387904) : ∀ (d k i : Nat), i + d = xs.length → d < k → slices_Index_int_int.l0 k xs x (xs.length : Int) (i : Int) = some (idxM (xs.drop i) x i) := by
  intro d
  induction d with
  | zero =>
    intro k i hi hk
    obtain ⟨k, rfl, -⟩ := fuel hk
    simp only [slices_Index_int_int.l0]
    rw [if_neg (by omega), drop_end (by omega)]
    simp [idxM]
  | succ d ih =>
    intro k i hi hk
    obtain ⟨k, rfl, hk⟩ := fuel hk
    simp only [slices_Index_int_int.l0]
    rw [if_pos (by omega), if_pos (by omega), if_pos (by omega), wrap_succ (by omega), drop_rd (by omega)]
    simp only [idxM]
    rw [ih k (i + 1) (by omega) (by omega)]
    by_cases e : x = rd xs (i : Int)
    · rw [if_pos e, if_pos e.symm]
    · rw [if_neg e, if_neg (fun h => e h.symm)]
theorem index_spec (k : Nat) (xs : List Int) (x : Int) (hb : xs.length < 4611686018427387904) (hk : xs.length < k) : slices_Index_int_int.f k xs x = some (idxM xs x 0) := by
  unfold slices_Index_int_int.f
  have := index_l0 xs x hb xs.length k 0 (by omega) hk
  simpa using this

/-! ### contains -/
theorem contains_spec (k : Nat) (xs : List Int) (x : Int) (hb : xs.length < 4611686018427387904) (hk : xs.length < k) : slices_Contains_int_int.f k xs x = some (decide (x ∈ xs)) := by
  unfold slices_Contains_int_int.f
  rw [index_spec k xs x hb hk]
  simp only [Option.bind_some]
  congr 1
  rw [decide_eq_decide]
  exact idxM_nonneg xs x 0

/-! ### place -/
theorem placeIn_l0 (xs : List Int) (x : Int) (hb : xs.length < 4611686018427387904) : ∀ (d k i : Nat), i + d = xs.length → d < k → spec_placeIn.l0 k xs x (i : Int) = some (idxM (xs.drop i) x i) := by
  intro d
  induction d with
  | zero =>
    intro k i hi hk
    obtain ⟨k, rfl, -⟩ := fuel hk
    simp only [spec_placeIn.l0]
    rw [if_neg (by omega), drop_end (by omega)]
    simp [idxM]
  | succ d ih =>
    intro k i hi hk
    obtain ⟨k, rfl, hk⟩ := fuel hk
    simp only [spec_placeIn.l0]
    rw [if_pos (by omega), if_pos (by omega), wrap_succ (by omega), drop_rd (by omega)]
    simp only [idxM]
    rw [ih k (i + 1) (by omega) (by omega)]
    split <;> rfl
theorem placeIn_spec (k : Nat) (xs : List Int) (x : Int) (hb : xs.length < 4611686018427387904) (hk : xs.length < k) : spec_placeIn.f k xs x = some (idxM xs x 0) := by
  unfold spec_placeIn.f
  have := placeIn_l0 xs x hb xs.length k 0 (by omega) hk
  simpa using this

/-! ### different -/
theorem flags_set {fl : List Bool} {n : Int} {seen : List Int} {x : Int} (hl : (fl.length : Int) = n) (h : ∀ j : Int, 0 ≤ j → j < n → rdOf false fl j = decide (j ∈ seen)) (h0 : 0 ≤ x) (h1 : x < n) :
    ∀ j : Int, 0 ≤ j → j < n → rdOf false (fl.set x.toNat true) j = decide (j ∈ seen ++ [x]) := by
  intro j hj0 hj
  have := h j hj0 hj
  simp only [rdOf, List.getD_eq_getElem?_getD, List.getElem?_set] at this ⊢
  by_cases e : x = j
  · subst e
    rw [if_pos rfl, if_pos (by omega)]
    simp
  · rw [if_neg (by omega), this]
    have : ¬ j = x := fun h => e h.symm
    simp [this]
theorem different_l0 (xs : List Int) (n : Int) (hb : xs.length < 4611686018427387904) : ∀ (d k i : Nat) (fl : List Bool), (fl.length : Int) = n → (∀ j : Int, 0 ≤ j → j < n → rdOf false fl j = decide (j ∈ xs.take i)) → i + d = xs.length → d < k → impl_differentBelow.l0 k n fl xs (xs.length : Int) (i : Int) = some (memB n (xs.take i) (xs.drop i)) := by
  intro d
  induction d with
  | zero =>
    intro k i fl hl hf hi hk
    obtain ⟨k, rfl, -⟩ := fuel hk
    simp only [impl_differentBelow.l0]
    rw [if_neg (by omega), drop_end (by omega)]
    simp [memB]
  | succ d ih =>
    intro k i fl hl hf hi hk
    obtain ⟨k, rfl, hk⟩ := fuel hk
    simp only [impl_differentBelow.l0]
    rw [if_pos (by omega), if_pos (by omega), if_pos (by omega), wrap_succ (by omega), drop_rd (by omega)]
    simp only [memB]
    by_cases h1 : rd xs (i : Int) < 0
    · rw [if_pos h1, decide_eq_false (by omega)]; rfl
    · rw [if_neg h1]
      by_cases h2 : rd xs (i : Int) ≥ n
      · rw [if_pos h2, decide_eq_false (by omega)]; rfl
      · rw [if_neg h2, if_pos (by omega), if_pos (by omega), hf _ (by omega) (by omega), decide_eq_true (show 0 ≤ rd xs (i : Int) ∧ rd xs (i : Int) < n by omega)]
        by_cases h3 : rd xs (i : Int) ∈ xs.take i
        · rw [decide_eq_true h3, if_pos rfl]; rfl
        · rw [decide_eq_false h3, if_neg (by decide), ih k (i + 1) _ (by simpa using hl) (by rw [take_rd (by omega)]; exact flags_set hl hf (by omega) (by omega)) (by omega) (by omega), take_rd (by omega)]; rfl
theorem different_spec (k : Nat) (xs : List Int) (n : Int) (hn : 0 ≤ n) (hn2 : n ≤ 281474976710656) (hb : xs.length < 4611686018427387904) (hk : xs.length < k) : impl_differentBelow.f k xs n = some (decide (GoodM xs n)) := by
  unfold impl_differentBelow.f
  by_cases h : (xs.length : Int) > n
  · rw [if_pos h, decide_eq_false]
    intro hg
    obtain ⟨m, rfl⟩ := Int.eq_ofNat_of_zero_le hn
    have := hg.le
    omega
  · rw [if_neg h, if_pos hn, if_pos (by omega)]
    have := different_l0 xs n hb xs.length k 0 (List.replicate n.toNat false) (by simp; omega) (fun j h0 h1 => by simp [rdOf, List.getD_eq_getElem?_getD, List.getElem?_replicate]; split <;> rfl) (by omega) hk
    rw [← memB_good]
    simpa using this

/-! ### bids -/
/-- Bids that are valid. -/
def OkBids (bids : List Int) (pay : Int) : Prop := 1 ≤ bids.length ∧ bids.length ≤ 12 ∧ 0 ≤ pay ∧ pay ≤ 10000 ∧ ∀ x ∈ bids, -1 ≤ x ∧ x ≤ (bids.length : Int) * pay
instance (bids : List Int) (pay : Int) : Decidable (OkBids bids pay) := inferInstanceAs (Decidable (_ ∧ _))
theorem pot_bound {n : Nat} {pay : Int} (h1 : 1 ≤ n) (h2 : n ≤ 12) (h3 : 0 ≤ pay) (h4 : pay ≤ 10000) : 0 ≤ (n : Int) * pay ∧ (n : Int) * pay ≤ 120000 := by
  constructor
  · exact Int.mul_nonneg (by omega) h3
  · have : (n : Int) * pay ≤ 12 * pay := Int.mul_le_mul_of_nonneg_right (by omega) h3
    omega
theorem OkBids.pot {bids : List Int} {pay : Int} (h : OkBids bids pay) : 0 ≤ (bids.length : Int) * pay ∧ (bids.length : Int) * pay ≤ 120000 := pot_bound h.1 h.2.1 h.2.2.1 h.2.2.2.1
theorem potOf_spec (n : Nat) (pay : Int) : impl_PotOf.f (n : Int) pay = some (if 1 ≤ n ∧ n ≤ 12 ∧ 0 ≤ pay ∧ pay ≤ 10000 then (n : Int) * pay else -1) := by
  unfold impl_PotOf.f
  by_cases h1 : (n : Int) < 1
  · rw [if_pos h1, if_neg (by omega)]
  · rw [if_neg h1]
    by_cases h2 : (n : Int) > 12
    · rw [if_pos h2, if_neg (by omega)]
    · rw [if_neg h2]
      by_cases h3 : pay < 0
      · rw [if_pos h3, if_neg (by omega)]
      · rw [if_neg h3]
        by_cases h4 : pay > 10000
        · rw [if_pos h4, if_neg (by omega)]
        · rw [if_neg h4, if_pos (by omega)]
          have := pot_bound (n := n) (pay := pay) (by omega) (by omega) (by omega) (by omega)
          rw [wrap_id (by omega) (by omega)]
theorem implValidBids_spec (k : Nat) (bids : List Int) (pay : Int) (hb : bids.length < 4611686018427387904) (hk : bids.length < k) : impl_validBids.f k bids pay = some (decide (OkBids bids pay)) := by
  unfold impl_validBids.f
  rw [potOf_spec]
  simp only [Option.bind_some]
  by_cases h : 1 ≤ bids.length ∧ bids.length ≤ 12 ∧ 0 ≤ pay ∧ pay ≤ 10000
  · rw [if_pos h]
    have hp := pot_bound h.1 h.2.1 h.2.2.1 h.2.2.2
    rw [if_pos hp.1, allWithin_spec _ _ _ _ hb hk]
    simp only [Option.bind_some]
    congr 1
    rw [Bool.eq_iff_iff, List.all_eq_true, decide_eq_true_eq]
    unfold OkBids
    constructor
    · intro h2
      exact ⟨h.1, h.2.1, h.2.2.1, h.2.2.2, fun x hx => by simpa using h2 x hx⟩
    · intro h2 x hx
      simpa using h2.2.2.2.2 x hx
  · rw [if_neg h, if_neg (by omega), decide_eq_false]
    intro h2
    exact h ⟨h2.1, h2.2.1, h2.2.2.1, h2.2.2.2.1⟩
theorem specValidBids_spec (k : Nat) (bids : List Int) (pay : Int) (hb : bids.length < 4611686018427387904) (hk : bids.length < k) : spec_validBids.f k bids pay = some (decide (OkBids bids pay)) := by
  unfold spec_validBids.f
  rw [inRange_spec, inRange_spec]
  simp only [Option.bind_some]
  by_cases h1 : 1 ≤ (bids.length : Int) ∧ (bids.length : Int) ≤ 12
  · rw [decide_eq_true h1, if_pos rfl]
    by_cases h2 : 0 ≤ pay ∧ pay ≤ 10000
    · rw [decide_eq_true h2, if_pos rfl]
      have hp := pot_bound (n := bids.length) (pay := pay) (by omega) (by omega) h2.1 h2.2
      rw [wrap_id (by omega) (by omega), allIn_spec _ _ _ _ hb hk]
      simp only [Option.bind_some]
      congr 1
      rw [Bool.eq_iff_iff, List.all_eq_true, decide_eq_true_eq]
      unfold OkBids
      constructor
      · intro h3
        exact ⟨by omega, by omega, h2.1, h2.2, fun x hx => by simpa using h3 x hx⟩
      · intro h3 x hx
        simpa using h3.2.2.2.2 x hx
    · rw [decide_eq_false h2, if_neg (by decide), decide_eq_false]
      intro h3
      exact h2 ⟨h3.2.2.1, h3.2.2.2.1⟩
  · rw [decide_eq_false h1, if_neg (by decide), decide_eq_false]
    intro h3
    exact h1 ⟨by have := h3.1; omega, by have := h3.2.1; omega⟩
/-- Who gets the pot, from member i on. -/
def winM (bids done : List Int) : List Int → Nat → Int → Int
  | [], _, best => best
  | b :: rest, i, best => if (i : Int) ∈ done then winM bids done rest (i + 1) best else if best < 0 ∨ b > rd bids best then winM bids done rest (i + 1) (i : Int) else winM bids done rest (i + 1) best
theorem implWinner_l0 (bids done : List Int) (hb : bids.length < 4611686018427387904) (hd : done.length < 4611686018427387904) : ∀ (d k i : Nat) (best : Int), i + d = bids.length → done.length + d < k → -1 ≤ best → best < (bids.length : Int) →
    impl_WinnerOf.l0 k bids done best bids (bids.length : Int) (i : Int) = some (winM bids done (bids.drop i) i best) := by
  intro d
  induction d with
  | zero =>
    intro k i best hi hk h0 h1
    obtain ⟨k, rfl, -⟩ := fuel hk
    simp only [impl_WinnerOf.l0]
    rw [if_neg (by omega), drop_end (by omega)]
    simp [winM]
  | succ d ih =>
    intro k i best hi hk h0 h1
    obtain ⟨k, rfl, hk⟩ := fuel hk
    simp only [impl_WinnerOf.l0]
    rw [if_pos (by omega), if_pos (by omega), if_pos (by omega), contains_spec _ _ _ hd (by omega), wrap_succ (by omega), drop_rd (by omega)]
    simp only [Option.bind_some, winM]
    by_cases h2 : (i : Int) ∈ done
    · rw [decide_eq_true h2, if_pos rfl, if_pos h2, ih k (i + 1) best (by omega) (by omega) h0 h1]
    · rw [decide_eq_false h2, if_neg (by decide), if_neg h2]
      by_cases h3 : best < 0
      · rw [if_pos h3, if_pos (Or.inl h3), ih k (i + 1) _ (by omega) (by omega) (by omega) (by omega)]
      · rw [if_neg h3, if_pos (by omega), if_pos h1]
        by_cases h4 : rd bids (i : Int) > rd bids best
        · rw [if_pos h4, if_pos (Or.inr h4), ih k (i + 1) _ (by omega) (by omega) (by omega) (by omega)]
        · rw [if_neg h4, if_neg (by omega), ih k (i + 1) _ (by omega) (by omega) h0 h1]
theorem specWinner_l0 (bids done : List Int) (hb : bids.length < 4611686018427387904) (hd : done.length < 4611686018427387904) : ∀ (d k i : Nat) (best : Int), i + d = bids.length → done.length + d < k → -1 ≤ best → best < (bids.length : Int) →
    spec_winner.l0 k bids done best (i : Int) = some (winM bids done (bids.drop i) i best) := by
  intro d
  induction d with
  | zero =>
    intro k i best hi hk h0 h1
    obtain ⟨k, rfl, -⟩ := fuel hk
    simp only [spec_winner.l0]
    rw [if_neg (by omega), drop_end (by omega)]
    simp [winM]
  | succ d ih =>
    intro k i best hi hk h0 h1
    obtain ⟨k, rfl, hk⟩ := fuel hk
    simp only [spec_winner.l0]
    rw [if_pos (by omega), placeIn_spec _ _ _ hd (by omega), wrap_succ (by omega), drop_rd (by omega)]
    simp only [Option.bind_some, winM]
    have hn := idxM_neg done (i : Int) 0
    by_cases h2 : (i : Int) ∈ done
    · rw [if_neg (fun h => hn.1 h h2), if_pos h2, ih k (i + 1) best (by omega) (by omega) h0 h1]
    · rw [if_pos (hn.2 h2), if_neg h2]
      by_cases h3 : best < 0
      · rw [if_pos h3, if_pos (Or.inl h3), ih k (i + 1) _ (by omega) (by omega) (by omega) (by omega)]
      · rw [if_neg h3, if_pos (by omega), if_pos (by omega), if_pos h1]
        by_cases h4 : rd bids (i : Int) > rd bids best
        · rw [if_pos h4, if_pos (Or.inr h4), ih k (i + 1) _ (by omega) (by omega) (by omega) (by omega)]
        · rw [if_neg h4, if_neg (by omega), ih k (i + 1) _ (by omega) (by omega) h0 h1]
theorem specWinner_spec (k : Nat) (bids done : List Int) (hb : bids.length < 4611686018427387904) (hd : done.length < 4611686018427387904) (hk : done.length + bids.length < k) : spec_winner.f k bids done = some (winM bids done bids 0 (-1)) := by
  unfold spec_winner.f
  have := specWinner_l0 bids done hb hd bids.length k 0 (-1) (by omega) hk (by omega) (by omega)
  simpa using this
theorem implWinner_spec (k : Nat) (bids : List Int) (pay : Int) (done : List Int) (hb : bids.length < 1000000000) (hd : done.length < 1000000000) (hk : done.length + bids.length + 1 < k) :
    impl_WinnerOf.f k bids pay done = some (if OkBids bids pay ∧ GoodM done (bids.length : Int) then winM bids done bids 0 (-1) else -1) := by
  unfold impl_WinnerOf.f
  obtain ⟨k, rfl, hk⟩ := fuel hk
  rw [implValidBids_spec _ _ _ (by omega) (by omega)]
  simp only [Option.bind_some]
  by_cases h1 : OkBids bids pay
  · rw [decide_eq_true h1, if_pos rfl, different_spec _ _ _ (by omega) (by omega) (by omega) (by omega)]
    simp only [Option.bind_some, impl_WinnerOf.j0]
    by_cases h2 : GoodM done (bids.length : Int)
    · rw [decide_eq_true h2, if_neg (by decide), if_pos ⟨h1, h2⟩]
      have := implWinner_l0 bids done (by omega) (by omega) bids.length k 0 (-1) (by omega) (by omega) (by omega) (by omega)
      simpa using this
    · rw [decide_eq_false h2, if_pos (by decide), if_neg (fun h => h2 h.2)]
  · rw [decide_eq_false h1, if_neg (by decide), if_neg (fun h => h1 h.1)]
    simp [impl_WinnerOf.j0]
/-- What is known of the winner. -/
theorem winM_post (bids done : List Int) : ∀ (d i : Nat) (best : Int), i + d = bids.length →
    (best = -1 ∨ (0 ≤ best ∧ best < (i : Int) ∧ best ∉ done)) → (best = -1 → ∀ j : Nat, j < i → (j : Int) ∈ done) →
    (∀ j : Nat, j < i → (j : Int) ∉ done → rd bids (j : Int) ≤ rd bids best) →
    (winM bids done (bids.drop i) i best = -1 ∧ ∀ j : Nat, j < bids.length → (j : Int) ∈ done) ∨
    (0 ≤ winM bids done (bids.drop i) i best ∧ winM bids done (bids.drop i) i best < (bids.length : Int) ∧ winM bids done (bids.drop i) i best ∉ done ∧
      ∀ j : Nat, j < bids.length → (j : Int) ∉ done → rd bids (j : Int) ≤ rd bids (winM bids done (bids.drop i) i best)) := by
  intro d
  induction d with
  | zero =>
    intro i best hi h1 h2 h3
    rw [drop_end (by omega)]
    simp only [winM]
    obtain rfl : i = bids.length := by omega
    rcases h1 with h1 | h1
    · exact Or.inl ⟨h1, h2 h1⟩
    · exact Or.inr ⟨h1.1, h1.2.1, h1.2.2, h3⟩
  | succ d ih =>
    intro i best hi h1 h2 h3
    rw [drop_rd (by omega)]
    simp only [winM]
    by_cases h4 : (i : Int) ∈ done
    · rw [if_pos h4]
      refine ih (i + 1) best (by omega) ?_ ?_ ?_
      · rcases h1 with h1 | h1
        · exact Or.inl h1
        · exact Or.inr ⟨h1.1, by omega, h1.2.2⟩
      · intro e j hj
        rcases Nat.lt_or_ge j i with h | h
        · exact h2 e j h
        · obtain rfl : j = i := by omega
          exact h4
      · intro j hj hm
        rcases Nat.lt_or_ge j i with h | h
        · exact h3 j h hm
        · obtain rfl : j = i := by omega
          exact absurd h4 hm
    · rw [if_neg h4]
      by_cases h5 : best < 0 ∨ rd bids (i : Int) > rd bids best
      · rw [if_pos h5]
        refine ih (i + 1) (i : Int) (by omega) (Or.inr ⟨by omega, by omega, h4⟩) (fun e => by omega) ?_
        intro j hj hm
        rcases Nat.lt_or_ge j i with h | h
        · rcases h1 with h1 | h1
          · exact absurd (h2 h1 j h) hm
          · have := h3 j h hm
            rcases h5 with h5 | h5
            · omega
            · omega
        · obtain rfl : j = i := by omega
          exact Int.le_refl _
      · rw [if_neg h5]
        refine ih (i + 1) best (by omega) ?_ (fun e => by omega) ?_
        · rcases h1 with h1 | h1
          · omega
          · exact Or.inr ⟨h1.1, by omega, h1.2.2⟩
        · intro j hj hm
          rcases Nat.lt_or_ge j i with h | h
          · exact h3 j h hm
          · obtain rfl : j = i := by omega
            omega
theorem winM_of (bids done : List Int) :
    (winM bids done bids 0 (-1) = -1 ∧ ∀ j : Nat, j < bids.length → (j : Int) ∈ done) ∨
    (0 ≤ winM bids done bids 0 (-1) ∧ winM bids done bids 0 (-1) < (bids.length : Int) ∧ winM bids done bids 0 (-1) ∉ done ∧
      ∀ j : Nat, j < bids.length → (j : Int) ∉ done → rd bids (j : Int) ≤ rd bids (winM bids done bids 0 (-1))) := by
  have := winM_post bids done bids.length 0 (-1) (by omega) (Or.inl rfl) (fun _ j hj => by omega) (fun j hj => by omega)
  simpa using this

/-! ### split -/
def splitM (g : Int) (m : Nat) : List Int := (List.range m).map fun i : Nat => g / (m : Int) + if (i : Int) < g % (m : Int) then 1 else 0
theorem splitM_length (g : Int) (m : Nat) : (splitM g m).length = m := by simp [splitM]
theorem splitM_rd {g : Int} {m i : Nat} (h : i < m) : rd (splitM g m) (i : Int) = g / (m : Int) + if (i : Int) < g % (m : Int) then 1 else 0 := rd_mapRange h
theorem sum_steps (a r : Int) (hr : 0 ≤ r) : ∀ m : Nat, ((List.range m).map fun i : Nat => a + if (i : Int) < r then 1 else 0).sum = (m : Int) * a + min (m : Int) r := by
  intro m
  induction m with
  | zero => simp; omega
  | succ m ih =>
    rw [List.range_succ, List.map_append, List.sum_append, ih]
    have e : ((m + 1 : Nat) : Int) * a = (m : Int) * a + a := by push_cast; rw [Int.add_mul]; omega
    rw [e]
    simp only [List.map_cons, List.map_nil, List.sum_cons, List.sum_nil]
    split <;> omega
theorem splitM_sum {g : Int} {m : Nat} (hm : 0 < m) : (splitM g m).sum = g := by
  unfold splitM
  rw [sum_steps _ _ (Int.emod_nonneg _ (by omega))]
  have h1 := Int.emod_lt_of_pos g (b := (m : Int)) (by omega)
  have h2 := Int.mul_ediv_add_emod g (m : Int)
  rw [show min (m : Int) (g % (m : Int)) = g % (m : Int) by omega]
  omega
theorem splitM_bound {g : Int} {m : Nat} (hm : 0 < m) (hg : 0 ≤ g) : ∀ x ∈ splitM g m, 0 ≤ x ∧ x ≤ g := by
  intro x hx
  obtain ⟨i, hi, rfl⟩ := mem_rd hx
  rw [splitM_length] at hi
  rw [splitM_rd hi]
  have h0 := Int.ediv_nonneg hg (show (0 : Int) ≤ m by omega)
  have h2 := Int.mul_ediv_add_emod g (m : Int)
  have h3 : g / (m : Int) ≤ (m : Int) * (g / (m : Int)) := by
    have : (1 : Int) * (g / (m : Int)) ≤ (m : Int) * (g / (m : Int)) := Int.mul_le_mul_of_nonneg_right (by omega) h0
    omega
  have h4 := Int.emod_lt_of_pos g (b := (m : Int)) (by omega)
  have h5 := Int.emod_nonneg g (b := (m : Int)) (by omega)
  split <;> omega

/-! ### spliteven -/
theorem range_map_succ {f : Nat → Int} (i : Nat) : (List.range (i + 1)).map f = (List.range i).map f ++ [f i] := by
  rw [List.range_succ, List.map_append]; rfl
theorem split_val {g : Int} {m : Nat} (hg : 0 ≤ g) (hg2 : g ≤ 1000000) (hm : 0 < m) (hm2 : m ≤ 12) :
    wrap64 (Int.tdiv g (m : Int)) = g / (m : Int) ∧ Int.tmod g (m : Int) = g % (m : Int) ∧ 0 ≤ g / (m : Int) ∧ g / (m : Int) ≤ 1000000 := by
  have h1 := Int.ediv_nonneg hg (show (0 : Int) ≤ m by omega)
  have h2 : g / (m : Int) ≤ g := Int.ediv_le_self _ hg
  rw [Int.tdiv_eq_ediv_of_nonneg hg, Int.tmod_eq_emod_of_nonneg hg]
  exact ⟨wrap_id (by omega) (by omega), rfl, h1, by omega⟩
theorem implSplit_l0 (g : Int) (m : Nat) (hg : 0 ≤ g) (hg2 : g ≤ 1000000) (hm : 0 < m) (hm2 : m ≤ 12) : ∀ (d k i : Nat), i + d = m → d < k →
    impl_SplitEven.l0 k g (m : Int) (((List.range i).map fun j : Nat => g / (m : Int) + if (j : Int) < g % (m : Int) then 1 else 0) ++ List.replicate d 0) (m : Int) (i : Int) = some (splitM g m) := by
  obtain ⟨e1, e2, e3, e4⟩ := split_val hg hg2 hm hm2
  intro d
  induction d with
  | zero =>
    intro k i hi hk
    obtain ⟨k, rfl, -⟩ := fuel hk
    simp only [impl_SplitEven.l0]
    rw [if_neg (by omega)]
    obtain rfl : i = m := by omega
    simp [splitM]
  | succ d ih =>
    intro k i hi hk
    obtain ⟨k, rfl, hk⟩ := fuel hk
    simp only [impl_SplitEven.l0]
    rw [if_pos (by omega), if_neg (by omega), if_pos (by omega), if_pos (by simp; omega), e1, e2, toNat_cast, wrap_succ (by omega)]
    simp only [Option.bind_some]
    rw [set_fill' (by simp)]
    have hr : rd (List.map (fun j : Nat => g / (m : Int) + if (j : Int) < g % (m : Int) then 1 else 0) (List.range i) ++ [g / (m : Int)] ++ List.replicate d 0) (i : Int) = g / (m : Int) := by
      rw [rd_append_l (by simp), rd_append_r (by simp) (by simp)]
      simp [rd]
    have := ih k (i + 1) (by omega) (by omega)
    rw [range_map_succ] at this
    by_cases h : (i : Int) < g % (m : Int)
    · rw [if_pos h] at this
      rw [if_pos h, hr, wrap_id (by omega) (by omega), List.append_assoc, List.set_append_right _ _ (by simp)]
      simp only [List.length_map, List.length_range, Nat.sub_self, List.singleton_append, List.set_cons_zero]
      rw [← this, List.append_assoc]; rfl
    · rw [if_neg h, Int.add_zero] at this
      rw [if_neg h]
      exact this
theorem implSplit_spec (k : Nat) (hk : 14 < k) (g : Int) (m : Int) : impl_SplitEven.f k g m = some (if 0 ≤ g ∧ g ≤ 1000000 ∧ 1 ≤ m ∧ m ≤ 12 then splitM g m.toNat else []) := by
  obtain ⟨k, rfl, hk⟩ := fuel hk
  unfold impl_SplitEven.f
  simp only [impl_SplitEven.j0, if_true]
  by_cases h1 : g < 0
  · rw [if_pos h1, if_neg (by omega)]
  · rw [if_neg h1]
    by_cases h2 : g > 1000000
    · rw [if_pos h2, if_neg (by omega)]
    · rw [if_neg h2]
      by_cases h3 : m < 1
      · rw [if_pos h3, if_neg (by omega)]
      · rw [if_neg h3]
        by_cases h4 : m > 12
        · rw [decide_eq_true h4, if_pos rfl, if_neg (by omega)]
        · rw [decide_eq_false h4, if_neg (by decide), if_pos (by omega), if_pos (by omega), if_pos (by omega)]
          obtain ⟨m, rfl⟩ := Int.eq_ofNat_of_zero_le (show 0 ≤ m by omega)
          simp only [Option.bind_some, Int.toNat_natCast, List.length_replicate]
          have := implSplit_l0 g m (by omega) (by omega) (by omega) (by omega) m k 0 (by omega) (by omega)
          simpa using this
/-! ### payouts -/
/-- The part of member j, where w has none. -/
def posM (w j : Nat) : Nat := if j < w then j else j - 1
def payM (n w : Nat) (pot : Int) (parts : List Int) : List Int := (List.range n).map fun j => if j = w then pot - parts.sum else rd parts ((posM w j : Nat) : Int)
theorem payM_length (n w : Nat) (pot : Int) (parts : List Int) : (payM n w pot parts).length = n := by simp [payM]
theorem payM_rd {n w j : Nat} {pot : Int} {parts : List Int} (h : j < n) : rd (payM n w pot parts) (j : Int) = if j = w then pot - parts.sum else rd parts ((posM w j : Nat) : Int) := rd_mapRange h
theorem take_sum_bound {parts : List Int} {i : Nat} (hp : ∀ x ∈ parts, 0 ≤ x ∧ x ≤ 1000000) (hi : i ≤ 12) : 0 ≤ (parts.take i).sum ∧ (parts.take i).sum ≤ 12000000 := by
  have h1 := sum_bound (parts.take i) 0 1000000 (fun x hx => hp x (List.mem_of_mem_take hx))
  have h2 : (parts.take i).length ≤ 12 := by simp; omega
  have h3 : ((parts.take i).length : Int) * 1000000 ≤ 12 * 1000000 := Int.mul_le_mul_of_nonneg_right (by omega) (by omega)
  omega
theorem implPay_l0 (n w : Nat) (pot : Int) (parts : List Int) (hn : n ≤ 12) (hw : w < n) (hl : parts.length = n - 1) (hpot : 0 ≤ pot ∧ pot ≤ 120000) (hp : ∀ x ∈ parts, 0 ≤ x ∧ x ≤ 1000000) :
    ∀ (d k i : Nat) (x8 : List Int), i + d = parts.length → d < k → x8.length = n → x8.sum = pot → rd x8 (w : Int) = pot - (parts.take i).sum → (∀ j : Nat, j < n → j ≠ w → rd x8 (j : Int) = if posM w j < i then rd parts ((posM w j : Nat) : Int) else 0) →
    ∃ out, impl_PayoutsOf.l0 k (w : Int) x8 parts (parts.length : Int) (i : Int) = some out ∧ out = payM n w pot parts ∧ out.sum = pot := by
  intro d
  induction d with
  | zero =>
    intro k i x8 hi hk hx hs hxw hxj
    obtain ⟨k, rfl, -⟩ := fuel hk
    simp only [impl_PayoutsOf.l0]
    rw [if_neg (by omega)]
    refine ⟨x8, rfl, ?_, hs⟩
    apply ext_rd (by rw [payM_length, hx])
    intro j hj
    rw [payM_rd (by omega)]
    by_cases e : j = w
    · rw [if_pos e, e, hxw, List.take_of_length_le (by omega)]
    · rw [if_neg e, hxj j (by omega) e, if_pos (by unfold posM; split <;> omega)]
  | succ d ih =>
    intro k i x8 hi hk hx hs hxw hxj
    obtain ⟨k, rfl, hk⟩ := fuel hk
    have hpi := hp _ (rd_mem (xs := parts) (i := i) (by omega))
    have hts := take_sum_bound (parts := parts) (i := i) hp (by omega)
    have htk : (parts.take (i + 1)).sum = (parts.take i).sum + rd parts (i : Int) := by rw [take_rd (by omega), List.sum_append]; simp
    -- the member
    have key : ∀ q : Nat, q < n → q ≠ w → posM w q = i → ∃ out, impl_PayoutsOf.l0 k (w : Int) ((x8.set q (rd parts (i : Int))).set w (wrap64 (rd (x8.set q (rd parts (i : Int))) (w : Int) - rd parts (i : Int)))) parts (parts.length : Int) ((i + 1 : Nat) : Int) = some out ∧ out = payM n w pot parts ∧ out.sum = pot := by
      intro q hq hqw hqi
      have hz : rd x8 (q : Int) = 0 := by rw [hxj q hq hqw, hqi, if_neg (by omega)]
      rw [rd_set_ne hqw, hxw, wrap_id (by omega) (by omega)]
      refine ih k (i + 1) _ (by omega) (by omega) (by simpa using hx) ?_ ?_ ?_
      · rw [sum_set _ _ _ (by simp; omega), sum_set _ _ _ (by omega), rd_set_ne hqw, hs, hz, hxw]
        omega
      · rw [rd_set (by simp; omega), if_pos rfl, htk]; omega
      · intro j hj hjw
        rw [rd_set_ne (Ne.symm hjw), rd_set (by omega)]
        by_cases e : q = j
        · subst e
          rw [if_pos rfl, hqi, if_pos (by omega)]
        · rw [if_neg e, hxj j hj hjw]
          have hne : posM w j ≠ i := by
            intro h
            unfold posM at h hqi
            split at h <;> split at hqi <;> omega
          by_cases h5 : posM w j < i
          · rw [if_pos h5, if_pos (by omega)]
          · rw [if_neg h5, if_neg (by omega)]
    simp only [impl_PayoutsOf.l0]
    rw [if_pos (by omega), if_pos (by omega), if_pos (by omega), wrap_succ (by omega)]
    simp only [Option.bind_some, toNat_cast]
    by_cases h : (i : Int) ≥ (w : Int)
    · rw [if_pos h, if_pos (by omega), if_pos (by omega), if_pos (by omega), if_pos (by omega)]
      exact key (i + 1) (by omega) (by omega) (by unfold posM; rw [if_neg (by omega)]; omega)
    · rw [if_neg h, if_pos (by omega), if_pos (by omega), if_pos (by omega)]
      exact key i (by omega) (by omega) (by unfold posM; rw [if_pos (by omega)])
/-- What all get in a round. -/
def payoutsM (bids : List Int) (pay : Int) (done : List Int) : List Int :=
  if OkBids bids pay ∧ GoodM done (bids.length : Int) ∧ done.length < bids.length then
    payM bids.length (winM bids done bids 0 (-1)).toNat ((bids.length : Int) * pay) (splitM (max (rd bids (winM bids done bids 0 (-1))) 0) (bids.length - 1))
  else []
theorem payoutsM_pos {bids : List Int} {pay : Int} {done : List Int} (h : OkBids bids pay ∧ GoodM done (bids.length : Int) ∧ done.length < bids.length) :
    payoutsM bids pay done = payM bids.length (winM bids done bids 0 (-1)).toNat ((bids.length : Int) * pay) (splitM (max (rd bids (winM bids done bids 0 (-1))) 0) (bids.length - 1)) := if_pos h
theorem payoutsM_neg {bids : List Int} {pay : Int} {done : List Int} (h : ¬ (OkBids bids pay ∧ GoodM done (bids.length : Int) ∧ done.length < bids.length)) : payoutsM bids pay done = [] := if_neg h
theorem all_done {done : List Int} {n : Nat} (h : GoodM done (n : Int)) (hl : done.length = n) : ∀ j : Nat, j < n → (j : Int) ∈ done := by
  intro j hj
  by_cases hm : (j : Int) ∈ done
  · exact hm
  · have h2 : GoodM ((j : Int) :: done) (n : Int) := ⟨List.nodup_cons.2 ⟨hm, h.1⟩, fun x hx => by
      rcases List.mem_cons.1 hx with rfl | hx
      · omega
      · exact h.2 x hx⟩
    have := h2.le
    simp at this
    omega
theorem win_told {bids done : List Int} (hg : GoodM done (bids.length : Int)) (hl : done.length < bids.length) :
    0 ≤ winM bids done bids 0 (-1) ∧ winM bids done bids 0 (-1) < (bids.length : Int) ∧ winM bids done bids 0 (-1) ∉ done ∧
      ∀ j : Nat, j < bids.length → (j : Int) ∉ done → rd bids (j : Int) ≤ rd bids (winM bids done bids 0 (-1)) := by
  rcases winM_of bids done with h | h
  · obtain ⟨j, hj, hm⟩ := one_missing bids.length done hl
    exact absurd (h.2 j hj) hm
  · exact h
theorem win_none {bids done : List Int} (hg : GoodM done (bids.length : Int)) (hl : done.length = bids.length) : winM bids done bids 0 (-1) = -1 := by
  rcases winM_of bids done with h | h
  · exact h.1
  · have := all_done hg hl (winM bids done bids 0 (-1)).toNat (by omega)
    rw [Int.toNat_of_nonneg h.1] at this
    exact absurd this h.2.2.1
theorem gift_bound {bids : List Int} {pay : Int} (h : OkBids bids pay) {w : Int} (h0 : 0 ≤ w) (h1 : w < (bids.length : Int)) : 0 ≤ max (rd bids w) 0 ∧ max (rd bids w) 0 ≤ (bids.length : Int) * pay := by
  have h2 := h.2.2.2.2 _ (rd_mem' h0 h1)
  have := h.pot
  omega
theorem implPayouts_spec (k : Nat) (bids : List Int) (pay : Int) (done : List Int) (hb : bids.length < 1000000000) (hd : done.length < 1000000000) (hk : done.length + bids.length + 16 < k) :
    impl_PayoutsOf.f k bids pay done = some (payoutsM bids pay done) ∧ (OkBids bids pay ∧ GoodM done (bids.length : Int) ∧ done.length < bids.length → (payoutsM bids pay done).sum = (bids.length : Int) * pay) := by
  unfold impl_PayoutsOf.f
  rw [implWinner_spec _ _ _ _ hb hd (by omega)]
  simp only [Option.bind_some]
  by_cases h1 : OkBids bids pay ∧ GoodM done (bids.length : Int)
  · rw [if_pos h1]
    have hle := h1.2.le
    by_cases h2 : done.length < bids.length
    · rw [payoutsM_pos ⟨h1.1, h1.2, h2⟩]
      obtain ⟨w0, w1, w2, -⟩ := win_told h1.2 h2
      have hgift := gift_bound h1.1 w0 w1
      have hpot := h1.1.pot
      obtain ⟨n1, n2, p1, p2, -⟩ := h1.1
      obtain ⟨w, hw⟩ := Int.eq_ofNat_of_zero_le w0
      rw [hw] at w0 w1 hgift ⊢
      rw [if_neg (by omega), if_pos (by omega), if_pos (by omega), potOf_spec, if_pos ⟨n1, n2, p1, p2⟩]
      simp only [Option.bind_some, List.length_replicate, toNat_cast, mx_max]
      rw [if_pos (by omega), if_pos (by omega), if_pos (by omega), wrap_id (x := (bids.length : Int) - 1) (by omega) (by omega), implSplit_spec _ (by omega)]
      simp only [Option.bind_some]
      have hs : (if 0 ≤ max (rd bids (w : Int)) 0 ∧ max (rd bids (w : Int)) 0 ≤ 1000000 ∧ 1 ≤ (bids.length : Int) - 1 ∧ (bids.length : Int) - 1 ≤ 12 then splitM (max (rd bids (w : Int)) 0) ((bids.length : Int) - 1).toNat else []) = splitM (max (rd bids (w : Int)) 0) (bids.length - 1) := by
        have e : ((bids.length : Int) - 1).toNat = bids.length - 1 := by omega
        rw [e]
        by_cases h : 1 ≤ (bids.length : Int) - 1
        · rw [if_pos ⟨by omega, by omega, h, by omega⟩]
        · rw [if_neg (by omega)]
          have : bids.length - 1 = 0 := by omega
          rw [this]; rfl
      rw [hs]
      have hsum : ∀ x ∈ splitM (max (rd bids (w : Int)) 0) (bids.length - 1), 0 ≤ x ∧ x ≤ 1000000 := by
        intro x hx
        have hm : 0 < bids.length - 1 := by
          rcases Nat.eq_zero_or_pos (bids.length - 1) with h | h
          · rw [h] at hx; simp [splitM] at hx
          · exact h
        have := splitM_bound hm hgift.1 x hx
        omega
      have hz : (List.replicate bids.length (0 : Int)).length = bids.length := by simp
      obtain ⟨out, ho, he, hsm⟩ := implPay_l0 bids.length w ((bids.length : Int) * pay) (splitM (max (rd bids (w : Int)) 0) (bids.length - 1)) n2 (by omega) (splitM_length _ _) hpot hsum
        (bids.length - 1) k 0 ((List.replicate bids.length (0 : Int)).set w ((bids.length : Int) * pay)) (by rw [splitM_length]; omega) (by omega) (by simp)
        (by rw [sum_set _ _ _ (by simp; omega), sum_replicate0, rd_replicate (by omega)]; omega) (by rw [rd_set (by simp; omega), if_pos rfl]; simp)
        (fun j hj hjw => by rw [rd_set_ne (Ne.symm hjw), rd_replicate hj, if_neg (by omega)])
      rw [splitM_length] at ho
      have ho' : impl_PayoutsOf.l0 k (w : Int) ((List.replicate bids.length (0 : Int)).set w ((bids.length : Int) * pay)) (splitM (max (rd bids (w : Int)) 0) (bids.length - 1)) ((splitM (max (rd bids (w : Int)) 0) (bids.length - 1)).length : Int) 0 = some out := by
        rw [splitM_length]; exact ho
      rw [ho']
      exact ⟨by rw [he], fun _ => by rw [← he]; exact hsm⟩
    · rw [win_none h1.2 (by omega), if_pos (by omega), payoutsM_neg (fun h => h2 h.2.2)]
      exact ⟨rfl, fun h => absurd h.2.2 h2⟩
  · rw [if_neg h1, if_pos (by omega), payoutsM_neg (fun h => h1 ⟨h.1, h.2.1⟩)]
    exact ⟨rfl, fun h => absurd ⟨h.1, h.2.1⟩ h1⟩
/-! ### bidrounds -/
/-- A table of bids that is valid. -/
def OkTable (table : List (List Int)) (pay : Int) : Prop := 1 ≤ table.length ∧ table.length ≤ 12 ∧ 0 ≤ pay ∧ pay ≤ 10000 ∧ ∀ row ∈ table, row.length = table.length ∧ OkBids row pay
instance (table : List (List Int)) (pay : Int) : Decidable (OkTable table pay) := inferInstanceAs (Decidable (_ ∧ _))
theorem drop_rdL {xs : List (List Int)} {i : Nat} (h : i < xs.length) : xs.drop i = rd_L1 xs (i : Int) :: xs.drop (i + 1) := by
  have : rd_L1 xs (i : Int) = xs[i] := by simp [rd_L1, List.getD_eq_getElem?_getD, List.getElem?_eq_getElem h]
  rw [this, List.drop_eq_getElem_cons h]
theorem rdL_mem {xs : List (List Int)} {i : Nat} (h : i < xs.length) : rd_L1 xs (i : Int) ∈ xs := by
  have : rd_L1 xs (i : Int) = xs[i] := by simp [rd_L1, List.getD_eq_getElem?_getD, List.getElem?_eq_getElem h]
  rw [this]; exact List.getElem_mem h
theorem rdL_at {xs : List (List Int)} {i : Nat} (h : i < xs.length) : rd_L1 xs (i : Int) = xs[i] := by
  simp [rd_L1, List.getD_eq_getElem?_getD, List.getElem?_eq_getElem h]
/-- What two rows add up to. -/
def addM (n : Nat) (a b : List Int) : List Int := (List.range n).map fun j : Nat => rd a (j : Int) + rd b (j : Int)
theorem addM_length (n : Nat) (a b : List Int) : (addM n a b).length = n := by simp [addM]
theorem addM_rd {n j : Nat} {a b : List Int} (h : j < n) : rd (addM n a b) (j : Int) = rd a (j : Int) + rd b (j : Int) := rd_mapRange h
theorem addM_sum : ∀ (n : Nat) (a b : List Int), a.length = n → b.length = n → (addM n a b).sum = a.sum + b.sum := by
  intro n
  induction n with
  | zero => intro a b ha hb; rw [List.eq_nil_of_length_eq_zero ha, List.eq_nil_of_length_eq_zero hb]; rfl
  | succ n ih =>
    intro a b ha hb
    cases a with
    | nil => simp at ha
    | cons x a =>
      cases b with
      | nil => simp at hb
      | cons y b =>
        have h1 := ih a b (by simpa using ha) (by simpa using hb)
        have h2 : addM (n + 1) (x :: a) (y :: b) = (x + y) :: addM n a b := by
          apply ext_rd (by simp [addM])
          intro j hj
          rw [addM_length] at hj
          rw [addM_rd hj]
          cases j with
          | zero => simp [rd]
          | succ j =>
            have e : ∀ (z : Int) (l : List Int), rd (z :: l) ((j + 1 : Nat) : Int) = rd l (j : Int) := fun z l => by simp [rd]
            rw [e, e, e, addM_rd (by omega)]
        rw [h2, List.sum_cons, h1, List.sum_cons, List.sum_cons]
        omega
/-- All rounds: who gets the pot, and what all got. -/
def roundsM (n : Nat) (pay : Int) : List (List Int) → List Int → List Int → List Int × List Int
  | [], order, got => (order, got)
  | row :: rest, order, got => roundsM n pay rest (order ++ [winM row order row 0 (-1)]) (addM n got (payoutsM row pay order))
theorem payM_bounds {n w : Nat} {pot g : Int} (hw : w < n) (hg0 : 0 ≤ g) (hg1 : g ≤ pot) {j : Nat} (hj : j < n) : 0 ≤ rd (payM n w pot (splitM g (n - 1))) (j : Int) ∧ rd (payM n w pot (splitM g (n - 1))) (j : Int) ≤ pot := by
  rw [payM_rd hj]
  by_cases e : j = w
  · rw [if_pos e]
    rcases Nat.eq_zero_or_pos (n - 1) with h | h
    · rw [h]; simp [splitM]; omega
    · rw [splitM_sum h]; omega
  · rw [if_neg e]
    have h : 0 < n - 1 := by omega
    have hp : posM w j < n - 1 := by unfold posM; split <;> omega
    have := splitM_bound h hg0 _ (rd_mem (xs := splitM g (n - 1)) (i := posM w j) (by rw [splitM_length]; exact hp))
    omega
theorem payoutsM_facts {row order : List Int} {pay : Int} (h1 : OkBids row pay) (h2 : GoodM order (row.length : Int)) (h3 : order.length < row.length) :
    (payoutsM row pay order).length = row.length ∧ (∀ j : Nat, j < row.length → 0 ≤ rd (payoutsM row pay order) (j : Int) ∧ rd (payoutsM row pay order) (j : Int) ≤ (row.length : Int) * pay) ∧
    (∀ j : Nat, j < row.length → winM row order row 0 (-1) = (j : Int) → rd row (j : Int) ≤ 0 → rd (payoutsM row pay order) (j : Int) = (row.length : Int) * pay) ∧ (payoutsM row pay order).sum = (row.length : Int) * pay := by
  have hsum := (implPayouts_spec (order.length + row.length + 17) row pay order (by have := h1.2.1; omega) (by have := h1.2.1; omega) (by omega)).2 ⟨h1, h2, h3⟩
  refine ⟨?_, ?_, ?_, hsum⟩
  all_goals unfold payoutsM
  all_goals rw [if_pos ⟨h1, h2, h3⟩]
  · exact payM_length _ _ _ _
  all_goals obtain ⟨w0, w1, w2, -⟩ := win_told h2 h3
  all_goals have hgift := gift_bound h1 w0 w1
  · intro j hj
    exact payM_bounds (by omega) hgift.1 hgift.2 hj
  · intro j hj hwj hb
    rw [hwj] at hgift ⊢
    rw [Int.toNat_natCast, payM_rd hj, if_pos rfl]
    have : max (rd row (j : Int)) 0 = 0 := by omega
    rw [this]
    rcases Nat.eq_zero_or_pos (row.length - 1) with h | h
    · rw [h]; simp [splitM]
    · rw [splitM_sum h]; omega
theorem good_snoc {order : List Int} {n : Nat} {w : Int} (h : GoodM order (n : Int)) (h0 : 0 ≤ w) (h1 : w < (n : Int)) (h2 : w ∉ order) : GoodM (order ++ [w]) (n : Int) := by
  refine ⟨?_, ?_⟩
  · rw [List.nodup_append]
    refine ⟨h.1, by simp, ?_⟩
    intro a ha b hb e
    simp at hb
    subst hb
    exact h2 (e ▸ ha)
  · intro x hx
    rcases List.mem_append.1 hx with hx | hx
    · exact h.2 x hx
    · simp at hx; subst hx; exact ⟨h0, h1⟩
theorem roundsM_facts (n : Nat) (pay : Int) (hn : 1 ≤ n) (hpay : 0 ≤ pay) : ∀ (rest : List (List Int)) (order got : List Int), (∀ row ∈ rest, row.length = n ∧ OkBids row pay) → GoodM order (n : Int) → order.length + rest.length ≤ n → got.length = n →
    (roundsM n pay rest order got).1.length = order.length + rest.length ∧ GoodM (roundsM n pay rest order got).1 (n : Int) ∧ (roundsM n pay rest order got).2.length = n ∧
    (roundsM n pay rest order got).2.sum = got.sum + (rest.length : Int) * ((n : Int) * pay) ∧
    (∀ j : Nat, j < n → rd got (j : Int) ≤ rd (roundsM n pay rest order got).2 (j : Int)) ∧
    (∀ x ∈ order, x ∈ (roundsM n pay rest order got).1) ∧
    (∀ j : Nat, j < n → (j : Int) ∈ (roundsM n pay rest order got).1 → (j : Int) ∉ order → (∀ row ∈ rest, rd row (j : Int) ≤ 0) → rd got (j : Int) + (n : Int) * pay ≤ rd (roundsM n pay rest order got).2 (j : Int)) := by
  intro rest
  induction rest with
  | nil =>
    intro order got _ hg _ hl
    simp only [roundsM]
    refine ⟨by simp, hg, hl, by simp, fun j _ => Int.le_refl _, fun x hx => hx, fun j _ h1 h2 _ => absurd h1 h2⟩
  | cons row rest ih =>
    intro order got hrows hg hle hl
    simp only [roundsM, List.length_cons] at *
    have hrow := hrows row (by simp)
    have hgr : GoodM order (row.length : Int) := by rw [hrow.1]; exact hg
    have hlt : order.length < row.length := by omega
    obtain ⟨w0, w1, w2, -⟩ := win_told hgr hlt
    obtain ⟨p1, p2, p3, p4⟩ := payoutsM_facts hrow.2 hgr hlt
    rw [hrow.1] at w1 p1 p2 p3 p4
    have hpot : 0 ≤ (n : Int) * pay := Int.mul_nonneg (by omega) hpay
    obtain ⟨a1, a2, a3, a4, a5, a6, a7⟩ := ih (order ++ [winM row order row 0 (-1)]) (addM n got (payoutsM row pay order)) (fun r hr => hrows r (by simp [hr])) (good_snoc hg w0 w1 w2) (by simp; omega) (addM_length _ _ _)
    refine ⟨by rw [a1]; simp; omega, a2, a3, ?_, ?_, ?_, ?_⟩
    · rw [a4, addM_sum n _ _ hl p1, p4]
      have : ((rest.length + 1 : Nat) : Int) * ((n : Int) * pay) = (rest.length : Int) * ((n : Int) * pay) + (n : Int) * pay := by push_cast; rw [Int.add_mul]; omega
      rw [this]; omega
    · intro j hj
      have := a5 j hj
      rw [addM_rd hj] at this
      have := p2 j hj
      omega
    · intro x hx
      exact a6 x (by simp [hx])
    · intro j hj hjm hjo hfree
      by_cases e : winM row order row 0 (-1) = (j : Int)
      · have := a5 j hj
        rw [addM_rd hj, p3 j hj e (hfree row (by simp))] at this
        exact this
      · have := a7 j hj hjm (by
          intro h
          rcases List.mem_append.1 h with h | h
          · exact hjo h
          · simp at h; exact e h.symm) (fun r hr => hfree r (by simp [hr]))
        rw [addM_rd hj] at this
        have := p2 j hj
        omega
theorem roundsM_upper (n : Nat) (pay : Int) (hn : 1 ≤ n) (hpay : 0 ≤ pay) : ∀ (rest : List (List Int)) (order got : List Int), (∀ row ∈ rest, row.length = n ∧ OkBids row pay) → GoodM order (n : Int) → order.length + rest.length ≤ n → got.length = n →
    ∀ j : Nat, j < n → rd (roundsM n pay rest order got).2 (j : Int) ≤ rd got (j : Int) + (rest.length : Int) * ((n : Int) * pay) := by
  intro rest
  induction rest with
  | nil => intro order got _ _ _ _ j _; simp [roundsM]
  | cons row rest ih =>
    intro order got hrows hg hle hl j hj
    simp only [roundsM, List.length_cons] at *
    have hrow := hrows row (by simp)
    have hgr : GoodM order (row.length : Int) := by rw [hrow.1]; exact hg
    have hlt : order.length < row.length := by omega
    obtain ⟨w0, w1, w2, -⟩ := win_told hgr hlt
    obtain ⟨p1, p2, p3, p4⟩ := payoutsM_facts hrow.2 hgr hlt
    rw [hrow.1] at w1 p1 p2 p3 p4
    have := ih (order ++ [winM row order row 0 (-1)]) (addM n got (payoutsM row pay order)) (fun r hr => hrows r (by simp [hr])) (good_snoc hg w0 w1 w2) (by simp; omega) (addM_length _ _ _) j hj
    rw [addM_rd hj] at this
    have h2 := p2 j hj
    have : ((rest.length + 1 : Nat) : Int) * ((n : Int) * pay) = (rest.length : Int) * ((n : Int) * pay) + (n : Int) * pay := by push_cast; rw [Int.add_mul]; omega
    omega
/-- The program's rounds: what is added in one. -/
theorem implRounds_l2 (n : Nat) (pay : Int) (order row : List Int) (table : List (List Int)) (i : Nat) (t got : List Int) (r : List Int × List Int) (hn : n ≤ 12) (hi : i < 100) (ht : t.length = n) (hrow : row.length = n) (hok : OkBids row pay) (hg : GoodM order (n : Int))
    (htb : ∀ j : Nat, j < n → -10000000 ≤ rd t (j : Int) ∧ rd t (j : Int) ≤ 10000000) (hgb : ∀ j : Nat, j < n → -100000000 ≤ rd got (j : Int) ∧ rd got (j : Int) ≤ 100000000) (k : Nat) (hk : order.length + row.length + 20 < k)
    (h : impl_bidRounds.l1 k pay (order ++ [winM row order row 0 (-1)]) (addM n got t) table (table.length : Int) ((i + 1 : Nat) : Int) = some r) :
    ∀ (d j : Nat) (x9 : List Int), j + d = n → x9.length = n → (∀ q : Nat, q < n → rd x9 (q : Int) = if q < j then rd got (q : Int) + rd t (q : Int) else rd got (q : Int)) →
    impl_bidRounds.l2 (k + d + 1) pay order x9 row table (table.length : Int) (i : Int) t (n : Int) (j : Int) = some r := by
  have hle := hg.le
  intro d
  induction d with
  | zero =>
    intro j x9 hj hx hq
    simp only [impl_bidRounds.l2]
    rw [if_neg (by omega), implWinner_spec _ _ _ _ (by omega) (by omega) (by omega), if_pos ⟨hok, by rw [hrow]; exact hg⟩]
    simp only [Option.bind_some, Nat.add_zero]
    rw [if_pos (by omega), wrap_succ (by omega)]
    have : x9 = addM n got t := by
      apply ext_rd (by rw [addM_length, hx])
      intro q hq2
      rw [addM_rd (by omega), hq q (by omega), if_pos (by omega)]
    rw [this]
    exact h
  | succ d ih =>
    intro j x9 hj hx hq
    have e : k + (d + 1) + 1 = (k + d + 1) + 1 := by omega
    rw [e]
    simp only [impl_bidRounds.l2]
    have h1 := htb j (by omega)
    have h2 := hgb j (by omega)
    have h3 := hq j (by omega)
    rw [if_neg (by omega)] at h3
    rw [if_pos (by omega), if_pos (by omega), if_pos (by omega), if_pos (by omega), wrap_succ (by omega), wrap_id (x := rd x9 (j : Int) + rd t (j : Int)) (by omega) (by omega), toNat_cast]
    refine ih (j + 1) _ (by omega) (by simpa using hx) ?_
    intro q hq2
    rw [rd_set (by omega)]
    by_cases e2 : j = q
    · subst e2
      rw [if_pos rfl, if_pos (by omega), h3]
    · rw [if_neg e2, hq q hq2]
      by_cases e3 : q < j
      · rw [if_pos e3, if_pos (by omega)]
      · rw [if_neg e3, if_neg (by omega)]
theorem implRounds_l1 (n : Nat) (pay : Int) (table : List (List Int)) (hn0 : 1 ≤ n) (hn : n ≤ 12) (hp0 : 0 ≤ pay) (hp1 : pay ≤ 10000) (hl : table.length = n) (hrows : ∀ row ∈ table, row.length = n ∧ OkBids row pay) :
    ∀ (d k i : Nat) (order got : List Int), i + d = n → order.length = i → GoodM order (n : Int) → got.length = n → (∀ j : Nat, j < n → 0 ≤ rd got (j : Int) ∧ rd got (j : Int) ≤ (i : Int) * 120000) → 20 * d + 60 < k →
    impl_bidRounds.l1 k pay order got table (table.length : Int) (i : Int) = some (roundsM n pay (table.drop i) order got) := by
  intro d
  induction d with
  | zero =>
    intro k i order got hi ho hg hgl hgb hk
    obtain ⟨k, rfl, -⟩ := fuel (show 0 < k by omega)
    simp only [impl_bidRounds.l1]
    rw [if_neg (by omega), drop_end (by omega)]
    rfl
  | succ d ih =>
    intro k i order got hi ho hg hgl hgb hk
    obtain ⟨k, rfl, hk⟩ := fuel (show 20 * (d + 1) + 60 < k by omega)
    simp only [impl_bidRounds.l1]
    rw [if_pos (by omega), if_pos (by omega), if_pos (by omega), drop_rdL (by omega)]
    have hrow := hrows _ (rdL_mem (xs := table) (i := i) (by omega))
    generalize hre : rd_L1 table (i : Int) = row at hrow ⊢
    have hgr : GoodM order (row.length : Int) := by rw [hrow.1]; exact hg
    rw [(implPayouts_spec k row pay order (by omega) (by omega) (by omega)).1]
    simp only [Option.bind_some, roundsM]
    obtain ⟨p1, p2, p3, p4⟩ := payoutsM_facts hrow.2 hgr (by omega)
    obtain ⟨w0, w1, w2, -⟩ := win_told hgr (by omega)
    rw [hrow.1] at p1 p2 w1
    have hpot := pot_bound hn0 hn hp0 hp1
    have hk2 : k = (k - n - 1) + n + 1 := by omega
    rw [p1, hk2]
    refine implRounds_l2 n pay order row table i (payoutsM row pay order) got _ hn (by omega) p1 hrow.1 hrow.2 hg (fun j hj => by have := p2 j hj; omega) (fun j hj => by have := hgb j hj; omega) (k - n - 1) (by omega) ?_ n 0 got (by omega) hgl (fun q hq => by rw [if_neg (by omega)])
    refine ih (k - n - 1) (i + 1) _ _ (by omega) (by simp; omega) (good_snoc hg w0 w1 w2) (addM_length _ _ _) ?_ (by omega)
    intro j hj
    rw [addM_rd hj]
    have := p2 j hj
    have := hgb j hj
    push_cast
    omega
theorem implRounds_l0 (n : Nat) (pay : Int) (table : List (List Int)) (hn0 : 1 ≤ n) (hn : n ≤ 12) (hp0 : 0 ≤ pay) (hp1 : pay ≤ 10000) (hl : table.length = n) (hsz : ∀ row ∈ table, row.length ≤ 1048576) :
    ∀ (d k i : Nat), i + d = n → (∀ j : Nat, j < i → (rd_L1 table (j : Int)).length = n ∧ OkBids (rd_L1 table (j : Int)) pay) → 20 * n + d + 70 < k →
    impl_bidRounds.l0 k table pay table (table.length : Int) (i : Int) = some (if OkTable table pay then roundsM n pay table [] (List.replicate n 0) else ([], [])) := by
  intro d
  induction d with
  | zero =>
    intro k i hi hok hk
    obtain ⟨k, rfl, hk⟩ := fuel (show 20 * n + 0 + 70 < k by omega)
    have hrows : ∀ row ∈ table, row.length = n ∧ OkBids row pay := by
      intro row hr
      obtain ⟨j, hj, rfl⟩ := List.getElem_of_mem hr
      have := hok j (by omega)
      rwa [rdL_at hj] at this
    have hT : OkTable table pay := ⟨by omega, by omega, hp0, hp1, fun row hr => by rw [hl]; exact hrows row hr⟩
    simp only [impl_bidRounds.l0]
    rw [if_neg (by omega), if_pos (by omega), if_pos (by omega), if_pos hT]
    have := implRounds_l1 n pay table hn0 hn hp0 hp1 hl hrows n k 0 [] (List.replicate n 0) (by omega) rfl ⟨by simp, by simp⟩ (by simp) (fun j hj => by rw [rd_replicate hj]; simp) (by omega)
    rw [hl] at this ⊢
    simpa using this
  | succ d ih =>
    intro k i hi hok hk
    obtain ⟨k, rfl, hk⟩ := fuel (show 20 * n + (d + 1) + 70 < k by omega)
    simp only [impl_bidRounds.l0]
    rw [if_pos (by omega), if_pos (by omega), if_pos (by omega)]
    have hm := rdL_mem (xs := table) (i := i) (by omega)
    have hs := hsz _ hm
    by_cases h1 : (rd_L1 table (i : Int)).length = table.length
    · rw [if_pos (by omega), implValidBids_spec _ _ _ (by omega) (by omega)]
      simp only [Option.bind_some]
      by_cases h2 : OkBids (rd_L1 table (i : Int)) pay
      · rw [decide_eq_true h2, if_pos rfl, wrap_succ (by omega)]
        refine ih k (i + 1) (by omega) ?_ (by omega)
        intro j hj
        rcases Nat.lt_or_ge j i with h | h
        · exact hok j h
        · obtain rfl : j = i := by omega
          exact ⟨by omega, h2⟩
      · rw [decide_eq_false h2, if_neg (by decide), if_neg (fun h => h2 (h.2.2.2.2 _ hm).2)]
    · rw [if_neg (by omega), if_neg (fun h => h1 (h.2.2.2.2 _ hm).1)]
theorem implRounds_spec (k : Nat) (table : List (List Int)) (pay : Int) (hl : table.length ≤ 1048576) (hsz : ∀ row ∈ table, row.length ≤ 1048576) (hk : 400 < k) :
    impl_bidRounds.f k table pay = some (if OkTable table pay then roundsM table.length pay table [] (List.replicate table.length 0) else ([], [])) := by
  unfold impl_bidRounds.f
  rw [potOf_spec]
  simp only [Option.bind_some]
  by_cases h : 1 ≤ table.length ∧ table.length ≤ 12 ∧ 0 ≤ pay ∧ pay ≤ 10000
  · rw [if_pos h]
    have hp := pot_bound h.1 h.2.1 h.2.2.1 h.2.2.2
    rw [if_neg (by omega)]
    exact implRounds_l0 table.length pay table h.1 h.2.1 h.2.2.1 h.2.2.2 rfl hsz table.length k 0 (by omega) (fun j hj => by omega) (by omega)
  · rw [if_neg h, if_pos (by omega), if_neg (fun h2 => h ⟨h2.1, h2.2.1, h2.2.2.1, h2.2.2.2.1⟩)]

/-! ### validtable -/
theorem specValidTable_l0 (table : List (List Int)) (pay : Int) (hl : table.length ≤ 12) : ∀ (d k i : Nat), i + d = table.length → d + 20 < k →
    spec_validTable.l0 k table pay (i : Int) = some (decide (∀ row ∈ table.drop i, row.length = table.length ∧ OkBids row pay)) := by
  intro d
  induction d with
  | zero =>
    intro k i hi hk
    obtain ⟨k, rfl, -⟩ := fuel (show 0 < k by omega)
    simp only [spec_validTable.l0]
    rw [if_neg (by omega), drop_end (by omega)]
    simp
  | succ d ih =>
    intro k i hi hk
    obtain ⟨k, rfl, hk⟩ := fuel (show d + 20 < k by omega)
    simp only [spec_validTable.l0]
    rw [if_pos (by omega), if_pos (by omega), drop_rdL (by omega), wrap_succ (by omega)]
    by_cases h1 : (rd_L1 table (i : Int)).length = table.length
    · rw [if_pos (by omega), specValidBids_spec _ _ _ (by omega) (by omega)]
      simp only [Option.bind_some]
      by_cases h2 : OkBids (rd_L1 table (i : Int)) pay
      · rw [decide_eq_true h2, if_pos rfl, ih k (i + 1) (by omega) (by omega)]
        simp [h1, h2]
      · rw [decide_eq_false h2, if_neg (by decide)]
        simp [h2]
    · rw [if_neg (by omega)]
      simp [h1]
theorem specValidTable_spec (k : Nat) (table : List (List Int)) (pay : Int) (hk : 40 < k) : spec_validTable.f k table pay = some (decide (OkTable table pay)) := by
  unfold spec_validTable.f
  rw [inRange_spec]
  simp only [Option.bind_some]
  by_cases h1 : 1 ≤ (table.length : Int) ∧ (table.length : Int) ≤ 12
  · rw [decide_eq_true h1, if_pos rfl]
    have := specValidTable_l0 table pay (by omega) table.length k 0 (by omega) (by omega)
    rw [List.drop_zero] at this
    rw [show (0 : Int) = ((0 : Nat) : Int) from rfl, this]
    congr 1
    rw [decide_eq_decide]
    constructor
    · intro h
      have h0 : 0 < table.length := by omega
      have hb := (h _ (List.getElem_mem h0)).2
      exact ⟨by omega, by omega, hb.2.2.1, hb.2.2.2.1, h⟩
    · intro h; exact h.2.2.2.2
  · rw [decide_eq_false h1, if_neg (by decide), decide_eq_false]
    intro h
    exact h1 ⟨by have := h.1; omega, by have := h.2.1; omega⟩

/-! ### exactints -/
theorem toIntS_l0 (xs : List Int) (hb : xs.length < 4611686018427387904) : ∀ (d k i : Nat), i + d = xs.length → d < k → laws_toIntS.l0 k xs (xs.take i ++ List.replicate d 0) (i : Int) = some xs := by
  intro d
  induction d with
  | zero =>
    intro k i hi hk
    obtain ⟨k, rfl, -⟩ := fuel hk
    have e : xs.take i = xs := List.take_of_length_le (by omega)
    simp only [laws_toIntS.l0]
    rw [if_neg (by omega), e]; simp
  | succ d ih =>
    intro k i hi hk
    obtain ⟨k, rfl, hk⟩ := fuel hk
    have hti : (xs.take i).length = i := by simp; omega
    have := ih k (i + 1) (by omega) (by omega)
    rw [take_rd (by omega)] at this
    simp only [laws_toIntS.l0]
    rw [if_pos (by omega), if_pos (by omega), if_pos (by simp; omega), toNat_cast, set_fill' hti, wrap_succ (by omega)]
    exact this
theorem toIntS_spec (k : Nat) (xs : List Int) (hb : xs.length ≤ 35184372088832) (hk : xs.length < k) : laws_toIntS.f k xs = some xs := by
  unfold laws_toIntS.f
  have := toIntS_l0 xs (by omega) xs.length k 0 (by omega) hk
  rw [if_pos (by omega), if_pos (by simpa using hb), toNat_cast]
  simpa using this
theorem eqIntS_l0 (a b : List Int) (hl : a.length = b.length) (hb : a.length < 4611686018427387904) : ∀ (d k i : Nat), i + d = a.length → d < k → laws_eqIntS.l0 k a b (i : Int) = some (decide (a.drop i = b.drop i)) := by
  intro d
  induction d with
  | zero =>
    intro k i hi hk
    obtain ⟨k, rfl, -⟩ := fuel hk
    simp only [laws_eqIntS.l0]
    rw [if_neg (by omega), drop_end (by omega), drop_end (by omega)]
    simp
  | succ d ih =>
    intro k i hi hk
    obtain ⟨k, rfl, hk⟩ := fuel hk
    simp only [laws_eqIntS.l0]
    rw [if_pos (by omega), if_pos (by omega), if_pos (by omega), wrap_succ (by omega), drop_rd (xs := a) (i := i) (by omega), drop_rd (xs := b) (i := i) (by omega)]
    by_cases e : rd a (i : Int) = rd b (i : Int)
    · rw [if_pos e, ih k (i + 1) (by omega) (by omega), e]; simp
    · rw [if_neg e]; simp [e]
theorem eqIntS_spec (k : Nat) (a b : List Int) (hb : a.length < 4611686018427387904) (hk : a.length < k) : laws_eqIntS.f k a b = some (decide (a = b)) := by
  unfold laws_eqIntS.f
  by_cases h : a.length = b.length
  · first | rw [if_pos (by omega)] | rw [if_neg (by omega)]
    have := eqIntS_l0 a b h hb a.length k 0 (by omega) hk
    simpa using this
  · first | rw [if_neg (by omega)] | rw [if_pos (by omega)]
    have : a ≠ b := fun e => h (by rw [e])
    simp [this]

/-! ### marks -/
/-- Numbers one after the other. -/
def markI (n : Nat) (a : Int) : List Int := (List.range n).map fun i : Nat => a + (i : Int)
theorem markI_length (n : Nat) (a : Int) : (markI n a).length = n := by simp [markI]
theorem markI_succ (n : Nat) (a : Int) : markI (n + 1) a = markI n a ++ [a + (n : Int)] := by simp [markI, List.range_succ]
theorem markI_rd {n i : Nat} (a : Int) (h : i < n) : rd (markI n a) (i : Int) = a + (i : Int) := by rw [markI, rd_mapRange h]
theorem markIntS_l0 (xs : List Int) (a : Int) (ha : 0 ≤ a ∧ a ≤ 1000000000) (hb : xs.length ≤ 1000000000) : ∀ (d k i : Nat), i + d = xs.length → d < k → laws_markIntS.l0 k (markI i a ++ xs.drop i) (a + (i : Int)) (i : Int) = some (a + (xs.length : Int), markI xs.length a) := by
  intro d
  induction d with
  | zero =>
    intro k i hi hk
    obtain ⟨k, rfl, -⟩ := fuel hk
    simp only [laws_markIntS.l0]
    rw [if_neg (by rw [List.length_append, markI_length, List.length_drop]; omega), drop_end (by omega), List.append_nil, show i = xs.length by omega]
  | succ d ih =>
    intro k i hi hk
    obtain ⟨k, rfl, hk⟩ := fuel hk
    simp only [laws_markIntS.l0]
    rw [if_pos (by rw [List.length_append, markI_length, List.length_drop]; omega), if_pos (by omega), toNat_cast, wrap_succ (by omega), wrap_id (by omega) (by omega)]
    have := ih k (i + 1) (by omega) (by omega)
    have e : (markI i a ++ xs.drop i).set i (a + (i : Int)) = markI (i + 1) a ++ xs.drop (i + 1) := by
      rw [drop_rd (by omega), markI_succ, List.set_append_right _ _ (by rw [markI_length]; omega), markI_length, Nat.sub_self, List.set_cons_zero, List.append_assoc]
      rfl
    rw [e, show a + (i : Int) + 1 = a + ((i + 1 : Nat) : Int) by omega]
    exact this
theorem markIntS_spec (k : Nat) (xs : List Int) (a : Int) (ha : 0 ≤ a ∧ a ≤ 1000000000) (hb : xs.length ≤ 1000000000) (hk : xs.length < k) : laws_markIntS.f k xs a = some (a + (xs.length : Int), markI xs.length a) := by
  unfold laws_markIntS.f
  have := markIntS_l0 xs a ha hb xs.length k 0 (by omega) hk
  simpa [markI] using this
theorem heldIntS_l0 (n : Nat) (a : Int) (ha : 0 ≤ a ∧ a ≤ 1000000000) (hb : n ≤ 1000000000) : ∀ (d k i : Nat), i + d = n → d < k → laws_heldIntS.l0 k (markI n a) (a + (i : Int)) (i : Int) = some (a + (n : Int)) := by
  intro d
  induction d with
  | zero =>
    intro k i hi hk
    obtain ⟨k, rfl, -⟩ := fuel hk
    simp only [laws_heldIntS.l0]
    rw [if_neg (by rw [markI_length]; omega), show i = n by omega]
  | succ d ih =>
    intro k i hi hk
    obtain ⟨k, rfl, hk⟩ := fuel hk
    simp only [laws_heldIntS.l0]
    rw [if_pos (by rw [markI_length]; omega), if_pos (by omega), if_pos (markI_rd a (by omega)), wrap_succ (by omega), wrap_id (by omega) (by omega)]
    have := ih k (i + 1) (by omega) (by omega)
    rw [show a + (i : Int) + 1 = a + ((i + 1 : Nat) : Int) by omega]
    exact this
theorem heldIntS_spec (k n : Nat) (a : Int) (ha : 0 ≤ a ∧ a ≤ 1000000000) (hb : n ≤ 1000000000) (hk : n < k) : laws_heldIntS.f k (markI n a) a = some (a + (n : Int)) := by
  unfold laws_heldIntS.f
  have := heldIntS_l0 n a ha hb n k 0 (by omega) hk
  simpa using this

/-! ### exactintss -/
theorem rdI_at {xs : List (List Int)} {i : Nat} (h : i < xs.length) : rd_L1 xs (i : Int) = xs[i] := by
  simp [rd_L1, List.getD_eq_getElem?_getD, List.getElem?_eq_getElem h]
theorem rdI_mem {xs : List (List Int)} {i : Nat} (h : i < xs.length) : rd_L1 xs (i : Int) ∈ xs := by
  rw [rdI_at h]; exact List.getElem_mem h
theorem dropI {xs : List (List Int)} {i : Nat} (h : i < xs.length) : xs.drop i = rd_L1 xs (i : Int) :: xs.drop (i + 1) := by
  rw [rdI_at h]; exact List.drop_eq_getElem_cons h
theorem takeI {xs : List (List Int)} {i : Nat} (h : i < xs.length) : xs.take (i + 1) = xs.take i ++ [rd_L1 xs (i : Int)] := by
  rw [rdI_at h, List.take_succ_eq_append_getElem h]
/-- How many numbers stand in rows. -/
def totL (xs : List (List Int)) : Nat := (xs.map List.length).sum
theorem totL_mem {xs : List (List Int)} {x : List Int} (h : x ∈ xs) : x.length ≤ totL xs := by
  induction xs with
  | nil => cases h
  | cons y ys ih =>
    simp only [totL, List.map_cons, List.sum_cons] at ih ⊢
    rcases List.mem_cons.1 h with rfl | h
    · omega
    · have := ih h; omega
theorem szIntSS_l0 (xs : List (List Int)) (hx : ∀ x ∈ xs, x.length ≤ maxLen) (hb : xs.length ≤ 1048576) : ∀ (d k i : Nat) (a : Int), i + d = xs.length → d < k → 0 ≤ a → a ≤ 1048576 → ∃ r, laws_szIntSS.l0 k xs a (i : Int) = some r ∧ (0 ≤ r → (totL (xs.drop i) : Int) ≤ a) := by
  have hm : maxLen ≤ 9223372036854775807 := by decide
  intro d
  induction d with
  | zero =>
    intro k i a hi hk h0 h1
    obtain ⟨k, rfl, -⟩ := fuel hk
    simp only [laws_szIntSS.l0]
    rw [if_neg (by omega), List.drop_eq_nil_of_le (by omega)]
    exact ⟨a, rfl, fun _ => by simpa [totL] using h0⟩
  | succ d ih =>
    intro k i a hi hk h0 h1
    obtain ⟨k, rfl, hk⟩ := fuel hk
    have hl := hx _ (rdI_mem (xs := xs) (i := i) (by omega))
    simp only [laws_szIntSS.l0, laws_szIntS.f]
    rw [if_pos (by omega), if_pos (by omega), wrap_id (by omega) (by omega)]
    by_cases h2 : a - ((rd_L1 xs (i : Int)).length : Int) < 0
    · rw [if_pos h2, Option.bind_some, if_pos (by omega)]
      exact ⟨_, rfl, fun h => by omega⟩
    · rw [if_neg h2, Option.bind_some, if_neg (by omega), wrap_succ (by omega)]
      obtain ⟨r, hr, hr2⟩ := ih k (i + 1) (a - ((rd_L1 xs (i : Int)).length : Int)) (by omega) (by omega) (by omega) (by omega)
      refine ⟨r, hr, fun h => ?_⟩
      have := hr2 h
      rw [dropI (by omega)]
      simp only [totL, List.map_cons, List.sum_cons] at this ⊢
      omega
theorem szIntSS_spec (k : Nat) (xs : List (List Int)) (h : xs.length ≤ maxLen) (hx : ∀ x ∈ xs, x.length ≤ maxLen) (hk : 1048600 < k) : ∃ r, laws_szIntSS.f k xs 1048576 = some r ∧ (0 ≤ r → xs.length ≤ 1048576 ∧ totL xs ≤ 1048576) := by
  have hm : maxLen ≤ 9223372036854775807 := by decide
  unfold laws_szIntSS.f
  rw [wrap_id (by omega) (by omega)]
  by_cases h1 : 1048576 - (xs.length : Int) < 0
  · rw [if_pos h1]
    exact ⟨_, rfl, fun h => by omega⟩
  · rw [if_neg h1]
    obtain ⟨r, hr, hr2⟩ := szIntSS_l0 xs hx (by omega) xs.length k 0 (1048576 - (xs.length : Int)) (by omega) (by omega) (by omega) (by omega)
    refine ⟨r, hr, fun h => ?_⟩
    have := hr2 h
    rw [List.drop_zero] at this
    omega
theorem toIntSS_l0 (xs : List (List Int)) (hb : xs.length ≤ 1048576) (ht : totL xs ≤ 1048576) : ∀ (d k i : Nat), i + d = xs.length → d + 1048600 < k → laws_toIntSS.l0 k xs (xs.take i ++ List.replicate d []) (i : Int) = some xs := by
  intro d
  induction d with
  | zero =>
    intro k i hi hk
    obtain ⟨k, rfl, -⟩ := fuel hk
    have e : xs.take i = xs := List.take_of_length_le (by omega)
    simp only [laws_toIntSS.l0]
    rw [if_neg (by omega), e]; simp
  | succ d ih =>
    intro k i hi hk
    obtain ⟨k, rfl, hk⟩ := fuel hk
    have hti : (xs.take i).length = i := by simp; omega
    have hl := totL_mem (rdI_mem (xs := xs) (i := i) (by omega))
    have := ih k (i + 1) (by omega) (by omega)
    rw [takeI (by omega)] at this
    simp only [laws_toIntSS.l0]
    rw [if_pos (by omega), if_pos (by omega), toIntS_spec _ _ (by omega) (by omega), Option.bind_some, if_pos (by simp; omega), toNat_cast, set_fill' hti, wrap_succ (by omega)]
    exact this
theorem toIntSS_spec (k : Nat) (xs : List (List Int)) (hb : xs.length ≤ 1048576) (ht : totL xs ≤ 1048576) (hk : 2097200 < k) : laws_toIntSS.f k xs = some xs := by
  unfold laws_toIntSS.f
  have := toIntSS_l0 xs hb ht xs.length k 0 (by omega) (by omega)
  rw [if_pos (by omega), toNat_cast, if_pos (by omega)]
  simpa using this
theorem eqIntSS_l0 (xs : List (List Int)) (hb : xs.length ≤ 1048576) (ht : totL xs ≤ 1048576) : ∀ (d k i : Nat), i + d = xs.length → d + 1048600 < k → laws_eqIntSS.l0 k xs xs (i : Int) = some true := by
  intro d
  induction d with
  | zero =>
    intro k i hi hk
    obtain ⟨k, rfl, -⟩ := fuel hk
    simp only [laws_eqIntSS.l0]
    rw [if_neg (by omega)]
  | succ d ih =>
    intro k i hi hk
    obtain ⟨k, rfl, hk⟩ := fuel hk
    have hl := totL_mem (rdI_mem (xs := xs) (i := i) (by omega))
    simp only [laws_eqIntSS.l0]
    rw [if_pos (by omega), if_pos (by omega), if_pos (by omega), eqIntS_spec _ _ _ (by omega) (by omega), Option.bind_some, if_pos (by simp), wrap_succ (by omega)]
    exact ih k (i + 1) (by omega) (by omega)
theorem eqIntSS_self (k : Nat) (xs : List (List Int)) (hb : xs.length ≤ 1048576) (ht : totL xs ≤ 1048576) (hk : 2097200 < k) : laws_eqIntSS.f k xs xs = some true := by
  unfold laws_eqIntSS.f
  rw [if_pos rfl]
  exact eqIntSS_l0 xs hb ht xs.length k 0 (by omega) (by omega)
theorem markIntSS_l0 : ∀ (d k i : Nat) (xs : List (List Int)) (a : Int), xs.length ≤ 1048576 → i + d = xs.length → 1048600 + d < k → 0 ≤ a → a + (totL (xs.drop i) : Int) ≤ 100000000 → totL (xs.drop i) ≤ 1048576 → ∃ r, laws_markIntSS.l0 k xs a (i : Int) = some r ∧ 0 ≤ r := by
  intro d
  induction d with
  | zero =>
    intro k i xs a hb hi hk h0 h1 h2
    obtain ⟨k, rfl, -⟩ := fuel hk
    simp only [laws_markIntSS.l0]
    rw [if_neg (by omega)]
    exact ⟨a, rfl, h0⟩
  | succ d ih =>
    intro k i xs a hb hi hk h0 h1 h2
    obtain ⟨k, rfl, hk⟩ := fuel hk
    rw [dropI (by omega)] at h1 h2
    simp only [totL, List.map_cons, List.sum_cons] at h1 h2
    simp only [laws_markIntSS.l0]
    rw [if_pos (by omega), if_pos (by omega), markIntS_spec _ _ _ (by omega) (by omega) (by omega), Option.bind_some, toNat_cast, wrap_succ (by omega)]
    have e : (xs.set i (markI (rd_L1 xs (i : Int)).length a)).drop (i + 1) = xs.drop (i + 1) := by
      rw [List.drop_set_of_lt (by omega)]
    refine ih k (i + 1) _ _ (by simpa using hb) (by simp; omega) (by omega) (by simp only []; omega) ?_ ?_
    · rw [e]; simp only [totL]; omega
    · rw [e]; simp only [totL]; omega
theorem markIntSS_spec (k : Nat) (xs : List (List Int)) (hb : xs.length ≤ 1048576) (ht : totL xs ≤ 1048576) (hk : 2097200 < k) : ∃ r, laws_markIntSS.f k xs 1 = some r ∧ 0 ≤ r := by
  unfold laws_markIntSS.f
  exact markIntSS_l0 xs.length k 0 xs 1 hb (by omega) (by omega) (by omega) (by rw [List.drop_zero]; omega) (by rw [List.drop_zero]; omega)

/-! ### the law -/
theorem sbidOrder_l0 (n : Nat) (pay : Int) (table : List (List Int)) (hn : n ≤ 12) (hl : table.length = n) (hr : ∀ row ∈ table, row.length = n) : ∀ (d k i : Nat) (order got : List Int), i + d = n → order.length = i → d + 40 < k →
    spec_bidOrder.l0 k table order (i : Int) = some (roundsM n pay (table.drop i) order got).1 := by
  intro d
  induction d with
  | zero =>
    intro k i order got hi ho hk
    obtain ⟨k, rfl, -⟩ := fuel (show 0 < k by omega)
    simp only [spec_bidOrder.l0]
    rw [if_neg (by omega), drop_end (by omega)]; rfl
  | succ d ih =>
    intro k i order got hi ho hk
    obtain ⟨k, rfl, hk⟩ := fuel (show d + 41 < k by omega)
    have hrow := hr _ (rdL_mem (xs := table) (i := i) (by omega))
    simp only [spec_bidOrder.l0]
    rw [if_pos (by omega), if_pos (by omega), specWinner_spec _ _ _ (by omega) (by omega) (by omega), Option.bind_some, if_pos (by omega), wrap_succ (by omega), drop_rdL (by omega)]
    simp only [roundsM]
    exact ih k (i + 1) _ _ (by omega) (by simp; omega) (by omega)
/-- The order that both give. -/
def orderM (table : List (List Int)) (pay : Int) : List Int := if OkTable table pay then (roundsM table.length pay table [] (List.replicate table.length 0)).1 else []
theorem orderM_length (table : List (List Int)) (pay : Int) : (orderM table pay).length ≤ 1048576 := by
  unfold orderM
  by_cases h : OkTable table pay
  · rw [if_pos h]
    obtain ⟨h1, h2, h3, h4, h5⟩ := h
    have := (roundsM_facts table.length pay h1 h3 table [] (List.replicate table.length 0) h5 ⟨List.nodup_nil, by simp⟩ (by simp) (by simp)).1
    rw [this]; simp; omega
  · rw [if_neg h]; simp
theorem sBidOrder_spec (k : Nat) (table : List (List Int)) (pay : Int) (hk : 400 < k) : spec_BidOrder.f k table pay = some (orderM table pay) := by
  unfold spec_BidOrder.f orderM
  rw [specValidTable_spec _ _ _ (by omega), Option.bind_some]
  by_cases h : OkTable table pay
  · obtain ⟨h1, h2, h3, h4, h5⟩ := id h
    have := sbidOrder_l0 table.length pay table h2 rfl (fun row hr => (h5 row hr).1) table.length k 0 [] (List.replicate table.length 0) (by omega) rfl (by omega)
    rw [decide_eq_true h, if_pos rfl, if_pos h]
    unfold spec_bidOrder.f
    rw [cast0, List.drop_zero] at this
    rw [this, Option.bind_some]
  · rw [decide_eq_false h, if_neg (by simp), if_neg h]
theorem iBidOrder_spec (k : Nat) (table : List (List Int)) (pay : Int) (hl : table.length ≤ 1048576) (hsz : ∀ row ∈ table, row.length ≤ 1048576) (hk : 400 < k) : impl_BidOrder.f k table pay = some (orderM table pay) := by
  unfold impl_BidOrder.f orderM
  rw [implRounds_spec k table pay hl hsz hk, Option.bind_some]
  by_cases h : OkTable table pay
  · rw [if_pos h, if_pos h]
  · rw [if_neg h, if_neg h]
theorem FnExactBidOrder (l0 : List (List (Int))) (a1 : Int) (h0 : l0.length ≤ maxLen) (q0 : ∀ x2 ∈ l0, (x2.length ≤ maxLen ∧ ∀ y2 ∈ x2, (Lit.int .i64 y2).wf = true)) (w1 : (Lit.int .i64 a1).wf = true) : laws_FnExactBidOrder.f 4000000 l0 a1 = some true := by
  unfold laws_FnExactBidOrder.f
  obtain ⟨r, hr, hl⟩ := szIntSS_spec 4000000 l0 h0 (fun x hx => (q0 x hx).1) (by omega)
  rw [hr, Option.bind_some]
  by_cases h1 : r < 0
  · rw [if_pos h1]
  · obtain ⟨hb, ht⟩ := hl (by omega)
    have hn := orderM_length l0 a1
    obtain ⟨t, ht1, ht2⟩ := markIntSS_spec 4000000 l0 hb ht (by omega)
    rw [if_neg h1, toIntSS_spec _ _ hb ht (by omega), Option.bind_some, sBidOrder_spec _ _ _ (by omega), Option.bind_some, Option.bind_some, iBidOrder_spec _ _ _ (by omega) (fun row hrow => by have := totL_mem hrow; omega) (by omega), Option.bind_some, eqIntS_spec _ _ _ (by omega) (by omega), Option.bind_some, if_pos (by simp), Option.bind_some, eqIntSS_self _ _ hb ht (by omega), Option.bind_some, if_pos rfl, ht1, Option.bind_some, if_neg (by omega), Option.bind_some]
    obtain ⟨k, hk, hk2⟩ : ∃ k : Nat, 4000000 = k + 1 ∧ 3999998 < k := ⟨3999999, by omega, by omega⟩
    rw [hk]
    simp only [laws_FnExactBidOrder.j0]
    rw [if_neg (by simp), markIntS_spec _ _ _ (by omega) (by omega) (by omega), Option.bind_some, heldIntS_spec _ _ _ (by omega) (by omega) (by omega), Option.bind_some, if_neg (by omega), if_pos rfl, toIntSS_spec _ _ hb ht (by omega), Option.bind_some, iBidOrder_spec _ _ _ (by omega) (fun row hrow => by have := totL_mem hrow; omega) (by omega), Option.bind_some, eqIntS_spec _ _ _ (by omega) (by omega), Option.bind_some, if_pos (by simp), Option.bind_some, if_neg (by omega), if_pos rfl]

end Go.Proofs.Yteknmkikpcdjbaa.Pure
