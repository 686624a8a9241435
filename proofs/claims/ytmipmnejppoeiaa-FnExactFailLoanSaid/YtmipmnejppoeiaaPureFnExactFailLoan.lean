/- The law FnExactFailLoan holds: the program's function answers as the reference does at every drawn input, and has the law's property; no condition. -/
import Derived.Test.YtmipmnejppoeiaaPFnExactFailLoanx8
set_option linter.unusedVariables false
set_option linter.unusedSimpArgs false
namespace Go.Proofs.Ytmipmnejppoeiaa.Pure
open Go.RowKit Go.Proofs.Ytmipmnejppoeiaa.PFnExactFailLoan Go.Proofs.YtmipmnejppoeiaaW.PrintWords Go.Proofs.YtmipmnejppoeiaaW.PrintLast Go.Proofs.YtmipmnejppoeiaaW.PrintMore

/-! ### base -/
theorem fuel {k n : Nat} (h : n < k) : ∃ m, k = m + 1 ∧ n ≤ m := ⟨k - 1, by omega, by omega⟩
theorem wrap_id {x : Int} (h1 : -9223372036854775808 ≤ x) (h2 : x ≤ 9223372036854775807) : wrap64 x = x := by unfold wrap64; omega
theorem wrap_succ {i : Nat} (h : i < 4611686018427387904) : wrap64 ((i : Int) + 1) = ((i + 1 : Nat) : Int) := by unfold wrap64; omega
theorem wrap_succ' {i : Int} (h0 : 0 ≤ i) (h : i < 4611686018427387904) : wrap64 (i + 1) = i + 1 := by unfold wrap64; omega
theorem wrap_wrap (x : Int) : wrap64 (wrap64 x) = wrap64 x := by unfold wrap64; omega
theorem wrap_add_l (x y : Int) : wrap64 (wrap64 x + y) = wrap64 (x + y) := by unfold wrap64; omega
theorem wrap_add_r (x y : Int) : wrap64 (x + wrap64 y) = wrap64 (x + y) := by unfold wrap64; omega
theorem wrap_sub_l (x y : Int) : wrap64 (wrap64 x - y) = wrap64 (x - y) := by unfold wrap64; omega
theorem rd_get {xs : List Int} {i : Nat} (h : i < xs.length) : rd xs (i : Int) = xs[i] := by
  simp [rd, List.getD_eq_getElem?_getD, List.getElem?_eq_getElem h]
theorem drop_rd {xs : List Int} {i : Nat} (h : i < xs.length) : xs.drop i = rd xs (i : Int) :: xs.drop (i + 1) := by
  rw [rd_get h, List.drop_eq_getElem_cons h]
theorem drop_end {α : Type} {xs : List α} {i : Nat} (h : xs.length ≤ i) : xs.drop i = [] := List.drop_eq_nil_of_le h
theorem take_rd {xs : List Int} {i : Nat} (h : i < xs.length) : xs.take (i + 1) = xs.take i ++ [rd xs (i : Int)] := by
  rw [rd_get h, List.take_succ_eq_append_getElem h]
theorem rd_mem {xs : List Int} {i : Nat} (h : i < xs.length) : rd xs (i : Int) ∈ xs := by
  rw [rd_get h]; exact List.getElem_mem h
theorem rd_mem' {xs : List Int} {i : Int} (h0 : 0 ≤ i) (h : i < (xs.length : Int)) : rd xs i ∈ xs := by
  obtain ⟨j, rfl⟩ := Int.eq_ofNat_of_zero_le h0
  exact rd_mem (by omega)
theorem mem_rd {xs : List Int} {x : Int} (h : x ∈ xs) : ∃ i : Nat, i < xs.length ∧ rd xs (i : Int) = x := by
  obtain ⟨i, hi, he⟩ := List.getElem_of_mem h
  exact ⟨i, hi, by rw [rd_get hi, he]⟩
theorem ext_rd {xs ys : List Int} (hl : xs.length = ys.length) (h : ∀ i : Nat, i < xs.length → rd xs (i : Int) = rd ys (i : Int)) : xs = ys := by
  apply List.ext_getElem hl
  intro i h1 h2
  have := h i h1
  rwa [rd_get h1, rd_get h2] at this
theorem rd_set {xs : List Int} {i j : Nat} {v : Int} (hj : j < xs.length) : rd (xs.set i v) (j : Int) = if i = j then v else rd xs (j : Int) := by
  rw [rd_get (by simpa using hj), rd_get hj, List.getElem_set]
theorem rd_set_ne {xs : List Int} {i j : Nat} {v : Int} (h : i ≠ j) : rd (xs.set i v) (j : Int) = rd xs (j : Int) := by
  simp only [rd, List.getD_eq_getElem?_getD, Int.toNat_natCast, List.getElem?_set_ne h]
theorem rd_append_l {xs ys : List Int} {i : Nat} (h : i < xs.length) : rd (xs ++ ys) (i : Int) = rd xs (i : Int) := by
  rw [rd_get (by simp; omega), rd_get h, List.getElem_append_left h]
theorem rd_append_r {xs ys : List Int} {i : Nat} (h : xs.length ≤ i) (h2 : i < xs.length + ys.length) : rd (xs ++ ys) (i : Int) = rd ys ((i - xs.length : Nat) : Int) := by
  rw [rd_get (by simp; omega), rd_get (by omega), List.getElem_append_right h]
theorem rd_replicate {n i : Nat} {v : Int} (h : i < n) : rd (List.replicate n v) (i : Int) = v := by
  rw [rd_get (by simpa using h)]; simp
theorem rd_mapRange {n i : Nat} {f : Nat → Int} (h : i < n) : rd ((List.range n).map f) (i : Int) = f i := by
  rw [rd_get (by simpa using h)]; simp
theorem toNat_cast (i : Nat) : ((i : Int) : Int).toNat = i := by simp
theorem mx_max (a b : Int) : mx a b = max a b := by unfold mx; omega
theorem mn_min (a b : Int) : mn a b = min a b := by unfold mn; omega
theorem bits_xor {a b : Int} (ha : 0 ≤ a) (ha2 : a < 4611686018427387904) (hb : 0 ≤ b) (hb2 : b < 4611686018427387904) : 0 ≤ Go.bits .xor .i64 a b ∧ Go.bits .xor .i64 a b < 4611686018427387904 := by
  obtain ⟨a, rfl⟩ := Int.eq_ofNat_of_zero_le ha
  obtain ⟨b, rfl⟩ := Int.eq_ofNat_of_zero_le hb
  have h1 : a < 2 ^ 62 := by omega
  have h2 : b < 2 ^ 62 := by omega
  have h3 := Nat.xor_lt_two_pow h1 h2
  have e : Go.bits .xor .i64 (a : Int) (b : Int) = IntKind.i64.wrap (((BitVec.ofInt 64 (a : Int)) ^^^ (BitVec.ofInt 64 (b : Int))).toNat : Int) := rfl
  have ha' : (BitVec.ofInt 64 (a : Int)).toNat = a := by rw [BitVec.ofInt_natCast, BitVec.toNat_ofNat]; exact Nat.mod_eq_of_lt (by omega)
  have hb' : (BitVec.ofInt 64 (b : Int)).toNat = b := by rw [BitVec.ofInt_natCast, BitVec.toNat_ofNat]; exact Nat.mod_eq_of_lt (by omega)
  rw [e, BitVec.toNat_xor, ha', hb', IntKind.wrap_i64]
  omega
theorem cast0 : ((0 : Nat) : Int) = 0 := rfl
theorem w01 : wrap64 (0 + 1) = 1 := by unfold wrap64; omega
theorem w12 : wrap64 (1 + 1) = 2 := by unfold wrap64; omega
theorem w23 : wrap64 (2 + 1) = 3 := by unfold wrap64; omega
theorem w34 : wrap64 (3 + 1) = 4 := by unfold wrap64; omega
theorem w45 : wrap64 (4 + 1) = 5 := by unfold wrap64; omega

/-! ### listm -/
theorem pigeon : ∀ (n : Nat) (xs : List Int), xs.Nodup → (∀ x ∈ xs, 0 ≤ x ∧ x < (n : Int)) → xs.length ≤ n := by
  intro n
  induction n with
  | zero =>
    intro xs _ h
    cases xs with
    | nil => simp
    | cons x xs => have := h x (by simp); omega
  | succ n ih =>
    intro xs hn h
    by_cases hm : (n : Int) ∈ xs
    · have h1 := ih (xs.erase (n : Int)) (hn.erase _) (fun x hx => by
        have h2 := (hn.mem_erase_iff).1 hx
        have h3 := h x h2.2
        have h4 := h2.1
        omega)
      rw [List.length_erase_of_mem hm] at h1
      omega
    · have h1 := ih xs hn (fun x hx => by
        have h3 := h x hx
        have h4 : x ≠ (n : Int) := fun e => hm (e ▸ hx)
        omega)
      omega
/-- Fewer different members than there are: one is missing. -/
theorem one_missing : ∀ (n : Nat) (xs : List Int), xs.length < n → ∃ j : Nat, j < n ∧ (j : Int) ∉ xs := by
  intro n
  induction n with
  | zero => intro xs h; omega
  | succ n ih =>
    intro xs h
    by_cases hm : (n : Int) ∈ xs
    · obtain ⟨j, hj, hx⟩ := ih (xs.erase (n : Int)) (by rw [List.length_erase_of_mem hm]; have := List.length_pos_of_mem hm; omega)
      refine ⟨j, by omega, fun hmem => hx ?_⟩
      exact (List.mem_erase_of_ne (by omega)).2 hmem
    · exact ⟨n, by omega, hm⟩
/-- Members, one after the other, in range and not seen yet. -/
def memB (n : Int) : List Int → List Int → Bool
  | _, [] => true
  | seen, x :: rest => decide (0 ≤ x ∧ x < n) && (!decide (x ∈ seen) && memB n (seen ++ [x]) rest)
theorem memB_iff (n : Int) : ∀ (xs seen : List Int), memB n seen xs = true ↔ (∀ x ∈ xs, 0 ≤ x ∧ x < n ∧ x ∉ seen) ∧ xs.Nodup := by
  intro xs
  induction xs with
  | nil => intro seen; simp [memB]
  | cons a xs ih =>
    intro seen
    simp only [memB, Bool.and_eq_true, decide_eq_true_eq, Bool.not_eq_true', decide_eq_false_iff_not, ih, List.mem_cons, List.mem_append, List.not_mem_nil, or_false, List.nodup_cons]
    constructor
    · rintro ⟨⟨h1, h2⟩, h3, h4, h5⟩
      refine ⟨?_, fun ha => (h4 a ha).2.2 (Or.inr rfl), h5⟩
      rintro x (rfl | hx)
      · exact ⟨h1, h2, h3⟩
      · obtain ⟨a1, a2, a3⟩ := h4 x hx
        exact ⟨a1, a2, fun h => a3 (Or.inl h)⟩
    · rintro ⟨h1, h2, h3⟩
      obtain ⟨a1, a2, a3⟩ := h1 a (Or.inl rfl)
      refine ⟨⟨a1, a2⟩, a3, fun x hx => ?_, h3⟩
      obtain ⟨b1, b2, b3⟩ := h1 x (Or.inr hx)
      refine ⟨b1, b2, ?_⟩
      rintro (h | rfl)
      · exact b3 h
      · exact h2 hx
/-- Different members of a body. -/
def GoodM (xs : List Int) (n : Int) : Prop := xs.Nodup ∧ ∀ x ∈ xs, 0 ≤ x ∧ x < n
instance (xs : List Int) (n : Int) : Decidable (GoodM xs n) := inferInstanceAs (Decidable (_ ∧ _))
theorem memB_good (n : Int) (xs : List Int) : memB n [] xs = decide (GoodM xs n) := by
  rw [Bool.eq_iff_iff, memB_iff, decide_eq_true_eq]
  unfold GoodM
  constructor
  · rintro ⟨h, hn⟩
    exact ⟨hn, fun x hx => ⟨(h x hx).1, (h x hx).2.1⟩⟩
  · rintro ⟨hn, h⟩
    exact ⟨fun x hx => ⟨(h x hx).1, (h x hx).2, by simp⟩, hn⟩
theorem GoodM.le {xs : List Int} {n : Nat} (h : GoodM xs (n : Int)) : xs.length ≤ n := pigeon n xs h.1 h.2
/-- The first place of a number behind some. -/
def idxM : List Int → Int → Nat → Int
  | [], _, _ => -1
  | y :: ys, x, i => if y = x then (i : Int) else idxM ys x (i + 1)
theorem idxM_neg : ∀ (xs : List Int) (x : Int) (i : Nat), idxM xs x i < 0 ↔ x ∉ xs := by
  intro xs
  induction xs with
  | nil => intro x i; simp [idxM]
  | cons y ys ih =>
    intro x i
    simp only [idxM]
    by_cases e : y = x
    · rw [if_pos e]; simp [e]
    · rw [if_neg e, ih]
      have e' : ¬ x = y := fun h => e h.symm
      simp [e']
theorem idxM_nonneg (xs : List Int) (x : Int) (i : Nat) : 0 ≤ idxM xs x i ↔ x ∈ xs := by
  have := idxM_neg xs x i
  by_cases h : x ∈ xs
  · simp only [h, not_true, iff_false] at this
    simp [h]; omega
  · simp only [h, not_false_iff, iff_true] at this
    simp [h]; omega
theorem idxM_at : ∀ (xs : List Int) (x : Int) (i : Nat), x ∈ xs → ∃ j : Nat, idxM xs x i = ((i + j : Nat) : Int) ∧ j < xs.length ∧ rd xs (j : Int) = x ∧ ∀ q : Nat, q < j → rd xs (q : Int) ≠ x := by
  intro xs
  induction xs with
  | nil => intro x i h; simp at h
  | cons y ys ih =>
    intro x i h
    by_cases e : y = x
    · exact ⟨0, by simp [idxM, e], by simp, by simp [rd, e], fun q hq => by omega⟩
    · have hx : x ∈ ys := by
        rcases List.mem_cons.1 h with h | h
        · exact absurd h.symm e
        · exact h
      obtain ⟨j, h1, h2, h3, h4⟩ := ih x (i + 1) hx
      refine ⟨j + 1, by simp only [idxM, if_neg e, h1]; omega, by simp; omega, ?_, ?_⟩
      · rw [← h3, rd_get (by simp; omega), rd_get h2]; simp
      · intro q hq
        cases q with
        | zero => rw [rd_get (by simp)]; simpa using e
        | succ q => have := h4 q (by omega); rw [rd_get (by simp; omega)]; rw [rd_get (by omega)] at this; simpa using this
theorem sum_set : ∀ (xs : List Int) (i : Nat) (v : Int), i < xs.length → (xs.set i v).sum = xs.sum - rd xs (i : Int) + v := by
  intro xs
  induction xs with
  | nil => intro i v h; simp at h
  | cons x xs ih =>
    intro i v h
    cases i with
    | zero => simp [rd]; omega
    | succ i =>
      have h2 : i < xs.length := by simpa using h
      have := ih i v h2
      have e : rd (x :: xs) ((i + 1 : Nat) : Int) = rd xs (i : Int) := by rw [rd_get h, rd_get h2]; simp
      simp only [List.set_cons_succ, List.sum_cons, this, e]
      omega
theorem sum_replicate0 (n : Nat) : (List.replicate n (0 : Int)).sum = 0 := by
  induction n with
  | zero => rfl
  | succ n ih => simp [List.replicate_succ, ih]
theorem set_fill {α : Type} (A : List α) (d : Nat) (z v : α) : (A ++ List.replicate (d + 1) z).set A.length v = (A ++ [v]) ++ List.replicate d z := by
  rw [List.set_append_right _ _ (Nat.le_refl _)]
  simp [List.replicate_succ]
theorem set_fill' {α : Type} {A : List α} {i d : Nat} {z v : α} (h : A.length = i) : (A ++ List.replicate (d + 1) z).set i v = (A ++ [v]) ++ List.replicate d z := by
  subst h; exact set_fill A d z v
theorem sum_bound : ∀ (xs : List Int) (lo hi : Int), (∀ x ∈ xs, lo ≤ x ∧ x ≤ hi) → (xs.length : Int) * lo ≤ xs.sum ∧ xs.sum ≤ (xs.length : Int) * hi := by
  intro xs lo hi
  induction xs with
  | nil => intro _; simp
  | cons x xs ih =>
    intro h
    have h1 := ih (fun y hy => h y (by simp [hy]))
    have h2 := h x (by simp)
    have e1 : ((x :: xs).length : Int) * lo = (xs.length : Int) * lo + lo := by simp [Int.add_mul]
    have e2 : ((x :: xs).length : Int) * hi = (xs.length : Int) * hi + hi := by simp [Int.add_mul]
    rw [e1, e2, List.sum_cons]
    omega

/-! ### different -/
theorem flags_set {fl : List Bool} {n : Int} {seen : List Int} {x : Int} (hl : (fl.length : Int) = n) (h : ∀ j : Int, 0 ≤ j → j < n → rdOf false fl j = decide (j ∈ seen)) (h0 : 0 ≤ x) (h1 : x < n) :
    ∀ j : Int, 0 ≤ j → j < n → rdOf false (fl.set x.toNat true) j = decide (j ∈ seen ++ [x]) := by
  intro j hj0 hj
  have := h j hj0 hj
  simp only [rdOf, List.getD_eq_getElem?_getD, List.getElem?_set] at this ⊢
  by_cases e : x = j
  · subst e
    rw [if_pos rfl, if_pos (by omega)]
    simp
  · rw [if_neg (by omega), this]
    have : ¬ j = x := fun h => e h.symm
    simp [this]
theorem different_l0 (xs : List Int) (n : Int) (hb : xs.length < 4611686018427387904) : ∀ (d k i : Nat) (fl : List Bool), (fl.length : Int) = n → (∀ j : Int, 0 ≤ j → j < n → rdOf false fl j = decide (j ∈ xs.take i)) → i + d = xs.length → d < k → impl_differentBelow.l0 k n fl xs (xs.length : Int) (i : Int) = some (memB n (xs.take i) (xs.drop i)) := by
  intro d
  induction d with
  | zero =>
    intro k i fl hl hf hi hk
    obtain ⟨k, rfl, -⟩ := fuel hk
    simp only [impl_differentBelow.l0]
    rw [if_neg (by omega), drop_end (by omega)]
    simp [memB]
  | succ d ih =>
    intro k i fl hl hf hi hk
    obtain ⟨k, rfl, hk⟩ := fuel hk
    simp only [impl_differentBelow.l0]
    rw [if_pos (by omega), if_pos (by omega), if_pos (by omega), wrap_succ (by omega), drop_rd (by omega)]
    simp only [memB]
    by_cases h1 : rd xs (i : Int) < 0
    · rw [if_pos h1, decide_eq_false (by omega)]; rfl
    · rw [if_neg h1]
      by_cases h2 : rd xs (i : Int) ≥ n
      · rw [if_pos h2, decide_eq_false (by omega)]; rfl
      · rw [if_neg h2, if_pos (by omega), if_pos (by omega), hf _ (by omega) (by omega), decide_eq_true (show 0 ≤ rd xs (i : Int) ∧ rd xs (i : Int) < n by omega)]
        by_cases h3 : rd xs (i : Int) ∈ xs.take i
        · rw [decide_eq_true h3, if_pos rfl]; rfl
        · rw [decide_eq_false h3, if_neg (by decide), ih k (i + 1) _ (by simpa using hl) (by rw [take_rd (by omega)]; exact flags_set hl hf (by omega) (by omega)) (by omega) (by omega), take_rd (by omega)]; rfl
theorem different_spec (k : Nat) (xs : List Int) (n : Int) (hn : 0 ≤ n) (hn2 : n ≤ 281474976710656) (hb : xs.length < 4611686018427387904) (hk : xs.length < k) : impl_differentBelow.f k xs n = some (decide (GoodM xs n)) := by
  unfold impl_differentBelow.f
  by_cases h : (xs.length : Int) > n
  · rw [if_pos h, decide_eq_false]
    intro hg
    obtain ⟨m, rfl⟩ := Int.eq_ofNat_of_zero_le hn
    have := hg.le
    omega
  · rw [if_neg h, if_pos hn, if_pos (by omega)]
    have := different_l0 xs n hb xs.length k 0 (List.replicate n.toNat false) (by simp; omega) (fun j h0 h1 => by simp [rdOf, List.getD_eq_getElem?_getD, List.getElem?_replicate]; split <;> rfl) (by omega) hk
    rw [← memB_good]
    simpa using this

/-! ### index -/
theorem index_l0 (xs : List Int) (x : Int) (hb : xs.length < 4611686018427387904) : ∀ (d k i : Nat), i + d = xs.length → d < k → slices_Index_int_int.l0 k xs x (xs.length : Int) (i : Int) = some (idxM (xs.drop i) x i) := by
  intro d
  induction d with
  | zero =>
    intro k i hi hk
    obtain ⟨k, rfl, -⟩ := fuel hk
    simp only [slices_Index_int_int.l0]
    rw [if_neg (by omega), drop_end (by omega)]
    simp [idxM]
  | succ d ih =>
    intro k i hi hk
    obtain ⟨k, rfl, hk⟩ := fuel hk
    simp only [slices_Index_int_int.l0]
    rw [if_pos (by omega), if_pos (by omega), if_pos (by omega), wrap_succ (by omega), drop_rd (by omega)]
    simp only [idxM]
    rw [ih k (i + 1) (by omega) (by omega)]
    by_cases e : x = rd xs (i : Int)
    · rw [if_pos e, if_pos e.symm]
    · rw [if_neg e, if_neg (fun h => e h.symm)]
theorem index_spec (k : Nat) (xs : List Int) (x : Int) (hb : xs.length < 4611686018427387904) (hk : xs.length < k) : slices_Index_int_int.f k xs x = some (idxM xs x 0) := by
  unfold slices_Index_int_int.f
  have := index_l0 xs x hb xs.length k 0 (by omega) hk
  simpa using this

/-! ### contains -/
theorem contains_spec (k : Nat) (xs : List Int) (x : Int) (hb : xs.length < 4611686018427387904) (hk : xs.length < k) : slices_Contains_int_int.f k xs x = some (decide (x ∈ xs)) := by
  unfold slices_Contains_int_int.f
  rw [index_spec k xs x hb hk]
  simp only [Option.bind_some]
  congr 1
  rw [decide_eq_decide]
  exact idxM_nonneg xs x 0

/-! ### loans -/
/-- A loan that is valid. -/
def OkLoan (l : S56) (n : Int) : Prop := 0 ≤ l.f0 ∧ l.f0 < n ∧ 1 ≤ l.f1 ∧ l.f1 ≤ 100000 ∧ 1 ≤ l.f2.length ∧ GoodM l.f2 n ∧ l.f0 ∉ l.f2
instance (l : S56) (n : Int) : Decidable (OkLoan l n) := inferInstanceAs (Decidable (_ ∧ _))
def OkLoans (list : List S56) (n : Int) : Prop := list.length ≤ 16 ∧ 1 ≤ n ∧ n ≤ 12 ∧ ∀ l ∈ list, OkLoan l n
instance (list : List S56) (n : Int) : Decidable (OkLoans list n) := inferInstanceAs (Decidable (_ ∧ _))
theorem rdT_at {xs : List S56} {i : Nat} (h : i < xs.length) : rd_T56 xs (i : Int) = xs[i] := by
  simp [rd_T56, List.getD_eq_getElem?_getD, List.getElem?_eq_getElem h]
theorem drop_rdT {xs : List S56} {i : Nat} (h : i < xs.length) : xs.drop i = rd_T56 xs (i : Int) :: xs.drop (i + 1) := by
  rw [rdT_at h, List.drop_eq_getElem_cons h]
theorem rdT_mem {xs : List S56} {i : Nat} (h : i < xs.length) : rd_T56 xs (i : Int) ∈ xs := by
  rw [rdT_at h]; exact List.getElem_mem h
theorem implValidLoans_l0 (list : List S56) (n : Int) (hn1 : 1 ≤ n) (hn2 : n ≤ 12) (hl : list.length ≤ 16) (hg : ∀ l ∈ list, l.f2.length ≤ 1048576) : ∀ (d k i : Nat), i + d = list.length → d + d + 1048600 < k →
    impl_ValidLoans.l0 k n list (list.length : Int) (i : Int) = some (decide (∀ l ∈ list.drop i, OkLoan l n)) := by
  intro d
  induction d with
  | zero =>
    intro k i hi hk
    obtain ⟨k, rfl, -⟩ := fuel (show 0 < k by omega)
    simp only [impl_ValidLoans.l0]
    rw [if_neg (by omega), drop_end (by omega)]
    simp
  | succ d ih =>
    intro k i hi hk
    obtain ⟨k, rfl, hk⟩ := fuel (show d + d + 1048601 < k by omega)
    obtain ⟨k, rfl, hk⟩ := fuel (show d + d + 1048600 < k by omega)
    simp only [impl_ValidLoans.l0, impl_ValidLoans.j2, if_true]
    rw [if_pos (by omega), if_pos (by omega), if_pos (by omega), drop_rdT (by omega)]
    have hgl := hg _ (rdT_mem (xs := list) (i := i) (by omega))
    generalize rd_T56 list (i : Int) = l at hgl ⊢
    simp only [List.forall_mem_cons]
    by_cases h1 : l.f0 < 0
    · rw [if_pos h1, decide_eq_false]; rintro ⟨h, -⟩; have := h.1; omega
    · rw [if_neg h1]
      by_cases h2 : l.f0 ≥ n
      · rw [if_pos h2, decide_eq_false]; rintro ⟨h, -⟩; have := h.2.1; omega
      · rw [if_neg h2]
        by_cases h3 : l.f1 < 1
        · rw [if_pos h3, decide_eq_false]; rintro ⟨h, -⟩; have := h.2.2.1; omega
        · rw [if_neg h3]
          by_cases h4 : l.f1 > 100000
          · rw [decide_eq_true h4, if_pos rfl, decide_eq_false]; rintro ⟨h, -⟩; have := h.2.2.2.1; omega
          · rw [decide_eq_false h4, if_neg (by decide)]
            by_cases h5 : (l.f2.length : Int) < 1
            · rw [if_pos h5, decide_eq_false]; rintro ⟨h, -⟩; have := h.2.2.2.2.1; omega
            · rw [if_neg h5, different_spec _ _ _ (by omega) (by omega) (by omega) (by omega)]
              simp only [Option.bind_some]
              by_cases h6 : GoodM l.f2 n
              · have hle : l.f2.length ≤ 12 := by
                  obtain ⟨m, rfl⟩ := Int.eq_ofNat_of_zero_le (show 0 ≤ n by omega)
                  have := h6.le
                  omega
                rw [decide_eq_true h6, if_pos rfl, contains_spec _ _ _ (by omega) (by omega)]
                simp only [Option.bind_some]
                by_cases h7 : l.f0 ∈ l.f2
                · rw [decide_eq_true h7, if_pos rfl, decide_eq_false]; rintro ⟨h, -⟩; exact h.2.2.2.2.2.2 h7
                · rw [decide_eq_false h7, if_neg (by decide), wrap_succ (by omega), ih k (i + 1) (by omega) (by omega)]
                  congr 1
                  rw [decide_eq_decide]
                  exact ⟨fun h => ⟨⟨by omega, by omega, by omega, by omega, by omega, h6, h7⟩, h⟩, fun h => h.2⟩
              · rw [decide_eq_false h6, if_neg (by decide), decide_eq_false]; rintro ⟨h, -⟩; exact h6 h.2.2.2.2.2.1
theorem implValidLoans_spec (k : Nat) (list : List S56) (n : Int) (hl : list.length ≤ 1048576) (hg : ∀ l ∈ list, l.f2.length ≤ 1048576) (hk : 1048700 < k) : impl_ValidLoans.f k list n = some (decide (OkLoans list n)) := by
  obtain ⟨k, rfl, hk⟩ := fuel hk
  unfold impl_ValidLoans.f
  simp only [impl_ValidLoans.j0, if_true]
  by_cases h1 : (list.length : Int) > 16
  · rw [if_pos h1, decide_eq_false]; rintro ⟨h, -⟩; omega
  · rw [if_neg h1]
    by_cases h2 : n < 1
    · rw [if_pos h2, decide_eq_false]; rintro ⟨-, h, -⟩; omega
    · rw [if_neg h2]
      by_cases h3 : n > 12
      · rw [decide_eq_true h3, if_pos rfl, decide_eq_false]; rintro ⟨-, -, h, -⟩; omega
      · rw [decide_eq_false h3, if_neg (by decide)]
        have := implValidLoans_l0 list n (by omega) (by omega) (by omega) hg list.length k 0 (by omega) (by omega)
        rw [show (0 : Int) = ((0 : Nat) : Int) from rfl, this]
        congr 1
        rw [decide_eq_decide, List.drop_zero]
        exact ⟨fun h => ⟨by omega, by omega, by omega, h⟩, fun h => h.2.2.2⟩

/-! ### inrange -/
theorem inRange_spec (a lo up : Int) : spec_inRange.f a lo up = some (decide (lo ≤ a ∧ a ≤ up)) := by
  unfold spec_inRange.f
  by_cases h : lo ≤ a <;> simp [h]

/-! ### ranges -/
theorem allIn_l0 (xs : List Int) (lo up : Int) (hb : xs.length < 4611686018427387904) : ∀ (d k i : Nat), i + d = xs.length → d < k → spec_allIn.l0 k xs lo up (i : Int) = some ((xs.drop i).all fun x => decide (lo ≤ x ∧ x ≤ up)) := by
  intro d
  induction d with
  | zero =>
    intro k i hi hk
    obtain ⟨k, rfl, -⟩ := fuel hk
    simp only [spec_allIn.l0]
    rw [if_neg (by omega), drop_end (by omega)]
    simp
  | succ d ih =>
    intro k i hi hk
    obtain ⟨k, rfl, hk⟩ := fuel hk
    simp only [spec_allIn.l0]
    rw [if_pos (by omega), if_pos (by omega), inRange_spec, wrap_succ (by omega), drop_rd (by omega)]
    simp only [Option.bind_some, List.all_cons]
    rw [ih k (i + 1) (by omega) (by omega)]
    cases decide (lo ≤ rd xs (i : Int) ∧ rd xs (i : Int) ≤ up) <;> simp
theorem allIn_spec (k : Nat) (xs : List Int) (lo up : Int) (hb : xs.length < 4611686018427387904) (hk : xs.length < k) : spec_allIn.f k xs lo up = some (xs.all fun x => decide (lo ≤ x ∧ x ≤ up)) := by
  unfold spec_allIn.f
  have := allIn_l0 xs lo up hb xs.length k 0 (by omega) hk
  simpa using this

/-! ### within -/
theorem allWithin_l0 (xs : List Int) (lo up : Int) (hb : xs.length < 4611686018427387904) : ∀ (d k i : Nat), i + d = xs.length → d < k → impl_allWithin.l0 k lo up xs (xs.length : Int) (i : Int) = some ((xs.drop i).all fun x => decide (lo ≤ x ∧ x ≤ up)) := by
  intro d
  induction d with
  | zero =>
    intro k i hi hk
    obtain ⟨k, rfl, -⟩ := fuel hk
    simp only [impl_allWithin.l0]
    rw [if_neg (by omega), drop_end (by omega)]
    simp
  | succ d ih =>
    intro k i hi hk
    obtain ⟨k, rfl, hk⟩ := fuel hk
    simp only [impl_allWithin.l0]
    rw [if_pos (by omega), if_pos (by omega), if_pos (by omega), wrap_succ (by omega), drop_rd (by omega)]
    simp only [List.all_cons]
    rw [ih k (i + 1) (by omega) (by omega)]
    by_cases h1 : rd xs (i : Int) < lo
    · rw [if_pos h1, decide_eq_false (by omega)]; rfl
    · rw [if_neg h1]
      by_cases h2 : rd xs (i : Int) > up
      · rw [if_pos h2, decide_eq_false (by omega)]; rfl
      · rw [if_neg h2, decide_eq_true (by omega)]; rfl
theorem allWithin_spec (k : Nat) (xs : List Int) (lo up : Int) (hb : xs.length < 4611686018427387904) (hk : xs.length < k) : impl_allWithin.f k xs lo up = some (xs.all fun x => decide (lo ≤ x ∧ x ≤ up)) := by
  unfold impl_allWithin.f
  have := allWithin_l0 xs lo up hb xs.length k 0 (by omega) hk
  simpa using this

/-! ### stakes -/
def OkStakes (stakes : List Int) : Prop := 1 ≤ stakes.length ∧ stakes.length ≤ 12 ∧ ∀ x ∈ stakes, 0 ≤ x ∧ x ≤ 100000
instance (stakes : List Int) : Decidable (OkStakes stakes) := inferInstanceAs (Decidable (_ ∧ _))
theorem implStakes_spec (k : Nat) (stakes : List Int) (hk : 20 < k) : impl_validStakes.f k stakes = some (decide (OkStakes stakes)) := by
  unfold impl_validStakes.f
  by_cases h1 : (stakes.length : Int) ≥ 1
  · rw [if_pos h1]
    by_cases h2 : (stakes.length : Int) ≤ 12
    · rw [if_pos h2, allWithin_spec _ _ _ _ (by omega) (by omega)]
      simp only [Option.bind_some]
      congr 1
      rw [Bool.eq_iff_iff, List.all_eq_true, decide_eq_true_eq]
      exact ⟨fun h => ⟨by omega, by omega, fun x hx => by simpa using h x hx⟩, fun h x hx => by simpa using h.2.2 x hx⟩
    · rw [if_neg h2, decide_eq_false]; rintro ⟨-, h, -⟩; omega
  · rw [if_neg h1, decide_eq_false]; rintro ⟨h, -⟩; omega
theorem specStakes_spec (k : Nat) (stakes : List Int) (hk : 20 < k) : spec_validStakes.f k stakes = some (decide (OkStakes stakes)) := by
  unfold spec_validStakes.f
  rw [inRange_spec]
  simp only [Option.bind_some]
  by_cases h1 : 1 ≤ (stakes.length : Int) ∧ (stakes.length : Int) ≤ 12
  · rw [decide_eq_true h1, if_pos rfl, allIn_spec _ _ _ _ (by omega) (by omega)]
    simp only [Option.bind_some]
    congr 1
    rw [Bool.eq_iff_iff, List.all_eq_true, decide_eq_true_eq]
    exact ⟨fun h => ⟨by omega, by omega, fun x hx => by simpa using h x hx⟩, fun h x hx => by simpa using h.2.2 x hx⟩
  · rw [decide_eq_false h1, if_neg (by decide), decide_eq_false]; rintro ⟨h2, h3, -⟩; exact h1 ⟨by omega, by omega⟩

/-! ### split -/
def splitM (g : Int) (m : Nat) : List Int := (List.range m).map fun i : Nat => g / (m : Int) + if (i : Int) < g % (m : Int) then 1 else 0
theorem splitM_length (g : Int) (m : Nat) : (splitM g m).length = m := by simp [splitM]
theorem splitM_rd {g : Int} {m i : Nat} (h : i < m) : rd (splitM g m) (i : Int) = g / (m : Int) + if (i : Int) < g % (m : Int) then 1 else 0 := rd_mapRange h
theorem sum_steps (a r : Int) (hr : 0 ≤ r) : ∀ m : Nat, ((List.range m).map fun i : Nat => a + if (i : Int) < r then 1 else 0).sum = (m : Int) * a + min (m : Int) r := by
  intro m
  induction m with
  | zero => simp; omega
  | succ m ih =>
    rw [List.range_succ, List.map_append, List.sum_append, ih]
    have e : ((m + 1 : Nat) : Int) * a = (m : Int) * a + a := by push_cast; rw [Int.add_mul]; omega
    rw [e]
    simp only [List.map_cons, List.map_nil, List.sum_cons, List.sum_nil]
    split <;> omega
theorem splitM_sum {g : Int} {m : Nat} (hm : 0 < m) : (splitM g m).sum = g := by
  unfold splitM
  rw [sum_steps _ _ (Int.emod_nonneg _ (by omega))]
  have h1 := Int.emod_lt_of_pos g (b := (m : Int)) (by omega)
  have h2 := Int.mul_ediv_add_emod g (m : Int)
  rw [show min (m : Int) (g % (m : Int)) = g % (m : Int) by omega]
  omega
theorem splitM_bound {g : Int} {m : Nat} (hm : 0 < m) (hg : 0 ≤ g) : ∀ x ∈ splitM g m, 0 ≤ x ∧ x ≤ g := by
  intro x hx
  obtain ⟨i, hi, rfl⟩ := mem_rd hx
  rw [splitM_length] at hi
  rw [splitM_rd hi]
  have h0 := Int.ediv_nonneg hg (show (0 : Int) ≤ m by omega)
  have h2 := Int.mul_ediv_add_emod g (m : Int)
  have h3 : g / (m : Int) ≤ (m : Int) * (g / (m : Int)) := by
    have : (1 : Int) * (g / (m : Int)) ≤ (m : Int) * (g / (m : Int)) := Int.mul_le_mul_of_nonneg_right (by omega) h0
    omega
  have h4 := Int.emod_lt_of_pos g (b := (m : Int)) (by omega)
  have h5 := Int.emod_nonneg g (b := (m : Int)) (by omega)
  split <;> omega

/-! ### spliteven -/
theorem range_map_succ {f : Nat → Int} (i : Nat) : (List.range (i + 1)).map f = (List.range i).map f ++ [f i] := by
  rw [List.range_succ, List.map_append]; rfl
theorem split_val {g : Int} {m : Nat} (hg : 0 ≤ g) (hg2 : g ≤ 1000000) (hm : 0 < m) (hm2 : m ≤ 12) :
    wrap64 (Int.tdiv g (m : Int)) = g / (m : Int) ∧ Int.tmod g (m : Int) = g % (m : Int) ∧ 0 ≤ g / (m : Int) ∧ g / (m : Int) ≤ 1000000 := by
  have h1 := Int.ediv_nonneg hg (show (0 : Int) ≤ m by omega)
  have h2 : g / (m : Int) ≤ g := Int.ediv_le_self _ hg
  rw [Int.tdiv_eq_ediv_of_nonneg hg, Int.tmod_eq_emod_of_nonneg hg]
  exact ⟨wrap_id (by omega) (by omega), rfl, h1, by omega⟩
theorem implSplit_l0 (g : Int) (m : Nat) (hg : 0 ≤ g) (hg2 : g ≤ 1000000) (hm : 0 < m) (hm2 : m ≤ 12) : ∀ (d k i : Nat), i + d = m → d < k →
    impl_SplitEven.l0 k g (m : Int) (((List.range i).map fun j : Nat => g / (m : Int) + if (j : Int) < g % (m : Int) then 1 else 0) ++ List.replicate d 0) (m : Int) (i : Int) = some (splitM g m) := by
  obtain ⟨e1, e2, e3, e4⟩ := split_val hg hg2 hm hm2
  intro d
  induction d with
  | zero =>
    intro k i hi hk
    obtain ⟨k, rfl, -⟩ := fuel hk
    simp only [impl_SplitEven.l0]
    rw [if_neg (by omega)]
    obtain rfl : i = m := by omega
    simp [splitM]
  | succ d ih =>
    intro k i hi hk
    obtain ⟨k, rfl, hk⟩ := fuel hk
    simp only [impl_SplitEven.l0]
    rw [if_pos (by omega), if_neg (by omega), if_pos (by omega), if_pos (by simp; omega), e1, e2, toNat_cast, wrap_succ (by omega)]
    simp only [Option.bind_some]
    rw [set_fill' (by simp)]
    have hr : rd (List.map (fun j : Nat => g / (m : Int) + if (j : Int) < g % (m : Int) then 1 else 0) (List.range i) ++ [g / (m : Int)] ++ List.replicate d 0) (i : Int) = g / (m : Int) := by
      rw [rd_append_l (by simp), rd_append_r (by simp) (by simp)]
      simp [rd]
    have := ih k (i + 1) (by omega) (by omega)
    rw [range_map_succ] at this
    by_cases h : (i : Int) < g % (m : Int)
    · rw [if_pos h] at this
      rw [if_pos h, hr, wrap_id (by omega) (by omega), List.append_assoc, List.set_append_right _ _ (by simp)]
      simp only [List.length_map, List.length_range, Nat.sub_self, List.singleton_append, List.set_cons_zero]
      rw [← this, List.append_assoc]; rfl
    · rw [if_neg h, Int.add_zero] at this
      rw [if_neg h]
      exact this
theorem implSplit_spec (k : Nat) (hk : 14 < k) (g : Int) (m : Int) : impl_SplitEven.f k g m = some (if 0 ≤ g ∧ g ≤ 1000000 ∧ 1 ≤ m ∧ m ≤ 12 then splitM g m.toNat else []) := by
  obtain ⟨k, rfl, hk⟩ := fuel hk
  unfold impl_SplitEven.f
  simp only [impl_SplitEven.j0, if_true]
  by_cases h1 : g < 0
  · rw [if_pos h1, if_neg (by omega)]
  · rw [if_neg h1]
    by_cases h2 : g > 1000000
    · rw [if_pos h2, if_neg (by omega)]
    · rw [if_neg h2]
      by_cases h3 : m < 1
      · rw [if_pos h3, if_neg (by omega)]
      · rw [if_neg h3]
        by_cases h4 : m > 12
        · rw [decide_eq_true h4, if_pos rfl, if_neg (by omega)]
        · rw [decide_eq_false h4, if_neg (by decide), if_pos (by omega), if_pos (by omega), if_pos (by omega)]
          obtain ⟨m, rfl⟩ := Int.eq_ofNat_of_zero_le (show 0 ≤ m by omega)
          simp only [Option.bind_some, Int.toNat_natCast, List.length_replicate]
          have := implSplit_l0 g m (by omega) (by omega) (by omega) (by omega) m k 0 (by omega) (by omega)
          simpa using this
theorem specSplit_l0 (g : Int) (m : Nat) (hg : 0 ≤ g) (hg2 : g ≤ 1000000) (hm : 0 < m) (hm2 : m ≤ 12) : ∀ (d k i : Nat), i + d = m → d < k →
    spec_split.l0 k g (m : Int) ((List.range i).map fun j : Nat => g / (m : Int) + if (j : Int) < g % (m : Int) then 1 else 0) (i : Int) = some (splitM g m) := by
  obtain ⟨e1, e2, e3, e4⟩ := split_val hg hg2 hm hm2
  intro d
  induction d with
  | zero =>
    intro k i hi hk
    obtain ⟨k, rfl, -⟩ := fuel hk
    simp only [spec_split.l0]
    rw [if_neg (by omega)]
    obtain rfl : i = m := by omega
    simp [splitM]
  | succ d ih =>
    intro k i hi hk
    obtain ⟨k, rfl, hk⟩ := fuel hk
    simp only [spec_split.l0]
    rw [if_pos (by omega), if_neg (by omega), e1, e2, wrap_succ (by omega)]
    have := ih k (i + 1) (by omega) (by omega)
    rw [range_map_succ] at this
    by_cases h : (i : Int) < g % (m : Int)
    · rw [if_pos h] at this
      rw [if_pos h, if_pos (by simp; omega), wrap_id (x := g / (m : Int) + 1) (by omega) (by omega)]
      exact this
    · rw [if_neg h, Int.add_zero] at this
      rw [if_neg h, if_pos (by simp; omega)]
      exact this
theorem specSplit_spec (k : Nat) (g : Int) (m : Nat) (hg : 0 ≤ g) (hg2 : g ≤ 1000000) (hm : 0 < m) (hm2 : m ≤ 12) (hk : m < k) : spec_split.f k g (m : Int) = some (splitM g m) := by
  unfold spec_split.f
  have := specSplit_l0 g m hg hg2 hm hm2 m k 0 (by omega) hk
  simpa using this

/-! ### copyints -/
theorem copyInts_spec (l : List Int) (hl : l.length ≤ 1000000) : spec_copyInts.f l = some l := by
  unfold spec_copyInts.f
  simp only [Option.bind_some]
  rw [if_pos (by simp; omega)]; simp

/-! ### fail -/
/-- What is taken of the guards, and what is lost. -/
def failM : List Int → List Int → List Int → List Int × Int
  | xs, g :: gs, p :: ps =>
    let r := failM (xs.set g.toNat (rd xs g - min (rd xs g) p)) gs ps
    (r.1, (p - min (rd xs g) p) + r.2)
  | xs, _, _ => (xs, 0)
structure OkX (n : Nat) (xs : List Int) : Prop where
  len : xs.length = n
  val : ∀ x ∈ xs, 0 ≤ x ∧ x ≤ 100000
theorem OkX.at {n : Nat} {xs : List Int} (h : OkX n xs) {g : Int} (h0 : 0 ≤ g) (h1 : g < (n : Int)) : 0 ≤ rd xs g ∧ rd xs g ≤ 100000 := h.val _ (rd_mem' h0 (by rw [h.len]; exact h1))
theorem OkX.take {n : Nat} {xs : List Int} (h : OkX n xs) {g p : Int} (h0 : 0 ≤ g) (h1 : g < (n : Int)) (hp : 0 ≤ p) : OkX n (xs.set g.toNat (rd xs g - min (rd xs g) p)) := by
  have h2 := h.at h0 h1
  refine ⟨by simpa using h.len, fun x hx => ?_⟩
  rcases List.mem_or_eq_of_mem_set hx with h5 | h5
  · exact h.val x h5
  · rw [h5]; omega
theorem rd_set_int {xs : List Int} {g : Int} {j : Nat} {v : Int} (h0 : 0 ≤ g) (hj : j < xs.length) : rd (xs.set g.toNat v) (j : Int) = if g = (j : Int) then v else rd xs (j : Int) := by
  rw [rd_set hj]
  by_cases e : g = (j : Int)
  · rw [if_pos e, if_pos (by omega)]
  · rw [if_neg e, if_neg (by omega)]
theorem sum_set_int {xs : List Int} {g : Int} {v : Int} (h0 : 0 ≤ g) (h1 : g < (xs.length : Int)) : (xs.set g.toNat v).sum = xs.sum - rd xs g + v := by
  have := sum_set xs g.toNat v (by omega)
  rwa [Int.toNat_of_nonneg h0] at this
theorem failM_facts (n : Nat) : ∀ (gs ps xs : List Int), OkX n xs → gs.length = ps.length → (∀ g ∈ gs, 0 ≤ g ∧ g < (n : Int)) → (∀ p ∈ ps, 0 ≤ p) →
    OkX n (failM xs gs ps).1 ∧ 0 ≤ (failM xs gs ps).2 ∧ xs.sum - (failM xs gs ps).1.sum + (failM xs gs ps).2 = ps.sum ∧
    (∀ j : Nat, j < n → rd (failM xs gs ps).1 (j : Int) ≤ rd xs (j : Int) ∧ ((j : Int) ∉ gs → rd (failM xs gs ps).1 (j : Int) = rd xs (j : Int))) ∧ ((∀ p ∈ ps, p = 0) → (failM xs gs ps).2 = 0) := by
  intro gs
  induction gs with
  | nil =>
    intro ps xs h1 h2 h3 h4
    cases ps with
    | nil => simp only [failM]; exact ⟨h1, by simp, by simp, fun j _ => ⟨Int.le_refl _, fun _ => by trivial⟩, fun _ => by trivial⟩
    | cons p ps => simp at h2
  | cons g gs ih =>
    intro ps xs h1 h2 h3 h4
    cases ps with
    | nil => simp at h2
    | cons p ps =>
      have hg := h3 g (by simp)
      have hp := h4 p (by simp)
      have hx := h1.at hg.1 hg.2
      obtain ⟨a1, a2, a3, a4, a5⟩ := ih ps _ (h1.take hg.1 hg.2 hp) (by simpa using h2) (fun q hq => h3 q (by simp [hq])) (fun q hq => h4 q (by simp [hq]))
      simp only [failM]
      refine ⟨a1, by omega, ?_, fun j hj => ?_, fun hz => ?_⟩
      · rw [sum_set_int hg.1 (by rw [h1.len]; exact hg.2)] at a3
        rw [List.sum_cons]; omega
      · obtain ⟨b1, b2⟩ := a4 j hj
        rw [rd_set_int hg.1 (by rw [h1.len]; exact hj)] at b1 b2
        by_cases e : g = (j : Int)
        · rw [if_pos e] at b1
          refine ⟨by rw [← e] at b1 ⊢; omega, fun hn => absurd (by rw [e]; simp) hn⟩
        · rw [if_neg e] at b1 b2
          exact ⟨b1, fun hn => b2 (fun hm => hn (by simp [hm]))⟩
      · have e0 := hz p (by simp)
        rw [a5 (fun q hq => hz q (by simp [hq])), e0]
        omega
theorem takeFrom_spec {n : Nat} {xs : List Int} (h : OkX n xs) {g p : Int} (h0 : 0 ≤ g) (h1 : g < (n : Int)) (hp : 0 ≤ p) (hp2 : p ≤ 1000000) : impl_takeFrom.f xs g p = some (p - min (rd xs g) p, xs.set g.toNat (rd xs g - min (rd xs g) p)) := by
  have h2 := h.at h0 h1
  unfold impl_takeFrom.f
  rw [if_pos h0, if_pos (by rw [h.len]; exact h1), mn_min, wrap_id (by omega) (by omega), wrap_id (by omega) (by omega)]
theorem implFail_l0 (n : Nat) (gs ps : List Int) (b am : Int) (hl : gs.length = ps.length) (hn : ps.length ≤ 12) (hg : ∀ g ∈ gs, 0 ≤ g ∧ g < (n : Int)) (hp : ∀ p ∈ ps, 0 ≤ p ∧ p ≤ 100000) :
    ∀ (d k i : Nat) (xs un : List Int) (loss : Int), i + d = ps.length → un.length ≤ i → 0 ≤ loss → loss + (d : Int) * 100000 ≤ 1200000 → OkX n xs → d < k →
    ∃ un', impl_failOne.l0 k xs loss un ps (ps.length : Int) (i : Int) b am gs = some (loss + (failM xs (gs.drop i) (ps.drop i)).2, un', (failM xs (gs.drop i) (ps.drop i)).1) := by
  intro d
  induction d with
  | zero =>
    intro k i xs un loss hi hu h0 h1 hx hk
    obtain ⟨k, rfl, -⟩ := fuel hk
    simp only [impl_failOne.l0]
    rw [if_neg (by omega), drop_end (by omega), drop_end (by omega)]
    exact ⟨un, by simp [failM]⟩
  | succ d ih =>
    intro k i xs un loss hi hu h0 h1 hx hk
    obtain ⟨k, rfl, hk⟩ := fuel hk
    have hgi := hg _ (rd_mem (xs := gs) (i := i) (by omega))
    have hpi := hp _ (rd_mem (xs := ps) (i := i) (by omega))
    have hxi := hx.at hgi.1 hgi.2
    simp only [impl_failOne.l0]
    rw [if_pos (by omega), if_pos (by omega), if_pos (by omega), if_pos (by omega), takeFrom_spec hx hgi.1 hgi.2 hpi.1 (by omega), Option.bind_some, wrap_succ (by omega), drop_rd (xs := gs) (i := i) (by omega), drop_rd (xs := ps) (i := i) (by omega)]
    simp only [failM]
    by_cases h : rd ps (i : Int) - min (rd xs (rd gs (i : Int))) (rd ps (i : Int)) > 0
    · rw [if_pos h, if_pos (by omega), wrap_id (by omega) (by omega)]
      obtain ⟨un', hu'⟩ := ih k (i + 1) _ (un ++ [rd gs (i : Int)]) (loss + (rd ps (i : Int) - min (rd xs (rd gs (i : Int))) (rd ps (i : Int)))) (by omega) (by simp; omega) (by omega) (by omega) (hx.take hgi.1 hgi.2 hpi.1) (by omega)
      exact ⟨un', by rw [hu', Int.add_assoc]⟩
    · rw [if_neg h]
      obtain ⟨un', hu'⟩ := ih k (i + 1) _ un loss (by omega) (by omega) (by omega) (by omega) (hx.take hgi.1 hgi.2 hpi.1) (by omega)
      refine ⟨un', ?_⟩
      rw [hu']
      congr 2
      omega
/-- A loan that fails: the stakes after it, and what is lost. -/
def failLoanM (xs : List Int) (b am : Int) (gs : List Int) : List Int × Int :=
  failM (xs.set b.toNat (rd xs b - min (rd xs b) am)) gs (splitM (am - min (rd xs b) am) gs.length)
theorem parts_ok {left : Int} {m : Nat} (h0 : 0 ≤ left) (h1 : left ≤ 100000) (hm : 0 < m) : ∀ p ∈ splitM left m, 0 ≤ p ∧ p ≤ 100000 := by
  intro p hp
  have := splitM_bound hm h0 p hp
  omega
theorem implFailOne_spec (n : Nat) (xs : List Int) (hx : OkX n xs) (l : S56) (hl : OkLoan l (n : Int)) (hn : n ≤ 12) (k : Nat) (hk : 30 < k) : ∃ un, impl_failOne.f k xs l.f0 l.f1 l.f2 = some ((failLoanM xs l.f0 l.f1 l.f2).2, un, (failLoanM xs l.f0 l.f1 l.f2).1) := by
  obtain ⟨b0, b1, a0, a1, g1, gm, gn⟩ := hl
  have hgl := gm.le
  have hxb := hx.at b0 b1
  unfold impl_failOne.f failLoanM
  rw [takeFrom_spec hx b0 b1 (by omega) (by omega), Option.bind_some, implSplit_spec _ (by omega), if_pos ⟨by omega, by omega, by omega, by omega⟩, Option.bind_some, Int.toNat_natCast]
  have hpl : (splitM (l.f1 - min (rd xs l.f0) l.f1) l.f2.length).length = l.f2.length := splitM_length _ _
  obtain ⟨un, hu⟩ := implFail_l0 n l.f2 (splitM (l.f1 - min (rd xs l.f0) l.f1) l.f2.length) l.f0 l.f1 hpl.symm (by omega) gm.2 (parts_ok (by omega) (by omega) (by omega)) l.f2.length k 0 _ [] 0 (by omega) (by simp) (by omega) (by omega) (hx.take (p := l.f1) b0 b1 (by omega)) (by omega)
  refine ⟨un, ?_⟩
  rw [List.drop_zero, List.drop_zero] at hu
  simpa using hu
theorem specFail_l0 (n : Nat) (gs ps : List Int) (b am : Int) (hl : gs.length = ps.length) (hn : ps.length ≤ 12) (hg : ∀ g ∈ gs, 0 ≤ g ∧ g < (n : Int)) (hp : ∀ p ∈ ps, 0 ≤ p ∧ p ≤ 100000) :
    ∀ (d k i : Nat) (xs un : List Int) (loss : Int), i + d = ps.length → un.length ≤ i → 0 ≤ loss → loss + (d : Int) * 100000 ≤ 1200000 → OkX n xs → d < k →
    ∃ un', spec_fail.l0 k xs un ps loss (i : Int) b am gs = some ((failM xs (gs.drop i) (ps.drop i)).1, loss + (failM xs (gs.drop i) (ps.drop i)).2, un') := by
  intro d
  induction d with
  | zero =>
    intro k i xs un loss hi hu h0 h1 hx hk
    obtain ⟨k, rfl, -⟩ := fuel hk
    simp only [spec_fail.l0]
    rw [if_neg (by omega), drop_end (by omega), drop_end (by omega)]
    exact ⟨un, by simp [failM]⟩
  | succ d ih =>
    intro k i xs un loss hi hu h0 h1 hx hk
    obtain ⟨k, rfl, hk⟩ := fuel hk
    have hgi := hg _ (rd_mem (xs := gs) (i := i) (by omega))
    have hpi := hp _ (rd_mem (xs := ps) (i := i) (by omega))
    have hxi := hx.at hgi.1 hgi.2
    simp only [spec_fail.l0]
    rw [if_pos (by omega), if_pos (by omega), if_pos (by omega), if_pos hgi.1, if_pos (by rw [hx.len]; exact hgi.2), Option.bind_some, mn_min, wrap_succ (by omega), drop_rd (xs := gs) (i := i) (by omega), drop_rd (xs := ps) (i := i) (by omega)]
    rw [wrap_id (x := rd xs (rd gs (i : Int)) - min (rd xs (rd gs (i : Int))) (rd ps (i : Int))) (by omega) (by omega), wrap_id (x := loss + rd ps (i : Int)) (by omega) (by omega), wrap_id (x := loss + rd ps (i : Int) - min (rd xs (rd gs (i : Int))) (rd ps (i : Int))) (by omega) (by omega)]
    simp only [failM]
    have e : loss + rd ps (i : Int) - min (rd xs (rd gs (i : Int))) (rd ps (i : Int)) = loss + (rd ps (i : Int) - min (rd xs (rd gs (i : Int))) (rd ps (i : Int))) := by omega
    rw [e]
    by_cases h : min (rd xs (rd gs (i : Int))) (rd ps (i : Int)) < rd ps (i : Int)
    · rw [if_pos h, if_pos (by omega)]
      obtain ⟨un', hu'⟩ := ih k (i + 1) _ (un ++ [rd gs (i : Int)]) (loss + (rd ps (i : Int) - min (rd xs (rd gs (i : Int))) (rd ps (i : Int)))) (by omega) (by simp; omega) (by omega) (by omega) (hx.take hgi.1 hgi.2 hpi.1) (by omega)
      exact ⟨un', by rw [hu', Int.add_assoc]⟩
    · rw [if_neg h]
      obtain ⟨un', hu'⟩ := ih k (i + 1) _ un (loss + (rd ps (i : Int) - min (rd xs (rd gs (i : Int))) (rd ps (i : Int)))) (by omega) (by omega) (by omega) (by omega) (hx.take hgi.1 hgi.2 hpi.1) (by omega)
      exact ⟨un', by rw [hu', Int.add_assoc]⟩
theorem specFailOne_spec (n : Nat) (xs : List Int) (hx : OkX n xs) (l : S56) (hl : OkLoan l (n : Int)) (hn : n ≤ 12) (k : Nat) (hk : 30 < k) : ∃ un, spec_fail.f k xs l.f0 l.f1 l.f2 = some ((failLoanM xs l.f0 l.f1 l.f2).1, (failLoanM xs l.f0 l.f1 l.f2).2, un) := by
  obtain ⟨b0, b1, a0, a1, g1, gm, gn⟩ := hl
  have hgl := gm.le
  have hxb := hx.at b0 b1
  have hxl := hx.len
  unfold spec_fail.f failLoanM
  rw [copyInts_spec _ (by omega), Option.bind_some, if_pos b0, if_pos (by rw [hx.len]; exact b1), mn_min, wrap_id (x := l.f1 - min (rd xs l.f0) l.f1) (by omega) (by omega), wrap_id (x := rd xs l.f0 - min (rd xs l.f0) l.f1) (by omega) (by omega), specSplit_spec _ _ _ (by omega) (by omega) (by omega) (by omega) (by omega), Option.bind_some]
  have hpl : (splitM (l.f1 - min (rd xs l.f0) l.f1) l.f2.length).length = l.f2.length := splitM_length _ _
  obtain ⟨un, hu⟩ := specFail_l0 n l.f2 (splitM (l.f1 - min (rd xs l.f0) l.f1) l.f2.length) l.f0 l.f1 hpl.symm (by omega) gm.2 (parts_ok (by omega) (by omega) (by omega)) l.f2.length k 0 _ [] 0 (by omega) (by simp) (by omega) (by omega) (hx.take (p := l.f1) b0 b1 (by omega)) (by omega)
  refine ⟨un, ?_⟩
  rw [List.drop_zero, List.drop_zero] at hu
  simpa using hu
theorem failLoan_facts (n : Nat) (xs : List Int) (hx : OkX n xs) (l : S56) (hl : OkLoan l (n : Int)) (hn : n ≤ 12) :
    OkX n (failLoanM xs l.f0 l.f1 l.f2).1 ∧ 0 ≤ (failLoanM xs l.f0 l.f1 l.f2).2 ∧ xs.sum - (failLoanM xs l.f0 l.f1 l.f2).1.sum + (failLoanM xs l.f0 l.f1 l.f2).2 = l.f1 ∧
    (∀ j : Nat, j < n → rd (failLoanM xs l.f0 l.f1 l.f2).1 (j : Int) ≤ rd xs (j : Int) ∧ ((j : Int) ∉ l.f2 → (j : Int) ≠ l.f0 → rd (failLoanM xs l.f0 l.f1 l.f2).1 (j : Int) = rd xs (j : Int))) ∧ (l.f1 ≤ rd xs l.f0 → (failLoanM xs l.f0 l.f1 l.f2).2 = 0) := by
  obtain ⟨b0, b1, a0, a1, g1, gm, gn⟩ := hl
  have hxb := hx.at b0 b1
  have hxl := hx.len
  unfold failLoanM
  obtain ⟨c1, c2, c3, c4, c5⟩ := failM_facts n l.f2 (splitM (l.f1 - min (rd xs l.f0) l.f1) l.f2.length) _ (hx.take (p := l.f1) b0 b1 (by omega)) (by rw [splitM_length]) gm.2 (fun p hp => (parts_ok (by omega) (by omega) (by omega) p hp).1)
  rw [sum_set_int b0 (by omega), splitM_sum (by omega)] at c3
  refine ⟨c1, c2, by omega, fun j hj => ?_, fun hle => c5 (fun p hp => ?_)⟩
  · obtain ⟨d1, d2⟩ := c4 j hj
    rw [rd_set_int b0 (by omega)] at d1 d2
    by_cases e : l.f0 = (j : Int)
    · rw [if_pos e] at d1
      refine ⟨by rw [← e] at d1 ⊢; omega, fun _ hne => absurd e.symm hne⟩
    · rw [if_neg e] at d1 d2
      exact ⟨d1, fun hng _ => d2 hng⟩
  · have := splitM_bound (g := l.f1 - min (rd xs l.f0) l.f1) (m := l.f2.length) (by omega) (by omega) p hp
    omega

/-! ### place -/
theorem placeIn_l0 (xs : List Int) (x : Int) (hb : xs.length < 4611686018427387904) : ∀ (d k i : Nat), i + d = xs.length → d < k → spec_placeIn.l0 k xs x (i : Int) = some (idxM (xs.drop i) x i) := by
  intro d
  induction d with
  | zero =>
    intro k i hi hk
    obtain ⟨k, rfl, -⟩ := fuel hk
    simp only [spec_placeIn.l0]
    rw [if_neg (by omega), drop_end (by omega)]
    simp [idxM]
  | succ d ih =>
    intro k i hi hk
    obtain ⟨k, rfl, hk⟩ := fuel hk
    simp only [spec_placeIn.l0]
    rw [if_pos (by omega), if_pos (by omega), wrap_succ (by omega), drop_rd (by omega)]
    simp only [idxM]
    rw [ih k (i + 1) (by omega) (by omega)]
    split <;> rfl
theorem placeIn_spec (k : Nat) (xs : List Int) (x : Int) (hb : xs.length < 4611686018427387904) (hk : xs.length < k) : spec_placeIn.f k xs x = some (idxM xs x 0) := by
  unfold spec_placeIn.f
  have := placeIn_l0 xs x hb xs.length k 0 (by omega) hk
  simpa using this

/-! ### members -/
theorem validMembers_l0 (xs : List Int) (n : Int) (hb : xs.length < 4611686018427387904) : ∀ (d k i : Nat), i + d = xs.length → xs.length + d < k → spec_validMembers.l0 k xs n (i : Int) = some (memB (wrap64 (n - 1) + 1) (xs.take i) (xs.drop i)) := by
  intro d
  induction d with
  | zero =>
    intro k i hi hk
    obtain ⟨k, rfl, -⟩ := fuel hk
    simp only [spec_validMembers.l0]
    rw [if_neg (by omega), drop_end (by omega)]
    simp [memB]
  | succ d ih =>
    intro k i hi hk
    obtain ⟨k, rfl, hk⟩ := fuel hk
    simp only [spec_validMembers.l0]
    rw [if_pos (by omega), if_pos (by omega), inRange_spec, wrap_succ (i := i) (by omega), drop_rd (by omega), toNat_cast]
    rw [placeIn_spec _ _ _ (by simp; omega) (by simp; omega)]
    simp only [Option.bind_some]
    rw [if_pos (show (i : Int) ≤ (xs.length : Int) by omega), ih k (i + 1) (by omega) (by omega), take_rd (by omega)]
    simp only [memB]
    by_cases h1 : 0 ≤ rd xs (i : Int) ∧ rd xs (i : Int) < wrap64 (n - 1) + 1
    · rw [decide_eq_true h1, decide_eq_true (show 0 ≤ rd xs (i : Int) ∧ rd xs (i : Int) ≤ wrap64 (n - 1) by omega), if_pos rfl]
      have h2 := idxM_nonneg (xs.take i) (rd xs (i : Int)) 0
      by_cases h3 : rd xs (i : Int) ∈ xs.take i
      · rw [if_pos (h2.2 h3), decide_eq_true h3]; rfl
      · rw [if_neg (fun h => h3 (h2.1 h)), decide_eq_false h3]; rfl
    · rw [decide_eq_false h1, decide_eq_false (show ¬ (0 ≤ rd xs (i : Int) ∧ rd xs (i : Int) ≤ wrap64 (n - 1)) by omega), if_neg (by decide)]; rfl
theorem validMembers_any (k : Nat) (xs : List Int) (n : Int) (hb : xs.length < 4611686018427387904) (hk : xs.length + xs.length < k) : spec_validMembers.f k xs n = some (decide (GoodM xs (wrap64 (n - 1) + 1))) := by
  unfold spec_validMembers.f
  have := validMembers_l0 xs n hb xs.length k 0 (by omega) hk
  rw [← memB_good]
  simpa using this
theorem validMembers_spec (k : Nat) (xs : List Int) (n : Int) (hn : -4611686018427387904 ≤ n) (hn2 : n ≤ 4611686018427387904) (hb : xs.length < 4611686018427387904) (hk : xs.length + xs.length < k) : spec_validMembers.f k xs n = some (decide (GoodM xs n)) := by
  rw [validMembers_any k xs n hb hk, wrap_id (x := n - 1) (by omega) (by omega), Int.sub_add_cancel]

/-! ### loansspec -/
theorem specValidLoans_out (list : List S56) (n : Int) (hn : ¬ (1 ≤ n ∧ n ≤ 12)) (hl : list.length ≤ 1048576) (hg : ∀ l ∈ list, l.f2.length ≤ 1048576) : ∀ (d k i : Nat), i + d = list.length → d + 2097200 < k →
    spec_validLoans.l0 k list n (i : Int) = some false := by
  intro d
  induction d with
  | zero =>
    intro k i hi hk
    obtain ⟨k, rfl, -⟩ := fuel (show 0 < k by omega)
    simp only [spec_validLoans.l0]
    rw [if_neg (by omega), inRange_spec, decide_eq_false hn]
    simp
  | succ d ih =>
    intro k i hi hk
    obtain ⟨k, rfl, hk⟩ := fuel (show d + 2097200 < k by omega)
    simp only [spec_validLoans.l0]
    rw [if_pos (by omega), if_pos (by omega), inRange_spec, inRange_spec]
    have hgl := hg _ (rdT_mem (xs := list) (i := i) (by omega))
    generalize rd_T56 list (i : Int) = l at hgl ⊢
    rw [validMembers_any _ _ _ (by omega) (by omega), placeIn_spec _ _ _ (by omega) (by omega), wrap_succ (i := i) (by omega), ih k (i + 1) (by omega) (by omega)]
    simp only [Option.bind_some, ite_self]
theorem specValidLoans_l0 (list : List S56) (n : Int) (hn1 : 1 ≤ n) (hn2 : n ≤ 12) (hl : list.length ≤ 1048576) (hg : ∀ l ∈ list, l.f2.length ≤ 1048576) : ∀ (d k i : Nat), i + d = list.length → d + 2097200 < k →
    spec_validLoans.l0 k list n (i : Int) = some (decide (list.length ≤ 16 ∧ ∀ l ∈ list.drop i, OkLoan l n)) := by
  intro d
  induction d with
  | zero =>
    intro k i hi hk
    obtain ⟨k, rfl, -⟩ := fuel (show 0 < k by omega)
    simp only [spec_validLoans.l0]
    rw [if_neg (by omega), drop_end (by omega), inRange_spec, decide_eq_true (show 1 ≤ n ∧ n ≤ 12 from ⟨hn1, hn2⟩)]
    by_cases h : (list.length : Int) ≤ 16
    · rw [if_pos h, decide_eq_true]
      · rfl
      · exact ⟨by omega, by simp⟩
    · rw [if_neg h, decide_eq_false]; rintro ⟨h2, -⟩; omega
  | succ d ih =>
    intro k i hi hk
    obtain ⟨k, rfl, hk⟩ := fuel (show d + 2097200 < k by omega)
    simp only [spec_validLoans.l0]
    rw [if_pos (by omega), if_pos (by omega), inRange_spec, inRange_spec, drop_rdT (by omega)]
    have hgl := hg _ (rdT_mem (xs := list) (i := i) (by omega))
    generalize rd_T56 list (i : Int) = l at hgl ⊢
    rw [validMembers_spec _ _ _ (by omega) (by omega) (by omega) (by omega), placeIn_spec _ _ _ (by omega) (by omega), wrap_succ (i := i) (by omega), ih k (i + 1) (by omega) (by omega), wrap_id (x := n - 1) (by omega) (by omega)]
    simp only [Option.bind_some, List.forall_mem_cons]
    by_cases h1 : 0 ≤ l.f0 ∧ l.f0 ≤ n - 1
    · rw [decide_eq_true h1, if_pos rfl]
      by_cases h2 : 1 ≤ l.f1 ∧ l.f1 ≤ 100000
      · rw [decide_eq_true h2, if_pos rfl]
        by_cases h3 : (l.f2.length : Int) = 0
        · rw [if_pos h3, decide_eq_false]; rintro ⟨-, h, -⟩; have := h.2.2.2.2.1; omega
        · rw [if_neg h3]
          by_cases h4 : GoodM l.f2 n
          · rw [decide_eq_true h4, if_pos rfl]
            have hm := idxM_nonneg l.f2 l.f0 0
            by_cases h5 : l.f0 ∈ l.f2
            · rw [if_pos (hm.2 h5), decide_eq_false]; rintro ⟨-, h, -⟩; exact h.2.2.2.2.2.2 h5
            · rw [if_neg (fun h => h5 (hm.1 h))]
              congr 1
              rw [decide_eq_decide]
              exact ⟨fun h => ⟨h.1, ⟨by omega, by omega, by omega, by omega, by omega, h4, h5⟩, h.2⟩, fun h => ⟨h.1, h.2.2⟩⟩
          · rw [decide_eq_false h4, if_neg (by decide), decide_eq_false]; rintro ⟨-, h, -⟩; exact h4 h.2.2.2.2.2.1
      · rw [decide_eq_false h2, if_neg (by decide), decide_eq_false]; rintro ⟨-, h, -⟩; exact h2 ⟨h.2.2.1, h.2.2.2.1⟩
    · rw [decide_eq_false h1, if_neg (by decide), decide_eq_false]; rintro ⟨-, h, -⟩; exact h1 ⟨h.1, by have := h.2.1; omega⟩
theorem specValidLoans_spec (k : Nat) (list : List S56) (n : Int) (hl : list.length ≤ 1048576) (hg : ∀ l ∈ list, l.f2.length ≤ 1048576) (hk : 3145800 < k) : spec_validLoans.f k list n = some (decide (OkLoans list n)) := by
  unfold spec_validLoans.f
  by_cases h : 1 ≤ n ∧ n ≤ 12
  · have := specValidLoans_l0 list n h.1 h.2 hl hg list.length k 0 (by omega) (by omega)
    rw [show (0 : Int) = ((0 : Nat) : Int) from rfl, this]
    congr 1
    rw [decide_eq_decide, List.drop_zero]
    exact ⟨fun h2 => ⟨h2.1, h.1, h.2, h2.2⟩, fun h2 => ⟨h2.1, h2.2.2.2⟩⟩
  · have := specValidLoans_out list n h hl hg list.length k 0 (by omega) (by omega)
    rw [show (0 : Int) = ((0 : Nat) : Int) from rfl, this, decide_eq_false]
    rintro ⟨-, h1, h2, -⟩
    exact h ⟨h1, h2⟩

/-! ### failloan -/
theorem OkStakes.okx {xs : List Int} (h : OkStakes xs) : OkX xs.length xs := ⟨rfl, h.2.2⟩
/-- The stakes after a loan has failed, and what is lost. -/
def failLM (ss : List Int) (ls : List S56) (i : Int) : List Int × Int :=
  if OkStakes ss ∧ OkLoans ls (ss.length : Int) ∧ 0 ≤ i ∧ i < (ls.length : Int) then failLoanM ss (rd_T56 ls i).f0 (rd_T56 ls i).f1 (rd_T56 ls i).f2 else ([], -1)
theorem failLM_neg {ss : List Int} {ls : List S56} {i : Int} (h : ¬ (OkStakes ss ∧ OkLoans ls (ss.length : Int) ∧ 0 ≤ i ∧ i < (ls.length : Int))) : failLM ss ls i = ([], -1) := if_neg h
theorem failLM_pos {ss : List Int} {ls : List S56} {i : Int} (h : OkStakes ss ∧ OkLoans ls (ss.length : Int) ∧ 0 ≤ i ∧ i < (ls.length : Int)) : failLM ss ls i = failLoanM ss (rd_T56 ls i).f0 (rd_T56 ls i).f1 (rd_T56 ls i).f2 := if_pos h
theorem loanL_at {ls : List S56} {n i : Int} (h : OkLoans ls n) (h0 : 0 ≤ i) (h1 : i < (ls.length : Int)) : OkLoan (rd_T56 ls i) n := by
  obtain ⟨i, rfl⟩ := Int.eq_ofNat_of_zero_le h0
  exact h.2.2.2 _ (rdT_mem (by omega))
theorem clone_spec (l : List Int) (h : l.length ≤ 1000) : slices_Clone_int_int.f l = some l := by
  unfold slices_Clone_int_int.f
  simp
  omega
theorem implFailLoan_spec (k : Nat) (ss : List Int) (ls : List S56) (i : Int) (hl : ls.length ≤ 1048576) (hg : ∀ l ∈ ls, l.f2.length ≤ 1048576) (hk : 1048700 < k) : impl_FailLoan.f k ss ls i = some (failLM ss ls i) := by
  unfold impl_FailLoan.f
  rw [implStakes_spec k ss (by omega), Option.bind_some]
  obtain ⟨k, rfl, hk'⟩ := fuel hk
  simp only [impl_FailLoan.j0, if_true]
  by_cases h1 : OkStakes ss
  · rw [decide_eq_true h1, if_pos rfl, implValidLoans_spec _ ls _ hl hg (by omega), Option.bind_some]
    by_cases h2 : OkLoans ls (ss.length : Int)
    · rw [decide_eq_true h2, if_pos rfl]
      by_cases h3 : i < 0
      · rw [if_pos h3, failLM_neg (by omega)]
      · rw [if_neg h3]
        by_cases h4 : i ≥ (ls.length : Int)
        · rw [decide_eq_true h4, if_pos rfl, failLM_neg (by omega)]
        · have hn := h1.2.1
          have h5 := h2.1
          obtain ⟨un, hu⟩ := implFailOne_spec ss.length ss h1.okx _ (loanL_at h2 (show 0 ≤ i by omega) (by omega)) hn k (by omega)
          rw [decide_eq_false h4, if_neg (by decide), clone_spec _ (by omega), Option.bind_some, if_pos (by omega), if_pos (by omega), hu, Option.bind_some, failLM_pos ⟨h1, h2, by omega, by omega⟩]
    · rw [decide_eq_false h2, if_neg (by decide), failLM_neg (fun h => h2 h.2.1)]
  · rw [decide_eq_false h1, if_neg (by decide), failLM_neg (fun h => h1 h.1)]
theorem specFailLoan_spec (k : Nat) (ss : List Int) (ls : List S56) (i : Int) (hl : ls.length ≤ 1048576) (hg : ∀ l ∈ ls, l.f2.length ≤ 1048576) (hk : 3145800 < k) : spec_FailLoan.f k ss ls i = some (failLM ss ls i) := by
  unfold spec_FailLoan.f
  rw [specStakes_spec k ss (by omega), Option.bind_some]
  by_cases h1 : OkStakes ss
  · rw [decide_eq_true h1, if_pos rfl, specValidLoans_spec _ ls _ hl hg (by omega), Option.bind_some]
    by_cases h2 : OkLoans ls (ss.length : Int)
    · rw [decide_eq_true h2, if_pos rfl, inRange_spec, Option.bind_some, wrap_id (by omega) (by omega)]
      by_cases h3 : 0 ≤ i ∧ i < (ls.length : Int)
      · have hn := h1.2.1
        obtain ⟨un, hu⟩ := specFailOne_spec ss.length ss h1.okx _ (loanL_at h2 h3.1 h3.2) hn k (by omega)
        rw [decide_eq_true (show 0 ≤ i ∧ i ≤ (ls.length : Int) - 1 by omega), if_pos rfl, if_pos h3.1, if_pos h3.2, hu, Option.bind_some, failLM_pos ⟨h1, h2, h3⟩]
      · rw [decide_eq_false (show ¬ (0 ≤ i ∧ i ≤ (ls.length : Int) - 1) by omega), if_neg (by decide), failLM_neg (fun h => h3 h.2.2)]
    · rw [decide_eq_false h2, if_neg (by decide), failLM_neg (fun h => h2 h.2.1)]
  · rw [decide_eq_false h1, if_neg (by decide), failLM_neg (fun h => h1 h.1)]

/-! ### exactints -/
theorem toIntS_l0 (xs : List Int) (hb : xs.length < 4611686018427387904) : ∀ (d k i : Nat), i + d = xs.length → d < k → laws_toIntS.l0 k xs (xs.take i ++ List.replicate d 0) (i : Int) = some xs := by
  intro d
  induction d with
  | zero =>
    intro k i hi hk
    obtain ⟨k, rfl, -⟩ := fuel hk
    have e : xs.take i = xs := List.take_of_length_le (by omega)
    simp only [laws_toIntS.l0]
    rw [if_neg (by omega), e]; simp
  | succ d ih =>
    intro k i hi hk
    obtain ⟨k, rfl, hk⟩ := fuel hk
    have hti : (xs.take i).length = i := by simp; omega
    have := ih k (i + 1) (by omega) (by omega)
    rw [take_rd (by omega)] at this
    simp only [laws_toIntS.l0]
    rw [if_pos (by omega), if_pos (by omega), if_pos (by simp; omega), toNat_cast, set_fill' hti, wrap_succ (by omega)]
    exact this
theorem toIntS_spec (k : Nat) (xs : List Int) (hb : xs.length ≤ 35184372088832) (hk : xs.length < k) : laws_toIntS.f k xs = some xs := by
  unfold laws_toIntS.f
  have := toIntS_l0 xs (by omega) xs.length k 0 (by omega) hk
  rw [if_pos (by omega), if_pos (by simpa using hb), toNat_cast]
  simpa using this
theorem eqIntS_l0 (a b : List Int) (hl : a.length = b.length) (hb : a.length < 4611686018427387904) : ∀ (d k i : Nat), i + d = a.length → d < k → laws_eqIntS.l0 k a b (i : Int) = some (decide (a.drop i = b.drop i)) := by
  intro d
  induction d with
  | zero =>
    intro k i hi hk
    obtain ⟨k, rfl, -⟩ := fuel hk
    simp only [laws_eqIntS.l0]
    rw [if_neg (by omega), drop_end (by omega), drop_end (by omega)]
    simp
  | succ d ih =>
    intro k i hi hk
    obtain ⟨k, rfl, hk⟩ := fuel hk
    simp only [laws_eqIntS.l0]
    rw [if_pos (by omega), if_pos (by omega), if_pos (by omega), wrap_succ (by omega), drop_rd (xs := a) (i := i) (by omega), drop_rd (xs := b) (i := i) (by omega)]
    by_cases e : rd a (i : Int) = rd b (i : Int)
    · rw [if_pos e, ih k (i + 1) (by omega) (by omega), e]; simp
    · rw [if_neg e]; simp [e]
theorem eqIntS_spec (k : Nat) (a b : List Int) (hb : a.length < 4611686018427387904) (hk : a.length < k) : laws_eqIntS.f k a b = some (decide (a = b)) := by
  unfold laws_eqIntS.f
  by_cases h : a.length = b.length
  · first | rw [if_pos (by omega)] | rw [if_neg (by omega)]
    have := eqIntS_l0 a b h hb a.length k 0 (by omega) hk
    simpa using this
  · first | rw [if_neg (by omega)] | rw [if_pos (by omega)]
    have : a ≠ b := fun e => h (by rw [e])
    simp [this]

/-! ### exactloans -/
def convM (x : S68) : S56 := ⟨x.f0, x.f1, x.f2⟩
theorem rdA_at {xs : List S68} {i : Nat} (h : i < xs.length) : rd_T68 xs (i : Int) = xs[i] := by
  simp [rd_T68, List.getD_eq_getElem?_getD, List.getElem?_eq_getElem h]
theorem takeA {xs : List S68} {i : Nat} (h : i < xs.length) : xs.take (i + 1) = xs.take i ++ [rd_T68 xs (i : Int)] := by
  rw [rdA_at h, List.take_succ_eq_append_getElem h]
theorem toLoanS_l0 (xs : List S68) (hb : xs.length ≤ 1048576) (hg : ∀ x ∈ xs, x.f2.length ≤ 1048576) : ∀ (d k i : Nat), i + d = xs.length → d + 1048580 < k → laws_toLoanS.l0 k xs ((xs.take i).map convM ++ List.replicate d z56) (i : Int) = some (xs.map convM) := by
  intro d
  induction d with
  | zero =>
    intro k i hi hk
    obtain ⟨k, rfl, -⟩ := fuel (show 0 < k by omega)
    have e : xs.take i = xs := List.take_of_length_le (by omega)
    simp only [laws_toLoanS.l0]
    rw [if_neg (by omega), e]; simp
  | succ d ih =>
    intro k i hi hk
    obtain ⟨k, rfl, hk⟩ := fuel (show d + 1048580 < k by omega)
    have hti : ((xs.take i).map convM).length = i := by simp; omega
    have hgi := hg (rd_T68 xs (i : Int)) (by rw [rdA_at (by omega)]; exact List.getElem_mem (by omega))
    have := ih k (i + 1) (by omega) (by omega)
    rw [takeA (by omega), List.map_append] at this
    simp only [laws_toLoanS.l0, laws_toLoan.f]
    rw [if_pos (by omega), if_pos (by omega), toIntS_spec _ _ (by omega) (by omega), Option.bind_some, Option.bind_some, if_pos (by simp; omega), toNat_cast, set_fill' hti, wrap_succ (by omega)]
    exact this
theorem toLoanS_spec (k : Nat) (xs : List S68) (hb : xs.length ≤ 1048576) (hg : ∀ x ∈ xs, x.f2.length ≤ 1048576) (hk : 2097200 < k) : laws_toLoanS.f k xs = some (xs.map convM) := by
  unfold laws_toLoanS.f
  have := toLoanS_l0 xs hb hg xs.length k 0 (by omega) (by omega)
  rw [if_pos (by omega), if_pos (by omega), toNat_cast]
  simpa using this
theorem szLoanS_l0 (xs : List S68) (hb : xs.length ≤ 1048576) (hg : ∀ x ∈ xs, x.f2.length ≤ maxLen) : ∀ (d k i : Nat) (a : Int), i + d = xs.length → d < k → 0 ≤ a → a ≤ 1048576 →
    ∃ r, laws_szLoanS.l0 k xs a (i : Int) = some r ∧ (0 ≤ r → r ≤ a ∧ ∀ x ∈ xs.drop i, x.f2.length ≤ 1048576) := by
  have hbig : maxLen ≤ 9223372036854775807 := by decide
  intro d
  induction d with
  | zero =>
    intro k i a hi hk h0 h1
    obtain ⟨k, rfl, -⟩ := fuel hk
    simp only [laws_szLoanS.l0]
    rw [if_neg (by omega), drop_end (by omega)]
    exact ⟨a, rfl, fun _ => ⟨Int.le_refl _, by simp⟩⟩
  | succ d ih =>
    intro k i a hi hk h0 h1
    obtain ⟨k, rfl, hk⟩ := fuel hk
    have hgi := hg (rd_T68 xs (i : Int)) (by rw [rdA_at (by omega)]; exact List.getElem_mem (by omega))
    have hd : xs.drop i = rd_T68 xs (i : Int) :: xs.drop (i + 1) := by rw [rdA_at (by omega), List.drop_eq_getElem_cons (by omega)]
    simp only [laws_szLoanS.l0, laws_szLoan.f, laws_szIntS.f]
    rw [if_pos (by omega), if_pos (by omega), wrap_id (x := a - ((rd_T68 xs (i : Int)).f2.length : Int)) (by omega) (by omega)]
    by_cases h : a - ((rd_T68 xs (i : Int)).f2.length : Int) < 0
    · rw [if_pos h]
      exact ⟨-1, by simp, fun h => by omega⟩
    · rw [if_neg h, Option.bind_some, if_neg h, Option.bind_some, if_neg h, wrap_succ (by omega)]
      obtain ⟨r, hr, h2⟩ := ih k (i + 1) _ (by omega) (by omega) (Int.not_lt.1 h) (by omega)
      refine ⟨r, hr, fun h3 => ?_⟩
      obtain ⟨h4, h5⟩ := h2 h3
      refine ⟨by omega, fun x hx => ?_⟩
      rw [hd] at hx
      rcases List.mem_cons.1 hx with e | e
      · rw [e]; omega
      · exact h5 x e
theorem szLoanS_spec (k : Nat) (xs : List S68) (hb : xs.length ≤ maxLen) (hg : ∀ x ∈ xs, x.f2.length ≤ maxLen) (a : Int) (h0 : 0 ≤ a) (h1 : a ≤ 1048576) (hk : 1048580 < k) :
    ∃ r, laws_szLoanS.f k xs a = some r ∧ (0 ≤ r → r ≤ a ∧ xs.length ≤ 1048576 ∧ ∀ x ∈ xs, x.f2.length ≤ 1048576) := by
  have hbig : maxLen ≤ 9223372036854775807 := by decide
  unfold laws_szLoanS.f
  rw [wrap_id (x := a - (xs.length : Int)) (by omega) (by omega)]
  by_cases h : a - (xs.length : Int) < 0
  · rw [if_pos h]
    exact ⟨-1, rfl, fun h => by omega⟩
  · rw [if_neg h]
    obtain ⟨r, hr, h2⟩ := szLoanS_l0 xs (by omega) hg xs.length k 0 (a - (xs.length : Int)) (by omega) (by omega) (by omega) (by omega)
    refine ⟨r, hr, fun h3 => ?_⟩
    obtain ⟨h4, h5⟩ := h2 h3
    rw [List.drop_zero] at h5
    exact ⟨by omega, by omega, h5⟩
theorem eqLoanS_l0 (a : List S56) (hb : a.length ≤ 1048576) (hg : ∀ x ∈ a, x.f2.length ≤ 1048576) : ∀ (d k i : Nat), i + d = a.length → d + 1048580 < k → laws_eqLoanS.l0 k a a (i : Int) = some true := by
  intro d
  induction d with
  | zero =>
    intro k i hi hk
    obtain ⟨k, rfl, -⟩ := fuel (show 0 < k by omega)
    simp only [laws_eqLoanS.l0]
    rw [if_neg (by omega)]
  | succ d ih =>
    intro k i hi hk
    obtain ⟨k, rfl, hk⟩ := fuel (show d + 1048580 < k by omega)
    have hgi := hg (rd_T56 a (i : Int)) (rdT_mem (by omega))
    simp only [laws_eqLoanS.l0, laws_eqLoan.f]
    rw [if_pos (by omega), if_pos (by omega), wrap_succ (by omega), eqIntS_spec _ _ _ (by omega) (by omega)]
    simp only [if_true, Option.bind_some, decide_true]
    rw [if_pos (by omega)]
    exact ih k (i + 1) (by omega) (by omega)
theorem eqLoanS_self (k : Nat) (a : List S56) (hb : a.length ≤ 1048576) (hg : ∀ x ∈ a, x.f2.length ≤ 1048576) (hk : 2097200 < k) : laws_eqLoanS.f k a a = some true := by
  unfold laws_eqLoanS.f
  have := eqLoanS_l0 a hb hg a.length k 0 (by omega) (by omega)
  rw [if_pos rfl]
  exact this

/-! ### marks -/
/-- Numbers one after the other. -/
def markI (n : Nat) (a : Int) : List Int := (List.range n).map fun i : Nat => a + (i : Int)
theorem markI_length (n : Nat) (a : Int) : (markI n a).length = n := by simp [markI]
theorem markI_succ (n : Nat) (a : Int) : markI (n + 1) a = markI n a ++ [a + (n : Int)] := by simp [markI, List.range_succ]
theorem markI_rd {n i : Nat} (a : Int) (h : i < n) : rd (markI n a) (i : Int) = a + (i : Int) := by rw [markI, rd_mapRange h]
theorem markIntS_l0 (xs : List Int) (a : Int) (ha : 0 ≤ a ∧ a ≤ 1000000000) (hb : xs.length ≤ 1000000000) : ∀ (d k i : Nat), i + d = xs.length → d < k → laws_markIntS.l0 k (markI i a ++ xs.drop i) (a + (i : Int)) (i : Int) = some (a + (xs.length : Int), markI xs.length a) := by
  intro d
  induction d with
  | zero =>
    intro k i hi hk
    obtain ⟨k, rfl, -⟩ := fuel hk
    simp only [laws_markIntS.l0]
    rw [if_neg (by rw [List.length_append, markI_length, List.length_drop]; omega), drop_end (by omega), List.append_nil, show i = xs.length by omega]
  | succ d ih =>
    intro k i hi hk
    obtain ⟨k, rfl, hk⟩ := fuel hk
    simp only [laws_markIntS.l0]
    rw [if_pos (by rw [List.length_append, markI_length, List.length_drop]; omega), if_pos (by omega), toNat_cast, wrap_succ (by omega), wrap_id (by omega) (by omega)]
    have := ih k (i + 1) (by omega) (by omega)
    have e : (markI i a ++ xs.drop i).set i (a + (i : Int)) = markI (i + 1) a ++ xs.drop (i + 1) := by
      rw [drop_rd (by omega), markI_succ, List.set_append_right _ _ (by rw [markI_length]; omega), markI_length, Nat.sub_self, List.set_cons_zero, List.append_assoc]
      rfl
    rw [e, show a + (i : Int) + 1 = a + ((i + 1 : Nat) : Int) by omega]
    exact this
theorem markIntS_spec (k : Nat) (xs : List Int) (a : Int) (ha : 0 ≤ a ∧ a ≤ 1000000000) (hb : xs.length ≤ 1000000000) (hk : xs.length < k) : laws_markIntS.f k xs a = some (a + (xs.length : Int), markI xs.length a) := by
  unfold laws_markIntS.f
  have := markIntS_l0 xs a ha hb xs.length k 0 (by omega) hk
  simpa [markI] using this
theorem heldIntS_l0 (n : Nat) (a : Int) (ha : 0 ≤ a ∧ a ≤ 1000000000) (hb : n ≤ 1000000000) : ∀ (d k i : Nat), i + d = n → d < k → laws_heldIntS.l0 k (markI n a) (a + (i : Int)) (i : Int) = some (a + (n : Int)) := by
  intro d
  induction d with
  | zero =>
    intro k i hi hk
    obtain ⟨k, rfl, -⟩ := fuel hk
    simp only [laws_heldIntS.l0]
    rw [if_neg (by rw [markI_length]; omega), show i = n by omega]
  | succ d ih =>
    intro k i hi hk
    obtain ⟨k, rfl, hk⟩ := fuel hk
    simp only [laws_heldIntS.l0]
    rw [if_pos (by rw [markI_length]; omega), if_pos (by omega), if_pos (markI_rd a (by omega)), wrap_succ (by omega), wrap_id (by omega) (by omega)]
    have := ih k (i + 1) (by omega) (by omega)
    rw [show a + (i : Int) + 1 = a + ((i + 1 : Nat) : Int) by omega]
    exact this
theorem heldIntS_spec (k n : Nat) (a : Int) (ha : 0 ≤ a ∧ a ≤ 1000000000) (hb : n ≤ 1000000000) (hk : n < k) : laws_heldIntS.f k (markI n a) a = some (a + (n : Int)) := by
  unfold laws_heldIntS.f
  have := heldIntS_l0 n a ha hb n k 0 (by omega) hk
  simpa using this

/-! ### markloans -/
theorem markIntS_l0b (xs : List Int) (a : Int) (ha : 0 ≤ a ∧ a ≤ 1000000000000000000) (hb : xs.length ≤ 1000000000) : ∀ (d k i : Nat), i + d = xs.length → d < k → laws_markIntS.l0 k (markI i a ++ xs.drop i) (a + (i : Int)) (i : Int) = some (a + (xs.length : Int), markI xs.length a) := by
  intro d
  induction d with
  | zero =>
    intro k i hi hk
    obtain ⟨k, rfl, -⟩ := fuel hk
    simp only [laws_markIntS.l0]
    rw [if_neg (by rw [List.length_append, markI_length, List.length_drop]; omega), drop_end (by omega), List.append_nil, show i = xs.length by omega]
  | succ d ih =>
    intro k i hi hk
    obtain ⟨k, rfl, hk⟩ := fuel hk
    simp only [laws_markIntS.l0]
    rw [if_pos (by rw [List.length_append, markI_length, List.length_drop]; omega), if_pos (by omega), toNat_cast, wrap_succ (by omega), wrap_id (by omega) (by omega)]
    have := ih k (i + 1) (by omega) (by omega)
    have e : (markI i a ++ xs.drop i).set i (a + (i : Int)) = markI (i + 1) a ++ xs.drop (i + 1) := by
      rw [drop_rd (by omega), markI_succ, List.set_append_right _ _ (by rw [markI_length]; omega), markI_length, Nat.sub_self, List.set_cons_zero, List.append_assoc]
      rfl
    rw [e, show a + (i : Int) + 1 = a + ((i + 1 : Nat) : Int) by omega]
    exact this
theorem markIntS_big (k : Nat) (xs : List Int) (a : Int) (ha : 0 ≤ a ∧ a ≤ 1000000000000000000) (hb : xs.length ≤ 1000000000) (hk : xs.length < k) : laws_markIntS.f k xs a = some (a + (xs.length : Int), markI xs.length a) := by
  unfold laws_markIntS.f
  have := markIntS_l0b xs a ha hb xs.length k 0 (by omega) hk
  simpa [markI] using this
theorem markLoanS_l0 : ∀ (d k i : Nat) (xs : List S56) (a : Int), xs.length ≤ 1048576 → (∀ x ∈ xs, x.f2.length ≤ 1048576) → i + d = xs.length → 1048600 + d < k → 0 ≤ a → a ≤ 2000000 + 1048578 * (i : Int) → ∃ r, laws_markLoanS.l0 k xs a (i : Int) = some r ∧ 0 ≤ r := by
  intro d
  induction d with
  | zero =>
    intro k i xs a hb hg hi hk h0 h1
    obtain ⟨k, rfl, -⟩ := fuel hk
    simp only [laws_markLoanS.l0]
    rw [if_neg (by omega)]
    exact ⟨a, rfl, h0⟩
  | succ d ih =>
    intro k i xs a hb hg hi hk h0 h1
    obtain ⟨k, rfl, hk⟩ := fuel hk
    have hgi := hg (rd_T56 xs (i : Int)) (by simp [rd_T56, List.getD_eq_getElem?_getD, List.getElem?_eq_getElem (show i < xs.length by omega)])
    simp only [laws_markLoanS.l0]
    rw [if_pos (by omega), if_pos (by omega), wrap_id (x := a + 1) (by omega) (by omega), wrap_id (x := a + 1 + 1) (by omega) (by omega), markIntS_big _ _ _ (by omega) (by omega) (by omega), Option.bind_some, toNat_cast, wrap_succ (by omega)]
    refine ih k (i + 1) _ _ (by simpa using hb) (fun x hx => ?_) (by simp; omega) (by omega) (by simp only []; omega) (by simp only []; omega)
    rcases List.mem_or_eq_of_mem_set hx with h | h
    · exact hg x h
    · rw [h]; simp only [markI_length]; exact hgi
theorem markLoanS_spec (k : Nat) (xs : List S56) (a : Int) (ha : 0 ≤ a ∧ a ≤ 2000000) (hb : xs.length ≤ 1048576) (hg : ∀ x ∈ xs, x.f2.length ≤ 1048576) (hk : 2097200 < k) : ∃ r, laws_markLoanS.f k xs a = some r ∧ 0 ≤ r := by
  unfold laws_markLoanS.f
  exact markLoanS_l0 xs.length k 0 xs a hb hg (by omega) (by omega) (by omega) (by omega)

/-! ### the law -/
theorem FnExactFailLoan (l0 : List (Int)) (l1 : List (S68)) (a2 : Int) (h0 : l0.length ≤ maxLen) (q0 : ∀ x2 ∈ l0, (Lit.int .i64 x2).wf = true) (h1 : l1.length ≤ maxLen) (q1 : ∀ x2 ∈ l1, ((Lit.int .i64 x2.f0).wf = true ∧ (Lit.int .i64 x2.f1).wf = true ∧ (x2.f2.length ≤ maxLen ∧ ∀ x5 ∈ x2.f2, (Lit.int .i64 x5).wf = true))) (w2 : (Lit.int .i64 a2).wf = true) : laws_FnExactFailLoan.f 4000000 l0 l1 a2 = some true := by
  unfold laws_FnExactFailLoan.f
  by_cases hs : (l0.length : Int) > 1048576
  · rw [if_pos hs]
  rw [if_neg hs]
  obtain ⟨r, hr, hl⟩ := szLoanS_spec 4000000 l1 h1 (fun x hx => (q1 x hx).2.2.1) 1048576 (by omega) (by omega) (by omega)
  rw [hr, Option.bind_some]
  by_cases h2 : r < 0
  · rw [if_pos h2]
  · obtain ⟨-, hb, hg⟩ := hl (by omega)
    have m1 : (l1.map convM).length ≤ 1048576 := by simpa using hb
    have m2 : ∀ x ∈ l1.map convM, x.f2.length ≤ 1048576 := by
      intro x hx
      obtain ⟨y, hy, rfl⟩ := List.mem_map.1 hx
      exact hg y hy
    have hi : ∀ k, 3999900 < k → impl_FailLoan.f k l0 (l1.map convM) a2 = some (failLM l0 (l1.map convM) a2) := fun k hk => implFailLoan_spec _ _ _ _ m1 m2 (by omega)
    have hsp := specFailLoan_spec 4000000 l0 (l1.map convM) a2 m1 m2 (by omega)
    have hn : (failLM l0 (l1.map convM) a2).1.length ≤ 1048576 := by
      by_cases h : OkStakes l0 ∧ OkLoans (l1.map convM) (l0.length : Int) ∧ 0 ≤ a2 ∧ a2 < ((l1.map convM).length : Int)
      · rw [failLM_pos h]
        have hL : OkLoan (rd_T56 (l1.map convM) a2) (l0.length : Int) := loanL_at h.2.1 h.2.2.1 h.2.2.2
        have q := (failLoan_facts _ _ h.1.okx _ hL h.1.2.1).1.1
        rw [q]; omega
      · rw [failLM_neg h]; simp
    generalize failLM l0 (l1.map convM) a2 = F at *
    obtain ⟨t, ht1, ht2⟩ := markLoanS_spec 3999999 (l1.map convM) (1 + (l0.length : Int)) (by omega) m1 m2 (by omega)
    rw [if_neg h2, toIntS_spec _ _ (by omega) (by omega), Option.bind_some, toLoanS_spec _ _ hb hg (by omega), Option.bind_some, hsp, Option.bind_some, Option.bind_some, Option.bind_some, hi _ (by omega), Option.bind_some, eqIntS_spec _ _ _ (by omega) (by omega), Option.bind_some, if_pos (by simp)]
    obtain ⟨k, hk, hk2⟩ : ∃ k : Nat, 3999999 = k + 1 ∧ 3999997 < k := ⟨3999998, by omega, by omega⟩
    rw [show (4000000 : Nat) = 3999999 + 1 from rfl]
    simp only [laws_FnExactFailLoan.j0]
    rw [if_neg (by simp), toIntS_spec _ _ (by omega) (by omega), Option.bind_some, eqIntS_spec _ _ _ (by omega) (by omega), Option.bind_some, if_pos (by simp), toLoanS_spec _ _ hb hg (by omega), Option.bind_some, eqLoanS_self _ _ m1 m2 (by omega), Option.bind_some, if_pos rfl, markIntS_spec _ _ _ (by omega) (by omega) (by omega), Option.bind_some, ht1, Option.bind_some, if_neg (by omega), eqIntS_spec _ _ _ (by omega) (by omega), Option.bind_some, if_pos (by simp)]
    rw [hk]
    simp only [laws_FnExactFailLoan.j1]
    obtain ⟨j, hj, hj2⟩ : ∃ j : Nat, k = j + 1 ∧ 3999990 < j := ⟨k - 1, by omega, by omega⟩
    rw [if_neg (by simp), markIntS_spec _ _ _ (by omega) (by omega) (by omega), Option.bind_some, heldIntS_spec _ _ _ (by omega) (by omega) (by omega), Option.bind_some, if_neg (by omega), if_pos rfl, toIntS_spec _ _ (by omega) (by omega), Option.bind_some, toLoanS_spec _ _ hb hg (by omega), Option.bind_some, hi _ (by omega), Option.bind_some, eqIntS_spec _ _ _ (by omega) (by omega), Option.bind_some, if_pos (by simp), hj]
    simp only [laws_FnExactFailLoan.j2]
    rw [if_neg (by simp), heldIntS_spec _ _ _ (by omega) (by omega) (by omega), Option.bind_some, if_neg (by omega), if_pos rfl]

end Go.Proofs.Ytmipmnejppoeiaa.Pure
