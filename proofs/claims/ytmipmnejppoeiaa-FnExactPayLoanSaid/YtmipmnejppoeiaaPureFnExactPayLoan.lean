/- The law FnExactPayLoan holds: the program's function answers as the reference does at every drawn input, and has the law's property; no condition. -/
import Derived.Test.YtmipmnejppoeiaaPFnExactPayLoanx6
set_option linter.unusedVariables false
set_option linter.unusedSimpArgs false
namespace Go.Proofs.Ytmipmnejppoeiaa.Pure
open Go.RowKit Go.Proofs.Ytmipmnejppoeiaa.PFnExactPayLoan Go.Proofs.YtmipmnejppoeiaaW.PrintWords Go.Proofs.YtmipmnejppoeiaaW.PrintLast Go.Proofs.YtmipmnejppoeiaaW.PrintMore

/-! ### base -/
theorem fuel {k n : Nat} (h : n < k) : ∃ m, k = m + 1 ∧ n ≤ m := ⟨k - 1, by omega, by omega⟩
theorem wrap_id {x : Int} (h1 : -9223372036854775808 ≤ x) (h2 : x ≤ 9223372036854775807) : wrap64 x = x := by unfold wrap64; omega
theorem wrap_succ {i : Nat} (h : i < 4611686018427387904) : wrap64 ((i : Int) + 1) = ((i + 1 : Nat) : Int) := by unfold wrap64; omega
theorem wrap_succ' {i : Int} (h0 : 0 ≤ i) (h : i < 4611686018427387904) : wrap64 (i + 1) = i + 1 := by unfold wrap64; omega
theorem wrap_wrap (x : Int) : wrap64 (wrap64 x) = wrap64 x := by unfold wrap64; omega
theorem wrap_add_l (x y : Int) : wrap64 (wrap64 x + y) = wrap64 (x + y) := by unfold wrap64; omega
theorem wrap_add_r (x y : Int) : wrap64 (x + wrap64 y) = wrap64 (x + y) := by unfold wrap64; omega
theorem wrap_sub_l (x y : Int) : wrap64 (wrap64 x - y) = wrap64 (x - y) := by unfold wrap64; omega
theorem rd_get {xs : List Int} {i : Nat} (h : i < xs.length) : rd xs (i : Int) = xs[i] := by
  simp [rd, List.getD_eq_getElem?_getD, List.getElem?_eq_getElem h]
theorem drop_rd {xs : List Int} {i : Nat} (h : i < xs.length) : xs.drop i = rd xs (i : Int) :: xs.drop (i + 1) := by
  rw [rd_get h, List.drop_eq_getElem_cons h]
theorem drop_end {α : Type} {xs : List α} {i : Nat} (h : xs.length ≤ i) : xs.drop i = [] := List.drop_eq_nil_of_le h
theorem take_rd {xs : List Int} {i : Nat} (h : i < xs.length) : xs.take (i + 1) = xs.take i ++ [rd xs (i : Int)] := by
  rw [rd_get h, List.take_succ_eq_append_getElem h]
theorem rd_mem {xs : List Int} {i : Nat} (h : i < xs.length) : rd xs (i : Int) ∈ xs := by
  rw [rd_get h]; exact List.getElem_mem h
theorem rd_mem' {xs : List Int} {i : Int} (h0 : 0 ≤ i) (h : i < (xs.length : Int)) : rd xs i ∈ xs := by
  obtain ⟨j, rfl⟩ := Int.eq_ofNat_of_zero_le h0
  exact rd_mem (by omega)
theorem mem_rd {xs : List Int} {x : Int} (h : x ∈ xs) : ∃ i : Nat, i < xs.length ∧ rd xs (i : Int) = x := by
  obtain ⟨i, hi, he⟩ := List.getElem_of_mem h
  exact ⟨i, hi, by rw [rd_get hi, he]⟩
theorem ext_rd {xs ys : List Int} (hl : xs.length = ys.length) (h : ∀ i : Nat, i < xs.length → rd xs (i : Int) = rd ys (i : Int)) : xs = ys := by
  apply List.ext_getElem hl
  intro i h1 h2
  have := h i h1
  rwa [rd_get h1, rd_get h2] at this
theorem rd_set {xs : List Int} {i j : Nat} {v : Int} (hj : j < xs.length) : rd (xs.set i v) (j : Int) = if i = j then v else rd xs (j : Int) := by
  rw [rd_get (by simpa using hj), rd_get hj, List.getElem_set]
theorem rd_set_ne {xs : List Int} {i j : Nat} {v : Int} (h : i ≠ j) : rd (xs.set i v) (j : Int) = rd xs (j : Int) := by
  simp only [rd, List.getD_eq_getElem?_getD, Int.toNat_natCast, List.getElem?_set_ne h]
theorem rd_append_l {xs ys : List Int} {i : Nat} (h : i < xs.length) : rd (xs ++ ys) (i : Int) = rd xs (i : Int) := by
  rw [rd_get (by simp; omega), rd_get h, List.getElem_append_left h]
theorem rd_append_r {xs ys : List Int} {i : Nat} (h : xs.length ≤ i) (h2 : i < xs.length + ys.length) : rd (xs ++ ys) (i : Int) = rd ys ((i - xs.length : Nat) : Int) := by
  rw [rd_get (by simp; omega), rd_get (by omega), List.getElem_append_right h]
theorem rd_replicate {n i : Nat} {v : Int} (h : i < n) : rd (List.replicate n v) (i : Int) = v := by
  rw [rd_get (by simpa using h)]; simp
theorem rd_mapRange {n i : Nat} {f : Nat → Int} (h : i < n) : rd ((List.range n).map f) (i : Int) = f i := by
  rw [rd_get (by simpa using h)]; simp
theorem toNat_cast (i : Nat) : ((i : Int) : Int).toNat = i := by simp
theorem mx_max (a b : Int) : mx a b = max a b := by unfold mx; omega
theorem mn_min (a b : Int) : mn a b = min a b := by unfold mn; omega
theorem bits_xor {a b : Int} (ha : 0 ≤ a) (ha2 : a < 4611686018427387904) (hb : 0 ≤ b) (hb2 : b < 4611686018427387904) : 0 ≤ Go.bits .xor .i64 a b ∧ Go.bits .xor .i64 a b < 4611686018427387904 := by
  obtain ⟨a, rfl⟩ := Int.eq_ofNat_of_zero_le ha
  obtain ⟨b, rfl⟩ := Int.eq_ofNat_of_zero_le hb
  have h1 : a < 2 ^ 62 := by omega
  have h2 : b < 2 ^ 62 := by omega
  have h3 := Nat.xor_lt_two_pow h1 h2
  have e : Go.bits .xor .i64 (a : Int) (b : Int) = IntKind.i64.wrap (((BitVec.ofInt 64 (a : Int)) ^^^ (BitVec.ofInt 64 (b : Int))).toNat : Int) := rfl
  have ha' : (BitVec.ofInt 64 (a : Int)).toNat = a := by rw [BitVec.ofInt_natCast, BitVec.toNat_ofNat]; exact Nat.mod_eq_of_lt (by omega)
  have hb' : (BitVec.ofInt 64 (b : Int)).toNat = b := by rw [BitVec.ofInt_natCast, BitVec.toNat_ofNat]; exact Nat.mod_eq_of_lt (by omega)
  rw [e, BitVec.toNat_xor, ha', hb', IntKind.wrap_i64]
  omega
theorem cast0 : ((0 : Nat) : Int) = 0 := rfl
theorem w01 : wrap64 (0 + 1) = 1 := by unfold wrap64; omega
theorem w12 : wrap64 (1 + 1) = 2 := by unfold wrap64; omega
theorem w23 : wrap64 (2 + 1) = 3 := by unfold wrap64; omega
theorem w34 : wrap64 (3 + 1) = 4 := by unfold wrap64; omega
theorem w45 : wrap64 (4 + 1) = 5 := by unfold wrap64; omega

/-! ### listm -/
theorem pigeon : ∀ (n : Nat) (xs : List Int), xs.Nodup → (∀ x ∈ xs, 0 ≤ x ∧ x < (n : Int)) → xs.length ≤ n := by
  intro n
  induction n with
  | zero =>
    intro xs _ h
    cases xs with
    | nil => simp
    | cons x xs => have := h x (by simp); omega
  | succ n ih =>
    intro xs hn h
    by_cases hm : (n : Int) ∈ xs
    · have h1 := ih (xs.erase (n : Int)) (hn.erase _) (fun x hx => by
        have h2 := (hn.mem_erase_iff).1 hx
        have h3 := h x h2.2
        have h4 := h2.1
        omega)
      rw [List.length_erase_of_mem hm] at h1
      omega
    · have h1 := ih xs hn (fun x hx => by
        have h3 := h x hx
        have h4 : x ≠ (n : Int) := fun e => hm (e ▸ hx)
        omega)
      omega
/-- Fewer different members than there are: one is missing. -/
theorem one_missing : ∀ (n : Nat) (xs : List Int), xs.length < n → ∃ j : Nat, j < n ∧ (j : Int) ∉ xs := by
  intro n
  induction n with
  | zero => intro xs h; omega
  | succ n ih =>
    intro xs h
    by_cases hm : (n : Int) ∈ xs
    · obtain ⟨j, hj, hx⟩ := ih (xs.erase (n : Int)) (by rw [List.length_erase_of_mem hm]; have := List.length_pos_of_mem hm; omega)
      refine ⟨j, by omega, fun hmem => hx ?_⟩
      exact (List.mem_erase_of_ne (by omega)).2 hmem
    · exact ⟨n, by omega, hm⟩
/-- Members, one after the other, in range and not seen yet. -/
def memB (n : Int) : List Int → List Int → Bool
  | _, [] => true
  | seen, x :: rest => decide (0 ≤ x ∧ x < n) && (!decide (x ∈ seen) && memB n (seen ++ [x]) rest)
theorem memB_iff (n : Int) : ∀ (xs seen : List Int), memB n seen xs = true ↔ (∀ x ∈ xs, 0 ≤ x ∧ x < n ∧ x ∉ seen) ∧ xs.Nodup := by
  intro xs
  induction xs with
  | nil => intro seen; simp [memB]
  | cons a xs ih =>
    intro seen
    simp only [memB, Bool.and_eq_true, decide_eq_true_eq, Bool.not_eq_true', decide_eq_false_iff_not, ih, List.mem_cons, List.mem_append, List.not_mem_nil, or_false, List.nodup_cons]
    constructor
    · rintro ⟨⟨h1, h2⟩, h3, h4, h5⟩
      refine ⟨?_, fun ha => (h4 a ha).2.2 (Or.inr rfl), h5⟩
      rintro x (rfl | hx)
      · exact ⟨h1, h2, h3⟩
      · obtain ⟨a1, a2, a3⟩ := h4 x hx
        exact ⟨a1, a2, fun h => a3 (Or.inl h)⟩
    · rintro ⟨h1, h2, h3⟩
      obtain ⟨a1, a2, a3⟩ := h1 a (Or.inl rfl)
      refine ⟨⟨a1, a2⟩, a3, fun x hx => ?_, h3⟩
      obtain ⟨b1, b2, b3⟩ := h1 x (Or.inr hx)
      refine ⟨b1, b2, ?_⟩
      rintro (h | rfl)
      · exact b3 h
      · exact h2 hx
/-- Different members of a body. -/
def GoodM (xs : List Int) (n : Int) : Prop := xs.Nodup ∧ ∀ x ∈ xs, 0 ≤ x ∧ x < n
instance (xs : List Int) (n : Int) : Decidable (GoodM xs n) := inferInstanceAs (Decidable (_ ∧ _))
theorem memB_good (n : Int) (xs : List Int) : memB n [] xs = decide (GoodM xs n) := by
  rw [Bool.eq_iff_iff, memB_iff, decide_eq_true_eq]
  unfold GoodM
  constructor
  · rintro ⟨h, hn⟩
    exact ⟨hn, fun x hx => ⟨(h x hx).1, (h x hx).2.1⟩⟩
  · rintro ⟨hn, h⟩
    exact ⟨fun x hx => ⟨(h x hx).1, (h x hx).2, by simp⟩, hn⟩
theorem GoodM.le {xs : List Int} {n : Nat} (h : GoodM xs (n : Int)) : xs.length ≤ n := pigeon n xs h.1 h.2
/-- The first place of a number behind some. -/
def idxM : List Int → Int → Nat → Int
  | [], _, _ => -1
  | y :: ys, x, i => if y = x then (i : Int) else idxM ys x (i + 1)
theorem idxM_neg : ∀ (xs : List Int) (x : Int) (i : Nat), idxM xs x i < 0 ↔ x ∉ xs := by
  intro xs
  induction xs with
  | nil => intro x i; simp [idxM]
  | cons y ys ih =>
    intro x i
    simp only [idxM]
    by_cases e : y = x
    · rw [if_pos e]; simp [e]
    · rw [if_neg e, ih]
      have e' : ¬ x = y := fun h => e h.symm
      simp [e']
theorem idxM_nonneg (xs : List Int) (x : Int) (i : Nat) : 0 ≤ idxM xs x i ↔ x ∈ xs := by
  have := idxM_neg xs x i
  by_cases h : x ∈ xs
  · simp only [h, not_true, iff_false] at this
    simp [h]; omega
  · simp only [h, not_false_iff, iff_true] at this
    simp [h]; omega
theorem idxM_at : ∀ (xs : List Int) (x : Int) (i : Nat), x ∈ xs → ∃ j : Nat, idxM xs x i = ((i + j : Nat) : Int) ∧ j < xs.length ∧ rd xs (j : Int) = x ∧ ∀ q : Nat, q < j → rd xs (q : Int) ≠ x := by
  intro xs
  induction xs with
  | nil => intro x i h; simp at h
  | cons y ys ih =>
    intro x i h
    by_cases e : y = x
    · exact ⟨0, by simp [idxM, e], by simp, by simp [rd, e], fun q hq => by omega⟩
    · have hx : x ∈ ys := by
        rcases List.mem_cons.1 h with h | h
        · exact absurd h.symm e
        · exact h
      obtain ⟨j, h1, h2, h3, h4⟩ := ih x (i + 1) hx
      refine ⟨j + 1, by simp only [idxM, if_neg e, h1]; omega, by simp; omega, ?_, ?_⟩
      · rw [← h3, rd_get (by simp; omega), rd_get h2]; simp
      · intro q hq
        cases q with
        | zero => rw [rd_get (by simp)]; simpa using e
        | succ q => have := h4 q (by omega); rw [rd_get (by simp; omega)]; rw [rd_get (by omega)] at this; simpa using this
theorem sum_set : ∀ (xs : List Int) (i : Nat) (v : Int), i < xs.length → (xs.set i v).sum = xs.sum - rd xs (i : Int) + v := by
  intro xs
  induction xs with
  | nil => intro i v h; simp at h
  | cons x xs ih =>
    intro i v h
    cases i with
    | zero => simp [rd]; omega
    | succ i =>
      have h2 : i < xs.length := by simpa using h
      have := ih i v h2
      have e : rd (x :: xs) ((i + 1 : Nat) : Int) = rd xs (i : Int) := by rw [rd_get h, rd_get h2]; simp
      simp only [List.set_cons_succ, List.sum_cons, this, e]
      omega
theorem sum_replicate0 (n : Nat) : (List.replicate n (0 : Int)).sum = 0 := by
  induction n with
  | zero => rfl
  | succ n ih => simp [List.replicate_succ, ih]
theorem set_fill {α : Type} (A : List α) (d : Nat) (z v : α) : (A ++ List.replicate (d + 1) z).set A.length v = (A ++ [v]) ++ List.replicate d z := by
  rw [List.set_append_right _ _ (Nat.le_refl _)]
  simp [List.replicate_succ]
theorem set_fill' {α : Type} {A : List α} {i d : Nat} {z v : α} (h : A.length = i) : (A ++ List.replicate (d + 1) z).set i v = (A ++ [v]) ++ List.replicate d z := by
  subst h; exact set_fill A d z v
theorem sum_bound : ∀ (xs : List Int) (lo hi : Int), (∀ x ∈ xs, lo ≤ x ∧ x ≤ hi) → (xs.length : Int) * lo ≤ xs.sum ∧ xs.sum ≤ (xs.length : Int) * hi := by
  intro xs lo hi
  induction xs with
  | nil => intro _; simp
  | cons x xs ih =>
    intro h
    have h1 := ih (fun y hy => h y (by simp [hy]))
    have h2 := h x (by simp)
    have e1 : ((x :: xs).length : Int) * lo = (xs.length : Int) * lo + lo := by simp [Int.add_mul]
    have e2 : ((x :: xs).length : Int) * hi = (xs.length : Int) * hi + hi := by simp [Int.add_mul]
    rw [e1, e2, List.sum_cons]
    omega

/-! ### different -/
theorem flags_set {fl : List Bool} {n : Int} {seen : List Int} {x : Int} (hl : (fl.length : Int) = n) (h : ∀ j : Int, 0 ≤ j → j < n → rdOf false fl j = decide (j ∈ seen)) (h0 : 0 ≤ x) (h1 : x < n) :
    ∀ j : Int, 0 ≤ j → j < n → rdOf false (fl.set x.toNat true) j = decide (j ∈ seen ++ [x]) := by
  intro j hj0 hj
  have := h j hj0 hj
  simp only [rdOf, List.getD_eq_getElem?_getD, List.getElem?_set] at this ⊢
  by_cases e : x = j
  · subst e
    rw [if_pos rfl, if_pos (by omega)]
    simp
  · rw [if_neg (by omega), this]
    have : ¬ j = x := fun h => e h.symm
    simp [this]
theorem different_l0 (xs : List Int) (n : Int) (hb : xs.length < 4611686018427387904) : ∀ (d k i : Nat) (fl : List Bool), (fl.length : Int) = n → (∀ j : Int, 0 ≤ j → j < n → rdOf false fl j = decide (j ∈ xs.take i)) → i + d = xs.length → d < k → impl_differentBelow.l0 k n fl xs (xs.length : Int) (i : Int) = some (memB n (xs.take i) (xs.drop i)) := by
  intro d
  induction d with
  | zero =>
    intro k i fl hl hf hi hk
    obtain ⟨k, rfl, -⟩ := fuel hk
    simp only [impl_differentBelow.l0]
    rw [if_neg (by omega), drop_end (by omega)]
    simp [memB]
  | succ d ih =>
    intro k i fl hl hf hi hk
    obtain ⟨k, rfl, hk⟩ := fuel hk
    simp only [impl_differentBelow.l0]
    rw [if_pos (by omega), if_pos (by omega), if_pos (by omega), wrap_succ (by omega), drop_rd (by omega)]
    simp only [memB]
    by_cases h1 : rd xs (i : Int) < 0
    · rw [if_pos h1, decide_eq_false (by omega)]; rfl
    · rw [if_neg h1]
      by_cases h2 : rd xs (i : Int) ≥ n
      · rw [if_pos h2, decide_eq_false (by omega)]; rfl
      · rw [if_neg h2, if_pos (by omega), if_pos (by omega), hf _ (by omega) (by omega), decide_eq_true (show 0 ≤ rd xs (i : Int) ∧ rd xs (i : Int) < n by omega)]
        by_cases h3 : rd xs (i : Int) ∈ xs.take i
        · rw [decide_eq_true h3, if_pos rfl]; rfl
        · rw [decide_eq_false h3, if_neg (by decide), ih k (i + 1) _ (by simpa using hl) (by rw [take_rd (by omega)]; exact flags_set hl hf (by omega) (by omega)) (by omega) (by omega), take_rd (by omega)]; rfl
theorem different_spec (k : Nat) (xs : List Int) (n : Int) (hn : 0 ≤ n) (hn2 : n ≤ 281474976710656) (hb : xs.length < 4611686018427387904) (hk : xs.length < k) : impl_differentBelow.f k xs n = some (decide (GoodM xs n)) := by
  unfold impl_differentBelow.f
  by_cases h : (xs.length : Int) > n
  · rw [if_pos h, decide_eq_false]
    intro hg
    obtain ⟨m, rfl⟩ := Int.eq_ofNat_of_zero_le hn
    have := hg.le
    omega
  · rw [if_neg h, if_pos hn, if_pos (by omega)]
    have := different_l0 xs n hb xs.length k 0 (List.replicate n.toNat false) (by simp; omega) (fun j h0 h1 => by simp [rdOf, List.getD_eq_getElem?_getD, List.getElem?_replicate]; split <;> rfl) (by omega) hk
    rw [← memB_good]
    simpa using this

/-! ### index -/
theorem index_l0 (xs : List Int) (x : Int) (hb : xs.length < 4611686018427387904) : ∀ (d k i : Nat), i + d = xs.length → d < k → slices_Index_int_int.l0 k xs x (xs.length : Int) (i : Int) = some (idxM (xs.drop i) x i) := by
  intro d
  induction d with
  | zero =>
    intro k i hi hk
    obtain ⟨k, rfl, -⟩ := fuel hk
    simp only [slices_Index_int_int.l0]
    rw [if_neg (by omega), drop_end (by omega)]
    simp [idxM]
  | succ d ih =>
    intro k i hi hk
    obtain ⟨k, rfl, hk⟩ := fuel hk
    simp only [slices_Index_int_int.l0]
    rw [if_pos (by omega), if_pos (by omega), if_pos (by omega), wrap_succ (by omega), drop_rd (by omega)]
    simp only [idxM]
    rw [ih k (i + 1) (by omega) (by omega)]
    by_cases e : x = rd xs (i : Int)
    · rw [if_pos e, if_pos e.symm]
    · rw [if_neg e, if_neg (fun h => e h.symm)]
theorem index_spec (k : Nat) (xs : List Int) (x : Int) (hb : xs.length < 4611686018427387904) (hk : xs.length < k) : slices_Index_int_int.f k xs x = some (idxM xs x 0) := by
  unfold slices_Index_int_int.f
  have := index_l0 xs x hb xs.length k 0 (by omega) hk
  simpa using this

/-! ### contains -/
theorem contains_spec (k : Nat) (xs : List Int) (x : Int) (hb : xs.length < 4611686018427387904) (hk : xs.length < k) : slices_Contains_int_int.f k xs x = some (decide (x ∈ xs)) := by
  unfold slices_Contains_int_int.f
  rw [index_spec k xs x hb hk]
  simp only [Option.bind_some]
  congr 1
  rw [decide_eq_decide]
  exact idxM_nonneg xs x 0

/-! ### loans -/
/-- A loan that is valid. -/
def OkLoan (l : S56) (n : Int) : Prop := 0 ≤ l.f0 ∧ l.f0 < n ∧ 1 ≤ l.f1 ∧ l.f1 ≤ 100000 ∧ 1 ≤ l.f2.length ∧ GoodM l.f2 n ∧ l.f0 ∉ l.f2
instance (l : S56) (n : Int) : Decidable (OkLoan l n) := inferInstanceAs (Decidable (_ ∧ _))
def OkLoans (list : List S56) (n : Int) : Prop := list.length ≤ 16 ∧ 1 ≤ n ∧ n ≤ 12 ∧ ∀ l ∈ list, OkLoan l n
instance (list : List S56) (n : Int) : Decidable (OkLoans list n) := inferInstanceAs (Decidable (_ ∧ _))
theorem rdT_at {xs : List S56} {i : Nat} (h : i < xs.length) : rd_T56 xs (i : Int) = xs[i] := by
  simp [rd_T56, List.getD_eq_getElem?_getD, List.getElem?_eq_getElem h]
theorem drop_rdT {xs : List S56} {i : Nat} (h : i < xs.length) : xs.drop i = rd_T56 xs (i : Int) :: xs.drop (i + 1) := by
  rw [rdT_at h, List.drop_eq_getElem_cons h]
theorem rdT_mem {xs : List S56} {i : Nat} (h : i < xs.length) : rd_T56 xs (i : Int) ∈ xs := by
  rw [rdT_at h]; exact List.getElem_mem h
theorem implValidLoans_l0 (list : List S56) (n : Int) (hn1 : 1 ≤ n) (hn2 : n ≤ 12) (hl : list.length ≤ 16) (hg : ∀ l ∈ list, l.f2.length ≤ 1048576) : ∀ (d k i : Nat), i + d = list.length → d + d + 1048600 < k →
    impl_ValidLoans.l0 k n list (list.length : Int) (i : Int) = some (decide (∀ l ∈ list.drop i, OkLoan l n)) := by
  intro d
  induction d with
  | zero =>
    intro k i hi hk
    obtain ⟨k, rfl, -⟩ := fuel (show 0 < k by omega)
    simp only [impl_ValidLoans.l0]
    rw [if_neg (by omega), drop_end (by omega)]
    simp
  | succ d ih =>
    intro k i hi hk
    obtain ⟨k, rfl, hk⟩ := fuel (show d + d + 1048601 < k by omega)
    obtain ⟨k, rfl, hk⟩ := fuel (show d + d + 1048600 < k by omega)
    simp only [impl_ValidLoans.l0, impl_ValidLoans.j2, if_true]
    rw [if_pos (by omega), if_pos (by omega), if_pos (by omega), drop_rdT (by omega)]
    have hgl := hg _ (rdT_mem (xs := list) (i := i) (by omega))
    generalize rd_T56 list (i : Int) = l at hgl ⊢
    simp only [List.forall_mem_cons]
    by_cases h1 : l.f0 < 0
    · rw [if_pos h1, decide_eq_false]; rintro ⟨h, -⟩; have := h.1; omega
    · rw [if_neg h1]
      by_cases h2 : l.f0 ≥ n
      · rw [if_pos h2, decide_eq_false]; rintro ⟨h, -⟩; have := h.2.1; omega
      · rw [if_neg h2]
        by_cases h3 : l.f1 < 1
        · rw [if_pos h3, decide_eq_false]; rintro ⟨h, -⟩; have := h.2.2.1; omega
        · rw [if_neg h3]
          by_cases h4 : l.f1 > 100000
          · rw [decide_eq_true h4, if_pos rfl, decide_eq_false]; rintro ⟨h, -⟩; have := h.2.2.2.1; omega
          · rw [decide_eq_false h4, if_neg (by decide)]
            by_cases h5 : (l.f2.length : Int) < 1
            · rw [if_pos h5, decide_eq_false]; rintro ⟨h, -⟩; have := h.2.2.2.2.1; omega
            · rw [if_neg h5, different_spec _ _ _ (by omega) (by omega) (by omega) (by omega)]
              simp only [Option.bind_some]
              by_cases h6 : GoodM l.f2 n
              · have hle : l.f2.length ≤ 12 := by
                  obtain ⟨m, rfl⟩ := Int.eq_ofNat_of_zero_le (show 0 ≤ n by omega)
                  have := h6.le
                  omega
                rw [decide_eq_true h6, if_pos rfl, contains_spec _ _ _ (by omega) (by omega)]
                simp only [Option.bind_some]
                by_cases h7 : l.f0 ∈ l.f2
                · rw [decide_eq_true h7, if_pos rfl, decide_eq_false]; rintro ⟨h, -⟩; exact h.2.2.2.2.2.2 h7
                · rw [decide_eq_false h7, if_neg (by decide), wrap_succ (by omega), ih k (i + 1) (by omega) (by omega)]
                  congr 1
                  rw [decide_eq_decide]
                  exact ⟨fun h => ⟨⟨by omega, by omega, by omega, by omega, by omega, h6, h7⟩, h⟩, fun h => h.2⟩
              · rw [decide_eq_false h6, if_neg (by decide), decide_eq_false]; rintro ⟨h, -⟩; exact h6 h.2.2.2.2.2.1
theorem implValidLoans_spec (k : Nat) (list : List S56) (n : Int) (hl : list.length ≤ 1048576) (hg : ∀ l ∈ list, l.f2.length ≤ 1048576) (hk : 1048700 < k) : impl_ValidLoans.f k list n = some (decide (OkLoans list n)) := by
  obtain ⟨k, rfl, hk⟩ := fuel hk
  unfold impl_ValidLoans.f
  simp only [impl_ValidLoans.j0, if_true]
  by_cases h1 : (list.length : Int) > 16
  · rw [if_pos h1, decide_eq_false]; rintro ⟨h, -⟩; omega
  · rw [if_neg h1]
    by_cases h2 : n < 1
    · rw [if_pos h2, decide_eq_false]; rintro ⟨-, h, -⟩; omega
    · rw [if_neg h2]
      by_cases h3 : n > 12
      · rw [decide_eq_true h3, if_pos rfl, decide_eq_false]; rintro ⟨-, -, h, -⟩; omega
      · rw [decide_eq_false h3, if_neg (by decide)]
        have := implValidLoans_l0 list n (by omega) (by omega) (by omega) hg list.length k 0 (by omega) (by omega)
        rw [show (0 : Int) = ((0 : Nat) : Int) from rfl, this]
        congr 1
        rw [decide_eq_decide, List.drop_zero]
        exact ⟨fun h => ⟨by omega, by omega, by omega, h⟩, fun h => h.2.2.2⟩

/-! ### place -/
theorem placeIn_l0 (xs : List Int) (x : Int) (hb : xs.length < 4611686018427387904) : ∀ (d k i : Nat), i + d = xs.length → d < k → spec_placeIn.l0 k xs x (i : Int) = some (idxM (xs.drop i) x i) := by
  intro d
  induction d with
  | zero =>
    intro k i hi hk
    obtain ⟨k, rfl, -⟩ := fuel hk
    simp only [spec_placeIn.l0]
    rw [if_neg (by omega), drop_end (by omega)]
    simp [idxM]
  | succ d ih =>
    intro k i hi hk
    obtain ⟨k, rfl, hk⟩ := fuel hk
    simp only [spec_placeIn.l0]
    rw [if_pos (by omega), if_pos (by omega), wrap_succ (by omega), drop_rd (by omega)]
    simp only [idxM]
    rw [ih k (i + 1) (by omega) (by omega)]
    split <;> rfl
theorem placeIn_spec (k : Nat) (xs : List Int) (x : Int) (hb : xs.length < 4611686018427387904) (hk : xs.length < k) : spec_placeIn.f k xs x = some (idxM xs x 0) := by
  unfold spec_placeIn.f
  have := placeIn_l0 xs x hb xs.length k 0 (by omega) hk
  simpa using this

/-! ### inrange -/
theorem inRange_spec (a lo up : Int) : spec_inRange.f a lo up = some (decide (lo ≤ a ∧ a ≤ up)) := by
  unfold spec_inRange.f
  by_cases h : lo ≤ a <;> simp [h]

/-! ### members -/
theorem validMembers_l0 (xs : List Int) (n : Int) (hb : xs.length < 4611686018427387904) : ∀ (d k i : Nat), i + d = xs.length → xs.length + d < k → spec_validMembers.l0 k xs n (i : Int) = some (memB (wrap64 (n - 1) + 1) (xs.take i) (xs.drop i)) := by
  intro d
  induction d with
  | zero =>
    intro k i hi hk
    obtain ⟨k, rfl, -⟩ := fuel hk
    simp only [spec_validMembers.l0]
    rw [if_neg (by omega), drop_end (by omega)]
    simp [memB]
  | succ d ih =>
    intro k i hi hk
    obtain ⟨k, rfl, hk⟩ := fuel hk
    simp only [spec_validMembers.l0]
    rw [if_pos (by omega), if_pos (by omega), inRange_spec, wrap_succ (i := i) (by omega), drop_rd (by omega), toNat_cast]
    rw [placeIn_spec _ _ _ (by simp; omega) (by simp; omega)]
    simp only [Option.bind_some]
    rw [if_pos (show (i : Int) ≤ (xs.length : Int) by omega), ih k (i + 1) (by omega) (by omega), take_rd (by omega)]
    simp only [memB]
    by_cases h1 : 0 ≤ rd xs (i : Int) ∧ rd xs (i : Int) < wrap64 (n - 1) + 1
    · rw [decide_eq_true h1, decide_eq_true (show 0 ≤ rd xs (i : Int) ∧ rd xs (i : Int) ≤ wrap64 (n - 1) by omega), if_pos rfl]
      have h2 := idxM_nonneg (xs.take i) (rd xs (i : Int)) 0
      by_cases h3 : rd xs (i : Int) ∈ xs.take i
      · rw [if_pos (h2.2 h3), decide_eq_true h3]; rfl
      · rw [if_neg (fun h => h3 (h2.1 h)), decide_eq_false h3]; rfl
    · rw [decide_eq_false h1, decide_eq_false (show ¬ (0 ≤ rd xs (i : Int) ∧ rd xs (i : Int) ≤ wrap64 (n - 1)) by omega), if_neg (by decide)]; rfl
theorem validMembers_any (k : Nat) (xs : List Int) (n : Int) (hb : xs.length < 4611686018427387904) (hk : xs.length + xs.length < k) : spec_validMembers.f k xs n = some (decide (GoodM xs (wrap64 (n - 1) + 1))) := by
  unfold spec_validMembers.f
  have := validMembers_l0 xs n hb xs.length k 0 (by omega) hk
  rw [← memB_good]
  simpa using this
theorem validMembers_spec (k : Nat) (xs : List Int) (n : Int) (hn : -4611686018427387904 ≤ n) (hn2 : n ≤ 4611686018427387904) (hb : xs.length < 4611686018427387904) (hk : xs.length + xs.length < k) : spec_validMembers.f k xs n = some (decide (GoodM xs n)) := by
  rw [validMembers_any k xs n hb hk, wrap_id (x := n - 1) (by omega) (by omega), Int.sub_add_cancel]

/-! ### loansspec -/
theorem specValidLoans_out (list : List S56) (n : Int) (hn : ¬ (1 ≤ n ∧ n ≤ 12)) (hl : list.length ≤ 1048576) (hg : ∀ l ∈ list, l.f2.length ≤ 1048576) : ∀ (d k i : Nat), i + d = list.length → d + 2097200 < k →
    spec_validLoans.l0 k list n (i : Int) = some false := by
  intro d
  induction d with
  | zero =>
    intro k i hi hk
    obtain ⟨k, rfl, -⟩ := fuel (show 0 < k by omega)
    simp only [spec_validLoans.l0]
    rw [if_neg (by omega), inRange_spec, decide_eq_false hn]
    simp
  | succ d ih =>
    intro k i hi hk
    obtain ⟨k, rfl, hk⟩ := fuel (show d + 2097200 < k by omega)
    simp only [spec_validLoans.l0]
    rw [if_pos (by omega), if_pos (by omega), inRange_spec, inRange_spec]
    have hgl := hg _ (rdT_mem (xs := list) (i := i) (by omega))
    generalize rd_T56 list (i : Int) = l at hgl ⊢
    rw [validMembers_any _ _ _ (by omega) (by omega), placeIn_spec _ _ _ (by omega) (by omega), wrap_succ (i := i) (by omega), ih k (i + 1) (by omega) (by omega)]
    simp only [Option.bind_some, ite_self]
theorem specValidLoans_l0 (list : List S56) (n : Int) (hn1 : 1 ≤ n) (hn2 : n ≤ 12) (hl : list.length ≤ 1048576) (hg : ∀ l ∈ list, l.f2.length ≤ 1048576) : ∀ (d k i : Nat), i + d = list.length → d + 2097200 < k →
    spec_validLoans.l0 k list n (i : Int) = some (decide (list.length ≤ 16 ∧ ∀ l ∈ list.drop i, OkLoan l n)) := by
  intro d
  induction d with
  | zero =>
    intro k i hi hk
    obtain ⟨k, rfl, -⟩ := fuel (show 0 < k by omega)
    simp only [spec_validLoans.l0]
    rw [if_neg (by omega), drop_end (by omega), inRange_spec, decide_eq_true (show 1 ≤ n ∧ n ≤ 12 from ⟨hn1, hn2⟩)]
    by_cases h : (list.length : Int) ≤ 16
    · rw [if_pos h, decide_eq_true]
      · rfl
      · exact ⟨by omega, by simp⟩
    · rw [if_neg h, decide_eq_false]; rintro ⟨h2, -⟩; omega
  | succ d ih =>
    intro k i hi hk
    obtain ⟨k, rfl, hk⟩ := fuel (show d + 2097200 < k by omega)
    simp only [spec_validLoans.l0]
    rw [if_pos (by omega), if_pos (by omega), inRange_spec, inRange_spec, drop_rdT (by omega)]
    have hgl := hg _ (rdT_mem (xs := list) (i := i) (by omega))
    generalize rd_T56 list (i : Int) = l at hgl ⊢
    rw [validMembers_spec _ _ _ (by omega) (by omega) (by omega) (by omega), placeIn_spec _ _ _ (by omega) (by omega), wrap_succ (i := i) (by omega), ih k (i + 1) (by omega) (by omega), wrap_id (x := n - 1) (by omega) (by omega)]
    simp only [Option.bind_some, List.forall_mem_cons]
    by_cases h1 : 0 ≤ l.f0 ∧ l.f0 ≤ n - 1
    · rw [decide_eq_true h1, if_pos rfl]
      by_cases h2 : 1 ≤ l.f1 ∧ l.f1 ≤ 100000
      · rw [decide_eq_true h2, if_pos rfl]
        by_cases h3 : (l.f2.length : Int) = 0
        · rw [if_pos h3, decide_eq_false]; rintro ⟨-, h, -⟩; have := h.2.2.2.2.1; omega
        · rw [if_neg h3]
          by_cases h4 : GoodM l.f2 n
          · rw [decide_eq_true h4, if_pos rfl]
            have hm := idxM_nonneg l.f2 l.f0 0
            by_cases h5 : l.f0 ∈ l.f2
            · rw [if_pos (hm.2 h5), decide_eq_false]; rintro ⟨-, h, -⟩; exact h.2.2.2.2.2.2 h5
            · rw [if_neg (fun h => h5 (hm.1 h))]
              congr 1
              rw [decide_eq_decide]
              exact ⟨fun h => ⟨h.1, ⟨by omega, by omega, by omega, by omega, by omega, h4, h5⟩, h.2⟩, fun h => ⟨h.1, h.2.2⟩⟩
          · rw [decide_eq_false h4, if_neg (by decide), decide_eq_false]; rintro ⟨-, h, -⟩; exact h4 h.2.2.2.2.2.1
      · rw [decide_eq_false h2, if_neg (by decide), decide_eq_false]; rintro ⟨-, h, -⟩; exact h2 ⟨h.2.2.1, h.2.2.2.1⟩
    · rw [decide_eq_false h1, if_neg (by decide), decide_eq_false]; rintro ⟨-, h, -⟩; exact h1 ⟨h.1, by have := h.2.1; omega⟩
theorem specValidLoans_spec (k : Nat) (list : List S56) (n : Int) (hl : list.length ≤ 1048576) (hg : ∀ l ∈ list, l.f2.length ≤ 1048576) (hk : 3145800 < k) : spec_validLoans.f k list n = some (decide (OkLoans list n)) := by
  unfold spec_validLoans.f
  by_cases h : 1 ≤ n ∧ n ≤ 12
  · have := specValidLoans_l0 list n h.1 h.2 hl hg list.length k 0 (by omega) (by omega)
    rw [show (0 : Int) = ((0 : Nat) : Int) from rfl, this]
    congr 1
    rw [decide_eq_decide, List.drop_zero]
    exact ⟨fun h2 => ⟨h2.1, h.1, h.2, h2.2⟩, fun h2 => ⟨h2.1, h2.2.2.2⟩⟩
  · have := specValidLoans_out list n h hl hg list.length k 0 (by omega) (by omega)
    rw [show (0 : Int) = ((0 : Nat) : Int) from rfl, this, decide_eq_false]
    rintro ⟨-, h1, h2, -⟩
    exact h ⟨h1, h2⟩

/-! ### copyints -/
theorem copyInts_spec (l : List Int) (hl : l.length ≤ 1000000) : spec_copyInts.f l = some l := by
  unfold spec_copyInts.f
  simp only [Option.bind_some]
  rw [if_pos (by simp; omega)]; simp

/-! ### common -/
/-! ### payloan -/
def CanPay (ls : List S56) (n i a : Int) : Prop := OkLoans ls n ∧ 0 ≤ i ∧ i < (ls.length : Int) ∧ 1 ≤ a ∧ a ≤ (rd_T56 ls i).f1
instance (ls : List S56) (n i a : Int) : Decidable (CanPay ls n i a) := inferInstanceAs (Decidable (_ ∧ _))
/-- The loans with one that is less. -/
def lessM (ls : List S56) (i a : Int) : List S56 := ls.set i.toNat ⟨(rd_T56 ls i).f0, (rd_T56 ls i).f1 - a, (rd_T56 ls i).f2⟩
/-- The loans after a payment. -/
def payLM (ls : List S56) (n i a : Int) : List S56 :=
  if CanPay ls n i a then (if (rd_T56 ls i).f1 = a then ls.take i.toNat ++ ls.drop (i.toNat + 1) else lessM ls i a) else []
theorem payLM_neg {ls : List S56} {n i a : Int} (h : ¬ CanPay ls n i a) : payLM ls n i a = [] := if_neg h
theorem payLM_all {ls : List S56} {n i a : Int} (h : CanPay ls n i a) (h2 : (rd_T56 ls i).f1 = a) : payLM ls n i a = ls.take i.toNat ++ ls.drop (i.toNat + 1) := by
  unfold payLM; rw [if_pos h, if_pos h2]
theorem payLM_part {ls : List S56} {n i a : Int} (h : CanPay ls n i a) (h2 : (rd_T56 ls i).f1 ≠ a) : payLM ls n i a = lessM ls i a := by
  unfold payLM; rw [if_pos h, if_neg h2]
theorem less_length (ls : List S56) (i a : Int) : (lessM ls i a).length = ls.length := by simp [lessM]
theorem less_at {ls : List S56} {i a : Int} (h0 : 0 ≤ i) (h1 : i < (ls.length : Int)) : rd_T56 (lessM ls i a) i = ⟨(rd_T56 ls i).f0, (rd_T56 ls i).f1 - a, (rd_T56 ls i).f2⟩ := by
  obtain ⟨j, rfl⟩ := Int.eq_ofNat_of_zero_le h0
  rw [rdT_at (show j < (lessM ls (j : Int) a).length by rw [less_length]; omega)]
  simp [lessM]
theorem less_gone {ls : List S56} {i a : Int} (h0 : 0 ≤ i) : (lessM ls i a).take i.toNat ++ (lessM ls i a).drop (i.toNat + 1) = ls.take i.toNat ++ ls.drop (i.toNat + 1) := by
  unfold lessM
  rw [List.take_set_of_le (Nat.le_refl _), List.drop_set_of_lt (by omega)]
theorem okLoan_len {l : S56} {n : Int} (hn : n ≤ 12) (h : OkLoan l n) : l.f2.length ≤ 12 := by
  rcases Int.lt_or_le n 0 with h0 | h0
  · have := h.1; have := h.2.1; omega
  · obtain ⟨m, rfl⟩ := Int.eq_ofNat_of_zero_le h0
    have := h.2.2.2.2.2.1.le; omega
theorem implCopy_l0 (ls : List S56) (hl : ls.length ≤ 1000) (hg : ∀ l ∈ ls, l.f2.length ≤ 1000) : ∀ (d k i : Nat), i + d = ls.length → d < k → impl_copyLoans.l0 k (ls.take i) ls (ls.length : Int) (i : Int) = some ls := by
  intro d
  induction d with
  | zero =>
    intro k i hi hk
    obtain ⟨k, rfl, -⟩ := fuel hk
    simp only [impl_copyLoans.l0]
    rw [if_neg (by omega), List.take_of_length_le (by omega)]
  | succ d ih =>
    intro k i hi hk
    obtain ⟨k, rfl, hk⟩ := fuel hk
    simp only [impl_copyLoans.l0]
    have hc : slices_Clone_int_int.f (rd_T56 ls (i : Int)).f2 = some (rd_T56 ls (i : Int)).f2 := by
      unfold slices_Clone_int_int.f
      rw [if_pos]
      have := hg _ (rdT_mem (show i < ls.length by omega)); omega
    have ht : ls.take i ++ [(⟨(rd_T56 ls (i : Int)).f0, (rd_T56 ls (i : Int)).f1, (rd_T56 ls (i : Int)).f2⟩ : S56)] = ls.take (i + 1) := by
      rw [List.take_succ_eq_append_getElem (show i < ls.length by omega), ← rdT_at (show i < ls.length by omega)]
    rw [if_pos (by omega), if_pos (by omega), if_pos (by omega), hc, Option.bind_some, if_pos (by rw [List.length_take]; omega), ht, wrap_succ (by omega)]
    exact ih k (i + 1) (by omega) (by omega)
theorem implCopy_spec (k : Nat) (ls : List S56) (hl : ls.length ≤ 1000) (hg : ∀ l ∈ ls, l.f2.length ≤ 1000) (hk : 1000 < k) : impl_copyLoans.f k ls = some ls := by
  unfold impl_copyLoans.f
  exact implCopy_l0 ls hl hg ls.length k 0 (by omega) (by omega)
theorem specCopy_l0 (ls : List S56) (hl : ls.length ≤ 1000) (hg : ∀ l ∈ ls, l.f2.length ≤ 1000) : ∀ (d k i : Nat), i + d = ls.length → d < k → spec_copyLoans.l0 k ls (ls.take i) (i : Int) = some ls := by
  intro d
  induction d with
  | zero =>
    intro k i hi hk
    obtain ⟨k, rfl, -⟩ := fuel hk
    simp only [spec_copyLoans.l0]
    rw [if_neg (by omega), List.take_of_length_le (by omega)]
  | succ d ih =>
    intro k i hi hk
    obtain ⟨k, rfl, hk⟩ := fuel hk
    simp only [spec_copyLoans.l0]
    have hc := copyInts_spec (rd_T56 ls (i : Int)).f2 (by have := hg _ (rdT_mem (show i < ls.length by omega)); omega)
    have ht : ls.take i ++ [(⟨(rd_T56 ls (i : Int)).f0, (rd_T56 ls (i : Int)).f1, (rd_T56 ls (i : Int)).f2⟩ : S56)] = ls.take (i + 1) := by
      rw [List.take_succ_eq_append_getElem (show i < ls.length by omega), ← rdT_at (show i < ls.length by omega)]
    rw [if_pos (by omega), if_pos (by omega), hc, Option.bind_some, if_pos (by rw [List.length_take]; omega), ht, wrap_succ (by omega)]
    exact ih k (i + 1) (by omega) (by omega)
theorem specCopy_spec (k : Nat) (ls : List S56) (hl : ls.length ≤ 1000) (hg : ∀ l ∈ ls, l.f2.length ≤ 1000) (hk : 1000 < k) : spec_copyLoans.f k ls = some ls := by
  unfold spec_copyLoans.f
  exact specCopy_l0 ls hl hg ls.length k 0 (by omega) (by omega)
theorem implPay_spec (k : Nat) (ls : List S56) (n i a : Int) (hl : ls.length ≤ 1048576) (hg : ∀ l ∈ ls, l.f2.length ≤ 1048576) (hk : 1048701 < k) : impl_PayLoan.f k ls n i a = some (payLM ls n i a) := by
  unfold impl_PayLoan.f
  rw [implValidLoans_spec k ls n hl hg (by omega), Option.bind_some]
  obtain ⟨k, rfl, hk'⟩ := fuel hk
  simp only [impl_PayLoan.j0, if_true]
  by_cases h1 : OkLoans ls n
  · rw [decide_eq_true h1, if_pos rfl]
    by_cases h2 : i < 0
    · rw [if_pos h2, payLM_neg (fun h => by have := h.2.1; omega)]
    rw [if_neg h2]
    by_cases h3 : i ≥ (ls.length : Int)
    · rw [if_pos h3, payLM_neg (fun h => by have := h.2.2.1; omega)]
    rw [if_neg h3]
    by_cases h4 : a < 1
    · rw [if_pos h4, payLM_neg (fun h => by have := h.2.2.2.1; omega)]
    rw [if_neg h4, if_pos (by omega), if_pos (by omega)]
    by_cases h5 : a > (rd_T56 ls i).f1
    · rw [decide_eq_true h5, if_pos rfl, payLM_neg (fun h => by have := h.2.2.2.2; omega)]
    have hc : CanPay ls n i a := ⟨h1, by omega, by omega, by omega, by omega⟩
    have hlen := h1.1
    have hok : OkLoan (rd_T56 ls i) n := by
      obtain ⟨j, rfl⟩ := Int.eq_ofNat_of_zero_le (show 0 ≤ i by omega)
      exact h1.2.2.2 _ (rdT_mem (by omega))
    have hb := hok.2.2.2.1
    have hset : ls.set (i : Int).toNat (⟨(rd_T56 ls i).f0, wrap64 (((rd_T56 ls i).f1) - a), (rd_T56 ls i).f2⟩ : S56) = lessM ls i a := by
      unfold lessM; rw [wrap_id (by omega) (by omega)]
    rw [decide_eq_false h5, if_neg (by decide), implCopy_spec k ls (by omega) (fun l hm => by have := okLoan_len h1.2.2.1 (h1.2.2.2 l hm); omega) (by omega), Option.bind_some, if_pos (by omega), if_pos (by omega), hset, Option.bind_some, less_at (by omega) (by omega)]
    by_cases h6 : (rd_T56 ls i).f1 = a
    · have hd : impl_Loan.f (lessM ls i a) i (wrap64 (i + 1)) = some (ls.take i.toNat ++ ls.drop (i.toNat + 1)) := by
        unfold impl_Loan.f
        rw [wrap_id (by omega) (by omega), if_pos ⟨by omega, by omega, by rw [less_length]; omega⟩, show (i + 1).toNat = i.toNat + 1 by omega, less_gone (by omega)]
      rw [if_pos (by show _ - _ = _; omega), hd, Option.bind_some, payLM_all hc h6]
    · rw [if_neg (by show ¬ (_ - _ = _); omega), payLM_part hc h6]
  · rw [decide_eq_false h1, if_neg (by decide), payLM_neg (fun h => h1 h.1)]
theorem specPay_spec (k : Nat) (ls : List S56) (n i a : Int) (hl : ls.length ≤ 1048576) (hg : ∀ l ∈ ls, l.f2.length ≤ 1048576) (hk : 3145801 < k) : spec_PayLoan.f k ls n i a = some (payLM ls n i a) := by
  unfold spec_PayLoan.f
  rw [specValidLoans_spec k ls n hl hg (by omega), Option.bind_some]
  obtain ⟨k, rfl, hk'⟩ := fuel hk
  simp only [spec_PayLoan.j0, if_true]
  by_cases h1 : OkLoans ls n
  · rw [decide_eq_true h1, if_pos rfl, inRange_spec, Option.bind_some, wrap_id (by omega) (by omega)]
    by_cases h3 : 0 ≤ i ∧ i ≤ (ls.length : Int) - 1
    · rw [decide_eq_true h3, if_pos rfl, if_pos h3.1, if_pos (by omega), inRange_spec, Option.bind_some]
      by_cases h4 : 1 ≤ a ∧ a ≤ (rd_T56 ls i).f1
      · have hc : CanPay ls n i a := ⟨h1, h3.1, by omega, h4.1, h4.2⟩
        have hlen := h1.1
        have hok : OkLoan (rd_T56 ls i) n := by
          obtain ⟨j, rfl⟩ := Int.eq_ofNat_of_zero_le h3.1
          exact h1.2.2.2 _ (rdT_mem (by omega))
        have hb := hok.2.2.2.1
        have hset : ls.set (i : Int).toNat (⟨(rd_T56 ls i).f0, wrap64 (((rd_T56 ls i).f1) - a), (rd_T56 ls i).f2⟩ : S56) = lessM ls i a := by
          unfold lessM; rw [wrap_id (by omega) (by omega)]
        rw [decide_eq_true h4, Bool.not_true, if_neg (by decide), specCopy_spec k ls (by omega) (fun l hm => by have := okLoan_len h1.2.2.1 (h1.2.2.2 l hm); omega) (by omega), Option.bind_some, if_pos (by omega), if_pos (by omega), if_pos (by omega), hset, Option.bind_some, less_at (by omega) (by omega)]
        by_cases h6 : (rd_T56 ls i).f1 = a
        · rw [if_pos (by show _ - _ = _; omega), if_pos (by omega), if_pos (by rw [wrap_id (by omega) (by omega)]; omega), if_pos (by rw [wrap_id (by omega) (by omega)]; omega), List.eraseIdx_eq_take_drop_succ, less_gone (by omega), payLM_all hc h6]
        · rw [if_neg (by show ¬ (_ - _ = _); omega), payLM_part hc h6]
      · rw [decide_eq_false h4, Bool.not_false, if_pos rfl, payLM_neg (fun h => h4 ⟨h.2.2.2.1, h.2.2.2.2⟩)]
    · rw [decide_eq_false h3, if_neg (by decide), payLM_neg (fun h => h3 ⟨h.2.1, by have := h.2.2.1; omega⟩)]
  · rw [decide_eq_false h1, if_neg (by decide), payLM_neg (fun h => h1 h.1)]
theorem pay_sub {ls : List S56} {n i a : Int} (h : CanPay ls n i a) : OkLoans (payLM ls n i a) n := by
  obtain ⟨h1, h2, h3, h4, h5⟩ := id h
  by_cases h6 : (rd_T56 ls i).f1 = a
  · rw [payLM_all h h6]
    refine ⟨?_, h1.2.1, h1.2.2.1, fun l hl => h1.2.2.2 l ?_⟩
    · have := h1.1; simp; omega
    · rcases List.mem_append.1 hl with hl | hl
      · exact List.mem_of_mem_take hl
      · exact List.mem_of_mem_drop hl
  · rw [payLM_part h h6]
    refine ⟨by rw [less_length]; exact h1.1, h1.2.1, h1.2.2.1, fun l hl => ?_⟩
    rcases List.mem_or_eq_of_mem_set hl with hl | rfl
    · exact h1.2.2.2 l hl
    · have hok : OkLoan (rd_T56 ls i) n := by
        obtain ⟨j, rfl⟩ := Int.eq_ofNat_of_zero_le h2
        exact h1.2.2.2 _ (rdT_mem (by omega))
      obtain ⟨o1, o2, o3, o4, o5⟩ := hok
      exact ⟨o1, o2, by show 1 ≤ _ - a; omega, by show _ - a ≤ _; omega, o5⟩
theorem pay_twice {ls : List S56} {n i a : Int} (h : CanPay ls n i a) (h2 : 1 < a) : payLM (payLM ls n i 1) n i (a - 1) = payLM ls n i a := by
  obtain ⟨h1, h3, h4, h5, h6⟩ := id h
  have c1 : CanPay ls n i 1 := ⟨h1, h3, h4, by omega, by omega⟩
  have ne1 : (rd_T56 ls i).f1 ≠ 1 := by omega
  have hs := pay_sub c1
  rw [payLM_part c1 ne1] at hs ⊢
  have e := less_at (a := 1) h3 h4
  have c2 : CanPay (lessM ls i 1) n i (a - 1) := ⟨hs, h3, by rw [less_length]; exact h4, by omega, by rw [e]; show _ ≤ _ - 1; omega⟩
  by_cases h7 : (rd_T56 ls i).f1 = a
  · rw [payLM_all c2 (by rw [e]; show _ - 1 = _; omega), payLM_all h h7, less_gone h3]
  · rw [payLM_part c2 (by rw [e]; show _ - 1 ≠ _; omega), payLM_part h h7]
    unfold lessM at e ⊢
    rw [e, List.set_set]
    congr 2
    show _ - 1 - (a - 1) = _
    omega

/-! ### exactints -/
theorem toIntS_l0 (xs : List Int) (hb : xs.length < 4611686018427387904) : ∀ (d k i : Nat), i + d = xs.length → d < k → laws_toIntS.l0 k xs (xs.take i ++ List.replicate d 0) (i : Int) = some xs := by
  intro d
  induction d with
  | zero =>
    intro k i hi hk
    obtain ⟨k, rfl, -⟩ := fuel hk
    have e : xs.take i = xs := List.take_of_length_le (by omega)
    simp only [laws_toIntS.l0]
    rw [if_neg (by omega), e]; simp
  | succ d ih =>
    intro k i hi hk
    obtain ⟨k, rfl, hk⟩ := fuel hk
    have hti : (xs.take i).length = i := by simp; omega
    have := ih k (i + 1) (by omega) (by omega)
    rw [take_rd (by omega)] at this
    simp only [laws_toIntS.l0]
    rw [if_pos (by omega), if_pos (by omega), if_pos (by simp; omega), toNat_cast, set_fill' hti, wrap_succ (by omega)]
    exact this
theorem toIntS_spec (k : Nat) (xs : List Int) (hb : xs.length ≤ 35184372088832) (hk : xs.length < k) : laws_toIntS.f k xs = some xs := by
  unfold laws_toIntS.f
  have := toIntS_l0 xs (by omega) xs.length k 0 (by omega) hk
  rw [if_pos (by omega), if_pos (by simpa using hb), toNat_cast]
  simpa using this
theorem eqIntS_l0 (a b : List Int) (hl : a.length = b.length) (hb : a.length < 4611686018427387904) : ∀ (d k i : Nat), i + d = a.length → d < k → laws_eqIntS.l0 k a b (i : Int) = some (decide (a.drop i = b.drop i)) := by
  intro d
  induction d with
  | zero =>
    intro k i hi hk
    obtain ⟨k, rfl, -⟩ := fuel hk
    simp only [laws_eqIntS.l0]
    rw [if_neg (by omega), drop_end (by omega), drop_end (by omega)]
    simp
  | succ d ih =>
    intro k i hi hk
    obtain ⟨k, rfl, hk⟩ := fuel hk
    simp only [laws_eqIntS.l0]
    rw [if_pos (by omega), if_pos (by omega), if_pos (by omega), wrap_succ (by omega), drop_rd (xs := a) (i := i) (by omega), drop_rd (xs := b) (i := i) (by omega)]
    by_cases e : rd a (i : Int) = rd b (i : Int)
    · rw [if_pos e, ih k (i + 1) (by omega) (by omega), e]; simp
    · rw [if_neg e]; simp [e]
theorem eqIntS_spec (k : Nat) (a b : List Int) (hb : a.length < 4611686018427387904) (hk : a.length < k) : laws_eqIntS.f k a b = some (decide (a = b)) := by
  unfold laws_eqIntS.f
  by_cases h : a.length = b.length
  · first | rw [if_pos (by omega)] | rw [if_neg (by omega)]
    have := eqIntS_l0 a b h hb a.length k 0 (by omega) hk
    simpa using this
  · first | rw [if_neg (by omega)] | rw [if_pos (by omega)]
    have : a ≠ b := fun e => h (by rw [e])
    simp [this]

/-! ### exactloans -/
def convM (x : S68) : S56 := ⟨x.f0, x.f1, x.f2⟩
theorem rdA_at {xs : List S68} {i : Nat} (h : i < xs.length) : rd_T68 xs (i : Int) = xs[i] := by
  simp [rd_T68, List.getD_eq_getElem?_getD, List.getElem?_eq_getElem h]
theorem takeA {xs : List S68} {i : Nat} (h : i < xs.length) : xs.take (i + 1) = xs.take i ++ [rd_T68 xs (i : Int)] := by
  rw [rdA_at h, List.take_succ_eq_append_getElem h]
theorem toLoanS_l0 (xs : List S68) (hb : xs.length ≤ 1048576) (hg : ∀ x ∈ xs, x.f2.length ≤ 1048576) : ∀ (d k i : Nat), i + d = xs.length → d + 1048580 < k → laws_toLoanS.l0 k xs ((xs.take i).map convM ++ List.replicate d z56) (i : Int) = some (xs.map convM) := by
  intro d
  induction d with
  | zero =>
    intro k i hi hk
    obtain ⟨k, rfl, -⟩ := fuel (show 0 < k by omega)
    have e : xs.take i = xs := List.take_of_length_le (by omega)
    simp only [laws_toLoanS.l0]
    rw [if_neg (by omega), e]; simp
  | succ d ih =>
    intro k i hi hk
    obtain ⟨k, rfl, hk⟩ := fuel (show d + 1048580 < k by omega)
    have hti : ((xs.take i).map convM).length = i := by simp; omega
    have hgi := hg (rd_T68 xs (i : Int)) (by rw [rdA_at (by omega)]; exact List.getElem_mem (by omega))
    have := ih k (i + 1) (by omega) (by omega)
    rw [takeA (by omega), List.map_append] at this
    simp only [laws_toLoanS.l0, laws_toLoan.f]
    rw [if_pos (by omega), if_pos (by omega), toIntS_spec _ _ (by omega) (by omega), Option.bind_some, Option.bind_some, if_pos (by simp; omega), toNat_cast, set_fill' hti, wrap_succ (by omega)]
    exact this
theorem toLoanS_spec (k : Nat) (xs : List S68) (hb : xs.length ≤ 1048576) (hg : ∀ x ∈ xs, x.f2.length ≤ 1048576) (hk : 2097200 < k) : laws_toLoanS.f k xs = some (xs.map convM) := by
  unfold laws_toLoanS.f
  have := toLoanS_l0 xs hb hg xs.length k 0 (by omega) (by omega)
  rw [if_pos (by omega), if_pos (by omega), toNat_cast]
  simpa using this
theorem szLoanS_l0 (xs : List S68) (hb : xs.length ≤ 1048576) (hg : ∀ x ∈ xs, x.f2.length ≤ maxLen) : ∀ (d k i : Nat) (a : Int), i + d = xs.length → d < k → 0 ≤ a → a ≤ 1048576 →
    ∃ r, laws_szLoanS.l0 k xs a (i : Int) = some r ∧ (0 ≤ r → r ≤ a ∧ ∀ x ∈ xs.drop i, x.f2.length ≤ 1048576) := by
  have hbig : maxLen ≤ 9223372036854775807 := by decide
  intro d
  induction d with
  | zero =>
    intro k i a hi hk h0 h1
    obtain ⟨k, rfl, -⟩ := fuel hk
    simp only [laws_szLoanS.l0]
    rw [if_neg (by omega), drop_end (by omega)]
    exact ⟨a, rfl, fun _ => ⟨Int.le_refl _, by simp⟩⟩
  | succ d ih =>
    intro k i a hi hk h0 h1
    obtain ⟨k, rfl, hk⟩ := fuel hk
    have hgi := hg (rd_T68 xs (i : Int)) (by rw [rdA_at (by omega)]; exact List.getElem_mem (by omega))
    have hd : xs.drop i = rd_T68 xs (i : Int) :: xs.drop (i + 1) := by rw [rdA_at (by omega), List.drop_eq_getElem_cons (by omega)]
    simp only [laws_szLoanS.l0, laws_szLoan.f, laws_szIntS.f]
    rw [if_pos (by omega), if_pos (by omega), wrap_id (x := a - ((rd_T68 xs (i : Int)).f2.length : Int)) (by omega) (by omega)]
    by_cases h : a - ((rd_T68 xs (i : Int)).f2.length : Int) < 0
    · rw [if_pos h]
      exact ⟨-1, by simp, fun h => by omega⟩
    · rw [if_neg h, Option.bind_some, if_neg h, Option.bind_some, if_neg h, wrap_succ (by omega)]
      obtain ⟨r, hr, h2⟩ := ih k (i + 1) _ (by omega) (by omega) (Int.not_lt.1 h) (by omega)
      refine ⟨r, hr, fun h3 => ?_⟩
      obtain ⟨h4, h5⟩ := h2 h3
      refine ⟨by omega, fun x hx => ?_⟩
      rw [hd] at hx
      rcases List.mem_cons.1 hx with e | e
      · rw [e]; omega
      · exact h5 x e
theorem szLoanS_spec (k : Nat) (xs : List S68) (hb : xs.length ≤ maxLen) (hg : ∀ x ∈ xs, x.f2.length ≤ maxLen) (a : Int) (h0 : 0 ≤ a) (h1 : a ≤ 1048576) (hk : 1048580 < k) :
    ∃ r, laws_szLoanS.f k xs a = some r ∧ (0 ≤ r → r ≤ a ∧ xs.length ≤ 1048576 ∧ ∀ x ∈ xs, x.f2.length ≤ 1048576) := by
  have hbig : maxLen ≤ 9223372036854775807 := by decide
  unfold laws_szLoanS.f
  rw [wrap_id (x := a - (xs.length : Int)) (by omega) (by omega)]
  by_cases h : a - (xs.length : Int) < 0
  · rw [if_pos h]
    exact ⟨-1, rfl, fun h => by omega⟩
  · rw [if_neg h]
    obtain ⟨r, hr, h2⟩ := szLoanS_l0 xs (by omega) hg xs.length k 0 (a - (xs.length : Int)) (by omega) (by omega) (by omega) (by omega)
    refine ⟨r, hr, fun h3 => ?_⟩
    obtain ⟨h4, h5⟩ := h2 h3
    rw [List.drop_zero] at h5
    exact ⟨by omega, by omega, h5⟩
theorem eqLoanS_l0 (a : List S56) (hb : a.length ≤ 1048576) (hg : ∀ x ∈ a, x.f2.length ≤ 1048576) : ∀ (d k i : Nat), i + d = a.length → d + 1048580 < k → laws_eqLoanS.l0 k a a (i : Int) = some true := by
  intro d
  induction d with
  | zero =>
    intro k i hi hk
    obtain ⟨k, rfl, -⟩ := fuel (show 0 < k by omega)
    simp only [laws_eqLoanS.l0]
    rw [if_neg (by omega)]
  | succ d ih =>
    intro k i hi hk
    obtain ⟨k, rfl, hk⟩ := fuel (show d + 1048580 < k by omega)
    have hgi := hg (rd_T56 a (i : Int)) (rdT_mem (by omega))
    simp only [laws_eqLoanS.l0, laws_eqLoan.f]
    rw [if_pos (by omega), if_pos (by omega), wrap_succ (by omega), eqIntS_spec _ _ _ (by omega) (by omega)]
    simp only [if_true, Option.bind_some, decide_true]
    rw [if_pos (by omega)]
    exact ih k (i + 1) (by omega) (by omega)
theorem eqLoanS_self (k : Nat) (a : List S56) (hb : a.length ≤ 1048576) (hg : ∀ x ∈ a, x.f2.length ≤ 1048576) (hk : 2097200 < k) : laws_eqLoanS.f k a a = some true := by
  unfold laws_eqLoanS.f
  have := eqLoanS_l0 a hb hg a.length k 0 (by omega) (by omega)
  rw [if_pos rfl]
  exact this

/-! ### marks -/
/-- Numbers one after the other. -/
def markI (n : Nat) (a : Int) : List Int := (List.range n).map fun i : Nat => a + (i : Int)
theorem markI_length (n : Nat) (a : Int) : (markI n a).length = n := by simp [markI]
theorem markI_succ (n : Nat) (a : Int) : markI (n + 1) a = markI n a ++ [a + (n : Int)] := by simp [markI, List.range_succ]
theorem markI_rd {n i : Nat} (a : Int) (h : i < n) : rd (markI n a) (i : Int) = a + (i : Int) := by rw [markI, rd_mapRange h]
theorem markIntS_l0 (xs : List Int) (a : Int) (ha : 0 ≤ a ∧ a ≤ 1000000000) (hb : xs.length ≤ 1000000000) : ∀ (d k i : Nat), i + d = xs.length → d < k → laws_markIntS.l0 k (markI i a ++ xs.drop i) (a + (i : Int)) (i : Int) = some (a + (xs.length : Int), markI xs.length a) := by
  intro d
  induction d with
  | zero =>
    intro k i hi hk
    obtain ⟨k, rfl, -⟩ := fuel hk
    simp only [laws_markIntS.l0]
    rw [if_neg (by rw [List.length_append, markI_length, List.length_drop]; omega), drop_end (by omega), List.append_nil, show i = xs.length by omega]
  | succ d ih =>
    intro k i hi hk
    obtain ⟨k, rfl, hk⟩ := fuel hk
    simp only [laws_markIntS.l0]
    rw [if_pos (by rw [List.length_append, markI_length, List.length_drop]; omega), if_pos (by omega), toNat_cast, wrap_succ (by omega), wrap_id (by omega) (by omega)]
    have := ih k (i + 1) (by omega) (by omega)
    have e : (markI i a ++ xs.drop i).set i (a + (i : Int)) = markI (i + 1) a ++ xs.drop (i + 1) := by
      rw [drop_rd (by omega), markI_succ, List.set_append_right _ _ (by rw [markI_length]; omega), markI_length, Nat.sub_self, List.set_cons_zero, List.append_assoc]
      rfl
    rw [e, show a + (i : Int) + 1 = a + ((i + 1 : Nat) : Int) by omega]
    exact this
theorem markIntS_spec (k : Nat) (xs : List Int) (a : Int) (ha : 0 ≤ a ∧ a ≤ 1000000000) (hb : xs.length ≤ 1000000000) (hk : xs.length < k) : laws_markIntS.f k xs a = some (a + (xs.length : Int), markI xs.length a) := by
  unfold laws_markIntS.f
  have := markIntS_l0 xs a ha hb xs.length k 0 (by omega) hk
  simpa [markI] using this
theorem heldIntS_l0 (n : Nat) (a : Int) (ha : 0 ≤ a ∧ a ≤ 1000000000) (hb : n ≤ 1000000000) : ∀ (d k i : Nat), i + d = n → d < k → laws_heldIntS.l0 k (markI n a) (a + (i : Int)) (i : Int) = some (a + (n : Int)) := by
  intro d
  induction d with
  | zero =>
    intro k i hi hk
    obtain ⟨k, rfl, -⟩ := fuel hk
    simp only [laws_heldIntS.l0]
    rw [if_neg (by rw [markI_length]; omega), show i = n by omega]
  | succ d ih =>
    intro k i hi hk
    obtain ⟨k, rfl, hk⟩ := fuel hk
    simp only [laws_heldIntS.l0]
    rw [if_pos (by rw [markI_length]; omega), if_pos (by omega), if_pos (markI_rd a (by omega)), wrap_succ (by omega), wrap_id (by omega) (by omega)]
    have := ih k (i + 1) (by omega) (by omega)
    rw [show a + (i : Int) + 1 = a + ((i + 1 : Nat) : Int) by omega]
    exact this
theorem heldIntS_spec (k n : Nat) (a : Int) (ha : 0 ≤ a ∧ a ≤ 1000000000) (hb : n ≤ 1000000000) (hk : n < k) : laws_heldIntS.f k (markI n a) a = some (a + (n : Int)) := by
  unfold laws_heldIntS.f
  have := heldIntS_l0 n a ha hb n k 0 (by omega) hk
  simpa using this

/-! ### marksbig -/
theorem markIntS_l0b (xs : List Int) (a : Int) (ha : 0 ≤ a ∧ a ≤ 1000000000000000000) (hb : xs.length ≤ 1000000000) : ∀ (d k i : Nat), i + d = xs.length → d < k → laws_markIntS.l0 k (markI i a ++ xs.drop i) (a + (i : Int)) (i : Int) = some (a + (xs.length : Int), markI xs.length a) := by
  intro d
  induction d with
  | zero =>
    intro k i hi hk
    obtain ⟨k, rfl, -⟩ := fuel hk
    simp only [laws_markIntS.l0]
    rw [if_neg (by rw [List.length_append, markI_length, List.length_drop]; omega), drop_end (by omega), List.append_nil, show i = xs.length by omega]
  | succ d ih =>
    intro k i hi hk
    obtain ⟨k, rfl, hk⟩ := fuel hk
    simp only [laws_markIntS.l0]
    rw [if_pos (by rw [List.length_append, markI_length, List.length_drop]; omega), if_pos (by omega), toNat_cast, wrap_succ (by omega), wrap_id (by omega) (by omega)]
    have := ih k (i + 1) (by omega) (by omega)
    have e : (markI i a ++ xs.drop i).set i (a + (i : Int)) = markI (i + 1) a ++ xs.drop (i + 1) := by
      rw [drop_rd (by omega), markI_succ, List.set_append_right _ _ (by rw [markI_length]; omega), markI_length, Nat.sub_self, List.set_cons_zero, List.append_assoc]
      rfl
    rw [e, show a + (i : Int) + 1 = a + ((i + 1 : Nat) : Int) by omega]
    exact this
theorem markIntS_big (k : Nat) (xs : List Int) (a : Int) (ha : 0 ≤ a ∧ a ≤ 1000000000000000000) (hb : xs.length ≤ 1000000000) (hk : xs.length < k) : laws_markIntS.f k xs a = some (a + (xs.length : Int), markI xs.length a) := by
  unfold laws_markIntS.f
  have := markIntS_l0b xs a ha hb xs.length k 0 (by omega) hk
  simpa [markI] using this

/-! ### the law -/
/-- The marks of loans. -/
def mLS : List S56 → Int → List S56
  | [], _ => []
  | x :: xs, a => ⟨a, a + 1, markI x.f2.length (a + 2)⟩ :: mLS xs (a + 2 + (x.f2.length : Int))
def totG : List S56 → Int
  | [] => 0
  | x :: xs => 2 + (x.f2.length : Int) + totG xs
theorem totG_nonneg : ∀ xs, 0 ≤ totG xs
  | [] => Int.le_refl _
  | x :: xs => by have := totG_nonneg xs; simp only [totG]; omega
theorem totG_le : ∀ (xs : List S56), (∀ x ∈ xs, x.f2.length ≤ 1000) → totG xs ≤ 1002 * (xs.length : Int)
  | [], _ => by simp [totG]
  | x :: xs, h => by
    have h1 := totG_le xs (fun y hy => h y (List.mem_cons_of_mem _ hy))
    have h2 := h x (by simp)
    simp only [totG, List.length_cons]
    push_cast
    omega
theorem rdT_mid (pre post : List S56) (x : S56) {i : Nat} (h : pre.length = i) : rd_T56 (pre ++ x :: post) (i : Int) = x := by
  subst h; simp [rd_T56, List.getD_eq_getElem?_getD]
theorem markLS_l0 : ∀ (post : List S56) (k i : Nat) (pre : List S56) (a : Int), pre.length = i → (∀ x ∈ post, x.f2.length ≤ 1000) → post.length + 2000 < k → pre.length + post.length ≤ 1000000 → 0 ≤ a → a + totG post ≤ 100000000 → laws_markLoanS.l0 k (pre ++ post) a (i : Int) = some (a + totG post, pre ++ mLS post a) := by
  intro post
  induction post with
  | nil =>
    intro k i pre a hi hx hk hb h0 h1
    obtain ⟨k, rfl, -⟩ := fuel (show 0 < k by omega)
    simp only [laws_markLoanS.l0]
    rw [if_neg (by simp; omega)]
    simp [totG, mLS]
  | cons x xs ih =>
    intro k i pre a hi hx hk hb h0 h1
    rw [List.length_cons] at hk hb
    obtain ⟨k, rfl, hk⟩ := fuel (show xs.length + 2000 < k by omega)
    have hxl := hx x (by simp)
    have hnn := totG_nonneg xs
    simp only [totG] at h1
    simp only [laws_markLoanS.l0]
    rw [if_pos (by simp; omega), if_pos (by omega), rdT_mid pre xs x hi, wrap_id (x := a + 1) (by omega) (by omega), wrap_id (x := a + 1 + 1) (by omega) (by omega), markIntS_spec _ _ _ (by omega) (by omega) (by omega), Option.bind_some, toNat_cast, wrap_succ (by omega)]
    have e : ∀ u : S56, (pre ++ x :: xs).set i u = (pre ++ [u]) ++ xs := by
      intro u
      rw [List.set_append_right _ _ (by omega), hi, Nat.sub_self, List.set_cons_zero]; simp
    have q := ih k (i + 1) (pre ++ [⟨a, a + 1, markI x.f2.length (a + 1 + 1)⟩]) (a + 1 + 1 + (x.f2.length : Int)) (by simp; omega) (fun y hy => hx y (by simp [hy])) (by omega) (by simp; omega) (by omega) (by omega)
    simp only []
    rw [e, q]
    simp only [mLS, totG, List.append_assoc, List.singleton_append]
    rw [show a + 1 + 1 = a + 2 by omega, show a + 2 + (x.f2.length : Int) + totG xs = a + (2 + (x.f2.length : Int) + totG xs) by omega]
theorem heldLS_l0 : ∀ (post : List S56) (k i : Nat) (pre : List S56) (a : Int), pre.length = i → (∀ x ∈ post, x.f2.length ≤ 1000) → post.length + 2000 < k → pre.length + post.length ≤ 1000000 → 0 ≤ a → a + totG post ≤ 100000000 → laws_heldLoanS.l0 k (pre ++ mLS post a) a (i : Int) = some (a + totG post) := by
  intro post
  induction post with
  | nil =>
    intro k i pre a hi hx hk hb h0 h1
    obtain ⟨k, rfl, -⟩ := fuel (show 0 < k by omega)
    rw [show mLS [] a = [] from rfl, List.append_nil]
    simp only [laws_heldLoanS.l0]
    rw [if_neg (by omega)]
    simp [totG]
  | cons x xs ih =>
    intro k i pre a hi hx hk hb h0 h1
    rw [List.length_cons] at hk hb
    obtain ⟨k, rfl, hk⟩ := fuel (show xs.length + 2000 < k by omega)
    have hxl := hx x (by simp)
    have hnn := totG_nonneg xs
    simp only [totG] at h1
    rw [show mLS (x :: xs) a = ⟨a, a + 1, markI x.f2.length (a + 2)⟩ :: mLS xs (a + 2 + (x.f2.length : Int)) from rfl]
    simp only [laws_heldLoanS.l0]
    rw [if_pos (by rw [List.length_append, List.length_cons]; omega), if_pos (by omega), rdT_mid pre _ _ hi]
    simp only []
    rw [if_pos trivial, wrap_id (x := a + 1) (by omega) (by omega), if_pos rfl, wrap_id (x := a + 1 + 1) (by omega) (by omega), show a + 1 + 1 = a + 2 by omega, heldIntS_spec _ _ _ (by omega) (by omega) (by omega), Option.bind_some, if_neg (by omega), wrap_succ (by omega)]
    have q := ih k (i + 1) (pre ++ [⟨a, a + 1, markI x.f2.length (a + 2)⟩]) (a + 2 + (x.f2.length : Int)) (by simp; omega) (fun y hy => hx y (by simp [hy])) (by omega) (by simp; omega) (by omega) (by omega)
    rw [List.append_assoc, List.singleton_append] at q
    rw [q]
    simp only [totG]
    congr 1
    omega
theorem markLS_spec (k : Nat) (xs : List S56) (hx : ∀ x ∈ xs, x.f2.length ≤ 1000) (hb : xs.length ≤ 1000) (hk : 4000 < k) : laws_markLoanS.f k xs 1 = some (1 + totG xs, mLS xs 1) := by
  have ht := totG_le xs hx
  have := markLS_l0 xs k 0 [] 1 rfl hx (by omega) (by simp; omega) (by omega) (by omega)
  simpa [laws_markLoanS.f] using this
theorem heldLS_spec (k : Nat) (xs : List S56) (hx : ∀ x ∈ xs, x.f2.length ≤ 1000) (hb : xs.length ≤ 1000) (hk : 4000 < k) : laws_heldLoanS.f k (mLS xs 1) 1 = some (1 + totG xs) := by
  have ht := totG_le xs hx
  have := heldLS_l0 xs k 0 [] 1 rfl hx (by omega) (by simp; omega) (by omega) (by omega)
  simpa [laws_heldLoanS.f] using this
theorem markAny_l0 : ∀ (d k i : Nat) (xs : List S56) (a : Int), xs.length ≤ 1048576 → (∀ x ∈ xs, x.f2.length ≤ 1048576) → i + d = xs.length → 1048600 + d < k → 0 ≤ a → a ≤ 2000000 + 1048578 * (i : Int) → ∃ r y, laws_markLoanS.l0 k xs a (i : Int) = some (r, y) ∧ 0 ≤ r := by
  intro d
  induction d with
  | zero =>
    intro k i xs a hb hg hi hk h0 h1
    obtain ⟨k, rfl, -⟩ := fuel hk
    simp only [laws_markLoanS.l0]
    rw [if_neg (by omega)]
    exact ⟨a, xs, rfl, h0⟩
  | succ d ih =>
    intro k i xs a hb hg hi hk h0 h1
    obtain ⟨k, rfl, hk⟩ := fuel hk
    have hgi := hg (rd_T56 xs (i : Int)) (by simp [rd_T56, List.getD_eq_getElem?_getD, List.getElem?_eq_getElem (show i < xs.length by omega)])
    simp only [laws_markLoanS.l0]
    rw [if_pos (by omega), if_pos (by omega), wrap_id (x := a + 1) (by omega) (by omega), wrap_id (x := a + 1 + 1) (by omega) (by omega), markIntS_big _ _ _ (by omega) (by omega) (by omega), Option.bind_some, toNat_cast, wrap_succ (by omega)]
    refine ih k (i + 1) _ _ (by simpa using hb) (fun x hx => ?_) (by simp; omega) (by omega) (by simp only []; omega) (by simp only []; omega)
    rcases List.mem_or_eq_of_mem_set hx with h | h
    · exact hg x h
    · rw [h]; simp only [markI_length]; exact hgi
theorem markAny_spec (k : Nat) (xs : List S56) (hb : xs.length ≤ 1048576) (hg : ∀ x ∈ xs, x.f2.length ≤ 1048576) (hk : 2097200 < k) : ∃ r y, laws_markLoanS.f k xs 1 = some (r, y) ∧ 0 ≤ r := by
  unfold laws_markLoanS.f
  exact markAny_l0 xs.length k 0 xs 1 hb hg (by omega) (by omega) (by omega) (by omega)
theorem payLM_small (ls : List S56) (n i a : Int) : (payLM ls n i a).length ≤ 1000 ∧ ∀ x ∈ payLM ls n i a, x.f2.length ≤ 1000 := by
  by_cases h : CanPay ls n i a
  · have hok := pay_sub h
    refine ⟨by have := hok.1; omega, fun x hx => ?_⟩
    have := okLoan_len hok.2.2.1 (hok.2.2.2 x hx)
    omega
  · rw [payLM_neg h]; simp
theorem FnExactPayLoan (l0 : List S68) (a1 : Int) (a2 : Int) (a3 : Int) (h0 : l0.length ≤ maxLen) (q0 : ∀ x2 ∈ l0, ((Lit.int .i64 x2.f0).wf = true ∧ (Lit.int .i64 x2.f1).wf = true ∧ (x2.f2.length ≤ maxLen ∧ ∀ x5 ∈ x2.f2, (Lit.int .i64 x5).wf = true))) (w1 : (Lit.int .i64 a1).wf = true) (w2 : (Lit.int .i64 a2).wf = true) (w3 : (Lit.int .i64 a3).wf = true) : laws_FnExactPayLoan.f 4000000 l0 a1 a2 a3 = some true := by
  unfold laws_FnExactPayLoan.f
  obtain ⟨r, hr, hl⟩ := szLoanS_spec 4000000 l0 h0 (fun x hx => (q0 x hx).2.2.1) 1048576 (by omega) (by omega) (by omega)
  rw [hr, Option.bind_some]
  by_cases h1 : r < 0
  · rw [if_pos h1]
  · obtain ⟨-, hb, hg⟩ := hl (by omega)
    have m1 : (l0.map convM).length ≤ 1048576 := by simpa using hb
    have m2 : ∀ x ∈ l0.map convM, x.f2.length ≤ 1048576 := by
      intro x hx
      obtain ⟨y, hy, rfl⟩ := List.mem_map.1 hx
      exact hg y hy
    obtain ⟨p1, p2⟩ := payLM_small (l0.map convM) a1 a2 a3
    have p3 : ∀ x ∈ payLM (l0.map convM) a1 a2 a3, x.f2.length ≤ 1048576 := fun x hx => by have := p2 x hx; omega
    obtain ⟨t, y, ht1, ht2⟩ := markAny_spec 4000000 _ m1 m2 (by omega)
    have ht := totG_nonneg (payLM (l0.map convM) a1 a2 a3)
    rw [if_neg h1, toLoanS_spec _ _ hb hg (by omega), Option.bind_some, specPay_spec _ _ _ _ _ m1 m2 (by omega), Option.bind_some, Option.bind_some, implPay_spec _ _ _ _ _ m1 m2 (by omega), Option.bind_some, eqLoanS_self _ _ (by omega) p3 (by omega), Option.bind_some, if_pos rfl, Option.bind_some, eqLoanS_self _ _ m1 m2 (by omega), Option.bind_some, if_pos rfl, ht1, Option.bind_some]
    simp only []
    rw [if_pos ht2, Option.bind_some, if_pos rfl, markLS_spec _ _ p2 p1 (by omega), Option.bind_some]
    simp only []
    rw [heldLS_spec _ _ p2 p1 (by omega), Option.bind_some, if_pos (by omega), if_pos rfl, Option.bind_some, implPay_spec _ _ _ _ _ m1 m2 (by omega), Option.bind_some, eqLoanS_self _ _ (by omega) p3 (by omega), Option.bind_some, if_pos rfl, Option.bind_some, if_pos (by omega), if_pos rfl]

end Go.Proofs.Ytmipmnejppoeiaa.Pure
