/- The law FnMergeLoans holds: the program's function answers as the reference does at every drawn input, and has the law's property; no condition. -/
import Derived.Test.YtmipmnejppoeiaaPFnMergeLoansx12
set_option linter.unusedVariables false
set_option linter.unusedSimpArgs false
namespace Go.Proofs.Ytmipmnejppoeiaa.Pure
open Go.RowKit Go.Proofs.Ytmipmnejppoeiaa.PFnMergeLoans Go.Proofs.YtmipmnejppoeiaaW.PrintWords Go.Proofs.YtmipmnejppoeiaaW.PrintLast Go.Proofs.YtmipmnejppoeiaaW.PrintMore

/-! ### base -/
theorem fuel {k n : Nat} (h : n < k) : ∃ m, k = m + 1 ∧ n ≤ m := ⟨k - 1, by omega, by omega⟩
theorem wrap_id {x : Int} (h1 : -9223372036854775808 ≤ x) (h2 : x ≤ 9223372036854775807) : wrap64 x = x := by unfold wrap64; omega
theorem wrap_succ {i : Nat} (h : i < 4611686018427387904) : wrap64 ((i : Int) + 1) = ((i + 1 : Nat) : Int) := by unfold wrap64; omega
theorem wrap_succ' {i : Int} (h0 : 0 ≤ i) (h : i < 4611686018427387904) : wrap64 (i + 1) = i + 1 := by unfold wrap64; omega
theorem wrap_wrap (x : Int) : wrap64 (wrap64 x) = wrap64 x := by unfold wrap64; omega
theorem wrap_add_l (x y : Int) : wrap64 (wrap64 x + y) = wrap64 (x + y) := by unfold wrap64; omega
theorem wrap_add_r (x y : Int) : wrap64 (x + wrap64 y) = wrap64 (x + y) := by unfold wrap64; omega
theorem wrap_sub_l (x y : Int) : wrap64 (wrap64 x - y) = wrap64 (x - y) := by unfold wrap64; omega
theorem rd_get {xs : List Int} {i : Nat} (h : i < xs.length) : rd xs (i : Int) = xs[i] := by
  simp [rd, List.getD_eq_getElem?_getD, List.getElem?_eq_getElem h]
theorem drop_rd {xs : List Int} {i : Nat} (h : i < xs.length) : xs.drop i = rd xs (i : Int) :: xs.drop (i + 1) := by
  rw [rd_get h, List.drop_eq_getElem_cons h]
theorem drop_end {α : Type} {xs : List α} {i : Nat} (h : xs.length ≤ i) : xs.drop i = [] := List.drop_eq_nil_of_le h
theorem take_rd {xs : List Int} {i : Nat} (h : i < xs.length) : xs.take (i + 1) = xs.take i ++ [rd xs (i : Int)] := by
  rw [rd_get h, List.take_succ_eq_append_getElem h]
theorem rd_mem {xs : List Int} {i : Nat} (h : i < xs.length) : rd xs (i : Int) ∈ xs := by
  rw [rd_get h]; exact List.getElem_mem h
theorem rd_mem' {xs : List Int} {i : Int} (h0 : 0 ≤ i) (h : i < (xs.length : Int)) : rd xs i ∈ xs := by
  obtain ⟨j, rfl⟩ := Int.eq_ofNat_of_zero_le h0
  exact rd_mem (by omega)
theorem mem_rd {xs : List Int} {x : Int} (h : x ∈ xs) : ∃ i : Nat, i < xs.length ∧ rd xs (i : Int) = x := by
  obtain ⟨i, hi, he⟩ := List.getElem_of_mem h
  exact ⟨i, hi, by rw [rd_get hi, he]⟩
theorem ext_rd {xs ys : List Int} (hl : xs.length = ys.length) (h : ∀ i : Nat, i < xs.length → rd xs (i : Int) = rd ys (i : Int)) : xs = ys := by
  apply List.ext_getElem hl
  intro i h1 h2
  have := h i h1
  rwa [rd_get h1, rd_get h2] at this
theorem rd_set {xs : List Int} {i j : Nat} {v : Int} (hj : j < xs.length) : rd (xs.set i v) (j : Int) = if i = j then v else rd xs (j : Int) := by
  rw [rd_get (by simpa using hj), rd_get hj, List.getElem_set]
theorem rd_set_ne {xs : List Int} {i j : Nat} {v : Int} (h : i ≠ j) : rd (xs.set i v) (j : Int) = rd xs (j : Int) := by
  simp only [rd, List.getD_eq_getElem?_getD, Int.toNat_natCast, List.getElem?_set_ne h]
theorem rd_append_l {xs ys : List Int} {i : Nat} (h : i < xs.length) : rd (xs ++ ys) (i : Int) = rd xs (i : Int) := by
  rw [rd_get (by simp; omega), rd_get h, List.getElem_append_left h]
theorem rd_append_r {xs ys : List Int} {i : Nat} (h : xs.length ≤ i) (h2 : i < xs.length + ys.length) : rd (xs ++ ys) (i : Int) = rd ys ((i - xs.length : Nat) : Int) := by
  rw [rd_get (by simp; omega), rd_get (by omega), List.getElem_append_right h]
theorem rd_replicate {n i : Nat} {v : Int} (h : i < n) : rd (List.replicate n v) (i : Int) = v := by
  rw [rd_get (by simpa using h)]; simp
theorem rd_mapRange {n i : Nat} {f : Nat → Int} (h : i < n) : rd ((List.range n).map f) (i : Int) = f i := by
  rw [rd_get (by simpa using h)]; simp
theorem toNat_cast (i : Nat) : ((i : Int) : Int).toNat = i := by simp
theorem mx_max (a b : Int) : mx a b = max a b := by unfold mx; omega
theorem mn_min (a b : Int) : mn a b = min a b := by unfold mn; omega
theorem bits_xor {a b : Int} (ha : 0 ≤ a) (ha2 : a < 4611686018427387904) (hb : 0 ≤ b) (hb2 : b < 4611686018427387904) : 0 ≤ Go.bits .xor .i64 a b ∧ Go.bits .xor .i64 a b < 4611686018427387904 := by
  obtain ⟨a, rfl⟩ := Int.eq_ofNat_of_zero_le ha
  obtain ⟨b, rfl⟩ := Int.eq_ofNat_of_zero_le hb
  have h1 : a < 2 ^ 62 := by omega
  have h2 : b < 2 ^ 62 := by omega
  have h3 := Nat.xor_lt_two_pow h1 h2
  have e : Go.bits .xor .i64 (a : Int) (b : Int) = IntKind.i64.wrap (((BitVec.ofInt 64 (a : Int)) ^^^ (BitVec.ofInt 64 (b : Int))).toNat : Int) := rfl
  have ha' : (BitVec.ofInt 64 (a : Int)).toNat = a := by rw [BitVec.ofInt_natCast, BitVec.toNat_ofNat]; exact Nat.mod_eq_of_lt (by omega)
  have hb' : (BitVec.ofInt 64 (b : Int)).toNat = b := by rw [BitVec.ofInt_natCast, BitVec.toNat_ofNat]; exact Nat.mod_eq_of_lt (by omega)
  rw [e, BitVec.toNat_xor, ha', hb', IntKind.wrap_i64]
  omega
theorem cast0 : ((0 : Nat) : Int) = 0 := rfl
theorem w01 : wrap64 (0 + 1) = 1 := by unfold wrap64; omega
theorem w12 : wrap64 (1 + 1) = 2 := by unfold wrap64; omega
theorem w23 : wrap64 (2 + 1) = 3 := by unfold wrap64; omega
theorem w34 : wrap64 (3 + 1) = 4 := by unfold wrap64; omega
theorem w45 : wrap64 (4 + 1) = 5 := by unfold wrap64; omega

/-! ### listm -/
theorem pigeon : ∀ (n : Nat) (xs : List Int), xs.Nodup → (∀ x ∈ xs, 0 ≤ x ∧ x < (n : Int)) → xs.length ≤ n := by
  intro n
  induction n with
  | zero =>
    intro xs _ h
    cases xs with
    | nil => simp
    | cons x xs => have := h x (by simp); omega
  | succ n ih =>
    intro xs hn h
    by_cases hm : (n : Int) ∈ xs
    · have h1 := ih (xs.erase (n : Int)) (hn.erase _) (fun x hx => by
        have h2 := (hn.mem_erase_iff).1 hx
        have h3 := h x h2.2
        have h4 := h2.1
        omega)
      rw [List.length_erase_of_mem hm] at h1
      omega
    · have h1 := ih xs hn (fun x hx => by
        have h3 := h x hx
        have h4 : x ≠ (n : Int) := fun e => hm (e ▸ hx)
        omega)
      omega
/-- Fewer different members than there are: one is missing. -/
theorem one_missing : ∀ (n : Nat) (xs : List Int), xs.length < n → ∃ j : Nat, j < n ∧ (j : Int) ∉ xs := by
  intro n
  induction n with
  | zero => intro xs h; omega
  | succ n ih =>
    intro xs h
    by_cases hm : (n : Int) ∈ xs
    · obtain ⟨j, hj, hx⟩ := ih (xs.erase (n : Int)) (by rw [List.length_erase_of_mem hm]; have := List.length_pos_of_mem hm; omega)
      refine ⟨j, by omega, fun hmem => hx ?_⟩
      exact (List.mem_erase_of_ne (by omega)).2 hmem
    · exact ⟨n, by omega, hm⟩
/-- Members, one after the other, in range and not seen yet. -/
def memB (n : Int) : List Int → List Int → Bool
  | _, [] => true
  | seen, x :: rest => decide (0 ≤ x ∧ x < n) && (!decide (x ∈ seen) && memB n (seen ++ [x]) rest)
theorem memB_iff (n : Int) : ∀ (xs seen : List Int), memB n seen xs = true ↔ (∀ x ∈ xs, 0 ≤ x ∧ x < n ∧ x ∉ seen) ∧ xs.Nodup := by
  intro xs
  induction xs with
  | nil => intro seen; simp [memB]
  | cons a xs ih =>
    intro seen
    simp only [memB, Bool.and_eq_true, decide_eq_true_eq, Bool.not_eq_true', decide_eq_false_iff_not, ih, List.mem_cons, List.mem_append, List.not_mem_nil, or_false, List.nodup_cons]
    constructor
    · rintro ⟨⟨h1, h2⟩, h3, h4, h5⟩
      refine ⟨?_, fun ha => (h4 a ha).2.2 (Or.inr rfl), h5⟩
      rintro x (rfl | hx)
      · exact ⟨h1, h2, h3⟩
      · obtain ⟨a1, a2, a3⟩ := h4 x hx
        exact ⟨a1, a2, fun h => a3 (Or.inl h)⟩
    · rintro ⟨h1, h2, h3⟩
      obtain ⟨a1, a2, a3⟩ := h1 a (Or.inl rfl)
      refine ⟨⟨a1, a2⟩, a3, fun x hx => ?_, h3⟩
      obtain ⟨b1, b2, b3⟩ := h1 x (Or.inr hx)
      refine ⟨b1, b2, ?_⟩
      rintro (h | rfl)
      · exact b3 h
      · exact h2 hx
/-- Different members of a body. -/
def GoodM (xs : List Int) (n : Int) : Prop := xs.Nodup ∧ ∀ x ∈ xs, 0 ≤ x ∧ x < n
instance (xs : List Int) (n : Int) : Decidable (GoodM xs n) := inferInstanceAs (Decidable (_ ∧ _))
theorem memB_good (n : Int) (xs : List Int) : memB n [] xs = decide (GoodM xs n) := by
  rw [Bool.eq_iff_iff, memB_iff, decide_eq_true_eq]
  unfold GoodM
  constructor
  · rintro ⟨h, hn⟩
    exact ⟨hn, fun x hx => ⟨(h x hx).1, (h x hx).2.1⟩⟩
  · rintro ⟨hn, h⟩
    exact ⟨fun x hx => ⟨(h x hx).1, (h x hx).2, by simp⟩, hn⟩
theorem GoodM.le {xs : List Int} {n : Nat} (h : GoodM xs (n : Int)) : xs.length ≤ n := pigeon n xs h.1 h.2
/-- The first place of a number behind some. -/
def idxM : List Int → Int → Nat → Int
  | [], _, _ => -1
  | y :: ys, x, i => if y = x then (i : Int) else idxM ys x (i + 1)
theorem idxM_neg : ∀ (xs : List Int) (x : Int) (i : Nat), idxM xs x i < 0 ↔ x ∉ xs := by
  intro xs
  induction xs with
  | nil => intro x i; simp [idxM]
  | cons y ys ih =>
    intro x i
    simp only [idxM]
    by_cases e : y = x
    · rw [if_pos e]; simp [e]
    · rw [if_neg e, ih]
      have e' : ¬ x = y := fun h => e h.symm
      simp [e']
theorem idxM_nonneg (xs : List Int) (x : Int) (i : Nat) : 0 ≤ idxM xs x i ↔ x ∈ xs := by
  have := idxM_neg xs x i
  by_cases h : x ∈ xs
  · simp only [h, not_true, iff_false] at this
    simp [h]; omega
  · simp only [h, not_false_iff, iff_true] at this
    simp [h]; omega
theorem idxM_at : ∀ (xs : List Int) (x : Int) (i : Nat), x ∈ xs → ∃ j : Nat, idxM xs x i = ((i + j : Nat) : Int) ∧ j < xs.length ∧ rd xs (j : Int) = x ∧ ∀ q : Nat, q < j → rd xs (q : Int) ≠ x := by
  intro xs
  induction xs with
  | nil => intro x i h; simp at h
  | cons y ys ih =>
    intro x i h
    by_cases e : y = x
    · exact ⟨0, by simp [idxM, e], by simp, by simp [rd, e], fun q hq => by omega⟩
    · have hx : x ∈ ys := by
        rcases List.mem_cons.1 h with h | h
        · exact absurd h.symm e
        · exact h
      obtain ⟨j, h1, h2, h3, h4⟩ := ih x (i + 1) hx
      refine ⟨j + 1, by simp only [idxM, if_neg e, h1]; omega, by simp; omega, ?_, ?_⟩
      · rw [← h3, rd_get (by simp; omega), rd_get h2]; simp
      · intro q hq
        cases q with
        | zero => rw [rd_get (by simp)]; simpa using e
        | succ q => have := h4 q (by omega); rw [rd_get (by simp; omega)]; rw [rd_get (by omega)] at this; simpa using this
theorem sum_set : ∀ (xs : List Int) (i : Nat) (v : Int), i < xs.length → (xs.set i v).sum = xs.sum - rd xs (i : Int) + v := by
  intro xs
  induction xs with
  | nil => intro i v h; simp at h
  | cons x xs ih =>
    intro i v h
    cases i with
    | zero => simp [rd]; omega
    | succ i =>
      have h2 : i < xs.length := by simpa using h
      have := ih i v h2
      have e : rd (x :: xs) ((i + 1 : Nat) : Int) = rd xs (i : Int) := by rw [rd_get h, rd_get h2]; simp
      simp only [List.set_cons_succ, List.sum_cons, this, e]
      omega
theorem sum_replicate0 (n : Nat) : (List.replicate n (0 : Int)).sum = 0 := by
  induction n with
  | zero => rfl
  | succ n ih => simp [List.replicate_succ, ih]
theorem set_fill {α : Type} (A : List α) (d : Nat) (z v : α) : (A ++ List.replicate (d + 1) z).set A.length v = (A ++ [v]) ++ List.replicate d z := by
  rw [List.set_append_right _ _ (Nat.le_refl _)]
  simp [List.replicate_succ]
theorem set_fill' {α : Type} {A : List α} {i d : Nat} {z v : α} (h : A.length = i) : (A ++ List.replicate (d + 1) z).set i v = (A ++ [v]) ++ List.replicate d z := by
  subst h; exact set_fill A d z v
theorem sum_bound : ∀ (xs : List Int) (lo hi : Int), (∀ x ∈ xs, lo ≤ x ∧ x ≤ hi) → (xs.length : Int) * lo ≤ xs.sum ∧ xs.sum ≤ (xs.length : Int) * hi := by
  intro xs lo hi
  induction xs with
  | nil => intro _; simp
  | cons x xs ih =>
    intro h
    have h1 := ih (fun y hy => h y (by simp [hy]))
    have h2 := h x (by simp)
    have e1 : ((x :: xs).length : Int) * lo = (xs.length : Int) * lo + lo := by simp [Int.add_mul]
    have e2 : ((x :: xs).length : Int) * hi = (xs.length : Int) * hi + hi := by simp [Int.add_mul]
    rw [e1, e2, List.sum_cons]
    omega

/-! ### different -/
theorem flags_set {fl : List Bool} {n : Int} {seen : List Int} {x : Int} (hl : (fl.length : Int) = n) (h : ∀ j : Int, 0 ≤ j → j < n → rdOf false fl j = decide (j ∈ seen)) (h0 : 0 ≤ x) (h1 : x < n) :
    ∀ j : Int, 0 ≤ j → j < n → rdOf false (fl.set x.toNat true) j = decide (j ∈ seen ++ [x]) := by
  intro j hj0 hj
  have := h j hj0 hj
  simp only [rdOf, List.getD_eq_getElem?_getD, List.getElem?_set] at this ⊢
  by_cases e : x = j
  · subst e
    rw [if_pos rfl, if_pos (by omega)]
    simp
  · rw [if_neg (by omega), this]
    have : ¬ j = x := fun h => e h.symm
    simp [this]
theorem different_l0 (xs : List Int) (n : Int) (hb : xs.length < 4611686018427387904) : ∀ (d k i : Nat) (fl : List Bool), (fl.length : Int) = n → (∀ j : Int, 0 ≤ j → j < n → rdOf false fl j = decide (j ∈ xs.take i)) → i + d = xs.length → d < k → impl_differentBelow.l0 k n fl xs (xs.length : Int) (i : Int) = some (memB n (xs.take i) (xs.drop i)) := by
  intro d
  induction d with
  | zero =>
    intro k i fl hl hf hi hk
    obtain ⟨k, rfl, -⟩ := fuel hk
    simp only [impl_differentBelow.l0]
    rw [if_neg (by omega), drop_end (by omega)]
    simp [memB]
  | succ d ih =>
    intro k i fl hl hf hi hk
    obtain ⟨k, rfl, hk⟩ := fuel hk
    simp only [impl_differentBelow.l0]
    rw [if_pos (by omega), if_pos (by omega), if_pos (by omega), wrap_succ (by omega), drop_rd (by omega)]
    simp only [memB]
    by_cases h1 : rd xs (i : Int) < 0
    · rw [if_pos h1, decide_eq_false (by omega)]; rfl
    · rw [if_neg h1]
      by_cases h2 : rd xs (i : Int) ≥ n
      · rw [if_pos h2, decide_eq_false (by omega)]; rfl
      · rw [if_neg h2, if_pos (by omega), if_pos (by omega), hf _ (by omega) (by omega), decide_eq_true (show 0 ≤ rd xs (i : Int) ∧ rd xs (i : Int) < n by omega)]
        by_cases h3 : rd xs (i : Int) ∈ xs.take i
        · rw [decide_eq_true h3, if_pos rfl]; rfl
        · rw [decide_eq_false h3, if_neg (by decide), ih k (i + 1) _ (by simpa using hl) (by rw [take_rd (by omega)]; exact flags_set hl hf (by omega) (by omega)) (by omega) (by omega), take_rd (by omega)]; rfl
theorem different_spec (k : Nat) (xs : List Int) (n : Int) (hn : 0 ≤ n) (hn2 : n ≤ 281474976710656) (hb : xs.length < 4611686018427387904) (hk : xs.length < k) : impl_differentBelow.f k xs n = some (decide (GoodM xs n)) := by
  unfold impl_differentBelow.f
  by_cases h : (xs.length : Int) > n
  · rw [if_pos h, decide_eq_false]
    intro hg
    obtain ⟨m, rfl⟩ := Int.eq_ofNat_of_zero_le hn
    have := hg.le
    omega
  · rw [if_neg h, if_pos hn, if_pos (by omega)]
    have := different_l0 xs n hb xs.length k 0 (List.replicate n.toNat false) (by simp; omega) (fun j h0 h1 => by simp [rdOf, List.getD_eq_getElem?_getD, List.getElem?_replicate]; split <;> rfl) (by omega) hk
    rw [← memB_good]
    simpa using this

/-! ### index -/
theorem index_l0 (xs : List Int) (x : Int) (hb : xs.length < 4611686018427387904) : ∀ (d k i : Nat), i + d = xs.length → d < k → slices_Index_int_int.l0 k xs x (xs.length : Int) (i : Int) = some (idxM (xs.drop i) x i) := by
  intro d
  induction d with
  | zero =>
    intro k i hi hk
    obtain ⟨k, rfl, -⟩ := fuel hk
    simp only [slices_Index_int_int.l0]
    rw [if_neg (by omega), drop_end (by omega)]
    simp [idxM]
  | succ d ih =>
    intro k i hi hk
    obtain ⟨k, rfl, hk⟩ := fuel hk
    simp only [slices_Index_int_int.l0]
    rw [if_pos (by omega), if_pos (by omega), if_pos (by omega), wrap_succ (by omega), drop_rd (by omega)]
    simp only [idxM]
    rw [ih k (i + 1) (by omega) (by omega)]
    by_cases e : x = rd xs (i : Int)
    · rw [if_pos e, if_pos e.symm]
    · rw [if_neg e, if_neg (fun h => e h.symm)]
theorem index_spec (k : Nat) (xs : List Int) (x : Int) (hb : xs.length < 4611686018427387904) (hk : xs.length < k) : slices_Index_int_int.f k xs x = some (idxM xs x 0) := by
  unfold slices_Index_int_int.f
  have := index_l0 xs x hb xs.length k 0 (by omega) hk
  simpa using this

/-! ### contains -/
theorem contains_spec (k : Nat) (xs : List Int) (x : Int) (hb : xs.length < 4611686018427387904) (hk : xs.length < k) : slices_Contains_int_int.f k xs x = some (decide (x ∈ xs)) := by
  unfold slices_Contains_int_int.f
  rw [index_spec k xs x hb hk]
  simp only [Option.bind_some]
  congr 1
  rw [decide_eq_decide]
  exact idxM_nonneg xs x 0

/-! ### loans -/
/-- A loan that is valid. -/
def OkLoan (l : S56) (n : Int) : Prop := 0 ≤ l.f0 ∧ l.f0 < n ∧ 1 ≤ l.f1 ∧ l.f1 ≤ 100000 ∧ 1 ≤ l.f2.length ∧ GoodM l.f2 n ∧ l.f0 ∉ l.f2
instance (l : S56) (n : Int) : Decidable (OkLoan l n) := inferInstanceAs (Decidable (_ ∧ _))
def OkLoans (list : List S56) (n : Int) : Prop := list.length ≤ 16 ∧ 1 ≤ n ∧ n ≤ 12 ∧ ∀ l ∈ list, OkLoan l n
instance (list : List S56) (n : Int) : Decidable (OkLoans list n) := inferInstanceAs (Decidable (_ ∧ _))
theorem rdT_at {xs : List S56} {i : Nat} (h : i < xs.length) : rd_T56 xs (i : Int) = xs[i] := by
  simp [rd_T56, List.getD_eq_getElem?_getD, List.getElem?_eq_getElem h]
theorem drop_rdT {xs : List S56} {i : Nat} (h : i < xs.length) : xs.drop i = rd_T56 xs (i : Int) :: xs.drop (i + 1) := by
  rw [rdT_at h, List.drop_eq_getElem_cons h]
theorem rdT_mem {xs : List S56} {i : Nat} (h : i < xs.length) : rd_T56 xs (i : Int) ∈ xs := by
  rw [rdT_at h]; exact List.getElem_mem h
theorem implValidLoans_l0 (list : List S56) (n : Int) (hn1 : 1 ≤ n) (hn2 : n ≤ 12) (hl : list.length ≤ 16) (hg : ∀ l ∈ list, l.f2.length ≤ 1048576) : ∀ (d k i : Nat), i + d = list.length → d + d + 1048600 < k →
    impl_ValidLoans.l0 k n list (list.length : Int) (i : Int) = some (decide (∀ l ∈ list.drop i, OkLoan l n)) := by
  intro d
  induction d with
  | zero =>
    intro k i hi hk
    obtain ⟨k, rfl, -⟩ := fuel (show 0 < k by omega)
    simp only [impl_ValidLoans.l0]
    rw [if_neg (by omega), drop_end (by omega)]
    simp
  | succ d ih =>
    intro k i hi hk
    obtain ⟨k, rfl, hk⟩ := fuel (show d + d + 1048601 < k by omega)
    obtain ⟨k, rfl, hk⟩ := fuel (show d + d + 1048600 < k by omega)
    simp only [impl_ValidLoans.l0, impl_ValidLoans.j2, if_true]
    rw [if_pos (by omega), if_pos (by omega), if_pos (by omega), drop_rdT (by omega)]
    have hgl := hg _ (rdT_mem (xs := list) (i := i) (by omega))
    generalize rd_T56 list (i : Int) = l at hgl ⊢
    simp only [List.forall_mem_cons]
    by_cases h1 : l.f0 < 0
    · rw [if_pos h1, decide_eq_false]; rintro ⟨h, -⟩; have := h.1; omega
    · rw [if_neg h1]
      by_cases h2 : l.f0 ≥ n
      · rw [if_pos h2, decide_eq_false]; rintro ⟨h, -⟩; have := h.2.1; omega
      · rw [if_neg h2]
        by_cases h3 : l.f1 < 1
        · rw [if_pos h3, decide_eq_false]; rintro ⟨h, -⟩; have := h.2.2.1; omega
        · rw [if_neg h3]
          by_cases h4 : l.f1 > 100000
          · rw [decide_eq_true h4, if_pos rfl, decide_eq_false]; rintro ⟨h, -⟩; have := h.2.2.2.1; omega
          · rw [decide_eq_false h4, if_neg (by decide)]
            by_cases h5 : (l.f2.length : Int) < 1
            · rw [if_pos h5, decide_eq_false]; rintro ⟨h, -⟩; have := h.2.2.2.2.1; omega
            · rw [if_neg h5, different_spec _ _ _ (by omega) (by omega) (by omega) (by omega)]
              simp only [Option.bind_some]
              by_cases h6 : GoodM l.f2 n
              · have hle : l.f2.length ≤ 12 := by
                  obtain ⟨m, rfl⟩ := Int.eq_ofNat_of_zero_le (show 0 ≤ n by omega)
                  have := h6.le
                  omega
                rw [decide_eq_true h6, if_pos rfl, contains_spec _ _ _ (by omega) (by omega)]
                simp only [Option.bind_some]
                by_cases h7 : l.f0 ∈ l.f2
                · rw [decide_eq_true h7, if_pos rfl, decide_eq_false]; rintro ⟨h, -⟩; exact h.2.2.2.2.2.2 h7
                · rw [decide_eq_false h7, if_neg (by decide), wrap_succ (by omega), ih k (i + 1) (by omega) (by omega)]
                  congr 1
                  rw [decide_eq_decide]
                  exact ⟨fun h => ⟨⟨by omega, by omega, by omega, by omega, by omega, h6, h7⟩, h⟩, fun h => h.2⟩
              · rw [decide_eq_false h6, if_neg (by decide), decide_eq_false]; rintro ⟨h, -⟩; exact h6 h.2.2.2.2.2.1
theorem implValidLoans_spec (k : Nat) (list : List S56) (n : Int) (hl : list.length ≤ 1048576) (hg : ∀ l ∈ list, l.f2.length ≤ 1048576) (hk : 1048700 < k) : impl_ValidLoans.f k list n = some (decide (OkLoans list n)) := by
  obtain ⟨k, rfl, hk⟩ := fuel hk
  unfold impl_ValidLoans.f
  simp only [impl_ValidLoans.j0, if_true]
  by_cases h1 : (list.length : Int) > 16
  · rw [if_pos h1, decide_eq_false]; rintro ⟨h, -⟩; omega
  · rw [if_neg h1]
    by_cases h2 : n < 1
    · rw [if_pos h2, decide_eq_false]; rintro ⟨-, h, -⟩; omega
    · rw [if_neg h2]
      by_cases h3 : n > 12
      · rw [decide_eq_true h3, if_pos rfl, decide_eq_false]; rintro ⟨-, -, h, -⟩; omega
      · rw [decide_eq_false h3, if_neg (by decide)]
        have := implValidLoans_l0 list n (by omega) (by omega) (by omega) hg list.length k 0 (by omega) (by omega)
        rw [show (0 : Int) = ((0 : Nat) : Int) from rfl, this]
        congr 1
        rw [decide_eq_decide, List.drop_zero]
        exact ⟨fun h => ⟨by omega, by omega, by omega, h⟩, fun h => h.2.2.2⟩

/-! ### place -/
theorem placeIn_l0 (xs : List Int) (x : Int) (hb : xs.length < 4611686018427387904) : ∀ (d k i : Nat), i + d = xs.length → d < k → spec_placeIn.l0 k xs x (i : Int) = some (idxM (xs.drop i) x i) := by
  intro d
  induction d with
  | zero =>
    intro k i hi hk
    obtain ⟨k, rfl, -⟩ := fuel hk
    simp only [spec_placeIn.l0]
    rw [if_neg (by omega), drop_end (by omega)]
    simp [idxM]
  | succ d ih =>
    intro k i hi hk
    obtain ⟨k, rfl, hk⟩ := fuel hk
    simp only [spec_placeIn.l0]
    rw [if_pos (by omega), if_pos (by omega), wrap_succ (by omega), drop_rd (by omega)]
    simp only [idxM]
    rw [ih k (i + 1) (by omega) (by omega)]
    split <;> rfl
theorem placeIn_spec (k : Nat) (xs : List Int) (x : Int) (hb : xs.length < 4611686018427387904) (hk : xs.length < k) : spec_placeIn.f k xs x = some (idxM xs x 0) := by
  unfold spec_placeIn.f
  have := placeIn_l0 xs x hb xs.length k 0 (by omega) hk
  simpa using this

/-! ### inrange -/
theorem inRange_spec (a lo up : Int) : spec_inRange.f a lo up = some (decide (lo ≤ a ∧ a ≤ up)) := by
  unfold spec_inRange.f
  by_cases h : lo ≤ a <;> simp [h]

/-! ### members -/
theorem validMembers_l0 (xs : List Int) (n : Int) (hb : xs.length < 4611686018427387904) : ∀ (d k i : Nat), i + d = xs.length → xs.length + d < k → spec_validMembers.l0 k xs n (i : Int) = some (memB (wrap64 (n - 1) + 1) (xs.take i) (xs.drop i)) := by
  intro d
  induction d with
  | zero =>
    intro k i hi hk
    obtain ⟨k, rfl, -⟩ := fuel hk
    simp only [spec_validMembers.l0]
    rw [if_neg (by omega), drop_end (by omega)]
    simp [memB]
  | succ d ih =>
    intro k i hi hk
    obtain ⟨k, rfl, hk⟩ := fuel hk
    simp only [spec_validMembers.l0]
    rw [if_pos (by omega), if_pos (by omega), inRange_spec, wrap_succ (i := i) (by omega), drop_rd (by omega), toNat_cast]
    rw [placeIn_spec _ _ _ (by simp; omega) (by simp; omega)]
    simp only [Option.bind_some]
    rw [if_pos (show (i : Int) ≤ (xs.length : Int) by omega), ih k (i + 1) (by omega) (by omega), take_rd (by omega)]
    simp only [memB]
    by_cases h1 : 0 ≤ rd xs (i : Int) ∧ rd xs (i : Int) < wrap64 (n - 1) + 1
    · rw [decide_eq_true h1, decide_eq_true (show 0 ≤ rd xs (i : Int) ∧ rd xs (i : Int) ≤ wrap64 (n - 1) by omega), if_pos rfl]
      have h2 := idxM_nonneg (xs.take i) (rd xs (i : Int)) 0
      by_cases h3 : rd xs (i : Int) ∈ xs.take i
      · rw [if_pos (h2.2 h3), decide_eq_true h3]; rfl
      · rw [if_neg (fun h => h3 (h2.1 h)), decide_eq_false h3]; rfl
    · rw [decide_eq_false h1, decide_eq_false (show ¬ (0 ≤ rd xs (i : Int) ∧ rd xs (i : Int) ≤ wrap64 (n - 1)) by omega), if_neg (by decide)]; rfl
theorem validMembers_any (k : Nat) (xs : List Int) (n : Int) (hb : xs.length < 4611686018427387904) (hk : xs.length + xs.length < k) : spec_validMembers.f k xs n = some (decide (GoodM xs (wrap64 (n - 1) + 1))) := by
  unfold spec_validMembers.f
  have := validMembers_l0 xs n hb xs.length k 0 (by omega) hk
  rw [← memB_good]
  simpa using this
theorem validMembers_spec (k : Nat) (xs : List Int) (n : Int) (hn : -4611686018427387904 ≤ n) (hn2 : n ≤ 4611686018427387904) (hb : xs.length < 4611686018427387904) (hk : xs.length + xs.length < k) : spec_validMembers.f k xs n = some (decide (GoodM xs n)) := by
  rw [validMembers_any k xs n hb hk, wrap_id (x := n - 1) (by omega) (by omega), Int.sub_add_cancel]

/-! ### loansspec -/
theorem specValidLoans_out (list : List S56) (n : Int) (hn : ¬ (1 ≤ n ∧ n ≤ 12)) (hl : list.length ≤ 1048576) (hg : ∀ l ∈ list, l.f2.length ≤ 1048576) : ∀ (d k i : Nat), i + d = list.length → d + 2097200 < k →
    spec_validLoans.l0 k list n (i : Int) = some false := by
  intro d
  induction d with
  | zero =>
    intro k i hi hk
    obtain ⟨k, rfl, -⟩ := fuel (show 0 < k by omega)
    simp only [spec_validLoans.l0]
    rw [if_neg (by omega), inRange_spec, decide_eq_false hn]
    simp
  | succ d ih =>
    intro k i hi hk
    obtain ⟨k, rfl, hk⟩ := fuel (show d + 2097200 < k by omega)
    simp only [spec_validLoans.l0]
    rw [if_pos (by omega), if_pos (by omega), inRange_spec, inRange_spec]
    have hgl := hg _ (rdT_mem (xs := list) (i := i) (by omega))
    generalize rd_T56 list (i : Int) = l at hgl ⊢
    rw [validMembers_any _ _ _ (by omega) (by omega), placeIn_spec _ _ _ (by omega) (by omega), wrap_succ (i := i) (by omega), ih k (i + 1) (by omega) (by omega)]
    simp only [Option.bind_some, ite_self]
theorem specValidLoans_l0 (list : List S56) (n : Int) (hn1 : 1 ≤ n) (hn2 : n ≤ 12) (hl : list.length ≤ 1048576) (hg : ∀ l ∈ list, l.f2.length ≤ 1048576) : ∀ (d k i : Nat), i + d = list.length → d + 2097200 < k →
    spec_validLoans.l0 k list n (i : Int) = some (decide (list.length ≤ 16 ∧ ∀ l ∈ list.drop i, OkLoan l n)) := by
  intro d
  induction d with
  | zero =>
    intro k i hi hk
    obtain ⟨k, rfl, -⟩ := fuel (show 0 < k by omega)
    simp only [spec_validLoans.l0]
    rw [if_neg (by omega), drop_end (by omega), inRange_spec, decide_eq_true (show 1 ≤ n ∧ n ≤ 12 from ⟨hn1, hn2⟩)]
    by_cases h : (list.length : Int) ≤ 16
    · rw [if_pos h, decide_eq_true]
      · rfl
      · exact ⟨by omega, by simp⟩
    · rw [if_neg h, decide_eq_false]; rintro ⟨h2, -⟩; omega
  | succ d ih =>
    intro k i hi hk
    obtain ⟨k, rfl, hk⟩ := fuel (show d + 2097200 < k by omega)
    simp only [spec_validLoans.l0]
    rw [if_pos (by omega), if_pos (by omega), inRange_spec, inRange_spec, drop_rdT (by omega)]
    have hgl := hg _ (rdT_mem (xs := list) (i := i) (by omega))
    generalize rd_T56 list (i : Int) = l at hgl ⊢
    rw [validMembers_spec _ _ _ (by omega) (by omega) (by omega) (by omega), placeIn_spec _ _ _ (by omega) (by omega), wrap_succ (i := i) (by omega), ih k (i + 1) (by omega) (by omega), wrap_id (x := n - 1) (by omega) (by omega)]
    simp only [Option.bind_some, List.forall_mem_cons]
    by_cases h1 : 0 ≤ l.f0 ∧ l.f0 ≤ n - 1
    · rw [decide_eq_true h1, if_pos rfl]
      by_cases h2 : 1 ≤ l.f1 ∧ l.f1 ≤ 100000
      · rw [decide_eq_true h2, if_pos rfl]
        by_cases h3 : (l.f2.length : Int) = 0
        · rw [if_pos h3, decide_eq_false]; rintro ⟨-, h, -⟩; have := h.2.2.2.2.1; omega
        · rw [if_neg h3]
          by_cases h4 : GoodM l.f2 n
          · rw [decide_eq_true h4, if_pos rfl]
            have hm := idxM_nonneg l.f2 l.f0 0
            by_cases h5 : l.f0 ∈ l.f2
            · rw [if_pos (hm.2 h5), decide_eq_false]; rintro ⟨-, h, -⟩; exact h.2.2.2.2.2.2 h5
            · rw [if_neg (fun h => h5 (hm.1 h))]
              congr 1
              rw [decide_eq_decide]
              exact ⟨fun h => ⟨h.1, ⟨by omega, by omega, by omega, by omega, by omega, h4, h5⟩, h.2⟩, fun h => ⟨h.1, h.2.2⟩⟩
          · rw [decide_eq_false h4, if_neg (by decide), decide_eq_false]; rintro ⟨-, h, -⟩; exact h4 h.2.2.2.2.2.1
      · rw [decide_eq_false h2, if_neg (by decide), decide_eq_false]; rintro ⟨-, h, -⟩; exact h2 ⟨h.2.2.1, h.2.2.2.1⟩
    · rw [decide_eq_false h1, if_neg (by decide), decide_eq_false]; rintro ⟨-, h, -⟩; exact h1 ⟨h.1, by have := h.2.1; omega⟩
theorem specValidLoans_spec (k : Nat) (list : List S56) (n : Int) (hl : list.length ≤ 1048576) (hg : ∀ l ∈ list, l.f2.length ≤ 1048576) (hk : 3145800 < k) : spec_validLoans.f k list n = some (decide (OkLoans list n)) := by
  unfold spec_validLoans.f
  by_cases h : 1 ≤ n ∧ n ≤ 12
  · have := specValidLoans_l0 list n h.1 h.2 hl hg list.length k 0 (by omega) (by omega)
    rw [show (0 : Int) = ((0 : Nat) : Int) from rfl, this]
    congr 1
    rw [decide_eq_decide, List.drop_zero]
    exact ⟨fun h2 => ⟨h2.1, h.1, h.2, h2.2⟩, fun h2 => ⟨h2.1, h2.2.2.2⟩⟩
  · have := specValidLoans_out list n h hl hg list.length k 0 (by omega) (by omega)
    rw [show (0 : Int) = ((0 : Nat) : Int) from rfl, this, decide_eq_false]
    rintro ⟨-, h1, h2, -⟩
    exact h ⟨h1, h2⟩

/-! ### copyints -/
theorem copyInts_spec (l : List Int) (hl : l.length ≤ 1000000) : spec_copyInts.f l = some l := by
  unfold spec_copyInts.f
  simp only [Option.bind_some]
  rw [if_pos (by simp; omega)]; simp

/-! ### common -/
theorem equalInts_l0 (a b : List Int) (hl : a.length = b.length) (hb : a.length < 4611686018427387904) : ∀ (d k i : Nat), i + d = a.length → d < k → laws_equalInts.l0 k a b (i : Int) = some (decide (a.drop i = b.drop i)) := by
  intro d
  induction d with
  | zero =>
    intro k i hi hk
    obtain ⟨k, rfl, -⟩ := fuel hk
    simp only [laws_equalInts.l0]
    rw [if_neg (by omega), drop_end (by omega), drop_end (by omega)]
    simp
  | succ d ih =>
    intro k i hi hk
    obtain ⟨k, rfl, hk⟩ := fuel hk
    simp only [laws_equalInts.l0]
    rw [if_pos (by omega), if_pos (by omega), if_pos (by omega), wrap_succ (by omega), drop_rd (xs := a) (i := i) (by omega), drop_rd (xs := b) (i := i) (by omega)]
    by_cases e : rd a (i : Int) = rd b (i : Int)
    · rw [if_pos e, ih k (i + 1) (by omega) (by omega), e]; simp
    · rw [if_neg e]; simp [e]
theorem equalInts_spec (k : Nat) (a b : List Int) (hb : a.length < 4611686018427387904) (hk : a.length < k) : laws_equalInts.f k a b = some (decide (a = b)) := by
  unfold laws_equalInts.f
  by_cases h : a.length = b.length
  · rw [if_pos (by omega)]
    have := equalInts_l0 a b h hb a.length k 0 (by omega) hk
    simpa using this
  · rw [if_neg (by omega)]
    have : a ≠ b := fun e => h (by rw [e])
    simp [this]

/-! ### payloan -/
def CanPay (ls : List S56) (n i a : Int) : Prop := OkLoans ls n ∧ 0 ≤ i ∧ i < (ls.length : Int) ∧ 1 ≤ a ∧ a ≤ (rd_T56 ls i).f1
instance (ls : List S56) (n i a : Int) : Decidable (CanPay ls n i a) := inferInstanceAs (Decidable (_ ∧ _))
/-- The loans with one that is less. -/
def lessM (ls : List S56) (i a : Int) : List S56 := ls.set i.toNat ⟨(rd_T56 ls i).f0, (rd_T56 ls i).f1 - a, (rd_T56 ls i).f2⟩
/-- The loans after a payment. -/
def payLM (ls : List S56) (n i a : Int) : List S56 :=
  if CanPay ls n i a then (if (rd_T56 ls i).f1 = a then ls.take i.toNat ++ ls.drop (i.toNat + 1) else lessM ls i a) else []
theorem payLM_neg {ls : List S56} {n i a : Int} (h : ¬ CanPay ls n i a) : payLM ls n i a = [] := if_neg h
theorem payLM_all {ls : List S56} {n i a : Int} (h : CanPay ls n i a) (h2 : (rd_T56 ls i).f1 = a) : payLM ls n i a = ls.take i.toNat ++ ls.drop (i.toNat + 1) := by
  unfold payLM; rw [if_pos h, if_pos h2]
theorem payLM_part {ls : List S56} {n i a : Int} (h : CanPay ls n i a) (h2 : (rd_T56 ls i).f1 ≠ a) : payLM ls n i a = lessM ls i a := by
  unfold payLM; rw [if_pos h, if_neg h2]
theorem less_length (ls : List S56) (i a : Int) : (lessM ls i a).length = ls.length := by simp [lessM]
theorem less_at {ls : List S56} {i a : Int} (h0 : 0 ≤ i) (h1 : i < (ls.length : Int)) : rd_T56 (lessM ls i a) i = ⟨(rd_T56 ls i).f0, (rd_T56 ls i).f1 - a, (rd_T56 ls i).f2⟩ := by
  obtain ⟨j, rfl⟩ := Int.eq_ofNat_of_zero_le h0
  rw [rdT_at (show j < (lessM ls (j : Int) a).length by rw [less_length]; omega)]
  simp [lessM]
theorem less_gone {ls : List S56} {i a : Int} (h0 : 0 ≤ i) : (lessM ls i a).take i.toNat ++ (lessM ls i a).drop (i.toNat + 1) = ls.take i.toNat ++ ls.drop (i.toNat + 1) := by
  unfold lessM
  rw [List.take_set_of_le (Nat.le_refl _), List.drop_set_of_lt (by omega)]
theorem okLoan_len {l : S56} {n : Int} (hn : n ≤ 12) (h : OkLoan l n) : l.f2.length ≤ 12 := by
  rcases Int.lt_or_le n 0 with h0 | h0
  · have := h.1; have := h.2.1; omega
  · obtain ⟨m, rfl⟩ := Int.eq_ofNat_of_zero_le h0
    have := h.2.2.2.2.2.1.le; omega
theorem implCopy_l0 (ls : List S56) (hl : ls.length ≤ 1000) (hg : ∀ l ∈ ls, l.f2.length ≤ 1000) : ∀ (d k i : Nat), i + d = ls.length → d < k → impl_copyLoans.l0 k (ls.take i) ls (ls.length : Int) (i : Int) = some ls := by
  intro d
  induction d with
  | zero =>
    intro k i hi hk
    obtain ⟨k, rfl, -⟩ := fuel hk
    simp only [impl_copyLoans.l0]
    rw [if_neg (by omega), List.take_of_length_le (by omega)]
  | succ d ih =>
    intro k i hi hk
    obtain ⟨k, rfl, hk⟩ := fuel hk
    simp only [impl_copyLoans.l0]
    have hc : slices_Clone_int_int.f (rd_T56 ls (i : Int)).f2 = some (rd_T56 ls (i : Int)).f2 := by
      unfold slices_Clone_int_int.f
      rw [if_pos]
      have := hg _ (rdT_mem (show i < ls.length by omega)); omega
    have ht : ls.take i ++ [(⟨(rd_T56 ls (i : Int)).f0, (rd_T56 ls (i : Int)).f1, (rd_T56 ls (i : Int)).f2⟩ : S56)] = ls.take (i + 1) := by
      rw [List.take_succ_eq_append_getElem (show i < ls.length by omega), ← rdT_at (show i < ls.length by omega)]
    rw [if_pos (by omega), if_pos (by omega), if_pos (by omega), hc, Option.bind_some, if_pos (by rw [List.length_take]; omega), ht, wrap_succ (by omega)]
    exact ih k (i + 1) (by omega) (by omega)
theorem implCopy_spec (k : Nat) (ls : List S56) (hl : ls.length ≤ 1000) (hg : ∀ l ∈ ls, l.f2.length ≤ 1000) (hk : 1000 < k) : impl_copyLoans.f k ls = some ls := by
  unfold impl_copyLoans.f
  exact implCopy_l0 ls hl hg ls.length k 0 (by omega) (by omega)
theorem specCopy_l0 (ls : List S56) (hl : ls.length ≤ 1000) (hg : ∀ l ∈ ls, l.f2.length ≤ 1000) : ∀ (d k i : Nat), i + d = ls.length → d < k → spec_copyLoans.l0 k ls (ls.take i) (i : Int) = some ls := by
  intro d
  induction d with
  | zero =>
    intro k i hi hk
    obtain ⟨k, rfl, -⟩ := fuel hk
    simp only [spec_copyLoans.l0]
    rw [if_neg (by omega), List.take_of_length_le (by omega)]
  | succ d ih =>
    intro k i hi hk
    obtain ⟨k, rfl, hk⟩ := fuel hk
    simp only [spec_copyLoans.l0]
    have hc := copyInts_spec (rd_T56 ls (i : Int)).f2 (by have := hg _ (rdT_mem (show i < ls.length by omega)); omega)
    have ht : ls.take i ++ [(⟨(rd_T56 ls (i : Int)).f0, (rd_T56 ls (i : Int)).f1, (rd_T56 ls (i : Int)).f2⟩ : S56)] = ls.take (i + 1) := by
      rw [List.take_succ_eq_append_getElem (show i < ls.length by omega), ← rdT_at (show i < ls.length by omega)]
    rw [if_pos (by omega), if_pos (by omega), hc, Option.bind_some, if_pos (by rw [List.length_take]; omega), ht, wrap_succ (by omega)]
    exact ih k (i + 1) (by omega) (by omega)
theorem specCopy_spec (k : Nat) (ls : List S56) (hl : ls.length ≤ 1000) (hg : ∀ l ∈ ls, l.f2.length ≤ 1000) (hk : 1000 < k) : spec_copyLoans.f k ls = some ls := by
  unfold spec_copyLoans.f
  exact specCopy_l0 ls hl hg ls.length k 0 (by omega) (by omega)
theorem pay_sub {ls : List S56} {n i a : Int} (h : CanPay ls n i a) : OkLoans (payLM ls n i a) n := by
  obtain ⟨h1, h2, h3, h4, h5⟩ := id h
  by_cases h6 : (rd_T56 ls i).f1 = a
  · rw [payLM_all h h6]
    refine ⟨?_, h1.2.1, h1.2.2.1, fun l hl => h1.2.2.2 l ?_⟩
    · have := h1.1; simp; omega
    · rcases List.mem_append.1 hl with hl | hl
      · exact List.mem_of_mem_take hl
      · exact List.mem_of_mem_drop hl
  · rw [payLM_part h h6]
    refine ⟨by rw [less_length]; exact h1.1, h1.2.1, h1.2.2.1, fun l hl => ?_⟩
    rcases List.mem_or_eq_of_mem_set hl with hl | rfl
    · exact h1.2.2.2 l hl
    · have hok : OkLoan (rd_T56 ls i) n := by
        obtain ⟨j, rfl⟩ := Int.eq_ofNat_of_zero_le h2
        exact h1.2.2.2 _ (rdT_mem (by omega))
      obtain ⟨o1, o2, o3, o4, o5⟩ := hok
      exact ⟨o1, o2, by show 1 ≤ _ - a; omega, by show _ - a ≤ _; omega, o5⟩
theorem pay_twice {ls : List S56} {n i a : Int} (h : CanPay ls n i a) (h2 : 1 < a) : payLM (payLM ls n i 1) n i (a - 1) = payLM ls n i a := by
  obtain ⟨h1, h3, h4, h5, h6⟩ := id h
  have c1 : CanPay ls n i 1 := ⟨h1, h3, h4, by omega, by omega⟩
  have ne1 : (rd_T56 ls i).f1 ≠ 1 := by omega
  have hs := pay_sub c1
  rw [payLM_part c1 ne1] at hs ⊢
  have e := less_at (a := 1) h3 h4
  have c2 : CanPay (lessM ls i 1) n i (a - 1) := ⟨hs, h3, by rw [less_length]; exact h4, by omega, by rw [e]; show _ ≤ _ - 1; omega⟩
  by_cases h7 : (rd_T56 ls i).f1 = a
  · rw [payLM_all c2 (by rw [e]; show _ - 1 = _; omega), payLM_all h h7, less_gone h3]
  · rw [payLM_part c2 (by rw [e]; show _ - 1 ≠ _; omega), payLM_part h h7]
    unfold lessM at e ⊢
    rw [e, List.set_set]
    congr 2
    show _ - 1 - (a - 1) = _
    omega

/-! ### reader -/
/-- A pick: a number below the bound (0 where there is none), one place on. -/
theorem pick_spec (k : Nat) (hk : 1 ≤ k) (b : List Int) (hb : ∀ x ∈ b, 0 ≤ x ∧ x ≤ 255) (hl : b.length ≤ 2000) (p : Int) (hp0 : 0 ≤ p) (hp : p ≤ 1000000) (n : Int) (hn : n ≤ 1000000000000) :
    ∃ v, spec_reader_pick.f k b p n = some (v, p + 1) ∧ 0 ≤ v ∧ (0 < n → v < n) ∧ (n ≤ 0 → v = 0) := by
  obtain ⟨k, rfl, -⟩ := fuel hk
  have hw : wrap64 (p + 1) = p + 1 := wrap_succ' hp0 (by omega)
  have hw2 : wrap64 (p + 1 - 1) = p := by rw [wrap_id (by omega) (by omega)]; omega
  unfold spec_reader_pick.f
  rw [hw]
  by_cases h1 : n < 1
  · rw [if_pos h1]
    exact ⟨0, by simp [spec_reader_pick.j0], by omega, by omega, fun _ => rfl⟩
  · rw [if_neg h1]
    by_cases h2 : b.length = 0
    · have e : ((b.length : Int) == 0) = true := by simp [h2]
      rw [e]
      exact ⟨0, by simp [spec_reader_pick.j0], by omega, fun _ => by omega, fun _ => rfl⟩
    · have e : ((b.length : Int) == 0) = false := by rw [beq_eq_false_iff_ne]; omega
      rw [e]
      simp only [spec_reader_pick.j0]
      rw [if_neg (by decide), hw2]
      have rdb : ∀ i : Int, 0 ≤ i → i < (b.length : Int) → 0 ≤ rd b i ∧ rd b i ≤ 255 := fun i h0 h => hb _ (rd_mem' h0 h)
      by_cases h3 : p < (b.length : Int)
      · rw [if_pos h3, if_pos hp0, if_neg (by omega)]
        have hr := rdb p hp0 h3
        rw [wrap_id (x := rd b p) (by omega) (by omega), Int.tmod_eq_emod_of_nonneg hr.1]
        exact ⟨_, rfl, Int.emod_nonneg _ (by omega), fun _ => Int.emod_lt_of_pos _ (by omega), fun h => by omega⟩
      · have hL : (0 : Int) < (b.length : Int) := by omega
        have m1 := Int.emod_nonneg p (b := (b.length : Int)) (by omega)
        have m2 := Int.emod_lt_of_pos p hL
        have w7 : wrap64 (wrap64 (p * 7) + 3) = p * 7 + 3 := by rw [wrap_add_l, wrap_id (by omega) (by omega)]
        have m3 := Int.emod_nonneg (p * 7 + 3) (b := (b.length : Int)) (by omega)
        have m4 := Int.emod_lt_of_pos (p * 7 + 3) hL
        rw [if_neg h3, if_neg (by omega)]
        rw [w7]
        rw [Int.tmod_eq_emod_of_nonneg hp0, Int.tmod_eq_emod_of_nonneg (by omega : (0 : Int) ≤ p * 7 + 3)]
        rw [if_pos m1, if_pos m2, if_pos m3, if_pos m4, if_neg (by omega)]
        have r1 := rdb _ m1 m2
        have r2 := rdb _ m3 m4
        have hq : 0 ≤ Int.tdiv p (b.length : Int) ∧ Int.tdiv p (b.length : Int) ≤ p := by
          rw [Int.tdiv_eq_ediv_of_nonneg hp0]
          exact ⟨Int.ediv_nonneg hp0 (by omega), Int.ediv_le_self _ hp0⟩
        generalize rd b (p % (b.length : Int)) = x at *
        generalize rd b ((p * 7 + 3) % (b.length : Int)) = y at *
        generalize Int.tdiv p (b.length : Int) = q at *
        have hx : wrap64 x = x := wrap_id (by omega) (by omega)
        have hy : wrap64 y = y := wrap_id (by omega) (by omega)
        have hqq : wrap64 q = q := wrap_id (by omega) (by omega)
        rw [hx, hy, hqq]
        have e1 : wrap64 (x * 131) = x * 131 := wrap_id (by omega) (by omega)
        have e2 : wrap64 (y * 1117) = y * 1117 := wrap_id (by omega) (by omega)
        have e3 : wrap64 (p * 29) = p * 29 := wrap_id (by omega) (by omega)
        have e4 : wrap64 (q * 53) = q * 53 := wrap_id (by omega) (by omega)
        rw [e1, e2, e3, e4]
        have e5 : wrap64 (x * 131 + y * 1117) = x * 131 + y * 1117 := wrap_id (by omega) (by omega)
        rw [e5]
        have e6 : wrap64 (x * 131 + y * 1117 + p * 29) = x * 131 + y * 1117 + p * 29 := wrap_id (by omega) (by omega)
        rw [e6]
        have e7 : wrap64 (x * 131 + y * 1117 + p * 29 + q * 53) = x * 131 + y * 1117 + p * 29 + q * 53 := wrap_id (by omega) (by omega)
        rw [e7]
        have hz : 0 ≤ x * 131 + y * 1117 + p * 29 + q * 53 ∧ x * 131 + y * 1117 + p * 29 + q * 53 ≤ 1000000000 := by omega
        generalize x * 131 + y * 1117 + p * 29 + q * 53 = z at *
        have hz64 : 0 ≤ Int.tdiv z 64 ∧ Int.tdiv z 64 ≤ z := by
          rw [Int.tdiv_eq_ediv_of_nonneg hz.1]; omega
        rw [wrap_id (x := Int.tdiv z 64) (by omega) (by omega)]
        have hxor := bits_xor (a := z) (b := Int.tdiv z 64) hz.1 (by omega) hz64.1 (by omega)
        rw [Int.tmod_eq_emod_of_nonneg hxor.1]
        exact ⟨_, rfl, Int.emod_nonneg _ (by omega), fun _ => Int.emod_lt_of_pos _ (by omega), fun h => by omega⟩
/-- One of some numbers. -/
theorem one_spec (k : Nat) (hk : 1 ≤ k) (b : List Int) (hb : ∀ x ∈ b, 0 ≤ x ∧ x ≤ 255) (hl : b.length ≤ 2000) (p : Int) (hp0 : 0 ≤ p) (hp : p ≤ 1000000) (l : List Int) (hn0 : l ≠ []) (hn : l.length ≤ 1000000) :
    ∃ v, spec_reader_one.f k b p l = some (v, p + 1) ∧ v ∈ l := by
  have h0 : 0 < l.length := List.length_pos_iff.2 hn0
  obtain ⟨v, hv, h1, h2, -⟩ := pick_spec k hk b hb hl p hp0 hp (l.length : Int) (by omega)
  unfold spec_reader_one.f
  rw [hv]
  simp only [Option.bind_some]
  rw [if_pos h1, if_pos (h2 (by omega))]
  exact ⟨_, rfl, rd_mem' h1 (h2 (by omega))⟩
theorem reader_bytes {l : List Int} (h : ∀ x ∈ l, (Lit.int .u8 x).wf = true) : ∀ x ∈ l, 0 ≤ x ∧ x ≤ 255 := by
  intro x hx
  have := h x hx
  simp [Lit.wf, IntKind.min, IntKind.max, IntKind.bits, IntKind.signed] at this
  omega
/-- A reader of some code: its bytes. -/
theorem newReader_spec (l : List Int) (h : ∀ x ∈ l, 0 ≤ x ∧ x ≤ 255) : ∃ b : List Int, spec_newReader.f l = some (b, 0) ∧ (∀ x ∈ b, 0 ≤ x ∧ x ≤ 255) ∧ b.length ≤ 2000 := by
  unfold spec_newReader.f
  by_cases h1 : (l.length : Int) > 2000
  · rw [if_pos h1, if_pos (by omega)]
    exact ⟨_, rfl, fun x hx => h x (List.mem_of_mem_take hx), by simp; omega⟩
  · rw [if_neg h1]
    exact ⟨_, rfl, h, by omega⟩

/-! ### drawloans -/
/-- A loan of few guards. -/
def SmallL (l : S56) : Prop := l.f2.length ≤ 40
def Small13 (l : S56) : Prop := l.f2.length ≤ 13
def SmallLs (ls : List S56) : Prop := ls.length ≤ 6 ∧ ∀ l ∈ ls, SmallL l
def SmallLs13 (ls : List S56) : Prop := ls.length ≤ 6 ∧ ∀ l ∈ ls, Small13 l
theorem SmallLs13.up {ls : List S56} (h : SmallLs13 ls) : SmallLs ls := ⟨h.1, fun l hl => by have := h.2 l hl; unfold Small13 at this; unfold SmallL; omega⟩
theorem someLoans_l1 (b : List Int) (hb : ∀ x ∈ b, 0 ≤ x ∧ x ≤ 255) (hl : b.length ≤ 2000) (m : Nat) (hm : 1 ≤ m) (hm2 : m ≤ 13) (bo am n : Int) (acc : List S56) (hacc : acc.length ≤ 100) (R : (List S56) × Int → Prop) (p0 B : Int) (hp0 : 0 ≤ p0) (hB : B ≤ 100000) (K : Nat)
    (cont : ∀ (l : S56) (p' : Int) (k' : Nat), Small13 l → p0 ≤ p' → p' ≤ B → K ≤ k' → ∃ r, spec_someLoans.l0 k' (m : Int) (acc ++ [l]) (wrap64 (n - 1)) b p' = some r ∧ R r) :
    ∀ (d k i : Nat) (g : List Int) (p : Int), i + d = m → g.length ≤ i → p0 ≤ p → p + d ≤ B → K + d + 1 < k → ∃ r, spec_someLoans.l1 k (m : Int) acc n (i : Int) b p bo am g = some r ∧ R r := by
  intro d
  induction d with
  | zero =>
    intro k i g p hi hg h0 h1 hk
    obtain ⟨k, rfl, hk⟩ := fuel hk
    simp only [spec_someLoans.l1]
    rw [if_neg (by omega)]
    by_cases h2 : (g.length : Int) = 0
    · rw [if_pos h2, if_neg (by omega), if_pos (by omega)]
      exact cont _ p k (by simp [Small13]) h0 (by omega) (by omega)
    · rw [if_neg h2, if_pos (by omega)]
      exact cont _ p k (by simp [Small13]; omega) h0 (by omega) (by omega)
  | succ d ih =>
    intro k i g p hi hg h0 h1 hk
    obtain ⟨k, rfl, hk⟩ := fuel hk
    simp only [spec_someLoans.l1]
    rw [if_pos (by omega), wrap_succ (by omega)]
    by_cases h2 : (i : Int) = bo
    · rw [if_pos h2]
      exact ih k (i + 1) g p (by omega) (by omega) h0 (by omega) (by omega)
    · rw [if_neg h2]
      obtain ⟨v, hv, -⟩ := pick_spec k (by omega) b hb hl p (by omega) (by omega) 3 (by omega)
      rw [hv]
      simp only [Option.bind_some]
      by_cases h3 : v = 0
      · rw [if_pos h3, if_pos (by omega)]
        exact ih k (i + 1) (g ++ [(i : Int)]) (p + 1) (by omega) (by simp; omega) (by omega) (by omega) (by omega)
      · rw [if_neg h3]
        exact ih k (i + 1) g (p + 1) (by omega) (by omega) (by omega) (by omega) (by omega)
theorem someLoans_l0 (b : List Int) (hb : ∀ x ∈ b, 0 ≤ x ∧ x ≤ 255) (hl : b.length ≤ 2000) (m : Nat) (hm : 1 ≤ m) (hm2 : m ≤ 13) : ∀ (c k : Nat) (acc : List S56) (p : Int), acc.length + c ≤ 6 → (∀ l ∈ acc, Small13 l) → 0 ≤ p → p + 20 * c ≤ 50000 → 20 * c + 1 < k →
    ∃ r, spec_someLoans.l0 k (m : Int) acc (c : Int) b p = some r ∧ SmallLs13 r.1 ∧ p ≤ r.2 ∧ r.2 ≤ p + 20 * c := by
  intro c
  induction c with
  | zero =>
    intro k acc p h1 h2 h3 h4 hk
    obtain ⟨k, rfl, hk⟩ := fuel hk
    simp only [spec_someLoans.l0]
    rw [if_neg (by omega)]
    exact ⟨_, rfl, ⟨by simpa using h1, h2⟩, by simp, by simp⟩
  | succ c ih =>
    intro k acc p h1 h2 h3 h4 hk
    obtain ⟨k, rfl, hk⟩ := fuel hk
    simp only [spec_someLoans.l0]
    rw [if_pos (by omega)]
    obtain ⟨v, hv, -⟩ := pick_spec k (by omega) b hb hl p h3 (by omega) (m : Int) (by omega)
    rw [hv]
    simp only [Option.bind_some]
    obtain ⟨u, hu, -⟩ := pick_spec k (by omega) b hb hl (p + 1) (by omega) (by omega) 200 (by omega)
    rw [hu]
    simp only [Option.bind_some]
    obtain ⟨z, hz, -⟩ := one_spec k (by omega) b hb hl (p + 1 + 1) (by omega) (by omega) [100, 50, wrap64 (1 + u), 33] (by simp) (by simp)
    rw [hz]
    simp only [Option.bind_some]
    have e : wrap64 (((c + 1 : Nat) : Int) - 1) = (c : Int) := by rw [wrap_id (by omega) (by omega)]; omega
    have := someLoans_l1 b hb hl m hm hm2 v z ((c + 1 : Nat) : Int) acc (by omega) (fun r => SmallLs13 r.1 ∧ p ≤ r.2 ∧ r.2 ≤ p + 20 * (c + 1 : Nat)) (p + 1 + 1 + 1) (p + 20) (by omega) (by omega) (20 * c + 2)
      (fun l p' k' hsl hp1 hp2 hk' => by
        rw [e]
        obtain ⟨r, hr, h5, h6, h7⟩ := ih k' (acc ++ [l]) p' (by simp; omega) (fun x hx => by
          rcases List.mem_append.1 hx with hx | hx
          · exact h2 x hx
          · simp at hx; rw [hx]; exact hsl) (by omega) (by omega) (by omega)
        exact ⟨r, hr, h5, by omega, by omega⟩) m k 0 [] (p + 1 + 1 + 1) (by omega) (by simp) (by omega) (by omega) (by omega)
    exact this
theorem someLoans_spec (b : List Int) (hb : ∀ x ∈ b, 0 ≤ x ∧ x ≤ 255) (hl : b.length ≤ 2000) (m : Int) (hm : m ≤ 13) (k : Nat) (hk : 200 < k) (p : Int) (h0 : 0 ≤ p) (h1 : p ≤ 1000) :
    ∃ r, spec_someLoans.f k b p m = some r ∧ SmallLs13 r.1 ∧ p ≤ r.2 ∧ r.2 ≤ p + 200 := by
  unfold spec_someLoans.f
  simp only [Option.bind_some]
  by_cases h2 : m < 2
  · rw [if_pos h2]
    exact ⟨_, rfl, ⟨by simp, by simp⟩, by simp, by simp; omega⟩
  · rw [if_neg h2]
    obtain ⟨z, hz, hm3⟩ := one_spec k (by omega) b hb hl p (by omega) (by omega) [3, 2, 4, 1, 0, 6] (by simp) (by simp)
    rw [hz]
    simp only [Option.bind_some]
    have hz2 : 0 ≤ z ∧ z ≤ 6 := by simp at hm3; omega
    obtain ⟨z, rfl⟩ := Int.eq_ofNat_of_zero_le hz2.1
    obtain ⟨m, rfl⟩ := Int.eq_ofNat_of_zero_le (show 0 ≤ m by omega)
    obtain ⟨r, hr, h5, h6, h7⟩ := someLoans_l0 b hb hl m (by omega) (by omega) z k [] (p + 1) (by simp; omega) (by simp) (by omega) (by omega) (by omega)
    exact ⟨r, hr, h5, by omega, by omega⟩
theorem small_set {ls : List S56} (h : SmallLs ls) (l : S56) (hl : SmallL l) (i : Nat) : SmallLs (ls.set i l) := by
  refine ⟨by simpa using h.1, fun x hx => ?_⟩
  rcases List.mem_or_eq_of_mem_set hx with h5 | h5
  · exact h.2 x h5
  · rw [h5]; exact hl
theorem anyLoans_spec (b : List Int) (hb : ∀ x ∈ b, 0 ≤ x ∧ x ≤ 255) (hl : b.length ≤ 2000) (k : Nat) (hk : 200 < k) (p : Int) (h0 : 0 ≤ p) (h1 : p ≤ 700) :
    ∃ r, spec_anyLoans.f k b p = some r ∧ SmallLs r.1 ∧ r.2.1 ≤ 13 ∧ 0 ≤ r.2.1 ∧ p ≤ r.2.2 ∧ r.2.2 ≤ p + 250 := by
  unfold spec_anyLoans.f
  obtain ⟨z, hz, hm⟩ := one_spec k (by omega) b hb hl p (by omega) (by omega) [4, 3, 5, 2, 1, 8] (by simp) (by simp)
  rw [hz]
  simp only [Option.bind_some]
  have hz2 : 1 ≤ z ∧ z ≤ 8 := by simp at hm; omega
  obtain ⟨r, hr, h5, h6, h7⟩ := someLoans_spec b hb hl z (by omega) k hk (p + 1) (by omega) (by omega)
  obtain ⟨ls, q⟩ := r
  simp only at h5 h6 h7
  have h13 := h5.2
  replace h5 := h5.up
  rw [hr]
  simp only [Option.bind_some]
  have hls := h5.1
  by_cases h2 : (ls.length : Int) > 0
  · rw [if_pos h2]
    have hf : Small13 (rd_T56 ls 0) := by
      have h3 : 0 < ls.length := by omega
      have e : rd_T56 ls 0 = ls[0] := by
        simp [rd_T56, List.getD_eq_getElem?_getD, List.getElem?_eq_getElem h3]
      rw [e]; exact h13 _ (List.getElem_mem h3)
    obtain ⟨v, hv, -⟩ := pick_spec k (by omega) b hb hl q (by omega) (by omega) 20 (by omega)
    rw [hv]
    simp only [Option.bind_some]
    by_cases h3 : v = 0
    · rw [if_pos h3]
      obtain ⟨u, hu, -⟩ := one_spec k (by omega) b hb hl (q + 1) (by omega) (by omega) [0, 100001] (by simp) (by simp)
      rw [hu]
      simp only [Option.bind_some]
      rw [if_pos (by omega)]
      exact ⟨_, rfl, small_set h5 _ (by unfold Small13 at hf; unfold SmallL; exact Nat.le_trans hf (by omega)) _, by simp; omega, by simp; omega, by simp; omega, by simp; omega⟩
    · rw [if_neg h3]
      by_cases h4 : v = 1
      · rw [if_pos h4, if_pos (by omega)]
        unfold Small13 at hf
        rw [copyInts_spec _ (by omega)]
        simp only [Option.bind_some]
        obtain ⟨u, hu, -⟩ := one_spec k (by omega) b hb hl (q + 1) (by omega) (by omega) [(rd_T56 ls 0).f0, z, (-1)] (by simp) (by simp)
        rw [hu]
        simp only [Option.bind_some]
        rw [if_pos (by omega)]
        exact ⟨_, rfl, small_set h5 _ (by simp [SmallL]; omega) _, by simp; omega, by simp; omega, by simp; omega, by simp; omega⟩
      · rw [if_neg h4]
        by_cases h6 : v = 2
        · rw [if_pos h6]
          obtain ⟨u, hu, hm4⟩ := one_spec k (by omega) b hb hl (q + 1) (by omega) (by omega) [0, 1, 13] (by simp) (by simp)
          rw [hu]
          simp only [Option.bind_some]
          have hu2 : 0 ≤ u ∧ u ≤ 13 := by simp at hm4; omega
          exact ⟨_, rfl, h5, hu2.2, hu2.1, by simp; omega, by simp; omega⟩
        · rw [if_neg h6]
          exact ⟨_, rfl, h5, by simp; omega, by simp; omega, by simp; omega, by simp; omega⟩
  · rw [if_neg h2]
    exact ⟨_, rfl, h5, by simp; omega, by simp; omega, by simp; omega, by simp; omega⟩
/-! ### the law -/
theorem equalLoans_l0 (a : List S56) (hb : a.length ≤ 1000) (hg : ∀ x ∈ a, x.f2.length ≤ 1000) : ∀ (d k i : Nat), i + d = a.length → d + 1001 < k → laws_equalLoans.l0 k a a (i : Int) = some true := by
  intro d
  induction d with
  | zero =>
    intro k i hi hk
    obtain ⟨k, rfl, -⟩ := fuel hk
    simp only [laws_equalLoans.l0]
    rw [if_neg (by omega)]
  | succ d ih =>
    intro k i hi hk
    obtain ⟨k, rfl, hk⟩ := fuel (show d + 1002 < k by omega)
    have hx := hg _ (rdT_mem (show i < a.length by omega))
    simp only [laws_equalLoans.l0, if_true]
    rw [if_pos (by omega), if_pos (by omega), if_pos (by omega), equalInts_spec k _ _ (by omega) (by omega), Option.bind_some, decide_eq_true rfl, if_pos rfl, wrap_succ (by omega)]
    exact ih k (i + 1) (by omega) (by omega)
theorem equalLoans_self (k : Nat) (a : List S56) (hb : a.length ≤ 1000) (hg : ∀ x ∈ a, x.f2.length ≤ 1000) (hk : 2002 < k) : laws_equalLoans.f k a a = some true := by
  unfold laws_equalLoans.f
  rw [if_pos rfl]
  exact equalLoans_l0 a hb hg a.length k 0 (by omega) (by omega)
-- the model
def same (x l : S56) : Prop := x.f0 = l.f0 ∧ x.f2 = l.f2
instance (x l : S56) : Decidable (same x l) := inferInstanceAs (Decidable (_ ∧ _))
def addM : List S56 → S56 → List S56
  | [], l => [l]
  | x :: xs, l => if same x l then ⟨x.f0, x.f1 + l.f1, x.f2⟩ :: xs else x :: addM xs l
def mrg : List S56 → List S56 → List S56
  | acc, [] => acc
  | acc, l :: ls => mrg (addM acc l) ls
theorem addM_len : ∀ (acc : List S56) (l : S56), (addM acc l).length ≤ acc.length + 1
  | [], l => by simp [addM]
  | x :: xs, l => by
    have := addM_len xs l
    simp only [addM]
    split <;> simp <;> omega
theorem mrg_len : ∀ (ls acc : List S56), (mrg acc ls).length ≤ acc.length + ls.length
  | [], acc => by simp [mrg]
  | l :: ls, acc => by
    have h1 := mrg_len ls (addM acc l)
    have h2 := addM_len acc l
    simp only [mrg, List.length_cons]
    omega
theorem addM_mem : ∀ (acc : List S56) (l y : S56), y ∈ addM acc l → (∃ z ∈ acc, same z y) ∨ same l y
  | [], l, y, h => by
    simp only [addM, List.mem_singleton] at h
    right; rw [h]; exact ⟨rfl, rfl⟩
  | x :: xs, l, y, h => by
    simp only [addM] at h
    split at h
    · rcases List.mem_cons.1 h with h1 | h1
      · left; exact ⟨x, by simp, by rw [h1]; exact ⟨rfl, rfl⟩⟩
      · left; exact ⟨y, List.mem_cons_of_mem _ h1, ⟨rfl, rfl⟩⟩
    · rcases List.mem_cons.1 h with h1 | h1
      · left; exact ⟨x, by simp, by rw [h1]; exact ⟨rfl, rfl⟩⟩
      · rcases addM_mem xs l y h1 with ⟨z, h2, h3⟩ | h2
        · left; exact ⟨z, List.mem_cons_of_mem _ h2, h3⟩
        · exact Or.inr h2
def Dist (xs : List S56) : Prop := xs.Pairwise fun x y => ¬ same x y
theorem addM_dist : ∀ (acc : List S56) (l : S56), Dist acc → Dist (addM acc l)
  | [], l, _ => by simp [addM, Dist]
  | x :: xs, l, h => by
    unfold Dist at h ⊢
    obtain ⟨h1, h2⟩ := List.pairwise_cons.1 h
    simp only [addM]
    split
    · exact List.pairwise_cons.2 ⟨fun y hy hs => h1 y hy hs, h2⟩
    · rename_i hn
      refine List.pairwise_cons.2 ⟨fun y hy hs => ?_, addM_dist xs l h2⟩
      rcases addM_mem xs l y hy with ⟨z, h3, h4⟩ | h3
      · exact h1 z h3 ⟨hs.1.trans h4.1.symm, hs.2.trans h4.2.symm⟩
      · exact hn ⟨hs.1.trans h3.1.symm, hs.2.trans h3.2.symm⟩
theorem mrg_dist : ∀ (ls acc : List S56), Dist acc → Dist (mrg acc ls)
  | [], acc, h => h
  | l :: ls, acc, h => mrg_dist ls _ (addM_dist acc l h)
theorem addM_new : ∀ (acc : List S56) (l : S56), (∀ x ∈ acc, ¬ same x l) → addM acc l = acc ++ [l]
  | [], l, _ => rfl
  | x :: xs, l, h => by
    simp only [addM]
    rw [if_neg (h x (by simp)), addM_new xs l (fun y hy => h y (List.mem_cons_of_mem _ hy))]
    rfl
theorem mrg_self : ∀ (ls acc : List S56), Dist (acc ++ ls) → mrg acc ls = acc ++ ls
  | [], acc, _ => by simp [mrg]
  | l :: ls, acc, h => by
    have h1 : ∀ x ∈ acc, ¬ same x l := by
      intro x hx
      unfold Dist at h
      exact (List.pairwise_append.1 h).2.2 x hx l (by simp)
    simp only [mrg]
    rw [addM_new acc l h1, mrg_self ls (acc ++ [l]) (by rw [List.append_assoc, List.singleton_append]; exact h), List.append_assoc, List.singleton_append]
def ow (t : Nat) : List S56 → Int
  | [] => 0
  | x :: xs => (if x.f0 = (t : Int) then x.f1 else 0) + ow t xs
theorem ow_add (t : Nat) : ∀ (acc : List S56) (l : S56), ow t (addM acc l) = ow t acc + (if l.f0 = (t : Int) then l.f1 else 0)
  | [], l => by simp [addM, ow]
  | x :: xs, l => by
    simp only [addM]
    split
    · rename_i h
      simp only [ow]
      rw [h.1]
      split <;> omega
    · simp only [ow]
      rw [ow_add t xs l]; omega
theorem ow_mrg (t : Nat) : ∀ (ls acc : List S56), ow t (mrg acc ls) = ow t acc + ow t ls
  | [], acc => by simp [mrg, ow]
  | l :: ls, acc => by
    simp only [mrg, ow]
    rw [ow_mrg t ls, ow_add]; omega
def KeyOk (n : Int) (x : S56) : Prop := 0 ≤ x.f0 ∧ x.f0 < n ∧ 1 ≤ x.f1 ∧ 1 ≤ x.f2.length ∧ GoodM x.f2 n ∧ x.f0 ∉ x.f2
theorem keyOk_of {n : Int} {l : S56} (h : OkLoan l n) : KeyOk n l := ⟨h.1, h.2.1, h.2.2.1, h.2.2.2.2.1, h.2.2.2.2.2.1, h.2.2.2.2.2.2⟩
theorem okLoan_of {n : Int} {l : S56} (h : KeyOk n l) (h2 : l.f1 ≤ 100000) : OkLoan l n := ⟨h.1, h.2.1, h.2.2.1, h2, h.2.2.2.1, h.2.2.2.2.1, h.2.2.2.2.2⟩
theorem addM_ok {n : Int} : ∀ (acc : List S56) (l : S56), (∀ x ∈ acc, KeyOk n x) → KeyOk n l → ∀ x ∈ addM acc l, KeyOk n x
  | [], l, _, hl, x, hx => by
    simp only [addM, List.mem_singleton] at hx
    rw [hx]; exact hl
  | y :: ys, l, h, hl, x, hx => by
    simp only [addM] at hx
    split at hx
    · rcases List.mem_cons.1 hx with h1 | h1
      · have hy := h y (by simp)
        rw [h1]
        exact ⟨hy.1, hy.2.1, by have := hy.2.2.1; have := hl.2.2.1; simp only []; omega, hy.2.2.2.1, hy.2.2.2.2.1, hy.2.2.2.2.2⟩
      · exact h x (List.mem_cons_of_mem _ h1)
    · rcases List.mem_cons.1 hx with h1 | h1
      · rw [h1]; exact h y (by simp)
      · exact addM_ok ys l (fun z hz => h z (List.mem_cons_of_mem _ hz)) hl x h1
theorem mrg_ok {n : Int} : ∀ (ls acc : List S56), (∀ x ∈ acc, KeyOk n x) → (∀ x ∈ ls, KeyOk n x) → ∀ x ∈ mrg acc ls, KeyOk n x
  | [], acc, h, _ => h
  | l :: ls, acc, h, h2 => mrg_ok ls _ (addM_ok acc l h (h2 l (by simp))) (fun x hx => h2 x (List.mem_cons_of_mem _ hx))
def Big (xs : List S56) : Prop := ∃ x ∈ xs, 100000 < x.f1
theorem addM_big : ∀ (acc : List S56) (l : S56), 0 ≤ l.f1 → Big acc → Big (addM acc l)
  | [], l, _, h => by obtain ⟨x, hx, _⟩ := h; simp at hx
  | y :: ys, l, hl, ⟨x, hx, hb⟩ => by
    simp only [addM]
    split
    · rcases List.mem_cons.1 hx with h1 | h1
      · exact ⟨_, List.mem_cons_self, by subst h1; simp only []; omega⟩
      · exact ⟨x, List.mem_cons_of_mem _ h1, hb⟩
    · rcases List.mem_cons.1 hx with h1 | h1
      · exact ⟨x, by rw [h1]; exact List.mem_cons_self, hb⟩
      · obtain ⟨z, hz, hz2⟩ := addM_big ys l hl ⟨x, h1, hb⟩
        exact ⟨z, List.mem_cons_of_mem _ hz, hz2⟩
theorem mrg_big : ∀ (ls acc : List S56), (∀ x ∈ ls, 0 ≤ x.f1) → Big acc → Big (mrg acc ls)
  | [], acc, _, h => h
  | l :: ls, acc, h, h2 => mrg_big ls _ (fun x hx => h x (List.mem_cons_of_mem _ hx)) (addM_big acc l (h l (by simp)) h2)
-- where a loan's like is
def ixL (l : S56) : List S56 → Int → Int
  | [], _ => -1
  | x :: xs, i => if same x l then i else ixL l xs (i + 1)
theorem ix_add (l : S56) : ∀ (acc : List S56) (i : Nat), (ixL l acc (i : Int) = -1 ∧ addM acc l = acc ++ [l]) ∨ ∃ j : Nat, j < acc.length ∧ ixL l acc (i : Int) = ((i + j : Nat) : Int) ∧ addM acc l = acc.set j ⟨(rd_T56 acc (j : Int)).f0, (rd_T56 acc (j : Int)).f1 + l.f1, (rd_T56 acc (j : Int)).f2⟩
  | [], i => Or.inl ⟨rfl, rfl⟩
  | x :: xs, i => by
    simp only [ixL, addM]
    by_cases h : same x l
    · rw [if_pos h, if_pos h]
      right
      exact ⟨0, by simp, by simp, by simp [rd_T56]⟩
    · rw [if_neg h, if_neg h]
      rcases ix_add l xs (i + 1) with ⟨h1, h2⟩ | ⟨j, h1, h2, h3⟩
      · left
        exact ⟨by rw [show (i : Int) + 1 = ((i + 1 : Nat) : Int) by omega]; exact h1, by rw [h2]; rfl⟩
      · right
        refine ⟨j + 1, by simp; omega, by rw [show (i : Int) + 1 = ((i + 1 : Nat) : Int) by omega, h2]; congr 1; omega, ?_⟩
        have e : rd_T56 (x :: xs) ((j + 1 : Nat) : Int) = rd_T56 xs (j : Int) := by
          simp [rd_T56]
        rw [h3, e, List.set_cons_succ]
theorem equal_l0 (a b : List Int) (hl : a.length = b.length) (hb : a.length ≤ 1000) : ∀ (d k i : Nat), i + d = a.length → d < k → slices_Equal_int_int.l0 k a b (a.length : Int) (i : Int) = some (decide (a.drop i = b.drop i)) := by
  intro d
  induction d with
  | zero =>
    intro k i hi hk
    obtain ⟨k, rfl, -⟩ := fuel hk
    simp only [slices_Equal_int_int.l0]
    rw [if_neg (by omega), drop_end (by omega), drop_end (by omega)]
    simp
  | succ d ih =>
    intro k i hi hk
    obtain ⟨k, rfl, hk⟩ := fuel hk
    simp only [slices_Equal_int_int.l0]
    rw [if_pos (by omega), if_pos (by omega), if_pos (by omega), if_pos (by omega), wrap_succ (by omega), drop_rd (xs := a) (i := i) (by omega), drop_rd (xs := b) (i := i) (by omega)]
    by_cases e : rd a (i : Int) = rd b (i : Int)
    · rw [if_pos e, ih k (i + 1) (by omega) (by omega), e]; simp
    · rw [if_neg e]; simp [e]
theorem equal_spec (k : Nat) (a b : List Int) (hb : a.length ≤ 1000) (hk : 1000 < k) : slices_Equal_int_int.f k a b = some (decide (a = b)) := by
  unfold slices_Equal_int_int.f
  by_cases h : a.length = b.length
  · rw [if_pos (by omega)]
    have := equal_l0 a b h hb a.length k 0 (by omega) (by omega)
    simpa using this
  · rw [if_neg (by omega)]
    have : a ≠ b := fun e => h (by rw [e])
    simp [this]
theorem sameI_l0 (a b : List Int) (hl : a.length = b.length) (hb : a.length ≤ 1000) : ∀ (d k i : Nat), i + d = a.length → d < k → spec_sameInts.l0 k a b (i : Int) = some (decide (a.drop i = b.drop i)) := by
  intro d
  induction d with
  | zero =>
    intro k i hi hk
    obtain ⟨k, rfl, -⟩ := fuel hk
    simp only [spec_sameInts.l0]
    rw [if_neg (by omega), drop_end (by omega), drop_end (by omega)]
    simp
  | succ d ih =>
    intro k i hi hk
    obtain ⟨k, rfl, hk⟩ := fuel hk
    simp only [spec_sameInts.l0]
    rw [if_pos (by omega), if_pos (by omega), if_pos (by omega), wrap_succ (by omega), drop_rd (xs := a) (i := i) (by omega), drop_rd (xs := b) (i := i) (by omega)]
    by_cases e : rd a (i : Int) = rd b (i : Int)
    · rw [if_pos e, ih k (i + 1) (by omega) (by omega), e]; simp
    · rw [if_neg e]; simp [e]
theorem sameI_spec (k : Nat) (a b : List Int) (hb : a.length ≤ 1000) (hk : 1000 < k) : spec_sameInts.f k a b = some (decide (a = b)) := by
  unfold spec_sameInts.f
  by_cases h : a.length = b.length
  · rw [if_pos (by omega)]
    have := sameI_l0 a b h hb a.length k 0 (by omega) (by omega)
    simpa using this
  · rw [if_neg (by omega)]
    have : a ≠ b := fun e => h (by rw [e])
    simp [this]
theorem clo_spec (k : Nat) (x l : S56) (hx : x.f2.length ≤ 1000) (hk : 1000 < k) : impl_Loan.clo k x.f0 x.f2 l.f0 l.f2 = some (decide (same x l)) := by
  unfold impl_Loan.clo same
  by_cases h : x.f0 = l.f0
  · rw [if_pos h, equal_spec k _ _ hx hk]; simp [h]
  · rw [if_neg h]; simp [h]
theorem ix_l0 (acc : List S56) (l : S56) (ha : acc.length ≤ 1000) (hg : ∀ x ∈ acc, x.f2.length ≤ 1000) : ∀ (d k i : Nat), i + d = acc.length → d + 1001 < k → impl_Loan.l0 k acc l.f0 l.f2 (acc.length : Int) (i : Int) = some (ixL l (acc.drop i) (i : Int)) := by
  intro d
  induction d with
  | zero =>
    intro k i hi hk
    obtain ⟨k, rfl, -⟩ := fuel hk
    simp only [impl_Loan.l0]
    rw [if_neg (by omega), drop_end (by omega)]
    rfl
  | succ d ih =>
    intro k i hi hk
    obtain ⟨k, rfl, hk⟩ := fuel (show d + 1001 < k by omega)
    have hx := hg _ (rdT_mem (show i < acc.length by omega))
    simp only [impl_Loan.l0]
    rw [if_pos (by omega), if_pos (by omega), if_pos (by omega), clo_spec k _ l hx (by omega), Option.bind_some, wrap_succ (by omega), drop_rdT (by omega)]
    simp only [ixL]
    by_cases h : same (rd_T56 acc (i : Int)) l
    · rw [decide_eq_true h, if_pos rfl, if_pos h]
    · rw [decide_eq_false h, if_neg (by decide), if_neg h, ih k (i + 1) (by omega) (by omega)]
      rfl
theorem ix_spec (k : Nat) (acc : List S56) (l : S56) (ha : acc.length ≤ 1000) (hg : ∀ x ∈ acc, x.f2.length ≤ 1000) (hk : 3000 < k) : impl_Loan.f k acc l.f0 l.f1 l.f2 = some (ixL l acc 0) := ix_l0 acc l ha hg acc.length k 0 (by omega) (by omega)
def resM (xs : List S56) : List S56 × Bool := if ∀ x ∈ xs, x.f1 ≤ 100000 then (xs, true) else ([], false)
theorem resM_big {xs : List S56} (h : Big xs) : resM xs = ([], false) := by
  unfold resM
  rw [if_neg]
  intro h2
  obtain ⟨x, hx, hb⟩ := h
  have := h2 x hx
  omega
theorem imerge_l0 (ls : List S56) (n : Int) (hn : n ≤ 12) (hl : ls.length ≤ 16) (hg : ∀ l ∈ ls, OkLoan l n) : ∀ (d k i : Nat) (acc : List S56), i + d = ls.length → acc.length ≤ i → (∀ x ∈ acc, OkLoan x n) → d + 5000 < k → impl_MergeLoans.l0 k acc ls (ls.length : Int) (i : Int) = some (resM (mrg acc (ls.drop i))) := by
  intro d
  induction d with
  | zero =>
    intro k i acc hi ha ho hk
    obtain ⟨k, rfl, -⟩ := fuel hk
    simp only [impl_MergeLoans.l0]
    rw [if_neg (by omega), drop_end (by omega)]
    simp only [mrg]
    unfold resM
    rw [if_pos (fun x hx => (ho x hx).2.2.2.1)]
  | succ d ih =>
    intro k i acc hi ha ho hk
    obtain ⟨k, rfl, hk⟩ := fuel (show d + 5000 < k by omega)
    have hlo := hg _ (rdT_mem (show i < ls.length by omega))
    have hrest : ∀ x ∈ ls.drop (i + 1), 0 ≤ x.f1 := fun x hx => by have := (hg x (List.mem_of_mem_drop hx)).2.2.1; omega
    rw [drop_rdT (show i < ls.length by omega)]
    generalize he : rd_T56 ls (i : Int) = l at hlo
    have hgu : ∀ x ∈ acc, x.f2.length ≤ 1000 := fun x hx => by have := okLoan_len hn (ho x hx); omega
    have h1 := hlo.2.2.1
    have h2 := hlo.2.2.2.1
    simp only [impl_MergeLoans.l0, mrg, he]
    rw [if_pos (by omega), if_pos (by omega), if_pos (by omega), ix_spec k acc l (by omega) hgu (by omega), Option.bind_some, wrap_succ (by omega)]
    rcases ix_add l acc 0 with ⟨e1, e2⟩ | ⟨j, hj, e1, e2⟩
    · simp only [Int.natCast_zero] at e1
      rw [e1, if_pos (by omega), if_pos (by omega), e2]
      exact ih k (i + 1) (acc ++ [l]) (by omega) (by simp; omega) (fun x hx => by rcases List.mem_append.1 hx with h | h; · exact ho x h
                                                                                  · rw [List.mem_singleton.1 h]; exact hlo) (by omega)
    · simp only [Int.natCast_zero, Nat.zero_add] at e1
      have hjo := ho _ (rdT_mem hj)
      have h3 := hjo.2.2.1
      have h4 := hjo.2.2.2.1
      rw [e1, if_neg (by omega), if_pos (by omega), if_pos (by omega), wrap_id (by omega) (by omega), toNat_cast]
      by_cases h5 : (rd_T56 acc (j : Int)).f1 + l.f1 > 100000
      · rw [if_pos h5]
        have hb : Big (addM acc l) := by
          rw [e2]
          exact ⟨_, List.mem_set hj _, h5⟩
        rw [resM_big (mrg_big _ _ hrest hb)]
      · rw [if_neg h5, ← e2]
        refine ih k (i + 1) (addM acc l) (by omega) (by rw [e2, List.length_set]; omega) (fun x hx => ?_) (by omega)
        rw [e2] at hx
        rcases List.mem_or_eq_of_mem_set hx with h | h
        · exact ho x h
        · rw [h]
          exact ⟨hjo.1, hjo.2.1, by simp only []; omega, by simp only []; omega, hjo.2.2.2.2.1, hjo.2.2.2.2.2.1, hjo.2.2.2.2.2.2⟩
def mergeM (ls : List S56) (n : Int) : List S56 × Bool := if OkLoans ls n then resM (mrg [] ls) else ([], false)
theorem imerge_spec (k : Nat) (ls : List S56) (n : Int) (hl : ls.length ≤ 1048576) (hg : ∀ l ∈ ls, l.f2.length ≤ 1048576) (hk : 1048701 < k) : impl_MergeLoans.f k ls n = some (mergeM ls n) := by
  unfold impl_MergeLoans.f mergeM
  rw [implValidLoans_spec k ls n hl hg (by omega), Option.bind_some]
  by_cases h : OkLoans ls n
  · have hlen := h.1
    have hc := implCopy_spec k ls (by omega) (fun x hx => by have := okLoan_len h.2.2.1 (h.2.2.2 x hx); omega) (by omega)
    rw [decide_eq_true h, if_pos rfl, hc, Option.bind_some, if_pos h]
    have := imerge_l0 ls n h.2.2.1 h.1 h.2.2.2 ls.length k 0 [] (by omega) (by simp) (fun x hx => by simp at hx) (by omega)
    simpa using this
  · rw [decide_eq_false h, if_neg (by decide), if_neg h]
-- the reference
theorem one_drop {ls : List S56} {i : Nat} (h : i < ls.length) : (ls.take (i + 1)).drop i = [rd_T56 ls (i : Int)] := by
  have e : ls.take (i + 1) = ls.take i ++ [rd_T56 ls (i : Int)] := by rw [rdT_at h, List.take_succ_eq_append_getElem h]
  rw [e, List.drop_append_of_le_length (by simp; omega), List.drop_eq_nil_of_le (by simp; omega), List.nil_append]
theorem smerge_l1 (ls : List S56) (n : Int) (i : Nat) (l : S56) (he : rd_T56 ls (i : Int) = l) (hi : i < ls.length) (hls : ls.length ≤ 16) (hlg : l.f2.length ≤ 1000) (hl1 : 0 ≤ l.f1 ∧ l.f1 ≤ 100000) (acc : List S56) (ha : acc.length ≤ 1000) (hg : ∀ x ∈ acc, x.f2.length ≤ 1000) (hb : ∀ x ∈ acc, 0 ≤ x.f1 ∧ x.f1 ≤ 100000000) (F : Nat) (r : List S56 × Bool)
    (H : ∀ k, F < k → spec_MergeLoans.l0 k ls n (addM acc l) ((i + 1 : Nat) : Int) = some r) : ∀ (d k j : Nat), j + d = acc.length → ixL l (acc.drop j) (j : Int) = ixL l acc 0 → d + 3000 + F < k → spec_MergeLoans.l1 k ls n acc (i : Int) (j : Int) = some r := by
  intro d
  induction d with
  | zero =>
    intro k j hj hx hk
    obtain ⟨k, rfl, hk2⟩ := fuel (show 2999 + F < k by omega)
    rw [drop_end (show acc.length ≤ j by omega)] at hx
    have e2 : addM acc l = acc ++ [l] := by
      rcases ix_add l acc 0 with ⟨-, h2⟩ | ⟨q, -, h1, -⟩
      · exact h2
      · simp only [Int.natCast_zero, Nat.zero_add] at h1
        rw [h1] at hx
        simp only [ixL] at hx
        omega
    have H1 := H k (by omega)
    rw [e2] at H1
    simp only [spec_MergeLoans.l1]
    rw [if_neg (by omega), if_pos (by omega), wrap_succ (by omega), if_pos (by omega), if_pos (by omega), toNat_cast, toNat_cast, one_drop hi, he, specCopy_spec k [l] (by simp) (fun x hx => by rw [List.mem_singleton.1 hx]; exact hlg) (by omega), Option.bind_some, if_pos (by simp; omega)]
    exact H1
  | succ d ih =>
    intro k j hj hx hk
    obtain ⟨k, rfl, hk2⟩ := fuel (show d + 3000 + F < k by omega)
    have hm := rdT_mem (xs := acc) (i := j) (by omega)
    have hxl := hg _ hm
    have hxb := hb _ hm
    rw [drop_rdT (show j < acc.length by omega)] at hx
    simp only [ixL] at hx
    simp only [spec_MergeLoans.l1, he]
    rw [if_pos (by omega), if_pos (by omega), if_pos (by omega), if_pos (by omega), wrap_succ (i := i) (by omega)]
    by_cases h : same (rd_T56 acc (j : Int)) l
    · rw [if_pos h] at hx
      have e2 : addM acc l = acc.set j ⟨(rd_T56 acc (j : Int)).f0, (rd_T56 acc (j : Int)).f1 + l.f1, (rd_T56 acc (j : Int)).f2⟩ := by
        rcases ix_add l acc 0 with ⟨h1, -⟩ | ⟨q, -, h1, h2⟩
        · simp only [Int.natCast_zero] at h1
          omega
        · simp only [Int.natCast_zero, Nat.zero_add] at h1
          obtain rfl : q = j := by omega
          exact h2
      have H1 := H k (by omega)
      rw [e2] at H1
      rw [if_pos h.1, sameI_spec k _ _ hxl (by omega), Option.bind_some, decide_eq_true h.2, if_pos rfl, wrap_id (by omega) (by omega), toNat_cast]
      exact H1
    · rw [if_neg h] at hx
      have hrec := ih k (j + 1) (by omega) hx (by omega)
      rw [← wrap_succ (i := j) (by omega)] at hrec
      by_cases h1 : (rd_T56 acc (j : Int)).f0 = l.f0
      · rw [if_pos h1, sameI_spec k _ _ hxl (by omega), Option.bind_some, decide_eq_false (fun h2 => h ⟨h1, h2⟩), if_neg (by decide)]
        exact hrec
      · rw [if_neg h1]
        exact hrec
theorem addM_amt {B C : Int} (hB : 0 ≤ B) (hC : 0 ≤ C) : ∀ (acc : List S56) (l : S56), (∀ x ∈ acc, x.f1 ≤ B) → l.f1 ≤ C → ∀ x ∈ addM acc l, x.f1 ≤ B + C
  | [], l, _, hl, x, hx => by
    simp only [addM, List.mem_singleton] at hx
    rw [hx]; omega
  | y :: ys, l, h, hl, x, hx => by
    simp only [addM] at hx
    have hy := h y (by simp)
    split at hx
    · rcases List.mem_cons.1 hx with h1 | h1
      · rw [h1]; simp only []; omega
      · have := h x (List.mem_cons_of_mem _ h1); omega
    · rcases List.mem_cons.1 hx with h1 | h1
      · rw [h1]; omega
      · exact addM_amt hB hC ys l (fun z hz => h z (List.mem_cons_of_mem _ hz)) hl x h1
theorem keyOk_len {n : Int} {x : S56} (hn : n ≤ 12) (h : KeyOk n x) : x.f2.length ≤ 12 := by
  have := okLoan_len (l := ⟨x.f0, 1, x.f2⟩) hn ⟨h.1, h.2.1, by simp, by simp, h.2.2.2.1, h.2.2.2.2.1, h.2.2.2.2.2⟩
  exact this
theorem smerge_l0 (ls : List S56) (n : Int) (hn : n ≤ 12) (hl : ls.length ≤ 16) (hg : ∀ l ∈ ls, OkLoan l n) : ∀ (d k i : Nat) (acc : List S56), i + d = ls.length → acc.length ≤ i → (∀ x ∈ acc, KeyOk n x) → (∀ x ∈ acc, x.f1 ≤ 100000 * (i : Int)) → 3146000 + 5000 * d < k → spec_MergeLoans.l0 k ls n acc (i : Int) = some (if OkLoans (mrg acc (ls.drop i)) n then (mrg acc (ls.drop i), true) else ([], false)) := by
  intro d
  induction d with
  | zero =>
    intro k i acc hi ha ho hb hk
    obtain ⟨k, rfl, hk2⟩ := fuel (show 3145900 < k by omega)
    simp only [spec_MergeLoans.l0]
    rw [if_neg (by omega), drop_end (by omega), show mrg acc [] = acc from rfl]
    rw [specValidLoans_spec k acc n (by omega) (fun x hx => by have := keyOk_len hn (ho x hx); omega) (by omega), Option.bind_some]
    by_cases h : OkLoans acc n
    · rw [decide_eq_true h, if_pos rfl, if_pos h]
    · rw [decide_eq_false h, if_neg (by decide), if_neg h]
  | succ d ih =>
    intro k i acc hi ha ho hb hk
    obtain ⟨k, rfl, hk2⟩ := fuel (show 3150999 + 5000 * d < k by omega)
    have hlo := hg _ (rdT_mem (show i < ls.length by omega))
    rw [drop_rdT (show i < ls.length by omega)]
    generalize he : rd_T56 ls (i : Int) = l at hlo
    have h1 := hlo.2.2.1
    have h2 := hlo.2.2.2.1
    have hlen := okLoan_len hn hlo
    rw [show mrg acc (l :: ls.drop (i + 1)) = mrg (addM acc l) (ls.drop (i + 1)) from rfl]
    simp only [spec_MergeLoans.l0]
    rw [if_pos (by omega)]
    refine smerge_l1 ls n i l he (by omega) hl (by omega) ⟨by omega, h2⟩ acc (by omega) (fun x hx => by have := keyOk_len hn (ho x hx); omega) (fun x hx => ⟨by have := (ho x hx).2.2.1; omega, by have := hb x hx; omega⟩) (3146000 + 5000 * d) _ ?_ acc.length k 0 (by omega) (by simp) (by omega)
    intro k' hk'
    have hal := addM_len acc l
    have h9 : ∀ x ∈ addM acc l, x.f1 ≤ 100000 * ((i + 1 : Nat) : Int) := by
      intro x hx
      have h7 := addM_amt (B := 100000 * (i : Int)) (C := 100000) (by omega) (by omega) acc l hb h2 x hx
      omega
    exact ih k' (i + 1) (addM acc l) (by omega) (by omega) (addM_ok acc l ho (keyOk_of hlo)) h9 hk'
theorem mrg_okLoans {ls : List S56} {n : Int} (h : OkLoans ls n) : OkLoans (mrg [] ls) n ↔ ∀ x ∈ mrg [] ls, x.f1 ≤ 100000 := by
  have hk := mrg_ok (n := n) ls [] (fun x hx => by simp at hx) (fun x hx => keyOk_of (h.2.2.2 x hx))
  have hlen := mrg_len ls []
  have h16 := h.1
  constructor
  · intro h2 x hx
    exact (h2.2.2.2 x hx).2.2.2.1
  · intro h2
    exact ⟨by simp at hlen; omega, h.2.1, h.2.2.1, fun x hx => okLoan_of (hk x hx) (h2 x hx)⟩
theorem smerge_spec (k : Nat) (ls : List S56) (n : Int) (hl : ls.length ≤ 1048576) (hg : ∀ l ∈ ls, l.f2.length ≤ 1048576) (hk : 3500000 < k) : spec_MergeLoans.f k ls n = some (mergeM ls n) := by
  unfold spec_MergeLoans.f mergeM
  rw [specValidLoans_spec k ls n hl hg (by omega), Option.bind_some]
  by_cases h : OkLoans ls n
  · have h16 := h.1
    rw [decide_eq_true h, if_pos rfl, if_pos h]
    have := smerge_l0 ls n h.2.2.1 h.1 h.2.2.2 ls.length k 0 [] (by omega) (by simp) (fun x hx => by simp at hx) (fun x hx => by simp at hx) (by omega)
    simp only [Int.natCast_zero, List.drop_zero] at this
    rw [this]
    unfold resM
    by_cases h2 : OkLoans (mrg [] ls) n
    · rw [if_pos h2, if_pos ((mrg_okLoans h).1 h2)]
    · rw [if_neg h2, if_neg (fun h3 => h2 ((mrg_okLoans h).2 h3))]
  · rw [decide_eq_false h, if_neg (by decide), if_neg h]
-- what is owed
theorem ow_bound (t : Nat) {n : Int} : ∀ ls : List S56, (∀ x ∈ ls, OkLoan x n) → 0 ≤ ow t ls ∧ ow t ls ≤ 100000 * (ls.length : Int)
  | [], _ => by simp [ow]
  | x :: xs, h => by
    have h1 := ow_bound t xs (fun y hy => h y (List.mem_cons_of_mem _ hy))
    have hx := h x (by simp)
    have a := hx.2.2.1
    have b := hx.2.2.2.1
    simp only [ow, List.length_cons]
    push_cast
    split <;> omega
theorem ow_app (t : Nat) : ∀ xs ys, ow t (xs ++ ys) = ow t xs + ow t ys
  | [], ys => by simp [ow]
  | x :: xs, ys => by simp only [List.cons_append, ow]; rw [ow_app t xs ys]; omega
theorem owed_l0 (ls : List S56) (m : Nat) (hm : m ≤ 12) (hl : ls.length ≤ 16) (hg : ∀ l ∈ ls, OkLoan l (m : Int)) : ∀ (d k i : Nat) (v : List Int), i + d = ls.length → v.length = m → (∀ t : Nat, t < m → rd v (t : Int) = ow t (ls.take i)) → d < k → ∃ r, impl_OwedBy.l0 k v ls (ls.length : Int) (i : Int) = some r ∧ r.length = m ∧ ∀ t : Nat, t < m → rd r (t : Int) = ow t ls := by
  intro d
  induction d with
  | zero =>
    intro k i v hi h8 hr hk
    obtain ⟨k, rfl, -⟩ := fuel hk
    simp only [impl_OwedBy.l0]
    rw [if_neg (by omega)]
    rw [List.take_of_length_le (by omega)] at hr
    exact ⟨v, rfl, h8, hr⟩
  | succ d ih =>
    intro k i v hi h8 hr hk
    obtain ⟨k, rfl, hk⟩ := fuel hk
    have hx := hg _ (rdT_mem (show i < ls.length by omega))
    have ht : ls.take (i + 1) = ls.take i ++ [rd_T56 ls (i : Int)] := by rw [rdT_at (by omega), List.take_succ_eq_append_getElem (by omega)]
    generalize he : rd_T56 ls (i : Int) = x at hx ht
    obtain ⟨p, hp⟩ := Int.eq_ofNat_of_zero_le hx.1
    have hpm : p < m := by have := hx.2.1; omega
    have b1 := ow_bound p (ls.take i) (fun y hy => hg y (List.mem_of_mem_take hy))
    have hlen : (ls.take i).length ≤ 16 := by simp; omega
    have a := hx.2.2.1
    have b := hx.2.2.2.1
    have hv := hr p hpm
    simp only [impl_OwedBy.l0, he]
    rw [if_pos (by omega), if_pos (by omega), if_pos (by omega), hp, if_pos (by omega), if_pos (by omega), toNat_cast, wrap_id (x := rd v (p : Int) + x.f1) (by omega) (by omega), wrap_succ (by omega)]
    refine ih k (i + 1) _ (by omega) (by simpa using h8) (fun t h => ?_) (by omega)
    rw [ht, ow_app, ← hr t h, rd_set (by omega)]
    simp only [ow, hp]
    by_cases h1 : p = t
    · subst h1
      rw [if_pos rfl, if_pos rfl]; omega
    · rw [if_neg h1, if_neg (by omega)]; omega
theorem owed_spec (k : Nat) (ls : List S56) (n : Int) (h : OkLoans ls n) (hk : 1048701 < k) : ∃ r, impl_OwedBy.f k ls n = some r ∧ r.length = n.toNat ∧ ∀ t : Nat, t < n.toNat → rd r (t : Int) = ow t ls := by
  have h1 := h.1
  have h2 := h.2.1
  have h3 := h.2.2.1
  obtain ⟨m, rfl⟩ := Int.eq_ofNat_of_zero_le (show 0 ≤ n by omega)
  unfold impl_OwedBy.f
  rw [implValidLoans_spec k ls _ (by omega) (fun x hx => by have := okLoan_len h.2.2.1 (h.2.2.2 x hx); omega) (by omega), Option.bind_some, decide_eq_true h, if_pos rfl, if_pos (by omega), toNat_cast, if_pos (by omega)]
  exact owed_l0 ls m (by omega) h1 h.2.2.2 ls.length k 0 (List.replicate m 0) (by omega) (by simp) (fun t ht => by rw [rd_replicate ht]; simp [ow]) (by omega)
-- the draw
theorem drawM_l0 (b : List Int) (hb : ∀ x ∈ b, 0 ≤ x ∧ x ≤ 255) (hl : b.length ≤ 2000) (n : Int) : ∀ (d k i : Nat) (ls : List S56) (p : Int), 1 ≤ i → i + d = ls.length + 1 → SmallLs ls → 0 ≤ p → p + 2 * d ≤ 900000 → d + 1 < k → ∃ r, spec_DrawMergeLoans.l0 k ls n (i : Int) b p = some (r, n) ∧ SmallLs r := by
  intro d
  induction d with
  | zero =>
    intro k i ls p h1 hi hs h0 hp hk
    obtain ⟨k, rfl, -⟩ := fuel hk
    simp only [spec_DrawMergeLoans.l0]
    rw [if_neg (by omega)]
    exact ⟨ls, rfl, hs⟩
  | succ d ih =>
    intro k i ls p h1 hi hs h0 hp hk
    obtain ⟨k, rfl, hk⟩ := fuel (show d + 1 < k by omega)
    have h6 := hs.1
    simp only [spec_DrawMergeLoans.l0]
    by_cases hlt : (i : Int) < (ls.length : Int)
    · obtain ⟨v, e1, -⟩ := pick_spec k (by omega) b hb hl p h0 (by omega) 3 (by omega)
      rw [if_pos hlt, e1, Option.bind_some]
      simp only []
      by_cases h2 : v = 0
      · obtain ⟨u, e2, a2, c2, -⟩ := pick_spec k (by omega) b hb hl (p + 1) (by omega) (by omega) (i : Int) (by omega)
        have c2 := c2 (by omega)
        obtain ⟨q, rfl⟩ := Int.eq_ofNat_of_zero_le a2
        rw [if_pos h2, if_pos (by omega), e2, Option.bind_some]
        simp only []
        rw [if_pos (by omega), if_pos (by omega), Option.bind_some, wrap_succ (by omega)]
        have hq := hs.2 _ (rdT_mem (show q < ls.length by omega))
        have s1 := small_set hs ⟨(rd_T56 ls (q : Int)).f0, (rd_T56 ls (q : Int)).f1, (rd_T56 ls (q : Int)).f2⟩ hq (i : Int).toNat
        have hq2 := s1.2 _ (rdT_mem (i := i) (by rw [List.length_set]; omega))
        have s2 := small_set s1 ⟨(rd_T56 (ls.set (i : Int).toNat ⟨(rd_T56 ls (q : Int)).f0, (rd_T56 ls (q : Int)).f1, (rd_T56 ls (q : Int)).f2⟩) (i : Int)).f0, (rd_T56 ls (i : Int)).f1, (rd_T56 (ls.set (i : Int).toNat ⟨(rd_T56 ls (q : Int)).f0, (rd_T56 ls (q : Int)).f1, (rd_T56 ls (q : Int)).f2⟩) (i : Int)).f2⟩ hq2 (i : Int).toNat
        exact ih k (i + 1) _ (p + 1 + 1) (by omega) (by simp; omega) s2 (by omega) (by omega) (by omega)
      · rw [if_neg h2, wrap_succ (by omega)]
        exact ih k (i + 1) ls (p + 1) (by omega) (by omega) hs (by omega) (by omega) (by omega)
    · rw [if_neg hlt]
      exact ⟨ls, rfl, hs⟩
theorem drawM_spec (k : Nat) (hk : 1000 < k) (l : List Int) (hl : ∀ x ∈ l, 0 ≤ x ∧ x ≤ 255) : ∃ ls n, spec_DrawMergeLoans.f k l = some (ls, n) ∧ SmallLs ls := by
  obtain ⟨b, h1, h2, h3⟩ := newReader_spec l hl
  obtain ⟨r, h4, h5, -, -, h6, h7⟩ := anyLoans_spec b h2 h3 k (by omega) 0 (by omega) (by omega)
  have h8 := h5.1
  obtain ⟨s, s1, s2⟩ := drawM_l0 b h2 h3 r.2.1 r.1.length k 1 r.1 r.2.2 (by omega) (by omega) h5 (by omega) (by omega) (by omega)
  unfold spec_DrawMergeLoans.f
  rw [h1, Option.bind_some]
  simp only []
  rw [h4, Option.bind_some]
  exact ⟨s, _, s1, s2⟩
-- the law
theorem law_l1 (a o g : List S56) (n : Int) (fine : Bool) (hd : Dist o) (ho : o.length ≤ 1000) (hg : ∀ x ∈ o, x.f2.length ≤ 1000) (i : Nat) (hi : i < o.length) (F : Nat) (H : ∀ k, F < k → laws_FnMergeLoans.l0 k a n o g fine ((i + 1 : Nat) : Int) = some true) : ∀ (d k j : Nat), j + d = i → d + 1100 + F < k → laws_FnMergeLoans.l1 k a n o g fine (i : Int) (j : Int) = some true := by
  intro d
  induction d with
  | zero =>
    intro k j hj hk
    obtain ⟨k, rfl, hk2⟩ := fuel (show 1099 + F < k by omega)
    simp only [laws_FnMergeLoans.l1]
    rw [if_neg (by omega), wrap_succ (by omega)]
    exact H k (by omega)
  | succ d ih =>
    intro k j hj hk
    obtain ⟨k, rfl, hk2⟩ := fuel (show d + 1100 + F < k by omega)
    have hx := hg _ (rdT_mem (xs := o) (i := i) hi)
    have hrec := ih k (j + 1) (by omega) (by omega)
    simp only [laws_FnMergeLoans.l1]
    rw [if_pos (by omega), if_pos (by omega), if_pos (by omega), if_pos (by omega), if_pos (by omega), wrap_succ (by omega)]
    by_cases h1 : (rd_T56 o (i : Int)).f0 = (rd_T56 o (j : Int)).f0
    · have hne : (rd_T56 o (i : Int)).f2 ≠ (rd_T56 o (j : Int)).f2 := by
        intro h2
        have := (List.pairwise_iff_getElem.1 hd) j i (by omega) hi (by omega)
        rw [← rdT_at (show j < o.length by omega), ← rdT_at hi] at this
        exact this ⟨h1.symm, h2.symm⟩
      rw [if_pos h1, equalInts_spec k _ _ (by omega) (by omega), Option.bind_some, decide_eq_false hne, if_neg (by decide)]
      exact hrec
    · rw [if_neg h1]
      exact hrec
theorem law_l0 (a o : List S56) (n : Int) (hd : Dist o) (ho : o.length ≤ 16) (hg : ∀ x ∈ o, x.f2.length ≤ 1000) (hok : OkLoans o n) (hoka : OkLoans a n) (how : ∀ t, ow t o = ow t a) (hla : o.length ≤ a.length) : ∀ (d k i : Nat), i + d = o.length → 1100000 + 3000 * d < k → laws_FnMergeLoans.l0 k a n o o true (i : Int) = some true := by
  intro d
  induction d with
  | zero =>
    intro k i hi hk
    obtain ⟨k, rfl, hk2⟩ := fuel (show 1099999 < k by omega)
    obtain ⟨p, p1, p2, p3⟩ := owed_spec k o n hok (by omega)
    obtain ⟨q, q1, q2, q3⟩ := owed_spec k a n hoka (by omega)
    have e : p = q := ext_rd (by rw [p2, q2]) (fun j hj => by rw [p3 j (by omega), q3 j (by omega), how])
    have hn := hok.2.2.1
    simp only [laws_FnMergeLoans.l0]
    rw [if_neg (by omega), if_pos trivial, equalLoans_self k o (by omega) hg (by omega), Option.bind_some, if_pos rfl, p1, Option.bind_some, q1, Option.bind_some, e, equalInts_spec k _ _ (by omega) (by omega), Option.bind_some, decide_eq_true rfl, if_pos rfl, decide_eq_true (by omega)]
  | succ d ih =>
    intro k i hi hk
    obtain ⟨k, rfl, hk2⟩ := fuel (show 1102999 + 3000 * d < k by omega)
    simp only [laws_FnMergeLoans.l0]
    rw [if_pos (by omega)]
    exact law_l1 a o o n true hd (by omega) hg i (by omega) (1100000 + 3000 * d) (fun k' hk' => ih k' (i + 1) (by omega) hk') i k 0 (by omega) (by omega)
theorem FnMergeLoans : laws_FnMergeLoans.Pure := by
  intro l0 m0 _ hw
  refine ⟨5000000, ?_⟩
  unfold laws_FnMergeLoans.f
  by_cases h0 : (l0.length : Int) > 1048576
  · rw [if_pos h0]
  rw [if_neg h0]
  obtain ⟨ls, n, hd, hs⟩ := drawM_spec 5000000 (by omega) l0 (reader_bytes hw)
  have hs1 := hs.1
  have hs2 : ∀ l ∈ ls, l.f2.length ≤ 1048576 := fun l hl => by have := hs.2 l hl; unfold SmallL at this; omega
  rw [hd, Option.bind_some]
  simp only []
  rw [imerge_spec _ _ _ (by omega) hs2 (by omega), Option.bind_some, smerge_spec _ _ _ (by omega) hs2 (by omega), Option.bind_some]
  have hml : (mergeM ls n).1.length ≤ 16 ∧ ∀ x ∈ (mergeM ls n).1, x.f2.length ≤ 1000 := by
    unfold mergeM
    by_cases h : OkLoans ls n
    · rw [if_pos h]
      unfold resM
      by_cases h2 : ∀ x ∈ mrg [] ls, x.f1 ≤ 100000
      · rw [if_pos h2]
        have hok := (mrg_okLoans h).2 h2
        exact ⟨hok.1, fun x hx => by have := okLoan_len hok.2.2.1 (hok.2.2.2 x hx); omega⟩
      · rw [if_neg h2]; simp
    · rw [if_neg h]; simp
  rw [equalLoans_self _ _ (by omega) hml.2 (by omega), Option.bind_some, if_pos rfl, if_neg (by simp)]
  obtain ⟨K, hK, hK2⟩ : ∃ K : Nat, 5000000 = K + 1 ∧ 4900000 < K := ⟨4999999, by omega, by omega⟩
  rw [hK]
  simp only [laws_FnMergeLoans.j0]
  by_cases hb : (mergeM ls n).2 = true
  · have hok : OkLoans ls n := by
      unfold mergeM at hb
      by_cases h : OkLoans ls n
      · exact h
      · rw [if_neg h] at hb; exact absurd hb (by simp)
    have hbig : ∀ x ∈ mrg [] ls, x.f1 ≤ 100000 := by
      unfold mergeM resM at hb
      rw [if_pos hok] at hb
      by_cases h2 : ∀ x ∈ mrg [] ls, x.f1 ≤ 100000
      · exact h2
      · rw [if_neg h2] at hb; exact absurd hb (by simp)
    have hoko := (mrg_okLoans hok).2 hbig
    have e1 : mergeM ls n = (mrg [] ls, true) := by
      unfold mergeM resM
      rw [if_pos hok, if_pos hbig]
    have hdist : Dist (mrg [] ls) := mrg_dist ls [] (by unfold Dist; exact List.Pairwise.nil)
    have e2 : mergeM (mrg [] ls) n = (mrg [] ls, true) := by
      unfold mergeM resM
      have e3 : mrg [] (mrg [] ls) = mrg [] ls := by
        have := mrg_self (mrg [] ls) [] (by simpa using hdist)
        simpa using this
      rw [if_pos hoko, e3, if_pos hbig]
    have hlen := mrg_len ls []
    rw [e1] at hml ⊢
    have hl16 : (mrg [] ls).length ≤ 16 := hml.1
    have hl17 : ∀ x ∈ mrg [] ls, x.f2.length ≤ 1000 := hml.2
    simp only [Bool.not_true]
    rw [if_neg (by simp), imerge_spec _ _ _ (by omega) (fun x hx => by have := hl17 x hx; omega) (by omega), Option.bind_some, e2]
    exact law_l0 ls (mrg [] ls) n hdist hml.1 hml.2 hoko hok (fun t => by rw [ow_mrg]; simp [ow]) (by simpa using hlen) (mrg [] ls).length K 0 (by omega) (by omega)
  · have hb' : (mergeM ls n).2 = false := by simpa using hb
    rw [hb']
    simp only [Bool.not_false, if_true]
    rw [equalLoans_self _ _ (by omega) hml.2 (by omega), Option.bind_some, if_pos rfl]
    simp

end Go.Proofs.Ytmipmnejppoeiaa.Pure
