/- The law FnSafeLoans holds: the program's function answers as the reference does at every drawn input, and has the law's property; no condition. -/
import Derived.Test.YtmipmnejppoeiaaPFnSafeLoansx9
set_option linter.unusedVariables false
set_option linter.unusedSimpArgs false
namespace Go.Proofs.Ytmipmnejppoeiaa.Pure
open Go.RowKit Go.Proofs.Ytmipmnejppoeiaa.PFnSafeLoans Go.Proofs.YtmipmnejppoeiaaW.PrintWords Go.Proofs.YtmipmnejppoeiaaW.PrintLast Go.Proofs.YtmipmnejppoeiaaW.PrintMore

/-! ### base -/
theorem fuel {k n : Nat} (h : n < k) : ∃ m, k = m + 1 ∧ n ≤ m := ⟨k - 1, by omega, by omega⟩
theorem wrap_id {x : Int} (h1 : -9223372036854775808 ≤ x) (h2 : x ≤ 9223372036854775807) : wrap64 x = x := by unfold wrap64; omega
theorem wrap_succ {i : Nat} (h : i < 4611686018427387904) : wrap64 ((i : Int) + 1) = ((i + 1 : Nat) : Int) := by unfold wrap64; omega
theorem wrap_succ' {i : Int} (h0 : 0 ≤ i) (h : i < 4611686018427387904) : wrap64 (i + 1) = i + 1 := by unfold wrap64; omega
theorem wrap_wrap (x : Int) : wrap64 (wrap64 x) = wrap64 x := by unfold wrap64; omega
theorem wrap_add_l (x y : Int) : wrap64 (wrap64 x + y) = wrap64 (x + y) := by unfold wrap64; omega
theorem wrap_add_r (x y : Int) : wrap64 (x + wrap64 y) = wrap64 (x + y) := by unfold wrap64; omega
theorem wrap_sub_l (x y : Int) : wrap64 (wrap64 x - y) = wrap64 (x - y) := by unfold wrap64; omega
theorem rd_get {xs : List Int} {i : Nat} (h : i < xs.length) : rd xs (i : Int) = xs[i] := by
  simp [rd, List.getD_eq_getElem?_getD, List.getElem?_eq_getElem h]
theorem drop_rd {xs : List Int} {i : Nat} (h : i < xs.length) : xs.drop i = rd xs (i : Int) :: xs.drop (i + 1) := by
  rw [rd_get h, List.drop_eq_getElem_cons h]
theorem drop_end {α : Type} {xs : List α} {i : Nat} (h : xs.length ≤ i) : xs.drop i = [] := List.drop_eq_nil_of_le h
theorem take_rd {xs : List Int} {i : Nat} (h : i < xs.length) : xs.take (i + 1) = xs.take i ++ [rd xs (i : Int)] := by
  rw [rd_get h, List.take_succ_eq_append_getElem h]
theorem rd_mem {xs : List Int} {i : Nat} (h : i < xs.length) : rd xs (i : Int) ∈ xs := by
  rw [rd_get h]; exact List.getElem_mem h
theorem rd_mem' {xs : List Int} {i : Int} (h0 : 0 ≤ i) (h : i < (xs.length : Int)) : rd xs i ∈ xs := by
  obtain ⟨j, rfl⟩ := Int.eq_ofNat_of_zero_le h0
  exact rd_mem (by omega)
theorem mem_rd {xs : List Int} {x : Int} (h : x ∈ xs) : ∃ i : Nat, i < xs.length ∧ rd xs (i : Int) = x := by
  obtain ⟨i, hi, he⟩ := List.getElem_of_mem h
  exact ⟨i, hi, by rw [rd_get hi, he]⟩
theorem ext_rd {xs ys : List Int} (hl : xs.length = ys.length) (h : ∀ i : Nat, i < xs.length → rd xs (i : Int) = rd ys (i : Int)) : xs = ys := by
  apply List.ext_getElem hl
  intro i h1 h2
  have := h i h1
  rwa [rd_get h1, rd_get h2] at this
theorem rd_set {xs : List Int} {i j : Nat} {v : Int} (hj : j < xs.length) : rd (xs.set i v) (j : Int) = if i = j then v else rd xs (j : Int) := by
  rw [rd_get (by simpa using hj), rd_get hj, List.getElem_set]
theorem rd_set_ne {xs : List Int} {i j : Nat} {v : Int} (h : i ≠ j) : rd (xs.set i v) (j : Int) = rd xs (j : Int) := by
  simp only [rd, List.getD_eq_getElem?_getD, Int.toNat_natCast, List.getElem?_set_ne h]
theorem rd_append_l {xs ys : List Int} {i : Nat} (h : i < xs.length) : rd (xs ++ ys) (i : Int) = rd xs (i : Int) := by
  rw [rd_get (by simp; omega), rd_get h, List.getElem_append_left h]
theorem rd_append_r {xs ys : List Int} {i : Nat} (h : xs.length ≤ i) (h2 : i < xs.length + ys.length) : rd (xs ++ ys) (i : Int) = rd ys ((i - xs.length : Nat) : Int) := by
  rw [rd_get (by simp; omega), rd_get (by omega), List.getElem_append_right h]
theorem rd_replicate {n i : Nat} {v : Int} (h : i < n) : rd (List.replicate n v) (i : Int) = v := by
  rw [rd_get (by simpa using h)]; simp
theorem rd_mapRange {n i : Nat} {f : Nat → Int} (h : i < n) : rd ((List.range n).map f) (i : Int) = f i := by
  rw [rd_get (by simpa using h)]; simp
theorem toNat_cast (i : Nat) : ((i : Int) : Int).toNat = i := by simp
theorem mx_max (a b : Int) : mx a b = max a b := by unfold mx; omega
theorem mn_min (a b : Int) : mn a b = min a b := by unfold mn; omega
theorem bits_xor {a b : Int} (ha : 0 ≤ a) (ha2 : a < 4611686018427387904) (hb : 0 ≤ b) (hb2 : b < 4611686018427387904) : 0 ≤ Go.bits .xor .i64 a b ∧ Go.bits .xor .i64 a b < 4611686018427387904 := by
  obtain ⟨a, rfl⟩ := Int.eq_ofNat_of_zero_le ha
  obtain ⟨b, rfl⟩ := Int.eq_ofNat_of_zero_le hb
  have h1 : a < 2 ^ 62 := by omega
  have h2 : b < 2 ^ 62 := by omega
  have h3 := Nat.xor_lt_two_pow h1 h2
  have e : Go.bits .xor .i64 (a : Int) (b : Int) = IntKind.i64.wrap (((BitVec.ofInt 64 (a : Int)) ^^^ (BitVec.ofInt 64 (b : Int))).toNat : Int) := rfl
  have ha' : (BitVec.ofInt 64 (a : Int)).toNat = a := by rw [BitVec.ofInt_natCast, BitVec.toNat_ofNat]; exact Nat.mod_eq_of_lt (by omega)
  have hb' : (BitVec.ofInt 64 (b : Int)).toNat = b := by rw [BitVec.ofInt_natCast, BitVec.toNat_ofNat]; exact Nat.mod_eq_of_lt (by omega)
  rw [e, BitVec.toNat_xor, ha', hb', IntKind.wrap_i64]
  omega
theorem cast0 : ((0 : Nat) : Int) = 0 := rfl
theorem w01 : wrap64 (0 + 1) = 1 := by unfold wrap64; omega
theorem w12 : wrap64 (1 + 1) = 2 := by unfold wrap64; omega
theorem w23 : wrap64 (2 + 1) = 3 := by unfold wrap64; omega
theorem w34 : wrap64 (3 + 1) = 4 := by unfold wrap64; omega
theorem w45 : wrap64 (4 + 1) = 5 := by unfold wrap64; omega

/-! ### listm -/
theorem pigeon : ∀ (n : Nat) (xs : List Int), xs.Nodup → (∀ x ∈ xs, 0 ≤ x ∧ x < (n : Int)) → xs.length ≤ n := by
  intro n
  induction n with
  | zero =>
    intro xs _ h
    cases xs with
    | nil => simp
    | cons x xs => have := h x (by simp); omega
  | succ n ih =>
    intro xs hn h
    by_cases hm : (n : Int) ∈ xs
    · have h1 := ih (xs.erase (n : Int)) (hn.erase _) (fun x hx => by
        have h2 := (hn.mem_erase_iff).1 hx
        have h3 := h x h2.2
        have h4 := h2.1
        omega)
      rw [List.length_erase_of_mem hm] at h1
      omega
    · have h1 := ih xs hn (fun x hx => by
        have h3 := h x hx
        have h4 : x ≠ (n : Int) := fun e => hm (e ▸ hx)
        omega)
      omega
/-- Fewer different members than there are: one is missing. -/
theorem one_missing : ∀ (n : Nat) (xs : List Int), xs.length < n → ∃ j : Nat, j < n ∧ (j : Int) ∉ xs := by
  intro n
  induction n with
  | zero => intro xs h; omega
  | succ n ih =>
    intro xs h
    by_cases hm : (n : Int) ∈ xs
    · obtain ⟨j, hj, hx⟩ := ih (xs.erase (n : Int)) (by rw [List.length_erase_of_mem hm]; have := List.length_pos_of_mem hm; omega)
      refine ⟨j, by omega, fun hmem => hx ?_⟩
      exact (List.mem_erase_of_ne (by omega)).2 hmem
    · exact ⟨n, by omega, hm⟩
/-- Members, one after the other, in range and not seen yet. -/
def memB (n : Int) : List Int → List Int → Bool
  | _, [] => true
  | seen, x :: rest => decide (0 ≤ x ∧ x < n) && (!decide (x ∈ seen) && memB n (seen ++ [x]) rest)
theorem memB_iff (n : Int) : ∀ (xs seen : List Int), memB n seen xs = true ↔ (∀ x ∈ xs, 0 ≤ x ∧ x < n ∧ x ∉ seen) ∧ xs.Nodup := by
  intro xs
  induction xs with
  | nil => intro seen; simp [memB]
  | cons a xs ih =>
    intro seen
    simp only [memB, Bool.and_eq_true, decide_eq_true_eq, Bool.not_eq_true', decide_eq_false_iff_not, ih, List.mem_cons, List.mem_append, List.not_mem_nil, or_false, List.nodup_cons]
    constructor
    · rintro ⟨⟨h1, h2⟩, h3, h4, h5⟩
      refine ⟨?_, fun ha => (h4 a ha).2.2 (Or.inr rfl), h5⟩
      rintro x (rfl | hx)
      · exact ⟨h1, h2, h3⟩
      · obtain ⟨a1, a2, a3⟩ := h4 x hx
        exact ⟨a1, a2, fun h => a3 (Or.inl h)⟩
    · rintro ⟨h1, h2, h3⟩
      obtain ⟨a1, a2, a3⟩ := h1 a (Or.inl rfl)
      refine ⟨⟨a1, a2⟩, a3, fun x hx => ?_, h3⟩
      obtain ⟨b1, b2, b3⟩ := h1 x (Or.inr hx)
      refine ⟨b1, b2, ?_⟩
      rintro (h | rfl)
      · exact b3 h
      · exact h2 hx
/-- Different members of a body. -/
def GoodM (xs : List Int) (n : Int) : Prop := xs.Nodup ∧ ∀ x ∈ xs, 0 ≤ x ∧ x < n
instance (xs : List Int) (n : Int) : Decidable (GoodM xs n) := inferInstanceAs (Decidable (_ ∧ _))
theorem memB_good (n : Int) (xs : List Int) : memB n [] xs = decide (GoodM xs n) := by
  rw [Bool.eq_iff_iff, memB_iff, decide_eq_true_eq]
  unfold GoodM
  constructor
  · rintro ⟨h, hn⟩
    exact ⟨hn, fun x hx => ⟨(h x hx).1, (h x hx).2.1⟩⟩
  · rintro ⟨hn, h⟩
    exact ⟨fun x hx => ⟨(h x hx).1, (h x hx).2, by simp⟩, hn⟩
theorem GoodM.le {xs : List Int} {n : Nat} (h : GoodM xs (n : Int)) : xs.length ≤ n := pigeon n xs h.1 h.2
/-- The first place of a number behind some. -/
def idxM : List Int → Int → Nat → Int
  | [], _, _ => -1
  | y :: ys, x, i => if y = x then (i : Int) else idxM ys x (i + 1)
theorem idxM_neg : ∀ (xs : List Int) (x : Int) (i : Nat), idxM xs x i < 0 ↔ x ∉ xs := by
  intro xs
  induction xs with
  | nil => intro x i; simp [idxM]
  | cons y ys ih =>
    intro x i
    simp only [idxM]
    by_cases e : y = x
    · rw [if_pos e]; simp [e]
    · rw [if_neg e, ih]
      have e' : ¬ x = y := fun h => e h.symm
      simp [e']
theorem idxM_nonneg (xs : List Int) (x : Int) (i : Nat) : 0 ≤ idxM xs x i ↔ x ∈ xs := by
  have := idxM_neg xs x i
  by_cases h : x ∈ xs
  · simp only [h, not_true, iff_false] at this
    simp [h]; omega
  · simp only [h, not_false_iff, iff_true] at this
    simp [h]; omega
theorem idxM_at : ∀ (xs : List Int) (x : Int) (i : Nat), x ∈ xs → ∃ j : Nat, idxM xs x i = ((i + j : Nat) : Int) ∧ j < xs.length ∧ rd xs (j : Int) = x ∧ ∀ q : Nat, q < j → rd xs (q : Int) ≠ x := by
  intro xs
  induction xs with
  | nil => intro x i h; simp at h
  | cons y ys ih =>
    intro x i h
    by_cases e : y = x
    · exact ⟨0, by simp [idxM, e], by simp, by simp [rd, e], fun q hq => by omega⟩
    · have hx : x ∈ ys := by
        rcases List.mem_cons.1 h with h | h
        · exact absurd h.symm e
        · exact h
      obtain ⟨j, h1, h2, h3, h4⟩ := ih x (i + 1) hx
      refine ⟨j + 1, by simp only [idxM, if_neg e, h1]; omega, by simp; omega, ?_, ?_⟩
      · rw [← h3, rd_get (by simp; omega), rd_get h2]; simp
      · intro q hq
        cases q with
        | zero => rw [rd_get (by simp)]; simpa using e
        | succ q => have := h4 q (by omega); rw [rd_get (by simp; omega)]; rw [rd_get (by omega)] at this; simpa using this
theorem sum_set : ∀ (xs : List Int) (i : Nat) (v : Int), i < xs.length → (xs.set i v).sum = xs.sum - rd xs (i : Int) + v := by
  intro xs
  induction xs with
  | nil => intro i v h; simp at h
  | cons x xs ih =>
    intro i v h
    cases i with
    | zero => simp [rd]; omega
    | succ i =>
      have h2 : i < xs.length := by simpa using h
      have := ih i v h2
      have e : rd (x :: xs) ((i + 1 : Nat) : Int) = rd xs (i : Int) := by rw [rd_get h, rd_get h2]; simp
      simp only [List.set_cons_succ, List.sum_cons, this, e]
      omega
theorem sum_replicate0 (n : Nat) : (List.replicate n (0 : Int)).sum = 0 := by
  induction n with
  | zero => rfl
  | succ n ih => simp [List.replicate_succ, ih]
theorem set_fill {α : Type} (A : List α) (d : Nat) (z v : α) : (A ++ List.replicate (d + 1) z).set A.length v = (A ++ [v]) ++ List.replicate d z := by
  rw [List.set_append_right _ _ (Nat.le_refl _)]
  simp [List.replicate_succ]
theorem set_fill' {α : Type} {A : List α} {i d : Nat} {z v : α} (h : A.length = i) : (A ++ List.replicate (d + 1) z).set i v = (A ++ [v]) ++ List.replicate d z := by
  subst h; exact set_fill A d z v
theorem sum_bound : ∀ (xs : List Int) (lo hi : Int), (∀ x ∈ xs, lo ≤ x ∧ x ≤ hi) → (xs.length : Int) * lo ≤ xs.sum ∧ xs.sum ≤ (xs.length : Int) * hi := by
  intro xs lo hi
  induction xs with
  | nil => intro _; simp
  | cons x xs ih =>
    intro h
    have h1 := ih (fun y hy => h y (by simp [hy]))
    have h2 := h x (by simp)
    have e1 : ((x :: xs).length : Int) * lo = (xs.length : Int) * lo + lo := by simp [Int.add_mul]
    have e2 : ((x :: xs).length : Int) * hi = (xs.length : Int) * hi + hi := by simp [Int.add_mul]
    rw [e1, e2, List.sum_cons]
    omega

/-! ### different -/
theorem flags_set {fl : List Bool} {n : Int} {seen : List Int} {x : Int} (hl : (fl.length : Int) = n) (h : ∀ j : Int, 0 ≤ j → j < n → rdOf false fl j = decide (j ∈ seen)) (h0 : 0 ≤ x) (h1 : x < n) :
    ∀ j : Int, 0 ≤ j → j < n → rdOf false (fl.set x.toNat true) j = decide (j ∈ seen ++ [x]) := by
  intro j hj0 hj
  have := h j hj0 hj
  simp only [rdOf, List.getD_eq_getElem?_getD, List.getElem?_set] at this ⊢
  by_cases e : x = j
  · subst e
    rw [if_pos rfl, if_pos (by omega)]
    simp
  · rw [if_neg (by omega), this]
    have : ¬ j = x := fun h => e h.symm
    simp [this]
theorem different_l0 (xs : List Int) (n : Int) (hb : xs.length < 4611686018427387904) : ∀ (d k i : Nat) (fl : List Bool), (fl.length : Int) = n → (∀ j : Int, 0 ≤ j → j < n → rdOf false fl j = decide (j ∈ xs.take i)) → i + d = xs.length → d < k → impl_differentBelow.l0 k n fl xs (xs.length : Int) (i : Int) = some (memB n (xs.take i) (xs.drop i)) := by
  intro d
  induction d with
  | zero =>
    intro k i fl hl hf hi hk
    obtain ⟨k, rfl, -⟩ := fuel hk
    simp only [impl_differentBelow.l0]
    rw [if_neg (by omega), drop_end (by omega)]
    simp [memB]
  | succ d ih =>
    intro k i fl hl hf hi hk
    obtain ⟨k, rfl, hk⟩ := fuel hk
    simp only [impl_differentBelow.l0]
    rw [if_pos (by omega), if_pos (by omega), if_pos (by omega), wrap_succ (by omega), drop_rd (by omega)]
    simp only [memB]
    by_cases h1 : rd xs (i : Int) < 0
    · rw [if_pos h1, decide_eq_false (by omega)]; rfl
    · rw [if_neg h1]
      by_cases h2 : rd xs (i : Int) ≥ n
      · rw [if_pos h2, decide_eq_false (by omega)]; rfl
      · rw [if_neg h2, if_pos (by omega), if_pos (by omega), hf _ (by omega) (by omega), decide_eq_true (show 0 ≤ rd xs (i : Int) ∧ rd xs (i : Int) < n by omega)]
        by_cases h3 : rd xs (i : Int) ∈ xs.take i
        · rw [decide_eq_true h3, if_pos rfl]; rfl
        · rw [decide_eq_false h3, if_neg (by decide), ih k (i + 1) _ (by simpa using hl) (by rw [take_rd (by omega)]; exact flags_set hl hf (by omega) (by omega)) (by omega) (by omega), take_rd (by omega)]; rfl
theorem different_spec (k : Nat) (xs : List Int) (n : Int) (hn : 0 ≤ n) (hn2 : n ≤ 281474976710656) (hb : xs.length < 4611686018427387904) (hk : xs.length < k) : impl_differentBelow.f k xs n = some (decide (GoodM xs n)) := by
  unfold impl_differentBelow.f
  by_cases h : (xs.length : Int) > n
  · rw [if_pos h, decide_eq_false]
    intro hg
    obtain ⟨m, rfl⟩ := Int.eq_ofNat_of_zero_le hn
    have := hg.le
    omega
  · rw [if_neg h, if_pos hn, if_pos (by omega)]
    have := different_l0 xs n hb xs.length k 0 (List.replicate n.toNat false) (by simp; omega) (fun j h0 h1 => by simp [rdOf, List.getD_eq_getElem?_getD, List.getElem?_replicate]; split <;> rfl) (by omega) hk
    rw [← memB_good]
    simpa using this

/-! ### index -/
theorem index_l0 (xs : List Int) (x : Int) (hb : xs.length < 4611686018427387904) : ∀ (d k i : Nat), i + d = xs.length → d < k → slices_Index_int_int.l0 k xs x (xs.length : Int) (i : Int) = some (idxM (xs.drop i) x i) := by
  intro d
  induction d with
  | zero =>
    intro k i hi hk
    obtain ⟨k, rfl, -⟩ := fuel hk
    simp only [slices_Index_int_int.l0]
    rw [if_neg (by omega), drop_end (by omega)]
    simp [idxM]
  | succ d ih =>
    intro k i hi hk
    obtain ⟨k, rfl, hk⟩ := fuel hk
    simp only [slices_Index_int_int.l0]
    rw [if_pos (by omega), if_pos (by omega), if_pos (by omega), wrap_succ (by omega), drop_rd (by omega)]
    simp only [idxM]
    rw [ih k (i + 1) (by omega) (by omega)]
    by_cases e : x = rd xs (i : Int)
    · rw [if_pos e, if_pos e.symm]
    · rw [if_neg e, if_neg (fun h => e h.symm)]
theorem index_spec (k : Nat) (xs : List Int) (x : Int) (hb : xs.length < 4611686018427387904) (hk : xs.length < k) : slices_Index_int_int.f k xs x = some (idxM xs x 0) := by
  unfold slices_Index_int_int.f
  have := index_l0 xs x hb xs.length k 0 (by omega) hk
  simpa using this

/-! ### contains -/
theorem contains_spec (k : Nat) (xs : List Int) (x : Int) (hb : xs.length < 4611686018427387904) (hk : xs.length < k) : slices_Contains_int_int.f k xs x = some (decide (x ∈ xs)) := by
  unfold slices_Contains_int_int.f
  rw [index_spec k xs x hb hk]
  simp only [Option.bind_some]
  congr 1
  rw [decide_eq_decide]
  exact idxM_nonneg xs x 0

/-! ### loans -/
/-- A loan that is valid. -/
def OkLoan (l : S56) (n : Int) : Prop := 0 ≤ l.f0 ∧ l.f0 < n ∧ 1 ≤ l.f1 ∧ l.f1 ≤ 100000 ∧ 1 ≤ l.f2.length ∧ GoodM l.f2 n ∧ l.f0 ∉ l.f2
instance (l : S56) (n : Int) : Decidable (OkLoan l n) := inferInstanceAs (Decidable (_ ∧ _))
def OkLoans (list : List S56) (n : Int) : Prop := list.length ≤ 16 ∧ 1 ≤ n ∧ n ≤ 12 ∧ ∀ l ∈ list, OkLoan l n
instance (list : List S56) (n : Int) : Decidable (OkLoans list n) := inferInstanceAs (Decidable (_ ∧ _))
theorem rdT_at {xs : List S56} {i : Nat} (h : i < xs.length) : rd_T56 xs (i : Int) = xs[i] := by
  simp [rd_T56, List.getD_eq_getElem?_getD, List.getElem?_eq_getElem h]
theorem drop_rdT {xs : List S56} {i : Nat} (h : i < xs.length) : xs.drop i = rd_T56 xs (i : Int) :: xs.drop (i + 1) := by
  rw [rdT_at h, List.drop_eq_getElem_cons h]
theorem rdT_mem {xs : List S56} {i : Nat} (h : i < xs.length) : rd_T56 xs (i : Int) ∈ xs := by
  rw [rdT_at h]; exact List.getElem_mem h
theorem implValidLoans_l0 (list : List S56) (n : Int) (hn1 : 1 ≤ n) (hn2 : n ≤ 12) (hl : list.length ≤ 16) (hg : ∀ l ∈ list, l.f2.length ≤ 1048576) : ∀ (d k i : Nat), i + d = list.length → d + d + 1048600 < k →
    impl_ValidLoans.l0 k n list (list.length : Int) (i : Int) = some (decide (∀ l ∈ list.drop i, OkLoan l n)) := by
  intro d
  induction d with
  | zero =>
    intro k i hi hk
    obtain ⟨k, rfl, -⟩ := fuel (show 0 < k by omega)
    simp only [impl_ValidLoans.l0]
    rw [if_neg (by omega), drop_end (by omega)]
    simp
  | succ d ih =>
    intro k i hi hk
    obtain ⟨k, rfl, hk⟩ := fuel (show d + d + 1048601 < k by omega)
    obtain ⟨k, rfl, hk⟩ := fuel (show d + d + 1048600 < k by omega)
    simp only [impl_ValidLoans.l0, impl_ValidLoans.j2, if_true]
    rw [if_pos (by omega), if_pos (by omega), if_pos (by omega), drop_rdT (by omega)]
    have hgl := hg _ (rdT_mem (xs := list) (i := i) (by omega))
    generalize rd_T56 list (i : Int) = l at hgl ⊢
    simp only [List.forall_mem_cons]
    by_cases h1 : l.f0 < 0
    · rw [if_pos h1, decide_eq_false]; rintro ⟨h, -⟩; have := h.1; omega
    · rw [if_neg h1]
      by_cases h2 : l.f0 ≥ n
      · rw [if_pos h2, decide_eq_false]; rintro ⟨h, -⟩; have := h.2.1; omega
      · rw [if_neg h2]
        by_cases h3 : l.f1 < 1
        · rw [if_pos h3, decide_eq_false]; rintro ⟨h, -⟩; have := h.2.2.1; omega
        · rw [if_neg h3]
          by_cases h4 : l.f1 > 100000
          · rw [decide_eq_true h4, if_pos rfl, decide_eq_false]; rintro ⟨h, -⟩; have := h.2.2.2.1; omega
          · rw [decide_eq_false h4, if_neg (by decide)]
            by_cases h5 : (l.f2.length : Int) < 1
            · rw [if_pos h5, decide_eq_false]; rintro ⟨h, -⟩; have := h.2.2.2.2.1; omega
            · rw [if_neg h5, different_spec _ _ _ (by omega) (by omega) (by omega) (by omega)]
              simp only [Option.bind_some]
              by_cases h6 : GoodM l.f2 n
              · have hle : l.f2.length ≤ 12 := by
                  obtain ⟨m, rfl⟩ := Int.eq_ofNat_of_zero_le (show 0 ≤ n by omega)
                  have := h6.le
                  omega
                rw [decide_eq_true h6, if_pos rfl, contains_spec _ _ _ (by omega) (by omega)]
                simp only [Option.bind_some]
                by_cases h7 : l.f0 ∈ l.f2
                · rw [decide_eq_true h7, if_pos rfl, decide_eq_false]; rintro ⟨h, -⟩; exact h.2.2.2.2.2.2 h7
                · rw [decide_eq_false h7, if_neg (by decide), wrap_succ (by omega), ih k (i + 1) (by omega) (by omega)]
                  congr 1
                  rw [decide_eq_decide]
                  exact ⟨fun h => ⟨⟨by omega, by omega, by omega, by omega, by omega, h6, h7⟩, h⟩, fun h => h.2⟩
              · rw [decide_eq_false h6, if_neg (by decide), decide_eq_false]; rintro ⟨h, -⟩; exact h6 h.2.2.2.2.2.1
theorem implValidLoans_spec (k : Nat) (list : List S56) (n : Int) (hl : list.length ≤ 1048576) (hg : ∀ l ∈ list, l.f2.length ≤ 1048576) (hk : 1048700 < k) : impl_ValidLoans.f k list n = some (decide (OkLoans list n)) := by
  obtain ⟨k, rfl, hk⟩ := fuel hk
  unfold impl_ValidLoans.f
  simp only [impl_ValidLoans.j0, if_true]
  by_cases h1 : (list.length : Int) > 16
  · rw [if_pos h1, decide_eq_false]; rintro ⟨h, -⟩; omega
  · rw [if_neg h1]
    by_cases h2 : n < 1
    · rw [if_pos h2, decide_eq_false]; rintro ⟨-, h, -⟩; omega
    · rw [if_neg h2]
      by_cases h3 : n > 12
      · rw [decide_eq_true h3, if_pos rfl, decide_eq_false]; rintro ⟨-, -, h, -⟩; omega
      · rw [decide_eq_false h3, if_neg (by decide)]
        have := implValidLoans_l0 list n (by omega) (by omega) (by omega) hg list.length k 0 (by omega) (by omega)
        rw [show (0 : Int) = ((0 : Nat) : Int) from rfl, this]
        congr 1
        rw [decide_eq_decide, List.drop_zero]
        exact ⟨fun h => ⟨by omega, by omega, by omega, h⟩, fun h => h.2.2.2⟩

/-! ### split -/
def splitM (g : Int) (m : Nat) : List Int := (List.range m).map fun i : Nat => g / (m : Int) + if (i : Int) < g % (m : Int) then 1 else 0
theorem splitM_length (g : Int) (m : Nat) : (splitM g m).length = m := by simp [splitM]
theorem splitM_rd {g : Int} {m i : Nat} (h : i < m) : rd (splitM g m) (i : Int) = g / (m : Int) + if (i : Int) < g % (m : Int) then 1 else 0 := rd_mapRange h
theorem sum_steps (a r : Int) (hr : 0 ≤ r) : ∀ m : Nat, ((List.range m).map fun i : Nat => a + if (i : Int) < r then 1 else 0).sum = (m : Int) * a + min (m : Int) r := by
  intro m
  induction m with
  | zero => simp; omega
  | succ m ih =>
    rw [List.range_succ, List.map_append, List.sum_append, ih]
    have e : ((m + 1 : Nat) : Int) * a = (m : Int) * a + a := by push_cast; rw [Int.add_mul]; omega
    rw [e]
    simp only [List.map_cons, List.map_nil, List.sum_cons, List.sum_nil]
    split <;> omega
theorem splitM_sum {g : Int} {m : Nat} (hm : 0 < m) : (splitM g m).sum = g := by
  unfold splitM
  rw [sum_steps _ _ (Int.emod_nonneg _ (by omega))]
  have h1 := Int.emod_lt_of_pos g (b := (m : Int)) (by omega)
  have h2 := Int.mul_ediv_add_emod g (m : Int)
  rw [show min (m : Int) (g % (m : Int)) = g % (m : Int) by omega]
  omega
theorem splitM_bound {g : Int} {m : Nat} (hm : 0 < m) (hg : 0 ≤ g) : ∀ x ∈ splitM g m, 0 ≤ x ∧ x ≤ g := by
  intro x hx
  obtain ⟨i, hi, rfl⟩ := mem_rd hx
  rw [splitM_length] at hi
  rw [splitM_rd hi]
  have h0 := Int.ediv_nonneg hg (show (0 : Int) ≤ m by omega)
  have h2 := Int.mul_ediv_add_emod g (m : Int)
  have h3 : g / (m : Int) ≤ (m : Int) * (g / (m : Int)) := by
    have : (1 : Int) * (g / (m : Int)) ≤ (m : Int) * (g / (m : Int)) := Int.mul_le_mul_of_nonneg_right (by omega) h0
    omega
  have h4 := Int.emod_lt_of_pos g (b := (m : Int)) (by omega)
  have h5 := Int.emod_nonneg g (b := (m : Int)) (by omega)
  split <;> omega

/-! ### spliteven -/
theorem range_map_succ {f : Nat → Int} (i : Nat) : (List.range (i + 1)).map f = (List.range i).map f ++ [f i] := by
  rw [List.range_succ, List.map_append]; rfl
theorem split_val {g : Int} {m : Nat} (hg : 0 ≤ g) (hg2 : g ≤ 1000000) (hm : 0 < m) (hm2 : m ≤ 12) :
    wrap64 (Int.tdiv g (m : Int)) = g / (m : Int) ∧ Int.tmod g (m : Int) = g % (m : Int) ∧ 0 ≤ g / (m : Int) ∧ g / (m : Int) ≤ 1000000 := by
  have h1 := Int.ediv_nonneg hg (show (0 : Int) ≤ m by omega)
  have h2 : g / (m : Int) ≤ g := Int.ediv_le_self _ hg
  rw [Int.tdiv_eq_ediv_of_nonneg hg, Int.tmod_eq_emod_of_nonneg hg]
  exact ⟨wrap_id (by omega) (by omega), rfl, h1, by omega⟩
theorem implSplit_l0 (g : Int) (m : Nat) (hg : 0 ≤ g) (hg2 : g ≤ 1000000) (hm : 0 < m) (hm2 : m ≤ 12) : ∀ (d k i : Nat), i + d = m → d < k →
    impl_SplitEven.l0 k g (m : Int) (((List.range i).map fun j : Nat => g / (m : Int) + if (j : Int) < g % (m : Int) then 1 else 0) ++ List.replicate d 0) (m : Int) (i : Int) = some (splitM g m) := by
  obtain ⟨e1, e2, e3, e4⟩ := split_val hg hg2 hm hm2
  intro d
  induction d with
  | zero =>
    intro k i hi hk
    obtain ⟨k, rfl, -⟩ := fuel hk
    simp only [impl_SplitEven.l0]
    rw [if_neg (by omega)]
    obtain rfl : i = m := by omega
    simp [splitM]
  | succ d ih =>
    intro k i hi hk
    obtain ⟨k, rfl, hk⟩ := fuel hk
    simp only [impl_SplitEven.l0]
    rw [if_pos (by omega), if_neg (by omega), if_pos (by omega), if_pos (by simp; omega), e1, e2, toNat_cast, wrap_succ (by omega)]
    simp only [Option.bind_some]
    rw [set_fill' (by simp)]
    have hr : rd (List.map (fun j : Nat => g / (m : Int) + if (j : Int) < g % (m : Int) then 1 else 0) (List.range i) ++ [g / (m : Int)] ++ List.replicate d 0) (i : Int) = g / (m : Int) := by
      rw [rd_append_l (by simp), rd_append_r (by simp) (by simp)]
      simp [rd]
    have := ih k (i + 1) (by omega) (by omega)
    rw [range_map_succ] at this
    by_cases h : (i : Int) < g % (m : Int)
    · rw [if_pos h] at this
      rw [if_pos h, hr, wrap_id (by omega) (by omega), List.append_assoc, List.set_append_right _ _ (by simp)]
      simp only [List.length_map, List.length_range, Nat.sub_self, List.singleton_append, List.set_cons_zero]
      rw [← this, List.append_assoc]; rfl
    · rw [if_neg h, Int.add_zero] at this
      rw [if_neg h]
      exact this
theorem implSplit_spec (k : Nat) (hk : 14 < k) (g : Int) (m : Int) : impl_SplitEven.f k g m = some (if 0 ≤ g ∧ g ≤ 1000000 ∧ 1 ≤ m ∧ m ≤ 12 then splitM g m.toNat else []) := by
  obtain ⟨k, rfl, hk⟩ := fuel hk
  unfold impl_SplitEven.f
  simp only [impl_SplitEven.j0, if_true]
  by_cases h1 : g < 0
  · rw [if_pos h1, if_neg (by omega)]
  · rw [if_neg h1]
    by_cases h2 : g > 1000000
    · rw [if_pos h2, if_neg (by omega)]
    · rw [if_neg h2]
      by_cases h3 : m < 1
      · rw [if_pos h3, if_neg (by omega)]
      · rw [if_neg h3]
        by_cases h4 : m > 12
        · rw [decide_eq_true h4, if_pos rfl, if_neg (by omega)]
        · rw [decide_eq_false h4, if_neg (by decide), if_pos (by omega), if_pos (by omega), if_pos (by omega)]
          obtain ⟨m, rfl⟩ := Int.eq_ofNat_of_zero_le (show 0 ≤ m by omega)
          simp only [Option.bind_some, Int.toNat_natCast, List.length_replicate]
          have := implSplit_l0 g m (by omega) (by omega) (by omega) (by omega) m k 0 (by omega) (by omega)
          simpa using this
theorem specSplit_l0 (g : Int) (m : Nat) (hg : 0 ≤ g) (hg2 : g ≤ 1000000) (hm : 0 < m) (hm2 : m ≤ 12) : ∀ (d k i : Nat), i + d = m → d < k →
    spec_split.l0 k g (m : Int) ((List.range i).map fun j : Nat => g / (m : Int) + if (j : Int) < g % (m : Int) then 1 else 0) (i : Int) = some (splitM g m) := by
  obtain ⟨e1, e2, e3, e4⟩ := split_val hg hg2 hm hm2
  intro d
  induction d with
  | zero =>
    intro k i hi hk
    obtain ⟨k, rfl, -⟩ := fuel hk
    simp only [spec_split.l0]
    rw [if_neg (by omega)]
    obtain rfl : i = m := by omega
    simp [splitM]
  | succ d ih =>
    intro k i hi hk
    obtain ⟨k, rfl, hk⟩ := fuel hk
    simp only [spec_split.l0]
    rw [if_pos (by omega), if_neg (by omega), e1, e2, wrap_succ (by omega)]
    have := ih k (i + 1) (by omega) (by omega)
    rw [range_map_succ] at this
    by_cases h : (i : Int) < g % (m : Int)
    · rw [if_pos h] at this
      rw [if_pos h, if_pos (by simp; omega), wrap_id (x := g / (m : Int) + 1) (by omega) (by omega)]
      exact this
    · rw [if_neg h, Int.add_zero] at this
      rw [if_neg h, if_pos (by simp; omega)]
      exact this
theorem specSplit_spec (k : Nat) (g : Int) (m : Nat) (hg : 0 ≤ g) (hg2 : g ≤ 1000000) (hm : 0 < m) (hm2 : m ≤ 12) (hk : m < k) : spec_split.f k g (m : Int) = some (splitM g m) := by
  unfold spec_split.f
  have := specSplit_l0 g m hg hg2 hm hm2 m k 0 (by omega) hk
  simpa using this

/-! ### exposure -/
/-- Parts added where their guards are. -/
def addParts : List Int → List Int → List Int → List Int
  | ex, g :: gs, p :: ps => addParts (ex.set g.toNat (wrap64 (rd ex g + p))) gs ps
  | ex, _, _ => ex
theorem addParts_length : ∀ (gs ps ex : List Int), (addParts ex gs ps).length = ex.length := by
  intro gs
  induction gs with
  | nil => intro ps ex; simp [addParts]
  | cons g gs ih =>
    intro ps ex
    cases ps with
    | nil => simp [addParts]
    | cons p ps => simp [addParts, ih]
/-- What all answer for. -/
def expoM : List S56 → List Int → List Int
  | [], ex => ex
  | l :: ls, ex => expoM ls (addParts ex l.f2 (splitM l.f1 l.f2.length))
theorem expoM_length : ∀ (ls : List S56) (ex : List Int), (expoM ls ex).length = ex.length := by
  intro ls
  induction ls with
  | nil => intro ex; rfl
  | cons l ls ih => intro ex; simp only [expoM, ih, addParts_length]
theorem guards_le {gs : List Int} {n : Int} (h : GoodM gs n) (hn : 1 ≤ n) (hn2 : n ≤ 12) : gs.length ≤ 12 := by
  obtain ⟨m, rfl⟩ := Int.eq_ofNat_of_zero_le (show 0 ≤ n by omega)
  have := h.le
  omega
theorem implExposure_l1 (list : List S56) (i : Nat) (b am : Int) (gs ps : List Int) (n : Nat) (r : List Int) (hg : GoodM gs (n : Int)) (hp : ps.length = gs.length) (hi : i < 1000) (hgl : gs.length ≤ 12) (k : Nat) :
    ∀ (d j : Nat) (ex : List Int), j + d = gs.length → ex.length = n → impl_ExposureOf.l0 k (addParts ex (gs.drop j) (ps.drop j)) list (list.length : Int) ((i + 1 : Nat) : Int) = some r →
    impl_ExposureOf.l1 (k + d + 1) ex list (list.length : Int) (i : Int) ps (ps.length : Int) (j : Int) b am gs = some r := by
  intro d
  induction d with
  | zero =>
    intro j ex hj hx h
    simp only [impl_ExposureOf.l1]
    rw [if_neg (by omega), wrap_succ (by omega)]
    rw [drop_end (by omega), drop_end (by omega)] at h
    simpa [addParts] using h
  | succ d ih =>
    intro j ex hj hx h
    have e : k + (d + 1) + 1 = (k + d + 1) + 1 := by omega
    rw [e]
    simp only [impl_ExposureOf.l1]
    have hm := hg.2 _ (rd_mem (xs := gs) (i := j) (by omega))
    rw [if_pos (by omega), if_pos (by omega), if_pos (by omega), if_pos (by omega), if_pos (by omega), if_pos (by omega), wrap_succ (i := j) (by omega)]
    refine ih (j + 1) _ (by omega) (by simpa using hx) ?_
    rw [drop_rd (xs := gs) (i := j) (by omega), drop_rd (xs := ps) (i := j) (by omega)] at h
    simpa [addParts] using h
theorem implExposure_l0 (list : List S56) (n : Nat) (hL : OkLoans list (n : Int)) : ∀ (d k i : Nat) (ex : List Int), i + d = list.length → ex.length = n → 20 * d + 40 < k →
    impl_ExposureOf.l0 k ex list (list.length : Int) (i : Int) = some (expoM (list.drop i) ex) := by
  obtain ⟨hl, hn1, hn2, hok⟩ := hL
  intro d
  induction d with
  | zero =>
    intro k i ex hi hx hk
    obtain ⟨k, rfl, -⟩ := fuel (show 0 < k by omega)
    simp only [impl_ExposureOf.l0]
    rw [if_neg (by omega), drop_end (by omega)]
    rfl
  | succ d ih =>
    intro k i ex hi hx hk
    obtain ⟨k, rfl, hk⟩ := fuel (show 20 * (d + 1) + 40 < k by omega)
    simp only [impl_ExposureOf.l0]
    rw [if_pos (by omega), if_pos (by omega), if_pos (by omega), drop_rdT (by omega)]
    have hlo := hok _ (rdT_mem (xs := list) (i := i) (by omega))
    generalize rd_T56 list (i : Int) = l at hlo ⊢
    obtain ⟨h0, h1, h2, h3, h4, h5, h6⟩ := hlo
    have h7 := guards_le h5 hn1 hn2
    rw [implSplit_spec _ (by omega), if_pos ⟨by omega, by omega, by omega, by omega⟩, Int.toNat_natCast]
    simp only [Option.bind_some, expoM]
    have hk2 : k = (k - l.f2.length - 1) + l.f2.length + 1 := by omega
    rw [hk2]
    have := implExposure_l1 list i l.f0 l.f1 l.f2 (splitM l.f1 l.f2.length) n (expoM (list.drop (i + 1)) (addParts ex l.f2 (splitM l.f1 l.f2.length))) h5 (splitM_length _ _) (by omega) h7 (k - l.f2.length - 1) l.f2.length 0 ex (by omega) hx ?_
    · rw [splitM_length] at this ⊢
      exact this
    · rw [List.drop_zero, List.drop_zero]
      exact ih _ (i + 1) _ (by omega) (by rw [addParts_length]; exact hx) (by omega)
/-- ExposureOf. -/
def exposureM (list : List S56) (n : Int) : List Int := if OkLoans list n then expoM list (List.replicate n.toNat 0) else []
theorem exposureM_pos {list : List S56} {n : Int} (h : OkLoans list n) : exposureM list n = expoM list (List.replicate n.toNat 0) := if_pos h
theorem exposureM_neg {list : List S56} {n : Int} (h : ¬ OkLoans list n) : exposureM list n = [] := if_neg h
theorem exposureM_length {list : List S56} {n : Int} (h : OkLoans list n) : (exposureM list n).length = n.toNat := by
  rw [exposureM_pos h, expoM_length]; simp
theorem implExposure_spec (k : Nat) (list : List S56) (n : Int) (hl : list.length ≤ 1048576) (hg : ∀ l ∈ list, l.f2.length ≤ 1048576) (hk : 1048700 < k) : impl_ExposureOf.f k list n = some (exposureM list n) := by
  unfold impl_ExposureOf.f
  rw [implValidLoans_spec k list n hl hg hk]
  simp only [Option.bind_some]
  by_cases h : OkLoans list n
  · rw [decide_eq_true h, if_pos rfl, exposureM_pos h]
    have hn1 := h.2.1
    have hn2 := h.2.2.1
    rw [if_pos (by omega), if_pos (by omega)]
    obtain ⟨m, rfl⟩ := Int.eq_ofNat_of_zero_le (show 0 ≤ n by omega)
    have := implExposure_l0 list m h list.length k 0 (List.replicate m 0) (by omega) (by simp) (by have := h.1; omega)
    simpa using this
  · rw [decide_eq_false h, if_neg (by decide), exposureM_neg h]

/-! ### inrange -/
theorem inRange_spec (a lo up : Int) : spec_inRange.f a lo up = some (decide (lo ≤ a ∧ a ≤ up)) := by
  unfold spec_inRange.f
  by_cases h : lo ≤ a <;> simp [h]

/-! ### ranges -/
theorem allIn_l0 (xs : List Int) (lo up : Int) (hb : xs.length < 4611686018427387904) : ∀ (d k i : Nat), i + d = xs.length → d < k → spec_allIn.l0 k xs lo up (i : Int) = some ((xs.drop i).all fun x => decide (lo ≤ x ∧ x ≤ up)) := by
  intro d
  induction d with
  | zero =>
    intro k i hi hk
    obtain ⟨k, rfl, -⟩ := fuel hk
    simp only [spec_allIn.l0]
    rw [if_neg (by omega), drop_end (by omega)]
    simp
  | succ d ih =>
    intro k i hi hk
    obtain ⟨k, rfl, hk⟩ := fuel hk
    simp only [spec_allIn.l0]
    rw [if_pos (by omega), if_pos (by omega), inRange_spec, wrap_succ (by omega), drop_rd (by omega)]
    simp only [Option.bind_some, List.all_cons]
    rw [ih k (i + 1) (by omega) (by omega)]
    cases decide (lo ≤ rd xs (i : Int) ∧ rd xs (i : Int) ≤ up) <;> simp
theorem allIn_spec (k : Nat) (xs : List Int) (lo up : Int) (hb : xs.length < 4611686018427387904) (hk : xs.length < k) : spec_allIn.f k xs lo up = some (xs.all fun x => decide (lo ≤ x ∧ x ≤ up)) := by
  unfold spec_allIn.f
  have := allIn_l0 xs lo up hb xs.length k 0 (by omega) hk
  simpa using this

/-! ### within -/
theorem allWithin_l0 (xs : List Int) (lo up : Int) (hb : xs.length < 4611686018427387904) : ∀ (d k i : Nat), i + d = xs.length → d < k → impl_allWithin.l0 k lo up xs (xs.length : Int) (i : Int) = some ((xs.drop i).all fun x => decide (lo ≤ x ∧ x ≤ up)) := by
  intro d
  induction d with
  | zero =>
    intro k i hi hk
    obtain ⟨k, rfl, -⟩ := fuel hk
    simp only [impl_allWithin.l0]
    rw [if_neg (by omega), drop_end (by omega)]
    simp
  | succ d ih =>
    intro k i hi hk
    obtain ⟨k, rfl, hk⟩ := fuel hk
    simp only [impl_allWithin.l0]
    rw [if_pos (by omega), if_pos (by omega), if_pos (by omega), wrap_succ (by omega), drop_rd (by omega)]
    simp only [List.all_cons]
    rw [ih k (i + 1) (by omega) (by omega)]
    by_cases h1 : rd xs (i : Int) < lo
    · rw [if_pos h1, decide_eq_false (by omega)]; rfl
    · rw [if_neg h1]
      by_cases h2 : rd xs (i : Int) > up
      · rw [if_pos h2, decide_eq_false (by omega)]; rfl
      · rw [if_neg h2, decide_eq_true (by omega)]; rfl
theorem allWithin_spec (k : Nat) (xs : List Int) (lo up : Int) (hb : xs.length < 4611686018427387904) (hk : xs.length < k) : impl_allWithin.f k xs lo up = some (xs.all fun x => decide (lo ≤ x ∧ x ≤ up)) := by
  unfold impl_allWithin.f
  have := allWithin_l0 xs lo up hb xs.length k 0 (by omega) hk
  simpa using this

/-! ### stakes -/
def OkStakes (stakes : List Int) : Prop := 1 ≤ stakes.length ∧ stakes.length ≤ 12 ∧ ∀ x ∈ stakes, 0 ≤ x ∧ x ≤ 100000
instance (stakes : List Int) : Decidable (OkStakes stakes) := inferInstanceAs (Decidable (_ ∧ _))
theorem implStakes_spec (k : Nat) (stakes : List Int) (hk : 20 < k) : impl_validStakes.f k stakes = some (decide (OkStakes stakes)) := by
  unfold impl_validStakes.f
  by_cases h1 : (stakes.length : Int) ≥ 1
  · rw [if_pos h1]
    by_cases h2 : (stakes.length : Int) ≤ 12
    · rw [if_pos h2, allWithin_spec _ _ _ _ (by omega) (by omega)]
      simp only [Option.bind_some]
      congr 1
      rw [Bool.eq_iff_iff, List.all_eq_true, decide_eq_true_eq]
      exact ⟨fun h => ⟨by omega, by omega, fun x hx => by simpa using h x hx⟩, fun h x hx => by simpa using h.2.2 x hx⟩
    · rw [if_neg h2, decide_eq_false]; rintro ⟨-, h, -⟩; omega
  · rw [if_neg h1, decide_eq_false]; rintro ⟨h, -⟩; omega
theorem specStakes_spec (k : Nat) (stakes : List Int) (hk : 20 < k) : spec_validStakes.f k stakes = some (decide (OkStakes stakes)) := by
  unfold spec_validStakes.f
  rw [inRange_spec]
  simp only [Option.bind_some]
  by_cases h1 : 1 ≤ (stakes.length : Int) ∧ (stakes.length : Int) ≤ 12
  · rw [decide_eq_true h1, if_pos rfl, allIn_spec _ _ _ _ (by omega) (by omega)]
    simp only [Option.bind_some]
    congr 1
    rw [Bool.eq_iff_iff, List.all_eq_true, decide_eq_true_eq]
    exact ⟨fun h => ⟨by omega, by omega, fun x hx => by simpa using h x hx⟩, fun h x hx => by simpa using h.2.2 x hx⟩
  · rw [decide_eq_false h1, if_neg (by decide), decide_eq_false]; rintro ⟨h2, h3, -⟩; exact h1 ⟨by omega, by omega⟩

/-! ### free -/
/-- What is free. -/
def freeM (stakes : List Int) (list : List S56) : List Int :=
  if OkStakes stakes ∧ OkLoans list (stakes.length : Int) then (List.range stakes.length).map fun i : Nat => wrap64 (rd stakes (i : Int) - rd (exposureM list (stakes.length : Int)) (i : Int)) else []
theorem freeM_pos {stakes : List Int} {list : List S56} (h : OkStakes stakes ∧ OkLoans list (stakes.length : Int)) : freeM stakes list = (List.range stakes.length).map fun i : Nat => wrap64 (rd stakes (i : Int) - rd (exposureM list (stakes.length : Int)) (i : Int)) := if_pos h
theorem freeM_neg {stakes : List Int} {list : List S56} (h : ¬ (OkStakes stakes ∧ OkLoans list (stakes.length : Int))) : freeM stakes list = [] := if_neg h
theorem implFree_l0 (stakes ex : List Int) (hl : ex.length = stakes.length) (hn : stakes.length ≤ 12) : ∀ (d k i : Nat), i + d = ex.length → d < k →
    impl_FreeStakes.l0 k stakes ((List.range i).map fun j : Nat => wrap64 (rd stakes (j : Int) - rd ex (j : Int))) ex (ex.length : Int) (i : Int) = some ((List.range ex.length).map fun j : Nat => wrap64 (rd stakes (j : Int) - rd ex (j : Int))) := by
  intro d
  induction d with
  | zero =>
    intro k i hi hk
    obtain ⟨k, rfl, -⟩ := fuel hk
    simp only [impl_FreeStakes.l0]
    rw [if_neg (by omega), show i = ex.length by omega]
  | succ d ih =>
    intro k i hi hk
    obtain ⟨k, rfl, hk⟩ := fuel hk
    simp only [impl_FreeStakes.l0]
    rw [if_pos (by omega), if_pos (by omega), if_pos (by omega), if_pos (by omega), if_pos (by simp; omega), wrap_succ (by omega)]
    have := ih k (i + 1) (by omega) (by omega)
    rw [range_map_succ] at this
    exact this
theorem implFree_spec (k : Nat) (stakes : List Int) (list : List S56) (hl : list.length ≤ 1048576) (hg : ∀ l ∈ list, l.f2.length ≤ 1048576) (hk : 1048700 < k) : impl_FreeStakes.f k stakes list = some (freeM stakes list) := by
  unfold impl_FreeStakes.f
  rw [implStakes_spec k stakes (by omega)]
  simp only [Option.bind_some]
  by_cases h1 : OkStakes stakes
  · rw [decide_eq_true h1, if_pos rfl, implExposure_spec k list _ hl hg hk]
    simp only [Option.bind_some]
    have hn := h1.2.1
    by_cases h2 : OkLoans list (stakes.length : Int)
    · rw [freeM_pos ⟨h1, h2⟩]
      have he : (exposureM list (stakes.length : Int)).length = stakes.length := by rw [exposureM_length h2]; simp
      have := implFree_l0 stakes (exposureM list (stakes.length : Int)) he hn (exposureM list (stakes.length : Int)).length k 0 (by omega) (by omega)
      rw [he] at this ⊢
      simpa using this
    · rw [freeM_neg (fun h => h2 h.2), exposureM_neg h2]
      obtain ⟨k, rfl, -⟩ := fuel hk
      simp [impl_FreeStakes.l0]
  · rw [decide_eq_false h1, if_neg (by decide), freeM_neg (fun h => h1 h.1)]

/-! ### exbound -/
theorem partsB {g : Int} (m : Nat) (h0 : 0 ≤ g) (h1 : g ≤ 100000) : ∀ p ∈ splitM g m, 0 ≤ p ∧ p ≤ 100001 := by
  intro p hp
  unfold splitM at hp
  obtain ⟨i, -, rfl⟩ := List.mem_map.1 hp
  have h2 : 0 ≤ g / (m : Int) := Int.ediv_nonneg h0 (by omega)
  have h3 : g / (m : Int) ≤ g := Int.ediv_le_self _ h0
  split <;> omega
theorem rd_in {xs : List Int} {B : Int} (h : ∀ x ∈ xs, 0 ≤ x ∧ x ≤ B) (hB : 0 ≤ B) (i : Int) : 0 ≤ rd xs i ∧ rd xs i ≤ B := by
  simp only [rd, List.getD_eq_getElem?_getD]
  cases h1 : xs[i.toNat]? with
  | none => simpa using hB
  | some v => simp only [Option.getD_some]; exact h v (List.mem_of_getElem? h1)
theorem addParts_bound : ∀ (gs ps ex : List Int) (B : Int), (∀ x ∈ ex, 0 ≤ x ∧ x ≤ B) → (∀ p ∈ ps, 0 ≤ p ∧ p ≤ 100001) → 0 ≤ B → B + 100001 * (gs.length : Int) ≤ 4000000000000000000 → ∀ x ∈ addParts ex gs ps, 0 ≤ x ∧ x ≤ B + 100001 * (gs.length : Int) := by
  intro gs
  induction gs with
  | nil => intro ps ex B hx _ _ _ x hm; simp only [addParts] at hm; have := hx x hm; simp; omega
  | cons g gs ih =>
    intro ps ex B hx hp hB hb x hm
    rw [List.length_cons] at hb ⊢
    cases ps with
    | nil => simp only [addParts] at hm; have := hx x hm; omega
    | cons p ps =>
      simp only [addParts] at hm
      have hr := rd_in hx hB g
      have hpp := hp p (by simp)
      have := ih ps _ (B + 100001) (fun y hy => ?_) (fun q hq => hp q (by simp [hq])) (by omega) (by omega) x hm
      · omega
      · rcases List.mem_or_eq_of_mem_set hy with h | h
        · have := hx y h; omega
        · rw [h, wrap_id (by omega) (by omega)]; omega
theorem expoM_bound (n : Int) (hn : 1 ≤ n) (hn2 : n ≤ 12) : ∀ (ls : List S56) (ex : List Int) (B : Int), (∀ l ∈ ls, OkLoan l n) → (∀ x ∈ ex, 0 ≤ x ∧ x ≤ B) → 0 ≤ B → B + 1300000 * (ls.length : Int) ≤ 1000000000 → ∀ x ∈ expoM ls ex, 0 ≤ x ∧ x ≤ B + 1300000 * (ls.length : Int) := by
  intro ls
  induction ls with
  | nil => intro ex B _ hx _ _ x hm; simp only [expoM] at hm; have := hx x hm; simp; omega
  | cons l ls ih =>
    intro ex B hl hx hB hb x hm
    rw [List.length_cons] at hb ⊢
    simp only [expoM] at hm
    have hok := hl l (by simp)
    have hg := guards_le hok.2.2.2.2.2.1 hn hn2
    have h1 := addParts_bound l.f2 (splitM l.f1 l.f2.length) ex B hx (partsB _ (by have := hok.2.2.1; omega) hok.2.2.2.1) hB (by omega)
    have := ih _ (B + 1300000) (fun y hy => hl y (by simp [hy])) (fun y hy => by have := h1 y hy; omega) (by omega) (by omega) x hm
    omega
theorem exposureM_bound {list : List S56} {n : Int} (h : OkLoans list n) (i : Int) : 0 ≤ rd (exposureM list n) i ∧ rd (exposureM list n) i ≤ 30000000 := by
  obtain ⟨h1, h2, h3, h4⟩ := id h
  rw [exposureM_pos h]
  have hb := expoM_bound n h2 h3 list (List.replicate n.toNat 0) 0 h4 (fun x hx => by rw [(List.mem_replicate.1 hx).2]; omega) (by omega) (by omega)
  exact rd_in (fun x hx => by have := hb x hx; omega) (by omega) i
theorem freeM_rd {stakes : List Int} {list : List S56} (h : OkStakes stakes ∧ OkLoans list (stakes.length : Int)) : freeM stakes list = (List.range stakes.length).map fun i : Nat => rd stakes (i : Int) - rd (exposureM list (stakes.length : Int)) (i : Int) := by
  rw [freeM_pos h]
  apply List.map_congr_left
  intro i hi
  have h1 := exposureM_bound h.2 (i : Int)
  have h2 := h.1.2.2 _ (rd_mem (xs := stakes) (List.mem_range.1 hi))
  exact wrap_id (by omega) (by omega)

/-! ### place -/
theorem placeIn_l0 (xs : List Int) (x : Int) (hb : xs.length < 4611686018427387904) : ∀ (d k i : Nat), i + d = xs.length → d < k → spec_placeIn.l0 k xs x (i : Int) = some (idxM (xs.drop i) x i) := by
  intro d
  induction d with
  | zero =>
    intro k i hi hk
    obtain ⟨k, rfl, -⟩ := fuel hk
    simp only [spec_placeIn.l0]
    rw [if_neg (by omega), drop_end (by omega)]
    simp [idxM]
  | succ d ih =>
    intro k i hi hk
    obtain ⟨k, rfl, hk⟩ := fuel hk
    simp only [spec_placeIn.l0]
    rw [if_pos (by omega), if_pos (by omega), wrap_succ (by omega), drop_rd (by omega)]
    simp only [idxM]
    rw [ih k (i + 1) (by omega) (by omega)]
    split <;> rfl
theorem placeIn_spec (k : Nat) (xs : List Int) (x : Int) (hb : xs.length < 4611686018427387904) (hk : xs.length < k) : spec_placeIn.f k xs x = some (idxM xs x 0) := by
  unfold spec_placeIn.f
  have := placeIn_l0 xs x hb xs.length k 0 (by omega) hk
  simpa using this

/-! ### members -/
theorem validMembers_l0 (xs : List Int) (n : Int) (hb : xs.length < 4611686018427387904) : ∀ (d k i : Nat), i + d = xs.length → xs.length + d < k → spec_validMembers.l0 k xs n (i : Int) = some (memB (wrap64 (n - 1) + 1) (xs.take i) (xs.drop i)) := by
  intro d
  induction d with
  | zero =>
    intro k i hi hk
    obtain ⟨k, rfl, -⟩ := fuel hk
    simp only [spec_validMembers.l0]
    rw [if_neg (by omega), drop_end (by omega)]
    simp [memB]
  | succ d ih =>
    intro k i hi hk
    obtain ⟨k, rfl, hk⟩ := fuel hk
    simp only [spec_validMembers.l0]
    rw [if_pos (by omega), if_pos (by omega), inRange_spec, wrap_succ (i := i) (by omega), drop_rd (by omega), toNat_cast]
    rw [placeIn_spec _ _ _ (by simp; omega) (by simp; omega)]
    simp only [Option.bind_some]
    rw [if_pos (show (i : Int) ≤ (xs.length : Int) by omega), ih k (i + 1) (by omega) (by omega), take_rd (by omega)]
    simp only [memB]
    by_cases h1 : 0 ≤ rd xs (i : Int) ∧ rd xs (i : Int) < wrap64 (n - 1) + 1
    · rw [decide_eq_true h1, decide_eq_true (show 0 ≤ rd xs (i : Int) ∧ rd xs (i : Int) ≤ wrap64 (n - 1) by omega), if_pos rfl]
      have h2 := idxM_nonneg (xs.take i) (rd xs (i : Int)) 0
      by_cases h3 : rd xs (i : Int) ∈ xs.take i
      · rw [if_pos (h2.2 h3), decide_eq_true h3]; rfl
      · rw [if_neg (fun h => h3 (h2.1 h)), decide_eq_false h3]; rfl
    · rw [decide_eq_false h1, decide_eq_false (show ¬ (0 ≤ rd xs (i : Int) ∧ rd xs (i : Int) ≤ wrap64 (n - 1)) by omega), if_neg (by decide)]; rfl
theorem validMembers_any (k : Nat) (xs : List Int) (n : Int) (hb : xs.length < 4611686018427387904) (hk : xs.length + xs.length < k) : spec_validMembers.f k xs n = some (decide (GoodM xs (wrap64 (n - 1) + 1))) := by
  unfold spec_validMembers.f
  have := validMembers_l0 xs n hb xs.length k 0 (by omega) hk
  rw [← memB_good]
  simpa using this
theorem validMembers_spec (k : Nat) (xs : List Int) (n : Int) (hn : -4611686018427387904 ≤ n) (hn2 : n ≤ 4611686018427387904) (hb : xs.length < 4611686018427387904) (hk : xs.length + xs.length < k) : spec_validMembers.f k xs n = some (decide (GoodM xs n)) := by
  rw [validMembers_any k xs n hb hk, wrap_id (x := n - 1) (by omega) (by omega), Int.sub_add_cancel]

/-! ### loansspec -/
theorem specValidLoans_out (list : List S56) (n : Int) (hn : ¬ (1 ≤ n ∧ n ≤ 12)) (hl : list.length ≤ 1048576) (hg : ∀ l ∈ list, l.f2.length ≤ 1048576) : ∀ (d k i : Nat), i + d = list.length → d + 2097200 < k →
    spec_validLoans.l0 k list n (i : Int) = some false := by
  intro d
  induction d with
  | zero =>
    intro k i hi hk
    obtain ⟨k, rfl, -⟩ := fuel (show 0 < k by omega)
    simp only [spec_validLoans.l0]
    rw [if_neg (by omega), inRange_spec, decide_eq_false hn]
    simp
  | succ d ih =>
    intro k i hi hk
    obtain ⟨k, rfl, hk⟩ := fuel (show d + 2097200 < k by omega)
    simp only [spec_validLoans.l0]
    rw [if_pos (by omega), if_pos (by omega), inRange_spec, inRange_spec]
    have hgl := hg _ (rdT_mem (xs := list) (i := i) (by omega))
    generalize rd_T56 list (i : Int) = l at hgl ⊢
    rw [validMembers_any _ _ _ (by omega) (by omega), placeIn_spec _ _ _ (by omega) (by omega), wrap_succ (i := i) (by omega), ih k (i + 1) (by omega) (by omega)]
    simp only [Option.bind_some, ite_self]
theorem specValidLoans_l0 (list : List S56) (n : Int) (hn1 : 1 ≤ n) (hn2 : n ≤ 12) (hl : list.length ≤ 1048576) (hg : ∀ l ∈ list, l.f2.length ≤ 1048576) : ∀ (d k i : Nat), i + d = list.length → d + 2097200 < k →
    spec_validLoans.l0 k list n (i : Int) = some (decide (list.length ≤ 16 ∧ ∀ l ∈ list.drop i, OkLoan l n)) := by
  intro d
  induction d with
  | zero =>
    intro k i hi hk
    obtain ⟨k, rfl, -⟩ := fuel (show 0 < k by omega)
    simp only [spec_validLoans.l0]
    rw [if_neg (by omega), drop_end (by omega), inRange_spec, decide_eq_true (show 1 ≤ n ∧ n ≤ 12 from ⟨hn1, hn2⟩)]
    by_cases h : (list.length : Int) ≤ 16
    · rw [if_pos h, decide_eq_true]
      · rfl
      · exact ⟨by omega, by simp⟩
    · rw [if_neg h, decide_eq_false]; rintro ⟨h2, -⟩; omega
  | succ d ih =>
    intro k i hi hk
    obtain ⟨k, rfl, hk⟩ := fuel (show d + 2097200 < k by omega)
    simp only [spec_validLoans.l0]
    rw [if_pos (by omega), if_pos (by omega), inRange_spec, inRange_spec, drop_rdT (by omega)]
    have hgl := hg _ (rdT_mem (xs := list) (i := i) (by omega))
    generalize rd_T56 list (i : Int) = l at hgl ⊢
    rw [validMembers_spec _ _ _ (by omega) (by omega) (by omega) (by omega), placeIn_spec _ _ _ (by omega) (by omega), wrap_succ (i := i) (by omega), ih k (i + 1) (by omega) (by omega), wrap_id (x := n - 1) (by omega) (by omega)]
    simp only [Option.bind_some, List.forall_mem_cons]
    by_cases h1 : 0 ≤ l.f0 ∧ l.f0 ≤ n - 1
    · rw [decide_eq_true h1, if_pos rfl]
      by_cases h2 : 1 ≤ l.f1 ∧ l.f1 ≤ 100000
      · rw [decide_eq_true h2, if_pos rfl]
        by_cases h3 : (l.f2.length : Int) = 0
        · rw [if_pos h3, decide_eq_false]; rintro ⟨-, h, -⟩; have := h.2.2.2.2.1; omega
        · rw [if_neg h3]
          by_cases h4 : GoodM l.f2 n
          · rw [decide_eq_true h4, if_pos rfl]
            have hm := idxM_nonneg l.f2 l.f0 0
            by_cases h5 : l.f0 ∈ l.f2
            · rw [if_pos (hm.2 h5), decide_eq_false]; rintro ⟨-, h, -⟩; exact h.2.2.2.2.2.2 h5
            · rw [if_neg (fun h => h5 (hm.1 h))]
              congr 1
              rw [decide_eq_decide]
              exact ⟨fun h => ⟨h.1, ⟨by omega, by omega, by omega, by omega, by omega, h4, h5⟩, h.2⟩, fun h => ⟨h.1, h.2.2⟩⟩
          · rw [decide_eq_false h4, if_neg (by decide), decide_eq_false]; rintro ⟨-, h, -⟩; exact h4 h.2.2.2.2.2.1
      · rw [decide_eq_false h2, if_neg (by decide), decide_eq_false]; rintro ⟨-, h, -⟩; exact h2 ⟨h.2.2.1, h.2.2.2.1⟩
    · rw [decide_eq_false h1, if_neg (by decide), decide_eq_false]; rintro ⟨-, h, -⟩; exact h1 ⟨h.1, by have := h.2.1; omega⟩
theorem specValidLoans_spec (k : Nat) (list : List S56) (n : Int) (hl : list.length ≤ 1048576) (hg : ∀ l ∈ list, l.f2.length ≤ 1048576) (hk : 3145800 < k) : spec_validLoans.f k list n = some (decide (OkLoans list n)) := by
  unfold spec_validLoans.f
  by_cases h : 1 ≤ n ∧ n ≤ 12
  · have := specValidLoans_l0 list n h.1 h.2 hl hg list.length k 0 (by omega) (by omega)
    rw [show (0 : Int) = ((0 : Nat) : Int) from rfl, this]
    congr 1
    rw [decide_eq_decide, List.drop_zero]
    exact ⟨fun h2 => ⟨h2.1, h.1, h.2, h2.2⟩, fun h2 => ⟨h2.1, h2.2.2.2⟩⟩
  · have := specValidLoans_out list n h hl hg list.length k 0 (by omega) (by omega)
    rw [show (0 : Int) = ((0 : Nat) : Int) from rfl, this, decide_eq_false]
    rintro ⟨-, h1, h2, -⟩
    exact h ⟨h1, h2⟩

/-! ### exposurespec -/
theorem specExposure_l1 (list : List S56) (i : Nat) (ps : List Int) (n : Nat) (r : List Int) (hi : i < list.length) (hl : list.length ≤ 16) (hg : GoodM (rd_T56 list (i : Int)).f2 (n : Int)) (hp : ps.length = (rd_T56 list (i : Int)).f2.length) (hgl : (rd_T56 list (i : Int)).f2.length ≤ 12) (k : Nat) :
    ∀ (d j : Nat) (ex : List Int), j + d = (rd_T56 list (i : Int)).f2.length → ex.length = n → spec_exposures.l0 k list (addParts ex ((rd_T56 list (i : Int)).f2.drop j) (ps.drop j)) ((i + 1 : Nat) : Int) = some r →
    spec_exposures.l1 (k + d + 1) list ex (i : Int) ps (j : Int) = some r := by
  intro d
  induction d with
  | zero =>
    intro j ex hj hx h
    simp only [spec_exposures.l1]
    rw [if_neg (by omega), wrap_succ (by omega)]
    rw [drop_end (by omega), drop_end (by omega)] at h
    simpa [addParts] using h
  | succ d ih =>
    intro j ex hj hx h
    have e : k + (d + 1) + 1 = (k + d + 1) + 1 := by omega
    rw [e]
    simp only [spec_exposures.l1]
    have hm := hg.2 _ (rd_mem (xs := (rd_T56 list (i : Int)).f2) (i := j) (by omega))
    rw [if_pos (by omega), if_pos (by omega), if_pos (by omega), if_pos (by omega), if_pos (by omega), if_pos (by omega), if_pos (by omega), wrap_succ (i := j) (by omega)]
    refine ih (j + 1) _ (by omega) (by simpa using hx) ?_
    rw [drop_rd (xs := (rd_T56 list (i : Int)).f2) (i := j) (by omega), drop_rd (xs := ps) (i := j) (by omega)] at h
    simpa [addParts] using h
theorem specExposure_l0 (list : List S56) (n : Nat) (hL : OkLoans list (n : Int)) : ∀ (d k i : Nat) (ex : List Int), i + d = list.length → ex.length = n → 20 * d + 40 < k →
    spec_exposures.l0 k list ex (i : Int) = some (expoM (list.drop i) ex) := by
  obtain ⟨hl, hn1, hn2, hok⟩ := hL
  intro d
  induction d with
  | zero =>
    intro k i ex hi hx hk
    obtain ⟨k, rfl, -⟩ := fuel (show 0 < k by omega)
    simp only [spec_exposures.l0]
    rw [if_neg (by omega), drop_end (by omega)]
    rfl
  | succ d ih =>
    intro k i ex hi hx hk
    obtain ⟨k, rfl, hk⟩ := fuel (show 20 * (d + 1) + 40 < k by omega)
    simp only [spec_exposures.l0]
    rw [if_pos (by omega), if_pos (by omega), drop_rdT (by omega)]
    have hlo := hok _ (rdT_mem (xs := list) (i := i) (by omega))
    obtain ⟨h0, h1, h2, h3, h4, h5, h6⟩ := hlo
    have h7 := guards_le h5 hn1 hn2
    rw [specSplit_spec _ _ _ (by omega) (by omega) (by omega) (by omega) (by omega)]
    simp only [Option.bind_some, expoM]
    have hk2 : k = (k - (rd_T56 list (i : Int)).f2.length - 1) + (rd_T56 list (i : Int)).f2.length + 1 := by omega
    rw [hk2]
    refine specExposure_l1 list i _ n _ (by omega) hl h5 (splitM_length _ _) h7 _ (rd_T56 list (i : Int)).f2.length 0 ex (by omega) hx ?_
    rw [List.drop_zero, List.drop_zero]
    exact ih _ (i + 1) _ (by omega) (by rw [addParts_length]; exact hx) (by omega)
theorem specExposures_inner (k : Nat) (list : List S56) (n : Int) (h : OkLoans list n) (hk : 500 < k) : spec_exposures.f k list n = some (exposureM list n) := by
  unfold spec_exposures.f
  have hn1 := h.2.1
  have hn2 := h.2.2.1
  rw [if_pos (by omega), if_pos (by omega), exposureM_pos h]
  obtain ⟨m, rfl⟩ := Int.eq_ofNat_of_zero_le (show 0 ≤ n by omega)
  have := specExposure_l0 list m h list.length k 0 (List.replicate m 0) (by omega) (by simp) (by have := h.1; omega)
  simpa using this

/-! ### freespec -/
theorem specFree_l0 (stakes ex : List Int) (hl : ex.length = stakes.length) (hn : stakes.length ≤ 12) : ∀ (d k i : Nat) (x5 : List Int), i + d = ex.length → x5.length = ex.length → (∀ j : Nat, j < ex.length → rd x5 (j : Int) = if j < i then wrap64 (rd stakes (j : Int) - rd ex (j : Int)) else rd ex (j : Int)) → d < k →
    spec_free.l0 k stakes x5 (i : Int) = some ((List.range ex.length).map fun j : Nat => wrap64 (rd stakes (j : Int) - rd ex (j : Int))) := by
  intro d
  induction d with
  | zero =>
    intro k i x5 hi hx hj hk
    obtain ⟨k, rfl, -⟩ := fuel hk
    simp only [spec_free.l0]
    rw [if_neg (by omega)]
    congr 1
    apply ext_rd (by simp [hx])
    intro q hq
    rw [rd_mapRange (by omega), hj q (by omega), if_pos (by omega)]
  | succ d ih =>
    intro k i x5 hi hx hj hk
    obtain ⟨k, rfl, hk⟩ := fuel hk
    simp only [spec_free.l0]
    have h3 := hj i (by omega)
    rw [if_neg (by omega)] at h3
    rw [if_pos (by omega), if_pos (by omega), if_pos (by omega), wrap_succ (by omega), toNat_cast, h3]
    refine ih k (i + 1) _ (by omega) (by simpa using hx) ?_ (by omega)
    intro q hq
    rw [rd_set (by omega)]
    by_cases e2 : i = q
    · subst e2
      rw [if_pos rfl, if_pos (by omega)]
    · rw [if_neg e2, hj q hq]
      by_cases e3 : q < i
      · rw [if_pos e3, if_pos (by omega)]
      · rw [if_neg e3, if_neg (by omega)]
theorem specFree_inner (k : Nat) (stakes : List Int) (list : List S56) (h1 : OkStakes stakes) (h2 : OkLoans list (stakes.length : Int)) (hk : 500 < k) : spec_free.f k stakes list = some (freeM stakes list) := by
  unfold spec_free.f
  rw [specExposures_inner k list _ h2 hk, freeM_pos ⟨h1, h2⟩]
  simp only [Option.bind_some]
  have hn := h1.2.1
  have he : (exposureM list (stakes.length : Int)).length = stakes.length := by rw [exposureM_length h2]; simp
  have := specFree_l0 stakes (exposureM list (stakes.length : Int)) he hn (exposureM list (stakes.length : Int)).length k 0 _ (by omega) rfl (fun j hj => by rw [if_neg (by omega)]) (by omega)
  rw [he] at this
  exact this

/-! ### safe -/
theorem min_l0 (xs : List Int) (hb : xs.length < 1000000000) : ∀ (d k i : Nat) (a : Int), i + d = xs.length → d < k → ∃ m, slices_Min_int_int.l0 k xs a (i : Int) = some m ∧ (0 ≤ m ↔ 0 ≤ a ∧ ∀ x ∈ xs.drop i, 0 ≤ x) := by
  intro d
  induction d with
  | zero =>
    intro k i a hi hk
    obtain ⟨k, rfl, -⟩ := fuel hk
    simp only [slices_Min_int_int.l0]
    rw [if_neg (by omega), drop_end (by omega)]
    exact ⟨a, rfl, by simp⟩
  | succ d ih =>
    intro k i a hi hk
    obtain ⟨k, rfl, hk⟩ := fuel hk
    simp only [slices_Min_int_int.l0]
    rw [if_pos (by omega), if_pos (by omega), wrap_succ (by omega)]
    obtain ⟨m, hm, hm2⟩ := ih k (i + 1) (mn a (rd xs (i : Int))) (by omega) (by omega)
    refine ⟨m, hm, ?_⟩
    rw [hm2, drop_rd (show i < xs.length by omega), mn_min]
    simp only [List.mem_cons, forall_eq_or_imp]
    constructor
    · rintro ⟨h1, h2⟩; exact ⟨by omega, by omega, h2⟩
    · rintro ⟨h1, h2, h3⟩; exact ⟨by omega, h3⟩
theorem min_spec (k : Nat) (xs : List Int) (hb : xs.length < 1000000) (h : 0 < xs.length) (hk : xs.length < k) : ∃ m, slices_Min_int_int.f k xs = some m ∧ (0 ≤ m ↔ ∀ x ∈ xs, 0 ≤ x) := by
  unfold slices_Min_int_int.f
  rw [if_pos (by omega)]
  obtain ⟨m, hm, hm2⟩ := min_l0 xs (by omega) (xs.length - 1) k 1 (rd xs 0) (by omega) (by omega)
  refine ⟨m, hm, ?_⟩
  rw [hm2]
  have e := drop_rd (xs := xs) (i := 0) h
  rw [List.drop_zero, cast0] at e
  conv => rhs; rw [e]
  simp
/-- Whether no stake is too small. -/
def SafeM (stakes : List Int) (list : List S56) : Prop := OkStakes stakes ∧ OkLoans list (stakes.length : Int) ∧ ∀ j : Nat, j < stakes.length → rd (exposureM list (stakes.length : Int)) (j : Int) ≤ rd stakes (j : Int)
theorem safe_free {stakes : List Int} {list : List S56} (h : OkStakes stakes ∧ OkLoans list (stakes.length : Int)) : (∀ x ∈ freeM stakes list, 0 ≤ x) ↔ SafeM stakes list := by
  rw [freeM_rd h]
  constructor
  · intro h1
    refine ⟨h.1, h.2, fun j hj => ?_⟩
    have := h1 _ (List.mem_map.2 ⟨j, List.mem_range.2 hj, rfl⟩)
    omega
  · rintro ⟨-, -, h1⟩ x hx
    obtain ⟨j, hj, rfl⟩ := List.mem_map.1 hx
    have := h1 j (List.mem_range.1 hj)
    omega
theorem iSafe_spec (k : Nat) (stakes : List Int) (list : List S56) (hl : list.length ≤ 1048576) (hg : ∀ l ∈ list, l.f2.length ≤ 1048576) (hk : 1048700 < k) : ∃ c : Bool, impl_SafeLoans.f k stakes list = some c ∧ (c = true ↔ SafeM stakes list) := by
  unfold impl_SafeLoans.f
  rw [implFree_spec k stakes list hl hg hk, Option.bind_some]
  by_cases h : OkStakes stakes ∧ OkLoans list (stakes.length : Int)
  · have hlen : (freeM stakes list).length = stakes.length := by rw [freeM_rd h]; simp
    have h1 := h.1.1
    have h2 := h.1.2.1
    obtain ⟨m, hm, hm2⟩ := min_spec k (freeM stakes list) (by omega) (by omega) (by omega)
    rw [if_pos (by omega), hm, Option.bind_some]
    refine ⟨_, rfl, ?_⟩
    rw [decide_eq_true_iff, ← safe_free h, ← hm2]
  · rw [freeM_neg h, if_neg (by simp)]
    exact ⟨false, rfl, fun h1 => (by cases h1), fun h1 => absurd ⟨h1.1, h1.2.1⟩ h⟩
theorem sSafe_spec (k : Nat) (stakes : List Int) (list : List S56) (hl : list.length ≤ 1048576) (hg : ∀ l ∈ list, l.f2.length ≤ 1048576) (hk : 3145800 < k) : ∃ c : Bool, spec_SafeLoans.f k stakes list = some c ∧ (c = true ↔ SafeM stakes list) := by
  unfold spec_SafeLoans.f
  rw [specStakes_spec k stakes (by omega), Option.bind_some]
  by_cases h1 : OkStakes stakes
  · rw [decide_eq_true h1, if_pos rfl, specValidLoans_spec k list _ hl hg hk, Option.bind_some]
    by_cases h2 : OkLoans list (stakes.length : Int)
    · rw [decide_eq_true h2, if_pos rfl]
      unfold spec_safe.f
      have hlen : (freeM stakes list).length = stakes.length := by rw [freeM_rd ⟨h1, h2⟩]; simp
      have h3 := h1.2.1
      rw [specFree_inner k stakes list h1 h2 (by omega), Option.bind_some, allIn_spec _ _ _ _ (by omega) (by omega), Option.bind_some, Option.bind_some]
      refine ⟨_, rfl, ?_⟩
      rw [List.all_eq_true, ← safe_free ⟨h1, h2⟩]
      constructor
      · intro h x hx; have := h x hx; simp at this; exact this.1
      · intro h x hx
        have hx0 := h x hx
        rw [freeM_rd ⟨h1, h2⟩] at hx
        obtain ⟨j, hj, rfl⟩ := List.mem_map.1 hx
        have e1 := exposureM_bound h2 (j : Int)
        have e2 := h1.2.2 _ (rd_mem (xs := stakes) (List.mem_range.1 hj))
        have e3 : 0 ≤ rd stakes (j : Int) - rd (exposureM list (stakes.length : Int)) (j : Int) ∧ rd stakes (j : Int) - rd (exposureM list (stakes.length : Int)) (j : Int) ≤ 100000 := by omega
        exact decide_eq_true e3
    · rw [decide_eq_false h2, if_neg (by simp)]
      exact ⟨false, rfl, fun h => (by cases h), fun h => absurd h.2.1 h2⟩
  · rw [decide_eq_false h1, if_neg (by simp)]
    exact ⟨false, rfl, fun h => (by cases h), fun h => absurd h.1 h1⟩

/-! ### copyints -/
theorem copyInts_spec (l : List Int) (hl : l.length ≤ 1000000) : spec_copyInts.f l = some l := by
  unfold spec_copyInts.f
  simp only [Option.bind_some]
  rw [if_pos (by simp; omega)]; simp

/-! ### fail -/
/-- What is taken of the guards, and what is lost. -/
def failM : List Int → List Int → List Int → List Int × Int
  | xs, g :: gs, p :: ps =>
    let r := failM (xs.set g.toNat (rd xs g - min (rd xs g) p)) gs ps
    (r.1, (p - min (rd xs g) p) + r.2)
  | xs, _, _ => (xs, 0)
structure OkX (n : Nat) (xs : List Int) : Prop where
  len : xs.length = n
  val : ∀ x ∈ xs, 0 ≤ x ∧ x ≤ 100000
theorem OkX.at {n : Nat} {xs : List Int} (h : OkX n xs) {g : Int} (h0 : 0 ≤ g) (h1 : g < (n : Int)) : 0 ≤ rd xs g ∧ rd xs g ≤ 100000 := h.val _ (rd_mem' h0 (by rw [h.len]; exact h1))
theorem OkX.take {n : Nat} {xs : List Int} (h : OkX n xs) {g p : Int} (h0 : 0 ≤ g) (h1 : g < (n : Int)) (hp : 0 ≤ p) : OkX n (xs.set g.toNat (rd xs g - min (rd xs g) p)) := by
  have h2 := h.at h0 h1
  refine ⟨by simpa using h.len, fun x hx => ?_⟩
  rcases List.mem_or_eq_of_mem_set hx with h5 | h5
  · exact h.val x h5
  · rw [h5]; omega
theorem rd_set_int {xs : List Int} {g : Int} {j : Nat} {v : Int} (h0 : 0 ≤ g) (hj : j < xs.length) : rd (xs.set g.toNat v) (j : Int) = if g = (j : Int) then v else rd xs (j : Int) := by
  rw [rd_set hj]
  by_cases e : g = (j : Int)
  · rw [if_pos e, if_pos (by omega)]
  · rw [if_neg e, if_neg (by omega)]
theorem sum_set_int {xs : List Int} {g : Int} {v : Int} (h0 : 0 ≤ g) (h1 : g < (xs.length : Int)) : (xs.set g.toNat v).sum = xs.sum - rd xs g + v := by
  have := sum_set xs g.toNat v (by omega)
  rwa [Int.toNat_of_nonneg h0] at this
theorem failM_facts (n : Nat) : ∀ (gs ps xs : List Int), OkX n xs → gs.length = ps.length → (∀ g ∈ gs, 0 ≤ g ∧ g < (n : Int)) → (∀ p ∈ ps, 0 ≤ p) →
    OkX n (failM xs gs ps).1 ∧ 0 ≤ (failM xs gs ps).2 ∧ xs.sum - (failM xs gs ps).1.sum + (failM xs gs ps).2 = ps.sum ∧
    (∀ j : Nat, j < n → rd (failM xs gs ps).1 (j : Int) ≤ rd xs (j : Int) ∧ ((j : Int) ∉ gs → rd (failM xs gs ps).1 (j : Int) = rd xs (j : Int))) ∧ ((∀ p ∈ ps, p = 0) → (failM xs gs ps).2 = 0) := by
  intro gs
  induction gs with
  | nil =>
    intro ps xs h1 h2 h3 h4
    cases ps with
    | nil => simp only [failM]; exact ⟨h1, by simp, by simp, fun j _ => ⟨Int.le_refl _, fun _ => by trivial⟩, fun _ => by trivial⟩
    | cons p ps => simp at h2
  | cons g gs ih =>
    intro ps xs h1 h2 h3 h4
    cases ps with
    | nil => simp at h2
    | cons p ps =>
      have hg := h3 g (by simp)
      have hp := h4 p (by simp)
      have hx := h1.at hg.1 hg.2
      obtain ⟨a1, a2, a3, a4, a5⟩ := ih ps _ (h1.take hg.1 hg.2 hp) (by simpa using h2) (fun q hq => h3 q (by simp [hq])) (fun q hq => h4 q (by simp [hq]))
      simp only [failM]
      refine ⟨a1, by omega, ?_, fun j hj => ?_, fun hz => ?_⟩
      · rw [sum_set_int hg.1 (by rw [h1.len]; exact hg.2)] at a3
        rw [List.sum_cons]; omega
      · obtain ⟨b1, b2⟩ := a4 j hj
        rw [rd_set_int hg.1 (by rw [h1.len]; exact hj)] at b1 b2
        by_cases e : g = (j : Int)
        · rw [if_pos e] at b1
          refine ⟨by rw [← e] at b1 ⊢; omega, fun hn => absurd (by rw [e]; simp) hn⟩
        · rw [if_neg e] at b1 b2
          exact ⟨b1, fun hn => b2 (fun hm => hn (by simp [hm]))⟩
      · have e0 := hz p (by simp)
        rw [a5 (fun q hq => hz q (by simp [hq])), e0]
        omega
theorem takeFrom_spec {n : Nat} {xs : List Int} (h : OkX n xs) {g p : Int} (h0 : 0 ≤ g) (h1 : g < (n : Int)) (hp : 0 ≤ p) (hp2 : p ≤ 1000000) : impl_takeFrom.f xs g p = some (p - min (rd xs g) p, xs.set g.toNat (rd xs g - min (rd xs g) p)) := by
  have h2 := h.at h0 h1
  unfold impl_takeFrom.f
  rw [if_pos h0, if_pos (by rw [h.len]; exact h1), mn_min, wrap_id (by omega) (by omega), wrap_id (by omega) (by omega)]
theorem implFail_l0 (n : Nat) (gs ps : List Int) (b am : Int) (hl : gs.length = ps.length) (hn : ps.length ≤ 12) (hg : ∀ g ∈ gs, 0 ≤ g ∧ g < (n : Int)) (hp : ∀ p ∈ ps, 0 ≤ p ∧ p ≤ 100000) :
    ∀ (d k i : Nat) (xs un : List Int) (loss : Int), i + d = ps.length → un.length ≤ i → 0 ≤ loss → loss + (d : Int) * 100000 ≤ 1200000 → OkX n xs → d < k →
    ∃ un', impl_failOne.l0 k xs loss un ps (ps.length : Int) (i : Int) b am gs = some (loss + (failM xs (gs.drop i) (ps.drop i)).2, un', (failM xs (gs.drop i) (ps.drop i)).1) := by
  intro d
  induction d with
  | zero =>
    intro k i xs un loss hi hu h0 h1 hx hk
    obtain ⟨k, rfl, -⟩ := fuel hk
    simp only [impl_failOne.l0]
    rw [if_neg (by omega), drop_end (by omega), drop_end (by omega)]
    exact ⟨un, by simp [failM]⟩
  | succ d ih =>
    intro k i xs un loss hi hu h0 h1 hx hk
    obtain ⟨k, rfl, hk⟩ := fuel hk
    have hgi := hg _ (rd_mem (xs := gs) (i := i) (by omega))
    have hpi := hp _ (rd_mem (xs := ps) (i := i) (by omega))
    have hxi := hx.at hgi.1 hgi.2
    simp only [impl_failOne.l0]
    rw [if_pos (by omega), if_pos (by omega), if_pos (by omega), if_pos (by omega), takeFrom_spec hx hgi.1 hgi.2 hpi.1 (by omega), Option.bind_some, wrap_succ (by omega), drop_rd (xs := gs) (i := i) (by omega), drop_rd (xs := ps) (i := i) (by omega)]
    simp only [failM]
    by_cases h : rd ps (i : Int) - min (rd xs (rd gs (i : Int))) (rd ps (i : Int)) > 0
    · rw [if_pos h, if_pos (by omega), wrap_id (by omega) (by omega)]
      obtain ⟨un', hu'⟩ := ih k (i + 1) _ (un ++ [rd gs (i : Int)]) (loss + (rd ps (i : Int) - min (rd xs (rd gs (i : Int))) (rd ps (i : Int)))) (by omega) (by simp; omega) (by omega) (by omega) (hx.take hgi.1 hgi.2 hpi.1) (by omega)
      exact ⟨un', by rw [hu', Int.add_assoc]⟩
    · rw [if_neg h]
      obtain ⟨un', hu'⟩ := ih k (i + 1) _ un loss (by omega) (by omega) (by omega) (by omega) (hx.take hgi.1 hgi.2 hpi.1) (by omega)
      refine ⟨un', ?_⟩
      rw [hu']
      congr 2
      omega
/-- A loan that fails: the stakes after it, and what is lost. -/
def failLoanM (xs : List Int) (b am : Int) (gs : List Int) : List Int × Int :=
  failM (xs.set b.toNat (rd xs b - min (rd xs b) am)) gs (splitM (am - min (rd xs b) am) gs.length)
theorem parts_ok {left : Int} {m : Nat} (h0 : 0 ≤ left) (h1 : left ≤ 100000) (hm : 0 < m) : ∀ p ∈ splitM left m, 0 ≤ p ∧ p ≤ 100000 := by
  intro p hp
  have := splitM_bound hm h0 p hp
  omega
theorem implFailOne_spec (n : Nat) (xs : List Int) (hx : OkX n xs) (l : S56) (hl : OkLoan l (n : Int)) (hn : n ≤ 12) (k : Nat) (hk : 30 < k) : ∃ un, impl_failOne.f k xs l.f0 l.f1 l.f2 = some ((failLoanM xs l.f0 l.f1 l.f2).2, un, (failLoanM xs l.f0 l.f1 l.f2).1) := by
  obtain ⟨b0, b1, a0, a1, g1, gm, gn⟩ := hl
  have hgl := gm.le
  have hxb := hx.at b0 b1
  unfold impl_failOne.f failLoanM
  rw [takeFrom_spec hx b0 b1 (by omega) (by omega), Option.bind_some, implSplit_spec _ (by omega), if_pos ⟨by omega, by omega, by omega, by omega⟩, Option.bind_some, Int.toNat_natCast]
  have hpl : (splitM (l.f1 - min (rd xs l.f0) l.f1) l.f2.length).length = l.f2.length := splitM_length _ _
  obtain ⟨un, hu⟩ := implFail_l0 n l.f2 (splitM (l.f1 - min (rd xs l.f0) l.f1) l.f2.length) l.f0 l.f1 hpl.symm (by omega) gm.2 (parts_ok (by omega) (by omega) (by omega)) l.f2.length k 0 _ [] 0 (by omega) (by simp) (by omega) (by omega) (hx.take (p := l.f1) b0 b1 (by omega)) (by omega)
  refine ⟨un, ?_⟩
  rw [List.drop_zero, List.drop_zero] at hu
  simpa using hu
theorem failLoan_facts (n : Nat) (xs : List Int) (hx : OkX n xs) (l : S56) (hl : OkLoan l (n : Int)) (hn : n ≤ 12) :
    OkX n (failLoanM xs l.f0 l.f1 l.f2).1 ∧ 0 ≤ (failLoanM xs l.f0 l.f1 l.f2).2 ∧ xs.sum - (failLoanM xs l.f0 l.f1 l.f2).1.sum + (failLoanM xs l.f0 l.f1 l.f2).2 = l.f1 ∧
    (∀ j : Nat, j < n → rd (failLoanM xs l.f0 l.f1 l.f2).1 (j : Int) ≤ rd xs (j : Int) ∧ ((j : Int) ∉ l.f2 → (j : Int) ≠ l.f0 → rd (failLoanM xs l.f0 l.f1 l.f2).1 (j : Int) = rd xs (j : Int))) ∧ (l.f1 ≤ rd xs l.f0 → (failLoanM xs l.f0 l.f1 l.f2).2 = 0) := by
  obtain ⟨b0, b1, a0, a1, g1, gm, gn⟩ := hl
  have hxb := hx.at b0 b1
  have hxl := hx.len
  unfold failLoanM
  obtain ⟨c1, c2, c3, c4, c5⟩ := failM_facts n l.f2 (splitM (l.f1 - min (rd xs l.f0) l.f1) l.f2.length) _ (hx.take (p := l.f1) b0 b1 (by omega)) (by rw [splitM_length]) gm.2 (fun p hp => (parts_ok (by omega) (by omega) (by omega) p hp).1)
  rw [sum_set_int b0 (by omega), splitM_sum (by omega)] at c3
  refine ⟨c1, c2, by omega, fun j hj => ?_, fun hle => c5 (fun p hp => ?_)⟩
  · obtain ⟨d1, d2⟩ := c4 j hj
    rw [rd_set_int b0 (by omega)] at d1 d2
    by_cases e : l.f0 = (j : Int)
    · rw [if_pos e] at d1
      refine ⟨by rw [← e] at d1 ⊢; omega, fun _ hne => absurd e.symm hne⟩
    · rw [if_neg e] at d1 d2
      exact ⟨d1, fun hng _ => d2 hng⟩
  · have := splitM_bound (g := l.f1 - min (rd xs l.f0) l.f1) (m := l.f2.length) (by omega) (by omega) p hp
    omega

/-! ### safedrop -/
/-- What one answers for of one loan's parts. -/
def cp : List Int → List Int → Int → Int
  | g :: gs, p :: ps, x => (if g = x then p else 0) + cp gs ps x
  | _, _, _ => 0
theorem cp_nonneg : ∀ (gs ps : List Int) (x : Int), (∀ p ∈ ps, 0 ≤ p) → 0 ≤ cp gs ps x := by
  intro gs
  induction gs with
  | nil => intro ps x _; simp [cp]
  | cons g gs ih =>
    intro ps x hp
    cases ps with
    | nil => simp [cp]
    | cons p ps =>
      simp only [cp]
      have := ih ps x (fun q hq => hp q (by simp [hq]))
      have := hp p (by simp)
      split <;> omega
theorem cp_mem : ∀ (gs ps : List Int) (g p : Int), (∀ p ∈ ps, 0 ≤ p) → (g, p) ∈ gs.zip ps → p ≤ cp gs ps g := by
  intro gs
  induction gs with
  | nil => intro ps g p _ h; simp at h
  | cons g0 gs ih =>
    intro ps g p hp h
    cases ps with
    | nil => simp at h
    | cons p0 ps =>
      simp only [List.zip_cons_cons, List.mem_cons, Prod.mk.injEq] at h
      simp only [cp]
      have h0 := hp p0 (by simp)
      have hn := cp_nonneg gs ps g (fun q hq => hp q (by simp [hq]))
      rcases h with ⟨rfl, rfl⟩ | h
      · rw [if_pos rfl]; omega
      · have := ih ps g p (fun q hq => hp q (by simp [hq])) h
        split <;> omega
theorem addParts_rd (n : Nat) : ∀ (gs ps ex : List Int) (B : Int), ex.length = n → (∀ g ∈ gs, 0 ≤ g ∧ g < (n : Int)) → (∀ x ∈ ex, 0 ≤ x ∧ x ≤ B) → (∀ p ∈ ps, 0 ≤ p ∧ p ≤ 100001) → 0 ≤ B → B + 100001 * (gs.length : Int) ≤ 4000000000000000000 → ∀ j : Nat, j < n → rd (addParts ex gs ps) (j : Int) = rd ex (j : Int) + cp gs ps (j : Int) := by
  intro gs
  induction gs with
  | nil => intro ps ex B _ _ _ _ _ _ j _; simp [addParts, cp]
  | cons g gs ih =>
    intro ps ex B hl hg hx hp hB hb j hj
    rw [List.length_cons] at hb
    cases ps with
    | nil => simp [addParts, cp]
    | cons p ps =>
      simp only [addParts, cp]
      have hgg := hg g (by simp)
      have hr := rd_in hx hB g
      have hpp := hp p (by simp)
      have hw : wrap64 (rd ex g + p) = rd ex g + p := wrap_id (by omega) (by omega)
      rw [hw]
      rw [ih ps _ (B + 100001) (by simpa using hl) (fun q hq => hg q (by simp [hq])) (fun y hy => ?_) (fun q hq => hp q (by simp [hq])) (by omega) (by omega) j hj, rd_set_int hgg.1 (by omega)]
      · by_cases e : g = (j : Int)
        · rw [if_pos e, if_pos e, e]; omega
        · rw [if_neg e, if_neg e]; omega
      · rcases List.mem_or_eq_of_mem_set hy with h | h
        · have := hx y h; omega
        · rw [h]; omega
/-- What one answers for. -/
def ce : List S56 → Int → Int
  | [], _ => 0
  | l :: ls, x => cp l.f2 (splitM l.f1 l.f2.length) x + ce ls x
theorem ce_append (a b : List S56) (x : Int) : ce (a ++ b) x = ce a x + ce b x := by
  induction a with
  | nil => simp [ce]
  | cons l a ih => simp only [List.cons_append, ce, ih]; omega
theorem expoM_rd (n : Nat) (hn : 1 ≤ n) (hn2 : n ≤ 12) : ∀ (ls : List S56) (ex : List Int) (B : Int), (∀ l ∈ ls, OkLoan l (n : Int)) → ex.length = n → (∀ x ∈ ex, 0 ≤ x ∧ x ≤ B) → 0 ≤ B → B + 1300000 * (ls.length : Int) ≤ 1000000000 → ∀ j : Nat, j < n → rd (expoM ls ex) (j : Int) = rd ex (j : Int) + ce ls (j : Int) := by
  intro ls
  induction ls with
  | nil => intro ex B _ _ _ _ _ j _; simp [expoM, ce]
  | cons l ls ih =>
    intro ex B hl hle hx hB hb j hj
    rw [List.length_cons] at hb
    simp only [expoM, ce]
    have hok := hl l (by simp)
    have hg := guards_le hok.2.2.2.2.2.1 (by omega) (by omega)
    have hpb := partsB l.f2.length (show 0 ≤ l.f1 by have := hok.2.2.1; omega) hok.2.2.2.1
    have h1 := addParts_bound l.f2 (splitM l.f1 l.f2.length) ex B hx hpb hB (by omega)
    rw [ih _ (B + 1300000) (fun y hy => hl y (by simp [hy])) (by rw [addParts_length]; exact hle) (fun y hy => by have := h1 y hy; omega) (by omega) (by omega) j hj, addParts_rd n _ _ _ B hle hok.2.2.2.2.2.1.2 hx hpb hB (by omega) j hj]
    omega
theorem exposureM_ce {list : List S56} {n : Nat} (h : OkLoans list (n : Int)) {j : Nat} (hj : j < n) : rd (exposureM list (n : Int)) (j : Int) = ce list (j : Int) := by
  obtain ⟨h1, h2, h3, h4⟩ := id h
  rw [exposureM_pos h, Int.toNat_natCast]
  rw [expoM_rd n (by omega) (by omega) list (List.replicate n 0) 0 h4 (by simp) (fun x hx => by rw [(List.mem_replicate.1 hx).2]; omega) (by omega) (by omega) j hj, rd_replicate hj]
  omega
theorem cp_loan_nonneg {l : S56} {n : Int} (h : OkLoan l n) (x : Int) : 0 ≤ cp l.f2 (splitM l.f1 l.f2.length) x :=
  cp_nonneg _ _ _ (fun p hp => (partsB l.f2.length (show 0 ≤ l.f1 by have := h.2.2.1; omega) h.2.2.2.1 p hp).1)
/-- The loans without one. -/
def dropM (ls : List S56) (i : Nat) : List S56 := ls.take i ++ ls.drop (i + 1)
theorem drop_mem {ls : List S56} {i : Nat} {l : S56} (h : l ∈ dropM ls i) : l ∈ ls := by
  rcases List.mem_append.1 h with h | h
  · exact List.mem_of_mem_take h
  · exact List.mem_of_mem_drop h
theorem safe_drop {ss : List Int} {ls : List S56} (h : SafeM ss ls) {i : Nat} (hi : i < ls.length) : SafeM ss (dropM ls i) ∧ ∀ j : Nat, j < ss.length → cp (ls[i]).f2 (splitM (ls[i]).f1 (ls[i]).f2.length) (j : Int) ≤ rd ss (j : Int) := by
  obtain ⟨h1, h2, h3⟩ := h
  obtain ⟨a1, a2, a3, a4⟩ := id h2
  have hsplit : ls = ls.take i ++ (ls[i] :: ls.drop (i + 1)) := by rw [← List.drop_eq_getElem_cons hi, List.take_append_drop]
  have hlen : (dropM ls i).length ≤ ls.length := by unfold dropM; simp; omega
  have hok : OkLoans (dropM ls i) (ss.length : Int) := ⟨by omega, a2, a3, fun l hl => a4 l (drop_mem hl)⟩
  have hn : ∀ x, 0 ≤ ce (dropM ls i) x := by
    intro x
    have : ∀ (q : List S56), (∀ l ∈ q, OkLoan l (ss.length : Int)) → 0 ≤ ce q x := by
      intro q
      induction q with
      | nil => intro _; simp [ce]
      | cons l q ih => intro hq; simp only [ce]; have := ih (fun y hy => hq y (by simp [hy])); have := cp_loan_nonneg (hq l (by simp)) x; omega
    exact this _ hok.2.2.2
  have e : ∀ x, ce ls x = ce (dropM ls i) x + cp (ls[i]).f2 (splitM (ls[i]).f1 (ls[i]).f2.length) x := by
    intro x
    conv => lhs; rw [hsplit]
    unfold dropM
    rw [ce_append, ce_append]
    simp only [ce]; omega
  refine ⟨⟨h1, hok, fun j hj => ?_⟩, fun j hj => ?_⟩
  · have q := h3 j hj
    rw [exposureM_ce h2 hj, e] at q
    rw [exposureM_ce hok hj]
    have := cp_loan_nonneg (a4 _ (List.getElem_mem hi)) (j : Int)
    omega
  · have q := h3 j hj
    rw [exposureM_ce h2 hj, e] at q
    have := hn (j : Int)
    omega
theorem failM_zero (n : Nat) : ∀ (gs ps xs : List Int), xs.length = n → gs.Nodup → (∀ g ∈ gs, 0 ≤ g ∧ g < (n : Int)) → (∀ q ∈ gs.zip ps, q.2 ≤ rd xs q.1) → (failM xs gs ps).2 = 0 := by
  intro gs
  induction gs with
  | nil => intro ps xs _ _ _ _; cases ps <;> simp [failM]
  | cons g gs ih =>
    intro ps xs hl hd hg hq
    cases ps with
    | nil => simp [failM]
    | cons p ps =>
      rw [List.nodup_cons] at hd
      have h1 := hq (g, p) (by simp)
      simp only at h1
      have hgg := hg g (by simp)
      simp only [failM]
      rw [ih ps _ (by simpa using hl) hd.2 (fun q hq => hg q (by simp [hq])) (fun q hq2 => ?_), Int.min_eq_right h1]
      · omega
      · have h2 := hq q (by simp [hq2])
        have hqm : q.1 ∈ gs := (List.of_mem_zip (show (q.1, q.2) ∈ gs.zip ps from hq2)).1
        have hq1 := hg q.1 (by simp [hqm])
        have hne : g ≠ q.1 := fun e => hd.1 (e ▸ hqm)
        obtain ⟨m, hm⟩ := Int.eq_ofNat_of_zero_le hq1.1
        rw [hm] at h2 hne hq1 ⊢
        rw [rd_set_int hgg.1 (by omega), if_neg hne]
        exact h2
theorem splitM_mono {a b : Int} {m i : Nat} (ha : 0 ≤ a) (hab : a ≤ b) (hm : 0 < m) (hi : i < m) : rd (splitM a m) (i : Int) ≤ rd (splitM b m) (i : Int) := by
  rw [splitM_rd hi, splitM_rd hi]
  have h1 : a / (m : Int) ≤ b / (m : Int) := Int.ediv_le_ediv (by omega) hab
  by_cases e : a / (m : Int) = b / (m : Int)
  · have e1 := Int.emod_def a (m : Int)
    have e2 := Int.emod_def b (m : Int)
    rw [e] at e1
    rw [e]
    split <;> split <;> omega
  · split <;> split <;> omega
theorem failLoan_zero {n : Nat} {xs : List Int} (hx : OkX n xs) {l : S56} (hl : OkLoan l (n : Int)) (h : ∀ j : Nat, j < n → cp l.f2 (splitM l.f1 l.f2.length) (j : Int) ≤ rd xs (j : Int)) : (failLoanM xs l.f0 l.f1 l.f2).2 = 0 := by
  obtain ⟨b0, b1, c1, c2, d1, ⟨d2, d3⟩, d4⟩ := hl
  have hb := hx.at b0 b1
  unfold failLoanM
  refine failM_zero n _ _ _ (by simpa using hx.len) d2 d3 (fun q hq => ?_)
  obtain ⟨j, hj, he⟩ := List.getElem_of_mem hq
  have hjl : j < l.f2.length := by rw [List.length_zip] at hj; omega
  have e1 : q.1 = l.f2[j] := by rw [← he]; simp
  have e2 : q.2 = rd (splitM (l.f1 - min (rd xs l.f0) l.f1) l.f2.length) (j : Int) := by
    rw [← he, rd_get (by rw [splitM_length]; exact hjl)]; simp
  have hm := splitM_mono (a := l.f1 - min (rd xs l.f0) l.f1) (b := l.f1) (m := l.f2.length) (i := j) (by omega) (by omega) (by omega) hjl
  have hg := d3 _ (List.getElem_mem hjl)
  have hne : l.f0 ≠ l.f2[j] := fun e => d4 (e ▸ List.getElem_mem hjl)
  have hcp := cp_mem l.f2 (splitM l.f1 l.f2.length) (l.f2[j]) (rd (splitM l.f1 l.f2.length) (j : Int)) (fun p hp => (partsB l.f2.length (by omega) c2 p hp).1) (by
    rw [rd_get (by rw [splitM_length]; exact hjl)]
    have : (l.f2.zip (splitM l.f1 l.f2.length))[j]'(by rw [List.length_zip, splitM_length]; omega) = (l.f2[j], (splitM l.f1 l.f2.length)[j]'(by rw [splitM_length]; exact hjl)) := by simp
    rw [← this]
    exact List.getElem_mem _)
  rw [e1, e2]
  obtain ⟨m, hm2⟩ := Int.eq_ofNat_of_zero_le hg.1
  rw [hm2] at hcp hne hg ⊢
  have hh := h m (by omega)
  rw [rd_set_int b0 (by rw [hx.len]; omega), if_neg hne]
  omega

/-! ### failloan -/
theorem OkStakes.okx {xs : List Int} (h : OkStakes xs) : OkX xs.length xs := ⟨rfl, h.2.2⟩
/-- The stakes after a loan has failed, and what is lost. -/
def failLM (ss : List Int) (ls : List S56) (i : Int) : List Int × Int :=
  if OkStakes ss ∧ OkLoans ls (ss.length : Int) ∧ 0 ≤ i ∧ i < (ls.length : Int) then failLoanM ss (rd_T56 ls i).f0 (rd_T56 ls i).f1 (rd_T56 ls i).f2 else ([], -1)
theorem failLM_neg {ss : List Int} {ls : List S56} {i : Int} (h : ¬ (OkStakes ss ∧ OkLoans ls (ss.length : Int) ∧ 0 ≤ i ∧ i < (ls.length : Int))) : failLM ss ls i = ([], -1) := if_neg h
theorem failLM_pos {ss : List Int} {ls : List S56} {i : Int} (h : OkStakes ss ∧ OkLoans ls (ss.length : Int) ∧ 0 ≤ i ∧ i < (ls.length : Int)) : failLM ss ls i = failLoanM ss (rd_T56 ls i).f0 (rd_T56 ls i).f1 (rd_T56 ls i).f2 := if_pos h
theorem loanL_at {ls : List S56} {n i : Int} (h : OkLoans ls n) (h0 : 0 ≤ i) (h1 : i < (ls.length : Int)) : OkLoan (rd_T56 ls i) n := by
  obtain ⟨i, rfl⟩ := Int.eq_ofNat_of_zero_le h0
  exact h.2.2.2 _ (rdT_mem (by omega))
theorem clone_spec (l : List Int) (h : l.length ≤ 1000) : slices_Clone_int_int.f l = some l := by
  unfold slices_Clone_int_int.f
  simp
  omega
theorem implFailLoan_spec (k : Nat) (ss : List Int) (ls : List S56) (i : Int) (hl : ls.length ≤ 1048576) (hg : ∀ l ∈ ls, l.f2.length ≤ 1048576) (hk : 1048700 < k) : impl_FailLoan.f k ss ls i = some (failLM ss ls i) := by
  unfold impl_FailLoan.f
  rw [implStakes_spec k ss (by omega), Option.bind_some]
  obtain ⟨k, rfl, hk'⟩ := fuel hk
  simp only [impl_FailLoan.j0, if_true]
  by_cases h1 : OkStakes ss
  · rw [decide_eq_true h1, if_pos rfl, implValidLoans_spec _ ls _ hl hg (by omega), Option.bind_some]
    by_cases h2 : OkLoans ls (ss.length : Int)
    · rw [decide_eq_true h2, if_pos rfl]
      by_cases h3 : i < 0
      · rw [if_pos h3, failLM_neg (by omega)]
      · rw [if_neg h3]
        by_cases h4 : i ≥ (ls.length : Int)
        · rw [decide_eq_true h4, if_pos rfl, failLM_neg (by omega)]
        · have hn := h1.2.1
          have h5 := h2.1
          obtain ⟨un, hu⟩ := implFailOne_spec ss.length ss h1.okx _ (loanL_at h2 (show 0 ≤ i by omega) (by omega)) hn k (by omega)
          rw [decide_eq_false h4, if_neg (by decide), clone_spec _ (by omega), Option.bind_some, if_pos (by omega), if_pos (by omega), hu, Option.bind_some, failLM_pos ⟨h1, h2, by omega, by omega⟩]
    · rw [decide_eq_false h2, if_neg (by decide), failLM_neg (fun h => h2 h.2.1)]
  · rw [decide_eq_false h1, if_neg (by decide), failLM_neg (fun h => h1 h.1)]
/-! ### reader -/
/-- A pick: a number below the bound (0 where there is none), one place on. -/
theorem pick_spec (k : Nat) (hk : 1 ≤ k) (b : List Int) (hb : ∀ x ∈ b, 0 ≤ x ∧ x ≤ 255) (hl : b.length ≤ 2000) (p : Int) (hp0 : 0 ≤ p) (hp : p ≤ 1000000) (n : Int) (hn : n ≤ 1000000000000) :
    ∃ v, spec_reader_pick.f k b p n = some (v, p + 1) ∧ 0 ≤ v ∧ (0 < n → v < n) ∧ (n ≤ 0 → v = 0) := by
  obtain ⟨k, rfl, -⟩ := fuel hk
  have hw : wrap64 (p + 1) = p + 1 := wrap_succ' hp0 (by omega)
  have hw2 : wrap64 (p + 1 - 1) = p := by rw [wrap_id (by omega) (by omega)]; omega
  unfold spec_reader_pick.f
  rw [hw]
  by_cases h1 : n < 1
  · rw [if_pos h1]
    exact ⟨0, by simp [spec_reader_pick.j0], by omega, by omega, fun _ => rfl⟩
  · rw [if_neg h1]
    by_cases h2 : b.length = 0
    · have e : ((b.length : Int) == 0) = true := by simp [h2]
      rw [e]
      exact ⟨0, by simp [spec_reader_pick.j0], by omega, fun _ => by omega, fun _ => rfl⟩
    · have e : ((b.length : Int) == 0) = false := by rw [beq_eq_false_iff_ne]; omega
      rw [e]
      simp only [spec_reader_pick.j0]
      rw [if_neg (by decide), hw2]
      have rdb : ∀ i : Int, 0 ≤ i → i < (b.length : Int) → 0 ≤ rd b i ∧ rd b i ≤ 255 := fun i h0 h => hb _ (rd_mem' h0 h)
      by_cases h3 : p < (b.length : Int)
      · rw [if_pos h3, if_pos hp0, if_neg (by omega)]
        have hr := rdb p hp0 h3
        rw [wrap_id (x := rd b p) (by omega) (by omega), Int.tmod_eq_emod_of_nonneg hr.1]
        exact ⟨_, rfl, Int.emod_nonneg _ (by omega), fun _ => Int.emod_lt_of_pos _ (by omega), fun h => by omega⟩
      · have hL : (0 : Int) < (b.length : Int) := by omega
        have m1 := Int.emod_nonneg p (b := (b.length : Int)) (by omega)
        have m2 := Int.emod_lt_of_pos p hL
        have w7 : wrap64 (wrap64 (p * 7) + 3) = p * 7 + 3 := by rw [wrap_add_l, wrap_id (by omega) (by omega)]
        have m3 := Int.emod_nonneg (p * 7 + 3) (b := (b.length : Int)) (by omega)
        have m4 := Int.emod_lt_of_pos (p * 7 + 3) hL
        rw [if_neg h3, if_neg (by omega)]
        rw [w7]
        rw [Int.tmod_eq_emod_of_nonneg hp0, Int.tmod_eq_emod_of_nonneg (by omega : (0 : Int) ≤ p * 7 + 3)]
        rw [if_pos m1, if_pos m2, if_pos m3, if_pos m4, if_neg (by omega)]
        have r1 := rdb _ m1 m2
        have r2 := rdb _ m3 m4
        have hq : 0 ≤ Int.tdiv p (b.length : Int) ∧ Int.tdiv p (b.length : Int) ≤ p := by
          rw [Int.tdiv_eq_ediv_of_nonneg hp0]
          exact ⟨Int.ediv_nonneg hp0 (by omega), Int.ediv_le_self _ hp0⟩
        generalize rd b (p % (b.length : Int)) = x at *
        generalize rd b ((p * 7 + 3) % (b.length : Int)) = y at *
        generalize Int.tdiv p (b.length : Int) = q at *
        have hx : wrap64 x = x := wrap_id (by omega) (by omega)
        have hy : wrap64 y = y := wrap_id (by omega) (by omega)
        have hqq : wrap64 q = q := wrap_id (by omega) (by omega)
        rw [hx, hy, hqq]
        have e1 : wrap64 (x * 131) = x * 131 := wrap_id (by omega) (by omega)
        have e2 : wrap64 (y * 1117) = y * 1117 := wrap_id (by omega) (by omega)
        have e3 : wrap64 (p * 29) = p * 29 := wrap_id (by omega) (by omega)
        have e4 : wrap64 (q * 53) = q * 53 := wrap_id (by omega) (by omega)
        rw [e1, e2, e3, e4]
        have e5 : wrap64 (x * 131 + y * 1117) = x * 131 + y * 1117 := wrap_id (by omega) (by omega)
        rw [e5]
        have e6 : wrap64 (x * 131 + y * 1117 + p * 29) = x * 131 + y * 1117 + p * 29 := wrap_id (by omega) (by omega)
        rw [e6]
        have e7 : wrap64 (x * 131 + y * 1117 + p * 29 + q * 53) = x * 131 + y * 1117 + p * 29 + q * 53 := wrap_id (by omega) (by omega)
        rw [e7]
        have hz : 0 ≤ x * 131 + y * 1117 + p * 29 + q * 53 ∧ x * 131 + y * 1117 + p * 29 + q * 53 ≤ 1000000000 := by omega
        generalize x * 131 + y * 1117 + p * 29 + q * 53 = z at *
        have hz64 : 0 ≤ Int.tdiv z 64 ∧ Int.tdiv z 64 ≤ z := by
          rw [Int.tdiv_eq_ediv_of_nonneg hz.1]; omega
        rw [wrap_id (x := Int.tdiv z 64) (by omega) (by omega)]
        have hxor := bits_xor (a := z) (b := Int.tdiv z 64) hz.1 (by omega) hz64.1 (by omega)
        rw [Int.tmod_eq_emod_of_nonneg hxor.1]
        exact ⟨_, rfl, Int.emod_nonneg _ (by omega), fun _ => Int.emod_lt_of_pos _ (by omega), fun h => by omega⟩
/-- One of some numbers. -/
theorem one_spec (k : Nat) (hk : 1 ≤ k) (b : List Int) (hb : ∀ x ∈ b, 0 ≤ x ∧ x ≤ 255) (hl : b.length ≤ 2000) (p : Int) (hp0 : 0 ≤ p) (hp : p ≤ 1000000) (l : List Int) (hn0 : l ≠ []) (hn : l.length ≤ 1000000) :
    ∃ v, spec_reader_one.f k b p l = some (v, p + 1) ∧ v ∈ l := by
  have h0 : 0 < l.length := List.length_pos_iff.2 hn0
  obtain ⟨v, hv, h1, h2, -⟩ := pick_spec k hk b hb hl p hp0 hp (l.length : Int) (by omega)
  unfold spec_reader_one.f
  rw [hv]
  simp only [Option.bind_some]
  rw [if_pos h1, if_pos (h2 (by omega))]
  exact ⟨_, rfl, rd_mem' h1 (h2 (by omega))⟩
theorem reader_bytes {l : List Int} (h : ∀ x ∈ l, (Lit.int .u8 x).wf = true) : ∀ x ∈ l, 0 ≤ x ∧ x ≤ 255 := by
  intro x hx
  have := h x hx
  simp [Lit.wf, IntKind.min, IntKind.max, IntKind.bits, IntKind.signed] at this
  omega
/-- A reader of some code: its bytes. -/
theorem newReader_spec (l : List Int) (h : ∀ x ∈ l, 0 ≤ x ∧ x ≤ 255) : ∃ b : List Int, spec_newReader.f l = some (b, 0) ∧ (∀ x ∈ b, 0 ≤ x ∧ x ≤ 255) ∧ b.length ≤ 2000 := by
  unfold spec_newReader.f
  by_cases h1 : (l.length : Int) > 2000
  · rw [if_pos h1, if_pos (by omega)]
    exact ⟨_, rfl, fun x hx => h x (List.mem_of_mem_take hx), by simp; omega⟩
  · rw [if_neg h1]
    exact ⟨_, rfl, h, by omega⟩

/-! ### drawloans -/
/-- A loan of few guards. -/
def SmallL (l : S56) : Prop := l.f2.length ≤ 40
def Small13 (l : S56) : Prop := l.f2.length ≤ 13
def SmallLs (ls : List S56) : Prop := ls.length ≤ 6 ∧ ∀ l ∈ ls, SmallL l
def SmallLs13 (ls : List S56) : Prop := ls.length ≤ 6 ∧ ∀ l ∈ ls, Small13 l
theorem SmallLs13.up {ls : List S56} (h : SmallLs13 ls) : SmallLs ls := ⟨h.1, fun l hl => by have := h.2 l hl; unfold Small13 at this; unfold SmallL; omega⟩
theorem someLoans_l1 (b : List Int) (hb : ∀ x ∈ b, 0 ≤ x ∧ x ≤ 255) (hl : b.length ≤ 2000) (m : Nat) (hm : 1 ≤ m) (hm2 : m ≤ 13) (bo am n : Int) (acc : List S56) (hacc : acc.length ≤ 100) (R : (List S56) × Int → Prop) (p0 B : Int) (hp0 : 0 ≤ p0) (hB : B ≤ 100000) (K : Nat)
    (cont : ∀ (l : S56) (p' : Int) (k' : Nat), Small13 l → p0 ≤ p' → p' ≤ B → K ≤ k' → ∃ r, spec_someLoans.l0 k' (m : Int) (acc ++ [l]) (wrap64 (n - 1)) b p' = some r ∧ R r) :
    ∀ (d k i : Nat) (g : List Int) (p : Int), i + d = m → g.length ≤ i → p0 ≤ p → p + d ≤ B → K + d + 1 < k → ∃ r, spec_someLoans.l1 k (m : Int) acc n (i : Int) b p bo am g = some r ∧ R r := by
  intro d
  induction d with
  | zero =>
    intro k i g p hi hg h0 h1 hk
    obtain ⟨k, rfl, hk⟩ := fuel hk
    simp only [spec_someLoans.l1]
    rw [if_neg (by omega)]
    by_cases h2 : (g.length : Int) = 0
    · rw [if_pos h2, if_neg (by omega), if_pos (by omega)]
      exact cont _ p k (by simp [Small13]) h0 (by omega) (by omega)
    · rw [if_neg h2, if_pos (by omega)]
      exact cont _ p k (by simp [Small13]; omega) h0 (by omega) (by omega)
  | succ d ih =>
    intro k i g p hi hg h0 h1 hk
    obtain ⟨k, rfl, hk⟩ := fuel hk
    simp only [spec_someLoans.l1]
    rw [if_pos (by omega), wrap_succ (by omega)]
    by_cases h2 : (i : Int) = bo
    · rw [if_pos h2]
      exact ih k (i + 1) g p (by omega) (by omega) h0 (by omega) (by omega)
    · rw [if_neg h2]
      obtain ⟨v, hv, -⟩ := pick_spec k (by omega) b hb hl p (by omega) (by omega) 3 (by omega)
      rw [hv]
      simp only [Option.bind_some]
      by_cases h3 : v = 0
      · rw [if_pos h3, if_pos (by omega)]
        exact ih k (i + 1) (g ++ [(i : Int)]) (p + 1) (by omega) (by simp; omega) (by omega) (by omega) (by omega)
      · rw [if_neg h3]
        exact ih k (i + 1) g (p + 1) (by omega) (by omega) (by omega) (by omega) (by omega)
theorem someLoans_l0 (b : List Int) (hb : ∀ x ∈ b, 0 ≤ x ∧ x ≤ 255) (hl : b.length ≤ 2000) (m : Nat) (hm : 1 ≤ m) (hm2 : m ≤ 13) : ∀ (c k : Nat) (acc : List S56) (p : Int), acc.length + c ≤ 6 → (∀ l ∈ acc, Small13 l) → 0 ≤ p → p + 20 * c ≤ 50000 → 20 * c + 1 < k →
    ∃ r, spec_someLoans.l0 k (m : Int) acc (c : Int) b p = some r ∧ SmallLs13 r.1 ∧ p ≤ r.2 ∧ r.2 ≤ p + 20 * c := by
  intro c
  induction c with
  | zero =>
    intro k acc p h1 h2 h3 h4 hk
    obtain ⟨k, rfl, hk⟩ := fuel hk
    simp only [spec_someLoans.l0]
    rw [if_neg (by omega)]
    exact ⟨_, rfl, ⟨by simpa using h1, h2⟩, by simp, by simp⟩
  | succ c ih =>
    intro k acc p h1 h2 h3 h4 hk
    obtain ⟨k, rfl, hk⟩ := fuel hk
    simp only [spec_someLoans.l0]
    rw [if_pos (by omega)]
    obtain ⟨v, hv, -⟩ := pick_spec k (by omega) b hb hl p h3 (by omega) (m : Int) (by omega)
    rw [hv]
    simp only [Option.bind_some]
    obtain ⟨u, hu, -⟩ := pick_spec k (by omega) b hb hl (p + 1) (by omega) (by omega) 200 (by omega)
    rw [hu]
    simp only [Option.bind_some]
    obtain ⟨z, hz, -⟩ := one_spec k (by omega) b hb hl (p + 1 + 1) (by omega) (by omega) [100, 50, wrap64 (1 + u), 33] (by simp) (by simp)
    rw [hz]
    simp only [Option.bind_some]
    have e : wrap64 (((c + 1 : Nat) : Int) - 1) = (c : Int) := by rw [wrap_id (by omega) (by omega)]; omega
    have := someLoans_l1 b hb hl m hm hm2 v z ((c + 1 : Nat) : Int) acc (by omega) (fun r => SmallLs13 r.1 ∧ p ≤ r.2 ∧ r.2 ≤ p + 20 * (c + 1 : Nat)) (p + 1 + 1 + 1) (p + 20) (by omega) (by omega) (20 * c + 2)
      (fun l p' k' hsl hp1 hp2 hk' => by
        rw [e]
        obtain ⟨r, hr, h5, h6, h7⟩ := ih k' (acc ++ [l]) p' (by simp; omega) (fun x hx => by
          rcases List.mem_append.1 hx with hx | hx
          · exact h2 x hx
          · simp at hx; rw [hx]; exact hsl) (by omega) (by omega) (by omega)
        exact ⟨r, hr, h5, by omega, by omega⟩) m k 0 [] (p + 1 + 1 + 1) (by omega) (by simp) (by omega) (by omega) (by omega)
    exact this
theorem someLoans_spec (b : List Int) (hb : ∀ x ∈ b, 0 ≤ x ∧ x ≤ 255) (hl : b.length ≤ 2000) (m : Int) (hm : m ≤ 13) (k : Nat) (hk : 200 < k) (p : Int) (h0 : 0 ≤ p) (h1 : p ≤ 1000) :
    ∃ r, spec_someLoans.f k b p m = some r ∧ SmallLs13 r.1 ∧ p ≤ r.2 ∧ r.2 ≤ p + 200 := by
  unfold spec_someLoans.f
  simp only [Option.bind_some]
  by_cases h2 : m < 2
  · rw [if_pos h2]
    exact ⟨_, rfl, ⟨by simp, by simp⟩, by simp, by simp; omega⟩
  · rw [if_neg h2]
    obtain ⟨z, hz, hm3⟩ := one_spec k (by omega) b hb hl p (by omega) (by omega) [3, 2, 4, 1, 0, 6] (by simp) (by simp)
    rw [hz]
    simp only [Option.bind_some]
    have hz2 : 0 ≤ z ∧ z ≤ 6 := by simp at hm3; omega
    obtain ⟨z, rfl⟩ := Int.eq_ofNat_of_zero_le hz2.1
    obtain ⟨m, rfl⟩ := Int.eq_ofNat_of_zero_le (show 0 ≤ m by omega)
    obtain ⟨r, hr, h5, h6, h7⟩ := someLoans_l0 b hb hl m (by omega) (by omega) z k [] (p + 1) (by simp; omega) (by simp) (by omega) (by omega) (by omega)
    exact ⟨r, hr, h5, by omega, by omega⟩
theorem small_set {ls : List S56} (h : SmallLs ls) (l : S56) (hl : SmallL l) (i : Nat) : SmallLs (ls.set i l) := by
  refine ⟨by simpa using h.1, fun x hx => ?_⟩
  rcases List.mem_or_eq_of_mem_set hx with h5 | h5
  · exact h.2 x h5
  · rw [h5]; exact hl
theorem anyLoans_spec (b : List Int) (hb : ∀ x ∈ b, 0 ≤ x ∧ x ≤ 255) (hl : b.length ≤ 2000) (k : Nat) (hk : 200 < k) (p : Int) (h0 : 0 ≤ p) (h1 : p ≤ 700) :
    ∃ r, spec_anyLoans.f k b p = some r ∧ SmallLs r.1 ∧ r.2.1 ≤ 13 ∧ 0 ≤ r.2.1 ∧ p ≤ r.2.2 ∧ r.2.2 ≤ p + 250 := by
  unfold spec_anyLoans.f
  obtain ⟨z, hz, hm⟩ := one_spec k (by omega) b hb hl p (by omega) (by omega) [4, 3, 5, 2, 1, 8] (by simp) (by simp)
  rw [hz]
  simp only [Option.bind_some]
  have hz2 : 1 ≤ z ∧ z ≤ 8 := by simp at hm; omega
  obtain ⟨r, hr, h5, h6, h7⟩ := someLoans_spec b hb hl z (by omega) k hk (p + 1) (by omega) (by omega)
  obtain ⟨ls, q⟩ := r
  simp only at h5 h6 h7
  have h13 := h5.2
  replace h5 := h5.up
  rw [hr]
  simp only [Option.bind_some]
  have hls := h5.1
  by_cases h2 : (ls.length : Int) > 0
  · rw [if_pos h2]
    have hf : Small13 (rd_T56 ls 0) := by
      have h3 : 0 < ls.length := by omega
      have e : rd_T56 ls 0 = ls[0] := by
        simp [rd_T56, List.getD_eq_getElem?_getD, List.getElem?_eq_getElem h3]
      rw [e]; exact h13 _ (List.getElem_mem h3)
    obtain ⟨v, hv, -⟩ := pick_spec k (by omega) b hb hl q (by omega) (by omega) 20 (by omega)
    rw [hv]
    simp only [Option.bind_some]
    by_cases h3 : v = 0
    · rw [if_pos h3]
      obtain ⟨u, hu, -⟩ := one_spec k (by omega) b hb hl (q + 1) (by omega) (by omega) [0, 100001] (by simp) (by simp)
      rw [hu]
      simp only [Option.bind_some]
      rw [if_pos (by omega)]
      exact ⟨_, rfl, small_set h5 _ (by unfold Small13 at hf; unfold SmallL; exact Nat.le_trans hf (by omega)) _, by simp; omega, by simp; omega, by simp; omega, by simp; omega⟩
    · rw [if_neg h3]
      by_cases h4 : v = 1
      · rw [if_pos h4, if_pos (by omega)]
        unfold Small13 at hf
        rw [copyInts_spec _ (by omega)]
        simp only [Option.bind_some]
        obtain ⟨u, hu, -⟩ := one_spec k (by omega) b hb hl (q + 1) (by omega) (by omega) [(rd_T56 ls 0).f0, z, (-1)] (by simp) (by simp)
        rw [hu]
        simp only [Option.bind_some]
        rw [if_pos (by omega)]
        exact ⟨_, rfl, small_set h5 _ (by simp [SmallL]; omega) _, by simp; omega, by simp; omega, by simp; omega, by simp; omega⟩
      · rw [if_neg h4]
        by_cases h6 : v = 2
        · rw [if_pos h6]
          obtain ⟨u, hu, hm4⟩ := one_spec k (by omega) b hb hl (q + 1) (by omega) (by omega) [0, 1, 13] (by simp) (by simp)
          rw [hu]
          simp only [Option.bind_some]
          have hu2 : 0 ≤ u ∧ u ≤ 13 := by simp at hm4; omega
          exact ⟨_, rfl, h5, hu2.2, hu2.1, by simp; omega, by simp; omega⟩
        · rw [if_neg h6]
          exact ⟨_, rfl, h5, by simp; omega, by simp; omega, by simp; omega, by simp; omega⟩
  · rw [if_neg h2]
    exact ⟨_, rfl, h5, by simp; omega, by simp; omega, by simp; omega, by simp; omega⟩
theorem stakesOf_l0 (b : List Int) (hb : ∀ x ∈ b, 0 ≤ x ∧ x ≤ 255) (hl : b.length ≤ 2000) (ls : List S56) (n : Nat) (hn : n ≤ 13) : ∀ (d k i : Nat) (acc : List Int) (p : Int), i + d = n → acc.length = i → d + 1 < k → 0 ≤ p → p + 2 * d ≤ 1000 →
    ∃ out q, spec_stakesOf.l0 k ls (n : Int) acc (i : Int) b p = some (out, ls, q) ∧ out.length = n ∧ p ≤ q ∧ q ≤ p + 2 * d + 2 := by
  intro d
  induction d with
  | zero =>
    intro k i acc p hi ha hk h0 h1
    obtain ⟨k, rfl, hk⟩ := fuel hk
    simp only [spec_stakesOf.l0]
    rw [if_neg (by omega)]
    by_cases h2 : (acc.length : Int) > 0
    · rw [if_pos h2]
      obtain ⟨v, hv, -⟩ := pick_spec k (by omega) b hb hl p h0 (by omega) 20 (by omega)
      rw [hv]
      simp only [Option.bind_some]
      by_cases h3 : v = 0
      · rw [if_pos h3]
        obtain ⟨u, hu, -⟩ := one_spec k (by omega) b hb hl (p + 1) (by omega) (by omega) [(-1), 100001] (by simp) (by simp)
        rw [hu]
        simp only [Option.bind_some]
        rw [if_pos h2]
        exact ⟨_, _, rfl, by simp; omega, by omega, by omega⟩
      · rw [if_neg h3]
        exact ⟨_, _, rfl, by omega, by omega, by omega⟩
    · rw [if_neg h2]
      exact ⟨_, _, rfl, by omega, by omega, by omega⟩
  | succ d ih =>
    intro k i acc p hi ha hk h0 h1
    obtain ⟨k, rfl, hk⟩ := fuel hk
    simp only [spec_stakesOf.l0]
    rw [if_pos (by omega), wrap_succ (by omega)]
    obtain ⟨v, hv, -⟩ := pick_spec k (by omega) b hb hl p h0 (by omega) 250 (by omega)
    rw [hv]
    simp only [Option.bind_some]
    obtain ⟨u, hu, -⟩ := one_spec k (by omega) b hb hl (p + 1) (by omega) (by omega) [200, 100, v, 0, 1000] (by simp) (by simp)
    rw [hu]
    simp only [Option.bind_some]
    rw [if_pos (by omega)]
    obtain ⟨out, q, h5, h6, h7, h8⟩ := ih k (i + 1) (acc ++ [u]) (p + 1 + 1) (by omega) (by simp; omega) (by omega) (by omega) (by omega)
    exact ⟨out, q, h5, h6, by omega, by omega⟩
theorem stakesOf_spec (b : List Int) (hb : ∀ x ∈ b, 0 ≤ x ∧ x ≤ 255) (hl : b.length ≤ 2000) (k : Nat) (hk : 200 < k) (p : Int) (h0 : 0 ≤ p) (h1 : p ≤ 700) :
    ∃ ss ls q, spec_stakesOf.f k b p = some (ss, ls, q) ∧ ss.length ≤ 13 ∧ SmallLs ls ∧ 0 ≤ q ∧ q ≤ 10000 := by
  unfold spec_stakesOf.f
  obtain ⟨r, hr, h2, h3, h4, h5, h6⟩ := anyLoans_spec b hb hl k hk p h0 h1
  obtain ⟨ls, n, q⟩ := r
  simp only at h2 h3 h4 h5 h6
  rw [hr]
  simp only [Option.bind_some]
  obtain ⟨n, rfl⟩ := Int.eq_ofNat_of_zero_le h4
  obtain ⟨out, q2, ho, hl2, hq1, hq2⟩ := stakesOf_l0 b hb hl ls n (by omega) n k 0 [] q (by omega) rfl (by omega) (by omega) (by omega)
  exact ⟨out, ls, q2, ho, by omega, h2, by omega, by omega⟩

/-! ### the law -/
theorem drawSafe_spec (k : Nat) (hk : 200 < k) (l : List Int) (hl : ∀ x ∈ l, 0 ≤ x ∧ x ≤ 255) : ∃ ss ls, spec_DrawSafeLoans.f k l = some (ss, ls) ∧ ss.length ≤ 13 ∧ SmallLs ls := by
  obtain ⟨b, h1, h2, h3⟩ := newReader_spec l hl
  obtain ⟨ss, ls, q, h4, h5, h6, -, -⟩ := stakesOf_spec b h2 h3 k hk 0 (by omega) (by omega)
  unfold spec_DrawSafeLoans.f
  rw [h1]
  simp only [Option.bind_some]
  rw [h4]
  exact ⟨ss, ls, rfl, h5, h6⟩
theorem dropLoan_spec (ls : List S56) (i : Nat) (hi : i < ls.length) (hl : ls.length ≤ 1000) : laws_dropLoan.f ls (i : Int) = some (dropM ls i) := by
  unfold laws_dropLoan.f dropM
  rw [Option.bind_some, if_pos (by omega), if_pos (by omega), Option.bind_some, if_pos (by simp; omega), Option.bind_some, wrap_succ (by omega), if_pos (by omega), if_pos (by omega), Option.bind_some, if_pos (by simp; omega), toNat_cast, toNat_cast, List.nil_append]
theorem safeLaw_l0 (ss : List Int) (ls : List S56) (h : SafeM ss ls) (hg : ∀ l ∈ ls, l.f2.length ≤ 1048576) : ∀ (d k i : Nat), i + d = ls.length → 1048800 + d < k → laws_FnSafeLoans.l0 k ss ls (i : Int) = some true := by
  obtain ⟨h1, h2, h3⟩ := id h
  have hl := h2.1
  intro d
  induction d with
  | zero =>
    intro k i hi hk
    obtain ⟨k, rfl, -⟩ := fuel (show 0 < k by omega)
    simp only [laws_FnSafeLoans.l0]
    rw [if_neg (by omega)]
  | succ d ih =>
    intro k i hi hk
    obtain ⟨k, rfl, hk⟩ := fuel (show 1048801 + d < k by omega)
    obtain ⟨hd1, hd2⟩ := safe_drop h (show i < ls.length by omega)
    simp only [laws_FnSafeLoans.l0]
    have hz : (failLM ss ls (i : Int)).2 = 0 := by
      rw [failLM_pos ⟨h1, h2, by omega, by omega⟩, rdT_at (show i < ls.length by omega)]
      exact failLoan_zero h1.okx (h2.2.2.2 _ (List.getElem_mem _)) hd2
    obtain ⟨c, hc, hcc⟩ := iSafe_spec k ss (dropM ls i) (by have := hd1.2.1.1; omega) (fun l hl => hg l (drop_mem hl)) (by omega)
    rw [if_pos (by omega), implFailLoan_spec _ _ _ _ (by omega) hg (by omega), Option.bind_some, dropLoan_spec _ _ (by omega) (by omega), Option.bind_some, hc, Option.bind_some, if_pos (hcc.2 hd1), if_pos hz, wrap_succ (by omega)]
    exact ih k (i + 1) (by omega) (by omega)
theorem FnSafeLoans : laws_FnSafeLoans.Pure := by
  intro l0 m0 _ hw
  refine ⟨4000000, ?_⟩
  unfold laws_FnSafeLoans.f
  by_cases h0 : (l0.length : Int) > 1048576
  · rw [if_pos h0]
  rw [if_neg h0]
  obtain ⟨ss, ls, hd, hs, hsm⟩ := drawSafe_spec 4000000 (by omega) l0 (reader_bytes hw)
  have m1 : ls.length ≤ 1048576 := by have := hsm.1; omega
  have m2 : ∀ l ∈ ls, l.f2.length ≤ 1048576 := fun l hl => by have := hsm.2 l hl; unfold SmallL at this; omega
  obtain ⟨c, hc, hcc⟩ := iSafe_spec 4000000 ss ls m1 m2 (by omega)
  obtain ⟨d, hdd, hdc⟩ := sSafe_spec 4000000 ss ls m1 m2 (by omega)
  obtain ⟨d2, hdd2, hdc2⟩ := sSafe_spec 3999999 ss ls m1 m2 (by omega)
  have e : d = c := by
    rcases Bool.eq_false_or_eq_true c with h | h <;> rcases Bool.eq_false_or_eq_true d with h' | h' <;> simp_all
  have e2 : d2 = c := by
    rcases Bool.eq_false_or_eq_true c with h | h <;> rcases Bool.eq_false_or_eq_true d2 with h' | h' <;> simp_all
  subst e
  subst e2
  rw [hd, Option.bind_some, hc, Option.bind_some, hdd, Option.bind_some, if_neg (by simp)]
  rw [show (4000000 : Nat) = 3999999 + 1 from rfl]
  simp only [laws_FnSafeLoans.j0]
  by_cases h : d2 = true
  · subst h
    rw [if_neg (by simp)]
    exact safeLaw_l0 ss ls (hdc2.1 rfl) m2 ls.length 3999999 0 (by omega) (by omega)
  · rw [if_pos (by simpa using h), hdd2, Option.bind_some]; simp

end Go.Proofs.Ytmipmnejppoeiaa.Pure
