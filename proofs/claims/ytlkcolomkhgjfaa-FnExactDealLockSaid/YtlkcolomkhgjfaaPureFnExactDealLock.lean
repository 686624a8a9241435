/- The law FnExactDealLock holds: the program's function answers as the reference does at every drawn input, and has the law's property; no condition. -/
import Derived.Test.YtlkcolomkhgjfaaPFnExactDealLockx5
import Derived.Test.YtlkcolomkhgjfaaHLockLaw
set_option linter.unusedVariables false
set_option linter.unusedSimpArgs false
namespace Go.Proofs.Ytlkcolomkhgjfaa.Pure
open Go.RowKit Go.Proofs.Ytlkcolomkhgjfaa.PFnExactDealLock Go.Proofs.YtlkcolomkhgjfaaW.PrintWords Go.Proofs.YtlkcolomkhgjfaaW.PrintLast Go.Proofs.YtlkcolomkhgjfaaW.PrintMore

/-! ### base -/
theorem fuel {k n : Nat} (h : n < k) : ∃ m, k = m + 1 ∧ n ≤ m := ⟨k - 1, by omega, by omega⟩
theorem wrap_id {x : Int} (h1 : -9223372036854775808 ≤ x) (h2 : x ≤ 9223372036854775807) : wrap64 x = x := by unfold wrap64; omega
theorem wrap_succ {i : Nat} (h : i < 4611686018427387904) : wrap64 ((i : Int) + 1) = ((i + 1 : Nat) : Int) := by unfold wrap64; omega
theorem wrap_succ' {i : Int} (h0 : 0 ≤ i) (h : i < 4611686018427387904) : wrap64 (i + 1) = i + 1 := by unfold wrap64; omega
theorem wrap_wrap (x : Int) : wrap64 (wrap64 x) = wrap64 x := by unfold wrap64; omega
theorem wrap_add_l (x y : Int) : wrap64 (wrap64 x + y) = wrap64 (x + y) := by unfold wrap64; omega
theorem wrap_add_r (x y : Int) : wrap64 (x + wrap64 y) = wrap64 (x + y) := by unfold wrap64; omega
theorem wrap_sub_l (x y : Int) : wrap64 (wrap64 x - y) = wrap64 (x - y) := by unfold wrap64; omega
theorem rd_get {xs : List Int} {i : Nat} (h : i < xs.length) : rd xs (i : Int) = xs[i] := by
  simp [rd, List.getD_eq_getElem?_getD, List.getElem?_eq_getElem h]
theorem drop_rd {xs : List Int} {i : Nat} (h : i < xs.length) : xs.drop i = rd xs (i : Int) :: xs.drop (i + 1) := by
  rw [rd_get h, List.drop_eq_getElem_cons h]
theorem drop_end {α : Type} {xs : List α} {i : Nat} (h : xs.length ≤ i) : xs.drop i = [] := List.drop_eq_nil_of_le h
theorem take_rd {xs : List Int} {i : Nat} (h : i < xs.length) : xs.take (i + 1) = xs.take i ++ [rd xs (i : Int)] := by
  rw [rd_get h, List.take_succ_eq_append_getElem h]
theorem rd_mem {xs : List Int} {i : Nat} (h : i < xs.length) : rd xs (i : Int) ∈ xs := by
  rw [rd_get h]; exact List.getElem_mem h
theorem rd_mem' {xs : List Int} {i : Int} (h0 : 0 ≤ i) (h : i < (xs.length : Int)) : rd xs i ∈ xs := by
  obtain ⟨j, rfl⟩ := Int.eq_ofNat_of_zero_le h0
  exact rd_mem (by omega)
theorem mem_rd {xs : List Int} {x : Int} (h : x ∈ xs) : ∃ i : Nat, i < xs.length ∧ rd xs (i : Int) = x := by
  obtain ⟨i, hi, he⟩ := List.getElem_of_mem h
  exact ⟨i, hi, by rw [rd_get hi, he]⟩
theorem ext_rd {xs ys : List Int} (hl : xs.length = ys.length) (h : ∀ i : Nat, i < xs.length → rd xs (i : Int) = rd ys (i : Int)) : xs = ys := by
  apply List.ext_getElem hl
  intro i h1 h2
  have := h i h1
  rwa [rd_get h1, rd_get h2] at this
theorem rd_set {xs : List Int} {i j : Nat} {v : Int} (hj : j < xs.length) : rd (xs.set i v) (j : Int) = if i = j then v else rd xs (j : Int) := by
  rw [rd_get (by simpa using hj), rd_get hj, List.getElem_set]
theorem rd_set_ne {xs : List Int} {i j : Nat} {v : Int} (h : i ≠ j) : rd (xs.set i v) (j : Int) = rd xs (j : Int) := by
  simp only [rd, List.getD_eq_getElem?_getD, Int.toNat_natCast, List.getElem?_set_ne h]
theorem rd_append_l {xs ys : List Int} {i : Nat} (h : i < xs.length) : rd (xs ++ ys) (i : Int) = rd xs (i : Int) := by
  rw [rd_get (by simp; omega), rd_get h, List.getElem_append_left h]
theorem rd_append_r {xs ys : List Int} {i : Nat} (h : xs.length ≤ i) (h2 : i < xs.length + ys.length) : rd (xs ++ ys) (i : Int) = rd ys ((i - xs.length : Nat) : Int) := by
  rw [rd_get (by simp; omega), rd_get (by omega), List.getElem_append_right h]
theorem rd_replicate {n i : Nat} {v : Int} (h : i < n) : rd (List.replicate n v) (i : Int) = v := by
  rw [rd_get (by simpa using h)]; simp
theorem rd_mapRange {n i : Nat} {f : Nat → Int} (h : i < n) : rd ((List.range n).map f) (i : Int) = f i := by
  rw [rd_get (by simpa using h)]; simp
theorem toNat_cast (i : Nat) : ((i : Int) : Int).toNat = i := by simp
theorem mx_max (a b : Int) : mx a b = max a b := by unfold mx; omega
theorem mn_min (a b : Int) : mn a b = min a b := by unfold mn; omega
theorem bits_xor {a b : Int} (ha : 0 ≤ a) (ha2 : a < 4611686018427387904) (hb : 0 ≤ b) (hb2 : b < 4611686018427387904) : 0 ≤ Go.bits .xor .i64 a b ∧ Go.bits .xor .i64 a b < 4611686018427387904 := by
  obtain ⟨a, rfl⟩ := Int.eq_ofNat_of_zero_le ha
  obtain ⟨b, rfl⟩ := Int.eq_ofNat_of_zero_le hb
  have h1 : a < 2 ^ 62 := by omega
  have h2 : b < 2 ^ 62 := by omega
  have h3 := Nat.xor_lt_two_pow h1 h2
  have e : Go.bits .xor .i64 (a : Int) (b : Int) = IntKind.i64.wrap (((BitVec.ofInt 64 (a : Int)) ^^^ (BitVec.ofInt 64 (b : Int))).toNat : Int) := rfl
  have ha' : (BitVec.ofInt 64 (a : Int)).toNat = a := by rw [BitVec.ofInt_natCast, BitVec.toNat_ofNat]; exact Nat.mod_eq_of_lt (by omega)
  have hb' : (BitVec.ofInt 64 (b : Int)).toNat = b := by rw [BitVec.ofInt_natCast, BitVec.toNat_ofNat]; exact Nat.mod_eq_of_lt (by omega)
  rw [e, BitVec.toNat_xor, ha', hb', IntKind.wrap_i64]
  omega
theorem cast0 : ((0 : Nat) : Int) = 0 := rfl
theorem w01 : wrap64 (0 + 1) = 1 := by unfold wrap64; omega
theorem w12 : wrap64 (1 + 1) = 2 := by unfold wrap64; omega
theorem w23 : wrap64 (2 + 1) = 3 := by unfold wrap64; omega
theorem w34 : wrap64 (3 + 1) = 4 := by unfold wrap64; omega
theorem w45 : wrap64 (4 + 1) = 5 := by unfold wrap64; omega

/-! ### listm -/
theorem pigeon : ∀ (n : Nat) (xs : List Int), xs.Nodup → (∀ x ∈ xs, 0 ≤ x ∧ x < (n : Int)) → xs.length ≤ n := by
  intro n
  induction n with
  | zero =>
    intro xs _ h
    cases xs with
    | nil => simp
    | cons x xs => have := h x (by simp); omega
  | succ n ih =>
    intro xs hn h
    by_cases hm : (n : Int) ∈ xs
    · have h1 := ih (xs.erase (n : Int)) (hn.erase _) (fun x hx => by
        have h2 := (hn.mem_erase_iff).1 hx
        have h3 := h x h2.2
        have h4 := h2.1
        omega)
      rw [List.length_erase_of_mem hm] at h1
      omega
    · have h1 := ih xs hn (fun x hx => by
        have h3 := h x hx
        have h4 : x ≠ (n : Int) := fun e => hm (e ▸ hx)
        omega)
      omega
/-- Fewer different members than there are: one is missing. -/
theorem one_missing : ∀ (n : Nat) (xs : List Int), xs.length < n → ∃ j : Nat, j < n ∧ (j : Int) ∉ xs := by
  intro n
  induction n with
  | zero => intro xs h; omega
  | succ n ih =>
    intro xs h
    by_cases hm : (n : Int) ∈ xs
    · obtain ⟨j, hj, hx⟩ := ih (xs.erase (n : Int)) (by rw [List.length_erase_of_mem hm]; have := List.length_pos_of_mem hm; omega)
      refine ⟨j, by omega, fun hmem => hx ?_⟩
      exact (List.mem_erase_of_ne (by omega)).2 hmem
    · exact ⟨n, by omega, hm⟩
/-- Members, one after the other, in range and not seen yet. -/
def memB (n : Int) : List Int → List Int → Bool
  | _, [] => true
  | seen, x :: rest => decide (0 ≤ x ∧ x < n) && (!decide (x ∈ seen) && memB n (seen ++ [x]) rest)
theorem memB_iff (n : Int) : ∀ (xs seen : List Int), memB n seen xs = true ↔ (∀ x ∈ xs, 0 ≤ x ∧ x < n ∧ x ∉ seen) ∧ xs.Nodup := by
  intro xs
  induction xs with
  | nil => intro seen; simp [memB]
  | cons a xs ih =>
    intro seen
    simp only [memB, Bool.and_eq_true, decide_eq_true_eq, Bool.not_eq_true', decide_eq_false_iff_not, ih, List.mem_cons, List.mem_append, List.not_mem_nil, or_false, List.nodup_cons]
    constructor
    · rintro ⟨⟨h1, h2⟩, h3, h4, h5⟩
      refine ⟨?_, fun ha => (h4 a ha).2.2 (Or.inr rfl), h5⟩
      rintro x (rfl | hx)
      · exact ⟨h1, h2, h3⟩
      · obtain ⟨a1, a2, a3⟩ := h4 x hx
        exact ⟨a1, a2, fun h => a3 (Or.inl h)⟩
    · rintro ⟨h1, h2, h3⟩
      obtain ⟨a1, a2, a3⟩ := h1 a (Or.inl rfl)
      refine ⟨⟨a1, a2⟩, a3, fun x hx => ?_, h3⟩
      obtain ⟨b1, b2, b3⟩ := h1 x (Or.inr hx)
      refine ⟨b1, b2, ?_⟩
      rintro (h | rfl)
      · exact b3 h
      · exact h2 hx
/-- Different members of a body. -/
def GoodM (xs : List Int) (n : Int) : Prop := xs.Nodup ∧ ∀ x ∈ xs, 0 ≤ x ∧ x < n
instance (xs : List Int) (n : Int) : Decidable (GoodM xs n) := inferInstanceAs (Decidable (_ ∧ _))
theorem memB_good (n : Int) (xs : List Int) : memB n [] xs = decide (GoodM xs n) := by
  rw [Bool.eq_iff_iff, memB_iff, decide_eq_true_eq]
  unfold GoodM
  constructor
  · rintro ⟨h, hn⟩
    exact ⟨hn, fun x hx => ⟨(h x hx).1, (h x hx).2.1⟩⟩
  · rintro ⟨hn, h⟩
    exact ⟨fun x hx => ⟨(h x hx).1, (h x hx).2, by simp⟩, hn⟩
theorem GoodM.le {xs : List Int} {n : Nat} (h : GoodM xs (n : Int)) : xs.length ≤ n := pigeon n xs h.1 h.2
/-- The first place of a number behind some. -/
def idxM : List Int → Int → Nat → Int
  | [], _, _ => -1
  | y :: ys, x, i => if y = x then (i : Int) else idxM ys x (i + 1)
theorem idxM_neg : ∀ (xs : List Int) (x : Int) (i : Nat), idxM xs x i < 0 ↔ x ∉ xs := by
  intro xs
  induction xs with
  | nil => intro x i; simp [idxM]
  | cons y ys ih =>
    intro x i
    simp only [idxM]
    by_cases e : y = x
    · rw [if_pos e]; simp [e]
    · rw [if_neg e, ih]
      have e' : ¬ x = y := fun h => e h.symm
      simp [e']
theorem idxM_nonneg (xs : List Int) (x : Int) (i : Nat) : 0 ≤ idxM xs x i ↔ x ∈ xs := by
  have := idxM_neg xs x i
  by_cases h : x ∈ xs
  · simp only [h, not_true, iff_false] at this
    simp [h]; omega
  · simp only [h, not_false_iff, iff_true] at this
    simp [h]; omega
theorem idxM_at : ∀ (xs : List Int) (x : Int) (i : Nat), x ∈ xs → ∃ j : Nat, idxM xs x i = ((i + j : Nat) : Int) ∧ j < xs.length ∧ rd xs (j : Int) = x ∧ ∀ q : Nat, q < j → rd xs (q : Int) ≠ x := by
  intro xs
  induction xs with
  | nil => intro x i h; simp at h
  | cons y ys ih =>
    intro x i h
    by_cases e : y = x
    · exact ⟨0, by simp [idxM, e], by simp, by simp [rd, e], fun q hq => by omega⟩
    · have hx : x ∈ ys := by
        rcases List.mem_cons.1 h with h | h
        · exact absurd h.symm e
        · exact h
      obtain ⟨j, h1, h2, h3, h4⟩ := ih x (i + 1) hx
      refine ⟨j + 1, by simp only [idxM, if_neg e, h1]; omega, by simp; omega, ?_, ?_⟩
      · rw [← h3, rd_get (by simp; omega), rd_get h2]; simp
      · intro q hq
        cases q with
        | zero => rw [rd_get (by simp)]; simpa using e
        | succ q => have := h4 q (by omega); rw [rd_get (by simp; omega)]; rw [rd_get (by omega)] at this; simpa using this
theorem sum_set : ∀ (xs : List Int) (i : Nat) (v : Int), i < xs.length → (xs.set i v).sum = xs.sum - rd xs (i : Int) + v := by
  intro xs
  induction xs with
  | nil => intro i v h; simp at h
  | cons x xs ih =>
    intro i v h
    cases i with
    | zero => simp [rd]; omega
    | succ i =>
      have h2 : i < xs.length := by simpa using h
      have := ih i v h2
      have e : rd (x :: xs) ((i + 1 : Nat) : Int) = rd xs (i : Int) := by rw [rd_get h, rd_get h2]; simp
      simp only [List.set_cons_succ, List.sum_cons, this, e]
      omega
theorem sum_replicate0 (n : Nat) : (List.replicate n (0 : Int)).sum = 0 := by
  induction n with
  | zero => rfl
  | succ n ih => simp [List.replicate_succ, ih]
theorem set_fill {α : Type} (A : List α) (d : Nat) (z v : α) : (A ++ List.replicate (d + 1) z).set A.length v = (A ++ [v]) ++ List.replicate d z := by
  rw [List.set_append_right _ _ (Nat.le_refl _)]
  simp [List.replicate_succ]
theorem set_fill' {α : Type} {A : List α} {i d : Nat} {z v : α} (h : A.length = i) : (A ++ List.replicate (d + 1) z).set i v = (A ++ [v]) ++ List.replicate d z := by
  subst h; exact set_fill A d z v
theorem sum_bound : ∀ (xs : List Int) (lo hi : Int), (∀ x ∈ xs, lo ≤ x ∧ x ≤ hi) → (xs.length : Int) * lo ≤ xs.sum ∧ xs.sum ≤ (xs.length : Int) * hi := by
  intro xs lo hi
  induction xs with
  | nil => intro _; simp
  | cons x xs ih =>
    intro h
    have h1 := ih (fun y hy => h y (by simp [hy]))
    have h2 := h x (by simp)
    have e1 : ((x :: xs).length : Int) * lo = (xs.length : Int) * lo + lo := by simp [Int.add_mul]
    have e2 : ((x :: xs).length : Int) * hi = (xs.length : Int) * hi + hi := by simp [Int.add_mul]
    rw [e1, e2, List.sum_cons]
    omega

/-! ### polym -/
/-- Equal rests. -/
def Eqv (a b : Int) : Prop := (a - b) % 251 = 0
theorem Eqv.refl (a : Int) : Eqv a a := by unfold Eqv; omega
theorem Eqv.symm {a b : Int} (h : Eqv a b) : Eqv b a := by unfold Eqv at *; omega
theorem Eqv.trans {a b c : Int} (h : Eqv a b) (k : Eqv b c) : Eqv a c := by unfold Eqv at *; omega
theorem Eqv.add {a b c d : Int} (h : Eqv a b) (k : Eqv c d) : Eqv (a + c) (b + d) := by unfold Eqv at *; omega
theorem Eqv.sub {a b c d : Int} (h : Eqv a b) (k : Eqv c d) : Eqv (a - c) (b - d) := by unfold Eqv at *; omega
theorem Eqv.of_eq {a b : Int} (h : a = b) : Eqv a b := h ▸ Eqv.refl a
theorem Eqv.mod (a : Int) : Eqv (a % 251) a := by unfold Eqv; omega
theorem Eqv.mul_l {a b : Int} (c : Int) (h : Eqv a b) : Eqv (c * a) (c * b) := by
  unfold Eqv at *
  rw [← Int.mul_sub]
  obtain ⟨q, hq⟩ := Int.dvd_of_emod_eq_zero h
  rw [hq, show c * (251 * q) = 251 * (c * q) by rw [← Int.mul_assoc, Int.mul_comm c 251, Int.mul_assoc]]
  exact Int.mul_emod_right _ _
theorem Eqv.mul {a b c d : Int} (h : Eqv a b) (k : Eqv c d) : Eqv (a * c) (b * d) := by
  have h1 : Eqv (a * c) (a * d) := Eqv.mul_l a k
  have h2 : Eqv (d * a) (d * b) := Eqv.mul_l d h
  rw [Int.mul_comm d a, Int.mul_comm d b] at h2
  exact h1.trans h2
theorem Eqv.eq {a b : Int} (h : Eqv a b) (ha : 0 ≤ a ∧ a < 251) (hb : 0 ≤ b ∧ b < 251) : a = b := by unfold Eqv at h; omega
theorem Eqv.emod {a b : Int} (h : Eqv a b) : a % 251 = b % 251 := by unfold Eqv at h; omega
theorem Eqv.of_emod {a b : Int} (h : a % 251 = b % 251) : Eqv a b := by unfold Eqv; omega
theorem inv_table : ∀ n : Fin 251, n.val ≠ 0 → n.val * (n.val ^ 249 % 251) % 251 = 1 := by decide +kernel
/-- The inverse of a rest. -/
def invM (n : Int) : Int := ((n.toNat ^ 249 % 251 : Nat) : Int)
theorem invM_range (n : Int) : 0 ≤ invM n ∧ invM n < 251 := by unfold invM; omega
theorem invM_mul {n : Int} (h0 : 1 ≤ n) (h1 : n ≤ 250) : n * invM n % 251 = 1 := by
  obtain ⟨m, rfl⟩ := Int.eq_ofNat_of_zero_le (show 0 ≤ n by omega)
  have hm : m < 251 := by omega
  have hm0 : m ≠ 0 := by omega
  have h2 : m * (m ^ 249 % 251) % 251 = 1 := inv_table ⟨m, hm⟩ hm0
  unfold invM
  rw [Int.toNat_natCast]
  obtain ⟨q, hq⟩ : ∃ q, q = m ^ 249 % 251 := ⟨_, rfl⟩
  rw [← hq] at h2 ⊢
  clear hq
  rw [show (m : Int) * (q : Int) % 251 = ((m * q % 251 : Nat) : Int) by rw [Int.natCast_emod, Int.natCast_mul]; rfl, h2]
  rfl
theorem invM_pos {n : Int} (h0 : 1 ≤ n) (h1 : n ≤ 250) : 1 ≤ invM n := by
  have := invM_mul h0 h1
  have h2 := (invM_range n).1
  by_cases e : invM n = 0
  · rw [e] at this; simp at this
  · omega
/-- No product of rests other than 0 is 0. -/
theorem Eqv.zero_mul {a b : Int} (h : Eqv (a * b) 0) (ha : ¬ Eqv a 0) : Eqv b 0 := by
  have hr : 1 ≤ a % 251 ∧ a % 251 ≤ 250 := by unfold Eqv at ha; omega
  have hi : Eqv (a % 251 * invM (a % 251)) 1 := by have := invM_mul hr.1 hr.2; unfold Eqv; omega
  have h1 : Eqv (a % 251 * invM (a % 251) * b) (1 * b) := hi.mul (Eqv.refl b)
  have h2 : Eqv (a % 251 * invM (a % 251) * b) (invM (a % 251) * (a * b)) := by
    have : a % 251 * invM (a % 251) * b = invM (a % 251) * (a % 251 * b) := by
      rw [Int.mul_comm (a % 251), Int.mul_assoc]
    rw [this]
    exact Eqv.mul_l _ ((Eqv.mod a).mul (Eqv.refl b))
  have h3 : Eqv (invM (a % 251) * (a * b)) (invM (a % 251) * 0) := Eqv.mul_l _ h
  rw [Int.one_mul] at h1
  rw [Int.mul_zero] at h3
  exact h1.symm.trans (h2.trans h3)
/-- The value of a polynomial, the rests not yet taken. -/
def evalM : List Int → Int → Int
  | [], _ => 0
  | c :: t, x => c + x * evalM t x
theorem evalM_append : ∀ (a b : List Int) (x : Int), evalM (a ++ b) x = evalM a x + x ^ a.length * evalM b x := by
  intro a b x
  induction a with
  | nil => simp [evalM]
  | cons c t ih =>
    simp only [List.cons_append, evalM, ih, List.length_cons, Int.pow_succ]
    rw [Int.mul_add, Int.add_assoc, ← Int.mul_assoc, Int.mul_comm x (x ^ t.length)]
theorem evalM_zeros (m : Nat) (x : Int) : evalM (List.replicate m 0) x = 0 := by
  induction m with
  | zero => rfl
  | succ m ih => simp [List.replicate_succ, evalM, ih]
theorem evalM_pad (a : List Int) (m : Nat) (x : Int) : evalM (a ++ List.replicate m 0) x = evalM a x := by
  rw [evalM_append, evalM_zeros]; simp
/-- Coefficients whose rests are equal have equal values. -/
theorem evalM_congr : ∀ (a b : List Int) (x : Int), a.length = b.length → (∀ i : Nat, i < a.length → Eqv (rd a i) (rd b i)) → Eqv (evalM a x) (evalM b x) := by
  intro a
  induction a with
  | nil =>
    intro b x hl _
    cases b with
    | nil => exact Eqv.refl _
    | cons c t => simp at hl
  | cons c t ih =>
    intro b x hl h
    cases b with
    | nil => simp at hl
    | cons d u =>
      simp only [evalM]
      have h0 : Eqv c d := by simpa [rd] using h 0 (by simp)
      refine h0.add (Eqv.mul_l x (ih u x (by simpa using hl) fun i hi => ?_))
      have := h (i + 1) (by simp; omega)
      simpa [rd] using this
/-- The values at a of all ends of a list that are not empty: the quotient by x less a. -/
def sq : List Int → Int → List Int
  | [], _ => []
  | d :: t, a => evalM (d :: t) a :: sq t a
theorem sq_length : ∀ (t : List Int) (a : Int), (sq t a).length = t.length := by
  intro t a
  induction t with
  | nil => rfl
  | cons d t ih => simp [sq, ih]
theorem sq_eq : ∀ (t : List Int) (c a x : Int), evalM (c :: t) x = evalM (sq t a) x * (x - a) + evalM (c :: t) a := by
  intro t
  induction t with
  | nil => intro c a x; simp [sq, evalM]
  | cons d t ih =>
    intro c a x
    have h := ih d a x
    have e1 : evalM (c :: d :: t) x = c + x * evalM (d :: t) x := rfl
    have e2 : evalM (c :: d :: t) a = c + a * evalM (d :: t) a := rfl
    have e3 : evalM (sq (d :: t) a) x = evalM (d :: t) a + x * evalM (sq t a) x := rfl
    rw [e1, e2, e3, h]
    generalize evalM (d :: t) a = T
    generalize evalM (sq t a) x = Q
    rw [Int.mul_add, Int.add_mul, Int.mul_sub T, Int.mul_assoc x Q, Int.mul_comm a T, Int.mul_comm x T]
    omega
/-- Different rests. -/
def Apart251 (xs : List Int) : Prop := xs.Pairwise fun a b => ¬ Eqv a b
/-- A polynomial with as many zeros as coefficients has none but 0. -/
theorem roots : ∀ (n : Nat) (e xs : List Int), e.length = n → xs.length = n → Apart251 xs → (∀ x ∈ xs, Eqv (evalM e x) 0) → ∀ c ∈ e, Eqv c 0 := by
  intro n
  induction n with
  | zero => intro e xs he _ _ _ c hc; rw [List.eq_nil_of_length_eq_zero he] at hc; simp at hc
  | succ n ih =>
    intro e xs he hxs hap hz
    cases e with
    | nil => simp at he
    | cons c t =>
      cases xs with
      | nil => simp at hxs
      | cons a ys =>
        have hap' := List.pairwise_cons.1 hap
        have ha : Eqv (evalM (c :: t) a) 0 := hz a (by simp)
        have hq : ∀ d ∈ sq t a, Eqv d 0 := by
          refine ih (sq t a) ys (by rw [sq_length]; simpa using he) (by simpa using hxs) hap'.2 fun y hy => ?_
          have h1 := hz y (by simp [hy])
          rw [sq_eq t c a y] at h1
          have h2 : Eqv (evalM (sq t a) y * (y - a)) 0 := by
            have := h1.sub ha
            rw [Int.add_sub_cancel, Int.sub_zero] at this
            exact this
          rw [Int.mul_comm] at h2
          refine h2.zero_mul fun h => ?_
          exact hap'.1 y hy (by unfold Eqv at *; omega)
        have hs : ∀ u : List Int, (∀ d ∈ sq u a, Eqv d 0) → Eqv (evalM u a) 0 ∧ ∀ d ∈ u, Eqv d 0 := by
          intro u
          induction u with
          | nil => intro _; exact ⟨Eqv.refl _, by simp⟩
          | cons d u ihu =>
            intro h
            obtain ⟨h1, h2⟩ := ihu fun x hx => h x (by simp [sq, hx])
            have h3 : Eqv (evalM (d :: u) a) 0 := h _ (by simp [sq])
            have h4 : Eqv (a * evalM u a) 0 := by have := Eqv.mul_l a h1; rwa [Int.mul_zero] at this
            refine ⟨h3, fun x hx => ?_⟩
            rcases List.mem_cons.1 hx with rfl | hx
            · have h5 : evalM (x :: u) a = x + a * evalM u a := rfl
              rw [h5] at h3
              have := h3.sub h4
              rwa [Int.add_sub_cancel, Int.sub_zero] at this
            · exact h2 x hx
        obtain ⟨h1, h2⟩ := hs t hq
        intro d hd
        rcases List.mem_cons.1 hd with rfl | hd
        · have h5 : evalM (d :: t) a = d + a * evalM t a := rfl
          rw [h5] at ha
          have h4 : Eqv (a * evalM t a) 0 := by have := Eqv.mul_l a h1; rwa [Int.mul_zero] at this
          have := ha.sub h4
          rwa [Int.add_sub_cancel, Int.sub_zero] at this
        · exact h2 d hd
def subM (a b : List Int) : List Int := List.zipWith (fun x y => x - y) a b
theorem evalM_sub : ∀ (a b : List Int) (x : Int), a.length = b.length → evalM (subM a b) x = evalM a x - evalM b x := by
  intro a
  induction a with
  | nil =>
    intro b x hl
    cases b with
    | nil => rfl
    | cons c t => simp at hl
  | cons c t ih =>
    intro b x hl
    cases b with
    | nil => simp at hl
    | cons d u =>
      have := ih u x (by simpa using hl)
      simp only [subM, List.zipWith_cons_cons, evalM] at *
      rw [this, Int.mul_sub]
      omega
/-- Coefficients that are rests. -/
def Rests (cs : List Int) : Prop := ∀ c ∈ cs, 0 ≤ c ∧ c < 251
/-- As many values as coefficients tell the polynomial. -/
theorem poly_unique {a b xs : List Int} (hl : a.length = b.length) (hx : xs.length = a.length) (ha : Rests a) (hb : Rests b) (hap : Apart251 xs) (h : ∀ x ∈ xs, Eqv (evalM a x) (evalM b x)) : a = b := by
  have hd := roots a.length (subM a b) xs (by simp [subM, hl]) hx hap fun x hxm => by
    rw [evalM_sub a b x hl]
    have := (h x hxm).sub (Eqv.refl (evalM b x))
    rwa [Int.sub_self] at this
  apply ext_rd hl
  intro i hi
  have h1 := hd ((subM a b)[i]'(by simp [subM, ← hl, hi])) (List.getElem_mem _)
  rw [rd_get hi, rd_get (by omega)]
  have h2 : (subM a b)[i]'(by simp [subM, ← hl, hi]) = a[i] - b[i]'(by omega) := by simp [subM]
  rw [h2] at h1
  have h3 : Eqv a[i] (b[i]'(by omega)) := by unfold Eqv at *; omega
  exact h3.eq (ha _ (List.getElem_mem _)) (hb _ (List.getElem_mem _))
theorem apart_of {xs : List Int} (hn : xs.Nodup) (h : ∀ x ∈ xs, 0 ≤ x ∧ x < 251) : Apart251 xs := by
  unfold Apart251
  rw [List.pairwise_iff_getElem]
  intro i j hi hj hij e
  have h1 := e.eq (h _ (List.getElem_mem hi)) (h _ (List.getElem_mem hj))
  rw [List.Nodup, List.pairwise_iff_getElem] at hn
  exact hn i j hi hj hij h1
/-- Horner's way, with rests. -/
def hornM : List Int → Int → Int
  | [], _ => 0
  | c :: t, x => (hornM t x * x + c) % 251
theorem hornM_eq : ∀ (cs : List Int) (x : Int), Eqv (hornM cs x) (evalM cs x) := by
  intro cs x
  induction cs with
  | nil => exact Eqv.refl _
  | cons c t ih =>
    simp only [hornM, evalM]
    refine (Eqv.mod _).trans ?_
    rw [Int.add_comm c, Int.mul_comm x]
    exact (ih.mul (Eqv.refl x)).add (Eqv.refl c)
theorem hornM_range : ∀ (cs : List Int) (x : Int), 0 ≤ hornM cs x ∧ hornM cs x < 251 := by
  intro cs x
  cases cs with
  | nil => simp [hornM]
  | cons c t => simp only [hornM]; omega

/-! ### bits -/
theorem shr_nat (s i : Nat) (h : i ≤ 64) : shr .i64 (s : Int) (i : Int) = ((s / 2 ^ i : Nat) : Int) := by
  unfold shr
  have e : min ((i : Int).toNat) IntKind.i64.bits = i := by simp [IntKind.bits]; omega
  rw [e]; simp
theorem and_one (s : Nat) (h : s < 9223372036854775808) : Go.bits .and .i64 (s : Int) 1 = ((s % 2 : Nat) : Int) := by
  have e : Go.bits .and .i64 (s : Int) 1 = IntKind.i64.wrap (((BitVec.ofInt 64 (s : Int)) &&& (BitVec.ofInt 64 1)).toNat : Int) := rfl
  have ha' : (BitVec.ofInt 64 (s : Int)).toNat = s := by rw [BitVec.ofInt_natCast, BitVec.toNat_ofNat]; exact Nat.mod_eq_of_lt (by omega)
  have hb' : (BitVec.ofInt 64 (1 : Int)).toNat = 1 := by decide
  rw [e, BitVec.toNat_and, ha', hb', IntKind.wrap_i64, Nat.and_one_is_mod]
  omega
theorem shl_one (n : Nat) (h : n ≤ 40) : shl .i64 1 (n : Int) = ((2 ^ n : Nat) : Int) := by
  unfold shl
  have e : min ((n : Int).toNat) IntKind.i64.bits = n := by simp [IntKind.bits]; omega
  have h2 : 2 ^ n ≤ 2 ^ 40 := Nat.pow_le_pow_right (by omega) h
  rw [e, IntKind.wrap_i64]
  have e2 : (1 : Int) * 2 ^ n = ((2 ^ n : Nat) : Int) := by simp
  rw [e2]
  generalize 2 ^ n = m at h2 ⊢
  omega
theorem half_step (s i : Nat) : s / 2 ^ (i + 1) = s / 2 ^ i / 2 := by
  rw [Nat.pow_succ, Nat.div_div_eq_div_mul]
/-- The weights of the set's members. -/
def bw : List Int → Nat → Int
  | [], _ => 0
  | w :: ws, s => (if s % 2 = 1 then w else 0) + bw ws (s / 2)
/-- The set's members, from i on. -/
def mb : Nat → Nat → Nat → List Int
  | 0, _, _ => []
  | n + 1, i, s => if s % 2 = 1 then (i : Int) :: mb n (i + 1) (s / 2) else mb n (i + 1) (s / 2)
theorem mb_zero : ∀ n i : Nat, mb n i 0 = [] := by
  intro n
  induction n with
  | zero => intro i; rfl
  | succ n ih => intro i; simp [mb, ih]
theorem mb_more : ∀ (n i s : Nat), s < 2 ^ n → mb (n + 1) i s = mb n i s := by
  intro n
  induction n with
  | zero => intro i s h; (have h0 : s = 0 := by simpa using h); subst h0; simp [mb]
  | succ n ih =>
    intro i s h
    have h2 : s / 2 < 2 ^ n := by rw [Nat.pow_succ] at h; omega
    have := ih (i + 1) (s / 2) h2
    rw [mb, this]
    conv => rhs; rw [mb]
theorem mb_length : ∀ (n i s : Nat), (mb n i s).length ≤ n := by
  intro n
  induction n with
  | zero => intro i s; simp [mb]
  | succ n ih =>
    intro i s
    have := ih (i + 1) (s / 2)
    simp only [mb]; split <;> simp <;> omega
theorem bw_bound : ∀ (ws : List Int) (s : Nat) (hi : Int), 0 ≤ hi → (∀ w ∈ ws, 0 ≤ w ∧ w ≤ hi) → 0 ≤ bw ws s ∧ bw ws s ≤ (ws.length : Int) * hi := by
  intro ws
  induction ws with
  | nil => intro s hi _ _; simp [bw]
  | cons w ws ih =>
    intro s hi h0 h
    obtain ⟨h1, h2⟩ := ih (s / 2) hi h0 (fun x hx => h x (by simp [hx]))
    have h3 := h w (by simp)
    have e : (((w :: ws).length : Nat) : Int) * hi = (ws.length : Int) * hi + hi := by simp [Int.add_mul]
    rw [e]
    simp only [bw]
    split <;> omega
/-- Members as truth values. -/
def encB : List Bool → Nat
  | [] => 0
  | b :: bs => (if b then 1 else 0) + 2 * encB bs
theorem encB_lt : ∀ bs : List Bool, encB bs < 2 ^ bs.length := by
  intro bs
  induction bs with
  | nil => simp [encB]
  | cons b bs ih => simp only [encB, List.length_cons, Nat.pow_succ]; split <;> omega
theorem encB_mod (b : Bool) (bs : List Bool) : encB (b :: bs) % 2 = (if b then 1 else 0) := by simp only [encB]; split <;> omega
theorem encB_half (b : Bool) (bs : List Bool) : encB (b :: bs) / 2 = encB bs := by simp only [encB]; split <;> omega
def decB : Nat → Nat → List Bool
  | 0, _ => []
  | n + 1, s => (s % 2 == 1) :: decB n (s / 2)
theorem decB_length : ∀ n s : Nat, (decB n s).length = n := by
  intro n
  induction n with
  | zero => intro s; rfl
  | succ n ih => intro s; simp [decB, ih]
theorem enc_dec : ∀ n s : Nat, s < 2 ^ n → encB (decB n s) = s := by
  intro n
  induction n with
  | zero => intro s h; (have h0 : s = 0 := by simpa using h); subst h0; rfl
  | succ n ih =>
    intro s h
    have h2 : s / 2 < 2 ^ n := by rw [Nat.pow_succ] at h; omega
    simp only [decB, encB, ih _ h2]
    by_cases e : s % 2 = 1 <;> simp [e] <;> omega
/-- The weights of those that are in. -/
def bwB : List Int → List Bool → Int
  | w :: ws, b :: bs => (if b then w else 0) + bwB ws bs
  | _, _ => 0
theorem bw_enc : ∀ (ws : List Int) (bs : List Bool), ws.length = bs.length → bw ws (encB bs) = bwB ws bs := by
  intro ws
  induction ws with
  | nil => intro bs h; cases bs <;> simp [bw, bwB]
  | cons w ws ih =>
    intro bs h
    cases bs with
    | nil => simp at h
    | cons b bs =>
      simp only [bw, bwB, encB_mod, encB_half, ih bs (by simpa using h)]
      cases b <;> simp
theorem mem_mb : ∀ (bs : List Bool) (i : Nat) (x : Int), x ∈ mb bs.length i (encB bs) ↔ ∃ j : Nat, j < bs.length ∧ x = ((i + j : Nat) : Int) ∧ bs[j]? = some true := by
  intro bs
  induction bs with
  | nil => intro i x; simp [mb]
  | cons b bs ih =>
    intro i x
    simp only [List.length_cons, mb, encB_mod, encB_half]
    have key : (∃ j : Nat, j < bs.length ∧ x = ((i + 1 + j : Nat) : Int) ∧ bs[j]? = some true) ↔ ∃ j : Nat, 0 < j ∧ j < bs.length + 1 ∧ x = ((i + j : Nat) : Int) ∧ (b :: bs)[j]? = some true := by
      constructor
      · rintro ⟨j, h1, h2, h3⟩
        exact ⟨j + 1, by omega, by omega, by rw [h2]; congr 1; omega, by simpa using h3⟩
      · rintro ⟨j, h0, h1, h2, h3⟩
        obtain ⟨j, rfl⟩ : ∃ q, j = q + 1 := ⟨j - 1, by omega⟩
        exact ⟨j, by omega, by rw [h2]; congr 1; omega, by simpa using h3⟩
    cases b with
    | true =>
      rw [if_pos (by simp), List.mem_cons, ih, key]
      constructor
      · rintro (h | ⟨j, h0, h1, h2, h3⟩)
        · exact ⟨0, by omega, by simpa using h, by simp⟩
        · exact ⟨j, by omega, h2, h3⟩
      · rintro ⟨j, h1, h2, h3⟩
        rcases Nat.eq_zero_or_pos j with e | e
        · subst e; exact .inl (by simpa using h2)
        · exact .inr ⟨j, e, by omega, h2, h3⟩
    | false =>
      rw [if_neg (by simp), ih, key]
      constructor
      · rintro ⟨j, h0, h1, h2, h3⟩
        exact ⟨j, by omega, h2, h3⟩
      · rintro ⟨j, h1, h2, h3⟩
        rcases Nat.eq_zero_or_pos j with e | e
        · subst e; simp at h3
        · exact ⟨j, e, by omega, h2, h3⟩
theorem bwB_set : ∀ (ws : List Int) (bs : List Bool) (j : Nat) (v : Bool), ws.length = bs.length → j < bs.length → bwB ws (bs.set j v) = bwB ws bs - (if bs[j]? = some true then rd ws (j : Int) else 0) + (if v then rd ws (j : Int) else 0) := by
  intro ws
  induction ws with
  | nil => intro bs j v h hj; simp at h; omega
  | cons w ws ih =>
    intro bs j v h hj
    cases bs with
    | nil => simp at h
    | cons b bs =>
      cases j with
      | zero => simp only [List.set_cons_zero, bwB]; cases b <;> cases v <;> simp [rd] <;> omega
      | succ j =>
        have := ih bs j v (by simpa using h) (by simpa using hj)
        have e : rd (w :: ws) ((j + 1 : Nat) : Int) = rd ws (j : Int) := by simp [rd]
        simp only [List.set_cons_succ, bwB, List.getElem?_cons_succ, e, this]
        omega
theorem encB_set : ∀ (bs : List Bool) (j : Nat), bs[j]? = some false → encB (bs.set j true) = encB bs + 2 ^ j := by
  intro bs
  induction bs with
  | nil => intro j h; simp at h
  | cons b bs ih =>
    intro j h
    cases j with
    | zero => simp at h; subst h; simp [encB]; omega
    | succ j =>
      have := ih j (by simpa using h)
      simp only [List.set_cons_succ, encB, this, Nat.pow_succ]
      omega
def cntB (bs : List Bool) : Nat := (bs.filter id).length
theorem cntB_set : ∀ (bs : List Bool) (j : Nat), bs[j]? = some true → cntB (bs.set j false) + 1 = cntB bs := by
  intro bs
  induction bs with
  | nil => intro j h; simp at h
  | cons b bs ih =>
    intro j h
    cases j with
    | zero => simp at h; subst h; simp [cntB]
    | succ j =>
      have := ih j (by simpa using h)
      unfold cntB at this ⊢
      cases b <;> simp [List.filter_cons] <;> omega

/-! ### different -/
theorem flags_set {fl : List Bool} {n : Int} {seen : List Int} {x : Int} (hl : (fl.length : Int) = n) (h : ∀ j : Int, 0 ≤ j → j < n → rdOf false fl j = decide (j ∈ seen)) (h0 : 0 ≤ x) (h1 : x < n) :
    ∀ j : Int, 0 ≤ j → j < n → rdOf false (fl.set x.toNat true) j = decide (j ∈ seen ++ [x]) := by
  intro j hj0 hj
  have := h j hj0 hj
  simp only [rdOf, List.getD_eq_getElem?_getD, List.getElem?_set] at this ⊢
  by_cases e : x = j
  · subst e
    rw [if_pos rfl, if_pos (by omega)]
    simp
  · rw [if_neg (by omega), this]
    have : ¬ j = x := fun h => e h.symm
    simp [this]
theorem different_l0 (xs : List Int) (n : Int) (hb : xs.length < 4611686018427387904) : ∀ (d k i : Nat) (fl : List Bool), (fl.length : Int) = n → (∀ j : Int, 0 ≤ j → j < n → rdOf false fl j = decide (j ∈ xs.take i)) → i + d = xs.length → d < k → impl_differentBelow.l0 k n fl xs (xs.length : Int) (i : Int) = some (memB n (xs.take i) (xs.drop i)) := by
  intro d
  induction d with
  | zero =>
    intro k i fl hl hf hi hk
    obtain ⟨k, rfl, -⟩ := fuel hk
    simp only [impl_differentBelow.l0]
    rw [if_neg (by omega), drop_end (by omega)]
    simp [memB]
  | succ d ih =>
    intro k i fl hl hf hi hk
    obtain ⟨k, rfl, hk⟩ := fuel hk
    simp only [impl_differentBelow.l0]
    rw [if_pos (by omega), if_pos (by omega), if_pos (by omega), wrap_succ (by omega), drop_rd (by omega)]
    simp only [memB]
    by_cases h1 : rd xs (i : Int) < 0
    · rw [if_pos h1, decide_eq_false (by omega)]; rfl
    · rw [if_neg h1]
      by_cases h2 : rd xs (i : Int) ≥ n
      · rw [if_pos h2, decide_eq_false (by omega)]; rfl
      · rw [if_neg h2, if_pos (by omega), if_pos (by omega), hf _ (by omega) (by omega), decide_eq_true (show 0 ≤ rd xs (i : Int) ∧ rd xs (i : Int) < n by omega)]
        by_cases h3 : rd xs (i : Int) ∈ xs.take i
        · rw [decide_eq_true h3, if_pos rfl]; rfl
        · rw [decide_eq_false h3, if_neg (by decide), ih k (i + 1) _ (by simpa using hl) (by rw [take_rd (by omega)]; exact flags_set hl hf (by omega) (by omega)) (by omega) (by omega), take_rd (by omega)]; rfl
theorem different_spec (k : Nat) (xs : List Int) (n : Int) (hn : 0 ≤ n) (hn2 : n ≤ 281474976710656) (hb : xs.length < 4611686018427387904) (hk : xs.length < k) : impl_differentBelow.f k xs n = some (decide (GoodM xs n)) := by
  unfold impl_differentBelow.f
  by_cases h : (xs.length : Int) > n
  · rw [if_pos h, decide_eq_false]
    intro hg
    obtain ⟨m, rfl⟩ := Int.eq_ofNat_of_zero_le hn
    have := hg.le
    omega
  · rw [if_neg h, if_pos hn, if_pos (by omega)]
    have := different_l0 xs n hb xs.length k 0 (List.replicate n.toNat false) (by simp; omega) (fun j h0 h1 => by simp [rdOf, List.getD_eq_getElem?_getD, List.getElem?_replicate]; split <;> rfl) (by omega) hk
    rw [← memB_good]
    simpa using this

/-! ### place -/
theorem placeIn_l0 (xs : List Int) (x : Int) (hb : xs.length < 4611686018427387904) : ∀ (d k i : Nat), i + d = xs.length → d < k → spec_placeIn.l0 k xs x (i : Int) = some (idxM (xs.drop i) x i) := by
  intro d
  induction d with
  | zero =>
    intro k i hi hk
    obtain ⟨k, rfl, -⟩ := fuel hk
    simp only [spec_placeIn.l0]
    rw [if_neg (by omega), drop_end (by omega)]
    simp [idxM]
  | succ d ih =>
    intro k i hi hk
    obtain ⟨k, rfl, hk⟩ := fuel hk
    simp only [spec_placeIn.l0]
    rw [if_pos (by omega), if_pos (by omega), wrap_succ (by omega), drop_rd (by omega)]
    simp only [idxM]
    rw [ih k (i + 1) (by omega) (by omega)]
    split <;> rfl
theorem placeIn_spec (k : Nat) (xs : List Int) (x : Int) (hb : xs.length < 4611686018427387904) (hk : xs.length < k) : spec_placeIn.f k xs x = some (idxM xs x 0) := by
  unfold spec_placeIn.f
  have := placeIn_l0 xs x hb xs.length k 0 (by omega) hk
  simpa using this

/-! ### inrange -/
theorem inRange_spec (a lo up : Int) : spec_inRange.f a lo up = some (decide (lo ≤ a ∧ a ≤ up)) := by
  unfold spec_inRange.f
  by_cases h : lo ≤ a <;> simp [h]

/-! ### members -/
theorem validMembers_l0 (xs : List Int) (n : Int) (hb : xs.length < 4611686018427387904) : ∀ (d k i : Nat), i + d = xs.length → xs.length + d < k → spec_validMembers.l0 k xs n (i : Int) = some (memB (wrap64 (n - 1) + 1) (xs.take i) (xs.drop i)) := by
  intro d
  induction d with
  | zero =>
    intro k i hi hk
    obtain ⟨k, rfl, -⟩ := fuel hk
    simp only [spec_validMembers.l0]
    rw [if_neg (by omega), drop_end (by omega)]
    simp [memB]
  | succ d ih =>
    intro k i hi hk
    obtain ⟨k, rfl, hk⟩ := fuel hk
    simp only [spec_validMembers.l0]
    rw [if_pos (by omega), if_pos (by omega), inRange_spec, wrap_succ (i := i) (by omega), drop_rd (by omega), toNat_cast]
    rw [placeIn_spec _ _ _ (by simp; omega) (by simp; omega)]
    simp only [Option.bind_some]
    rw [if_pos (show (i : Int) ≤ (xs.length : Int) by omega), ih k (i + 1) (by omega) (by omega), take_rd (by omega)]
    simp only [memB]
    by_cases h1 : 0 ≤ rd xs (i : Int) ∧ rd xs (i : Int) < wrap64 (n - 1) + 1
    · rw [decide_eq_true h1, decide_eq_true (show 0 ≤ rd xs (i : Int) ∧ rd xs (i : Int) ≤ wrap64 (n - 1) by omega), if_pos rfl]
      have h2 := idxM_nonneg (xs.take i) (rd xs (i : Int)) 0
      by_cases h3 : rd xs (i : Int) ∈ xs.take i
      · rw [if_pos (h2.2 h3), decide_eq_true h3]; rfl
      · rw [if_neg (fun h => h3 (h2.1 h)), decide_eq_false h3]; rfl
    · rw [decide_eq_false h1, decide_eq_false (show ¬ (0 ≤ rd xs (i : Int) ∧ rd xs (i : Int) ≤ wrap64 (n - 1)) by omega), if_neg (by decide)]; rfl
theorem validMembers_any (k : Nat) (xs : List Int) (n : Int) (hb : xs.length < 4611686018427387904) (hk : xs.length + xs.length < k) : spec_validMembers.f k xs n = some (decide (GoodM xs (wrap64 (n - 1) + 1))) := by
  unfold spec_validMembers.f
  have := validMembers_l0 xs n hb xs.length k 0 (by omega) hk
  rw [← memB_good]
  simpa using this
theorem validMembers_spec (k : Nat) (xs : List Int) (n : Int) (hn : -4611686018427387904 ≤ n) (hn2 : n ≤ 4611686018427387904) (hb : xs.length < 4611686018427387904) (hk : xs.length + xs.length < k) : spec_validMembers.f k xs n = some (decide (GoodM xs n)) := by
  rw [validMembers_any k xs n hb hk, wrap_id (x := n - 1) (by omega) (by omega), Int.sub_add_cancel]

/-! ### locksbig -/
mutual
/-- May the lock be, and all in it? -/
def okM : S26 → Prop
  | ⟨need, ms, ks⟩ => 1 ≤ need ∧ need ≤ ((ms.length + ks.length : Nat) : Int) ∧ ms.length + ks.length ≤ 8 ∧ GoodM ms 8 ∧ okK ks
def okK : List S26 → Prop
  | [] => True
  | l :: ls => okM l ∧ okK ls
end
mutual
/-- How many locks it is. -/
def szM : S26 → Nat
  | ⟨_, _, ks⟩ => 1 + szK ks
def szK : List S26 → Nat
  | [] => 0
  | l :: ls => szM l + szK ls
end
mutual
/-- How long it takes. -/
def fuM : S26 → Nat
  | ⟨_, ms, ks⟩ => 60 + ms.length + ms.length + fuK ks
def fuK : List S26 → Nat
  | [] => 0
  | l :: ls => 1 + fuM l + fuK ls
end
/-- How many of the members are in. -/
def cntM (s : Nat) : List Int → Int
  | [] => 0
  | m :: ms => ((s / 2 ^ m.toNat % 2 : Nat) : Int) + cntM s ms
mutual
/-- Does the set open the lock? -/
def opM : S26 → Nat → Bool
  | ⟨need, ms, ks⟩, s => decide (cntM s ms + opK ks s ≥ need)
def opK : List S26 → Nat → Int
  | [], _ => 0
  | l :: ls, s => (if opM l s then 1 else 0) + opK ls s
end
theorem okK_cons (l : S26) (ls : List S26) : okK (l :: ls) ↔ okM l ∧ okK ls := by simp only [okK]
theorem szK_cons (l : S26) (ls : List S26) : szK (l :: ls) = szM l + szK ls := by simp only [szK]
theorem okM_mk (need : Int) (ms : List Int) (ks : List S26) : okM ⟨need, ms, ks⟩ ↔ 1 ≤ need ∧ need ≤ ((ms.length + ks.length : Nat) : Int) ∧ ms.length + ks.length ≤ 8 ∧ GoodM ms 8 ∧ okK ks := by simp only [okM]
theorem szM_mk (need : Int) (ms : List Int) (ks : List S26) : szM ⟨need, ms, ks⟩ = 1 + szK ks := by simp only [szM]
theorem opK_cons (l : S26) (ls : List S26) (s : Nat) : opK (l :: ls) s = (if opM l s = true then 1 else 0) + opK ls s := by simp only [opK]
theorem opM_mk (need : Int) (ms : List Int) (ks : List S26) (s : Nat) : opM ⟨need, ms, ks⟩ s = decide (cntM s ms + opK ks s ≥ need) := by simp only [opM]
theorem szM_pos (l : S26) : 1 ≤ szM l := by
  obtain ⟨n, ms, ks⟩ := l; simp [szM]
theorem fuM_big (l : S26) : 60 ≤ fuM l := by
  obtain ⟨n, ms, ks⟩ := l; simp [fuM]; omega
theorem fuK_length (ls : List S26) : ls.length ≤ fuK ls := by
  induction ls with
  | nil => simp [fuK]
  | cons l ls ih => simp [fuK]; omega
theorem rdT_at {xs : List S26} {i : Nat} (h : i < xs.length) : rd_T26 xs (i : Int) = xs[i] := by
  simp [rd_T26, List.getD_eq_getElem?_getD, List.getElem?_eq_getElem h]
theorem drop_rdT {xs : List S26} {i : Nat} (h : i < xs.length) : xs.drop i = rd_T26 xs (i : Int) :: xs.drop (i + 1) := by
  rw [rdT_at h, List.drop_eq_getElem_cons h]
noncomputable instance (l : S26) : Decidable (okM l) := Classical.propDecidable _
noncomputable instance (ls : List S26) : Decidable (okK ls) := Classical.propDecidable _
theorem fuK_drop (ls : List S26) : ∀ i : Nat, fuK (ls.drop i) ≤ fuK ls := by
  induction ls with
  | nil => intro i; simp
  | cons l ls ih =>
    intro i
    cases i with
    | zero => simp
    | succ i => have := ih i; simp only [List.drop_succ_cons, fuK]; omega
theorem fuM_mem {l : S26} : ∀ {ls : List S26}, l ∈ ls → fuM l + 1 ≤ fuK ls := by
  intro ls
  induction ls with
  | nil => intro h; simp at h
  | cons x ls ih =>
    intro h
    simp only [fuK]
    rcases List.mem_cons.1 h with h | h
    · subst h; omega
    · have := ih h; omega
/-- The count's value: what it is, or more than 12. -/
def Counts (l : S26) (most r : Int) : Prop := (okM l ∧ (szM l : Int) ≤ most → r = (szM l : Int)) ∧ (¬ (okM l ∧ (szM l : Int) ≤ most) → 12 < r) ∧ r ≤ 13 + 12 * fuM l
def CountK (ls : List S26) (most c r : Int) : Prop := (okK ls ∧ c + szK ls ≤ most → r = c + szK ls) ∧ (¬ (okK ls ∧ c + szK ls ≤ most) → 12 < r) ∧ r ≤ 25 + 12 * fuK ls
theorem lockCount_k (most : Int) (hm : most ≤ 12) (ls : List S26) (hll : ls.length ≤ 1000) (hfb : fuK ls ≤ 1000000000) (ih : ∀ l ∈ ls, ∀ (k : Nat) (most : Int), most ≤ 12 → -1000 ≤ most → fuM l < k → ∃ r, impl_lockCount.f k l.f0 l.f1 l.f2 most = some r ∧ Counts l most r) :
    ∀ (d k i : Nat) (c : Int), i + d = ls.length → fuK (ls.drop i) < k → 1 ≤ c → c ≤ most → ∃ r, impl_lockCount.l0 k most c ls (ls.length : Int) (i : Int) = some r ∧ CountK (ls.drop i) most c r := by
  intro d
  induction d with
  | zero =>
    intro k i c hi hk h1 h2
    obtain ⟨k, rfl, -⟩ := fuel (show 0 < k by omega)
    simp only [impl_lockCount.l0]
    rw [if_neg (by omega), drop_end (by omega)]
    refine ⟨c, rfl, ?_⟩
    simp only [CountK, okK, szK, fuK]
    exact ⟨fun _ => by simp, fun h => absurd ⟨trivial, by simpa using h2⟩ h, by omega⟩
  | succ d ih2 =>
    intro k i c hi hk h1 h2
    have hd := drop_rdT (xs := ls) (i := i) (by omega)
    rw [hd] at hk ⊢
    have hmem : rd_T26 ls (i : Int) ∈ ls := by rw [rdT_at (by omega)]; exact List.getElem_mem _
    have hf1 := fuK_drop ls i
    rw [hd] at hf1
    simp only [fuK] at hf1 hk
    obtain ⟨k, rfl, hk'⟩ := fuel (show 0 < k by omega)
    simp only [impl_lockCount.l0]
    obtain ⟨r, hr, r1, r2, r3⟩ := ih _ hmem k (most - c) (by omega) (by omega) (by omega)
    rw [if_pos (by omega), if_pos (by omega), if_pos (by omega), wrap_id (x := most - c) (by omega) (by omega), hr, Option.bind_some, wrap_succ (by omega)]
    generalize rd_T26 ls (i : Int) = l at *
    have hsz := szM_pos l
    by_cases hok : okM l ∧ (szM l : Int) ≤ most - c
    · have e := r1 hok
      subst e
      rw [wrap_id (by omega) (by omega), if_neg (by omega)]
      obtain ⟨r', hr', s1, s2, s3⟩ := ih2 k (i + 1) (c + szM l) (by omega) (by omega) (by omega) (by omega)
      refine ⟨r', hr', ?_⟩
      simp only [CountK, okK, szK, fuK]
      refine ⟨fun h => ?_, fun h => s2 (fun h2 => h ⟨⟨hok.1, h2.1⟩, by omega⟩), by omega⟩
      have := s1 ⟨h.1.2, by omega⟩
      omega
    · have e := r2 hok
      rw [wrap_id (by omega) (by omega), if_pos (by omega)]
      refine ⟨_, rfl, ?_⟩
      simp only [CountK, okK, szK, fuK]
      exact ⟨fun h => absurd ⟨h.1.1, by omega⟩ hok, fun _ => by omega, by omega⟩
theorem lockCount_spec : ∀ (n : Nat) (l : S26), fuM l ≤ n → n ≤ 1000000000 → ∀ (k : Nat) (most : Int), most ≤ 12 → -1000 ≤ most → fuM l < k → ∃ r, impl_lockCount.f k l.f0 l.f1 l.f2 most = some r ∧ Counts l most r := by
  intro n
  induction n with
  | zero => intro l h; have := fuM_big l; omega
  | succ n ih =>
    intro l hl hn k most hm1 hm2 hk
    obtain ⟨need, ms, ks⟩ := l
    have hkl := fuK_length ks
    simp only [fuM] at hl hk
    obtain ⟨k, rfl, hk'⟩ := fuel (show 0 < k by omega)
    obtain ⟨k, rfl, hk''⟩ := fuel (show 0 < k by omega)
    simp only [impl_lockCount.f, impl_lockCount.j0, if_true]
    have bad : ¬ (okM ⟨need, ms, ks⟩ ∧ (szM (⟨need, ms, ks⟩ : S26) : Int) ≤ most) → Counts ⟨need, ms, ks⟩ most 13 := fun h => ⟨fun h2 => absurd h2 h, fun _ => by omega, by omega⟩
    rw [wrap_id (x := (ms.length : Int) + (ks.length : Int)) (by omega) (by omega)]
    by_cases h1 : most < 1
    · rw [if_pos h1]
      exact ⟨13, rfl, bad (fun h => by have := szM_pos ⟨need, ms, ks⟩; omega)⟩
    · rw [if_neg h1]
      by_cases h2 : (ms.length : Int) + (ks.length : Int) > 8
      · rw [if_pos h2]
        exact ⟨13, rfl, bad (fun h => by have := h.1; simp only [okM] at this; omega)⟩
      · rw [if_neg h2]
        by_cases h3 : need < 1
        · rw [if_pos h3]
          exact ⟨13, rfl, bad (fun h => by have := h.1; simp only [okM] at this; omega)⟩
        · rw [if_neg h3]
          by_cases h4 : need > (ms.length : Int) + (ks.length : Int)
          · rw [if_pos h4]
            exact ⟨13, rfl, bad (fun h => by have := h.1; simp only [okM] at this; omega)⟩
          · rw [if_neg h4, different_spec _ _ _ (by omega) (by omega) (by omega) (by omega), Option.bind_some]
            by_cases h5 : GoodM ms 8
            · rw [decide_eq_true h5]
              obtain ⟨r, hr, s1, s2, s3⟩ := lockCount_k most hm1 ks (by omega) (by omega) (fun l' hl' k' most' a1 a2 a3 => ih l' (by have := fuM_mem hl'; omega) (by omega) k' most' a1 a2 a3) ks.length k 0 1 (by omega) (by rw [List.drop_zero]; omega) (by omega) (by omega)
              rw [List.drop_zero] at s1 s2 s3
              refine ⟨r, by rw [Bool.not_true, if_neg (by decide)]; exact hr, ?_⟩
              simp only [Counts, okM, szM, fuM]
              refine ⟨fun h => ?_, fun h => s2 (fun h6 => h ⟨⟨by omega, by omega, by omega, h5, h6.1⟩, by omega⟩), by omega⟩
              have := s1 ⟨h.1.2.2.2.2, by omega⟩
              omega
            · rw [decide_eq_false h5]
              exact ⟨13, by simp, bad (fun h => by have := h.1; simp only [okM] at this; exact h5 this.2.2.2.1)⟩
/-- A valid lock. -/
def OkLock (l : S26) : Prop := okM l ∧ szM l ≤ 12
noncomputable instance (l : S26) : Decidable (OkLock l) := Classical.propDecidable _
theorem implValidLock_spec (k : Nat) (l : S26) (hf : fuM l ≤ 1000000000) (hk : fuM l < k) : impl_ValidLock.f k l.f0 l.f1 l.f2 = some (decide (OkLock l)) := by
  unfold impl_ValidLock.f
  obtain ⟨r, hr, r1, r2, r3⟩ := lockCount_spec _ l (Nat.le_refl _) hf k 12 (by omega) (by omega) hk
  rw [hr, Option.bind_some]
  congr 1
  rw [decide_eq_decide]
  unfold OkLock
  by_cases h : okM l ∧ (szM l : Int) ≤ 12
  · have := r1 h
    exact ⟨fun _ => ⟨h.1, by omega⟩, fun _ => by omega⟩
  · have := r2 h
    exact ⟨fun h2 => by omega, fun h2 => absurd ⟨h2.1, by omega⟩ h⟩

/-! ### hasbits -/
/-! ### lockspecbig -/
def finM (need : Int) (ms : List Int) (n : Nat) (t : Int) : Prop := t ≤ 12 ∧ GoodM ms 8 ∧ 1 ≤ need ∧ need ≤ ((ms.length + n : Nat) : Int) ∧ ms.length + n ≤ 8
instance (need : Int) (ms : List Int) (n : Nat) (t : Int) : Decidable (finM need ms n t) := inferInstanceAs (Decidable (_ ∧ _))
theorem lockSize_k (need : Int) (ms : List Int) (ks : List S26) (hms : ms.length ≤ 1000000000) (hfb : fuK ks ≤ 1000000000) (ih : ∀ l ∈ ks, ∀ (k : Nat), fuM l < k → spec_lockSize.f k l.f0 l.f1 l.f2 = some (if OkLock l then (szM l : Int) else -1)) :
    ∀ (d k i : Nat) (x : Int), i + d = ks.length → fuK (ks.drop i) + (ms.length + ms.length) + 20 < k → 1 ≤ x → x ≤ 1 + 12 * i → spec_lockSize.l0 k x (i : Int) need ms ks = some (if okK (ks.drop i) ∧ finM need ms ks.length (x + szK (ks.drop i)) then x + szK (ks.drop i) else -1) := by
  have hkl := fuK_length ks
  intro d
  induction d with
  | zero =>
    intro k i x hi hk h1 h2
    obtain ⟨k, rfl, hk'⟩ := fuel (show 0 < k by omega)
    simp only [spec_lockSize.l0]
    rw [if_neg (by omega), drop_end (by omega)]
    have e0 : okK [] := by simp only [okK]
    have e1 : szK [] = 0 := by simp only [szK]
    rw [e1, Int.natCast_zero, Int.add_zero]
    by_cases h3 : x > 12
    · rw [if_pos h3, if_neg (fun h => by have := h.2.1; omega)]
    · rw [if_neg h3, validMembers_spec _ _ _ (by omega) (by omega) (by omega) (by rw [drop_end (by omega)] at hk; simp only [fuK] at hk; omega), Option.bind_some]
      by_cases h4 : GoodM ms 8
      · rw [decide_eq_true h4, if_pos rfl, inRange_spec, Option.bind_some, wrap_id (x := (ms.length : Int) + (ks.length : Int)) (by omega) (by omega)]
        by_cases h5 : 1 ≤ need ∧ need ≤ (ms.length : Int) + (ks.length : Int)
        · rw [decide_eq_true h5, if_pos rfl]
          by_cases h6 : (ms.length : Int) + (ks.length : Int) > 8
          · rw [if_pos h6, if_neg (fun h => by have := h.2.2.2.2.2; omega)]
          · rw [if_neg h6, if_pos ⟨e0, by omega, h4, by omega, by omega, by omega⟩]
        · rw [decide_eq_false h5, if_neg (by decide), if_neg (fun h => h5 ⟨h.2.2.2.1, by have := h.2.2.2.2.1; omega⟩)]
      · rw [decide_eq_false h4, if_neg (by decide), if_neg (fun h => h4 h.2.2.1)]
  | succ d ih2 =>
    intro k i x hi hk h1 h2
    have hd := drop_rdT (xs := ks) (i := i) (by omega)
    rw [hd] at hk ⊢
    have hmem : rd_T26 ks (i : Int) ∈ ks := by rw [rdT_at (by omega)]; exact List.getElem_mem _
    simp only [fuK] at hk
    obtain ⟨k, rfl, hk'⟩ := fuel (show 0 < k by omega)
    simp only [spec_lockSize.l0]
    rw [if_pos (by omega), if_pos (by omega), ih _ hmem k (by omega), Option.bind_some, wrap_succ (by omega)]
    generalize rd_T26 ks (i : Int) = l at *
    rw [szK_cons]
    have hsz := szM_pos l
    by_cases hok : OkLock l
    · rw [if_pos hok, if_neg (by omega)]
      obtain ⟨o1, o2⟩ := hok
      rw [wrap_id (by omega) (by omega), ih2 k (i + 1) _ (by omega) (by omega) (by omega) (by omega)]
      have e : x + (szM l : Int) + (szK (ks.drop (i + 1)) : Int) = x + ((szM l + szK (ks.drop (i + 1)) : Nat) : Int) := by omega
      rw [e]
      congr 1
      by_cases hr : okK (ks.drop (i + 1)) ∧ finM need ms ks.length (x + ((szM l + szK (ks.drop (i + 1)) : Nat) : Int))
      · rw [if_pos hr, if_pos ⟨(okK_cons _ _).2 ⟨o1, hr.1⟩, hr.2⟩]
      · rw [if_neg hr, if_neg (fun h => hr ⟨((okK_cons _ _).1 h.1).2, h.2⟩)]
    · rw [if_neg hok, if_pos (by omega), if_neg]
      rintro ⟨a, a3⟩
      obtain ⟨a1, a2⟩ := (okK_cons _ _).1 a
      refine hok ⟨a1, ?_⟩
      have := a3.1
      omega
theorem lockSize_spec : ∀ (n : Nat) (l : S26), fuM l ≤ n → n ≤ 1000000000 → ∀ (k : Nat), fuM l < k → spec_lockSize.f k l.f0 l.f1 l.f2 = some (if OkLock l then (szM l : Int) else -1) := by
  intro n
  induction n with
  | zero => intro l h; have := fuM_big l; omega
  | succ n ih =>
    intro l hl hn k hk
    obtain ⟨need, ms, ks⟩ := l
    have hkl := fuK_length ks
    simp only [fuM] at hl hk
    obtain ⟨k, rfl, hk'⟩ := fuel (show 0 < k by omega)
    simp only [spec_lockSize.f]
    have := lockSize_k need ms ks (by omega) (by omega) (fun l' hl' k' a => ih l' (by have := fuM_mem hl'; omega) (by omega) k' a) ks.length k 0 1 (by omega) (by rw [List.drop_zero]; omega) (by omega) (by omega)
    rw [List.drop_zero] at this
    rw [cast0] at this
    rw [this]
    congr 1
    rw [szM_mk]
    by_cases h : okK ks ∧ finM need ms ks.length (1 + (szK ks : Int))
    · obtain ⟨h1, h2, h3, h4, h5, h6⟩ := h
      rw [if_pos ⟨h1, h2, h3, h4, h5, h6⟩, if_pos (show OkLock ⟨need, ms, ks⟩ from ⟨(okM_mk _ _ _).2 ⟨h4, h5, h6, h3, h1⟩, by rw [szM_mk]; omega⟩)]
      omega
    · rw [if_neg h, if_neg]
      rintro ⟨a, a6⟩
      obtain ⟨a1, a2, a3, a4, a5⟩ := (okM_mk _ _ _).1 a
      rw [szM_mk] at a6
      exact h ⟨a5, by omega, a4, a1, a2, a3⟩
/-- The member's bit. -/
theorem cnt_bound (s : Nat) : ∀ ms : List Int, 0 ≤ cntM s ms ∧ cntM s ms ≤ ms.length := by
  intro ms
  induction ms with
  | nil => simp [cntM]
  | cons m ms ih => simp only [cntM, List.length_cons]; omega
theorem opK_bound (s : Nat) : ∀ ks : List S26, 0 ≤ opK ks s ∧ opK ks s ≤ ks.length := by
  intro ks
  induction ks with
  | nil => simp [opK]
  | cons l ks ih => simp only [opK, List.length_cons]; split <;> omega
theorem okK_mem {l : S26} : ∀ {ls : List S26}, okK ls → l ∈ ls → okM l := by
  intro ls
  induction ls with
  | nil => intro _ h; simp at h
  | cons x ls ih =>
    intro h hm
    simp only [okK] at h
    rcases List.mem_cons.1 hm with e | e
    · subst e; exact h.1
    · exact ih h.2 e
/-- More members open no less. -/
theorem cntM_mono (s t : Nat) : ∀ ms : List Int, (∀ m ∈ ms, s / 2 ^ m.toNat % 2 = 1 → t / 2 ^ m.toNat % 2 = 1) → cntM s ms ≤ cntM t ms := by
  intro ms
  induction ms with
  | nil => intro _; simp [cntM]
  | cons m ms ih =>
    intro h
    have h1 := ih (fun x hx => h x (by simp [hx]))
    have h2 := h m (by simp)
    simp only [cntM]
    omega
theorem opM_mono (s t : Nat) (h : ∀ j : Nat, j < 8 → s / 2 ^ j % 2 = 1 → t / 2 ^ j % 2 = 1) : ∀ (n : Nat) (l : S26), fuM l ≤ n → okM l → opM l s = true → opM l t = true := by
  intro n
  induction n with
  | zero => intro l hl; have := fuM_big l; omega
  | succ n ih =>
    intro l hl hok ho
    obtain ⟨need, ms, ks⟩ := l
    simp only [fuM] at hl
    obtain ⟨a1, a2, a3, a4, a5⟩ := (okM_mk _ _ _).1 hok
    rw [opM_mk, decide_eq_true_eq] at ho ⊢
    have h1 := cntM_mono s t ms (fun m hm => h m.toNat (by have := a4.2 m hm; omega))
    have h2 : ∀ ls : List S26, (∀ l ∈ ls, l ∈ ks) → opK ls s ≤ opK ls t := by
      intro ls
      induction ls with
      | nil => intro _; simp [opK]
      | cons x ls ih2 =>
        intro hsub
        have h3 := ih2 (fun y hy => hsub y (by simp [hy]))
        have hx := hsub x (by simp)
        have h4 := ih x (by have := fuM_mem hx; omega) (okK_mem a5 hx)
        rw [opK_cons, opK_cons]
        by_cases ho1 : opM x s = true
        · rw [if_pos ho1, if_pos (h4 ho1)]; omega
        · rw [if_neg ho1]; split <;> omega
    have := h2 ks (fun _ h => h)
    omega

/-! ### within -/
theorem allWithin_l0 (xs : List Int) (lo up : Int) (hb : xs.length < 4611686018427387904) : ∀ (d k i : Nat), i + d = xs.length → d < k → impl_allWithin.l0 k lo up xs (xs.length : Int) (i : Int) = some ((xs.drop i).all fun x => decide (lo ≤ x ∧ x ≤ up)) := by
  intro d
  induction d with
  | zero =>
    intro k i hi hk
    obtain ⟨k, rfl, -⟩ := fuel hk
    simp only [impl_allWithin.l0]
    rw [if_neg (by omega), drop_end (by omega)]
    simp
  | succ d ih =>
    intro k i hi hk
    obtain ⟨k, rfl, hk⟩ := fuel hk
    simp only [impl_allWithin.l0]
    rw [if_pos (by omega), if_pos (by omega), if_pos (by omega), wrap_succ (by omega), drop_rd (by omega)]
    simp only [List.all_cons]
    rw [ih k (i + 1) (by omega) (by omega)]
    by_cases h1 : rd xs (i : Int) < lo
    · rw [if_pos h1, decide_eq_false (by omega)]; rfl
    · rw [if_neg h1]
      by_cases h2 : rd xs (i : Int) > up
      · rw [if_pos h2, decide_eq_false (by omega)]; rfl
      · rw [if_neg h2, decide_eq_true (by omega)]; rfl
theorem allWithin_spec (k : Nat) (xs : List Int) (lo up : Int) (hb : xs.length < 4611686018427387904) (hk : xs.length < k) : impl_allWithin.f k xs lo up = some (xs.all fun x => decide (lo ≤ x ∧ x ≤ up)) := by
  unfold impl_allWithin.f
  have := allWithin_l0 xs lo up hb xs.length k 0 (by omega) hk
  simpa using this

/-! ### polyat -/
theorem hornW_eq {x : Int} (hx : 0 ≤ x ∧ x < 251) : ∀ zs : List Int, Rests zs → hornW zs x = hornM zs x := by
  intro zs
  induction zs with
  | nil => intro _; rfl
  | cons c t ih =>
    intro h
    have hc := h c (by simp)
    have hr := hornM_range t x
    have hb : 0 ≤ hornM t x * x := Int.mul_nonneg (by omega) (by omega)
    have hb2 : hornM t x * x ≤ 250 * 250 := Int.mul_le_mul (by omega) (by omega) (by omega) (by omega)
    simp only [hornW, hornM]
    rw [ih fun d hd => h d (by simp [hd]), wrap_id (x := hornM t x * x) (by omega) (by omega), wrap_id (by omega) (by omega), Int.tmod_eq_emod_of_nonneg (by omega)]
instance (cs : List Int) : Decidable (Rests cs) := by unfold Rests; infer_instance
theorem ivalidCoefs_spec (k : Nat) (cs : List Int) (hk : 10 < k) : impl_validCoefs.f k cs = some (decide (cs.length ≤ 8 ∧ Rests cs)) := by
  unfold impl_validCoefs.f
  by_cases h : (cs.length : Int) ≤ 8
  · rw [if_pos h, allWithin_spec k cs 0 250 (by omega) (by omega), Option.bind_some]
    congr 1
    rw [Bool.eq_iff_iff, decide_eq_true_iff, List.all_eq_true]
    constructor
    · exact fun h2 => ⟨by omega, fun c hc => by have := h2 c hc; simp at this; omega⟩
    · exact fun h2 c hc => by have := h2.2 c hc; simp; omega
  · rw [if_neg h, decide_eq_false (fun h2 => h (by omega))]
theorem ipolyAt_spec (k : Nat) (cs : List Int) (x : Int) (hr : Rests cs) (hl : cs.length ≤ 8) (hx : 0 ≤ x ∧ x < 251) (hk : 10 < k) : impl_PolyAt.f k cs x = some (hornM cs x) := by
  unfold impl_PolyAt.f
  rw [ivalidCoefs_spec k cs hk, decide_eq_true ⟨hl, hr⟩, Option.bind_some, if_pos rfl, if_neg (by omega), if_neg (by omega), if_pos (by omega), hornW_eq hx cs hr]

/-! ### ranges -/
/-! ### spolyat -/
theorem spolyAt_l0 (cs : List Int) (x : Int) (hr : Rests cs) (hx : 0 ≤ x ∧ x < 251) (hb : cs.length ≤ 1000) : ∀ (i k : Nat), i ≤ cs.length → i < k → spec_polyAt.l0 k cs x (hornM (cs.drop i) x) ((i : Int) - 1) = some (hornM cs x) := by
  intro i
  induction i with
  | zero =>
    intro k hi hk
    obtain ⟨k, rfl, -⟩ := fuel hk
    simp only [spec_polyAt.l0]
    rw [if_neg (by omega), List.drop_zero]
  | succ i ih =>
    intro k hi hk
    obtain ⟨k, rfl, hk⟩ := fuel hk
    simp only [spec_polyAt.l0]
    have e : ((i + 1 : Nat) : Int) - 1 = (i : Int) := by omega
    have hm := hornM_range (cs.drop (i + 1)) x
    have hc := hr _ (rd_mem (xs := cs) (i := i) (by omega))
    have n0 : 0 ≤ hornM (cs.drop (i + 1)) x * x := Int.mul_nonneg (by omega) (by omega)
    have n1 : hornM (cs.drop (i + 1)) x * x ≤ 250 * 250 := Int.mul_le_mul (by omega) (by omega) (by omega) (by omega)
    rw [e, if_pos (by omega), if_pos (by omega), if_pos (by omega), wrap_id (x := hornM (cs.drop (i + 1)) x * x) (by omega) (by omega), wrap_id (x := hornM (cs.drop (i + 1)) x * x + rd cs (i : Int)) (by omega) (by omega), wrap_id (by omega) (by omega), Int.tmod_eq_emod_of_nonneg (by omega)]
    have := ih k (by omega) (by omega)
    rw [drop_rd (by omega)] at this
    exact this
theorem spolyAt_spec (k : Nat) (cs : List Int) (x : Int) (hr : Rests cs) (hx : 0 ≤ x ∧ x < 251) (hb : cs.length ≤ 1000) (hk : cs.length < k) : spec_polyAt.f k cs x = some (hornM cs x) := by
  unfold spec_polyAt.f
  rw [wrap_id (by omega) (by omega)]
  have := spolyAt_l0 cs x hr hx hb cs.length k (Nat.le_refl _) hk
  rw [List.drop_length] at this
  exact this

/-! ### exactints -/
theorem toIntS_l0 (xs : List Int) (hb : xs.length < 4611686018427387904) : ∀ (d k i : Nat), i + d = xs.length → d < k → laws_toIntS.l0 k xs (xs.take i ++ List.replicate d 0) (i : Int) = some xs := by
  intro d
  induction d with
  | zero =>
    intro k i hi hk
    obtain ⟨k, rfl, -⟩ := fuel hk
    have e : xs.take i = xs := List.take_of_length_le (by omega)
    simp only [laws_toIntS.l0]
    rw [if_neg (by omega), e]; simp
  | succ d ih =>
    intro k i hi hk
    obtain ⟨k, rfl, hk⟩ := fuel hk
    have hti : (xs.take i).length = i := by simp; omega
    have := ih k (i + 1) (by omega) (by omega)
    rw [take_rd (by omega)] at this
    simp only [laws_toIntS.l0]
    rw [if_pos (by omega), if_pos (by omega), if_pos (by simp; omega), toNat_cast, set_fill' hti, wrap_succ (by omega)]
    exact this
theorem toIntS_spec (k : Nat) (xs : List Int) (hb : xs.length ≤ 35184372088832) (hk : xs.length < k) : laws_toIntS.f k xs = some xs := by
  unfold laws_toIntS.f
  have := toIntS_l0 xs (by omega) xs.length k 0 (by omega) hk
  rw [if_pos (by omega), if_pos (by simpa using hb), toNat_cast]
  simpa using this
theorem eqIntS_l0 (a b : List Int) (hl : a.length = b.length) (hb : a.length < 4611686018427387904) : ∀ (d k i : Nat), i + d = a.length → d < k → laws_eqIntS.l0 k a b (i : Int) = some (decide (a.drop i = b.drop i)) := by
  intro d
  induction d with
  | zero =>
    intro k i hi hk
    obtain ⟨k, rfl, -⟩ := fuel hk
    simp only [laws_eqIntS.l0]
    rw [if_neg (by omega), drop_end (by omega), drop_end (by omega)]
    simp
  | succ d ih =>
    intro k i hi hk
    obtain ⟨k, rfl, hk⟩ := fuel hk
    simp only [laws_eqIntS.l0]
    rw [if_pos (by omega), if_pos (by omega), if_pos (by omega), wrap_succ (by omega), drop_rd (xs := a) (i := i) (by omega), drop_rd (xs := b) (i := i) (by omega)]
    by_cases e : rd a (i : Int) = rd b (i : Int)
    · rw [if_pos e, ih k (i + 1) (by omega) (by omega), e]; simp
    · rw [if_neg e]; simp [e]
theorem eqIntS_spec (k : Nat) (a b : List Int) (hb : a.length < 4611686018427387904) (hk : a.length < k) : laws_eqIntS.f k a b = some (decide (a = b)) := by
  unfold laws_eqIntS.f
  by_cases h : a.length = b.length
  · first | rw [if_pos (by omega)] | rw [if_neg (by omega)]
    have := eqIntS_l0 a b h hb a.length k 0 (by omega) hk
    simpa using this
  · first | rw [if_neg (by omega)] | rw [if_pos (by omega)]
    have : a ≠ b := fun e => h (by rw [e])
    simp [this]

/-! ### marks -/
/-- Numbers one after the other. -/
def markI (n : Nat) (a : Int) : List Int := (List.range n).map fun i : Nat => a + (i : Int)
theorem markI_length (n : Nat) (a : Int) : (markI n a).length = n := by simp [markI]
theorem markI_succ (n : Nat) (a : Int) : markI (n + 1) a = markI n a ++ [a + (n : Int)] := by simp [markI, List.range_succ]
theorem markI_rd {n i : Nat} (a : Int) (h : i < n) : rd (markI n a) (i : Int) = a + (i : Int) := by rw [markI, rd_mapRange h]
theorem markIntS_l0 (xs : List Int) (a : Int) (ha : 0 ≤ a ∧ a ≤ 1000000000) (hb : xs.length ≤ 1000000000) : ∀ (d k i : Nat), i + d = xs.length → d < k → laws_markIntS.l0 k (markI i a ++ xs.drop i) (a + (i : Int)) (i : Int) = some (a + (xs.length : Int), markI xs.length a) := by
  intro d
  induction d with
  | zero =>
    intro k i hi hk
    obtain ⟨k, rfl, -⟩ := fuel hk
    simp only [laws_markIntS.l0]
    rw [if_neg (by rw [List.length_append, markI_length, List.length_drop]; omega), drop_end (by omega), List.append_nil, show i = xs.length by omega]
  | succ d ih =>
    intro k i hi hk
    obtain ⟨k, rfl, hk⟩ := fuel hk
    simp only [laws_markIntS.l0]
    rw [if_pos (by rw [List.length_append, markI_length, List.length_drop]; omega), if_pos (by omega), toNat_cast, wrap_succ (by omega), wrap_id (by omega) (by omega)]
    have := ih k (i + 1) (by omega) (by omega)
    have e : (markI i a ++ xs.drop i).set i (a + (i : Int)) = markI (i + 1) a ++ xs.drop (i + 1) := by
      rw [drop_rd (by omega), markI_succ, List.set_append_right _ _ (by rw [markI_length]; omega), markI_length, Nat.sub_self, List.set_cons_zero, List.append_assoc]
      rfl
    rw [e, show a + (i : Int) + 1 = a + ((i + 1 : Nat) : Int) by omega]
    exact this
theorem markIntS_spec (k : Nat) (xs : List Int) (a : Int) (ha : 0 ≤ a ∧ a ≤ 1000000000) (hb : xs.length ≤ 1000000000) (hk : xs.length < k) : laws_markIntS.f k xs a = some (a + (xs.length : Int), markI xs.length a) := by
  unfold laws_markIntS.f
  have := markIntS_l0 xs a ha hb xs.length k 0 (by omega) hk
  simpa [markI] using this
theorem heldIntS_l0 (n : Nat) (a : Int) (ha : 0 ≤ a ∧ a ≤ 1000000000) (hb : n ≤ 1000000000) : ∀ (d k i : Nat), i + d = n → d < k → laws_heldIntS.l0 k (markI n a) (a + (i : Int)) (i : Int) = some (a + (n : Int)) := by
  intro d
  induction d with
  | zero =>
    intro k i hi hk
    obtain ⟨k, rfl, -⟩ := fuel hk
    simp only [laws_heldIntS.l0]
    rw [if_neg (by rw [markI_length]; omega), show i = n by omega]
  | succ d ih =>
    intro k i hi hk
    obtain ⟨k, rfl, hk⟩ := fuel hk
    simp only [laws_heldIntS.l0]
    rw [if_pos (by rw [markI_length]; omega), if_pos (by omega), if_pos (markI_rd a (by omega)), wrap_succ (by omega), wrap_id (by omega) (by omega)]
    have := ih k (i + 1) (by omega) (by omega)
    rw [show a + (i : Int) + 1 = a + ((i + 1 : Nat) : Int) by omega]
    exact this
theorem heldIntS_spec (k n : Nat) (a : Int) (ha : 0 ≤ a ∧ a ≤ 1000000000) (hb : n ≤ 1000000000) (hk : n < k) : laws_heldIntS.f k (markI n a) a = some (a + (n : Int)) := by
  unfold laws_heldIntS.f
  have := heldIntS_l0 n a ha hb n k 0 (by omega) hk
  simpa using this

/-! ### srest -/
theorem svalidRest_spec (n : Int) : spec_validRest.f n = some (decide (0 ≤ n ∧ n ≤ 250)) := by
  unfold spec_validRest.f
  rw [inRange_spec, Option.bind_some]

/-! ### deallock -/
/-- What a drawn lock is known to be: no row is longer than any. -/
inductive LQ : S42 → Prop
  | mk {n : Int} {ms : List Int} {ks : List S42} : ms.length ≤ maxLen → ks.length ≤ maxLen → (∀ x ∈ ks, LQ x) → LQ ⟨n, ms, ks⟩
mutual
/-- The lock as the program's. -/
def cvM : S42 → S26
  | ⟨n, ms, ks⟩ => ⟨n, ms, cvK ks⟩
def cvK : List S42 → List S26
  | [] => []
  | l :: ls => cvM l :: cvK ls
end
mutual
/-- How much there is in it. -/
def toM : S42 → Nat
  | ⟨_, ms, ks⟩ => ms.length + ks.length + toK ks
def toK : List S42 → Nat
  | [] => 0
  | l :: ls => toM l + toK ls
end
theorem toM_eq (l : S42) : toM l = l.f1.length + l.f2.length + toK l.f2 := by cases l; simp only [toM]
theorem toK_cons (l : S42) (ls : List S42) : toK (l :: ls) = toM l + toK ls := by simp only [toK]
theorem cvM_eq (l : S42) : cvM l = ⟨l.f0, l.f1, cvK l.f2⟩ := by cases l; simp only [cvM]
theorem cvK_map (ls : List S42) : cvK ls = ls.map cvM := by
  induction ls with
  | nil => simp only [cvK, List.map_nil]
  | cons l ls ih => simp only [cvK, List.map_cons, ih]
theorem cvK_length (ls : List S42) : (cvK ls).length = ls.length := by rw [cvK_map, List.length_map]
theorem rdQ_at {xs : List S42} {i : Nat} (h : i < xs.length) : rd_T42 xs (i : Int) = xs[i] := by
  simp [rd_T42, List.getD_eq_getElem?_getD, List.getElem?_eq_getElem h]
theorem drop_rdQ {xs : List S42} {i : Nat} (h : i < xs.length) : xs.drop i = rd_T42 xs (i : Int) :: xs.drop (i + 1) := by
  rw [rdQ_at h, List.drop_eq_getElem_cons h]
theorem take_rdQ {xs : List S42} {i : Nat} (h : i < xs.length) : xs.take (i + 1) = xs.take i ++ [rd_T42 xs (i : Int)] := by
  rw [rdQ_at h, List.take_succ_eq_append_getElem h]
theorem memQ {xs : List S42} {i : Nat} (h : i < xs.length) : rd_T42 xs (i : Int) ∈ xs := by
  rw [rdQ_at h]; exact List.getElem_mem h
theorem memT {xs : List S26} {i : Nat} (h : i < xs.length) : rd_T26 xs (i : Int) ∈ xs := by
  rw [rdT_at h]; exact List.getElem_mem h
theorem maxLen_big : maxLen ≤ 9223372036854775807 := by decide
theorem szSP : ∀ (k : Nat) (xs : List S42) (t : Int) (i d : Nat), (∀ l ∈ xs, LQ l) → xs.length ≤ maxLen → i + d = xs.length → 0 ≤ t → t ≤ 1048576 → (i : Int) ≤ 1048576 → (xs.length : Int) ≤ 1048576 → (d : Int) + 2 * t + 1 < k → ∃ r, laws_szLockSP.l0 k xs t (i : Int) = some r ∧ (0 ≤ r → r + toK (xs.drop i) = t) ∧ r ≤ t := by
  intro k
  induction k with
  | zero => intro xs t i d _ _ _ _ _ _ _ hk; omega
  | succ k ih =>
    intro xs t i d hq hl hi h0 h1 hi2 hl2 hk
    have hbig := maxLen_big
    simp only [laws_szLockSP.l0]
    by_cases h : i < xs.length
    · have hx := hq _ (memQ h)
      rw [if_pos (by omega), if_pos (by omega), drop_rdQ h, wrap_succ (by omega)]
      generalize rd_T42 xs (i : Int) = l at *
      obtain ⟨a1, a2, a3⟩ : l.f1.length ≤ maxLen ∧ l.f2.length ≤ maxLen ∧ ∀ x ∈ l.f2, LQ x := by
        cases hx with
        | mk b1 b2 b3 => exact ⟨b1, b2, b3⟩
      have bad : ∃ r : Int, (some (-1) : Option Int) = some r ∧ (0 ≤ r → r + (toK (l :: xs.drop (i + 1)) : Int) = t) ∧ r ≤ t := ⟨-1, rfl, fun h => absurd h (by decide), by omega⟩
      unfold laws_szIntS.f
      rw [wrap_id (x := t - (l.f1.length : Int)) (by omega) (by omega)]
      by_cases c1 : t - (l.f1.length : Int) < 0
      · rw [if_pos c1, Option.bind_some, if_pos (by decide), Option.bind_some, if_pos (by decide)]
        exact bad
      · rw [if_neg c1, Option.bind_some, if_neg c1, wrap_id (x := t - (l.f1.length : Int) - (l.f2.length : Int)) (by omega) (by omega)]
        by_cases c2 : t - (l.f1.length : Int) - (l.f2.length : Int) < 0
        · rw [if_pos c2, Option.bind_some, if_pos (by decide), Option.bind_some, if_pos (by decide)]
          exact bad
        · obtain ⟨r, hr, e1, e2⟩ := ih l.f2 (t - (l.f1.length : Int) - (l.f2.length : Int)) 0 l.f2.length a3 a2 (by omega) (by omega) (by omega) (by omega) (by omega) (by omega)
          rw [cast0] at hr
          rw [List.drop_zero] at e1
          rw [if_neg c2, hr, Option.bind_some]
          by_cases c3 : r < 0
          · rw [if_pos c3, Option.bind_some, if_pos (by decide)]
            exact bad
          · obtain ⟨r2, hr2, e3, e4⟩ := ih xs r (i + 1) (d - 1) hq hl (by omega) (by omega) (by omega) (by omega) hl2 (by omega)
            rw [if_neg c3, Option.bind_some, if_neg c3, hr2]
            refine ⟨r2, rfl, fun h5 => ?_, by omega⟩
            have := e1 (by omega)
            have := e3 h5
            rw [toK_cons, toM_eq]
            omega
    · rw [if_neg (by omega), drop_end (by omega)]
      exact ⟨t, rfl, fun _ => by simp [toK], by omega⟩
theorem szLock_spec (k : Nat) (n : Int) (ms : List Int) (ks : List S42) (h1 : ms.length ≤ maxLen) (h2 : ks.length ≤ maxLen) (hq : ∀ l ∈ ks, LQ l) (hk : 4000000 < k) :
    ∃ r, laws_szLock.f k n ms ks 1048576 = some r ∧ (0 ≤ r → ms.length + ks.length + toK ks ≤ 1048576) := by
  have hbig := maxLen_big
  unfold laws_szLock.f laws_szIntS.f laws_szLockSP.f
  rw [wrap_id (x := 1048576 - (ms.length : Int)) (by omega) (by omega)]
  have bad : ∃ r : Int, (some (-1) : Option Int) = some r ∧ (0 ≤ r → ms.length + ks.length + toK ks ≤ 1048576) := ⟨-1, rfl, fun h => absurd h (by decide)⟩
  by_cases c1 : 1048576 - (ms.length : Int) < 0
  · rw [if_pos c1, Option.bind_some, if_pos (by decide)]
    exact bad
  · rw [if_neg c1, Option.bind_some, if_neg c1, wrap_id (x := 1048576 - (ms.length : Int) - (ks.length : Int)) (by omega) (by omega)]
    by_cases c2 : 1048576 - (ms.length : Int) - (ks.length : Int) < 0
    · rw [if_pos c2, Option.bind_some, if_pos (by decide)]
      exact bad
    · obtain ⟨r, hr, e1, e2⟩ := szSP k ks (1048576 - (ms.length : Int) - (ks.length : Int)) 0 ks.length hq h2 (by omega) (by omega) (by omega) (by omega) (by omega) (by omega)
      rw [cast0] at hr
      rw [List.drop_zero] at e1
      rw [if_neg c2, hr, Option.bind_some]
      by_cases c3 : r < 0
      · rw [if_pos c3]; exact bad
      · rw [if_neg c3]
        refine ⟨r, rfl, fun h => ?_⟩
        have := e1 h
        omega
theorem tlSP : ∀ (k : Nat) (xs : List S42) (i d : Nat), xs.length + toK xs ≤ 1048576 → i + d = xs.length → d + 2 * toK (xs.drop i) + 2 < k → laws_toLockSP.l0 k xs (cvK (xs.take i) ++ List.replicate d z26) (i : Int) = some (cvK xs) := by
  intro k
  induction k with
  | zero => intro xs i d _ _ hk; omega
  | succ k ih =>
    intro xs i d hl hi hk
    simp only [laws_toLockSP.l0]
    by_cases h : i < xs.length
    · obtain ⟨d, rfl⟩ : ∃ e, d = e + 1 := ⟨d - 1, by omega⟩
      have hdr : toK (xs.drop i) ≤ toK xs := by
        clear ih hk hl hi h
        induction xs generalizing i with
        | nil => simp
        | cons y ys ihy =>
          cases i with
          | zero => simp
          | succ i => simp only [List.drop_succ_cons, toK_cons]; have := ihy i; omega
      rw [drop_rdQ h, toK_cons] at hk hdr
      have htk := take_rdQ h
      have hA : (cvK (xs.take i)).length = i := by rw [cvK_length, List.length_take]; omega
      have hset := set_fill' (d := d) (z := z26) (v := cvM (rd_T42 xs (i : Int))) hA
      have hnext := ih xs (i + 1) d hl (by omega) (by omega)
      have e9 : cvK (xs.take (i + 1)) = cvK (xs.take i) ++ [cvM (rd_T42 xs (i : Int))] := by rw [htk, cvK_map, cvK_map, List.map_append, List.map_cons, List.map_nil]
      rw [e9, ← hset] at hnext
      generalize hAA : cvK (xs.take i) ++ List.replicate (d + 1) z26 = AA at *
      have hAl : AA.length = i + (d + 1) := by rw [← hAA, List.length_append, hA, List.length_replicate]
      generalize rd_T42 xs (i : Int) = l at *
      rw [toM_eq] at hk hdr
      have hin := ih l.f2 0 l.f2.length (by omega) (by omega) (by rw [List.drop_zero]; omega)
      rw [List.take_zero, cast0] at hin
      simp only [cvK, List.nil_append] at hin
      rw [if_pos (by omega), if_pos (by omega), toIntS_spec k l.f1 (by omega) (by omega), Option.bind_some, if_pos (by omega), toNat_cast, if_pos (by omega), hin, Option.bind_some, Option.bind_some]
      simp only
      rw [if_pos (by omega), toNat_cast, wrap_succ (by omega), ← cvM_eq, hnext]
    · have e : d = 0 := by omega
      subst e
      rw [if_neg (by omega), List.take_of_length_le (by omega), List.replicate_zero, List.append_nil]
theorem toLock_spec (k : Nat) (n : Int) (ms : List Int) (ks : List S42) (h : ms.length + ks.length + toK ks ≤ 1048576) (hk : 4000000 < k) : laws_toLock.f k n ms ks = some (n, ms, cvK ks) := by
  unfold laws_toLock.f laws_toLockSP.f
  have hin := tlSP k ks 0 ks.length (by omega) (by omega) (by rw [List.drop_zero]; omega)
  rw [List.take_zero, cast0] at hin
  simp only [cvK, List.nil_append] at hin
  rw [toIntS_spec k ms (by omega) (by omega), Option.bind_some, if_pos (by omega), toNat_cast, if_pos (by omega), hin, Option.bind_some]
/-- How long the program takes for the copy. -/
theorem fu_cv : ∀ (n : Nat), (∀ l : S42, toM l ≤ n → fuM (cvM l) ≤ 60 + 62 * toM l) := by
  intro n
  induction n with
  | zero =>
    intro l h
    rw [toM_eq] at h
    obtain ⟨m, ms, ks⟩ := l
    simp only at h
    have h1 : ms = [] := List.eq_nil_of_length_eq_zero (by omega)
    have h2 : ks = [] := List.eq_nil_of_length_eq_zero (by omega)
    subst h1 h2
    simp [cvM, cvK, fuM, fuK, toM, toK]
  | succ n ih =>
    intro l h
    have key : ∀ ks : List S42, toK ks ≤ n → fuK (cvK ks) ≤ 61 * ks.length + 62 * toK ks := by
      intro ks
      induction ks with
      | nil => intro _; simp [cvK, fuK]
      | cons x ks ih2 =>
        intro h2
        rw [toK_cons] at h2
        have h3 := ih x (by omega)
        have h4 := ih2 (by omega)
        simp only [cvK, fuK, List.length_cons, toK_cons]
        omega
    obtain ⟨m, ms, ks⟩ := l
    rw [toM_eq] at h ⊢
    simp only at h
    simp only [cvM, fuM]
    cases ks with
    | nil => simp [cvK, fuK, toK]; omega
    | cons x xs =>
      have h5 := key (x :: xs) (by simp only [List.length_cons] at h; omega)
      simp only [List.length_cons] at h5 ⊢
      omega
theorem eqSP : ∀ (k : Nat) (xs : List S26) (i : Nat), fuK xs ≤ 1000000000 → i ≤ xs.length → fuK (xs.drop i) + 1 < k → laws_eqLockSP.l0 k xs xs (i : Int) = some true := by
  intro k
  induction k with
  | zero => intro xs i _ _ hk; omega
  | succ k ih =>
    intro xs i hf hi hk
    have hlen := fuK_length xs
    simp only [laws_eqLockSP.l0]
    by_cases h : i < xs.length
    · have hm := fuM_mem (memT h)
      have hnext := ih xs (i + 1) hf (by omega) (by rw [drop_rdT h] at hk; simp only [fuK] at hk; omega)
      rw [drop_rdT h] at hk
      simp only [fuK] at hk
      generalize rd_T26 xs (i : Int) = l at *
      obtain ⟨n, ms, ks⟩ := l
      simp only [fuM] at hk hm
      simp only
      have hin := ih ks 0 (by omega) (by omega) (by rw [List.drop_zero]; omega)
      rw [cast0] at hin
      rw [if_pos (by omega), if_pos (by omega), if_pos (by omega), if_pos trivial, eqIntS_spec k ms ms (by omega) (by omega), decide_eq_true rfl, Option.bind_some, if_pos rfl, if_pos trivial, hin, Option.bind_some, if_pos rfl, Option.bind_some, if_pos rfl, wrap_succ (by omega)]
      exact hnext
    · rw [if_neg (by omega)]
theorem eqLock_self (k : Nat) (n : Int) (ms : List Int) (ks : List S26) (h : ms.length ≤ 1000000000) (hf : fuK ks ≤ 1000000000) (hk : 1000000002 < k) : laws_eqLock.f k n ms ks n ms ks = some true := by
  unfold laws_eqLock.f laws_eqLockSP.f
  have := eqSP k ks 0 hf (by omega) (by rw [List.drop_zero]; omega)
  rw [cast0] at this
  rw [if_pos rfl, eqIntS_spec k ms ms (by omega) (by omega), decide_eq_true rfl, Option.bind_some, if_pos rfl, if_pos rfl, this, Option.bind_some, if_pos rfl]
theorem mkI (n : Nat) (hn : n ≤ 1000000000) : ∀ (d k i : Nat) (a : Int), i + d = n → d < k → 0 ≤ a → a + d ≤ 1000000000000 → PFnExactDealLock.markI.l0 k (n : Int) a (i : Int) = some (a + d) := by
  intro d
  induction d with
  | zero =>
    intro k i a hi hk h0 h1
    obtain ⟨k, rfl, -⟩ := fuel hk
    simp only [PFnExactDealLock.markI.l0]
    rw [if_neg (by omega)]; simp
  | succ d ih =>
    intro k i a hi hk h0 h1
    obtain ⟨k, rfl, hk⟩ := fuel hk
    simp only [PFnExactDealLock.markI.l0]
    rw [if_pos (by omega), if_pos (by omega), wrap_succ (by omega), wrap_id (by omega) (by omega), ih k (i + 1) (a + 1) (by omega) (by omega) (by omega) (by omega)]
    congr 1; omega
theorem mkI_spec (k n : Nat) (a : Int) (hn : n ≤ 1000000000) (hk : n < k) (h0 : 0 ≤ a) (h1 : a + n ≤ 1000000000000) : PFnExactDealLock.markI.f k n a = some (a + n) := by
  unfold PFnExactDealLock.markI.f
  have := mkI n hn n k 0 a (by omega) hk h0 h1
  rwa [cast0] at this
theorem mkSP : ∀ (k : Nat) (xs : List S26) (a : Int) (i : Nat), fuK xs ≤ 1000000000 → i ≤ xs.length → fuK (xs.drop i) + 1 < k → 0 ≤ a → a + fuK (xs.drop i) ≤ 1000000000000 → ∃ r, PFnExactDealLock.markLS.l0 k xs a (i : Int) = some r ∧ a ≤ r ∧ r ≤ a + fuK (xs.drop i) := by
  intro k
  induction k with
  | zero => intro xs a i _ _ hk; omega
  | succ k ih =>
    intro xs a i hf hi hk h0 h1
    have hlen := fuK_length xs
    simp only [PFnExactDealLock.markLS.l0]
    by_cases h : i < xs.length
    · have hm := fuM_mem (memT h)
      have hn : ∀ b : Int, 0 ≤ b → b + fuK (xs.drop (i + 1)) ≤ 1000000000000 → ∃ r, PFnExactDealLock.markLS.l0 k xs b ((i + 1 : Nat) : Int) = some r ∧ b ≤ r ∧ r ≤ b + fuK (xs.drop (i + 1)) := fun b b0 b1 => ih xs b (i + 1) hf (by omega) (by rw [drop_rdT h] at hk; simp only [fuK] at hk; omega) b0 b1
      rw [drop_rdT h] at hk h1 ⊢
      simp only [fuK] at hk h1 ⊢
      generalize rd_T26 xs (i : Int) = l at *
      obtain ⟨n, ms, ks⟩ := l
      simp only [fuM] at hk hm h1 ⊢
      obtain ⟨u, hu, u1, u2⟩ := ih ks (a + 1 + ms.length) 0 (by omega) (by omega) (by rw [List.drop_zero]; omega) (by omega) (by rw [List.drop_zero]; omega)
      rw [cast0] at hu
      rw [List.drop_zero] at u2
      obtain ⟨r, hr, r1, r2⟩ := hn u (by omega) (by omega)
      rw [if_pos (by omega), if_pos (by omega), wrap_id (x := a + 1) (by omega) (by omega), mkI_spec k ms.length (a + 1) (by omega) (by omega) (by omega) (by omega), Option.bind_some, hu, Option.bind_some, wrap_succ (by omega), hr]
      exact ⟨r, rfl, by omega, by omega⟩
    · rw [if_neg (by omega)]
      exact ⟨a, rfl, by omega, by omega⟩
theorem mkL_spec (k n : Nat) (ks : List S26) (hn : n ≤ 1000000000) (hf : fuK ks ≤ 1000000000) (hk : 1000000002 < k) : ∃ r, PFnExactDealLock.markL.f k n ks 1 = some r ∧ 0 ≤ r := by
  unfold PFnExactDealLock.markL.f PFnExactDealLock.markLS.f
  obtain ⟨u, hu, u1, u2⟩ := mkSP k ks (1 + n) 0 hf (by omega) (by rw [List.drop_zero]; omega) (by omega) (by rw [List.drop_zero]; omega)
  rw [cast0] at hu
  rw [mkI_spec k n 1 hn (by omega) (by omega) (by omega), Option.bind_some, hu]
  exact ⟨u, rfl, by omega⟩
/-- A lock's coefficient. -/
def cfW (s n x : Int) : Int := (Int.tmod (wrap64 ((wrap64 ((wrap64 ((wrap64 (s * s)) * (wrap64 (n + 1)))) + (wrap64 (97 * x)))) + (wrap64 (31 * n)))) 251)
theorem cfW_range {s n x : Int} (hs : 0 ≤ s ∧ s ≤ 250) (hn : 0 ≤ n ∧ n ≤ 20) (hx : 0 ≤ x ∧ x ≤ 20) : 0 ≤ cfW s n x ∧ cfW s n x < 251 := by
  unfold cfW
  have a0 : 0 ≤ s * s := Int.mul_nonneg hs.1 hs.1
  have a1 : s * s ≤ 250 * 250 := Int.mul_le_mul hs.2 hs.2 hs.1 (by omega)
  have b0 : 0 ≤ s * s * (n + 1) := Int.mul_nonneg a0 (by omega)
  have b1 : s * s * (n + 1) ≤ 250 * 250 * 21 := Int.mul_le_mul a1 (by omega) (by omega) (by omega)
  rw [wrap_id (x := s * s) (by omega) (by omega), wrap_id (x := n + 1) (by omega) (by omega), wrap_id (x := s * s * (n + 1)) (by omega) (by omega), wrap_id (x := 97 * x) (by omega) (by omega), wrap_id (x := 31 * n) (by omega) (by omega), wrap_id (x := s * s * (n + 1) + 97 * x) (by omega) (by omega), wrap_id (by omega) (by omega), Int.tmod_eq_emod_of_nonneg (by omega)]
  omega
def cfs (s n : Int) : Nat → Nat → List Int
  | 0, _ => []
  | d + 1, j => cfW s n j :: cfs s n d (j + 1)
theorem cfs_length (s n : Int) : ∀ d j, (cfs s n d j).length = d := by
  intro d
  induction d with
  | zero => intro j; rfl
  | succ d ih => intro j; simp only [cfs, List.length_cons, ih]
theorem cfs_rests {s n : Int} (hs : 0 ≤ s ∧ s ≤ 250) (hn : 0 ≤ n ∧ n ≤ 20) : ∀ d j : Nat, d + j ≤ 20 → Rests (cfs s n d j) := by
  intro d
  induction d with
  | zero => intro j _ c hc; simp [cfs] at hc
  | succ d ih =>
    intro j h c hc
    simp only [cfs, List.mem_cons] at hc
    rcases hc with rfl | hc
    · exact cfW_range hs hn (by omega)
    · exact ih (j + 1) (by omega) c hc
def pts (cs : List Int) : Nat → Nat → List Int
  | 0, _ => []
  | d + 1, i => hornM cs ((i : Int) + 1) :: pts cs d (i + 1)
theorem pts_length (cs : List Int) : ∀ d i, (pts cs d i).length = d := by
  intro d
  induction d with
  | zero => intro i; rfl
  | succ d ih => intro i; simp only [pts, List.length_cons, ih]
def csOf (s sec id need : Int) : List Int := sec :: cfs s id (need.toNat - 1) 1
mutual
/-- The values of a lock. -/
def vM : S26 → Int → Int → Int → List Int
  | ⟨need, ms, ks⟩, s, sec, id => pts (csOf s sec id need) ms.length 0 ++ vK ks s (csOf s sec id need) ms.length (id + 1)
def vK : List S26 → Int → List Int → Nat → Int → List Int
  | [], _, _, _, _ => []
  | l :: ls, s, cs, b, id => vM l s (hornM cs ((b : Int) + 1)) id ++ vK ls s cs (b + 1) (id + szM l)
end
theorem vM_length : ∀ (n : Nat) (l : S26), fuM l ≤ n → ∀ s sec id, (vM l s sec id).length ≤ fuM l := by
  intro n
  induction n with
  | zero => intro l h; have := fuM_big l; omega
  | succ n ih =>
    intro l h s sec id
    obtain ⟨need, ms, ks⟩ := l
    have key : ∀ ks : List S26, fuK ks ≤ n → ∀ cs b id, (vK ks s cs b id).length ≤ fuK ks := by
      intro ks
      induction ks with
      | nil => intro _ cs b id; simp [vK]
      | cons x ks ih2 =>
        intro h2 cs b id
        simp only [fuK] at h2
        simp only [vK, fuK, List.length_append]
        have h3 := ih x (by omega) s (hornM cs ((b : Int) + 1)) id
        have h4 := ih2 (by omega) cs (b + 1) (id + szM x)
        omega
    simp only [fuM] at h
    simp only [vM, fuM, List.length_append, pts_length]
    have := key ks (by omega) (csOf s sec id need) ms.length (id + 1)
    omega
theorem csOf_rests {s sec id need : Int} (hs : 0 ≤ s ∧ s ≤ 250) (hn : 0 ≤ id ∧ id ≤ 20) (hsec : 0 ≤ sec ∧ sec < 251) (h : need ≤ 8) : Rests (csOf s sec id need) := by
  intro c hc
  simp only [csOf, List.mem_cons] at hc
  rcases hc with rfl | hc
  · exact hsec
  · exact cfs_rests hs hn _ _ (by omega) c hc
theorem csOf_length {s sec id need : Int} (h : need ≤ 8) : (csOf s sec id need).length ≤ 8 := by
  simp only [csOf, List.length_cons, cfs_length]; omega
theorem sd_l0 (s id need : Int) (ms : List Int) (ks : List S26) : ∀ (d k j : Nat) (c : List Int), ((j + d : Nat) : Int) = need → c.length + d ≤ 1000 → need ≤ 1000 → spec_dealLock.l0 (k + d + 1) s id c (j : Int) need ms ks = spec_dealLock.l1 k s id (c ++ cfs s id d j) [] 0 need ms ks := by
  intro d
  induction d with
  | zero =>
    intro k j c hj hc hn
    simp only [spec_dealLock.l0]
    rw [if_neg (by omega), cfs, List.append_nil]
  | succ d ih =>
    intro k j c hj hc hn
    have e : k + (d + 1) + 1 = (k + d + 1) + 1 := by omega
    rw [e]
    generalize hq : k + d + 1 = q
    simp only [spec_dealLock.l0]
    subst hq
    rw [if_pos (by omega), if_pos (by omega), wrap_succ (by omega)]
    have := ih k (j + 1) (c ++ [cfW s id j]) (by omega) (by simp; omega) hn
    rw [cfs, List.append_assoc] at *
    exact this
theorem sd_l1 (s id need : Int) (ms : List Int) (ks : List S26) (cs : List Int) (hr : Rests cs) (hcl : cs.length ≤ 8) (hm : ms.length ≤ 8) : ∀ (d k i : Nat) (out : List Int), i + d = ms.length → out.length + d ≤ 1000 → 20 < k → spec_dealLock.l1 (k + d + 1) s id cs out (i : Int) need ms ks = spec_dealLock.l2 k s (wrap64 (id + 1)) cs (out ++ pts cs d i) 0 need ms ks := by
  intro d
  induction d with
  | zero =>
    intro k i out hi ho hk
    simp only [spec_dealLock.l1]
    rw [if_neg (by omega), pts, List.append_nil]
  | succ d ih =>
    intro k i out hi ho hk
    have e : k + (d + 1) + 1 = (k + d + 1) + 1 := by omega
    rw [e]
    generalize hq : k + d + 1 = q
    simp only [spec_dealLock.l1]
    subst hq
    rw [if_pos (by omega), wrap_succ (by omega), spolyAt_spec _ cs _ hr (by omega) (by omega) (by omega), Option.bind_some, if_pos (by omega)]
    have := ih k (i + 1) (out ++ [hornM cs ((i + 1 : Nat) : Int)]) (by omega) (by simp; omega) hk
    rw [pts]
    rw [List.append_assoc] at this
    exact this
theorem sd_l2 (s need : Int) (ms : List Int) (ks : List S26) (cs : List Int) (hr : Rests cs) (hcl : cs.length ≤ 8) (hm : ms.length + ks.length ≤ 8) (hfb : fuK ks ≤ 1000000000) (hok : okK ks)
    (ih : ∀ l ∈ ks, ∀ (k : Nat) (sec id : Int), (0 ≤ sec ∧ sec < 251) → 0 ≤ id → id + szM l ≤ 13 → fuM l < k → spec_dealLock.f k l.f0 l.f1 l.f2 sec s id = some (vM l s sec id)) :
    ∀ (d k i : Nat) (id : Int) (out : List Int), i + d = ks.length → fuK (ks.drop i) + 20 < k → 1 ≤ id → id + szK (ks.drop i) ≤ 13 → out.length + fuK (ks.drop i) ≤ 10000000000 → spec_dealLock.l2 k s id cs out (i : Int) need ms ks = some (out ++ vK (ks.drop i) s cs (ms.length + i) id) := by
  intro d
  induction d with
  | zero =>
    intro k i id out hi hk h0 h1 h2
    obtain ⟨k, rfl, -⟩ := fuel (show 0 < k by omega)
    simp only [spec_dealLock.l2]
    rw [if_neg (by omega), drop_end (by omega), vK, List.append_nil]
  | succ d ih2 =>
    intro k i id out hi hk h0 h1 h2
    have hi' : i < ks.length := by omega
    have hd := drop_rdT hi'
    have hmem := memT hi'
    have hokm := okK_mem hok hmem
    have hfm := fuM_mem hmem
    rw [hd] at hk h1 h2 ⊢
    simp only [fuK] at hk h2
    rw [szK_cons] at h1
    obtain ⟨k, rfl, hk'⟩ := fuel (show 0 < k by omega)
    simp only [spec_dealLock.l2]
    have hh := hornM_range cs (((ms.length + i : Nat) : Int) + 1)
    have e1 : wrap64 (wrap64 ((ms.length : Int) + (i : Int)) + 1) = ((ms.length + i : Nat) : Int) + 1 := by rw [wrap_id (x := (ms.length : Int) + (i : Int)) (by omega) (by omega), wrap_id (by omega) (by omega)]; omega
    have hv := fun sec id => vM_length _ (rd_T26 ks (i : Int)) (Nat.le_refl _) s sec id
    have e2 := ih _ hmem k (hornM cs (((ms.length + i : Nat) : Int) + 1)) id hh (by omega) (by omega) (by omega)
    have e3 := lockSize_spec _ (rd_T26 ks (i : Int)) (Nat.le_refl _) (by omega) k (by omega)
    generalize rd_T26 ks (i : Int) = l at *
    have hv2 := hv (hornM cs (((ms.length + i : Nat) : Int) + 1)) id
    have hszp := szM_pos l
    have hokl : OkLock l := ⟨hokm, by omega⟩
    rw [if_pos hokl] at e3
    rw [if_pos (by omega), if_pos (by omega), e1, spolyAt_spec k cs _ hr (by omega) (by omega) (by omega), Option.bind_some, e2, Option.bind_some, if_pos (by omega), e3, Option.bind_some, wrap_succ (by omega), wrap_id (x := id + (szM l : Int)) (by omega) (by omega)]
    rw [ih2 k (i + 1) (id + szM l) _ (by omega) (by omega) (by omega) (by omega) (by rw [List.length_append]; omega), vK, List.append_assoc]
    rfl
theorem sdeal_spec (s : Int) (hs : 0 ≤ s ∧ s ≤ 250) : ∀ (n : Nat) (l : S26), fuM l ≤ n → n ≤ 1000000000 → okM l → ∀ (k : Nat) (sec id : Int), (0 ≤ sec ∧ sec < 251) → 0 ≤ id → id + szM l ≤ 13 → fuM l < k → spec_dealLock.f k l.f0 l.f1 l.f2 sec s id = some (vM l s sec id) := by
  intro n
  induction n with
  | zero => intro l h; have := fuM_big l; omega
  | succ n ih =>
    intro l hl hn hok k sec id hsec h0 h1 hk
    obtain ⟨need, ms, ks⟩ := l
    simp only [fuM] at hl hk
    obtain ⟨a1, a2, a3, a4, a5⟩ := (okM_mk _ _ _).1 hok
    rw [szM_mk] at h1
    obtain ⟨d, rfl⟩ : ∃ d : Nat, need = ((1 + d : Nat) : Int) := ⟨need.toNat - 1, by omega⟩
    obtain ⟨k, rfl⟩ : ∃ q, k = (((q + ms.length + 1) + d + 1) + 1) := ⟨k - 3 - d - ms.length, by omega⟩
    have e := sd_l0 s id ((1 + d : Nat) : Int) ms ks d (k + ms.length + 1) 1 [sec] rfl (by simp; omega) (by omega)
    have hcs : [sec] ++ cfs s id d 1 = csOf s sec id ((1 + d : Nat) : Int) := by
      have : ((1 + d : Nat) : Int).toNat - 1 = d := by omega
      simp only [csOf, this]; rfl
    rw [hcs] at e
    have hr := csOf_rests (need := ((1 + d : Nat) : Int)) hs (show 0 ≤ id ∧ id ≤ 20 by omega) hsec (by omega)
    have hl8 := csOf_length (s := s) (sec := sec) (id := id) (need := ((1 + d : Nat) : Int)) (by omega)
    have e2 := sd_l1 s id ((1 + d : Nat) : Int) ms ks (csOf s sec id ((1 + d : Nat) : Int)) hr hl8 (by omega) ms.length k 0 [] (by omega) (by simp; omega) (by omega)
    have hfk := fuK_length ks
    have e3 := sd_l2 s ((1 + d : Nat) : Int) ms ks (csOf s sec id ((1 + d : Nat) : Int)) hr hl8 a3 (by omega) a5 (fun l' hl' k' sec' id' b1 b2 b3 b4 => ih l' (by have := fuM_mem hl'; omega) (by omega) (okK_mem a5 hl') k' sec' id' b1 b2 b3 b4) ks.length k 0 (id + 1) ([] ++ pts (csOf s sec id ((1 + d : Nat) : Int)) ms.length 0) (by omega) (by rw [List.drop_zero]; omega) (by omega) (by rw [List.drop_zero]; omega) (by rw [List.drop_zero, List.length_append, pts_length]; simp; omega)
    rw [List.drop_zero, cast0, Nat.add_zero] at e3
    rw [cast0, wrap_id (x := id + 1) (by omega) (by omega), e3] at e2
    simp only [spec_dealLock.f]
    rw [show ((1 : Nat) : Int) = 1 from rfl] at e
    rw [e, e2, vM, List.nil_append]
theorem specDeal_spec (k : Nat) (l : S26) (a1 a2 : Int) (hf : fuM l ≤ 1000000000) (hk : fuM l < k) : spec_DealLock.f k l.f0 l.f1 l.f2 a1 a2 = some (if OkLock l ∧ (0 ≤ a1 ∧ a1 ≤ 250) ∧ (0 ≤ a2 ∧ a2 ≤ 250) then vM l a2 a1 0 else []) := by
  unfold spec_DealLock.f
  rw [lockSize_spec _ l (Nat.le_refl _) hf k hk, Option.bind_some]
  have hszp := szM_pos l
  by_cases h1 : OkLock l
  · rw [if_pos h1, if_neg (by omega), svalidRest_spec, Option.bind_some]
    by_cases h2 : 0 ≤ a1 ∧ a1 ≤ 250
    · rw [decide_eq_true h2, if_pos rfl, svalidRest_spec, Option.bind_some]
      by_cases h3 : 0 ≤ a2 ∧ a2 ≤ 250
      · have := h1.2
        rw [decide_eq_true h3, if_pos rfl, sdeal_spec a2 h3 _ l (Nat.le_refl _) hf h1.1 k a1 0 (by omega) (by omega) (by omega) hk, Option.bind_some, if_pos ⟨h1, h2, h3⟩]
      · rw [decide_eq_false h3, if_neg (by decide), if_neg (fun h => h3 h.2.2)]
    · rw [decide_eq_false h2, if_neg (by decide), if_neg (fun h => h2 h.2.1)]
  · rw [if_neg h1, if_pos (by decide), if_neg (fun h => h1 h.1)]
theorem id_l0 (s id need : Int) : ∀ (d k j : Nat) (c : List Int), ((j + d : Nat) : Int) = need → d < k → c.length + d ≤ 1000 → need ≤ 1000 → PFnExactDealLock.deal.l0 k s id need c (j : Int) = some (c ++ cfs s id d j) := by
  intro d
  induction d with
  | zero =>
    intro k j c hj hk hc hn
    obtain ⟨k, rfl, -⟩ := fuel hk
    simp only [PFnExactDealLock.deal.l0]
    rw [if_neg (by omega), cfs, List.append_nil]
  | succ d ih =>
    intro k j c hj hk hc hn
    obtain ⟨k, rfl, hk⟩ := fuel hk
    simp only [PFnExactDealLock.deal.l0]
    rw [if_pos (by omega), if_pos (by omega), wrap_succ (by omega)]
    have := ih k (j + 1) (c ++ [cfW s id j]) (by omega) (by omega) (by simp; omega) hn
    rw [List.append_assoc] at this
    rw [cfs]
    exact this
theorem id_l1 (cs : List Int) (hr : Rests cs) (hcl : cs.length ≤ 8) (n : Nat) (hm : n ≤ 8) : ∀ (d k i : Nat) (v : List Int), i + d = n → d + 20 < k → v.length + d ≤ 100000000000 → PFnExactDealLock.deal.l1 k cs (n : Int) v (i : Int) = some (v ++ pts cs d i) := by
  intro d
  induction d with
  | zero =>
    intro k i v hi hk hv
    obtain ⟨k, rfl, -⟩ := fuel (show 0 < k by omega)
    simp only [PFnExactDealLock.deal.l1]
    rw [if_neg (by omega), pts, List.append_nil]
  | succ d ih =>
    intro k i v hi hk hv
    obtain ⟨k, rfl, hk'⟩ := fuel (show 0 < k by omega)
    simp only [PFnExactDealLock.deal.l1]
    rw [if_pos (by omega), wrap_succ (by omega), ipolyAt_spec k cs _ hr hcl (by omega) (by omega), Option.bind_some, if_pos (by omega)]
    have := ih k (i + 1) (v ++ [hornM cs ((i + 1 : Nat) : Int)]) (by omega) (by omega) (by simp; omega)
    rw [List.append_assoc] at this
    rw [pts]
    exact this
theorem id_l2 (s : Int) (n : Nat) (ks : List S26) (cs : List Int) (hr : Rests cs) (hcl : cs.length ≤ 8) (hm : n + ks.length ≤ 8) (hok : okK ks)
    (ih : ∀ l ∈ ks, ∀ (k : Nat) (v : List Int) (sec id : Int), (0 ≤ sec ∧ sec < 251) → 0 ≤ id → id + szM l ≤ 13 → v.length + fuM l ≤ 10000000000 → fuM l < k → PFnExactDealLock.deal.f k s id v l.f0 l.f1 l.f2 sec = some (id + szM l, v ++ vM l s sec id)) :
    ∀ (d k i : Nat) (id : Int) (v : List Int), i + d = ks.length → fuK (ks.drop i) + 20 < k → 1 ≤ id → id + szK (ks.drop i) ≤ 13 → v.length + fuK (ks.drop i) ≤ 10000000000 → PFnExactDealLock.deal.l2 k s cs (n : Int) ks id v (i : Int) = some (id + szK (ks.drop i), v ++ vK (ks.drop i) s cs (n + i) id) := by
  intro d
  induction d with
  | zero =>
    intro k i id v hi hk h0 h1 h2
    obtain ⟨k, rfl, -⟩ := fuel (show 0 < k by omega)
    simp only [PFnExactDealLock.deal.l2]
    rw [if_neg (by omega), drop_end (by omega), vK, List.append_nil]
    simp [szK]
  | succ d ih2 =>
    intro k i id v hi hk h0 h1 h2
    have hi' : i < ks.length := by omega
    have hd := drop_rdT hi'
    have hmem := memT hi'
    have hfm := fuM_mem hmem
    rw [hd] at hk h1 h2 ⊢
    simp only [fuK] at hk h2
    rw [szK_cons] at h1 ⊢
    obtain ⟨k, rfl, hk'⟩ := fuel (show 0 < k by omega)
    simp only [PFnExactDealLock.deal.l2]
    have hh := hornM_range cs (((n + i : Nat) : Int) + 1)
    have e1 : wrap64 (wrap64 ((n : Int) + (i : Int)) + 1) = ((n + i : Nat) : Int) + 1 := by rw [wrap_id (x := (n : Int) + (i : Int)) (by omega) (by omega), wrap_id (by omega) (by omega)]; omega
    have hv := fun sec id => vM_length _ (rd_T26 ks (i : Int)) (Nat.le_refl _) s sec id
    have e2 := ih _ hmem k v (hornM cs (((n + i : Nat) : Int) + 1)) id hh (by omega) (by omega) (by omega) (by omega)
    generalize rd_T26 ks (i : Int) = l at *
    have hv2 := hv (hornM cs (((n + i : Nat) : Int) + 1)) id
    have hszp := szM_pos l
    unfold PFnExactDealLock.deal.f at e2
    have fold : ∀ (g : Int × List Int → Option (Int × List Int)), ((PFnExactDealLock.deal.l0 k s id l.f0 [hornM cs (((n + i : Nat) : Int) + 1)] 1).bind fun c2 => (PFnExactDealLock.deal.l1 k c2 (l.f1.length : Int) v 0).bind fun v2 => (PFnExactDealLock.deal.l2 k s c2 (l.f1.length : Int) l.f2 (wrap64 (id + 1)) v2 0).bind g) = g (id + szM l, v ++ vM l s (hornM cs (((n + i : Nat) : Int) + 1)) id) := by
      intro g
      have := congrArg (fun o => Option.bind o g) e2
      simpa only [Option.bind_assoc, Option.bind_some] using this
    rw [if_pos (by omega), if_pos (by omega), e1, ipolyAt_spec k cs _ hr hcl (by omega) (by omega), Option.bind_some, fold]
    simp only
    rw [wrap_succ (by omega), ih2 k (i + 1) (id + szM l) _ (by omega) (by omega) (by omega) (by omega) (by rw [List.length_append]; omega), vK, List.append_assoc]
    congr 2
    omega
theorem ideal_spec (s : Int) (hs : 0 ≤ s ∧ s ≤ 250) : ∀ (n : Nat) (l : S26), fuM l ≤ n → n ≤ 1000000000 → okM l → ∀ (k : Nat) (v : List Int) (sec id : Int), (0 ≤ sec ∧ sec < 251) → 0 ≤ id → id + szM l ≤ 13 → v.length + fuM l ≤ 10000000000 → fuM l < k → PFnExactDealLock.deal.f k s id v l.f0 l.f1 l.f2 sec = some (id + szM l, v ++ vM l s sec id) := by
  intro n
  induction n with
  | zero => intro l h; have := fuM_big l; omega
  | succ n ih =>
    intro l hl hn hok k v sec id hsec h0 h1 hv hk
    obtain ⟨need, ms, ks⟩ := l
    simp only [fuM] at hl hk hv
    obtain ⟨a1, a2, a3, a4, a5⟩ := (okM_mk _ _ _).1 hok
    rw [szM_mk] at h1 ⊢
    obtain ⟨d, rfl⟩ : ∃ d : Nat, need = ((1 + d : Nat) : Int) := ⟨need.toNat - 1, by omega⟩
    have e := id_l0 s id ((1 + d : Nat) : Int) d k 1 [sec] rfl (by omega) (by simp; omega) (by omega)
    have hcs : [sec] ++ cfs s id d 1 = csOf s sec id ((1 + d : Nat) : Int) := by
      have : ((1 + d : Nat) : Int).toNat - 1 = d := by omega
      simp only [csOf, this]; rfl
    rw [hcs] at e
    have hr := csOf_rests (need := ((1 + d : Nat) : Int)) hs (show 0 ≤ id ∧ id ≤ 20 by omega) hsec (by omega)
    have hl8 := csOf_length (s := s) (sec := sec) (id := id) (need := ((1 + d : Nat) : Int)) (by omega)
    have e2 := id_l1 (csOf s sec id ((1 + d : Nat) : Int)) hr hl8 ms.length (by omega) ms.length k 0 v (by omega) (by omega) (by omega)
    have e3 := id_l2 s ms.length ks (csOf s sec id ((1 + d : Nat) : Int)) hr hl8 a3 a5 (fun l' hl' k' v' sec' id' b1 b2 b3 b4 b5 => ih l' (by have := fuM_mem hl'; omega) (by omega) (okK_mem a5 hl') k' v' sec' id' b1 b2 b3 b4 b5) ks.length k 0 (id + 1) (v ++ pts (csOf s sec id ((1 + d : Nat) : Int)) ms.length 0) (by omega) (by rw [List.drop_zero]; omega) (by omega) (by rw [List.drop_zero]; omega) (by rw [List.drop_zero, List.length_append, pts_length]; omega)
    rw [List.drop_zero, cast0, Nat.add_zero] at e3
    rw [cast0] at e2
    rw [show ((1 : Nat) : Int) = 1 from rfl] at e
    unfold PFnExactDealLock.deal.f
    rw [e, Option.bind_some, e2, Option.bind_some, wrap_id (x := id + 1) (by omega) (by omega), e3, vM, List.append_assoc]
    congr 2
    omega
theorem implDeal_spec (k : Nat) (l : S26) (a1 a2 : Int) (hf : fuM l ≤ 1000000000) (hk : fuM l < k) : PFnExactDealLock.dealL.f k l.f0 l.f1 l.f2 a1 a2 = some (if OkLock l ∧ (0 ≤ a1 ∧ a1 ≤ 250) ∧ (0 ≤ a2 ∧ a2 ≤ 250) then vM l a2 a1 0 else []) := by
  unfold PFnExactDealLock.dealL.f
  rw [implValidLock_spec k l hf hk, Option.bind_some]
  have hszp := szM_pos l
  by_cases h1 : OkLock l
  · rw [decide_eq_true h1, if_pos rfl]
    by_cases h2 : a1 < 0
    · rw [if_pos h2, if_neg (fun h => by omega)]
    · rw [if_neg h2]
      by_cases h3 : 250 < a1
      · rw [if_pos h3, if_neg (fun h => by omega)]
      · rw [if_neg h3]
        by_cases h4 : a2 < 0
        · rw [if_pos h4, if_neg (fun h => by omega)]
        · rw [if_neg h4]
          by_cases h5 : 250 < a2
          · rw [if_pos h5, if_neg (fun h => by omega)]
          · have := h1.2
            rw [if_neg h5, ideal_spec a2 (by omega) _ l (Nat.le_refl _) hf h1.1 k [] a1 0 (by omega) (by omega) (by omega) (by simp; omega) hk, Option.bind_some, if_pos ⟨h1, by omega, by omega⟩]
            simp
  · rw [decide_eq_false h1, if_neg (by decide), if_neg (fun h => h1 h.1)]

/-! ### the law -/
/-- What the walk of the law wants, for a lock that is not too great. -/
def WalkPos (k : Nat) (n0 : Int) (l1 : List Int) (l2 : List S42) (a1 a2 t1 : Int) : Prop :=
  ∃ (r1 : Int) (r2 : List Int) (r3 : List S26) (t : List Int) (b9 m : Int) (t' : List Int), laws_toLock.f k n0 l1 l2 = some (r1, r2, r3) ∧ spec_DealLock.f k r1 r2 r3 a1 a2 = some t ∧ PFnExactDealLock.dealL.f k r1 r2 r3 a1 a2 = some t ∧ laws_eqIntS.f k t t = some true ∧ laws_eqLock.f k r1 r2 r3 r1 r2 r3 = some true ∧ PFnExactDealLock.markL.f k r2.length r3 1 = some b9 ∧ 0 ≤ b9 ∧ laws_markIntS.f k t 1 = some (m, t') ∧ t'.length = t.length ∧ laws_heldIntS.f k t' 1 = some m ∧ 0 ≤ m
theorem FnExactDealLock (n0 : Int) (l1 : List Int) (l2 : List S42) (a1 a2 : Int) (hq : LQ ⟨n0, l1, l2⟩) : ∃ k t1, laws_szLock.f k n0 l1 l2 1048576 = some t1 ∧ (0 ≤ t1 → WalkPos k n0 l1 l2 a1 a2 t1) := by
  obtain ⟨k, hk⟩ : ∃ k : Nat, 1000000002 < k := ⟨1000000003, by omega⟩
  obtain ⟨h1, h2, h3⟩ : l1.length ≤ maxLen ∧ l2.length ≤ maxLen ∧ ∀ x ∈ l2, LQ x := by
    cases hq with
    | mk b1 b2 b3 => exact ⟨b1, b2, b3⟩
  obtain ⟨t1, ht, h4⟩ := szLock_spec k n0 l1 l2 h1 h2 h3 (by omega)
  refine ⟨k, t1, ht, fun h5 => ?_⟩
  have h6 := h4 h5
  have h7 := fu_cv _ ⟨n0, l1, l2⟩ (Nat.le_refl _)
  rw [toM_eq, cvM_eq] at h7
  simp only at h7
  have hfm : fuM (⟨n0, l1, cvK l2⟩ : S26) = 60 + l1.length + l1.length + fuK (cvK l2) := by simp only [fuM]
  have hs := specDeal_spec k ⟨n0, l1, cvK l2⟩ a1 a2 (by omega) (by omega)
  have hi := implDeal_spec k ⟨n0, l1, cvK l2⟩ a1 a2 (by omega) (by omega)
  have hv := vM_length _ (⟨n0, l1, cvK l2⟩ : S26) (Nat.le_refl _) a2 a1 0
  have hlen : (if OkLock ⟨n0, l1, cvK l2⟩ ∧ (0 ≤ a1 ∧ a1 ≤ 250) ∧ (0 ≤ a2 ∧ a2 ≤ 250) then vM ⟨n0, l1, cvK l2⟩ a2 a1 0 else []).length ≤ 1000000000 := by
    split
    · omega
    · simp
  generalize (if OkLock ⟨n0, l1, cvK l2⟩ ∧ (0 ≤ a1 ∧ a1 ≤ 250) ∧ (0 ≤ a2 ∧ a2 ≤ 250) then vM ⟨n0, l1, cvK l2⟩ a2 a1 0 else []) = t at *
  obtain ⟨b9, hb, hb0⟩ := mkL_spec k l1.length (cvK l2) (by omega) (by omega) hk
  exact ⟨n0, l1, cvK l2, t, b9, 1 + t.length, markI t.length 1, toLock_spec k n0 l1 l2 h6 (by omega), hs, hi, by rw [eqIntS_spec k t t (by omega) (by omega), decide_eq_true rfl], eqLock_self k n0 l1 (cvK l2) (by omega) (by omega) hk, hb, hb0, markIntS_spec k t 1 (by omega) hlen (by omega), markI_length _ _, heldIntS_spec k t.length 1 (by omega) hlen (by omega), by omega⟩

end Go.Proofs.Ytlkcolomkhgjfaa.Pure
