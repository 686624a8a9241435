/- Plain arithmetic that several of this claim's texts use: lists of numbers and polynomials by rests of 251; no condition. Own work. Snippets: base listm polym newton lagr fitm -/
import Derived.Test.YtaoecaikeikneaaWWords
import Derived.Test.YtaoecaikeikneaaWMore
set_option linter.unusedVariables false
set_option linter.unusedSimpArgs false
namespace Go.Proofs.Ytaoecaikeikneaa.Pure
open Go.RowKit Go.Proofs.YtaoecaikeikneaaW.PrintWords Go.Proofs.YtaoecaikeikneaaW.PrintLast Go.Proofs.YtaoecaikeikneaaW.PrintMore

/-! ### base -/
theorem fuel {k n : Nat} (h : n < k) : ∃ m, k = m + 1 ∧ n ≤ m := ⟨k - 1, by omega, by omega⟩
theorem wrap_id {x : Int} (h1 : -9223372036854775808 ≤ x) (h2 : x ≤ 9223372036854775807) : wrap64 x = x := by unfold wrap64; omega
theorem wrap_succ {i : Nat} (h : i < 4611686018427387904) : wrap64 ((i : Int) + 1) = ((i + 1 : Nat) : Int) := by unfold wrap64; omega
theorem wrap_succ' {i : Int} (h0 : 0 ≤ i) (h : i < 4611686018427387904) : wrap64 (i + 1) = i + 1 := by unfold wrap64; omega
theorem wrap_wrap (x : Int) : wrap64 (wrap64 x) = wrap64 x := by unfold wrap64; omega
theorem wrap_add_l (x y : Int) : wrap64 (wrap64 x + y) = wrap64 (x + y) := by unfold wrap64; omega
theorem wrap_add_r (x y : Int) : wrap64 (x + wrap64 y) = wrap64 (x + y) := by unfold wrap64; omega
theorem wrap_sub_l (x y : Int) : wrap64 (wrap64 x - y) = wrap64 (x - y) := by unfold wrap64; omega
theorem rd_get {xs : List Int} {i : Nat} (h : i < xs.length) : rd xs (i : Int) = xs[i] := by
  simp [rd, List.getD_eq_getElem?_getD, List.getElem?_eq_getElem h]
theorem drop_rd {xs : List Int} {i : Nat} (h : i < xs.length) : xs.drop i = rd xs (i : Int) :: xs.drop (i + 1) := by
  rw [rd_get h, List.drop_eq_getElem_cons h]
theorem drop_end {α : Type} {xs : List α} {i : Nat} (h : xs.length ≤ i) : xs.drop i = [] := List.drop_eq_nil_of_le h
theorem take_rd {xs : List Int} {i : Nat} (h : i < xs.length) : xs.take (i + 1) = xs.take i ++ [rd xs (i : Int)] := by
  rw [rd_get h, List.take_succ_eq_append_getElem h]
theorem rd_mem {xs : List Int} {i : Nat} (h : i < xs.length) : rd xs (i : Int) ∈ xs := by
  rw [rd_get h]; exact List.getElem_mem h
theorem rd_mem' {xs : List Int} {i : Int} (h0 : 0 ≤ i) (h : i < (xs.length : Int)) : rd xs i ∈ xs := by
  obtain ⟨j, rfl⟩ := Int.eq_ofNat_of_zero_le h0
  exact rd_mem (by omega)
theorem mem_rd {xs : List Int} {x : Int} (h : x ∈ xs) : ∃ i : Nat, i < xs.length ∧ rd xs (i : Int) = x := by
  obtain ⟨i, hi, he⟩ := List.getElem_of_mem h
  exact ⟨i, hi, by rw [rd_get hi, he]⟩
theorem ext_rd {xs ys : List Int} (hl : xs.length = ys.length) (h : ∀ i : Nat, i < xs.length → rd xs (i : Int) = rd ys (i : Int)) : xs = ys := by
  apply List.ext_getElem hl
  intro i h1 h2
  have := h i h1
  rwa [rd_get h1, rd_get h2] at this
theorem rd_set {xs : List Int} {i j : Nat} {v : Int} (hj : j < xs.length) : rd (xs.set i v) (j : Int) = if i = j then v else rd xs (j : Int) := by
  rw [rd_get (by simpa using hj), rd_get hj, List.getElem_set]
theorem rd_set_ne {xs : List Int} {i j : Nat} {v : Int} (h : i ≠ j) : rd (xs.set i v) (j : Int) = rd xs (j : Int) := by
  simp only [rd, List.getD_eq_getElem?_getD, Int.toNat_natCast, List.getElem?_set_ne h]
theorem rd_append_l {xs ys : List Int} {i : Nat} (h : i < xs.length) : rd (xs ++ ys) (i : Int) = rd xs (i : Int) := by
  rw [rd_get (by simp; omega), rd_get h, List.getElem_append_left h]
theorem rd_append_r {xs ys : List Int} {i : Nat} (h : xs.length ≤ i) (h2 : i < xs.length + ys.length) : rd (xs ++ ys) (i : Int) = rd ys ((i - xs.length : Nat) : Int) := by
  rw [rd_get (by simp; omega), rd_get (by omega), List.getElem_append_right h]
theorem rd_replicate {n i : Nat} {v : Int} (h : i < n) : rd (List.replicate n v) (i : Int) = v := by
  rw [rd_get (by simpa using h)]; simp
theorem rd_mapRange {n i : Nat} {f : Nat → Int} (h : i < n) : rd ((List.range n).map f) (i : Int) = f i := by
  rw [rd_get (by simpa using h)]; simp
theorem toNat_cast (i : Nat) : ((i : Int) : Int).toNat = i := by simp
theorem mx_max (a b : Int) : mx a b = max a b := by unfold mx; omega
theorem mn_min (a b : Int) : mn a b = min a b := by unfold mn; omega
theorem bits_xor {a b : Int} (ha : 0 ≤ a) (ha2 : a < 4611686018427387904) (hb : 0 ≤ b) (hb2 : b < 4611686018427387904) : 0 ≤ Go.bits .xor .i64 a b ∧ Go.bits .xor .i64 a b < 4611686018427387904 := by
  obtain ⟨a, rfl⟩ := Int.eq_ofNat_of_zero_le ha
  obtain ⟨b, rfl⟩ := Int.eq_ofNat_of_zero_le hb
  have h1 : a < 2 ^ 62 := by omega
  have h2 : b < 2 ^ 62 := by omega
  have h3 := Nat.xor_lt_two_pow h1 h2
  have e : Go.bits .xor .i64 (a : Int) (b : Int) = IntKind.i64.wrap (((BitVec.ofInt 64 (a : Int)) ^^^ (BitVec.ofInt 64 (b : Int))).toNat : Int) := rfl
  have ha' : (BitVec.ofInt 64 (a : Int)).toNat = a := by rw [BitVec.ofInt_natCast, BitVec.toNat_ofNat]; exact Nat.mod_eq_of_lt (by omega)
  have hb' : (BitVec.ofInt 64 (b : Int)).toNat = b := by rw [BitVec.ofInt_natCast, BitVec.toNat_ofNat]; exact Nat.mod_eq_of_lt (by omega)
  rw [e, BitVec.toNat_xor, ha', hb', IntKind.wrap_i64]
  omega
theorem cast0 : ((0 : Nat) : Int) = 0 := rfl
theorem w01 : wrap64 (0 + 1) = 1 := by unfold wrap64; omega
theorem w12 : wrap64 (1 + 1) = 2 := by unfold wrap64; omega
theorem w23 : wrap64 (2 + 1) = 3 := by unfold wrap64; omega
theorem w34 : wrap64 (3 + 1) = 4 := by unfold wrap64; omega
theorem w45 : wrap64 (4 + 1) = 5 := by unfold wrap64; omega

/-! ### listm -/
theorem pigeon : ∀ (n : Nat) (xs : List Int), xs.Nodup → (∀ x ∈ xs, 0 ≤ x ∧ x < (n : Int)) → xs.length ≤ n := by
  intro n
  induction n with
  | zero =>
    intro xs _ h
    cases xs with
    | nil => simp
    | cons x xs => have := h x (by simp); omega
  | succ n ih =>
    intro xs hn h
    by_cases hm : (n : Int) ∈ xs
    · have h1 := ih (xs.erase (n : Int)) (hn.erase _) (fun x hx => by
        have h2 := (hn.mem_erase_iff).1 hx
        have h3 := h x h2.2
        have h4 := h2.1
        omega)
      rw [List.length_erase_of_mem hm] at h1
      omega
    · have h1 := ih xs hn (fun x hx => by
        have h3 := h x hx
        have h4 : x ≠ (n : Int) := fun e => hm (e ▸ hx)
        omega)
      omega
/-- Fewer different members than there are: one is missing. -/
theorem one_missing : ∀ (n : Nat) (xs : List Int), xs.length < n → ∃ j : Nat, j < n ∧ (j : Int) ∉ xs := by
  intro n
  induction n with
  | zero => intro xs h; omega
  | succ n ih =>
    intro xs h
    by_cases hm : (n : Int) ∈ xs
    · obtain ⟨j, hj, hx⟩ := ih (xs.erase (n : Int)) (by rw [List.length_erase_of_mem hm]; have := List.length_pos_of_mem hm; omega)
      refine ⟨j, by omega, fun hmem => hx ?_⟩
      exact (List.mem_erase_of_ne (by omega)).2 hmem
    · exact ⟨n, by omega, hm⟩
/-- Members, one after the other, in range and not seen yet. -/
def memB (n : Int) : List Int → List Int → Bool
  | _, [] => true
  | seen, x :: rest => decide (0 ≤ x ∧ x < n) && (!decide (x ∈ seen) && memB n (seen ++ [x]) rest)
theorem memB_iff (n : Int) : ∀ (xs seen : List Int), memB n seen xs = true ↔ (∀ x ∈ xs, 0 ≤ x ∧ x < n ∧ x ∉ seen) ∧ xs.Nodup := by
  intro xs
  induction xs with
  | nil => intro seen; simp [memB]
  | cons a xs ih =>
    intro seen
    simp only [memB, Bool.and_eq_true, decide_eq_true_eq, Bool.not_eq_true', decide_eq_false_iff_not, ih, List.mem_cons, List.mem_append, List.not_mem_nil, or_false, List.nodup_cons]
    constructor
    · rintro ⟨⟨h1, h2⟩, h3, h4, h5⟩
      refine ⟨?_, fun ha => (h4 a ha).2.2 (Or.inr rfl), h5⟩
      rintro x (rfl | hx)
      · exact ⟨h1, h2, h3⟩
      · obtain ⟨a1, a2, a3⟩ := h4 x hx
        exact ⟨a1, a2, fun h => a3 (Or.inl h)⟩
    · rintro ⟨h1, h2, h3⟩
      obtain ⟨a1, a2, a3⟩ := h1 a (Or.inl rfl)
      refine ⟨⟨a1, a2⟩, a3, fun x hx => ?_, h3⟩
      obtain ⟨b1, b2, b3⟩ := h1 x (Or.inr hx)
      refine ⟨b1, b2, ?_⟩
      rintro (h | rfl)
      · exact b3 h
      · exact h2 hx
/-- Different members of a body. -/
def GoodM (xs : List Int) (n : Int) : Prop := xs.Nodup ∧ ∀ x ∈ xs, 0 ≤ x ∧ x < n
instance (xs : List Int) (n : Int) : Decidable (GoodM xs n) := inferInstanceAs (Decidable (_ ∧ _))
theorem memB_good (n : Int) (xs : List Int) : memB n [] xs = decide (GoodM xs n) := by
  rw [Bool.eq_iff_iff, memB_iff, decide_eq_true_eq]
  unfold GoodM
  constructor
  · rintro ⟨h, hn⟩
    exact ⟨hn, fun x hx => ⟨(h x hx).1, (h x hx).2.1⟩⟩
  · rintro ⟨hn, h⟩
    exact ⟨fun x hx => ⟨(h x hx).1, (h x hx).2, by simp⟩, hn⟩
theorem GoodM.le {xs : List Int} {n : Nat} (h : GoodM xs (n : Int)) : xs.length ≤ n := pigeon n xs h.1 h.2
/-- The first place of a number behind some. -/
def idxM : List Int → Int → Nat → Int
  | [], _, _ => -1
  | y :: ys, x, i => if y = x then (i : Int) else idxM ys x (i + 1)
theorem idxM_neg : ∀ (xs : List Int) (x : Int) (i : Nat), idxM xs x i < 0 ↔ x ∉ xs := by
  intro xs
  induction xs with
  | nil => intro x i; simp [idxM]
  | cons y ys ih =>
    intro x i
    simp only [idxM]
    by_cases e : y = x
    · rw [if_pos e]; simp [e]
    · rw [if_neg e, ih]
      have e' : ¬ x = y := fun h => e h.symm
      simp [e']
theorem idxM_nonneg (xs : List Int) (x : Int) (i : Nat) : 0 ≤ idxM xs x i ↔ x ∈ xs := by
  have := idxM_neg xs x i
  by_cases h : x ∈ xs
  · simp only [h, not_true, iff_false] at this
    simp [h]; omega
  · simp only [h, not_false_iff, iff_true] at this
    simp [h]; omega
theorem idxM_at : ∀ (xs : List Int) (x : Int) (i : Nat), x ∈ xs → ∃ j : Nat, idxM xs x i = ((i + j : Nat) : Int) ∧ j < xs.length ∧ rd xs (j : Int) = x ∧ ∀ q : Nat, q < j → rd xs (q : Int) ≠ x := by
  intro xs
  induction xs with
  | nil => intro x i h; simp at h
  | cons y ys ih =>
    intro x i h
    by_cases e : y = x
    · exact ⟨0, by simp [idxM, e], by simp, by simp [rd, e], fun q hq => by omega⟩
    · have hx : x ∈ ys := by
        rcases List.mem_cons.1 h with h | h
        · exact absurd h.symm e
        · exact h
      obtain ⟨j, h1, h2, h3, h4⟩ := ih x (i + 1) hx
      refine ⟨j + 1, by simp only [idxM, if_neg e, h1]; omega, by simp; omega, ?_, ?_⟩
      · rw [← h3, rd_get (by simp; omega), rd_get h2]; simp
      · intro q hq
        cases q with
        | zero => rw [rd_get (by simp)]; simpa using e
        | succ q => have := h4 q (by omega); rw [rd_get (by simp; omega)]; rw [rd_get (by omega)] at this; simpa using this
theorem sum_set : ∀ (xs : List Int) (i : Nat) (v : Int), i < xs.length → (xs.set i v).sum = xs.sum - rd xs (i : Int) + v := by
  intro xs
  induction xs with
  | nil => intro i v h; simp at h
  | cons x xs ih =>
    intro i v h
    cases i with
    | zero => simp [rd]; omega
    | succ i =>
      have h2 : i < xs.length := by simpa using h
      have := ih i v h2
      have e : rd (x :: xs) ((i + 1 : Nat) : Int) = rd xs (i : Int) := by rw [rd_get h, rd_get h2]; simp
      simp only [List.set_cons_succ, List.sum_cons, this, e]
      omega
theorem sum_replicate0 (n : Nat) : (List.replicate n (0 : Int)).sum = 0 := by
  induction n with
  | zero => rfl
  | succ n ih => simp [List.replicate_succ, ih]
theorem set_fill {α : Type} (A : List α) (d : Nat) (z v : α) : (A ++ List.replicate (d + 1) z).set A.length v = (A ++ [v]) ++ List.replicate d z := by
  rw [List.set_append_right _ _ (Nat.le_refl _)]
  simp [List.replicate_succ]
theorem set_fill' {α : Type} {A : List α} {i d : Nat} {z v : α} (h : A.length = i) : (A ++ List.replicate (d + 1) z).set i v = (A ++ [v]) ++ List.replicate d z := by
  subst h; exact set_fill A d z v
theorem sum_bound : ∀ (xs : List Int) (lo hi : Int), (∀ x ∈ xs, lo ≤ x ∧ x ≤ hi) → (xs.length : Int) * lo ≤ xs.sum ∧ xs.sum ≤ (xs.length : Int) * hi := by
  intro xs lo hi
  induction xs with
  | nil => intro _; simp
  | cons x xs ih =>
    intro h
    have h1 := ih (fun y hy => h y (by simp [hy]))
    have h2 := h x (by simp)
    have e1 : ((x :: xs).length : Int) * lo = (xs.length : Int) * lo + lo := by simp [Int.add_mul]
    have e2 : ((x :: xs).length : Int) * hi = (xs.length : Int) * hi + hi := by simp [Int.add_mul]
    rw [e1, e2, List.sum_cons]
    omega

/-! ### polym -/
/-- Equal rests. -/
def Eqv (a b : Int) : Prop := (a - b) % 251 = 0
theorem Eqv.refl (a : Int) : Eqv a a := by unfold Eqv; omega
theorem Eqv.symm {a b : Int} (h : Eqv a b) : Eqv b a := by unfold Eqv at *; omega
theorem Eqv.trans {a b c : Int} (h : Eqv a b) (k : Eqv b c) : Eqv a c := by unfold Eqv at *; omega
theorem Eqv.add {a b c d : Int} (h : Eqv a b) (k : Eqv c d) : Eqv (a + c) (b + d) := by unfold Eqv at *; omega
theorem Eqv.sub {a b c d : Int} (h : Eqv a b) (k : Eqv c d) : Eqv (a - c) (b - d) := by unfold Eqv at *; omega
theorem Eqv.of_eq {a b : Int} (h : a = b) : Eqv a b := h ▸ Eqv.refl a
theorem Eqv.mod (a : Int) : Eqv (a % 251) a := by unfold Eqv; omega
theorem Eqv.mul_l {a b : Int} (c : Int) (h : Eqv a b) : Eqv (c * a) (c * b) := by
  unfold Eqv at *
  rw [← Int.mul_sub]
  obtain ⟨q, hq⟩ := Int.dvd_of_emod_eq_zero h
  rw [hq, show c * (251 * q) = 251 * (c * q) by rw [← Int.mul_assoc, Int.mul_comm c 251, Int.mul_assoc]]
  exact Int.mul_emod_right _ _
theorem Eqv.mul {a b c d : Int} (h : Eqv a b) (k : Eqv c d) : Eqv (a * c) (b * d) := by
  have h1 : Eqv (a * c) (a * d) := Eqv.mul_l a k
  have h2 : Eqv (d * a) (d * b) := Eqv.mul_l d h
  rw [Int.mul_comm d a, Int.mul_comm d b] at h2
  exact h1.trans h2
theorem Eqv.eq {a b : Int} (h : Eqv a b) (ha : 0 ≤ a ∧ a < 251) (hb : 0 ≤ b ∧ b < 251) : a = b := by unfold Eqv at h; omega
theorem Eqv.emod {a b : Int} (h : Eqv a b) : a % 251 = b % 251 := by unfold Eqv at h; omega
theorem Eqv.of_emod {a b : Int} (h : a % 251 = b % 251) : Eqv a b := by unfold Eqv; omega
theorem inv_table : ∀ n : Fin 251, n.val ≠ 0 → n.val * (n.val ^ 249 % 251) % 251 = 1 := by decide +kernel
/-- The inverse of a rest. -/
def invM (n : Int) : Int := ((n.toNat ^ 249 % 251 : Nat) : Int)
theorem invM_range (n : Int) : 0 ≤ invM n ∧ invM n < 251 := by unfold invM; omega
theorem invM_mul {n : Int} (h0 : 1 ≤ n) (h1 : n ≤ 250) : n * invM n % 251 = 1 := by
  obtain ⟨m, rfl⟩ := Int.eq_ofNat_of_zero_le (show 0 ≤ n by omega)
  have hm : m < 251 := by omega
  have hm0 : m ≠ 0 := by omega
  have h2 : m * (m ^ 249 % 251) % 251 = 1 := inv_table ⟨m, hm⟩ hm0
  unfold invM
  rw [Int.toNat_natCast]
  obtain ⟨q, hq⟩ : ∃ q, q = m ^ 249 % 251 := ⟨_, rfl⟩
  rw [← hq] at h2 ⊢
  clear hq
  rw [show (m : Int) * (q : Int) % 251 = ((m * q % 251 : Nat) : Int) by rw [Int.natCast_emod, Int.natCast_mul]; rfl, h2]
  rfl
theorem invM_pos {n : Int} (h0 : 1 ≤ n) (h1 : n ≤ 250) : 1 ≤ invM n := by
  have := invM_mul h0 h1
  have h2 := (invM_range n).1
  by_cases e : invM n = 0
  · rw [e] at this; simp at this
  · omega
/-- No product of rests other than 0 is 0. -/
theorem Eqv.zero_mul {a b : Int} (h : Eqv (a * b) 0) (ha : ¬ Eqv a 0) : Eqv b 0 := by
  have hr : 1 ≤ a % 251 ∧ a % 251 ≤ 250 := by unfold Eqv at ha; omega
  have hi : Eqv (a % 251 * invM (a % 251)) 1 := by have := invM_mul hr.1 hr.2; unfold Eqv; omega
  have h1 : Eqv (a % 251 * invM (a % 251) * b) (1 * b) := hi.mul (Eqv.refl b)
  have h2 : Eqv (a % 251 * invM (a % 251) * b) (invM (a % 251) * (a * b)) := by
    have : a % 251 * invM (a % 251) * b = invM (a % 251) * (a % 251 * b) := by
      rw [Int.mul_comm (a % 251), Int.mul_assoc]
    rw [this]
    exact Eqv.mul_l _ ((Eqv.mod a).mul (Eqv.refl b))
  have h3 : Eqv (invM (a % 251) * (a * b)) (invM (a % 251) * 0) := Eqv.mul_l _ h
  rw [Int.one_mul] at h1
  rw [Int.mul_zero] at h3
  exact h1.symm.trans (h2.trans h3)
/-- The value of a polynomial, the rests not yet taken. -/
def evalM : List Int → Int → Int
  | [], _ => 0
  | c :: t, x => c + x * evalM t x
theorem evalM_append : ∀ (a b : List Int) (x : Int), evalM (a ++ b) x = evalM a x + x ^ a.length * evalM b x := by
  intro a b x
  induction a with
  | nil => simp [evalM]
  | cons c t ih =>
    simp only [List.cons_append, evalM, ih, List.length_cons, Int.pow_succ]
    rw [Int.mul_add, Int.add_assoc, ← Int.mul_assoc, Int.mul_comm x (x ^ t.length)]
theorem evalM_zeros (m : Nat) (x : Int) : evalM (List.replicate m 0) x = 0 := by
  induction m with
  | zero => rfl
  | succ m ih => simp [List.replicate_succ, evalM, ih]
theorem evalM_pad (a : List Int) (m : Nat) (x : Int) : evalM (a ++ List.replicate m 0) x = evalM a x := by
  rw [evalM_append, evalM_zeros]; simp
/-- Coefficients whose rests are equal have equal values. -/
theorem evalM_congr : ∀ (a b : List Int) (x : Int), a.length = b.length → (∀ i : Nat, i < a.length → Eqv (rd a i) (rd b i)) → Eqv (evalM a x) (evalM b x) := by
  intro a
  induction a with
  | nil =>
    intro b x hl _
    cases b with
    | nil => exact Eqv.refl _
    | cons c t => simp at hl
  | cons c t ih =>
    intro b x hl h
    cases b with
    | nil => simp at hl
    | cons d u =>
      simp only [evalM]
      have h0 : Eqv c d := by simpa [rd] using h 0 (by simp)
      refine h0.add (Eqv.mul_l x (ih u x (by simpa using hl) fun i hi => ?_))
      have := h (i + 1) (by simp; omega)
      simpa [rd] using this
/-- The values at a of all ends of a list that are not empty: the quotient by x less a. -/
def sq : List Int → Int → List Int
  | [], _ => []
  | d :: t, a => evalM (d :: t) a :: sq t a
theorem sq_length : ∀ (t : List Int) (a : Int), (sq t a).length = t.length := by
  intro t a
  induction t with
  | nil => rfl
  | cons d t ih => simp [sq, ih]
theorem sq_eq : ∀ (t : List Int) (c a x : Int), evalM (c :: t) x = evalM (sq t a) x * (x - a) + evalM (c :: t) a := by
  intro t
  induction t with
  | nil => intro c a x; simp [sq, evalM]
  | cons d t ih =>
    intro c a x
    have h := ih d a x
    have e1 : evalM (c :: d :: t) x = c + x * evalM (d :: t) x := rfl
    have e2 : evalM (c :: d :: t) a = c + a * evalM (d :: t) a := rfl
    have e3 : evalM (sq (d :: t) a) x = evalM (d :: t) a + x * evalM (sq t a) x := rfl
    rw [e1, e2, e3, h]
    generalize evalM (d :: t) a = T
    generalize evalM (sq t a) x = Q
    rw [Int.mul_add, Int.add_mul, Int.mul_sub T, Int.mul_assoc x Q, Int.mul_comm a T, Int.mul_comm x T]
    omega
/-- Different rests. -/
def Apart251 (xs : List Int) : Prop := xs.Pairwise fun a b => ¬ Eqv a b
/-- A polynomial with as many zeros as coefficients has none but 0. -/
theorem roots : ∀ (n : Nat) (e xs : List Int), e.length = n → xs.length = n → Apart251 xs → (∀ x ∈ xs, Eqv (evalM e x) 0) → ∀ c ∈ e, Eqv c 0 := by
  intro n
  induction n with
  | zero => intro e xs he _ _ _ c hc; rw [List.eq_nil_of_length_eq_zero he] at hc; simp at hc
  | succ n ih =>
    intro e xs he hxs hap hz
    cases e with
    | nil => simp at he
    | cons c t =>
      cases xs with
      | nil => simp at hxs
      | cons a ys =>
        have hap' := List.pairwise_cons.1 hap
        have ha : Eqv (evalM (c :: t) a) 0 := hz a (by simp)
        have hq : ∀ d ∈ sq t a, Eqv d 0 := by
          refine ih (sq t a) ys (by rw [sq_length]; simpa using he) (by simpa using hxs) hap'.2 fun y hy => ?_
          have h1 := hz y (by simp [hy])
          rw [sq_eq t c a y] at h1
          have h2 : Eqv (evalM (sq t a) y * (y - a)) 0 := by
            have := h1.sub ha
            rw [Int.add_sub_cancel, Int.sub_zero] at this
            exact this
          rw [Int.mul_comm] at h2
          refine h2.zero_mul fun h => ?_
          exact hap'.1 y hy (by unfold Eqv at *; omega)
        have hs : ∀ u : List Int, (∀ d ∈ sq u a, Eqv d 0) → Eqv (evalM u a) 0 ∧ ∀ d ∈ u, Eqv d 0 := by
          intro u
          induction u with
          | nil => intro _; exact ⟨Eqv.refl _, by simp⟩
          | cons d u ihu =>
            intro h
            obtain ⟨h1, h2⟩ := ihu fun x hx => h x (by simp [sq, hx])
            have h3 : Eqv (evalM (d :: u) a) 0 := h _ (by simp [sq])
            have h4 : Eqv (a * evalM u a) 0 := by have := Eqv.mul_l a h1; rwa [Int.mul_zero] at this
            refine ⟨h3, fun x hx => ?_⟩
            rcases List.mem_cons.1 hx with rfl | hx
            · have h5 : evalM (x :: u) a = x + a * evalM u a := rfl
              rw [h5] at h3
              have := h3.sub h4
              rwa [Int.add_sub_cancel, Int.sub_zero] at this
            · exact h2 x hx
        obtain ⟨h1, h2⟩ := hs t hq
        intro d hd
        rcases List.mem_cons.1 hd with rfl | hd
        · have h5 : evalM (d :: t) a = d + a * evalM t a := rfl
          rw [h5] at ha
          have h4 : Eqv (a * evalM t a) 0 := by have := Eqv.mul_l a h1; rwa [Int.mul_zero] at this
          have := ha.sub h4
          rwa [Int.add_sub_cancel, Int.sub_zero] at this
        · exact h2 d hd
def subM (a b : List Int) : List Int := List.zipWith (fun x y => x - y) a b
theorem evalM_sub : ∀ (a b : List Int) (x : Int), a.length = b.length → evalM (subM a b) x = evalM a x - evalM b x := by
  intro a
  induction a with
  | nil =>
    intro b x hl
    cases b with
    | nil => rfl
    | cons c t => simp at hl
  | cons c t ih =>
    intro b x hl
    cases b with
    | nil => simp at hl
    | cons d u =>
      have := ih u x (by simpa using hl)
      simp only [subM, List.zipWith_cons_cons, evalM] at *
      rw [this, Int.mul_sub]
      omega
/-- Coefficients that are rests. -/
def Rests (cs : List Int) : Prop := ∀ c ∈ cs, 0 ≤ c ∧ c < 251
/-- As many values as coefficients tell the polynomial. -/
theorem poly_unique {a b xs : List Int} (hl : a.length = b.length) (hx : xs.length = a.length) (ha : Rests a) (hb : Rests b) (hap : Apart251 xs) (h : ∀ x ∈ xs, Eqv (evalM a x) (evalM b x)) : a = b := by
  have hd := roots a.length (subM a b) xs (by simp [subM, hl]) hx hap fun x hxm => by
    rw [evalM_sub a b x hl]
    have := (h x hxm).sub (Eqv.refl (evalM b x))
    rwa [Int.sub_self] at this
  apply ext_rd hl
  intro i hi
  have h1 := hd ((subM a b)[i]'(by simp [subM, ← hl, hi])) (List.getElem_mem _)
  rw [rd_get hi, rd_get (by omega)]
  have h2 : (subM a b)[i]'(by simp [subM, ← hl, hi]) = a[i] - b[i]'(by omega) := by simp [subM]
  rw [h2] at h1
  have h3 : Eqv a[i] (b[i]'(by omega)) := by unfold Eqv at *; omega
  exact h3.eq (ha _ (List.getElem_mem _)) (hb _ (List.getElem_mem _))
theorem apart_of {xs : List Int} (hn : xs.Nodup) (h : ∀ x ∈ xs, 0 ≤ x ∧ x < 251) : Apart251 xs := by
  unfold Apart251
  rw [List.pairwise_iff_getElem]
  intro i j hi hj hij e
  have h1 := e.eq (h _ (List.getElem_mem hi)) (h _ (List.getElem_mem hj))
  rw [List.Nodup, List.pairwise_iff_getElem] at hn
  exact hn i j hi hj hij h1
/-- Horner's way, with rests. -/
def hornM : List Int → Int → Int
  | [], _ => 0
  | c :: t, x => (hornM t x * x + c) % 251
theorem hornM_eq : ∀ (cs : List Int) (x : Int), Eqv (hornM cs x) (evalM cs x) := by
  intro cs x
  induction cs with
  | nil => exact Eqv.refl _
  | cons c t ih =>
    simp only [hornM, evalM]
    refine (Eqv.mod _).trans ?_
    rw [Int.add_comm c, Int.mul_comm x]
    exact (ih.mul (Eqv.refl x)).add (Eqv.refl c)
theorem hornM_range : ∀ (cs : List Int) (x : Int), 0 ≤ hornM cs x ∧ hornM cs x < 251 := by
  intro cs x
  cases cs with
  | nil => simp [hornM]
  | cons c t => simp only [hornM]; omega

/-! ### newton -/
/-- A sum with a factor, the rests not yet taken. -/
def addM (f : Int) (a b : List Int) : List Int := List.zipWith (fun x y => x + f * y) a b
theorem addM_length {f : Int} {a b : List Int} (h : a.length = b.length) : (addM f a b).length = a.length := by simp [addM, h]
theorem addM_rd {f : Int} {a b : List Int} (h : a.length = b.length) {i : Nat} (hi : i < a.length) : rd (addM f a b) i = rd a i + f * rd b i := by
  rw [rd_get (by rw [addM_length h]; exact hi), rd_get hi, rd_get (by omega)]
  simp [addM]
theorem evalM_addM (f : Int) : ∀ (a b : List Int) (x : Int), a.length = b.length → evalM (addM f a b) x = evalM a x + f * evalM b x := by
  intro a
  induction a with
  | nil =>
    intro b x hl
    cases b with
    | nil => simp [addM, evalM]
    | cons c t => simp at hl
  | cons c t ih =>
    intro b x hl
    cases b with
    | nil => simp at hl
    | cons d u =>
      have := ih u x (by simpa using hl)
      simp only [addM, List.zipWith_cons_cons, evalM] at *
      rw [this, Int.mul_add, Int.mul_add, Int.mul_left_comm x f]
      omega
/-- One round of the inner loop. -/
def innM (f g : Int) (base cs nx : List Int) : Nat → List Int × List Int
  | 0 => (cs, nx)
  | i + 1 =>
    let s := innM f g base cs nx i
    let n1 := s.2.set (i + 1) ((rd s.2 ((i + 1 : Nat) : Int) + rd base i) % 251)
    (s.1.set i ((rd s.1 i + f * rd base i) % 251), n1.set i ((rd n1 i + g * rd base i) % 251))
theorem innM_length (f g : Int) (base cs nx : List Int) (i : Nat) : (innM f g base cs nx i).1.length = cs.length ∧ (innM f g base cs nx i).2.length = nx.length := by
  induction i with
  | zero => exact ⟨rfl, rfl⟩
  | succ i ih => simp only [innM]; simpa using ih
theorem innM_cs (f g : Int) (base cs nx : List Int) (hl : cs.length = base.length) : ∀ i : Nat, i ≤ base.length → ∀ j : Nat, j < base.length → rd (innM f g base cs nx i).1 j = if j < i then (rd cs j + f * rd base j) % 251 else rd cs j := by
  intro i
  induction i with
  | zero => intro _ j _; simp [innM]
  | succ i ih =>
    intro hi j hj
    have hlen := (innM_length f g base cs nx i).1
    simp only [innM]
    rw [rd_set (by omega)]
    by_cases e : i = j
    · subst e
      rw [if_pos rfl, if_pos (by omega), ih (by omega) i hj, if_neg (by omega)]
    · rw [if_neg e, ih (by omega) j hj]
      by_cases h : j < i
      · rw [if_pos h, if_pos (by omega)]
      · rw [if_neg h, if_neg (by omega)]
theorem innM_nx (f g : Int) (base cs : List Int) (hb : Rests base) : ∀ i : Nat, i ≤ base.length → ∀ j : Nat, j ≤ base.length →
    rd (innM f g base cs (List.replicate (base.length + 1) 0) i).2 j = if j < i then (rd (0 :: base) j + g * rd base j) % 251 else if j = i then rd (0 :: base) j else 0 := by
  intro i
  induction i with
  | zero =>
    intro _ j hj
    simp only [innM]
    rw [rd_replicate (by omega), if_neg (by omega)]
    by_cases e : j = 0
    · subst e; simp [rd]
    · rw [if_neg e]
  | succ i ih =>
    intro hi j hj
    have hlen := (innM_length f g base cs (List.replicate (base.length + 1) 0) i).2
    rw [List.length_replicate] at hlen
    have hr := hb (rd base i) (rd_mem (by omega))
    have e1 : rd (0 :: base) ((i + 1 : Nat) : Int) = rd base i := by simp [rd]
    simp only [innM]
    rw [rd_set (by simp; omega)]
    by_cases e : i = j
    · subst e
      rw [if_pos rfl, if_pos (by omega), rd_set_ne (by omega), ih (by omega) i (by omega), if_neg (by omega), if_pos rfl]
    · rw [if_neg e, rd_set (by omega)]
      by_cases e2 : i + 1 = j
      · subst e2
        rw [if_pos rfl, ih (by omega) _ hj, if_neg (by omega), if_neg (by omega), if_neg (by omega), if_pos rfl, e1, Int.zero_add, Int.emod_eq_of_lt hr.1 hr.2]
      · rw [if_neg e2, ih (by omega) j hj]
        by_cases h : j < i
        · rw [if_pos h, if_pos (by omega)]
        · rw [if_neg h, if_neg (by omega), if_neg (by omega), if_neg (by omega)]
theorem rests_of {a : List Int} (h : ∀ i : Nat, i < a.length → 0 ≤ rd a i ∧ rd a i < 251) : Rests a := by
  intro c hc
  obtain ⟨i, hi, rfl⟩ := mem_rd hc
  exact h i hi
theorem emod_rest (a : Int) : 0 ≤ a % 251 ∧ a % 251 < 251 := by omega
theorem innM_done (f g : Int) (base cs : List Int) (hl : cs.length = base.length) (hb : Rests base) :
    Rests (innM f g base cs (List.replicate (base.length + 1) 0) base.length).1 ∧ Rests (innM f g base cs (List.replicate (base.length + 1) 0) base.length).2 ∧
    (∀ x, Eqv (evalM (innM f g base cs (List.replicate (base.length + 1) 0) base.length).1 x) (evalM cs x + f * evalM base x)) ∧
    (∀ x, Eqv (evalM (innM f g base cs (List.replicate (base.length + 1) 0) base.length).2 x) ((x + g) * evalM base x)) := by
  obtain ⟨l1, l2⟩ := innM_length f g base cs (List.replicate (base.length + 1) 0) base.length
  have h1 := innM_cs f g base cs (List.replicate (base.length + 1) 0) hl base.length (Nat.le_refl _)
  have h2 := innM_nx f g base cs hb base.length (Nat.le_refl _)
  rw [List.length_replicate] at l2
  generalize innM f g base cs (List.replicate (base.length + 1) 0) base.length = s at *
  refine ⟨rests_of fun i hi => ?_, rests_of fun i hi => ?_, fun x => ?_, fun x => ?_⟩
  · rw [h1 i (by omega), if_pos (by omega)]; exact emod_rest _
  · rw [h2 i (by omega)]
    by_cases h : i < base.length
    · rw [if_pos h]; exact emod_rest _
    · rw [if_neg h, if_pos (by omega), show i = base.length by omega]
      cases base with
      | nil => simp [rd]
      | cons c t =>
        have : rd (0 :: c :: t) (((c :: t).length : Nat) : Int) = rd (c :: t) ((t.length : Nat) : Int) := by simp [rd]
        rw [this]
        exact hb _ (rd_mem (by simp))
  · rw [← evalM_addM f cs base x hl]
    refine evalM_congr _ _ x (by rw [addM_length hl]; exact l1) fun i hi => ?_
    rw [addM_rd hl (by omega), h1 i (by omega), if_pos (by omega)]
    exact Eqv.mod _
  · have e : (x + g) * evalM base x = evalM (addM g (0 :: base) (base ++ [0])) x := by
      rw [evalM_addM g _ _ x (by simp), evalM_append]
      simp only [evalM]
      rw [Int.add_mul]
      simp
    rw [e]
    have hl2 : (0 :: base).length = (base ++ [0]).length := by simp
    refine evalM_congr _ _ x (by rw [addM_length hl2]; simpa using l2) fun i hi => ?_
    rw [addM_rd hl2 (by simp; omega), h2 i (by omega)]
    by_cases h : i < base.length
    · rw [if_pos h, rd_append_l h]
      exact Eqv.mod _
    · have hi2 : i = base.length := by omega
      rw [if_neg h, if_pos hi2, rd_append_r (by omega) (by simp; omega)]
      simp [hi2, rd]
      exact Eqv.refl _
/-- One step of Newton's way: coefficients and the product so far. -/
def newtS (st : List Int × List Int) (x y : Int) : List Int × List Int :=
  innM ((y - hornM st.1 x + 251) * invM (hornM st.2 x) % 251) (251 - x) st.2 (st.1 ++ [0]) (List.replicate (st.2.length + 1) 0) st.2.length
/-- Newton's way. -/
def newt (st : List Int × List Int) : List (Int × Int) → List Int × List Int
  | [] => st
  | p :: t => newt (newtS st p.1 p.2) t
/-- What Newton's way keeps. -/
structure NewtI (done : List (Int × Int)) (st : List Int × List Int) : Prop where
  l1 : st.1.length = done.length
  l2 : st.2.length = done.length + 1
  r1 : Rests st.1
  r2 : Rests st.2
  thr : ∀ p ∈ done, Eqv (evalM st.1 p.1) p.2
  zer : ∀ p ∈ done, Eqv (evalM st.2 p.1) 0
  nz : ∀ x, 0 ≤ x → x < 251 → (∀ p ∈ done, p.1 ≠ x) → ¬ Eqv (evalM st.2 x) 0
def XY (p : Int × Int) : Prop := (0 ≤ p.1 ∧ p.1 < 251) ∧ (0 ≤ p.2 ∧ p.2 < 251)
theorem NewtI.zero : NewtI [] ([], [1]) := by
  refine ⟨rfl, rfl, fun c hc => by simp at hc, fun c hc => ?_, fun p hp => by simp at hp, fun p hp => by simp at hp, fun x _ _ _ => ?_⟩
  · simp at hc; omega
  · simp [evalM, Eqv]
theorem horn_nz {cs : List Int} {x : Int} (h : ¬ Eqv (evalM cs x) 0) : 1 ≤ hornM cs x ∧ hornM cs x ≤ 250 := by
  have h1 := hornM_range cs x
  have h2 := hornM_eq cs x
  by_cases e : hornM cs x = 0
  · rw [e] at h2; exact absurd h2.symm h
  · omega
theorem NewtI.step {done : List (Int × Int)} {st : List Int × List Int} (h : NewtI done st) {p : Int × Int} (hdone : ∀ q ∈ done, XY q) (hp : XY p) (hx : ∀ q ∈ done, q.1 ≠ p.1) : NewtI (done ++ [p]) (newtS st p.1 p.2) := by
  obtain ⟨x, y⟩ := p
  simp only [XY] at hp
  simp only at hx ⊢
  have hb := horn_nz (h.nz x hp.1.1 hp.1.2 hx)
  have hl : (st.1 ++ [0]).length = st.2.length := by rw [List.length_append, h.l1, h.l2]; rfl
  obtain ⟨a1, a2, a3, a4⟩ := innM_done ((y - hornM st.1 x + 251) * invM (hornM st.2 x) % 251) (251 - x) st.2 (st.1 ++ [0]) hl h.r2
  have a5 := innM_length ((y - hornM st.1 x + 251) * invM (hornM st.2 x) % 251) (251 - x) st.2 (st.1 ++ [0]) (List.replicate (st.2.length + 1) 0) st.2.length
  have hz : ∀ z, evalM (st.1 ++ [0]) z = evalM st.1 z := fun z => by simpa using evalM_pad st.1 1 z
  have hm := invM_mul hb.1 hb.2
  have h0 := hornM_eq st.1 x
  have h1 := hornM_eq st.2 x
  refine ⟨?_, ?_, a1, a2, fun q hq => ?_, fun q hq => ?_, fun z hz0 hz1 hzn => ?_⟩
  · rw [newtS, a5.1, List.length_append, List.length_append, h.l1]; rfl
  · rw [newtS, a5.2, List.length_replicate, h.l2, List.length_append]; rfl
  · have a := a3 q.1
    rw [hz] at a
    rcases List.mem_append.1 hq with hq | hq
    · refine a.trans ?_
      have t := (h.thr q hq).add (Eqv.mul_l ((y - hornM st.1 x + 251) * invM (hornM st.2 x) % 251) (h.zer q hq))
      rwa [Int.mul_zero, Int.add_zero] at t
    · obtain rfl : q = (x, y) := by simpa using hq
      refine a.trans ?_
      simp only
      have b1 : Eqv ((y - hornM st.1 x + 251) * invM (hornM st.2 x) % 251 * evalM st.2 x) ((y - hornM st.1 x + 251) * invM (hornM st.2 x) * hornM st.2 x) := (Eqv.mod _).mul h1.symm
      have b2 : Eqv ((y - hornM st.1 x + 251) * invM (hornM st.2 x) * hornM st.2 x) (y - hornM st.1 x + 251) := by
        rw [Int.mul_assoc, Int.mul_comm (invM _)]
        have : Eqv (hornM st.2 x * invM (hornM st.2 x)) 1 := by unfold Eqv; omega
        have := Eqv.mul_l (y - hornM st.1 x + 251) this
        rwa [Int.mul_one] at this
      have b3 := h0.symm.add (b1.trans b2)
      refine b3.trans ?_
      unfold Eqv; omega
  · have a := a4 q.1
    rcases List.mem_append.1 hq with hq | hq
    · refine a.trans ?_
      have t := Eqv.mul_l (q.1 + (251 - x)) (h.zer q hq)
      rwa [Int.mul_zero] at t
    · obtain rfl : q = (x, y) := by simpa using hq
      refine a.trans ?_
      simp only
      have : Eqv (x + (251 - x)) 0 := by unfold Eqv; omega
      have := this.mul (Eqv.refl (evalM st.2 x))
      rwa [Int.zero_mul] at this
  · intro e
    have a := (a4 z).symm.trans e
    have n1 : z ≠ x := fun e => hzn (x, y) (by simp) e.symm
    have n2 := h.nz z hz0 hz1 (fun q hq => hzn q (by simp [hq]))
    exact n2 (a.zero_mul (by unfold Eqv; omega))
theorem newt_inv : ∀ (rest done : List (Int × Int)) (st : List Int × List Int), NewtI done st → (∀ q ∈ done ++ rest, XY q) → ((done ++ rest).map (·.1)).Nodup → NewtI (done ++ rest) (newt st rest) := by
  intro rest
  induction rest with
  | nil => intro done st h _ _; simpa [newt] using h
  | cons p t ih =>
    intro done st h hxy hnd
    have h1 : NewtI (done ++ [p]) (newtS st p.1 p.2) := by
      refine h.step (fun q hq => hxy q (by simp [hq])) (hxy p (by simp)) fun q hq e => ?_
      rw [List.map_append, List.nodup_append] at hnd
      exact hnd.2.2 q.1 (List.mem_map_of_mem hq) p.1 (by simp) e
    have := ih (done ++ [p]) _ h1 (by simpa using hxy) (by simpa using hnd)
    simpa [newt] using this

/-! ### lagr -/
/-- A polynomial times x less a number. -/
def timesM (poly : List Int) (x : Int) : List Int := (innM 0 (251 - x) poly poly (List.replicate (poly.length + 1) 0) poly.length).2
theorem timesM_length (poly : List Int) (x : Int) : (timesM poly x).length = poly.length + 1 := by
  rw [timesM, (innM_length _ _ _ _ _ _).2, List.length_replicate]
theorem timesM_rests {poly : List Int} (x : Int) (h : Rests poly) : Rests (timesM poly x) := (innM_done 0 (251 - x) poly poly rfl h).2.1
theorem timesM_eval {poly : List Int} (x z : Int) (h : Rests poly) : Eqv (evalM (timesM poly x) z) ((z - x) * evalM poly z) := by
  refine ((innM_done 0 (251 - x) poly poly rfl h).2.2.2 z).trans (Eqv.mul ?_ (Eqv.refl _))
  unfold Eqv; omega
/-- The polynomial that is 0 at all places but one, and its value there. -/
def lagP (xs : List Int) (i : Nat) : Nat → List Int × Int
  | 0 => ([1], 1)
  | k + 1 => if k = i then lagP xs i k else (timesM (lagP xs i k).1 (rd xs k), (lagP xs i k).2 * (rd xs i - rd xs k + 251) % 251)
theorem lagP_length (xs : List Int) (i : Nat) : ∀ k, (lagP xs i k).1.length = if i < k then k else k + 1 := by
  intro k
  induction k with
  | zero => simp [lagP]
  | succ k ih =>
    simp only [lagP]
    by_cases e : k = i
    · rw [if_pos e, ih, if_neg (by omega), if_pos (by omega)]
    · rw [if_neg e, timesM_length, ih]
      by_cases h : i < k
      · rw [if_pos h, if_pos (by omega)]
      · rw [if_neg h, if_neg (by omega)]
theorem lagP_rests (xs : List Int) (i : Nat) : ∀ k, Rests (lagP xs i k).1 := by
  intro k
  induction k with
  | zero => intro c hc; simp [lagP] at hc; omega
  | succ k ih =>
    simp only [lagP]
    split
    · exact ih
    · exact timesM_rests _ ih
theorem lagP_inv {xs : List Int} (hx : ∀ x ∈ xs, 0 ≤ x ∧ x < 251) (hn : xs.Nodup) {i : Nat} (hi : i < xs.length) : ∀ k, k ≤ xs.length →
    (1 ≤ (lagP xs i k).2 ∧ (lagP xs i k).2 ≤ 250) ∧ Eqv (evalM (lagP xs i k).1 (rd xs i)) (lagP xs i k).2 ∧ ∀ j : Nat, j < k → j ≠ i → Eqv (evalM (lagP xs i k).1 (rd xs j)) 0 := by
  intro k
  induction k with
  | zero => intro _; exact ⟨by simp [lagP], by simp [lagP, evalM]; exact Eqv.refl _, fun j hj => by omega⟩
  | succ k ih =>
    intro hk
    obtain ⟨a, b, c⟩ := ih (by omega)
    simp only [lagP]
    by_cases e : k = i
    · rw [if_pos e]
      exact ⟨a, b, fun j hj hji => c j (by omega) hji⟩
    · rw [if_neg e]
      simp only
      have r1 := hx _ (rd_mem hi)
      have r2 := hx _ (rd_mem (show k < xs.length by omega))
      have ne : rd xs i ≠ rd xs k := by
        rw [rd_get hi, rd_get (by omega)]
        intro h
        exact e ((List.getElem_inj hn).1 h).symm
      have nz : ¬ Eqv (rd xs i - rd xs k + 251) 0 := by unfold Eqv; omega
      have nz2 : ¬ Eqv ((lagP xs i k).2 * (rd xs i - rd xs k + 251)) 0 := fun h => nz (h.zero_mul (by unfold Eqv; omega))
      refine ⟨?_, ?_, fun j hj hji => ?_⟩
      · unfold Eqv at nz2; omega
      · refine (timesM_eval _ _ (lagP_rests xs i k)).trans (Eqv.trans ?_ (Eqv.mod _).symm)
        rw [Int.mul_comm]
        exact b.mul (by unfold Eqv; omega)
      · refine (timesM_eval _ _ (lagP_rests xs i k)).trans ?_
        by_cases e2 : j = k
        · subst e2
          rw [Int.sub_self, Int.zero_mul]; exact Eqv.refl _
        · have := Eqv.mul_l (rd xs j - rd xs k) (c j (by omega) hji)
          rwa [Int.mul_zero] at this
/-- A sum with a factor, by rests. -/
def accM (f : Int) (base cs : List Int) : List Int := (innM f 0 base cs [] base.length).1
theorem accM_length (f : Int) (base cs : List Int) : (accM f base cs).length = cs.length := (innM_length _ _ _ _ _ _).1
theorem accM_rests {f : Int} {base cs : List Int} (hl : cs.length = base.length) : Rests (accM f base cs) := by
  refine rests_of fun i hi => ?_
  rw [accM_length] at hi
  rw [accM, innM_cs f 0 base cs [] hl base.length (Nat.le_refl _) i (by omega), if_pos (by omega)]
  exact emod_rest _
theorem accM_eval {f : Int} {base cs : List Int} (hl : cs.length = base.length) (x : Int) : Eqv (evalM (accM f base cs) x) (evalM cs x + f * evalM base x) := by
  rw [← evalM_addM f cs base x hl]
  refine evalM_congr _ _ x (by rw [addM_length hl]; exact accM_length _ _ _) fun i hi => ?_
  rw [accM_length] at hi
  rw [addM_rd hl (by omega), accM, innM_cs f 0 base cs [] hl base.length (Nat.le_refl _) i (by omega), if_pos (by omega)]
  exact Eqv.mod _
/-- Lagrange's way. -/
def lagr (xs ys : List Int) : Nat → List Int
  | 0 => List.replicate xs.length 0
  | i + 1 => accM (rd ys i * invM (lagP xs i xs.length).2 % 251) (lagP xs i xs.length).1 (lagr xs ys i)
theorem lagr_length (xs ys : List Int) (i : Nat) : (lagr xs ys i).length = xs.length := by
  induction i with
  | zero => simp [lagr]
  | succ i ih => rw [lagr, accM_length, ih]
theorem lagr_inv {xs : List Int} (ys : List Int) (hx : ∀ x ∈ xs, 0 ≤ x ∧ x < 251) (hn : xs.Nodup) : ∀ i, i ≤ xs.length →
    Rests (lagr xs ys i) ∧ ∀ j : Nat, j < xs.length → Eqv (evalM (lagr xs ys i) (rd xs j)) (if j < i then rd ys j else 0) := by
  intro i
  induction i with
  | zero =>
    intro _
    refine ⟨fun c hc => ?_, fun j hj => ?_⟩
    · simp [lagr] at hc; omega
    · rw [if_neg (by omega), lagr, evalM_zeros]; exact Eqv.refl _
  | succ i ih =>
    intro hi
    obtain ⟨_, b⟩ := ih (by omega)
    have hl : (lagr xs ys i).length = (lagP xs i xs.length).1.length := by rw [lagr_length, lagP_length, if_pos (by omega)]
    obtain ⟨p1, p2, p3⟩ := lagP_inv hx hn (show i < xs.length by omega) xs.length (Nat.le_refl _)
    refine ⟨accM_rests hl, fun j hj => ?_⟩
    rw [lagr]
    refine (accM_eval hl _).trans ?_
    by_cases e : j = i
    · subst e
      rw [if_pos (by omega)]
      have b0 := b j hj
      rw [if_neg (by omega)] at b0
      have h1 : Eqv (rd ys j * invM (lagP xs j xs.length).2 % 251 * evalM (lagP xs j xs.length).1 (rd xs j)) (rd ys j * invM (lagP xs j xs.length).2 * (lagP xs j xs.length).2) := (Eqv.mod _).mul p2
      have h2 : Eqv (rd ys j * invM (lagP xs j xs.length).2 * (lagP xs j xs.length).2) (rd ys j) := by
        rw [Int.mul_assoc, Int.mul_comm (invM _)]
        have hm := invM_mul p1.1 p1.2
        have : Eqv ((lagP xs j xs.length).2 * invM (lagP xs j xs.length).2) 1 := by unfold Eqv; omega
        have := Eqv.mul_l (rd ys j) this
        rwa [Int.mul_one] at this
      have := b0.add (h1.trans h2)
      rwa [Int.zero_add] at this
    · have h1 := Eqv.mul_l (rd ys i * invM (lagP xs i xs.length).2 % 251) (p3 j hj e)
      rw [Int.mul_zero] at h1
      have := (b j hj).add h1
      rw [Int.add_zero] at this
      refine this.trans (Eqv.of_eq ?_)
      by_cases h : j < i
      · rw [if_pos h, if_pos (by omega)]
      · rw [if_neg h, if_neg (by omega)]
/-- Places that are rests and differ, values that are rests. -/
structure Places (ps : List (Int × Int)) : Prop where
  xy : ∀ q ∈ ps, XY q
  nd : (ps.map (·.1)).Nodup
/-- The polynomial through places. -/
def thr (ps : List (Int × Int)) : List Int := (newt ([], [1]) ps).1
theorem thr_inv {ps : List (Int × Int)} (h : Places ps) : NewtI ps (newt ([], [1]) ps) := newt_inv ps [] _ NewtI.zero h.xy h.nd
theorem thr_length {ps : List (Int × Int)} (h : Places ps) : (thr ps).length = ps.length := (thr_inv h).l1
theorem thr_rests {ps : List (Int × Int)} (h : Places ps) : Rests (thr ps) := (thr_inv h).r1
theorem thr_eval {ps : List (Int × Int)} (h : Places ps) {p : Int × Int} (hp : p ∈ ps) : Eqv (evalM (thr ps) p.1) p.2 := (thr_inv h).thr p hp
/-- It is the only one. -/
theorem thr_unique {ps : List (Int × Int)} (h : Places ps) {cs : List Int} (hl : cs.length = ps.length) (hr : Rests cs) (he : ∀ p ∈ ps, Eqv (evalM cs p.1) p.2) : cs = thr ps := by
  refine poly_unique (xs := ps.map (·.1)) (by rw [hl, thr_length h]) (by simpa using hl.symm) hr (thr_rests h) (apart_of h.nd fun x hx => ?_) fun x hx => ?_
  · obtain ⟨q, hq, rfl⟩ := List.mem_map.1 hx
    exact (h.xy q hq).1
  · obtain ⟨q, hq, rfl⟩ := List.mem_map.1 hx
    exact (he q hq).trans (thr_eval h hq).symm
theorem lagr_thr {ps : List (Int × Int)} (h : Places ps) : lagr (ps.map (·.1)) (ps.map (·.2)) ps.length = thr ps := by
  have hx : ∀ x ∈ ps.map (·.1), 0 ≤ x ∧ x < 251 := fun x hx => by
    obtain ⟨q, hq, rfl⟩ := List.mem_map.1 hx
    exact (h.xy q hq).1
  obtain ⟨a, b⟩ := lagr_inv (xs := ps.map (·.1)) (ps.map (·.2)) hx h.nd ps.length (by simp)
  refine thr_unique h (by rw [lagr_length]; simp) a fun p hp => ?_
  obtain ⟨j, hj, rfl⟩ := List.getElem_of_mem hp
  have := b j (by simpa using hj)
  rw [if_pos hj, rd_get (by simpa using hj), rd_get (by simpa using hj), List.getElem_map, List.getElem_map] at this
  exact this

/-! ### fitm -/
theorem evalM_zero (cs : List Int) (h : cs ≠ []) : evalM cs 0 = rd cs 0 := by
  cases cs with
  | nil => exact absurd rfl h
  | cons c t => simp [evalM, rd]
theorem horn_of_eval {cs : List Int} {x y : Int} (h : Eqv (evalM cs x) y) (hy : 0 ≤ y ∧ y < 251) : hornM cs x = y := ((hornM_eq cs x).trans h).eq (hornM_range cs x) hy
theorem eval_of_horn {cs : List Int} {x y : Int} (h : hornM cs x = y) : Eqv (evalM cs x) y := by rw [← h]; exact (hornM_eq cs x).symm
theorem hornM_pad (cs : List Int) (m : Nat) (x : Int) : hornM (cs ++ List.replicate m 0) x = hornM cs x := by
  refine horn_of_eval ?_ (hornM_range cs x)
  rw [evalM_pad]; exact (hornM_eq cs x).symm
theorem Places.sub {ps qs : List (Int × Int)} (h : Places ps) (hs : qs.Sublist ps) : Places qs :=
  ⟨fun q hq => h.xy q (hs.subset hq), h.nd.sublist (hs.map _)⟩
theorem thr_horn {ps : List (Int × Int)} (h : Places ps) {p : Int × Int} (hp : p ∈ ps) : hornM (thr ps) p.1 = p.2 := horn_of_eval (thr_eval h hp) (h.xy p hp).2
/-- All lie on one polynomial with so many coefficients. -/
def Fit (ps : List (Int × Int)) (need : Nat) : Prop := ∃ cs : List Int, cs.length = need ∧ Rests cs ∧ ∀ p ∈ ps, hornM cs p.1 = p.2
theorem Rests.pad {cs : List Int} (h : Rests cs) (m : Nat) : Rests (cs ++ List.replicate m 0) := by
  intro c hc
  rcases List.mem_append.1 hc with hc | hc
  · exact h c hc
  · have := List.eq_of_mem_replicate hc; omega
theorem Fit.sub {ps qs : List (Int × Int)} {need : Nat} (h : Fit ps need) (hs : ∀ q ∈ qs, q ∈ ps) : Fit qs need := by
  obtain ⟨cs, a, b, c⟩ := h
  exact ⟨cs, a, b, fun q hq => c q (hs q hq)⟩
theorem Fit.more {ps : List (Int × Int)} {need : Nat} (h : Fit ps need) (m : Nat) : Fit ps (need + m) := by
  obtain ⟨cs, a, b, c⟩ := h
  exact ⟨cs ++ List.replicate m 0, by simp [a], b.pad m, fun q hq => by rw [hornM_pad]; exact c q hq⟩
theorem fit_few {ps : List (Int × Int)} (h : Places ps) {need : Nat} (hn : ps.length ≤ need) : Fit ps need := by
  refine ⟨thr ps ++ List.replicate (need - ps.length) 0, ?_, (thr_rests h).pad _, fun p hp => ?_⟩
  · rw [List.length_append, List.length_replicate, thr_length h]; omega
  · rw [hornM_pad]; exact thr_horn h hp
/-- The polynomial is told by the first ones. -/
theorem fit_poly {ps : List (Int × Int)} (h : Places ps) {need : Nat} {cs : List Int} (hl : cs.length = need) (hr : Rests cs) (hn : need ≤ ps.length) (hc : ∀ p ∈ ps.take need, hornM cs p.1 = p.2) : thr (ps.take need) = cs :=
  (thr_unique (h.sub (List.take_sublist _ _)) (by rw [hl, List.length_take]; omega) hr fun p hp => eval_of_horn (hc p hp)).symm
theorem fit_iff {ps : List (Int × Int)} (h : Places ps) {need : Nat} (hn : need ≤ ps.length) : Fit ps need ↔ ∀ p ∈ ps, hornM (thr (ps.take need)) p.1 = p.2 := by
  constructor
  · rintro ⟨cs, a, b, c⟩
    rw [fit_poly h a b hn fun p hp => c p (List.mem_of_mem_take hp)]
    exact c
  · intro hc
    exact ⟨thr (ps.take need), by rw [thr_length (h.sub (List.take_sublist _ _)), List.length_take]; omega, thr_rests (h.sub (List.take_sublist _ _)), hc⟩
theorem fit_drop {ps : List (Int × Int)} (h : Places ps) {need : Nat} (hn : need ≤ ps.length) : Fit ps need ↔ ∀ p ∈ ps.drop need, hornM (thr (ps.take need)) p.1 = p.2 := by
  rw [fit_iff h hn]
  constructor
  · exact fun hc p hp => hc p (List.mem_of_mem_drop hp)
  · intro hc p hp
    rw [← List.take_append_drop need ps] at hp
    rcases List.mem_append.1 hp with hp | hp
    · exact thr_horn (h.sub (List.take_sublist _ _)) hp
    · exact hc p hp
/-- The shares of a polynomial at places. -/
def dealM (cs xs : List Int) : List (Int × Int) := xs.map fun x => (x, hornM cs x)
theorem dealM_places {cs xs : List Int} (hx : ∀ x ∈ xs, 0 ≤ x ∧ x < 251) (hn : xs.Nodup) : Places (dealM cs xs) := by
  refine ⟨fun q hq => ?_, ?_⟩
  · obtain ⟨x, hx2, rfl⟩ := List.mem_map.1 hq
    exact ⟨hx x hx2, hornM_range cs x⟩
  · have : (dealM cs xs).map (·.1) = xs := by simp [dealM, Function.comp_def]
    rw [this]; exact hn
theorem dealM_fit {cs xs : List Int} (hr : Rests cs) : Fit (dealM cs xs) cs.length := ⟨cs, rfl, hr, fun p hp => by obtain ⟨x, _, rfl⟩ := List.mem_map.1 hp; rfl⟩
theorem thr_deal {cs xs : List Int} (hr : Rests cs) (hx : ∀ x ∈ xs, 0 ≤ x ∧ x < 251) (hn : xs.Nodup) (hl : cs.length ≤ xs.length) : thr (dealM cs xs) = cs ++ List.replicate (xs.length - cs.length) 0 := by
  refine (thr_unique (dealM_places hx hn) ?_ (hr.pad _) fun p hp => ?_).symm
  · simp [dealM]; omega
  · obtain ⟨x, _, rfl⟩ := List.mem_map.1 hp
    rw [evalM_pad]
    exact (hornM_eq cs x).symm
/-- Others than one of them: the wrong one is found. -/
theorem not_fit {cs : List Int} {ps : List (Int × Int)} (hp : Places ps) (hr : Rests cs) (good : List (Int × Int)) (hg : good.Sublist ps) (hl : cs.length ≤ good.length) (hgood : ∀ p ∈ good, hornM cs p.1 = p.2) (bad : Int × Int) (hb : bad ∈ ps) (hbad : hornM cs bad.1 ≠ bad.2) : ¬ Fit ps cs.length := by
  rintro ⟨ds, a, b, c⟩
  have h1 := fit_poly (hp.sub hg) a b (by omega) fun p h => c p (hg.subset (List.mem_of_mem_take h))
  have h2 := fit_poly (hp.sub hg) rfl hr hl fun p h => hgood p (List.mem_of_mem_take h)
  rw [a] at *
  rw [h1] at h2
  subst h2
  exact hbad (c bad hb)
/-- Sums. -/
theorem thr_add {a b c : List (Int × Int)} (ha : Places a) (hb : Places b) (hc : Places c) (h1 : a.length = b.length) (h2 : a.length = c.length) (hx : ∀ i : Nat, (h : i < a.length) → a[i].1 = (b[i]'(by omega)).1 ∧ a[i].1 = (c[i]'(by omega)).1 ∧ Eqv (c[i]'(by omega)).2 (a[i].2 + (b[i]'(by omega)).2)) :
    ∀ i : Nat, i < a.length → rd (thr c) i = (rd (thr a) i + rd (thr b) i) % 251 := by
  have la := thr_length ha; have lb := thr_length hb; have lc := thr_length hc
  have hl : (thr a).length = (thr b).length := by omega
  have e : ((List.range a.length).map fun i : Nat => (rd (thr a) (i : Int) + rd (thr b) (i : Int)) % 251) = thr c := by
    refine thr_unique hc (by simpa using h2) (fun x hx => ?_) fun p hp => ?_
    · obtain ⟨i, _, rfl⟩ := List.mem_map.1 hx
      exact emod_rest _
    · obtain ⟨i, hi, rfl⟩ := List.getElem_of_mem hp
      have hi2 : i < a.length := by omega
      obtain ⟨x1, x2, x3⟩ := hx i hi2
      have t1 : Eqv (evalM ((List.range a.length).map fun i : Nat => (rd (thr a) (i : Int) + rd (thr b) (i : Int)) % 251) c[i].1) (evalM (addM 1 (thr a) (thr b)) c[i].1) := by
        refine evalM_congr _ _ _ (by rw [addM_length hl]; simpa using la.symm) fun j hj => ?_
        have hj2 : j < a.length := by simpa using hj
        rw [rd_mapRange hj2, addM_rd hl (by omega), Int.one_mul]
        exact Eqv.mod _
      rw [evalM_addM 1 _ _ _ hl, Int.one_mul] at t1
      refine t1.trans (Eqv.trans ?_ x3.symm)
      have a1 := thr_eval ha (List.getElem_mem hi2)
      have b1 := thr_eval hb (List.getElem_mem (show i < b.length by omega))
      rw [x2] at a1
      rw [← x1, x2] at b1
      exact a1.add b1
  intro i hi
  rw [← e, rd_mapRange hi]
theorem thr_reverse {ps : List (Int × Int)} (h : Places ps) : thr ps.reverse = thr ps := by
  have hr : Places ps.reverse := ⟨fun q hq => h.xy q (by simpa using hq), by rw [List.map_reverse]; exact List.pairwise_reverse.2 (h.nd.imp fun h => Ne.symm h)⟩
  refine (thr_unique hr (by rw [thr_length h, List.length_reverse]) (thr_rests h) fun p hp => thr_eval h (by simpa using hp)).symm
theorem thr_head {ps : List (Int × Int)} {y : Int} (h : Places ((0, y) :: ps)) : rd (thr ((0, y) :: ps)) 0 = y := by
  have h1 := thr_horn h (p := (0, y)) (by simp)
  have hl := thr_length h
  have hne : thr ((0, y) :: ps) ≠ [] := by intro e; rw [e] at hl; simp at hl
  have h2 := hornM_eq (thr ((0, y) :: ps)) 0
  simp only at h1
  rw [h1, evalM_zero _ hne] at h2
  exact (h2.eq (h.xy (0, y) (by simp)).2 (thr_rests h _ (rd_mem (i := 0) (by rw [hl]; simp)))).symm

end Go.Proofs.Ytaoecaikeikneaa.Pure
