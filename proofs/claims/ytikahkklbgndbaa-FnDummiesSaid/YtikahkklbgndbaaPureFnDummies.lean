/- The law FnDummies holds: the program's function answers as the reference does at every drawn input, and has the law's property; no condition. -/
import Derived.Test.YtikahkklbgndbaaPFnDummiesx10
set_option linter.unusedVariables false
set_option linter.unusedSimpArgs false
namespace Go.Proofs.Ytikahkklbgndbaa.Pure
open Go.RowKit Go.Proofs.Ytikahkklbgndbaa.PFnDummies Go.Proofs.YtikahkklbgndbaaW.PrintWords Go.Proofs.YtikahkklbgndbaaW.PrintLast Go.Proofs.YtikahkklbgndbaaW.PrintMore

/-! ### base -/
theorem fuel {k n : Nat} (h : n < k) : ∃ m, k = m + 1 ∧ n ≤ m := ⟨k - 1, by omega, by omega⟩
theorem wrap_id {x : Int} (h1 : -9223372036854775808 ≤ x) (h2 : x ≤ 9223372036854775807) : wrap64 x = x := by unfold wrap64; omega
theorem wrap_succ {i : Nat} (h : i < 4611686018427387904) : wrap64 ((i : Int) + 1) = ((i + 1 : Nat) : Int) := by unfold wrap64; omega
theorem wrap_succ' {i : Int} (h0 : 0 ≤ i) (h : i < 4611686018427387904) : wrap64 (i + 1) = i + 1 := by unfold wrap64; omega
theorem wrap_wrap (x : Int) : wrap64 (wrap64 x) = wrap64 x := by unfold wrap64; omega
theorem wrap_add_l (x y : Int) : wrap64 (wrap64 x + y) = wrap64 (x + y) := by unfold wrap64; omega
theorem wrap_add_r (x y : Int) : wrap64 (x + wrap64 y) = wrap64 (x + y) := by unfold wrap64; omega
theorem wrap_sub_l (x y : Int) : wrap64 (wrap64 x - y) = wrap64 (x - y) := by unfold wrap64; omega
theorem rd_get {xs : List Int} {i : Nat} (h : i < xs.length) : rd xs (i : Int) = xs[i] := by
  simp [rd, List.getD_eq_getElem?_getD, List.getElem?_eq_getElem h]
theorem drop_rd {xs : List Int} {i : Nat} (h : i < xs.length) : xs.drop i = rd xs (i : Int) :: xs.drop (i + 1) := by
  rw [rd_get h, List.drop_eq_getElem_cons h]
theorem drop_end {α : Type} {xs : List α} {i : Nat} (h : xs.length ≤ i) : xs.drop i = [] := List.drop_eq_nil_of_le h
theorem take_rd {xs : List Int} {i : Nat} (h : i < xs.length) : xs.take (i + 1) = xs.take i ++ [rd xs (i : Int)] := by
  rw [rd_get h, List.take_succ_eq_append_getElem h]
theorem rd_mem {xs : List Int} {i : Nat} (h : i < xs.length) : rd xs (i : Int) ∈ xs := by
  rw [rd_get h]; exact List.getElem_mem h
theorem rd_mem' {xs : List Int} {i : Int} (h0 : 0 ≤ i) (h : i < (xs.length : Int)) : rd xs i ∈ xs := by
  obtain ⟨j, rfl⟩ := Int.eq_ofNat_of_zero_le h0
  exact rd_mem (by omega)
theorem mem_rd {xs : List Int} {x : Int} (h : x ∈ xs) : ∃ i : Nat, i < xs.length ∧ rd xs (i : Int) = x := by
  obtain ⟨i, hi, he⟩ := List.getElem_of_mem h
  exact ⟨i, hi, by rw [rd_get hi, he]⟩
theorem ext_rd {xs ys : List Int} (hl : xs.length = ys.length) (h : ∀ i : Nat, i < xs.length → rd xs (i : Int) = rd ys (i : Int)) : xs = ys := by
  apply List.ext_getElem hl
  intro i h1 h2
  have := h i h1
  rwa [rd_get h1, rd_get h2] at this
theorem rd_set {xs : List Int} {i j : Nat} {v : Int} (hj : j < xs.length) : rd (xs.set i v) (j : Int) = if i = j then v else rd xs (j : Int) := by
  rw [rd_get (by simpa using hj), rd_get hj, List.getElem_set]
theorem rd_set_ne {xs : List Int} {i j : Nat} {v : Int} (h : i ≠ j) : rd (xs.set i v) (j : Int) = rd xs (j : Int) := by
  simp only [rd, List.getD_eq_getElem?_getD, Int.toNat_natCast, List.getElem?_set_ne h]
theorem rd_append_l {xs ys : List Int} {i : Nat} (h : i < xs.length) : rd (xs ++ ys) (i : Int) = rd xs (i : Int) := by
  rw [rd_get (by simp; omega), rd_get h, List.getElem_append_left h]
theorem rd_append_r {xs ys : List Int} {i : Nat} (h : xs.length ≤ i) (h2 : i < xs.length + ys.length) : rd (xs ++ ys) (i : Int) = rd ys ((i - xs.length : Nat) : Int) := by
  rw [rd_get (by simp; omega), rd_get (by omega), List.getElem_append_right h]
theorem rd_replicate {n i : Nat} {v : Int} (h : i < n) : rd (List.replicate n v) (i : Int) = v := by
  rw [rd_get (by simpa using h)]; simp
theorem rd_mapRange {n i : Nat} {f : Nat → Int} (h : i < n) : rd ((List.range n).map f) (i : Int) = f i := by
  rw [rd_get (by simpa using h)]; simp
theorem toNat_cast (i : Nat) : ((i : Int) : Int).toNat = i := by simp
theorem mx_max (a b : Int) : mx a b = max a b := by unfold mx; omega
theorem mn_min (a b : Int) : mn a b = min a b := by unfold mn; omega
theorem bits_xor {a b : Int} (ha : 0 ≤ a) (ha2 : a < 4611686018427387904) (hb : 0 ≤ b) (hb2 : b < 4611686018427387904) : 0 ≤ Go.bits .xor .i64 a b ∧ Go.bits .xor .i64 a b < 4611686018427387904 := by
  obtain ⟨a, rfl⟩ := Int.eq_ofNat_of_zero_le ha
  obtain ⟨b, rfl⟩ := Int.eq_ofNat_of_zero_le hb
  have h1 : a < 2 ^ 62 := by omega
  have h2 : b < 2 ^ 62 := by omega
  have h3 := Nat.xor_lt_two_pow h1 h2
  have e : Go.bits .xor .i64 (a : Int) (b : Int) = IntKind.i64.wrap (((BitVec.ofInt 64 (a : Int)) ^^^ (BitVec.ofInt 64 (b : Int))).toNat : Int) := rfl
  have ha' : (BitVec.ofInt 64 (a : Int)).toNat = a := by rw [BitVec.ofInt_natCast, BitVec.toNat_ofNat]; exact Nat.mod_eq_of_lt (by omega)
  have hb' : (BitVec.ofInt 64 (b : Int)).toNat = b := by rw [BitVec.ofInt_natCast, BitVec.toNat_ofNat]; exact Nat.mod_eq_of_lt (by omega)
  rw [e, BitVec.toNat_xor, ha', hb', IntKind.wrap_i64]
  omega
theorem cast0 : ((0 : Nat) : Int) = 0 := rfl
theorem w01 : wrap64 (0 + 1) = 1 := by unfold wrap64; omega
theorem w12 : wrap64 (1 + 1) = 2 := by unfold wrap64; omega
theorem w23 : wrap64 (2 + 1) = 3 := by unfold wrap64; omega
theorem w34 : wrap64 (3 + 1) = 4 := by unfold wrap64; omega
theorem w45 : wrap64 (4 + 1) = 5 := by unfold wrap64; omega

/-! ### listm -/
theorem pigeon : ∀ (n : Nat) (xs : List Int), xs.Nodup → (∀ x ∈ xs, 0 ≤ x ∧ x < (n : Int)) → xs.length ≤ n := by
  intro n
  induction n with
  | zero =>
    intro xs _ h
    cases xs with
    | nil => simp
    | cons x xs => have := h x (by simp); omega
  | succ n ih =>
    intro xs hn h
    by_cases hm : (n : Int) ∈ xs
    · have h1 := ih (xs.erase (n : Int)) (hn.erase _) (fun x hx => by
        have h2 := (hn.mem_erase_iff).1 hx
        have h3 := h x h2.2
        have h4 := h2.1
        omega)
      rw [List.length_erase_of_mem hm] at h1
      omega
    · have h1 := ih xs hn (fun x hx => by
        have h3 := h x hx
        have h4 : x ≠ (n : Int) := fun e => hm (e ▸ hx)
        omega)
      omega
/-- Fewer different members than there are: one is missing. -/
theorem one_missing : ∀ (n : Nat) (xs : List Int), xs.length < n → ∃ j : Nat, j < n ∧ (j : Int) ∉ xs := by
  intro n
  induction n with
  | zero => intro xs h; omega
  | succ n ih =>
    intro xs h
    by_cases hm : (n : Int) ∈ xs
    · obtain ⟨j, hj, hx⟩ := ih (xs.erase (n : Int)) (by rw [List.length_erase_of_mem hm]; have := List.length_pos_of_mem hm; omega)
      refine ⟨j, by omega, fun hmem => hx ?_⟩
      exact (List.mem_erase_of_ne (by omega)).2 hmem
    · exact ⟨n, by omega, hm⟩
/-- Members, one after the other, in range and not seen yet. -/
def memB (n : Int) : List Int → List Int → Bool
  | _, [] => true
  | seen, x :: rest => decide (0 ≤ x ∧ x < n) && (!decide (x ∈ seen) && memB n (seen ++ [x]) rest)
theorem memB_iff (n : Int) : ∀ (xs seen : List Int), memB n seen xs = true ↔ (∀ x ∈ xs, 0 ≤ x ∧ x < n ∧ x ∉ seen) ∧ xs.Nodup := by
  intro xs
  induction xs with
  | nil => intro seen; simp [memB]
  | cons a xs ih =>
    intro seen
    simp only [memB, Bool.and_eq_true, decide_eq_true_eq, Bool.not_eq_true', decide_eq_false_iff_not, ih, List.mem_cons, List.mem_append, List.not_mem_nil, or_false, List.nodup_cons]
    constructor
    · rintro ⟨⟨h1, h2⟩, h3, h4, h5⟩
      refine ⟨?_, fun ha => (h4 a ha).2.2 (Or.inr rfl), h5⟩
      rintro x (rfl | hx)
      · exact ⟨h1, h2, h3⟩
      · obtain ⟨a1, a2, a3⟩ := h4 x hx
        exact ⟨a1, a2, fun h => a3 (Or.inl h)⟩
    · rintro ⟨h1, h2, h3⟩
      obtain ⟨a1, a2, a3⟩ := h1 a (Or.inl rfl)
      refine ⟨⟨a1, a2⟩, a3, fun x hx => ?_, h3⟩
      obtain ⟨b1, b2, b3⟩ := h1 x (Or.inr hx)
      refine ⟨b1, b2, ?_⟩
      rintro (h | rfl)
      · exact b3 h
      · exact h2 hx
/-- Different members of a body. -/
def GoodM (xs : List Int) (n : Int) : Prop := xs.Nodup ∧ ∀ x ∈ xs, 0 ≤ x ∧ x < n
instance (xs : List Int) (n : Int) : Decidable (GoodM xs n) := inferInstanceAs (Decidable (_ ∧ _))
theorem memB_good (n : Int) (xs : List Int) : memB n [] xs = decide (GoodM xs n) := by
  rw [Bool.eq_iff_iff, memB_iff, decide_eq_true_eq]
  unfold GoodM
  constructor
  · rintro ⟨h, hn⟩
    exact ⟨hn, fun x hx => ⟨(h x hx).1, (h x hx).2.1⟩⟩
  · rintro ⟨hn, h⟩
    exact ⟨fun x hx => ⟨(h x hx).1, (h x hx).2, by simp⟩, hn⟩
theorem GoodM.le {xs : List Int} {n : Nat} (h : GoodM xs (n : Int)) : xs.length ≤ n := pigeon n xs h.1 h.2
/-- The first place of a number behind some. -/
def idxM : List Int → Int → Nat → Int
  | [], _, _ => -1
  | y :: ys, x, i => if y = x then (i : Int) else idxM ys x (i + 1)
theorem idxM_neg : ∀ (xs : List Int) (x : Int) (i : Nat), idxM xs x i < 0 ↔ x ∉ xs := by
  intro xs
  induction xs with
  | nil => intro x i; simp [idxM]
  | cons y ys ih =>
    intro x i
    simp only [idxM]
    by_cases e : y = x
    · rw [if_pos e]; simp [e]
    · rw [if_neg e, ih]
      have e' : ¬ x = y := fun h => e h.symm
      simp [e']
theorem idxM_nonneg (xs : List Int) (x : Int) (i : Nat) : 0 ≤ idxM xs x i ↔ x ∈ xs := by
  have := idxM_neg xs x i
  by_cases h : x ∈ xs
  · simp only [h, not_true, iff_false] at this
    simp [h]; omega
  · simp only [h, not_false_iff, iff_true] at this
    simp [h]; omega
theorem idxM_at : ∀ (xs : List Int) (x : Int) (i : Nat), x ∈ xs → ∃ j : Nat, idxM xs x i = ((i + j : Nat) : Int) ∧ j < xs.length ∧ rd xs (j : Int) = x ∧ ∀ q : Nat, q < j → rd xs (q : Int) ≠ x := by
  intro xs
  induction xs with
  | nil => intro x i h; simp at h
  | cons y ys ih =>
    intro x i h
    by_cases e : y = x
    · exact ⟨0, by simp [idxM, e], by simp, by simp [rd, e], fun q hq => by omega⟩
    · have hx : x ∈ ys := by
        rcases List.mem_cons.1 h with h | h
        · exact absurd h.symm e
        · exact h
      obtain ⟨j, h1, h2, h3, h4⟩ := ih x (i + 1) hx
      refine ⟨j + 1, by simp only [idxM, if_neg e, h1]; omega, by simp; omega, ?_, ?_⟩
      · rw [← h3, rd_get (by simp; omega), rd_get h2]; simp
      · intro q hq
        cases q with
        | zero => rw [rd_get (by simp)]; simpa using e
        | succ q => have := h4 q (by omega); rw [rd_get (by simp; omega)]; rw [rd_get (by omega)] at this; simpa using this
theorem sum_set : ∀ (xs : List Int) (i : Nat) (v : Int), i < xs.length → (xs.set i v).sum = xs.sum - rd xs (i : Int) + v := by
  intro xs
  induction xs with
  | nil => intro i v h; simp at h
  | cons x xs ih =>
    intro i v h
    cases i with
    | zero => simp [rd]; omega
    | succ i =>
      have h2 : i < xs.length := by simpa using h
      have := ih i v h2
      have e : rd (x :: xs) ((i + 1 : Nat) : Int) = rd xs (i : Int) := by rw [rd_get h, rd_get h2]; simp
      simp only [List.set_cons_succ, List.sum_cons, this, e]
      omega
theorem sum_replicate0 (n : Nat) : (List.replicate n (0 : Int)).sum = 0 := by
  induction n with
  | zero => rfl
  | succ n ih => simp [List.replicate_succ, ih]
theorem set_fill {α : Type} (A : List α) (d : Nat) (z v : α) : (A ++ List.replicate (d + 1) z).set A.length v = (A ++ [v]) ++ List.replicate d z := by
  rw [List.set_append_right _ _ (Nat.le_refl _)]
  simp [List.replicate_succ]
theorem set_fill' {α : Type} {A : List α} {i d : Nat} {z v : α} (h : A.length = i) : (A ++ List.replicate (d + 1) z).set i v = (A ++ [v]) ++ List.replicate d z := by
  subst h; exact set_fill A d z v
theorem sum_bound : ∀ (xs : List Int) (lo hi : Int), (∀ x ∈ xs, lo ≤ x ∧ x ≤ hi) → (xs.length : Int) * lo ≤ xs.sum ∧ xs.sum ≤ (xs.length : Int) * hi := by
  intro xs lo hi
  induction xs with
  | nil => intro _; simp
  | cons x xs ih =>
    intro h
    have h1 := ih (fun y hy => h y (by simp [hy]))
    have h2 := h x (by simp)
    have e1 : ((x :: xs).length : Int) * lo = (xs.length : Int) * lo + lo := by simp [Int.add_mul]
    have e2 : ((x :: xs).length : Int) * hi = (xs.length : Int) * hi + hi := by simp [Int.add_mul]
    rw [e1, e2, List.sum_cons]
    omega

/-! ### different -/
theorem flags_set {fl : List Bool} {n : Int} {seen : List Int} {x : Int} (hl : (fl.length : Int) = n) (h : ∀ j : Int, 0 ≤ j → j < n → rdOf false fl j = decide (j ∈ seen)) (h0 : 0 ≤ x) (h1 : x < n) :
    ∀ j : Int, 0 ≤ j → j < n → rdOf false (fl.set x.toNat true) j = decide (j ∈ seen ++ [x]) := by
  intro j hj0 hj
  have := h j hj0 hj
  simp only [rdOf, List.getD_eq_getElem?_getD, List.getElem?_set] at this ⊢
  by_cases e : x = j
  · subst e
    rw [if_pos rfl, if_pos (by omega)]
    simp
  · rw [if_neg (by omega), this]
    have : ¬ j = x := fun h => e h.symm
    simp [this]
/-! ### within -/
theorem allWithin_l0 (xs : List Int) (lo up : Int) (hb : xs.length < 4611686018427387904) : ∀ (d k i : Nat), i + d = xs.length → d < k → impl_allWithin.l0 k lo up xs (xs.length : Int) (i : Int) = some ((xs.drop i).all fun x => decide (lo ≤ x ∧ x ≤ up)) := by
  intro d
  induction d with
  | zero =>
    intro k i hi hk
    obtain ⟨k, rfl, -⟩ := fuel hk
    simp only [impl_allWithin.l0]
    rw [if_neg (by omega), drop_end (by omega)]
    simp
  | succ d ih =>
    intro k i hi hk
    obtain ⟨k, rfl, hk⟩ := fuel hk
    simp only [impl_allWithin.l0]
    rw [if_pos (by omega), if_pos (by omega), if_pos (by omega), wrap_succ (by omega), drop_rd (by omega)]
    simp only [List.all_cons]
    rw [ih k (i + 1) (by omega) (by omega)]
    by_cases h1 : rd xs (i : Int) < lo
    · rw [if_pos h1, decide_eq_false (by omega)]; rfl
    · rw [if_neg h1]
      by_cases h2 : rd xs (i : Int) > up
      · rw [if_pos h2, decide_eq_false (by omega)]; rfl
      · rw [if_neg h2, decide_eq_true (by omega)]; rfl
theorem allWithin_spec (k : Nat) (xs : List Int) (lo up : Int) (hb : xs.length < 4611686018427387904) (hk : xs.length < k) : impl_allWithin.f k xs lo up = some (xs.all fun x => decide (lo ≤ x ∧ x ≤ up)) := by
  unfold impl_allWithin.f
  have := allWithin_l0 xs lo up hb xs.length k 0 (by omega) hk
  simpa using this

/-! ### inrange -/
theorem inRange_spec (a lo up : Int) : spec_inRange.f a lo up = some (decide (lo ≤ a ∧ a ≤ up)) := by
  unfold spec_inRange.f
  by_cases h : lo ≤ a <;> simp [h]

/-! ### ranges -/
theorem allIn_l0 (xs : List Int) (lo up : Int) (hb : xs.length < 4611686018427387904) : ∀ (d k i : Nat), i + d = xs.length → d < k → spec_allIn.l0 k xs lo up (i : Int) = some ((xs.drop i).all fun x => decide (lo ≤ x ∧ x ≤ up)) := by
  intro d
  induction d with
  | zero =>
    intro k i hi hk
    obtain ⟨k, rfl, -⟩ := fuel hk
    simp only [spec_allIn.l0]
    rw [if_neg (by omega), drop_end (by omega)]
    simp
  | succ d ih =>
    intro k i hi hk
    obtain ⟨k, rfl, hk⟩ := fuel hk
    simp only [spec_allIn.l0]
    rw [if_pos (by omega), if_pos (by omega), inRange_spec, wrap_succ (by omega), drop_rd (by omega)]
    simp only [Option.bind_some, List.all_cons]
    rw [ih k (i + 1) (by omega) (by omega)]
    cases decide (lo ≤ rd xs (i : Int) ∧ rd xs (i : Int) ≤ up) <;> simp
theorem allIn_spec (k : Nat) (xs : List Int) (lo up : Int) (hb : xs.length < 4611686018427387904) (hk : xs.length < k) : spec_allIn.f k xs lo up = some (xs.all fun x => decide (lo ≤ x ∧ x ≤ up)) := by
  unfold spec_allIn.f
  have := allIn_l0 xs lo up hb xs.length k 0 (by omega) hk
  simpa using this

/-! ### sumof -/
theorem sumOf_l0 (xs : List Int) (hb : xs.length < 4611686018427387904) : ∀ (d k i : Nat) (acc : Int), i + d = xs.length → d < k → wrap64 acc = acc → impl_sumOf.l0 k acc xs (xs.length : Int) (i : Int) = some (wrap64 (acc + (xs.drop i).sum)) := by
  intro d
  induction d with
  | zero =>
    intro k i acc hi hk ha
    obtain ⟨k, rfl, -⟩ := fuel hk
    simp only [impl_sumOf.l0]
    rw [if_neg (by omega), drop_end (by omega)]
    simp [ha]
  | succ d ih =>
    intro k i acc hi hk ha
    obtain ⟨k, rfl, hk⟩ := fuel hk
    simp only [impl_sumOf.l0]
    rw [if_pos (by omega), if_pos (by omega), if_pos (by omega), wrap_succ (by omega), ih k (i + 1) _ (by omega) (by omega) (wrap_wrap _), wrap_add_l, drop_rd (i := i) (by omega), List.sum_cons, Int.add_assoc]
theorem sumOf_spec (k : Nat) (xs : List Int) (hb : xs.length < 4611686018427387904) (hk : xs.length < k) : impl_sumOf.f k xs = some (wrap64 xs.sum) := by
  unfold impl_sumOf.f
  have := sumOf_l0 xs hb xs.length k 0 0 (by omega) hk (wrap_id (by omega) (by omega))
  simpa using this

/-! ### stotal -/
theorem stotal_l0 (xs : List Int) (hb : xs.length < 4611686018427387904) : ∀ (d k i : Nat) (acc : Int), i + d = xs.length → d < k → wrap64 acc = acc → spec_total.l0 k xs acc (i : Int) = some (wrap64 (acc + (xs.drop i).sum)) := by
  intro d
  induction d with
  | zero =>
    intro k i acc hi hk ha
    obtain ⟨k, rfl, -⟩ := fuel hk
    simp only [spec_total.l0]
    rw [if_neg (by omega), drop_end (by omega)]
    simp [ha]
  | succ d ih =>
    intro k i acc hi hk ha
    obtain ⟨k, rfl, hk⟩ := fuel hk
    simp only [spec_total.l0]
    rw [if_pos (by omega), if_pos (by omega), wrap_succ (by omega), ih k (i + 1) _ (by omega) (by omega) (wrap_wrap _), wrap_add_l, drop_rd (i := i) (by omega), List.sum_cons, Int.add_assoc]
theorem stotal_spec (k : Nat) (xs : List Int) (hb : xs.length < 4611686018427387904) (hk : xs.length < k) : spec_total.f k xs = some (wrap64 xs.sum) := by
  unfold spec_total.f
  have := stotal_l0 xs hb xs.length k 0 0 (by omega) hk (wrap_id (by omega) (by omega))
  simpa using this

/-! ### bits -/
theorem shr_nat (s i : Nat) (h : i ≤ 64) : shr .i64 (s : Int) (i : Int) = ((s / 2 ^ i : Nat) : Int) := by
  unfold shr
  have e : min ((i : Int).toNat) IntKind.i64.bits = i := by simp [IntKind.bits]; omega
  rw [e]; simp
theorem and_one (s : Nat) (h : s < 9223372036854775808) : Go.bits .and .i64 (s : Int) 1 = ((s % 2 : Nat) : Int) := by
  have e : Go.bits .and .i64 (s : Int) 1 = IntKind.i64.wrap (((BitVec.ofInt 64 (s : Int)) &&& (BitVec.ofInt 64 1)).toNat : Int) := rfl
  have ha' : (BitVec.ofInt 64 (s : Int)).toNat = s := by rw [BitVec.ofInt_natCast, BitVec.toNat_ofNat]; exact Nat.mod_eq_of_lt (by omega)
  have hb' : (BitVec.ofInt 64 (1 : Int)).toNat = 1 := by decide
  rw [e, BitVec.toNat_and, ha', hb', IntKind.wrap_i64, Nat.and_one_is_mod]
  omega
theorem shl_one (n : Nat) (h : n ≤ 40) : shl .i64 1 (n : Int) = ((2 ^ n : Nat) : Int) := by
  unfold shl
  have e : min ((n : Int).toNat) IntKind.i64.bits = n := by simp [IntKind.bits]; omega
  have h2 : 2 ^ n ≤ 2 ^ 40 := Nat.pow_le_pow_right (by omega) h
  rw [e, IntKind.wrap_i64]
  have e2 : (1 : Int) * 2 ^ n = ((2 ^ n : Nat) : Int) := by simp
  rw [e2]
  generalize 2 ^ n = m at h2 ⊢
  omega
theorem half_step (s i : Nat) : s / 2 ^ (i + 1) = s / 2 ^ i / 2 := by
  rw [Nat.pow_succ, Nat.div_div_eq_div_mul]
/-- The weights of the set's members. -/
def bw : List Int → Nat → Int
  | [], _ => 0
  | w :: ws, s => (if s % 2 = 1 then w else 0) + bw ws (s / 2)
/-- The set's members, from i on. -/
def mb : Nat → Nat → Nat → List Int
  | 0, _, _ => []
  | n + 1, i, s => if s % 2 = 1 then (i : Int) :: mb n (i + 1) (s / 2) else mb n (i + 1) (s / 2)
theorem mb_zero : ∀ n i : Nat, mb n i 0 = [] := by
  intro n
  induction n with
  | zero => intro i; rfl
  | succ n ih => intro i; simp [mb, ih]
theorem mb_more : ∀ (n i s : Nat), s < 2 ^ n → mb (n + 1) i s = mb n i s := by
  intro n
  induction n with
  | zero => intro i s h; (have h0 : s = 0 := by simpa using h); subst h0; simp [mb]
  | succ n ih =>
    intro i s h
    have h2 : s / 2 < 2 ^ n := by rw [Nat.pow_succ] at h; omega
    have := ih (i + 1) (s / 2) h2
    rw [mb, this]
    conv => rhs; rw [mb]
theorem mb_length : ∀ (n i s : Nat), (mb n i s).length ≤ n := by
  intro n
  induction n with
  | zero => intro i s; simp [mb]
  | succ n ih =>
    intro i s
    have := ih (i + 1) (s / 2)
    simp only [mb]; split <;> simp <;> omega
theorem bw_bound : ∀ (ws : List Int) (s : Nat) (hi : Int), 0 ≤ hi → (∀ w ∈ ws, 0 ≤ w ∧ w ≤ hi) → 0 ≤ bw ws s ∧ bw ws s ≤ (ws.length : Int) * hi := by
  intro ws
  induction ws with
  | nil => intro s hi _ _; simp [bw]
  | cons w ws ih =>
    intro s hi h0 h
    obtain ⟨h1, h2⟩ := ih (s / 2) hi h0 (fun x hx => h x (by simp [hx]))
    have h3 := h w (by simp)
    have e : (((w :: ws).length : Nat) : Int) * hi = (ws.length : Int) * hi + hi := by simp [Int.add_mul]
    rw [e]
    simp only [bw]
    split <;> omega
/-- Members as truth values. -/
def encB : List Bool → Nat
  | [] => 0
  | b :: bs => (if b then 1 else 0) + 2 * encB bs
theorem encB_lt : ∀ bs : List Bool, encB bs < 2 ^ bs.length := by
  intro bs
  induction bs with
  | nil => simp [encB]
  | cons b bs ih => simp only [encB, List.length_cons, Nat.pow_succ]; split <;> omega
theorem encB_mod (b : Bool) (bs : List Bool) : encB (b :: bs) % 2 = (if b then 1 else 0) := by simp only [encB]; split <;> omega
theorem encB_half (b : Bool) (bs : List Bool) : encB (b :: bs) / 2 = encB bs := by simp only [encB]; split <;> omega
def decB : Nat → Nat → List Bool
  | 0, _ => []
  | n + 1, s => (s % 2 == 1) :: decB n (s / 2)
theorem decB_length : ∀ n s : Nat, (decB n s).length = n := by
  intro n
  induction n with
  | zero => intro s; rfl
  | succ n ih => intro s; simp [decB, ih]
theorem enc_dec : ∀ n s : Nat, s < 2 ^ n → encB (decB n s) = s := by
  intro n
  induction n with
  | zero => intro s h; (have h0 : s = 0 := by simpa using h); subst h0; rfl
  | succ n ih =>
    intro s h
    have h2 : s / 2 < 2 ^ n := by rw [Nat.pow_succ] at h; omega
    simp only [decB, encB, ih _ h2]
    by_cases e : s % 2 = 1 <;> simp [e] <;> omega
/-- The weights of those that are in. -/
def bwB : List Int → List Bool → Int
  | w :: ws, b :: bs => (if b then w else 0) + bwB ws bs
  | _, _ => 0
theorem bw_enc : ∀ (ws : List Int) (bs : List Bool), ws.length = bs.length → bw ws (encB bs) = bwB ws bs := by
  intro ws
  induction ws with
  | nil => intro bs h; cases bs <;> simp [bw, bwB]
  | cons w ws ih =>
    intro bs h
    cases bs with
    | nil => simp at h
    | cons b bs =>
      simp only [bw, bwB, encB_mod, encB_half, ih bs (by simpa using h)]
      cases b <;> simp
theorem mem_mb : ∀ (bs : List Bool) (i : Nat) (x : Int), x ∈ mb bs.length i (encB bs) ↔ ∃ j : Nat, j < bs.length ∧ x = ((i + j : Nat) : Int) ∧ bs[j]? = some true := by
  intro bs
  induction bs with
  | nil => intro i x; simp [mb]
  | cons b bs ih =>
    intro i x
    simp only [List.length_cons, mb, encB_mod, encB_half]
    have key : (∃ j : Nat, j < bs.length ∧ x = ((i + 1 + j : Nat) : Int) ∧ bs[j]? = some true) ↔ ∃ j : Nat, 0 < j ∧ j < bs.length + 1 ∧ x = ((i + j : Nat) : Int) ∧ (b :: bs)[j]? = some true := by
      constructor
      · rintro ⟨j, h1, h2, h3⟩
        exact ⟨j + 1, by omega, by omega, by rw [h2]; congr 1; omega, by simpa using h3⟩
      · rintro ⟨j, h0, h1, h2, h3⟩
        obtain ⟨j, rfl⟩ : ∃ q, j = q + 1 := ⟨j - 1, by omega⟩
        exact ⟨j, by omega, by rw [h2]; congr 1; omega, by simpa using h3⟩
    cases b with
    | true =>
      rw [if_pos (by simp), List.mem_cons, ih, key]
      constructor
      · rintro (h | ⟨j, h0, h1, h2, h3⟩)
        · exact ⟨0, by omega, by simpa using h, by simp⟩
        · exact ⟨j, by omega, h2, h3⟩
      · rintro ⟨j, h1, h2, h3⟩
        rcases Nat.eq_zero_or_pos j with e | e
        · subst e; exact .inl (by simpa using h2)
        · exact .inr ⟨j, e, by omega, h2, h3⟩
    | false =>
      rw [if_neg (by simp), ih, key]
      constructor
      · rintro ⟨j, h0, h1, h2, h3⟩
        exact ⟨j, by omega, h2, h3⟩
      · rintro ⟨j, h1, h2, h3⟩
        rcases Nat.eq_zero_or_pos j with e | e
        · subst e; simp at h3
        · exact ⟨j, e, by omega, h2, h3⟩
theorem bwB_set : ∀ (ws : List Int) (bs : List Bool) (j : Nat) (v : Bool), ws.length = bs.length → j < bs.length → bwB ws (bs.set j v) = bwB ws bs - (if bs[j]? = some true then rd ws (j : Int) else 0) + (if v then rd ws (j : Int) else 0) := by
  intro ws
  induction ws with
  | nil => intro bs j v h hj; simp at h; omega
  | cons w ws ih =>
    intro bs j v h hj
    cases bs with
    | nil => simp at h
    | cons b bs =>
      cases j with
      | zero => simp only [List.set_cons_zero, bwB]; cases b <;> cases v <;> simp [rd] <;> omega
      | succ j =>
        have := ih bs j v (by simpa using h) (by simpa using hj)
        have e : rd (w :: ws) ((j + 1 : Nat) : Int) = rd ws (j : Int) := by simp [rd]
        simp only [List.set_cons_succ, bwB, List.getElem?_cons_succ, e, this]
        omega
theorem encB_set : ∀ (bs : List Bool) (j : Nat), bs[j]? = some false → encB (bs.set j true) = encB bs + 2 ^ j := by
  intro bs
  induction bs with
  | nil => intro j h; simp at h
  | cons b bs ih =>
    intro j h
    cases j with
    | zero => simp at h; subst h; simp [encB]; omega
    | succ j =>
      have := ih j (by simpa using h)
      simp only [List.set_cons_succ, encB, this, Nat.pow_succ]
      omega
def cntB (bs : List Bool) : Nat := (bs.filter id).length
theorem cntB_set : ∀ (bs : List Bool) (j : Nat), bs[j]? = some true → cntB (bs.set j false) + 1 = cntB bs := by
  intro bs
  induction bs with
  | nil => intro j h; simp at h
  | cons b bs ih =>
    intro j h
    cases j with
    | zero => simp at h; subst h; simp [cntB]
    | succ j =>
      have := ih j (by simpa using h)
      unfold cntB at this ⊢
      cases b <;> simp [List.filter_cons] <;> omega

/-! ### body -/
/-- A valid body: the weights and what is needed. -/
def OkBody (ws : List Int) (need : Int) : Prop := 1 ≤ ws.length ∧ ws.length ≤ 12 ∧ (∀ w ∈ ws, 0 ≤ w ∧ w ≤ 100) ∧ 1 ≤ need ∧ need ≤ ws.sum
instance (ws : List Int) (need : Int) : Decidable (OkBody ws need) := inferInstanceAs (Decidable (_ ∧ _))
theorem all_range {xs : List Int} {lo up : Int} : (xs.all fun x => decide (lo ≤ x ∧ x ≤ up)) = decide (∀ x ∈ xs, lo ≤ x ∧ x ≤ up) := by
  rw [Bool.eq_iff_iff, List.all_eq_true, decide_eq_true_eq]
  exact ⟨fun h x hx => by simpa using h x hx, fun h x hx => by simpa using h x hx⟩
theorem weights_sum {ws : List Int} (h : ∀ w ∈ ws, 0 ≤ w ∧ w ≤ 100) (hn : ws.length ≤ 12) : 0 ≤ ws.sum ∧ ws.sum ≤ 1200 := by
  have := sum_bound ws 0 100 h
  omega
theorem implBody_spec (k : Nat) (ws : List Int) (need : Int) (hk : 20 < k) : impl_ValidBody.f k ws need = some (decide (OkBody ws need)) := by
  unfold impl_ValidBody.f
  by_cases h1 : (ws.length : Int) < 1
  · rw [if_pos h1, decide_eq_false (fun h : OkBody ws need => by have := h.1; omega)]
  · rw [if_neg h1]
    by_cases h2 : (ws.length : Int) > 12
    · rw [if_pos h2, decide_eq_false (fun h : OkBody ws need => by have := h.2.1; omega)]
    · rw [if_neg h2, allWithin_spec _ _ _ _ (by omega) (by omega), Option.bind_some, all_range]
      by_cases h3 : ∀ x ∈ ws, 0 ≤ x ∧ x ≤ 100
      · have hs := weights_sum h3 (by omega)
        rw [decide_eq_true h3, if_pos rfl]
        by_cases h4 : need ≥ 1
        · rw [if_pos h4, sumOf_spec _ _ (by omega) (by omega), Option.bind_some, wrap_id (by omega) (by omega)]
          congr 1
          rw [decide_eq_decide]
          exact ⟨fun h => ⟨by omega, by omega, h3, by omega, h⟩, fun h => h.2.2.2.2⟩
        · rw [if_neg h4, decide_eq_false (fun h : OkBody ws need => by have := h.2.2.2.1; omega)]
      · rw [decide_eq_false h3, if_neg (by decide), decide_eq_false (fun h : OkBody ws need => h3 h.2.2.1)]
theorem specBody_spec (k : Nat) (ws : List Int) (need : Int) (hk : 20 < k) : spec_validBody.f k ws need = some (decide (OkBody ws need)) := by
  unfold spec_validBody.f
  rw [inRange_spec, Option.bind_some]
  by_cases h1 : 1 ≤ (ws.length : Int) ∧ (ws.length : Int) ≤ 12
  · rw [decide_eq_true h1, if_pos rfl, allIn_spec _ _ _ _ (by omega) (by omega), Option.bind_some, all_range]
    by_cases h3 : ∀ x ∈ ws, 0 ≤ x ∧ x ≤ 100
    · have hs := weights_sum h3 (by omega)
      rw [decide_eq_true h3, if_pos rfl, stotal_spec _ _ (by omega) (by omega), Option.bind_some, inRange_spec, Option.bind_some, wrap_id (by omega) (by omega)]
      congr 1
      rw [decide_eq_decide]
      exact ⟨fun h => ⟨by omega, by omega, h3, h.1, h.2⟩, fun h => ⟨h.2.2.2.1, h.2.2.2.2⟩⟩
    · rw [decide_eq_false h3, if_neg (by decide), decide_eq_false (fun h : OkBody ws need => h3 h.2.2.1)]
  · rw [decide_eq_false h1, if_neg (by decide), decide_eq_false (fun h : OkBody ws need => h1 ⟨by have := h.1; omega, by have := h.2.1; omega⟩)]
/-- What members have together. -/
def votesL (ws xs : List Int) : Int := (xs.map fun x => rd ws x).sum
def winsM (ws : List Int) (need : Int) (xs : List Int) : Bool := decide (OkBody ws need) && (decide (GoodM xs (ws.length : Int)) && decide (votesL ws xs ≥ need))
theorem votesL_bound {ws xs : List Int} (h : ∀ w ∈ ws, 0 ≤ w ∧ w ≤ 100) (hx : ∀ x ∈ xs, 0 ≤ x ∧ x < (ws.length : Int)) : 0 ≤ votesL ws xs ∧ votesL ws xs ≤ (xs.length : Int) * 100 := by
  have := sum_bound (xs.map fun x => rd ws x) 0 100 (fun y hy => by
    obtain ⟨x, hx2, rfl⟩ := List.mem_map.1 hy
    exact h _ (rd_mem' (hx x hx2).1 (hx x hx2).2))
  simp only [List.length_map] at this
  unfold votesL
  omega
/-! ### hasbits -/
theorem has_l0 (n : Nat) (hn : n ≤ 100) : ∀ (d k j s : Nat), j + d = n → d < k → s < 1000000 → spec_has.l0 k (s : Int) (n : Int) (j : Int) = some (decide (s / 2 ^ d % 2 = 1)) := by
  intro d
  induction d with
  | zero =>
    intro k j s hj hk hs
    obtain ⟨k, rfl, -⟩ := fuel hk
    simp only [spec_has.l0]
    rw [if_neg (by omega), Int.tmod_eq_emod_of_nonneg (by omega)]
    congr 1
    rw [Bool.eq_iff_iff, beq_iff_eq, decide_eq_true_eq]
    simp only [Nat.pow_zero, Nat.div_one]
    omega
  | succ d ih =>
    intro k j s hj hk hs
    obtain ⟨k, rfl, hk⟩ := fuel hk
    simp only [spec_has.l0]
    have e : Int.tdiv (s : Int) 2 = ((s / 2 : Nat) : Int) := by rw [Int.tdiv_eq_ediv_of_nonneg (by omega)]; omega
    rw [if_pos (by omega), wrap_succ (by omega), e, wrap_id (by omega) (by omega), ih k (j + 1) (s / 2) (by omega) (by omega) (by omega)]
    have e2 : s / 2 / 2 ^ d = s / 2 ^ (d + 1) := by rw [Nat.div_div_eq_div_mul, Nat.pow_succ, Nat.mul_comm]
    rw [e2]
theorem has_spec (k s i : Nat) (hs : s < 1000000) (hi : i ≤ 100) (hk : i < k) : spec_has.f k (s : Int) (i : Int) = some (decide (s / 2 ^ i % 2 = 1)) := by
  unfold spec_has.f
  have := has_l0 i hi i k 0 s (by omega) hk hs
  simpa using this
theorem power_l0 (n : Nat) (hn : n ≤ 40) : ∀ (d k i : Nat), i + d = n → d < k → spec_power.l0 k (n : Int) ((2 ^ i : Nat) : Int) (i : Int) = some ((2 ^ n : Nat) : Int) := by
  intro d
  induction d with
  | zero =>
    intro k i hi hk
    obtain ⟨k, rfl, -⟩ := fuel hk
    simp only [spec_power.l0]
    rw [if_neg (by omega), show i = n by omega]
  | succ d ih =>
    intro k i hi hk
    obtain ⟨k, rfl, hk⟩ := fuel hk
    have hp : 2 ^ i ≤ 2 ^ 40 := Nat.pow_le_pow_right (by omega) (by omega)
    have e : (2 : Int) * ((2 ^ i : Nat) : Int) = ((2 ^ (i + 1) : Nat) : Int) := by rw [Nat.pow_succ]; generalize 2 ^ i = m; omega
    have hp2 : 2 ^ (i + 1) ≤ 2 ^ 41 := Nat.pow_le_pow_right (by omega) (by omega)
    have := ih k (i + 1) (by omega) (by omega)
    simp only [spec_power.l0]
    rw [if_pos (by omega), e, wrap_succ (by omega), wrap_id (by generalize 2 ^ (i + 1) = m; omega) (by generalize 2 ^ (i + 1) = m at hp2; omega)]
    exact this
theorem power_spec (k n : Nat) (hn : n ≤ 40) (hk : n < k) : spec_power.f k (n : Int) = some ((2 ^ n : Nat) : Int) := by
  unfold spec_power.f
  have := power_l0 n hn n k 0 (by omega) hk
  simpa using this

/-! ### indb -/
/-- Who is in, as truth values. -/
def indB (n : Nat) (xs : List Int) : List Bool := (List.range n).map fun i : Nat => decide ((i : Int) ∈ xs)
theorem indB_length (n : Nat) (xs : List Int) : (indB n xs).length = n := by simp [indB]
theorem indB_at {n j : Nat} {xs : List Int} (h : j < n) : (indB n xs)[j]? = some (decide ((j : Int) ∈ xs)) := by simp [indB, h]
theorem indB_add {n j : Nat} {xs : List Int} (h : j < n) : indB n (xs ++ [(j : Int)]) = (indB n xs).set j true := by
  apply List.ext_getElem? 
  intro i
  rcases Nat.lt_or_ge i n with hi | hi
  · rw [indB_at hi, List.getElem?_set, indB_length, indB_at hi]
    by_cases e : j = i
    · subst e; simp [h]
    · simp [e]
      intro h2; omega
  · rw [List.getElem?_eq_none (by rw [indB_length]; exact hi), List.getElem?_eq_none (by simp [indB_length]; exact hi)]
theorem rep_false : ∀ (n : Nat) (ws : List Int), encB (List.replicate n false) = 0 ∧ bwB ws (List.replicate n false) = 0 := by
  intro n
  induction n with
  | zero => intro ws; exact ⟨rfl, by cases ws <;> rfl⟩
  | succ n ih =>
    intro ws
    refine ⟨by simp [List.replicate_succ, encB, (ih ws).1], ?_⟩
    cases ws with
    | nil => rfl
    | cons w ws => simp [List.replicate_succ, bwB, (ih ws).2]
theorem indB_nil (n : Nat) : indB n [] = List.replicate n false := by
  apply List.ext_getElem (by simp [indB])
  intro i h1 h2; simp [indB]
theorem ind_get {n j : Nat} {xs : List Int} : (indB n xs)[j]? = some true ↔ j < n ∧ (j : Int) ∈ xs := by
  rcases Nat.lt_or_ge j n with h | h
  · rw [indB_at h]; simp [h]
  · rw [List.getElem?_eq_none (by rw [indB_length]; exact h)]; simp; omega
theorem decB_get : ∀ (n s i : Nat), i < n → (decB n s)[i]? = some (s / 2 ^ i % 2 == 1) := by
  intro n
  induction n with
  | zero => intro s i h; omega
  | succ n ih =>
    intro s i h
    cases i with
    | zero => simp [decB]
    | succ i =>
      simp only [decB, List.getElem?_cons_succ]
      rw [ih (s / 2) i (by omega)]
      have e2 : s / 2 / 2 ^ i = s / 2 ^ (i + 1) := by rw [Nat.div_div_eq_div_mul, Nat.pow_succ, Nat.mul_comm]
      rw [e2]
theorem mb_ge : ∀ (n i s : Nat), ∀ m ∈ mb n i s, (i : Int) ≤ m := by
  intro n
  induction n with
  | zero => intro i s m h; simp [mb] at h
  | succ n ih =>
    intro i s m h
    simp only [mb] at h
    split at h
    · rcases List.mem_cons.1 h with h | h
      · omega
      · have := ih _ _ m h; omega
    · have := ih _ _ m h; omega
theorem mb_nodup : ∀ (n i s : Nat), (mb n i s).Nodup := by
  intro n
  induction n with
  | zero => intro i s; simp [mb]
  | succ n ih =>
    intro i s
    simp only [mb]
    split
    · refine List.nodup_cons.2 ⟨fun h => ?_, ih _ _⟩
      have := mb_ge _ _ _ _ h; omega
    · exact ih _ _
theorem mb_mem_range {n s : Nat} (hs : s < 2 ^ n) : ∀ m ∈ mb n 0 s, 0 ≤ m ∧ m < (n : Int) := by
  intro m hm
  have e := enc_dec n s hs
  have hl := decB_length n s
  have : m ∈ mb (decB n s).length 0 (encB (decB n s)) := by rw [hl, e]; exact hm
  obtain ⟨j, j1, j2, j3⟩ := (mem_mb _ _ _).1 this
  rw [hl] at j1
  omega
theorem mb_good {n s : Nat} (hs : s < 2 ^ n) : GoodM (mb n 0 s) (n : Int) := ⟨mb_nodup _ _ _, mb_mem_range hs⟩
theorem dec_enc : ∀ bs : List Bool, decB bs.length (encB bs) = bs := by
  intro bs
  induction bs with
  | nil => rfl
  | cons b bs ih =>
    simp only [List.length_cons, decB, encB_mod, encB_half, ih]
    cases b <;> rfl
theorem enc_bit {bs : List Bool} {j : Nat} (h : j < bs.length) : encB bs / 2 ^ j % 2 = 1 ↔ bs[j]? = some true := by
  have := decB_get bs.length (encB bs) j h
  rw [dec_enc] at this
  rw [this]; simp

/-! ### bodyspec -/
theorem weightOf_l0 (ws : List Int) (need : Int) (s : Nat) (hs : s < 1000000) (hn : ws.length ≤ 12) (h : ∀ w ∈ ws, 0 ≤ w ∧ w ≤ 100) : ∀ (d k i : Nat) (acc : Int), i + d = ws.length → d + 20 < k → 0 ≤ acc → acc + 100 * d ≤ 1200 →
    spec_weightOf.l0 k (s : Int) acc (i : Int) ws need = some (acc + bw (ws.drop i) (s / 2 ^ i)) := by
  intro d
  induction d with
  | zero =>
    intro k i acc hi hk h0 h1
    obtain ⟨k, rfl, -⟩ := fuel (show 0 < k by omega)
    simp only [spec_weightOf.l0]
    rw [if_neg (by omega), drop_end (by omega)]
    simp [bw]
  | succ d ih =>
    intro k i acc hi hk h0 h1
    obtain ⟨k, rfl, hk⟩ := fuel (show d + 20 < k by omega)
    have hv := h _ (rd_mem (xs := ws) (i := i) (by omega))
    simp only [spec_weightOf.l0]
    rw [if_pos (by omega), has_spec _ _ _ hs (by omega) (by omega), Option.bind_some, wrap_succ (by omega), drop_rd (xs := ws) (i := i) (by omega)]
    simp only [bw]
    rw [← half_step]
    by_cases hb : s / 2 ^ i % 2 = 1
    · rw [decide_eq_true hb, if_pos rfl, if_pos (by omega), wrap_id (by omega) (by omega), ih k (i + 1) _ (by omega) (by omega) (by omega) (by omega), if_pos hb, Int.add_assoc]
    · rw [decide_eq_false hb, if_neg (by decide), ih k (i + 1) _ (by omega) (by omega) (by omega) (by omega), if_neg hb, Int.zero_add]
theorem weightOf_spec (k : Nat) (ws : List Int) (need : Int) (s : Nat) (hs : s < 1000000) (hn : ws.length ≤ 12) (h : ∀ w ∈ ws, 0 ≤ w ∧ w ≤ 100) (hk : 40 < k) : spec_weightOf.f k ws need (s : Int) = some (bw ws s) := by
  unfold spec_weightOf.f
  have := weightOf_l0 ws need s hs hn h ws.length k 0 0 (by omega) (by omega) (by omega) (by omega)
  simpa using this
theorem swins_spec (k : Nat) (ws : List Int) (need : Int) (s : Nat) (hs : s < 1000000) (hn : ws.length ≤ 12) (h : ∀ w ∈ ws, 0 ≤ w ∧ w ≤ 100) (hk : 40 < k) : spec_wins.f k ws need (s : Int) = some (decide (bw ws s ≥ need)) := by
  unfold spec_wins.f
  rw [weightOf_spec k ws need s hs hn h hk]; rfl
theorem ind_facts (n : Nat) (ws : List Int) (hw : ws.length = n) : ∀ (m : Nat) (xs : List Int), xs.length = m → GoodM xs (n : Int) → bwB ws (indB n xs) = votesL ws xs := by
  intro m
  induction m with
  | zero =>
    intro xs hx _
    have : xs = [] := List.length_eq_zero_iff.1 hx
    subst this
    rw [indB_nil, (rep_false n ws).2]
    rfl
  | succ m ih =>
    intro xs hx hg
    rcases List.eq_nil_or_concat xs with h | ⟨ys, y, h⟩
    · subst h; simp at hx
    · rw [List.concat_eq_append] at h
      subst h
      have hy := hg.2 y (by simp)
      obtain ⟨j, rfl⟩ := Int.eq_ofNat_of_zero_le hy.1
      have hnd := hg.1
      rw [List.nodup_append] at hnd
      have hny : (j : Int) ∉ ys := fun h => hnd.2.2 _ h _ (by simp) rfl
      have a1 := ih ys (by simpa using hx) ⟨hnd.1, fun x hx2 => hg.2 x (by simp [hx2])⟩
      have hj : j < n := by omega
      have hat := indB_at (xs := ys) hj
      rw [decide_eq_false hny] at hat
      have h3 := bwB_set ws (indB n ys) j true (by rw [indB_length, hw]) (by rw [indB_length]; exact hj)
      rw [hat, if_neg (by simp), if_pos rfl] at h3
      rw [indB_add hj, h3, a1]
      simp [votesL]
theorem small_set_lt {n : Nat} (hn : n ≤ 12) {s : Nat} (h : s < 2 ^ n) : s < 1000000 := by
  have hp12 : 2 ^ n ≤ 2 ^ 12 := Nat.pow_le_pow_right (by omega) hn
  omega

/-! ### membersin -/
theorem membersIn_l0 (n s : Nat) (hn : n ≤ 40) (hs : s < 2 ^ n) : ∀ (d k i : Nat) (acc : List Int), i + d = n → acc.length ≤ i → d < k → impl_membersIn.l0 k (s : Int) acc (i : Int) = some (acc ++ mb d i (s / 2 ^ i)) := by
  have hp : 2 ^ n ≤ 2 ^ 40 := Nat.pow_le_pow_right (by omega) hn
  intro d
  induction d with
  | zero =>
    intro k i acc hi ha hk
    obtain ⟨k, rfl, -⟩ := fuel hk
    have e : s / 2 ^ i = 0 := by rw [show i = n by omega]; exact Nat.div_eq_of_lt hs
    simp only [impl_membersIn.l0]
    rw [if_pos (by omega), shr_nat _ _ (by omega), e, if_neg (by decide)]
    simp [mb]
  | succ d ih =>
    intro k i acc hi ha hk
    obtain ⟨k, rfl, hk⟩ := fuel hk
    have hle : s / 2 ^ i ≤ s := Nat.div_le_self _ _
    simp only [impl_membersIn.l0]
    rw [if_pos (by omega), shr_nat _ _ (by omega)]
    by_cases h0 : s / 2 ^ i = 0
    · rw [h0, if_neg (by decide), mb_zero]; simp
    · have h1 : ((s / 2 ^ i : Nat) : Int) > 0 := Int.natCast_pos.2 (Nat.pos_of_ne_zero h0)
      rw [if_pos h1, and_one _ (Nat.lt_of_le_of_lt hle (by omega)), wrap_succ (by omega)]
      simp only [mb]
      rw [← half_step]
      by_cases hb : s / 2 ^ i % 2 = 1
      · rw [if_pos (by omega), if_pos (by omega), ih k (i + 1) _ (by omega) (by simp; omega) (by omega), if_pos hb, List.append_assoc]; rfl
      · rw [if_neg (by omega), ih k (i + 1) _ (by omega) (by omega) (by omega), if_neg hb]
theorem membersIn_spec (k n s : Nat) (hn : n ≤ 40) (hs : s < 2 ^ n) (hk : n < k) : impl_membersIn.f k (s : Int) = some (mb n 0 s) := by
  unfold impl_membersIn.f
  have := membersIn_l0 n s hn hs n k 0 [] (by omega) (by simp) hk
  simpa using this

/-! ### least -/
theorem bwB_mono : ∀ (ws : List Int) (ps qs : List Bool), (∀ w ∈ ws, 0 ≤ w) → ws.length = ps.length → ws.length = qs.length → (∀ j : Nat, ps[j]? = some true → qs[j]? = some true) → bwB ws ps ≤ bwB ws qs := by
  intro ws
  induction ws with
  | nil => intro ps qs _ _ _ _; cases ps <;> cases qs <;> simp [bwB]
  | cons w ws ih =>
    intro ps qs h0 h1 h2 h
    cases ps with
    | nil => simp at h1
    | cons p ps =>
      cases qs with
      | nil => simp at h2
      | cons q qs =>
        have h3 := ih ps qs (fun x hx => h0 x (by simp [hx])) (by simpa using h1) (by simpa using h2) (fun j hj => by simpa using h (j + 1) (by simpa using hj))
        have h4 := h 0
        have h5 := h0 w (by simp)
        simp only [bwB]
        cases p <;> cases q <;> simp at h4 ⊢ <;> omega
theorem exists_least (ws : List Int) (need : Int) : ∀ (c : Nat) (ps : List Bool), cntB ps = c → ws.length = ps.length → bwB ws ps ≥ need →
    ∃ qs : List Bool, ws.length = qs.length ∧ (∀ j : Nat, qs[j]? = some true → ps[j]? = some true) ∧ bwB ws qs ≥ need ∧ ∀ j : Nat, qs[j]? = some true → bwB ws qs - rd ws (j : Int) < need := by
  intro c
  induction c with
  | zero =>
    intro ps hc hl hw
    refine ⟨ps, hl, fun _ h => h, hw, fun j hj => ?_⟩
    have := cntB_set ps j hj
    omega
  | succ c ih =>
    intro ps hc hl hw
    by_cases h : ∀ j : Nat, ps[j]? = some true → bwB ws ps - rd ws (j : Int) < need
    · exact ⟨ps, hl, fun _ h => h, hw, h⟩
    · simp only [Classical.not_forall] at h
      obtain ⟨j, hj, hn⟩ := h
      have hjl : j < ps.length := by
        rcases Nat.lt_or_ge j ps.length with h | h
        · exact h
        · rw [List.getElem?_eq_none h] at hj; cases hj
      have h1 := cntB_set ps j hj
      have h2 := bwB_set ws ps j false hl hjl
      rw [if_pos hj] at h2
      simp at h2
      obtain ⟨qs, q1, q2, q3, q4⟩ := ih (ps.set j false) (by omega) (by simpa using hl) (by omega)
      refine ⟨qs, q1, fun i hi => ?_, q3, q4⟩
      have := q2 i hi
      rw [List.getElem?_set] at this
      by_cases e : j = i
      · subst e; simp at this
      · rw [if_neg e] at this; exact this
def isLeast (ws : List Int) (need : Int) (s : Nat) : Bool := decide (bw ws s ≥ need) && (mb ws.length 0 s).all fun m => decide (bw ws s - rd ws m < need)
/-- All least coalitions. -/
def lcM (ws : List Int) (need : Int) : List (List Int) := ((List.range (2 ^ ws.length)).filter (isLeast ws need)).map (mb ws.length 0)
theorem least_iff (ws xs : List Int) (need : Int) (hw : ∀ w ∈ ws, 0 ≤ w) (hg : GoodM xs (ws.length : Int)) : votesL ws xs ≥ need ↔ ∃ c ∈ lcM ws need, ∀ x ∈ c, x ∈ xs := by
  have hv := ind_facts ws.length ws rfl _ xs rfl hg
  constructor
  · intro h
    obtain ⟨qs, q1, q2, q3, q4⟩ := exists_least ws need _ (indB ws.length xs) rfl (by rw [indB_length]) (by rw [hv]; exact h)
    have hlt := encB_lt qs
    refine ⟨mb ws.length 0 (encB qs), ?_, ?_⟩
    · unfold lcM
      refine List.mem_map.2 ⟨encB qs, List.mem_filter.2 ⟨List.mem_range.2 (by rw [q1]; exact hlt), ?_⟩, rfl⟩
      unfold isLeast
      rw [bw_enc ws qs q1, Bool.and_eq_true, decide_eq_true_eq, List.all_eq_true]
      refine ⟨q3, fun m hm => ?_⟩
      rw [q1, mem_mb] at hm
      obtain ⟨j, j1, j2, j3⟩ := hm
      rw [decide_eq_true_eq, j2, Nat.zero_add]
      exact q4 j j3
    · intro x hx
      rw [q1, mem_mb] at hx
      obtain ⟨j, j1, j2, j3⟩ := hx
      rw [j2, Nat.zero_add]
      exact (ind_get.1 (q2 j j3)).2
  · rintro ⟨c, hc, hsub⟩
    unfold lcM at hc
    obtain ⟨s, hs, rfl⟩ := List.mem_map.1 hc
    obtain ⟨hs1, hs2⟩ := List.mem_filter.1 hs
    have hs3 := List.mem_range.1 hs1
    unfold isLeast at hs2
    rw [Bool.and_eq_true, decide_eq_true_eq] at hs2
    have e := enc_dec _ _ hs3
    have hl := decB_length ws.length s
    have h1 := bw_enc ws (decB ws.length s) hl.symm
    rw [e] at h1
    have h2 := bwB_mono ws (decB ws.length s) (indB ws.length xs) hw hl.symm (by rw [indB_length]) (fun j hj => by
      have hjl : j < (decB ws.length s).length := by
        rcases Nat.lt_or_ge j (decB ws.length s).length with h | h
        · exact h
        · rw [List.getElem?_eq_none h] at hj; cases hj
      refine ind_get.2 ⟨by rw [hl] at hjl; exact hjl, hsub _ ?_⟩
      have := (mem_mb (decB ws.length s) 0 (j : Int)).2 ⟨j, hjl, by simp, hj⟩
      rwa [hl, e] at this)
    have := hs2.1
    omega
theorem votesOf_l0 (ws : List Int) (s : Nat) (hs : s < 1000000) (hn : ws.length ≤ 12) (h : ∀ w ∈ ws, 0 ≤ w ∧ w ≤ 100) : ∀ (d k i : Nat) (acc : Int), i + d = ws.length → d < k → 0 ≤ acc → acc + 100 * d ≤ 1200 →
    impl_votesOf.l0 k (s : Int) acc ws (ws.length : Int) (i : Int) = some (acc + bw (ws.drop i) (s / 2 ^ i)) := by
  intro d
  induction d with
  | zero =>
    intro k i acc hi hk h0 h1
    obtain ⟨k, rfl, -⟩ := fuel (show 0 < k by omega)
    simp only [impl_votesOf.l0]
    rw [if_neg (by omega), drop_end (by omega)]
    simp [bw]
  | succ d ih =>
    intro k i acc hi hk h0 h1
    obtain ⟨k, rfl, hk⟩ := fuel hk
    have hv := h _ (rd_mem (xs := ws) (i := i) (by omega))
    have hle : s / 2 ^ i ≤ s := Nat.div_le_self _ _
    simp only [impl_votesOf.l0]
    rw [if_pos (by omega), if_pos (by omega), if_pos (by omega), shr_nat _ _ (by omega), and_one _ (by omega), wrap_succ (by omega), drop_rd (xs := ws) (i := i) (by omega)]
    simp only [bw]
    rw [← half_step]
    by_cases hb : s / 2 ^ i % 2 = 1
    · rw [if_pos (by omega), wrap_id (by omega) (by omega), ih k (i + 1) _ (by omega) (by omega) (by omega) (by omega), if_pos hb, Int.add_assoc]
    · rw [if_neg (by omega), ih k (i + 1) _ (by omega) (by omega) (by omega) (by omega), if_neg hb, Int.zero_add]
theorem votesOf_spec (k : Nat) (ws : List Int) (need : Int) (s : Nat) (hs : s < 1000000) (hn : ws.length ≤ 12) (h : ∀ w ∈ ws, 0 ≤ w ∧ w ≤ 100) (hk : 40 < k) : impl_votesOf.f k ws need (s : Int) = some (bw ws s) := by
  unfold impl_votesOf.f
  have := votesOf_l0 ws s hs hn h ws.length k 0 0 (by omega) (by omega) (by omega) (by omega)
  simpa using this

/-! ### leastimpl -/
theorem lc_l1 (ws : List Int) (need v : Int) (N : Int) (s : Nat) (acc : List (List Int)) (ms : List Int) (hw : ∀ w ∈ ws, 0 ≤ w ∧ w ≤ 100) (hm : ∀ m ∈ ms, 0 ≤ m ∧ m < (ws.length : Int)) (hml : ms.length ≤ 12) (hv : 0 ≤ v ∧ v ≤ 1200) (hacc : acc.length ≤ 5000) :
    ∀ (d k i : Nat) (b : Bool), i + d = ms.length →
    impl_LeastCoalitions.l1 (k + d + 1) acc v ms b N (s : Int) ms (ms.length : Int) (i : Int) ws need = impl_LeastCoalitions.l0 k (if b && (ms.drop i).all (fun m => decide (v - rd ws m < need)) then acc ++ [ms] else acc) N (wrap64 ((s : Int) + 1)) ws need := by
  intro d
  induction d with
  | zero =>
    intro k i b hi
    simp only [impl_LeastCoalitions.l1]
    rw [if_neg (by omega), drop_end (by omega)]
    cases b with
    | true => rw [if_pos rfl, if_pos (by omega)]; rfl
    | false => rw [if_neg (by decide)]; rfl
  | succ d ih =>
    intro k i b hi
    have e : k + (d + 1) + 1 = (k + d + 1) + 1 := by omega
    have hmi := hm _ (rd_mem (xs := ms) (i := i) (by omega))
    have hwi := hw _ (rd_mem' hmi.1 hmi.2)
    rw [e]
    generalize hq : k + d + 1 = q
    simp only [impl_LeastCoalitions.l1]
    subst hq
    rw [if_pos (by omega), if_pos (by omega), if_pos (by omega), wrap_succ (by omega), drop_rd (xs := ms) (i := i) (by omega), List.all_cons]
    cases b with
    | true =>
      rw [if_pos rfl, if_pos hmi.1, if_pos hmi.2, wrap_id (x := v - rd ws (rd ms (i : Int))) (by omega) (by omega), ih k (i + 1) _ (by omega)]
      simp
    | false =>
      rw [if_neg (by decide), ih k (i + 1) _ (by omega)]
      simp
theorem lc_l0 (ws : List Int) (need : Int) (hn : ws.length ≤ 8) (hw : ∀ w ∈ ws, 0 ≤ w ∧ w ≤ 100) : ∀ (d k s : Nat) (acc : List (List Int)), s + d = 2 ^ ws.length → acc.length ≤ s → 20 * d + 100 < k →
    impl_LeastCoalitions.l0 k acc ((2 ^ ws.length : Nat) : Int) (s : Int) ws need = some (acc ++ ((List.range' s d).filter (isLeast ws need)).map (mb ws.length 0)) := by
  have hp : 2 ^ ws.length ≤ 2 ^ 8 := Nat.pow_le_pow_right (by omega) hn
  intro d
  induction d with
  | zero =>
    intro k s acc hs ha hk
    obtain ⟨k, rfl, -⟩ := fuel (show 0 < k by omega)
    simp only [impl_LeastCoalitions.l0]
    rw [if_neg (by omega)]; simp
  | succ d ih =>
    intro k s acc hs ha hk
    obtain ⟨k, rfl, hk⟩ := fuel (show 20 * (d + 1) + 99 < k by omega)
    have hs2 : s < 2 ^ ws.length := by omega
    have hv := bw_bound ws s 100 (by omega) hw
    have hml := mb_length ws.length 0 s
    simp only [impl_LeastCoalitions.l0]
    rw [if_pos (by omega), votesOf_spec k ws need s (by omega) (by omega) hw (by omega), Option.bind_some, membersIn_spec k ws.length s (by omega) hs2 (by omega), Option.bind_some]
    have h1 := lc_l1 ws need (bw ws s) ((2 ^ ws.length : Nat) : Int) s acc (mb ws.length 0 s) hw (mb_mem_range hs2) (by omega) (by omega) (by omega) (mb ws.length 0 s).length (k - (mb ws.length 0 s).length - 1) 0 (decide (bw ws s ≥ need)) (by omega)
    have e : k - (mb ws.length 0 s).length - 1 + (mb ws.length 0 s).length + 1 = k := by omega
    rw [e, List.drop_zero, wrap_succ (by omega)] at h1
    rw [cast0] at h1
    rw [h1, List.range'_succ, List.filter_cons]
    have hb : (decide (bw ws s ≥ need) && (mb ws.length 0 s).all fun m => decide (bw ws s - rd ws m < need)) = isLeast ws need s := rfl
    rw [hb]
    cases hl : isLeast ws need s with
    | true =>
      rw [if_pos rfl, if_pos rfl, ih _ (s + 1) (acc ++ [mb ws.length 0 s]) (by omega) (by simp; omega) (by omega)]
      simp
    | false =>
      rw [if_neg (by decide), if_neg (by decide), ih _ (s + 1) acc (by omega) (by omega) (by omega)]
theorem implLeast_spec (k : Nat) (ws : List Int) (need : Int) (hk : 10000 < k) : impl_LeastCoalitions.f k ws need = some (if OkBody ws need ∧ ws.length ≤ 8 then lcM ws need else []) := by
  unfold impl_LeastCoalitions.f impl_smallBody.f
  by_cases h1 : (ws.length : Int) ≤ 8
  · rw [if_pos h1, implBody_spec k ws need (by omega), Option.bind_some, Option.bind_some]
    by_cases h2 : OkBody ws need
    · have hp : 2 ^ ws.length ≤ 2 ^ 8 := Nat.pow_le_pow_right (by omega) (by omega)
      rw [decide_eq_true h2, if_pos rfl, if_pos ⟨h2, by omega⟩, shl_one _ (by omega)]
      have := lc_l0 ws need (by omega) h2.2.2.1 (2 ^ ws.length) k 0 [] (by omega) (by simp) (by omega)
      rw [cast0, List.nil_append, ← List.range_eq_range'] at this
      exact this
    · rw [decide_eq_false h2, if_neg (by decide), if_neg (fun h => h2 h.1)]
  · rw [if_neg h1, if_neg (fun h => h1 (by have := h.2; omega))]; rfl

/-! ### membersof -/
/-! ### leastmore -/
theorem bw_sub (ws : List Int) (s i : Nat) (hs : s < 2 ^ ws.length) (hi : i < ws.length) (hb : s / 2 ^ i % 2 = 1) : 2 ^ i ≤ s ∧ bw ws (s - 2 ^ i) = bw ws s - rd ws (i : Int) := by
  have e := enc_dec _ _ hs
  have hl := decB_length ws.length s
  have hg := decB_get ws.length s i hi
  have ht : (decB ws.length s)[i]? = some true := by rw [hg]; simp [hb]
  have h1 : ((decB ws.length s).set i false)[i]? = some false := by simp [hl, hi]
  have h2 := encB_set ((decB ws.length s).set i false) i h1
  rw [List.set_set] at h2
  have h3 : (decB ws.length s).set i true = decB ws.length s := by
    apply List.ext_getElem?
    intro j
    rw [List.getElem?_set]
    by_cases hj : i = j
    · subst hj; rw [ht]; simp [hl, hi]
    · simp [hj]
  rw [h3, e] at h2
  have h4 := bwB_set ws (decB ws.length s) i false hl.symm (by omega)
  rw [if_pos ht] at h4
  have h5 := bw_enc ws ((decB ws.length s).set i false) (by simp [hl])
  have h6 := bw_enc ws (decB ws.length s) hl.symm
  rw [e] at h6
  have h7 : s - 2 ^ i = encB ((decB ws.length s).set i false) := by omega
  refine ⟨by omega, ?_⟩
  rw [h7, h5, h4, h6]
  simp
theorem bw_zero : ∀ ws : List Int, bw ws 0 = 0 := by
  intro ws
  induction ws with
  | nil => rfl
  | cons w ws ih => simp [bw, ih]
theorem votes_mb (ws : List Int) : ∀ (d i s : Nat), i + d = ws.length → votesL ws (mb d i s) = bw (ws.drop i) s := by
  intro d
  induction d with
  | zero => intro i s h; rw [drop_end (by omega)]; simp [mb, votesL, bw]
  | succ d ih =>
    intro i s h
    have := ih (i + 1) (s / 2) (by omega)
    rw [drop_rd (xs := ws) (i := i) (by omega)]
    simp only [mb, bw]
    unfold votesL at this ⊢
    split
    · rw [List.map_cons, List.sum_cons, this]
    · rw [this]; omega
theorem votes_mb0 (ws : List Int) (s : Nat) : votesL ws (mb ws.length 0 s) = bw ws s := by
  have := votes_mb ws ws.length 0 s (by omega)
  simpa using this
theorem lcM_at {ws : List Int} {need : Int} {c : List Int} (h : c ∈ lcM ws need) : ∃ s, s < 2 ^ ws.length ∧ isLeast ws need s = true ∧ c = mb ws.length 0 s := by
  unfold lcM at h
  obtain ⟨s, hs, rfl⟩ := List.mem_map.1 h
  obtain ⟨h1, h2⟩ := List.mem_filter.1 hs
  exact ⟨s, List.mem_range.1 h1, h2, rfl⟩
theorem least_sub {ws : List Int} {need : Int} (hw : ∀ w ∈ ws, 0 ≤ w) {s t : Nat} (hs : s < 2 ^ ws.length) (ht : t < 2 ^ ws.length) (h1 : isLeast ws need s = true) (h2 : isLeast ws need t = true) (hsub : ∀ x ∈ mb ws.length 0 s, x ∈ mb ws.length 0 t) : s = t := by
  have es := enc_dec _ _ hs
  have et := enc_dec _ _ ht
  have ls := decB_length ws.length s
  have lt := decB_length ws.length t
  have ms : ∀ j : Nat, j < ws.length → ((j : Int) ∈ mb ws.length 0 s ↔ (decB ws.length s)[j]? = some true) := by
    intro j hj
    have := mem_mb (decB ws.length s) 0 (j : Int)
    rw [ls, es] at this
    rw [this]
    constructor
    · rintro ⟨q, q1, q2, q3⟩
      have : q = j := by omega
      rw [← this]; exact q3
    · intro h; exact ⟨j, hj, by simp, h⟩
  have mt : ∀ j : Nat, j < ws.length → ((j : Int) ∈ mb ws.length 0 t ↔ (decB ws.length t)[j]? = some true) := by
    intro j hj
    have := mem_mb (decB ws.length t) 0 (j : Int)
    rw [lt, et] at this
    rw [this]
    constructor
    · rintro ⟨q, q1, q2, q3⟩
      have : q = j := by omega
      rw [← this]; exact q3
    · intro h; exact ⟨j, hj, by simp, h⟩
  have hsub2 : ∀ j : Nat, (decB ws.length s)[j]? = some true → (decB ws.length t)[j]? = some true := by
    intro j hj
    have hjl : j < ws.length := by
      rcases Nat.lt_or_ge j ws.length with h | h
      · exact h
      · rw [List.getElem?_eq_none (by omega)] at hj; cases hj
    exact (mt j hjl).1 (hsub _ ((ms j hjl).2 hj))
  have hback : ∀ j : Nat, (decB ws.length t)[j]? = some true → (decB ws.length s)[j]? = some true := by
    intro j hj
    have hjl : j < ws.length := by
      rcases Nat.lt_or_ge j ws.length with h | h
      · exact h
      · rw [List.getElem?_eq_none (by omega)] at hj; cases hj
    cases hq : decide ((decB ws.length s)[j]? = some true) with
    | true => exact of_decide_eq_true hq
    | false =>
      exfalso
      have hq2 := of_decide_eq_false hq
      have b1 := bw_enc ws (decB ws.length s) ls.symm
      have b2 := bw_enc ws (decB ws.length t) lt.symm
      rw [es] at b1
      rw [et] at b2
      have b3 := bwB_set ws (decB ws.length t) j false lt.symm (by omega)
      rw [if_pos hj] at b3
      simp at b3
      have b4 := bwB_mono ws (decB ws.length s) ((decB ws.length t).set j false) hw ls.symm (by simp [lt]) (fun i hi => by
        rw [List.getElem?_set]
        by_cases e : j = i
        · subst e; exact absurd hi hq2
        · rw [if_neg e]; exact hsub2 i hi)
      unfold isLeast at h1 h2
      rw [Bool.and_eq_true, decide_eq_true_eq, List.all_eq_true] at h1 h2
      have b5 := h2.2 _ ((mt j hjl).2 hj)
      rw [decide_eq_true_eq] at b5
      have := h1.1
      omega
  have : decB ws.length s = decB ws.length t := by
    apply List.ext_getElem?
    intro j
    rcases Nat.lt_or_ge j ws.length with h | h
    · rw [decB_get _ _ _ h, decB_get _ _ _ h]
      have a1 := hsub2 j
      have a2 := hback j
      rw [decB_get _ _ _ h, decB_get _ _ _ h] at a1 a2
      congr 1
      rw [Bool.eq_iff_iff]
      exact ⟨fun x => by simpa using a1 (by rw [x]), fun x => by simpa using a2 (by rw [x])⟩
    · rw [List.getElem?_eq_none (by omega), List.getElem?_eq_none (by omega)]
  rw [← es, ← et, this]
theorem lcM_apart (ws : List Int) (need : Int) (hw : ∀ w ∈ ws, 0 ≤ w) : (lcM ws need).Pairwise fun a b => ¬ (∀ x ∈ a, x ∈ b) ∧ ¬ (∀ x ∈ b, x ∈ a) := by
  unfold lcM
  rw [List.pairwise_map]
  have h1 : (List.range (2 ^ ws.length)).Pairwise (· < ·) := List.pairwise_lt_range
  refine (h1.filter (isLeast ws need)).imp_of_mem ?_
  intro s t hs ht hlt
  obtain ⟨s1, s2⟩ := List.mem_filter.1 hs
  obtain ⟨t1, t2⟩ := List.mem_filter.1 ht
  have s3 := List.mem_range.1 s1
  have t3 := List.mem_range.1 t1
  exact ⟨fun h => by have := least_sub hw s3 t3 s2 t2 h; omega, fun h => by have := least_sub hw t3 s3 t2 s2 h; omega⟩

/-! ### sumb -/
/-- A sum over all lists of truth values. -/
def sumB : Nat → (List Bool → Int) → Int
  | 0, f => f []
  | n + 1, f => sumB n (fun bs => f (false :: bs)) + sumB n (fun bs => f (true :: bs))
theorem sumB_ext : ∀ (n : Nat) (f g : List Bool → Int), (∀ bs, bs.length = n → f bs = g bs) → sumB n f = sumB n g := by
  intro n
  induction n with
  | zero => intro f g h; exact h [] rfl
  | succ n ih => intro f g h; simp only [sumB]; rw [ih _ _ (fun bs hb => h (false :: bs) (by simp [hb])), ih _ _ (fun bs hb => h (true :: bs) (by simp [hb]))]
theorem sumB_add : ∀ (n : Nat) (f g : List Bool → Int), sumB n (fun bs => f bs + g bs) = sumB n f + sumB n g := by
  intro n
  induction n with
  | zero => intro f g; rfl
  | succ n ih => intro f g; simp only [sumB]; rw [ih, ih]; omega
theorem sumB_neg : ∀ (n : Nat) (f : List Bool → Int), sumB n (fun bs => - f bs) = - sumB n f := by
  intro n
  induction n with
  | zero => intro f; rfl
  | succ n ih => intro f; simp only [sumB]; rw [ih, ih]; omega
theorem sumB_sub (n : Nat) (f g : List Bool → Int) : sumB n (fun bs => f bs - g bs) = sumB n f - sumB n g := by
  have h := sumB_add n f (fun bs => - g bs)
  rw [sumB_neg] at h
  rw [Int.sub_eq_add_neg, ← h]
  exact sumB_ext n _ _ (fun bs _ => Int.sub_eq_add_neg)
theorem sumB_le : ∀ (n : Nat) (f g : List Bool → Int), (∀ bs, bs.length = n → f bs ≤ g bs) → sumB n f ≤ sumB n g := by
  intro n
  induction n with
  | zero => intro f g h; exact h [] rfl
  | succ n ih =>
    intro f g h
    simp only [sumB]
    have h1 := ih (fun bs => f (false :: bs)) (fun bs => g (false :: bs)) (fun bs hb => h (false :: bs) (by simp [hb]))
    have h2 := ih (fun bs => f (true :: bs)) (fun bs => g (true :: bs)) (fun bs hb => h (true :: bs) (by simp [hb]))
    omega
theorem sumB_zero (n : Nat) : sumB n (fun _ => 0) = 0 := by
  induction n with
  | zero => rfl
  | succ n ih => simp only [sumB]; rw [ih]; rfl
theorem sumB_none {n : Nat} {f : List Bool → Int} (h : ∀ bs, bs.length = n → f bs = 0) : sumB n f = 0 := (sumB_ext n f _ h).trans (sumB_zero n)
theorem sumB_pos : ∀ (n : Nat) (f : List Bool → Int), (∀ bs, bs.length = n → 0 ≤ f bs) → sumB n f = 0 → ∀ bs, bs.length = n → f bs = 0 := by
  intro n
  induction n with
  | zero => intro f h h0 bs hb; rw [List.length_eq_zero_iff.1 hb]; exact h0
  | succ n ih =>
    intro f h h0 bs hb
    simp only [sumB] at h0
    have p1 := sumB_le n (fun _ => 0) (fun bs => f (false :: bs)) (fun bs hb => h (false :: bs) (by simp [hb]))
    have p2 := sumB_le n (fun _ => 0) (fun bs => f (true :: bs)) (fun bs hb => h (true :: bs) (by simp [hb]))
    rw [sumB_zero] at p1 p2
    cases bs with
    | nil => simp at hb
    | cons b bs =>
      rw [List.length_cons] at hb
      cases b
      · exact ih (fun bs => f (false :: bs)) (fun bs hb => h (false :: bs) (by simp [hb])) (by omega) bs (by omega)
      · exact ih (fun bs => f (true :: bs)) (fun bs hb => h (true :: bs) (by simp [hb])) (by omega) bs (by omega)
/-- The sum over the numbers below a power of two. -/
def sumN : Nat → (Nat → Int) → Int
  | 0, _ => 0
  | n + 1, f => sumN n f + f n
theorem sumN_ext : ∀ (n : Nat) (f g : Nat → Int), (∀ s, s < n → f s = g s) → sumN n f = sumN n g := by
  intro n
  induction n with
  | zero => intro f g _; rfl
  | succ n ih => intro f g h; simp only [sumN]; rw [ih f g (fun s hs => h s (by omega)), h n (by omega)]
theorem sumN_two : ∀ (m : Nat) (f : Nat → Int), sumN (2 * m) f = sumN m (fun t => f (2 * t)) + sumN m (fun t => f (2 * t + 1)) := by
  intro m
  induction m with
  | zero => intro f; rfl
  | succ m ih =>
    intro f
    rw [show 2 * (m + 1) = 2 * m + 1 + 1 by omega]
    simp only [sumN]
    rw [ih f]
    omega
theorem sumN_B : ∀ (n : Nat) (f : Nat → Int), sumN (2 ^ n) f = sumB n (fun bs => f (encB bs)) := by
  intro n
  induction n with
  | zero => intro f; show sumN 1 f = f (encB []); simp [sumN, encB]
  | succ n ih =>
    intro f
    rw [show 2 ^ (n + 1) = 2 * 2 ^ n by rw [Nat.pow_succ, Nat.mul_comm], sumN_two, ih, ih]
    simp only [sumB]
    congr 1
    · exact sumB_ext n _ _ (fun bs _ => by simp only [encB]; congr 1; simp)
    · exact sumB_ext n _ _ (fun bs _ => by simp only [encB]; congr 1; simp; omega)
/-- What is summed over the sets without an element is summed over those with it. -/
theorem sumB_shift : ∀ (n i : Nat) (F : List Bool → Int), i < n → sumB n (fun bs => if bs[i]? = some false then F (bs.set i true) else 0) = sumB n (fun bs => if bs[i]? = some true then F bs else 0) := by
  intro n
  induction n with
  | zero => intro i F h; omega
  | succ n ih =>
    intro i F h
    simp only [sumB]
    cases i with
    | zero =>
      have e1 : sumB n (fun bs => if (false :: bs)[0]? = some false then F ((false :: bs).set 0 true) else 0) = sumB n (fun bs => F (true :: bs)) := sumB_ext n _ _ (fun bs _ => by simp)
      have e2 : sumB n (fun bs => if (true :: bs)[0]? = some false then F ((true :: bs).set 0 true) else 0) = 0 := sumB_none (fun bs _ => by simp)
      have e3 : sumB n (fun bs => if (false :: bs)[0]? = some true then F (false :: bs) else 0) = 0 := sumB_none (fun bs _ => by simp)
      have e4 : sumB n (fun bs => if (true :: bs)[0]? = some true then F (true :: bs) else 0) = sumB n (fun bs => F (true :: bs)) := sumB_ext n _ _ (fun bs _ => by simp)
      rw [e1, e2, e3, e4]; omega
    | succ i =>
      have h1 := ih i (fun bs => F (false :: bs)) (by omega)
      have h2 := ih i (fun bs => F (true :: bs)) (by omega)
      simp only [List.getElem?_cons_succ, List.set_cons_succ]
      rw [h1, h2]
/-- Two elements of sets exchanged. -/
def swapB (i k : Nat) (bs : List Bool) : List Bool := (bs.set i (bs[k]?.getD false)).set k (bs[i]?.getD false)
theorem sumB_at : ∀ (n i : Nat) (F : List Bool → Int), i ≤ n → sumB (n + 1) F = sumB n (fun bs => F (bs.take i ++ false :: bs.drop i)) + sumB n (fun bs => F (bs.take i ++ true :: bs.drop i)) := by
  intro n
  induction n with
  | zero => intro i F h; obtain rfl : i = 0 := by omega
            rfl
  | succ n ih =>
    intro i F h
    cases i with
    | zero => rfl
    | succ i =>
      have h1 := ih i (fun bs => F (false :: bs)) (by omega)
      have h2 := ih i (fun bs => F (true :: bs)) (by omega)
      rw [show sumB (n + 1 + 1) F = sumB (n + 1) (fun bs => F (false :: bs)) + sumB (n + 1) (fun bs => F (true :: bs)) from rfl, h1, h2]
      simp only [sumB, List.take_succ_cons, List.drop_succ_cons, List.cons_append]
      omega
theorem sumB_comp : ∀ (n : Nat) (F : List Bool → Int), sumB n (fun bs => F (bs.map not)) = sumB n F := by
  intro n
  induction n with
  | zero => intro F; rfl
  | succ n ih =>
    intro F
    simp only [sumB, List.map_cons, Bool.not_false, Bool.not_true]
    rw [ih (fun bs => F (true :: bs)), ih (fun bs => F (false :: bs))]
    omega
theorem cntB_cons (b : Bool) (bs : List Bool) : cntB (b :: bs) = (if b then 1 else 0) + cntB bs := by
  unfold cntB; cases b <;> simp <;> omega
theorem cntB_le : ∀ bs : List Bool, cntB bs ≤ bs.length := fun bs => List.length_filter_le _ _
theorem cnt_full : ∀ (n : Nat) (F : List Bool → Int), sumB n (fun bs => if cntB bs = n then F bs else 0) = F (List.replicate n true) := by
  intro n
  induction n with
  | zero => intro F; rfl
  | succ n ih =>
    intro F
    simp only [sumB]
    have e1 : sumB n (fun bs => if cntB (false :: bs) = n + 1 then F (false :: bs) else 0) = 0 := sumB_none (fun bs hb => by
      rw [if_neg]; rw [cntB_cons]; have := cntB_le bs; simp; omega)
    have e2 : sumB n (fun bs => if cntB (true :: bs) = n + 1 then F (true :: bs) else 0) = sumB n (fun bs => if cntB bs = n then F (true :: bs) else 0) := sumB_ext n _ _ (fun bs _ => by
      have : (cntB (true :: bs) = n + 1) = (cntB bs = n) := by rw [cntB_cons]; simp; omega
      simp only [this])
    rw [e1, e2, ih (fun bs => F (true :: bs)), List.replicate_succ]; omega
theorem cnt_none : ∀ (n : Nat) (F : List Bool → Int), sumB n (fun bs => if cntB bs = 0 then F bs else 0) = F (List.replicate n false) := by
  intro n
  induction n with
  | zero => intro F; rfl
  | succ n ih =>
    intro F
    simp only [sumB]
    have e1 : sumB n (fun bs => if cntB (true :: bs) = 0 then F (true :: bs) else 0) = 0 := sumB_none (fun bs hb => by
      rw [if_neg]; rw [cntB_cons]; simp)
    have e2 : sumB n (fun bs => if cntB (false :: bs) = 0 then F (false :: bs) else 0) = sumB n (fun bs => if cntB bs = 0 then F (false :: bs) else 0) := sumB_ext n _ _ (fun bs _ => by
      have : (cntB (false :: bs) = 0) = (cntB bs = 0) := by rw [cntB_cons]; simp
      simp only [this])
    rw [e1, e2, ih (fun bs => F (false :: bs)), List.replicate_succ]; omega
/-- How often an element is there, summed over the elements. -/
theorem sumN_count : ∀ (bs : List Bool) (n : Nat) (a b : Int), bs.length = n → sumN n (fun i => if bs[i]? = some true then a else b) = a * (cntB bs : Int) + b * ((n : Int) - (cntB bs : Int)) := by
  have key : ∀ (m : Nat) (bs : List Bool) (a b : Int), m ≤ bs.length → sumN m (fun i => if bs[i]? = some true then a else b) = a * (cntB (bs.take m) : Int) + b * ((m : Int) - (cntB (bs.take m) : Int)) := by
    intro m
    induction m with
    | zero => intro bs a b _; simp [sumN, cntB]
    | succ m ih =>
      intro bs a b h
      simp only [sumN]
      rw [ih bs a b (by omega), List.take_succ_eq_append_getElem (show m < bs.length by omega)]
      have e : (cntB (bs.take m ++ [bs[m]]) : Int) = (cntB (bs.take m) : Int) + (if bs[m] = true then 1 else 0) := by
        unfold cntB
        rw [List.filter_append, List.length_append]
        cases bs[m] <;> simp
      rw [e, List.getElem?_eq_getElem (show m < bs.length by omega)]
      cases bs[m]
      · simp [Int.mul_add, Int.mul_sub]; omega
      · simp [Int.mul_add, Int.mul_sub]; omega
  intro bs n a b h
  have := key n bs a b (by omega)
  rw [List.take_of_length_le (by omega)] at this
  exact this
theorem sumN_swap (n : Nat) : ∀ (m : Nat) (F : Nat → List Bool → Int), sumN m (fun i => sumB n (F i)) = sumB n (fun bs => sumN m (fun i => F i bs)) := by
  intro m
  induction m with
  | zero => intro F; simp only [sumN]; exact (sumB_zero n).symm
  | succ m ih => intro F; simp only [sumN]; rw [ih F, sumB_add]

/-! ### decm -/
/-- What a set counts for a member that it lacks. -/
def gainM (ws : List Int) (need : Int) (c : Nat → Int) (s i : Nat) : Int := if s / 2 ^ i % 2 = 0 ∧ bw ws s < need ∧ need ≤ bw ws s + rd ws (i : Int) then c (mb ws.length 0 s).length else 0
def accM (ws : List Int) (need : Int) (c : Nat → Int) (s i : Nat) : Int := sumN s (fun t => gainM ws need c t i)
def rowM (ws : List Int) (need : Int) (c : Nat → Int) (s i : Nat) : List Int := (List.range ws.length).map fun j => accM ws need c (if j < i then s + 1 else s) j
def decM (ws : List Int) (need : Int) (c : Nat → Int) : List Int := (List.range ws.length).map fun j => accM ws need c (2 ^ ws.length) j
theorem rowM_length (ws : List Int) (need : Int) (c : Nat → Int) (s i : Nat) : (rowM ws need c s i).length = ws.length := by simp [rowM]
theorem decM_length (ws : List Int) (need : Int) (c : Nat → Int) : (decM ws need c).length = ws.length := by simp [decM]
theorem rowM_all (ws : List Int) (need : Int) (c : Nat → Int) (s : Nat) : rowM ws need c s ws.length = rowM ws need c (s + 1) 0 := by
  unfold rowM
  refine List.map_congr_left (fun j hj => ?_)
  have := List.mem_range.1 hj
  rw [if_pos this, if_neg (by omega)]
theorem rowM_end (ws : List Int) (need : Int) (c : Nat → Int) : rowM ws need c (2 ^ ws.length) 0 = decM ws need c := by
  unfold rowM decM
  exact List.map_congr_left (fun j hj => by rw [if_neg (by omega)])
theorem rowM_start (ws : List Int) (need : Int) (c : Nat → Int) : rowM ws need c 0 0 = List.replicate ws.length 0 := by
  unfold rowM
  rw [List.eq_replicate_iff]
  refine ⟨by simp, fun x hx => ?_⟩
  obtain ⟨j, -, rfl⟩ := List.mem_map.1 hx
  rw [if_neg (by omega)]
  rfl
theorem rowM_rd {ws : List Int} {need : Int} {c : Nat → Int} {s i : Nat} (h : i < ws.length) : rd (rowM ws need c s i) (i : Int) = accM ws need c s i := by
  unfold rowM
  rw [rd_get (by simpa using h)]
  simp
theorem decM_rd {ws : List Int} {need : Int} {c : Nat → Int} {i : Nat} (h : i < ws.length) : rd (decM ws need c) (i : Int) = accM ws need c (2 ^ ws.length) i := by
  unfold decM
  rw [rd_get (by simpa using h)]
  simp
theorem rowM_set {ws : List Int} {need : Int} {c : Nat → Int} {s i : Nat} (h : i < ws.length) : (rowM ws need c s i).set i (accM ws need c (s + 1) i) = rowM ws need c s (i + 1) := by
  unfold rowM
  apply List.ext_getElem
  · simp
  · intro j h1 h2
    simp only [List.length_map, List.length_range] at h2
    rw [List.getElem_set]
    simp only [List.getElem_map, List.getElem_range]
    by_cases hj : i = j
    · subst hj; rw [if_pos rfl, if_pos (by omega)]
    · rw [if_neg hj]
      by_cases h3 : j < i
      · rw [if_pos h3, if_pos (by omega)]
      · rw [if_neg h3, if_neg (by omega)]
theorem rowM_skip {ws : List Int} {need : Int} {c : Nat → Int} {s i : Nat} (h : i < ws.length) (hg : gainM ws need c s i = 0) : rowM ws need c s (i + 1) = rowM ws need c s i := by
  have e : accM ws need c (s + 1) i = accM ws need c s i := by unfold accM; simp only [sumN]; rw [hg, Int.add_zero]
  unfold rowM
  refine List.map_congr_left (fun j hj => ?_)
  by_cases h3 : j < i
  · rw [if_pos h3, if_pos (by omega)]
  · rw [if_neg h3]
    by_cases h4 : j = i
    · subst h4; rw [if_pos (by omega), e]
    · rw [if_neg (by omega)]
theorem rowM_none {ws : List Int} {need : Int} {c : Nat → Int} {s : Nat} (hg : ¬ bw ws s < need) : rowM ws need c s 0 = rowM ws need c (s + 1) 0 := by
  unfold rowM
  refine List.map_congr_left (fun j hj => ?_)
  rw [if_neg (by omega), if_neg (by omega)]
  unfold accM
  simp only [sumN]
  have : gainM ws need c s j = 0 := if_neg (fun h => hg h.2.1)
  rw [this, Int.add_zero]
theorem accM_step (ws : List Int) (need : Int) (c : Nat → Int) (s i : Nat) : accM ws need c (s + 1) i = accM ws need c s i + gainM ws need c s i := rfl
theorem accM_bound {ws : List Int} {need : Int} {c : Nat → Int} (hc : ∀ k : Nat, k ≤ ws.length → 0 ≤ c k ∧ c k ≤ 1700000000) (i : Nat) : ∀ s : Nat, 0 ≤ accM ws need c s i ∧ accM ws need c s i ≤ 1700000000 * (s : Int) := by
  intro s
  induction s with
  | zero => simp [accM, sumN]
  | succ s ih =>
    rw [accM_step]
    have hb := hc _ (mb_length ws.length 0 s)
    unfold gainM
    push_cast
    split <;> omega
theorem bw_add {ws : List Int} {s i : Nat} (hs : s < 2 ^ ws.length) (hi : i < ws.length) (hb : s / 2 ^ i % 2 = 0) : s + 2 ^ i < 2 ^ ws.length ∧ bw ws (s + 2 ^ i) = bw ws s + rd ws (i : Int) := by
  have h1 : s + 2 ^ i < 2 ^ ws.length := by
    have e := enc_dec ws.length s hs
    have g := decB_get ws.length s i hi
    rw [hb] at g
    have e2 := encB_set (decB ws.length s) i (by rw [g]; rfl)
    have e3 := encB_lt ((decB ws.length s).set i true)
    rw [e2, e, List.length_set, decB_length] at e3
    exact e3
  have hp : 0 < 2 ^ i := Nat.pow_pos (by omega)
  have h2 := bw_sub ws (s + 2 ^ i) i h1 hi (by rw [Nat.add_div_right _ hp]; omega)
  rw [Nat.add_sub_cancel] at h2
  exact ⟨h1, by omega⟩
theorem pow_small {n : Nat} (h : n ≤ 8) : 2 ^ n ≤ 256 := Nat.pow_le_pow_right (n := 2) (by omega) h
/-- How a set counts: for swings once, for pivots by the orders. -/
def cOne (_ : Nat) : Int := 1

/-! ### fact -/
def factM : Nat → Int
  | 0 => 1
  | n + 1 => factM n * ((n + 1 : Nat) : Int)
theorem factM_pos : ∀ n : Nat, 1 ≤ factM n := by
  intro n
  induction n with
  | zero => decide
  | succ n ih =>
    simp only [factM]
    have h : (0 : Int) ≤ ((n : Nat) : Int) := by omega
    have := Int.mul_nonneg (show 0 ≤ factM n by omega) h
    push_cast
    rw [Int.mul_add]
    omega
theorem factM_step (n : Nat) : factM (n + 1) = factM n * ((n + 1 : Nat) : Int) := rfl
theorem factM_mono : ∀ (d n : Nat), factM n ≤ factM (n + d) := by
  intro d
  induction d with
  | zero => intro n; exact Int.le_refl _
  | succ d ih =>
    intro n
    refine Int.le_trans (ih n) ?_
    rw [show n + (d + 1) = (n + d) + 1 from rfl, factM_step]
    have h1 := factM_pos (n + d)
    have := Int.mul_le_mul_of_nonneg_left (show (1 : Int) ≤ ((n + d + 1 : Nat) : Int) by omega) (show 0 ≤ factM (n + d) by omega)
    omega
theorem factM_small {n : Nat} (h : n ≤ 12) : factM n ≤ 479001600 := by
  have := factM_mono (12 - n) n
  rw [show n + (12 - n) = 12 by omega] at this
  have e : factM 12 = 479001600 := by decide
  omega

/-! ### pivc -/
def cPiv (n : Nat) (k : Nat) : Int := factM k * factM (n - 1 - k)
theorem fact8 {n : Nat} (h : n ≤ 8) : factM n ≤ 40320 := by
  have := factM_mono (8 - n) n
  rw [show n + (8 - n) = 8 by omega] at this
  have e : factM 8 = 40320 := by decide
  omega
theorem fact7 {n : Nat} (h : n ≤ 7) : factM n ≤ 5040 := by
  have := factM_mono (7 - n) n
  rw [show n + (7 - n) = 7 by omega] at this
  have e : factM 7 = 5040 := by decide
  omega
theorem cPiv_bound {n : Nat} (hn : n ≤ 8) {k : Nat} (hk : k ≤ 8) : 1 ≤ cPiv n k ∧ cPiv n k ≤ 1700000000 := by
  have a1 := factM_pos k
  have a2 := fact8 hk
  have b1 := factM_pos (n - 1 - k)
  have b2 := fact8 (show n - 1 - k ≤ 8 by omega)
  unfold cPiv
  have h1 := Int.mul_le_mul a1 b1 (by omega) (by omega)
  have h2 := Int.mul_le_mul a2 b2 (by omega) (by omega)
  omega

/-! ### sswing -/
theorem ssw_l1 (ws : List Int) (need : Int) (hn : ws.length ≤ 8) (hw : ∀ w ∈ ws, 0 ≤ w ∧ w ≤ 100) (s : Nat) (hs : s < 2 ^ ws.length) (hneed : need ≤ 1000000) : ∀ (d k i : Nat), i + d = ws.length → 60 < k →
    spec_swings.l1 (k + d + 1) (rowM ws need cOne s i) (s : Int) (i : Int) ws need = spec_swings.l0 k (rowM ws need cOne (s + 1) 0) ((s + 1 : Nat) : Int) ws need := by
  have h256 := pow_small hn
  have hc : ∀ k : Nat, k ≤ ws.length → 0 ≤ cOne k ∧ cOne k ≤ 1700000000 := fun k hk => by unfold cOne; omega
  intro d
  induction d with
  | zero =>
    intro k i hi hk
    obtain rfl : i = ws.length := by omega
    simp only [spec_swings.l1]
    rw [if_neg (by omega), rowM_all, wrap_succ (by omega)]
  | succ d ih =>
    intro k i hi hk
    have hil : i < ws.length := by omega
    have e : k + (d + 1) + 1 = (k + d + 1) + 1 := by omega
    rw [e]
    have ih' := ih k (i + 1) (by omega) hk
    generalize hz : k + d + 1 = z at *
    simp only [spec_swings.l1]
    rw [if_pos (by omega), has_spec z s i (by omega) (by omega) (by omega), Option.bind_some]
    by_cases h1 : s / 2 ^ i % 2 = 1
    · have hg : gainM ws need cOne s i = 0 := if_neg (fun h => by have := h.1; omega)
      rw [decide_eq_true h1, if_pos rfl, wrap_succ (by omega), ← rowM_skip hil hg]
      exact ih'
    · rw [decide_eq_false h1, if_neg (by decide), swins_spec z ws need s (by omega) (by omega) hw (by omega), Option.bind_some]
      by_cases h2 : bw ws s ≥ need
      · have hg : gainM ws need cOne s i = 0 := if_neg (fun h => by have := h.2.1; omega)
        rw [decide_eq_true h2, if_pos rfl, wrap_succ (by omega), ← rowM_skip hil hg]
        exact ih'
      · obtain ⟨a1, a2⟩ := bw_add hs hil (show s / 2 ^ i % 2 = 0 by omega)
        have hp : 2 ^ i ≤ 256 := pow_small (by omega)
        have hww : ∀ q : Nat, q ≤ 256 → wrap64 ((s : Int) + (q : Int)) = ((s + q : Nat) : Int) := fun q hq => by rw [wrap_id (by omega) (by omega)]; omega
        have hsm : s + 2 ^ i < 1000000 := Nat.lt_of_lt_of_le a1 (Nat.le_trans h256 (by decide))
        rw [decide_eq_false h2, if_neg (by decide), power_spec z i (by omega) (by omega), Option.bind_some, hww _ hp, swins_spec z ws need _ hsm (by omega) hw (by omega), Option.bind_some, a2]
        by_cases h3 : bw ws s + rd ws (i : Int) ≥ need
        · have hg : gainM ws need cOne s i = 1 := if_pos ⟨by omega, by omega, h3⟩
          have hab := accM_bound (need := need) hc i s
          have hstep : accM ws need cOne s i + 1 = accM ws need cOne (s + 1) i := by rw [accM_step, hg]
          rw [decide_eq_true h3, if_pos rfl, if_pos (by omega), if_pos (by rw [rowM_length]; omega), rowM_rd hil, wrap_id (by omega) (by omega), hstep, toNat_cast, rowM_set hil, wrap_succ (by omega)]
          exact ih'
        · have hg : gainM ws need cOne s i = 0 := if_neg (fun h => h3 h.2.2)
          rw [decide_eq_false h3, if_neg (by decide), wrap_succ (by omega), ← rowM_skip hil hg]
          exact ih'
theorem ssw_l0 (ws : List Int) (need : Int) (hn : ws.length ≤ 8) (hw : ∀ w ∈ ws, 0 ≤ w ∧ w ≤ 100) (hneed : need ≤ 1000000) : ∀ (d k s : Nat), s + d = 2 ^ ws.length → 20 * d + 100 < k →
    spec_swings.l0 k (rowM ws need cOne s 0) (s : Int) ws need = some (decM ws need cOne) := by
  have h256 := pow_small hn
  intro d
  induction d with
  | zero =>
    intro k s hs hk
    obtain ⟨k, rfl, hk⟩ := fuel (show 99 < k by omega)
    simp only [spec_swings.l0]
    rw [power_spec k _ (by omega) (by omega), Option.bind_some, if_neg (by omega)]
    obtain rfl : s = 2 ^ ws.length := by omega
    rw [rowM_end]
  | succ d ih =>
    intro k s hs hk
    obtain ⟨k, rfl, hk⟩ := fuel (show 20 * d + 119 < k by omega)
    simp only [spec_swings.l0]
    rw [power_spec k _ (by omega) (by omega), Option.bind_some, if_pos (by omega)]
    obtain ⟨q, hq⟩ : ∃ q, k = q + ws.length + 1 := ⟨k - ws.length - 1, by omega⟩
    have e := ssw_l1 ws need hn hw s (by omega) hneed ws.length q 0 (by omega) (by omega)
    rw [← hq] at e
    refine e.trans ?_
    exact ih q (s + 1) (by omega) (by omega)
theorem ssw_spec (k : Nat) (ws : List Int) (need : Int) (hn : ws.length ≤ 8) (hw : ∀ w ∈ ws, 0 ≤ w ∧ w ≤ 100) (hneed : need ≤ 1000000) (hk : 6000 < k) : spec_swings.f k ws need = some (decM ws need cOne) := by
  have h256 := pow_small hn
  unfold spec_swings.f
  rw [if_pos (by omega), if_pos (by omega), toNat_cast, ← rowM_start ws need cOne]
  exact ssw_l0 ws need hn hw hneed (2 ^ ws.length) k 0 (by omega) (by omega)

/-! ### idecS -/
theorem idecS_l1 (ws : List Int) (need : Int) (c : Nat → Int) (hn : ws.length ≤ 8) (hw : ∀ w ∈ ws, 0 ≤ w ∧ w ≤ 100) (hc : ∀ k : Nat, k ≤ ws.length → 0 ≤ c k ∧ c k ≤ 1700000000) (hcnt : ∀ k p : Nat, 40 < k → p ≤ ws.length → impl_SwingsOf_1.f (p : Int) = some (c p)) (s : Nat) (hs : s < 2 ^ ws.length) (hlt : bw ws s < need) (hneed : need ≤ 1000000) (N : Int) : ∀ (d k i : Nat), i + d = ws.length → 60 < k →
    impl_decisions.l1 (k + d + 1) (rowM ws need c s i) (s : Int) (bw ws s) (((mb ws.length 0 s).length : Nat) : Int) N (s : Int) ws (ws.length : Int) (i : Int) ws need = impl_decisions.l0 k (rowM ws need c (s + 1) 0) N ((s + 1 : Nat) : Int) ws need := by
  have h256 := pow_small hn
  have hbw := bw_bound ws s 100 (by omega) hw
  intro d
  induction d with
  | zero =>
    intro k i hi hk
    obtain rfl : i = ws.length := by omega
    simp only [impl_decisions.l1]
    rw [if_neg (by omega), rowM_all, wrap_succ (by omega)]
  | succ d ih =>
    intro k i hi hk
    have hil : i < ws.length := by omega
    have hwi := hw _ (rd_mem hil)
    have e : k + (d + 1) + 1 = (k + d + 1) + 1 := by omega
    rw [e]
    have ih' := ih k (i + 1) (by omega) hk
    generalize hz : k + d + 1 = z at *
    simp only [impl_decisions.l1]
    have hbit : Go.bits .and .i64 (shr .i64 (s : Int) (i : Int)) 1 = ((s / 2 ^ i % 2 : Nat) : Int) := by
      rw [shr_nat s i (by omega), and_one _ (by have := Nat.div_le_self s (2 ^ i); omega)]
    have hwrap : wrap64 (bw ws s + rd ws (i : Int)) = bw ws s + rd ws (i : Int) := wrap_id (by omega) (by omega)
    rw [if_pos (by omega), if_pos (by omega), if_pos (by omega), hbit, hwrap]
    by_cases h1 : s / 2 ^ i % 2 = 0
    · rw [if_pos (by omega)]
      by_cases h2 : bw ws s + rd ws (i : Int) ≥ need
      · have hg : gainM ws need c s i = c (mb ws.length 0 s).length := if_pos ⟨h1, hlt, h2⟩
        have hcb := hc _ (mb_length ws.length 0 s)
        have hab := accM_bound (need := need) hc i s
        rw [if_pos h2, if_pos (by rw [rowM_length]; omega), hcnt z _ (by omega) (mb_length ws.length 0 s), Option.bind_some, rowM_rd hil, wrap_id (by omega) (by omega), ← hg, ← accM_step, toNat_cast, rowM_set hil, wrap_succ (by omega)]
        exact ih'
      · have hg : gainM ws need c s i = 0 := if_neg (fun h => h2 h.2.2)
        rw [if_neg h2, wrap_succ (by omega), ← rowM_skip hil hg]
        exact ih'
    · have hg : gainM ws need c s i = 0 := if_neg (fun h => h1 h.1)
      rw [if_neg (by omega), wrap_succ (by omega), ← rowM_skip hil hg]
      exact ih'
theorem idecS_l0 (ws : List Int) (need : Int) (c : Nat → Int) (hn : ws.length ≤ 8) (hw : ∀ w ∈ ws, 0 ≤ w ∧ w ≤ 100) (hc : ∀ k : Nat, k ≤ ws.length → 0 ≤ c k ∧ c k ≤ 1700000000) (hcnt : ∀ k p : Nat, 40 < k → p ≤ ws.length → impl_SwingsOf_1.f (p : Int) = some (c p)) (hneed : need ≤ 1000000) : ∀ (d k s : Nat), s + d = 2 ^ ws.length → 20 * d + 100 < k →
    impl_decisions.l0 k (rowM ws need c s 0) ((2 ^ ws.length : Nat) : Int) (s : Int) ws need = some (decM ws need c) := by
  have h256 := pow_small hn
  intro d
  induction d with
  | zero =>
    intro k s hs hk
    obtain ⟨k, rfl, -⟩ := fuel (show 0 < k by omega)
    simp only [impl_decisions.l0]
    rw [if_neg (by omega)]
    obtain rfl : s = 2 ^ ws.length := by omega
    rw [rowM_end]
  | succ d ih =>
    intro k s hs hk
    obtain ⟨k, rfl, hk⟩ := fuel (show 20 * d + 119 < k by omega)
    simp only [impl_decisions.l0]
    rw [if_pos (by omega), votesOf_spec k ws need s (by omega) (by omega) hw (by omega), Option.bind_some]
    by_cases h : bw ws s ≥ need
    · rw [if_pos h, wrap_succ (by omega), rowM_none (by omega)]
      exact ih k (s + 1) (by omega) (by omega)
    · rw [if_neg h, membersIn_spec k ws.length s (by omega) (by omega) (by omega), Option.bind_some]
      obtain ⟨q, hq⟩ : ∃ q, k = q + ws.length + 1 := ⟨k - ws.length - 1, by omega⟩
      have e := idecS_l1 ws need c hn hw hc hcnt s (by omega) (by omega) hneed ((2 ^ ws.length : Nat) : Int) ws.length q 0 (by omega) (by omega)
      rw [← hq] at e
      refine e.trans ?_
      exact ih q (s + 1) (by omega) (by omega)
theorem idecS_spec (k : Nat) (ws : List Int) (need : Int) (c : Nat → Int) (hn : ws.length ≤ 8) (hw : ∀ w ∈ ws, 0 ≤ w ∧ w ≤ 100) (hc : ∀ k : Nat, k ≤ ws.length → 0 ≤ c k ∧ c k ≤ 1700000000) (hcnt : ∀ k p : Nat, 40 < k → p ≤ ws.length → impl_SwingsOf_1.f (p : Int) = some (c p)) (hneed : need ≤ 1000000) (hk : 6000 < k) : impl_decisions.f k ws need 0 = some (decM ws need c) := by
  have h256 := pow_small hn
  unfold impl_decisions.f
  rw [if_pos (by omega), if_pos (by omega), shl_one _ (by omega), toNat_cast, ← rowM_start ws need c]
  exact idecS_l0 ws need c hn hw hc hcnt hneed (2 ^ ws.length) k 0 (by omega) (by omega)

/-! ### idecP -/
theorem idecP_l1 (ws : List Int) (need : Int) (c : Nat → Int) (m : Int) (hn : ws.length ≤ 8) (hw : ∀ w ∈ ws, 0 ≤ w ∧ w ≤ 100) (hc : ∀ k : Nat, k ≤ ws.length → 0 ≤ c k ∧ c k ≤ 1700000000) (hcnt : ∀ k p : Nat, 40 < k → p ≤ ws.length → impl_PivotsOf_1.f k (p : Int) m = some (c p)) (s : Nat) (hs : s < 2 ^ ws.length) (hlt : bw ws s < need) (hneed : need ≤ 1000000) (N : Int) : ∀ (d k i : Nat), i + d = ws.length → 60 < k →
    impl_decisionsP.l1 (k + d + 1) m (rowM ws need c s i) (s : Int) (bw ws s) (((mb ws.length 0 s).length : Nat) : Int) N (s : Int) ws (ws.length : Int) (i : Int) ws need = impl_decisionsP.l0 k m (rowM ws need c (s + 1) 0) N ((s + 1 : Nat) : Int) ws need := by
  have h256 := pow_small hn
  have hbw := bw_bound ws s 100 (by omega) hw
  intro d
  induction d with
  | zero =>
    intro k i hi hk
    obtain rfl : i = ws.length := by omega
    simp only [impl_decisionsP.l1]
    rw [if_neg (by omega), rowM_all, wrap_succ (by omega)]
  | succ d ih =>
    intro k i hi hk
    have hil : i < ws.length := by omega
    have hwi := hw _ (rd_mem hil)
    have e : k + (d + 1) + 1 = (k + d + 1) + 1 := by omega
    rw [e]
    have ih' := ih k (i + 1) (by omega) hk
    generalize hz : k + d + 1 = z at *
    simp only [impl_decisionsP.l1]
    have hbit : Go.bits .and .i64 (shr .i64 (s : Int) (i : Int)) 1 = ((s / 2 ^ i % 2 : Nat) : Int) := by
      rw [shr_nat s i (by omega), and_one _ (by have := Nat.div_le_self s (2 ^ i); omega)]
    have hwrap : wrap64 (bw ws s + rd ws (i : Int)) = bw ws s + rd ws (i : Int) := wrap_id (by omega) (by omega)
    rw [if_pos (by omega), if_pos (by omega), if_pos (by omega), hbit, hwrap]
    by_cases h1 : s / 2 ^ i % 2 = 0
    · rw [if_pos (by omega)]
      by_cases h2 : bw ws s + rd ws (i : Int) ≥ need
      · have hg : gainM ws need c s i = c (mb ws.length 0 s).length := if_pos ⟨h1, hlt, h2⟩
        have hcb := hc _ (mb_length ws.length 0 s)
        have hab := accM_bound (need := need) hc i s
        rw [if_pos h2, if_pos (by rw [rowM_length]; omega), hcnt z _ (by omega) (mb_length ws.length 0 s), Option.bind_some, rowM_rd hil, wrap_id (by omega) (by omega), ← hg, ← accM_step, toNat_cast, rowM_set hil, wrap_succ (by omega)]
        exact ih'
      · have hg : gainM ws need c s i = 0 := if_neg (fun h => h2 h.2.2)
        rw [if_neg h2, wrap_succ (by omega), ← rowM_skip hil hg]
        exact ih'
    · have hg : gainM ws need c s i = 0 := if_neg (fun h => h1 h.1)
      rw [if_neg (by omega), wrap_succ (by omega), ← rowM_skip hil hg]
      exact ih'
theorem idecP_l0 (ws : List Int) (need : Int) (c : Nat → Int) (m : Int) (hn : ws.length ≤ 8) (hw : ∀ w ∈ ws, 0 ≤ w ∧ w ≤ 100) (hc : ∀ k : Nat, k ≤ ws.length → 0 ≤ c k ∧ c k ≤ 1700000000) (hcnt : ∀ k p : Nat, 40 < k → p ≤ ws.length → impl_PivotsOf_1.f k (p : Int) m = some (c p)) (hneed : need ≤ 1000000) : ∀ (d k s : Nat), s + d = 2 ^ ws.length → 20 * d + 100 < k →
    impl_decisionsP.l0 k m (rowM ws need c s 0) ((2 ^ ws.length : Nat) : Int) (s : Int) ws need = some (decM ws need c) := by
  have h256 := pow_small hn
  intro d
  induction d with
  | zero =>
    intro k s hs hk
    obtain ⟨k, rfl, -⟩ := fuel (show 0 < k by omega)
    simp only [impl_decisionsP.l0]
    rw [if_neg (by omega)]
    obtain rfl : s = 2 ^ ws.length := by omega
    rw [rowM_end]
  | succ d ih =>
    intro k s hs hk
    obtain ⟨k, rfl, hk⟩ := fuel (show 20 * d + 119 < k by omega)
    simp only [impl_decisionsP.l0]
    rw [if_pos (by omega), votesOf_spec k ws need s (by omega) (by omega) hw (by omega), Option.bind_some]
    by_cases h : bw ws s ≥ need
    · rw [if_pos h, wrap_succ (by omega), rowM_none (by omega)]
      exact ih k (s + 1) (by omega) (by omega)
    · rw [if_neg h, membersIn_spec k ws.length s (by omega) (by omega) (by omega), Option.bind_some]
      obtain ⟨q, hq⟩ : ∃ q, k = q + ws.length + 1 := ⟨k - ws.length - 1, by omega⟩
      have e := idecP_l1 ws need c m hn hw hc hcnt s (by omega) (by omega) hneed ((2 ^ ws.length : Nat) : Int) ws.length q 0 (by omega) (by omega)
      rw [← hq] at e
      refine e.trans ?_
      exact ih q (s + 1) (by omega) (by omega)
theorem idecP_spec (k : Nat) (ws : List Int) (need : Int) (c : Nat → Int) (m : Int) (hn : ws.length ≤ 8) (hw : ∀ w ∈ ws, 0 ≤ w ∧ w ≤ 100) (hc : ∀ k : Nat, k ≤ ws.length → 0 ≤ c k ∧ c k ≤ 1700000000) (hcnt : ∀ k p : Nat, 40 < k → p ≤ ws.length → impl_PivotsOf_1.f k (p : Int) m = some (c p)) (hneed : need ≤ 1000000) (hk : 6000 < k) : impl_decisionsP.f k ws need m = some (decM ws need c) := by
  have h256 := pow_small hn
  unfold impl_decisionsP.f
  rw [if_pos (by omega), if_pos (by omega), shl_one _ (by omega), toNat_cast, ← rowM_start ws need c]
  exact idecP_l0 ws need c m hn hw hc hcnt hneed (2 ^ ws.length) k 0 (by omega) (by omega)

/-! ### ifact -/
theorem implFact_l0 (n : Nat) (hn : n ≤ 12) : ∀ (d k i : Nat), i + d = n → d < k → impl_factorial.l0 k (n : Int) (factM i) ((i + 1 : Nat) : Int) = some (factM n) := by
  intro d
  induction d with
  | zero =>
    intro k i hi hk
    obtain ⟨k, rfl, -⟩ := fuel hk
    simp only [impl_factorial.l0]
    obtain rfl : i = n := by omega
    rw [if_neg (by omega)]
  | succ d ih =>
    intro k i hi hk
    obtain ⟨k, rfl, hk⟩ := fuel hk
    simp only [impl_factorial.l0]
    have h1 := factM_pos (i + 1)
    have h2 := factM_small (show i + 1 ≤ 12 by omega)
    rw [if_pos (by omega), ← factM_step, wrap_id (by omega) (by omega), wrap_succ (by omega)]
    exact ih k (i + 1) (by omega) (by omega)
theorem implFact_spec (k : Nat) (n : Nat) (hn : n ≤ 12) (hk : 20 < k) : impl_factorial.f k (n : Int) = some (factM n) := by
  unfold impl_factorial.f
  rcases Nat.eq_zero_or_pos n with h | h
  · subst h
    obtain ⟨k, rfl, -⟩ := fuel hk
    simp only [impl_factorial.l0]
    rw [if_neg (by omega)]; rfl
  · have := implFact_l0 n hn (n - 1) k 1 (by omega) (by omega)
    exact this

/-! ### sfact -/
/-! ### reader -/
/-- A pick: a number below the bound (0 where there is none), one place on. -/
theorem pick_spec (k : Nat) (hk : 1 ≤ k) (b : List Int) (hb : ∀ x ∈ b, 0 ≤ x ∧ x ≤ 255) (hl : b.length ≤ 2000) (p : Int) (hp0 : 0 ≤ p) (hp : p ≤ 1000000) (n : Int) (hn : n ≤ 1000000000000) :
    ∃ v, spec_reader_pick.f k b p n = some (v, p + 1) ∧ 0 ≤ v ∧ (0 < n → v < n) ∧ (n ≤ 0 → v = 0) := by
  obtain ⟨k, rfl, -⟩ := fuel hk
  have hw : wrap64 (p + 1) = p + 1 := wrap_succ' hp0 (by omega)
  have hw2 : wrap64 (p + 1 - 1) = p := by rw [wrap_id (by omega) (by omega)]; omega
  unfold spec_reader_pick.f
  rw [hw]
  by_cases h1 : n < 1
  · rw [if_pos h1]
    exact ⟨0, by simp [spec_reader_pick.j0], by omega, by omega, fun _ => rfl⟩
  · rw [if_neg h1]
    by_cases h2 : b.length = 0
    · have e : ((b.length : Int) == 0) = true := by simp [h2]
      rw [e]
      exact ⟨0, by simp [spec_reader_pick.j0], by omega, fun _ => by omega, fun _ => rfl⟩
    · have e : ((b.length : Int) == 0) = false := by rw [beq_eq_false_iff_ne]; omega
      rw [e]
      simp only [spec_reader_pick.j0]
      rw [if_neg (by decide), hw2]
      have rdb : ∀ i : Int, 0 ≤ i → i < (b.length : Int) → 0 ≤ rd b i ∧ rd b i ≤ 255 := fun i h0 h => hb _ (rd_mem' h0 h)
      by_cases h3 : p < (b.length : Int)
      · rw [if_pos h3, if_pos hp0, if_neg (by omega)]
        have hr := rdb p hp0 h3
        rw [wrap_id (x := rd b p) (by omega) (by omega), Int.tmod_eq_emod_of_nonneg hr.1]
        exact ⟨_, rfl, Int.emod_nonneg _ (by omega), fun _ => Int.emod_lt_of_pos _ (by omega), fun h => by omega⟩
      · have hL : (0 : Int) < (b.length : Int) := by omega
        have m1 := Int.emod_nonneg p (b := (b.length : Int)) (by omega)
        have m2 := Int.emod_lt_of_pos p hL
        have w7 : wrap64 (wrap64 (p * 7) + 3) = p * 7 + 3 := by rw [wrap_add_l, wrap_id (by omega) (by omega)]
        have m3 := Int.emod_nonneg (p * 7 + 3) (b := (b.length : Int)) (by omega)
        have m4 := Int.emod_lt_of_pos (p * 7 + 3) hL
        rw [if_neg h3, if_neg (by omega)]
        rw [w7]
        rw [Int.tmod_eq_emod_of_nonneg hp0, Int.tmod_eq_emod_of_nonneg (by omega : (0 : Int) ≤ p * 7 + 3)]
        rw [if_pos m1, if_pos m2, if_pos m3, if_pos m4, if_neg (by omega)]
        have r1 := rdb _ m1 m2
        have r2 := rdb _ m3 m4
        have hq : 0 ≤ Int.tdiv p (b.length : Int) ∧ Int.tdiv p (b.length : Int) ≤ p := by
          rw [Int.tdiv_eq_ediv_of_nonneg hp0]
          exact ⟨Int.ediv_nonneg hp0 (by omega), Int.ediv_le_self _ hp0⟩
        generalize rd b (p % (b.length : Int)) = x at *
        generalize rd b ((p * 7 + 3) % (b.length : Int)) = y at *
        generalize Int.tdiv p (b.length : Int) = q at *
        have hx : wrap64 x = x := wrap_id (by omega) (by omega)
        have hy : wrap64 y = y := wrap_id (by omega) (by omega)
        have hqq : wrap64 q = q := wrap_id (by omega) (by omega)
        rw [hx, hy, hqq]
        have e1 : wrap64 (x * 131) = x * 131 := wrap_id (by omega) (by omega)
        have e2 : wrap64 (y * 1117) = y * 1117 := wrap_id (by omega) (by omega)
        have e3 : wrap64 (p * 29) = p * 29 := wrap_id (by omega) (by omega)
        have e4 : wrap64 (q * 53) = q * 53 := wrap_id (by omega) (by omega)
        rw [e1, e2, e3, e4]
        have e5 : wrap64 (x * 131 + y * 1117) = x * 131 + y * 1117 := wrap_id (by omega) (by omega)
        rw [e5]
        have e6 : wrap64 (x * 131 + y * 1117 + p * 29) = x * 131 + y * 1117 + p * 29 := wrap_id (by omega) (by omega)
        rw [e6]
        have e7 : wrap64 (x * 131 + y * 1117 + p * 29 + q * 53) = x * 131 + y * 1117 + p * 29 + q * 53 := wrap_id (by omega) (by omega)
        rw [e7]
        have hz : 0 ≤ x * 131 + y * 1117 + p * 29 + q * 53 ∧ x * 131 + y * 1117 + p * 29 + q * 53 ≤ 1000000000 := by omega
        generalize x * 131 + y * 1117 + p * 29 + q * 53 = z at *
        have hz64 : 0 ≤ Int.tdiv z 64 ∧ Int.tdiv z 64 ≤ z := by
          rw [Int.tdiv_eq_ediv_of_nonneg hz.1]; omega
        rw [wrap_id (x := Int.tdiv z 64) (by omega) (by omega)]
        have hxor := bits_xor (a := z) (b := Int.tdiv z 64) hz.1 (by omega) hz64.1 (by omega)
        rw [Int.tmod_eq_emod_of_nonneg hxor.1]
        exact ⟨_, rfl, Int.emod_nonneg _ (by omega), fun _ => Int.emod_lt_of_pos _ (by omega), fun h => by omega⟩
/-- One of some numbers. -/
theorem one_spec (k : Nat) (hk : 1 ≤ k) (b : List Int) (hb : ∀ x ∈ b, 0 ≤ x ∧ x ≤ 255) (hl : b.length ≤ 2000) (p : Int) (hp0 : 0 ≤ p) (hp : p ≤ 1000000) (l : List Int) (hn0 : l ≠ []) (hn : l.length ≤ 1000000) :
    ∃ v, spec_reader_one.f k b p l = some (v, p + 1) ∧ v ∈ l := by
  have h0 : 0 < l.length := List.length_pos_iff.2 hn0
  obtain ⟨v, hv, h1, h2, -⟩ := pick_spec k hk b hb hl p hp0 hp (l.length : Int) (by omega)
  unfold spec_reader_one.f
  rw [hv]
  simp only [Option.bind_some]
  rw [if_pos h1, if_pos (h2 (by omega))]
  exact ⟨_, rfl, rd_mem' h1 (h2 (by omega))⟩
theorem reader_bytes {l : List Int} (h : ∀ x ∈ l, (Lit.int .u8 x).wf = true) : ∀ x ∈ l, 0 ≤ x ∧ x ≤ 255 := by
  intro x hx
  have := h x hx
  simp [Lit.wf, IntKind.min, IntKind.max, IntKind.bits, IntKind.signed] at this
  omega
/-- A reader of some code: its bytes. -/
theorem newReader_spec (l : List Int) (h : ∀ x ∈ l, 0 ≤ x ∧ x ≤ 255) : ∃ b : List Int, spec_newReader.f l = some (b, 0) ∧ (∀ x ∈ b, 0 ≤ x ∧ x ≤ 255) ∧ b.length ≤ 2000 := by
  unfold spec_newReader.f
  by_cases h1 : (l.length : Int) > 2000
  · rw [if_pos h1, if_pos (by omega)]
    exact ⟨_, rfl, fun x hx => h x (List.mem_of_mem_take hx), by simp; omega⟩
  · rw [if_neg h1]
    exact ⟨_, rfl, h, by omega⟩

/-! ### drawbody -/
theorem someBody_l0 (b : List Int) (hb : ∀ x ∈ b, 0 ≤ x ∧ x ≤ 255) (hl : b.length ≤ 2000) : ∀ (d k : Nat) (ws : List Int) (p need : Int), 1 ≤ ws.length + d → ws.length + d ≤ 8 → (∀ w ∈ ws, 0 ≤ w ∧ w ≤ 100) → 0 ≤ p → p + 2 * d ≤ 900 → d + 40 < k →
    ∃ out a q, spec_someBody.l0 k (d : Int) b p ws need = some (out, a, q) ∧ 1 ≤ out.length ∧ out.length ≤ 8 ∧ (∀ w ∈ out, 0 ≤ w ∧ w ≤ 100) ∧ p ≤ q ∧ q ≤ p + 2 * d + 2 := by
  intro d
  induction d with
  | zero =>
    intro k ws p need h1 h2 hw h3 h4 hk
    obtain ⟨k, rfl, hk⟩ := fuel hk
    have hs := sum_bound ws 0 100 hw
    simp only [spec_someBody.l0]
    obtain ⟨v, hv, -⟩ := pick_spec k (by omega) b hb hl p h3 (by omega) (ws.sum + 1) (by omega)
    rw [if_neg (by omega), stotal_spec _ _ (by omega) (by omega), Option.bind_some, wrap_id (x := ws.sum) (by omega) (by omega), wrap_id (x := ws.sum + 1) (by omega) (by omega), hv, Option.bind_some]
    obtain ⟨u, hu, -⟩ := one_spec k (by omega) b hb hl (p + 1) (by omega) (by omega) [wrap64 ((wrap64 (Int.tdiv ws.sum 2)) + 1), wrap64 ((wrap64 (Int.tdiv (wrap64 (2 * ws.sum)) 3)) + 1), ws.sum, 1, wrap64 (1 + v)] (by simp) (by simp)
    simp only
    rw [hu, Option.bind_some]
    exact ⟨ws, u, p + 1 + 1, rfl, by omega, by omega, hw, by omega, by omega⟩
  | succ d ih =>
    intro k ws p need h1 h2 hw h3 h4 hk
    obtain ⟨k, rfl, hk⟩ := fuel hk
    simp only [spec_someBody.l0]
    obtain ⟨v, hv, v0, v1, -⟩ := pick_spec k (by omega) b hb hl p h3 (by omega) 10 (by omega)
    have v2 := v1 (by omega)
    obtain ⟨u, hu, hm⟩ := one_spec k (by omega) b hb hl (p + 1) (by omega) (by omega) [1, 2, 3, 5, 0, wrap64 (1 + v), 100] (by simp) (by simp)
    have hu2 : 0 ≤ u ∧ u ≤ 100 := by
      rw [wrap_id (x := 1 + v) (by omega) (by omega)] at hm
      simp at hm; omega
    rw [if_pos (by omega), hv, Option.bind_some]
    simp only
    rw [hu, Option.bind_some, if_pos (by omega), wrap_id (by omega) (by omega)]
    have e : ((d + 1 : Nat) : Int) - 1 = (d : Int) := by omega
    rw [e]
    obtain ⟨out, a, q, o1, o2, o3, o4, o5, o6⟩ := ih k (ws ++ [u]) (p + 1 + 1) need (by simp; omega) (by simp; omega) (fun w hw2 => by
      rcases List.mem_append.1 hw2 with h | h
      · exact hw w h
      · simp at h; rw [h]; exact hu2) (by omega) (by omega) (by omega)
    exact ⟨out, a, q, o1, o2, o3, o4, by omega, by omega⟩
theorem anyBody_l0 (b : List Int) (need p : Int) : ∀ (d k : Nat) (ws : List Int), ws.length + d = 9 → d < k → ∃ out, spec_anyBody.l0 k b p ws need = some (out, need, p) ∧ out.length = 9 := by
  intro d
  induction d with
  | zero =>
    intro k ws h hk
    obtain ⟨k, rfl, -⟩ := fuel hk
    simp only [spec_anyBody.l0]
    rw [if_neg (by omega)]
    exact ⟨ws, rfl, by omega⟩
  | succ d ih =>
    intro k ws h hk
    obtain ⟨k, rfl, hk⟩ := fuel hk
    simp only [spec_anyBody.l0]
    rw [if_pos (by omega), if_pos (by omega)]
    exact ih k (ws ++ [1]) (by simp; omega) (by omega)
theorem anyBody_spec (b : List Int) (hb : ∀ x ∈ b, 0 ≤ x ∧ x ≤ 255) (hl : b.length ≤ 2000) (k : Nat) (hk : 100 < k) (p : Int) (h0 : 0 ≤ p) (h1 : p ≤ 500) :
    ∃ ws need q, spec_anyBody.f k b p = some (ws, need, q) ∧ ws.length ≤ 12 ∧ p ≤ q ∧ q ≤ p + 100 := by
  unfold spec_anyBody.f spec_someBody.f
  obtain ⟨z, hz, hm⟩ := one_spec k (by omega) b hb hl p h0 (by omega) [4, 3, 5, 2, 1, 6, 8] (by simp) (by simp)
  have hz2 : 1 ≤ z ∧ z ≤ 8 := by simp at hm; omega
  obtain ⟨z, rfl⟩ := Int.eq_ofNat_of_zero_le (show 0 ≤ z by omega)
  obtain ⟨ws, need, q, o1, o2, o3, o4, o5, o6⟩ := someBody_l0 b hb hl z k [] (p + 1) 0 (by simp; omega) (by simp; omega) (by simp) (by omega) (by omega) (by omega)
  rw [hz, Option.bind_some]
  simp only
  rw [o1, Option.bind_some]
  simp only
  obtain ⟨v, hv, -⟩ := pick_spec k (by omega) b hb hl q (by omega) (by omega) 20 (by omega)
  rw [hv, Option.bind_some]
  simp only
  by_cases h2 : v = 0
  · obtain ⟨u, hu, -⟩ := one_spec k (by omega) b hb hl (q + 1) (by omega) (by omega) [0, wrap64 (wrap64 ws.sum + 1)] (by simp) (by simp)
    rw [if_pos h2, stotal_spec _ _ (by omega) (by omega), Option.bind_some, hu, Option.bind_some]
    exact ⟨_, _, _, rfl, by omega, by omega, by omega⟩
  · rw [if_neg h2]
    by_cases h3 : v = 1
    · obtain ⟨u, hu, -⟩ := one_spec k (by omega) b hb hl (q + 1) (by omega) (by omega) [(-1), 101] (by simp) (by simp)
      rw [if_pos h3, hu, Option.bind_some, if_pos (by omega)]
      exact ⟨_, _, _, rfl, by simp; omega, by omega, by omega⟩
    · rw [if_neg h3]
      by_cases h4 : v = 2
      · obtain ⟨out, p1, p2⟩ := anyBody_l0 b need (q + 1) (9 - ws.length) k ws (by omega) (by omega)
        rw [if_pos h4, p1]
        exact ⟨_, _, _, rfl, by omega, by omega, by omega⟩
      · rw [if_neg h4]
        exact ⟨_, _, _, rfl, by omega, by omega, by omega⟩

/-! ### common -/
theorem equalInts_l0 (a b : List Int) (hl : a.length = b.length) (hb : a.length < 4611686018427387904) : ∀ (d k i : Nat), i + d = a.length → d < k → laws_equalInts.l0 k a b (i : Int) = some (decide (a.drop i = b.drop i)) := by
  intro d
  induction d with
  | zero =>
    intro k i hi hk
    obtain ⟨k, rfl, -⟩ := fuel hk
    simp only [laws_equalInts.l0]
    rw [if_neg (by omega), drop_end (by omega), drop_end (by omega)]
    simp
  | succ d ih =>
    intro k i hi hk
    obtain ⟨k, rfl, hk⟩ := fuel hk
    simp only [laws_equalInts.l0]
    rw [if_pos (by omega), if_pos (by omega), if_pos (by omega), wrap_succ (by omega), drop_rd (xs := a) (i := i) (by omega), drop_rd (xs := b) (i := i) (by omega)]
    by_cases e : rd a (i : Int) = rd b (i : Int)
    · rw [if_pos e, ih k (i + 1) (by omega) (by omega), e]; simp
    · rw [if_neg e]; simp [e]
theorem equalInts_spec (k : Nat) (a b : List Int) (hb : a.length < 4611686018427387904) (hk : a.length < k) : laws_equalInts.f k a b = some (decide (a = b)) := by
  unfold laws_equalInts.f
  by_cases h : a.length = b.length
  · rw [if_pos (by omega)]
    have := equalInts_l0 a b h hb a.length k 0 (by omega) hk
    simpa using this
  · rw [if_neg (by omega)]
    have : a ≠ b := fun e => h (by rw [e])
    simp [this]

/-! ### isin -/
theorem isIn_l0 (xs : List Int) (x : Int) (hb : xs.length < 4611686018427387904) : ∀ (d k i : Nat), i + d = xs.length → d < k → laws_isIn.l0 k xs x (i : Int) = some (decide (x ∈ xs.drop i)) := by
  intro d
  induction d with
  | zero =>
    intro k i hi hk
    obtain ⟨k, rfl, -⟩ := fuel hk
    simp only [laws_isIn.l0]
    rw [if_neg (by omega), drop_end (by omega)]
    simp
  | succ d ih =>
    intro k i hi hk
    obtain ⟨k, rfl, hk⟩ := fuel hk
    simp only [laws_isIn.l0]
    rw [if_pos (by omega), if_pos (by omega), drop_rd (by omega), wrap_succ (by omega), ih k (i + 1) (by omega) (by omega)]
    by_cases e : rd xs (i : Int) = x
    · rw [if_pos e, e]; simp
    · rw [if_neg e]
      have e' : ¬ x = rd xs (i : Int) := fun h => e h.symm
      simp [e']
theorem isIn_spec (k : Nat) (xs : List Int) (x : Int) (hb : xs.length < 4611686018427387904) (hk : xs.length < k) : laws_isIn.f k xs x = some (decide (x ∈ xs)) := by
  unfold laws_isIn.f
  have := isIn_l0 xs x hb xs.length k 0 (by omega) hk
  simpa using this

/-! ### the law -/
theorem implFact_any (k : Nat) (m : Int) (hm : m ≤ 12) (hk : 20 < k) : impl_factorial.f k m = some (factM m.toNat) := by
  rcases Int.lt_or_le m 0 with h | h
  · obtain ⟨k, rfl, -⟩ := fuel hk
    unfold impl_factorial.f
    simp only [impl_factorial.l0]
    rw [if_neg (by omega), show m.toNat = 0 by omega]; rfl
  · obtain ⟨n, rfl⟩ := Int.eq_ofNat_of_zero_le h
    rw [toNat_cast]
    exact implFact_spec k n (by omega) hk
theorem implSmall_spec (k : Nat) (ws : List Int) (need : Int) (hk : 20 < k) : impl_smallBody.f k ws need = some (decide (OkBody ws need ∧ ws.length ≤ 8)) := by
  unfold impl_smallBody.f
  by_cases h : (ws.length : Int) ≤ 8
  · rw [if_pos h, implBody_spec k ws need hk, Option.bind_some]
    congr 1
    rw [Bool.eq_iff_iff]
    simp
    omega
  · rw [if_neg h, decide_eq_false (fun h' => by have := h'.2; omega)]
theorem specSmall_spec (k : Nat) (ws : List Int) (need : Int) (hk : 20 < k) : spec_validSmall.f k ws need = some (decide (OkBody ws need ∧ ws.length ≤ 8)) := by
  unfold spec_validSmall.f
  rw [specBody_spec k ws need hk, Option.bind_some]
  by_cases h : OkBody ws need
  · rw [decide_eq_true h, if_pos rfl]
    congr 1
    rw [Bool.eq_iff_iff]
    simp [h]
    omega
  · rw [decide_eq_false h, if_neg (by decide)]
    simp [h]
theorem body_need {ws : List Int} {need : Int} (h : OkBody ws need) : need ≤ 1000000 := by
  have h1 := weights_sum h.2.2.1 h.2.1
  have h2 := h.2.2.2.2
  omega
theorem cOne_bound (n : Nat) : ∀ k : Nat, k ≤ n → 0 ≤ cOne k ∧ cOne k ≤ 1700000000 := fun k hk => by unfold cOne; omega
/-- Which numbers of a list are 0. -/
def zFrom : List Int → Nat → List Int
  | [], _ => []
  | x :: xs, i => if x = 0 then (i : Int) :: zFrom xs (i + 1) else zFrom xs (i + 1)
theorem zFrom_mem : ∀ (xs : List Int) (i : Nat) (j : Int), j ∈ zFrom xs i ↔ ∃ q : Nat, q < xs.length ∧ j = ((i + q : Nat) : Int) ∧ rd xs (q : Int) = 0 := by
  intro xs
  induction xs with
  | nil => intro i j; simp [zFrom]
  | cons x xs ih =>
    intro i j
    have hr : ∀ q : Nat, rd (x :: xs) ((q + 1 : Nat) : Int) = rd xs (q : Int) := by
      intro q
      unfold rd
      rw [toNat_cast, toNat_cast]
      simp
    have h0 : rd (x :: xs) ((0 : Nat) : Int) = x := rfl
    have step : (∃ q : Nat, q < (x :: xs).length ∧ j = ((i + q : Nat) : Int) ∧ rd (x :: xs) (q : Int) = 0) ↔ (j = (i : Int) ∧ x = 0) ∨ j ∈ zFrom xs (i + 1) := by
      rw [ih (i + 1) j]
      constructor
      · rintro ⟨q, h1, h2, h3⟩
        cases q with
        | zero => rw [h0] at h3; exact .inl ⟨by omega, h3⟩
        | succ q => rw [hr] at h3; exact .inr ⟨q, by simpa using h1, by omega, h3⟩
      · rintro (⟨h1, h2⟩ | ⟨q, h1, h2, h3⟩)
        · exact ⟨0, by simp, by omega, by rw [h0]; exact h2⟩
        · exact ⟨q + 1, by simpa using h1, by omega, by rw [hr]; exact h3⟩
    rw [step]
    simp only [zFrom]
    by_cases hx : x = 0
    · rw [if_pos hx, List.mem_cons]
      simp [hx]
    · rw [if_neg hx]
      simp [hx]
theorem zFrom_ge (xs : List Int) (i : Nat) : ∀ j ∈ zFrom xs i, (i : Int) ≤ j := by
  intro j hj
  obtain ⟨q, -, h, -⟩ := (zFrom_mem xs i j).1 hj
  omega
theorem zFrom_up : ∀ (xs : List Int) (i : Nat), (zFrom xs i).Pairwise (· < ·) := by
  intro xs
  induction xs with
  | nil => intro i; exact List.Pairwise.nil
  | cons x xs ih =>
    intro i
    simp only [zFrom]
    split
    · exact List.Pairwise.cons (fun j hj => by have := zFrom_ge xs (i + 1) j hj; omega) (ih (i + 1))
    · exact ih (i + 1)
theorem zFrom_length : ∀ (xs : List Int) (i : Nat), (zFrom xs i).length ≤ xs.length := by
  intro xs
  induction xs with
  | nil => intro i; simp [zFrom]
  | cons x xs ih =>
    intro i
    have := ih (i + 1)
    simp only [zFrom]
    split <;> simp <;> omega
theorem implDum_l0 (t : List Int) (ht : t.length ≤ 12) : ∀ (d k i : Nat) (acc : List Int), i + d = t.length → acc.length ≤ i → d < k → impl_Dummies.l0 k acc t (t.length : Int) (i : Int) = some (acc ++ zFrom (t.drop i) i) := by
  intro d
  induction d with
  | zero =>
    intro k i acc hi ha hk
    obtain ⟨k, rfl, -⟩ := fuel hk
    simp only [impl_Dummies.l0]
    rw [if_neg (by omega), List.drop_eq_nil_of_le (by omega)]
    simp [zFrom]
  | succ d ih =>
    intro k i acc hi ha hk
    obtain ⟨k, rfl, hk⟩ := fuel hk
    simp only [impl_Dummies.l0]
    rw [if_pos (by omega), if_pos (by omega), if_pos (by omega), drop_rd (show i < t.length by omega), wrap_succ (by omega)]
    simp only [zFrom]
    by_cases h : rd t (i : Int) = 0
    · rw [if_pos h, if_pos (by omega), if_pos h, ih k (i + 1) (acc ++ [(i : Int)]) (by omega) (by simp; omega) (by omega), List.append_assoc]
      rfl
    · rw [if_neg h, if_neg h]
      exact ih k (i + 1) acc (by omega) (by omega) (by omega)
theorem specDum_l0 (t : List Int) (ht : t.length ≤ 12) : ∀ (d k i : Nat) (acc : List Int), i + d = t.length → acc.length ≤ i → d < k → spec_Dummies.l0 k acc t (i : Int) = some (acc ++ zFrom (t.drop i) i) := by
  intro d
  induction d with
  | zero =>
    intro k i acc hi ha hk
    obtain ⟨k, rfl, -⟩ := fuel hk
    simp only [spec_Dummies.l0]
    rw [if_neg (by omega), List.drop_eq_nil_of_le (by omega)]
    simp [zFrom]
  | succ d ih =>
    intro k i acc hi ha hk
    obtain ⟨k, rfl, hk⟩ := fuel hk
    simp only [spec_Dummies.l0]
    rw [if_pos (by omega), if_pos (by omega), drop_rd (show i < t.length by omega), wrap_succ (by omega)]
    simp only [zFrom]
    by_cases h : rd t (i : Int) = 0
    · rw [if_pos h, if_pos (by omega), if_pos h, ih k (i + 1) (acc ++ [(i : Int)]) (by omega) (by simp; omega) (by omega), List.append_assoc]
      rfl
    · rw [if_neg h, if_neg h]
      exact ih k (i + 1) acc (by omega) (by omega) (by omega)
def dumM (ws : List Int) (need : Int) : List Int := if OkBody ws need ∧ ws.length ≤ 8 then zFrom (decM ws need cOne) 0 else []
theorem implDum_spec (k : Nat) (ws : List Int) (need : Int) (hk : 6000 < k) : impl_Dummies.f k ws need = some (dumM ws need) := by
  unfold impl_Dummies.f impl_SwingsOf.f dumM
  rw [implSmall_spec k ws need (by omega), Option.bind_some]
  by_cases h : OkBody ws need ∧ ws.length ≤ 8
  · have e := implDum_l0 (decM ws need cOne) (by rw [decM_length]; omega) (decM ws need cOne).length k 0 [] (by omega) (by simp) (by rw [decM_length]; omega)
    rw [List.drop_zero, List.nil_append] at e
    rw [decide_eq_true h, if_pos rfl, if_pos h, idecS_spec k ws need cOne h.2 h.1.2.2.1 (cOne_bound _) (fun k p _ _ => rfl) (body_need h.1) hk, Option.bind_some, Option.bind_some]
    exact e
  · rw [decide_eq_false h, if_neg (by decide), if_neg h, Option.bind_some]
    obtain ⟨k, rfl, -⟩ := fuel (show 0 < k by omega)
    simp [impl_Dummies.l0]
theorem specDum_spec (k : Nat) (ws : List Int) (need : Int) (hk : 6000 < k) : spec_Dummies.f k ws need = some (dumM ws need) := by
  unfold spec_Dummies.f dumM
  rw [specSmall_spec k ws need (by omega), Option.bind_some]
  by_cases h : OkBody ws need ∧ ws.length ≤ 8
  · have e := specDum_l0 (decM ws need cOne) (by rw [decM_length]; omega) (decM ws need cOne).length k 0 [] (by omega) (by simp) (by rw [decM_length]; omega)
    rw [List.drop_zero, List.nil_append] at e
    rw [decide_eq_true h, if_pos rfl, if_pos h, ssw_spec k ws need h.2 h.1.2.2.1 (body_need h.1) hk, Option.bind_some]
    exact e
  · rw [decide_eq_false h, if_neg (by decide), if_neg h]
theorem implPiv_ok (k : Nat) (ws : List Int) (need : Int) (h : OkBody ws need ∧ ws.length ≤ 8) (hk : 6000 < k) : impl_PivotsOf.f k ws need = some (decM ws need (cPiv ws.length)) := by
  unfold impl_PivotsOf.f
  have hn := h.2
  have hcnt : ∀ k p : Nat, 40 < k → p ≤ ws.length → impl_PivotsOf_1.f k (p : Int) (ws.length : Int) = some (cPiv ws.length p) := by
    intro k p hk hp
    have hb := cPiv_bound hn (show p ≤ 8 by omega)
    unfold impl_PivotsOf_1.f
    have f2 : impl_factorial.f k (wrap64 ((wrap64 ((ws.length : Int) - 1)) - (p : Int))) = some (factM (ws.length - 1 - p)) := by
      rw [wrap_id (x := (ws.length : Int) - 1) (by omega) (by omega), wrap_id (by omega) (by omega), implFact_any k _ (by omega) (by omega)]
      congr 2
      omega
    rw [implFact_spec k p (by omega) (by omega), Option.bind_some, f2, Option.bind_some]
    show some (wrap64 (cPiv ws.length p)) = _
    rw [wrap_id (by omega) (by omega)]
  rw [implSmall_spec k ws need (by omega), Option.bind_some, decide_eq_true h, if_pos rfl, idecP_spec k ws need (cPiv ws.length) (ws.length : Int) h.2 h.1.2.2.1 (fun k hk => by have := cPiv_bound hn (show k ≤ 8 by omega); omega) hcnt (body_need h.1) hk, Option.bind_some]
/-- A set that wins only with a member. -/
def Turns (ws : List Int) (need : Int) (s i : Nat) : Prop := s / 2 ^ i % 2 = 0 ∧ bw ws s < need ∧ need ≤ bw ws s + rd ws (i : Int)
theorem acc_zero {ws : List Int} {need : Int} {c : Nat → Int} (hc : ∀ k, k ≤ ws.length → 1 ≤ c k) (i : Nat) : ∀ s : Nat, 0 ≤ accM ws need c s i ∧ (accM ws need c s i = 0 ↔ ∀ t, t < s → ¬ Turns ws need t i) := by
  intro s
  induction s with
  | zero => exact ⟨by simp [accM, sumN], fun _ t ht => by omega, fun _ => rfl⟩
  | succ s ih =>
    rw [accM_step]
    have hb := hc _ (mb_length ws.length 0 s)
    obtain ⟨h0, h1, h2⟩ := ih
    by_cases ht : Turns ws need s i
    · have hg : gainM ws need c s i = c (mb ws.length 0 s).length := if_pos ht
      refine ⟨by omega, fun h => by omega, fun h => absurd ht (h s (by omega))⟩
    · have hg : gainM ws need c s i = 0 := if_neg ht
      rw [hg, Int.add_zero]
      refine ⟨h0, fun h t hlt => ?_, fun h => h2 (fun t hlt => h t (by omega))⟩
      by_cases hts : t = s
      · rw [hts]; exact ht
      · exact h1 h t (by omega)
theorem mem_bit {n s i : Nat} (hs : s < 2 ^ n) (hi : i < n) : (i : Int) ∈ mb n 0 s ↔ s / 2 ^ i % 2 = 1 := by
  have e := enc_dec n s hs
  have l := decB_length n s
  have m := mem_mb (decB n s) 0 (i : Int)
  rw [e, l] at m
  rw [m]
  constructor
  · rintro ⟨j, h1, h2, h3⟩
    obtain rfl : i = j := by omega
    rw [decB_get n s i hi] at h3
    simpa using h3
  · intro h
    refine ⟨i, hi, by omega, ?_⟩
    rw [decB_get n s i hi, h]; rfl
theorem mem_more {n s i : Nat} (hs : s < 2 ^ n) (hi : i < n) (hb : s / 2 ^ i % 2 = 0) (ht : s + 2 ^ i < 2 ^ n) {x : Int} (hx : x ∈ mb n 0 (s + 2 ^ i)) (hne : x ≠ (i : Int)) : x ∈ mb n 0 s := by
  have g := decB_get n s i hi
  rw [hb] at g
  have e2 := encB_set (decB n s) i (by rw [g]; rfl)
  rw [enc_dec n s hs] at e2
  have l := decB_length n s
  have m1 := mem_mb (decB n s) 0 x
  have m2 := mem_mb ((decB n s).set i true) 0 x
  rw [enc_dec n s hs, l] at m1
  rw [e2, List.length_set, l] at m2
  obtain ⟨j, h1, h2, h3⟩ := m2.1 hx
  refine m1.2 ⟨j, h1, h2, ?_⟩
  rw [List.getElem?_set_ne (fun e : i = j => hne (h2.trans (by rw [← e, Nat.zero_add])))] at h3
  exact h3
theorem found_iff (ws : List Int) (need : Int) (h : OkBody ws need) {i : Nat} (hi : i < ws.length) : (∃ c ∈ lcM ws need, (i : Int) ∈ c) ↔ ∃ s, s < 2 ^ ws.length ∧ Turns ws need s i := by
  have hw : ∀ w ∈ ws, 0 ≤ w := fun w hw => (h.2.2.1 w hw).1
  constructor
  · rintro ⟨c, hc, hic⟩
    unfold lcM at hc
    obtain ⟨t, ht, rfl⟩ := List.mem_map.1 hc
    obtain ⟨ht1, ht2⟩ := List.mem_filter.1 ht
    have ht1' := List.mem_range.1 ht1
    have hb := (mem_bit ht1' hi).1 hic
    obtain ⟨p1, p2⟩ := bw_sub ws t i ht1' hi hb
    unfold isLeast at ht2
    rw [Bool.and_eq_true, decide_eq_true_eq, List.all_eq_true] at ht2
    have hl := ht2.2 _ hic
    rw [decide_eq_true_eq] at hl
    have hp : 0 < 2 ^ i := Nat.pow_pos (by omega)
    refine ⟨t - 2 ^ i, by omega, ?_, by omega, by omega⟩
    have e : (t - 2 ^ i + 2 ^ i) / 2 ^ i = (t - 2 ^ i) / 2 ^ i + 1 := Nat.add_div_right _ hp
    rw [Nat.sub_add_cancel p1] at e
    omega
  · rintro ⟨s, hs, h1, h2, h3⟩
    obtain ⟨a1, a2⟩ := bw_add hs hi h1
    have v1 : votesL ws (mb ws.length 0 (s + 2 ^ i)) ≥ need := by rw [votes_mb0, a2]; exact h3
    obtain ⟨c, hc, hsub⟩ := (least_iff ws _ need hw (mb_good a1)).1 v1
    refine ⟨c, hc, Classical.byContradiction fun hn => ?_⟩
    have v2 := (least_iff ws (mb ws.length 0 s) need hw (mb_good hs)).2 ⟨c, hc, fun x hx => mem_more hs hi h1 a1 (hsub x hx) (fun e => hn (e ▸ hx))⟩
    rw [votes_mb0] at v2
    omega
theorem dum_iff (ws : List Int) (need : Int) {c : Nat → Int} (hc : ∀ k, k ≤ ws.length → 1 ≤ c k) {i : Nat} (hi : i < ws.length) : rd (decM ws need c) (i : Int) = 0 ↔ ¬ ∃ s, s < 2 ^ ws.length ∧ Turns ws need s i := by
  rw [decM_rd hi, (acc_zero hc i _).2]
  exact ⟨fun h ⟨s, h1, h2⟩ => h s h1 h2, fun h t ht hq => h ⟨t, ht, hq⟩⟩
theorem drawDum_spec (k : Nat) (hk : 100 < k) (l : List Int) (hl : ∀ x ∈ l, 0 ≤ x ∧ x ≤ 255) : ∃ ws need, spec_DrawDummies.f k l = some (ws, need) ∧ ws.length ≤ 12 := by
  obtain ⟨b, h1, h2, h3⟩ := newReader_spec l hl
  obtain ⟨ws, need, q, h4, h5, h6, h7⟩ := anyBody_spec b h2 h3 k hk 0 (by omega) (by omega)
  unfold spec_DrawDummies.f
  rw [h1, Option.bind_some]
  simp only
  rw [h4, Option.bind_some]
  exact ⟨ws, need, rfl, h5⟩
theorem ascends_l0 (xs : List Int) (hl : xs.length ≤ 1000) (hp : xs.Pairwise (· < ·)) : ∀ (d k i : Nat), i + d = xs.length → 1 ≤ i → d < k → laws_ascends.l0 k xs (i : Int) = some true := by
  intro d
  induction d with
  | zero =>
    intro k i hi h1 hk
    obtain ⟨k, rfl, -⟩ := fuel hk
    simp only [laws_ascends.l0]
    rw [if_neg (by omega)]
  | succ d ih =>
    intro k i hi h1 hk
    obtain ⟨k, rfl, hk⟩ := fuel hk
    have hlt := List.pairwise_iff_getElem.1 hp (i - 1) i (by omega) (by omega) (by omega)
    rw [← rd_get, ← rd_get] at hlt
    have e : wrap64 ((i : Int) - 1) = ((i - 1 : Nat) : Int) := by rw [wrap_id (by omega) (by omega)]; omega
    simp only [laws_ascends.l0]
    rw [if_pos (by omega), if_pos (by omega), e, if_pos (by omega), if_pos (by omega), if_neg (by omega), wrap_succ (by omega)]
    exact ih k (i + 1) (by omega) (by omega) (by omega)
theorem ascends_spec (k : Nat) (xs : List Int) (hl : xs.length ≤ 1000) (hp : xs.Pairwise (· < ·)) (hk : 1001 < k) : laws_ascends.f k xs = some true := by
  unfold laws_ascends.f
  rcases Nat.eq_zero_or_pos xs.length with h | h
  · obtain ⟨k, rfl, -⟩ := fuel (show 0 < k by omega)
    simp only [laws_ascends.l0]
    rw [if_neg (by omega)]
  · exact ascends_l0 xs hl hp (xs.length - 1) k 1 (by omega) (by omega) (by omega)
theorem rdD_at {xs : List (List Int)} {i : Nat} (h : i < xs.length) : rd_L1 xs (i : Int) = xs[i] := by
  unfold rd_L1
  simp [h]
theorem dumLaw_l1 (ws : List Int) (need : Int) (h : OkBody ws need) (hn : ws.length ≤ 8) (lc : List (List Int)) (hlc : lc = lcM ws need) (hll : lc.length ≤ 1000) (hx : ∀ x ∈ lc, x.length ≤ 1000) (i : Nat) (hi : i < ws.length) : ∀ (d k j : Nat) (f : Bool), j + d = lc.length → 1100 < k → (f = true ↔ ∃ c ∈ lc.take j, (i : Int) ∈ c) →
    laws_FnDummies.l1 (k + d + 1) (zFrom (decM ws need cOne) 0) (decM ws need (cPiv ws.length)) lc (i : Int) f (j : Int) ws need = laws_FnDummies.l0 k (zFrom (decM ws need cOne) 0) (decM ws need (cPiv ws.length)) lc ((i + 1 : Nat) : Int) ws need := by
  have hlen := decM_length ws need (cPiv ws.length)
  have hlo := zFrom_length (decM ws need cOne) 0
  rw [decM_length] at hlo
  intro d
  induction d with
  | zero =>
    intro k j f hj hk hf
    simp only [laws_FnDummies.l1]
    rw [List.take_of_length_le (by omega), hlc, found_iff ws need h hi] at hf
    have hin : (i : Int) ∈ zFrom (decM ws need cOne) 0 ↔ ¬ ∃ s, s < 2 ^ ws.length ∧ Turns ws need s i := by
      rw [zFrom_mem, ← dum_iff ws need (c := cOne) (fun k _ => by unfold cOne; omega) hi, decM_length]
      constructor
      · rintro ⟨q, h1, h2, h3⟩
        obtain rfl : i = q := by omega
        exact h3
      · intro h3; exact ⟨i, hi, by omega, h3⟩
    have hpv := dum_iff ws need (c := cPiv ws.length) (fun k hk => by have := cPiv_bound hn (show k ≤ 8 by omega); omega) hi
    have hisin : laws_isIn.f k (zFrom (decM ws need cOne) 0) (i : Int) = some (!f) := by
      rw [isIn_spec k _ _ (by omega) (by omega)]
      congr 1
      rw [Bool.eq_iff_iff, decide_eq_true_eq, hin, ← hf]
      cases f <;> simp
    have hz : (rd (decM ws need (cPiv ws.length)) (i : Int) == 0) = !f := by
      rw [Bool.eq_iff_iff, beq_iff_eq, hpv, ← hf]
      cases f <;> simp
    rw [if_neg (by omega), hisin, Option.bind_some, if_pos (by omega), if_pos (by omega), hz, if_neg (by simp), Option.bind_some, if_neg (by cases f <;> simp), wrap_succ (by omega)]
  | succ d ih =>
    intro k j f hj hk hf
    have hjl : j < lc.length := by omega
    have e : k + (d + 1) + 1 = (k + d + 1) + 1 := by omega
    rw [e]
    have ih' := fun f => ih k (j + 1) f (by omega) hk
    have ht : lc.take (j + 1) = lc.take j ++ [lc[j]] := List.take_succ_eq_append_getElem hjl
    have hxj := hx _ (List.getElem_mem hjl)
    generalize hz : k + d + 1 = z at *
    simp only [laws_FnDummies.l1]
    rw [if_pos (by omega), wrap_succ (by omega)]
    by_cases hft : f = true
    · subst hft
      rw [if_pos rfl]
      refine ih' true ⟨fun _ => ?_, fun _ => rfl⟩
      obtain ⟨c, hc, hic⟩ := hf.1 rfl
      exact ⟨c, by rw [ht]; exact List.mem_append_left _ hc, hic⟩
    · rw [if_neg hft, if_pos (by omega), rdD_at hjl, isIn_spec z _ _ (by omega) (by omega), Option.bind_some]
      refine ih' _ ?_
      rw [decide_eq_true_eq, ht]
      constructor
      · intro hm; exact ⟨_, List.mem_append_right _ (List.mem_singleton.2 rfl), hm⟩
      · rintro ⟨c, hc, hic⟩
        rcases List.mem_append.1 hc with hc | hc
        · exact absurd (hf.2 ⟨c, hc, hic⟩) hft
        · rw [List.mem_singleton.1 hc] at hic; exact hic
theorem dumLaw_l0 (ws : List Int) (need : Int) (h : OkBody ws need) (hn : ws.length ≤ 8) (lc : List (List Int)) (hlc : lc = lcM ws need) (hll : lc.length ≤ 1000) (hx : ∀ x ∈ lc, x.length ≤ 1000) : ∀ (d k i : Nat), i + d = ws.length → 1100 * d + 1200 < k →
    laws_FnDummies.l0 k (zFrom (decM ws need cOne) 0) (decM ws need (cPiv ws.length)) lc (i : Int) ws need = some true := by
  have hlo := zFrom_length (decM ws need cOne) 0
  rw [decM_length] at hlo
  intro d
  induction d with
  | zero =>
    intro k i hi hk
    obtain ⟨k, rfl, hk⟩ := fuel (show 1199 < k by omega)
    simp only [laws_FnDummies.l0]
    rw [if_neg (by omega), ascends_spec k _ (by omega) (zFrom_up _ _) (by omega), Option.bind_some]
  | succ d ih =>
    intro k i hi hk
    obtain ⟨k, rfl, hk⟩ := fuel (show 1100 * d + 2299 < k by omega)
    simp only [laws_FnDummies.l0]
    obtain ⟨q, hq⟩ : ∃ q, k = q + lc.length + 1 := ⟨k - lc.length - 1, by omega⟩
    have e := dumLaw_l1 ws need h hn lc hlc hll hx i (by omega) lc.length q 0 false (by omega) (by omega) (by simp)
    rw [← hq] at e
    rw [if_pos (by omega)]
    refine e.trans ?_
    exact ih q (i + 1) (by omega) (by omega)
theorem FnDummies : laws_FnDummies.Pure := by
  intro l0 m0 _ hw
  refine ⟨4000000, ?_⟩
  unfold laws_FnDummies.f
  by_cases h0 : (l0.length : Int) > 1048576
  · rw [if_pos h0]
  rw [if_neg h0]
  obtain ⟨ws, need, hd, hs⟩ := drawDum_spec 4000000 (by omega) l0 (reader_bytes hw)
  have hl8 : (dumM ws need).length ≤ 8 := by
    unfold dumM
    split
    · rename_i h
      have := zFrom_length (decM ws need cOne) 0
      rw [decM_length] at this
      omega
    · simp
  rw [hd, Option.bind_some]
  dsimp only
  rw [implDum_spec 4000000 ws need (by omega), Option.bind_some, specDum_spec 4000000 ws need (by omega), Option.bind_some, equalInts_spec 4000000 _ _ (by omega) (by omega), Option.bind_some, decide_eq_true rfl, if_pos rfl, implBody_spec 4000000 ws need (by omega), Option.bind_some]
  have bad : laws_FnDummies.j0 4000000 (dumM ws need) true ws need = some true := by
    obtain ⟨k, hk, hk2⟩ : ∃ k : Nat, 4000000 = k + 1 ∧ 3999998 < k := ⟨3999999, by omega, by omega⟩
    rw [hk]
    simp only [laws_FnDummies.j0, if_true]
    rw [specDum_spec k ws need (by omega), Option.bind_some, equalInts_spec k _ _ (by omega) (by omega), Option.bind_some, decide_eq_true rfl]
  by_cases h : OkBody ws need
  · rw [decide_eq_true h, if_pos rfl]
    by_cases hn : ws.length ≤ 8
    · rw [decide_eq_false (by omega)]
      obtain ⟨k, hk, hk2⟩ : ∃ k : Nat, 4000000 = k + 1 ∧ 3999998 < k := ⟨3999999, by omega, by omega⟩
      rw [hk]
      simp only [laws_FnDummies.j0]
      have hdm : dumM ws need = zFrom (decM ws need cOne) 0 := if_pos ⟨h, hn⟩
      have hlcl : (lcM ws need).length ≤ 256 := by
        unfold lcM
        rw [List.length_map]
        have h1 := List.length_filter_le (isLeast ws need) (List.range (2 ^ ws.length))
        rw [List.length_range] at h1
        have h2 := pow_small hn
        omega
      have hlcx : ∀ x ∈ lcM ws need, x.length ≤ 8 := by
        intro x hx
        unfold lcM at hx
        obtain ⟨s, -, rfl⟩ := List.mem_map.1 hx
        have := mb_length ws.length 0 s
        omega
      rw [if_neg (by decide), implPiv_ok k ws need ⟨h, hn⟩ (by omega), Option.bind_some, implLeast_spec k ws need (by omega), if_pos ⟨h, hn⟩, Option.bind_some, hdm]
      exact dumLaw_l0 ws need h hn _ rfl (by omega) (fun x hx => by have := hlcx x hx; omega) ws.length k 0 (by omega) (by omega)
    · rw [decide_eq_true (by omega)]
      exact bad
  · rw [decide_eq_false h, if_neg (by decide)]
    exact bad

end Go.Proofs.Ytikahkklbgndbaa.Pure
