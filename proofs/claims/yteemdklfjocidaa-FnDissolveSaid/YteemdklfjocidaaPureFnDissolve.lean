/- The law FnDissolve holds: the program's function answers as the reference does at every drawn input, and has the law's property; no condition. -/
import Derived.Test.YteemdklfjocidaaPFnDissolvex8
set_option linter.unusedVariables false
set_option linter.unusedSimpArgs false
namespace Go.Proofs.Yteemdklfjocidaa.Pure
open Go.RowKit Go.Proofs.Yteemdklfjocidaa.PFnDissolve Go.Proofs.YteemdklfjocidaaW.PrintWords Go.Proofs.YteemdklfjocidaaW.PrintLast Go.Proofs.YteemdklfjocidaaW.PrintMore

/-! ### base -/
theorem fuel {k n : Nat} (h : n < k) : ∃ m, k = m + 1 ∧ n ≤ m := ⟨k - 1, by omega, by omega⟩
theorem wrap_id {x : Int} (h1 : -9223372036854775808 ≤ x) (h2 : x ≤ 9223372036854775807) : wrap64 x = x := by unfold wrap64; omega
theorem wrap_succ {i : Nat} (h : i < 4611686018427387904) : wrap64 ((i : Int) + 1) = ((i + 1 : Nat) : Int) := by unfold wrap64; omega
theorem wrap_succ' {i : Int} (h0 : 0 ≤ i) (h : i < 4611686018427387904) : wrap64 (i + 1) = i + 1 := by unfold wrap64; omega
theorem wrap_wrap (x : Int) : wrap64 (wrap64 x) = wrap64 x := by unfold wrap64; omega
theorem wrap_add_l (x y : Int) : wrap64 (wrap64 x + y) = wrap64 (x + y) := by unfold wrap64; omega
theorem wrap_add_r (x y : Int) : wrap64 (x + wrap64 y) = wrap64 (x + y) := by unfold wrap64; omega
theorem wrap_sub_l (x y : Int) : wrap64 (wrap64 x - y) = wrap64 (x - y) := by unfold wrap64; omega
theorem rd_get {xs : List Int} {i : Nat} (h : i < xs.length) : rd xs (i : Int) = xs[i] := by
  simp [rd, List.getD_eq_getElem?_getD, List.getElem?_eq_getElem h]
theorem drop_rd {xs : List Int} {i : Nat} (h : i < xs.length) : xs.drop i = rd xs (i : Int) :: xs.drop (i + 1) := by
  rw [rd_get h, List.drop_eq_getElem_cons h]
theorem drop_end {α : Type} {xs : List α} {i : Nat} (h : xs.length ≤ i) : xs.drop i = [] := List.drop_eq_nil_of_le h
theorem take_rd {xs : List Int} {i : Nat} (h : i < xs.length) : xs.take (i + 1) = xs.take i ++ [rd xs (i : Int)] := by
  rw [rd_get h, List.take_succ_eq_append_getElem h]
theorem rd_mem {xs : List Int} {i : Nat} (h : i < xs.length) : rd xs (i : Int) ∈ xs := by
  rw [rd_get h]; exact List.getElem_mem h
theorem rd_mem' {xs : List Int} {i : Int} (h0 : 0 ≤ i) (h : i < (xs.length : Int)) : rd xs i ∈ xs := by
  obtain ⟨j, rfl⟩ := Int.eq_ofNat_of_zero_le h0
  exact rd_mem (by omega)
theorem mem_rd {xs : List Int} {x : Int} (h : x ∈ xs) : ∃ i : Nat, i < xs.length ∧ rd xs (i : Int) = x := by
  obtain ⟨i, hi, he⟩ := List.getElem_of_mem h
  exact ⟨i, hi, by rw [rd_get hi, he]⟩
theorem ext_rd {xs ys : List Int} (hl : xs.length = ys.length) (h : ∀ i : Nat, i < xs.length → rd xs (i : Int) = rd ys (i : Int)) : xs = ys := by
  apply List.ext_getElem hl
  intro i h1 h2
  have := h i h1
  rwa [rd_get h1, rd_get h2] at this
theorem rd_set {xs : List Int} {i j : Nat} {v : Int} (hj : j < xs.length) : rd (xs.set i v) (j : Int) = if i = j then v else rd xs (j : Int) := by
  rw [rd_get (by simpa using hj), rd_get hj, List.getElem_set]
theorem rd_set_ne {xs : List Int} {i j : Nat} {v : Int} (h : i ≠ j) : rd (xs.set i v) (j : Int) = rd xs (j : Int) := by
  simp only [rd, List.getD_eq_getElem?_getD, Int.toNat_natCast, List.getElem?_set_ne h]
theorem rd_append_l {xs ys : List Int} {i : Nat} (h : i < xs.length) : rd (xs ++ ys) (i : Int) = rd xs (i : Int) := by
  rw [rd_get (by simp; omega), rd_get h, List.getElem_append_left h]
theorem rd_append_r {xs ys : List Int} {i : Nat} (h : xs.length ≤ i) (h2 : i < xs.length + ys.length) : rd (xs ++ ys) (i : Int) = rd ys ((i - xs.length : Nat) : Int) := by
  rw [rd_get (by simp; omega), rd_get (by omega), List.getElem_append_right h]
theorem rd_replicate {n i : Nat} {v : Int} (h : i < n) : rd (List.replicate n v) (i : Int) = v := by
  rw [rd_get (by simpa using h)]; simp
theorem rd_mapRange {n i : Nat} {f : Nat → Int} (h : i < n) : rd ((List.range n).map f) (i : Int) = f i := by
  rw [rd_get (by simpa using h)]; simp
theorem toNat_cast (i : Nat) : ((i : Int) : Int).toNat = i := by simp
theorem mx_max (a b : Int) : mx a b = max a b := by unfold mx; omega
theorem mn_min (a b : Int) : mn a b = min a b := by unfold mn; omega
theorem bits_xor {a b : Int} (ha : 0 ≤ a) (ha2 : a < 4611686018427387904) (hb : 0 ≤ b) (hb2 : b < 4611686018427387904) : 0 ≤ Go.bits .xor .i64 a b ∧ Go.bits .xor .i64 a b < 4611686018427387904 := by
  obtain ⟨a, rfl⟩ := Int.eq_ofNat_of_zero_le ha
  obtain ⟨b, rfl⟩ := Int.eq_ofNat_of_zero_le hb
  have h1 : a < 2 ^ 62 := by omega
  have h2 : b < 2 ^ 62 := by omega
  have h3 := Nat.xor_lt_two_pow h1 h2
  have e : Go.bits .xor .i64 (a : Int) (b : Int) = IntKind.i64.wrap (((BitVec.ofInt 64 (a : Int)) ^^^ (BitVec.ofInt 64 (b : Int))).toNat : Int) := rfl
  have ha' : (BitVec.ofInt 64 (a : Int)).toNat = a := by rw [BitVec.ofInt_natCast, BitVec.toNat_ofNat]; exact Nat.mod_eq_of_lt (by omega)
  have hb' : (BitVec.ofInt 64 (b : Int)).toNat = b := by rw [BitVec.ofInt_natCast, BitVec.toNat_ofNat]; exact Nat.mod_eq_of_lt (by omega)
  rw [e, BitVec.toNat_xor, ha', hb', IntKind.wrap_i64]
  omega
theorem cast0 : ((0 : Nat) : Int) = 0 := rfl
theorem w01 : wrap64 (0 + 1) = 1 := by unfold wrap64; omega
theorem w12 : wrap64 (1 + 1) = 2 := by unfold wrap64; omega
theorem w23 : wrap64 (2 + 1) = 3 := by unfold wrap64; omega
theorem w34 : wrap64 (3 + 1) = 4 := by unfold wrap64; omega
theorem w45 : wrap64 (4 + 1) = 5 := by unfold wrap64; omega

/-! ### listm -/
theorem pigeon : ∀ (n : Nat) (xs : List Int), xs.Nodup → (∀ x ∈ xs, 0 ≤ x ∧ x < (n : Int)) → xs.length ≤ n := by
  intro n
  induction n with
  | zero =>
    intro xs _ h
    cases xs with
    | nil => simp
    | cons x xs => have := h x (by simp); omega
  | succ n ih =>
    intro xs hn h
    by_cases hm : (n : Int) ∈ xs
    · have h1 := ih (xs.erase (n : Int)) (hn.erase _) (fun x hx => by
        have h2 := (hn.mem_erase_iff).1 hx
        have h3 := h x h2.2
        have h4 := h2.1
        omega)
      rw [List.length_erase_of_mem hm] at h1
      omega
    · have h1 := ih xs hn (fun x hx => by
        have h3 := h x hx
        have h4 : x ≠ (n : Int) := fun e => hm (e ▸ hx)
        omega)
      omega
/-- Fewer different members than there are: one is missing. -/
theorem one_missing : ∀ (n : Nat) (xs : List Int), xs.length < n → ∃ j : Nat, j < n ∧ (j : Int) ∉ xs := by
  intro n
  induction n with
  | zero => intro xs h; omega
  | succ n ih =>
    intro xs h
    by_cases hm : (n : Int) ∈ xs
    · obtain ⟨j, hj, hx⟩ := ih (xs.erase (n : Int)) (by rw [List.length_erase_of_mem hm]; have := List.length_pos_of_mem hm; omega)
      refine ⟨j, by omega, fun hmem => hx ?_⟩
      exact (List.mem_erase_of_ne (by omega)).2 hmem
    · exact ⟨n, by omega, hm⟩
/-- Members, one after the other, in range and not seen yet. -/
def memB (n : Int) : List Int → List Int → Bool
  | _, [] => true
  | seen, x :: rest => decide (0 ≤ x ∧ x < n) && (!decide (x ∈ seen) && memB n (seen ++ [x]) rest)
theorem memB_iff (n : Int) : ∀ (xs seen : List Int), memB n seen xs = true ↔ (∀ x ∈ xs, 0 ≤ x ∧ x < n ∧ x ∉ seen) ∧ xs.Nodup := by
  intro xs
  induction xs with
  | nil => intro seen; simp [memB]
  | cons a xs ih =>
    intro seen
    simp only [memB, Bool.and_eq_true, decide_eq_true_eq, Bool.not_eq_true', decide_eq_false_iff_not, ih, List.mem_cons, List.mem_append, List.not_mem_nil, or_false, List.nodup_cons]
    constructor
    · rintro ⟨⟨h1, h2⟩, h3, h4, h5⟩
      refine ⟨?_, fun ha => (h4 a ha).2.2 (Or.inr rfl), h5⟩
      rintro x (rfl | hx)
      · exact ⟨h1, h2, h3⟩
      · obtain ⟨a1, a2, a3⟩ := h4 x hx
        exact ⟨a1, a2, fun h => a3 (Or.inl h)⟩
    · rintro ⟨h1, h2, h3⟩
      obtain ⟨a1, a2, a3⟩ := h1 a (Or.inl rfl)
      refine ⟨⟨a1, a2⟩, a3, fun x hx => ?_, h3⟩
      obtain ⟨b1, b2, b3⟩ := h1 x (Or.inr hx)
      refine ⟨b1, b2, ?_⟩
      rintro (h | rfl)
      · exact b3 h
      · exact h2 hx
/-- Different members of a body. -/
def GoodM (xs : List Int) (n : Int) : Prop := xs.Nodup ∧ ∀ x ∈ xs, 0 ≤ x ∧ x < n
instance (xs : List Int) (n : Int) : Decidable (GoodM xs n) := inferInstanceAs (Decidable (_ ∧ _))
theorem memB_good (n : Int) (xs : List Int) : memB n [] xs = decide (GoodM xs n) := by
  rw [Bool.eq_iff_iff, memB_iff, decide_eq_true_eq]
  unfold GoodM
  constructor
  · rintro ⟨h, hn⟩
    exact ⟨hn, fun x hx => ⟨(h x hx).1, (h x hx).2.1⟩⟩
  · rintro ⟨hn, h⟩
    exact ⟨fun x hx => ⟨(h x hx).1, (h x hx).2, by simp⟩, hn⟩
theorem GoodM.le {xs : List Int} {n : Nat} (h : GoodM xs (n : Int)) : xs.length ≤ n := pigeon n xs h.1 h.2
/-- The first place of a number behind some. -/
def idxM : List Int → Int → Nat → Int
  | [], _, _ => -1
  | y :: ys, x, i => if y = x then (i : Int) else idxM ys x (i + 1)
theorem idxM_neg : ∀ (xs : List Int) (x : Int) (i : Nat), idxM xs x i < 0 ↔ x ∉ xs := by
  intro xs
  induction xs with
  | nil => intro x i; simp [idxM]
  | cons y ys ih =>
    intro x i
    simp only [idxM]
    by_cases e : y = x
    · rw [if_pos e]; simp [e]
    · rw [if_neg e, ih]
      have e' : ¬ x = y := fun h => e h.symm
      simp [e']
theorem idxM_nonneg (xs : List Int) (x : Int) (i : Nat) : 0 ≤ idxM xs x i ↔ x ∈ xs := by
  have := idxM_neg xs x i
  by_cases h : x ∈ xs
  · simp only [h, not_true, iff_false] at this
    simp [h]; omega
  · simp only [h, not_false_iff, iff_true] at this
    simp [h]; omega
theorem idxM_at : ∀ (xs : List Int) (x : Int) (i : Nat), x ∈ xs → ∃ j : Nat, idxM xs x i = ((i + j : Nat) : Int) ∧ j < xs.length ∧ rd xs (j : Int) = x ∧ ∀ q : Nat, q < j → rd xs (q : Int) ≠ x := by
  intro xs
  induction xs with
  | nil => intro x i h; simp at h
  | cons y ys ih =>
    intro x i h
    by_cases e : y = x
    · exact ⟨0, by simp [idxM, e], by simp, by simp [rd, e], fun q hq => by omega⟩
    · have hx : x ∈ ys := by
        rcases List.mem_cons.1 h with h | h
        · exact absurd h.symm e
        · exact h
      obtain ⟨j, h1, h2, h3, h4⟩ := ih x (i + 1) hx
      refine ⟨j + 1, by simp only [idxM, if_neg e, h1]; omega, by simp; omega, ?_, ?_⟩
      · rw [← h3, rd_get (by simp; omega), rd_get h2]; simp
      · intro q hq
        cases q with
        | zero => rw [rd_get (by simp)]; simpa using e
        | succ q => have := h4 q (by omega); rw [rd_get (by simp; omega)]; rw [rd_get (by omega)] at this; simpa using this
theorem sum_set : ∀ (xs : List Int) (i : Nat) (v : Int), i < xs.length → (xs.set i v).sum = xs.sum - rd xs (i : Int) + v := by
  intro xs
  induction xs with
  | nil => intro i v h; simp at h
  | cons x xs ih =>
    intro i v h
    cases i with
    | zero => simp [rd]; omega
    | succ i =>
      have h2 : i < xs.length := by simpa using h
      have := ih i v h2
      have e : rd (x :: xs) ((i + 1 : Nat) : Int) = rd xs (i : Int) := by rw [rd_get h, rd_get h2]; simp
      simp only [List.set_cons_succ, List.sum_cons, this, e]
      omega
theorem sum_replicate0 (n : Nat) : (List.replicate n (0 : Int)).sum = 0 := by
  induction n with
  | zero => rfl
  | succ n ih => simp [List.replicate_succ, ih]
theorem set_fill {α : Type} (A : List α) (d : Nat) (z v : α) : (A ++ List.replicate (d + 1) z).set A.length v = (A ++ [v]) ++ List.replicate d z := by
  rw [List.set_append_right _ _ (Nat.le_refl _)]
  simp [List.replicate_succ]
theorem set_fill' {α : Type} {A : List α} {i d : Nat} {z v : α} (h : A.length = i) : (A ++ List.replicate (d + 1) z).set i v = (A ++ [v]) ++ List.replicate d z := by
  subst h; exact set_fill A d z v
theorem sum_bound : ∀ (xs : List Int) (lo hi : Int), (∀ x ∈ xs, lo ≤ x ∧ x ≤ hi) → (xs.length : Int) * lo ≤ xs.sum ∧ xs.sum ≤ (xs.length : Int) * hi := by
  intro xs lo hi
  induction xs with
  | nil => intro _; simp
  | cons x xs ih =>
    intro h
    have h1 := ih (fun y hy => h y (by simp [hy]))
    have h2 := h x (by simp)
    have e1 : ((x :: xs).length : Int) * lo = (xs.length : Int) * lo + lo := by simp [Int.add_mul]
    have e2 : ((x :: xs).length : Int) * hi = (xs.length : Int) * hi + hi := by simp [Int.add_mul]
    rw [e1, e2, List.sum_cons]
    omega

/-! ### paym -/
theorem take_set_at {α : Type} (l : List α) (i : Nat) (v : α) (h : i < l.length) : (l.set i v).take (i + 1) = l.take i ++ [v] := by
  have h2 : i < (l.set i v).length := by simpa using h
  rw [List.take_succ_eq_append_getElem h2]
  rw [List.take_set, List.set_eq_of_length_le (by simp; omega)]
  simp
theorem drop_set_at {α : Type} (l : List α) (i : Nat) (v : α) : (l.set i v).drop (i + 1) = l.drop (i + 1) := by
  rw [List.drop_set]; simp
/-- The rest goes, one to each, to those whose part was cut. -/
def bumpM (S a : Int) : List Int → List Int → Int → List Int
  | s :: ss, v :: vs, r => if 0 < r ∧ (s * a) % S ≠ 0 then (v + 1) :: bumpM S a ss vs (r - 1) else v :: bumpM S a ss vs r
  | _, vs, _ => vs
theorem bumpM_zero (S a : Int) : ∀ (ss vs : List Int), bumpM S a ss vs 0 = vs := by
  intro ss
  induction ss with
  | nil => intro vs; cases vs <;> simp [bumpM]
  | cons s ss ih =>
    intro vs
    cases vs with
    | nil => simp [bumpM]
    | cons v vs => simp [bumpM, ih]
theorem bumpM_length (S a : Int) : ∀ (ss vs : List Int) (r : Int), (bumpM S a ss vs r).length = vs.length := by
  intro ss
  induction ss with
  | nil => intro vs r; cases vs <;> simp [bumpM]
  | cons s ss ih =>
    intro vs r
    cases vs with
    | nil => simp [bumpM]
    | cons v vs => simp only [bumpM]; split <;> simp [ih]
/-- What was cut off. -/
def cutM (S a : Int) (ss : List Int) : Int := (ss.map fun s => (s * a) % S).sum
theorem cutM_cons (S a s : Int) (ss : List Int) : cutM S a (s :: ss) = (s * a) % S + cutM S a ss := by simp [cutM]
theorem bumpM_sum (S a : Int) (hS : 0 < S) : ∀ (ss vs : List Int) (r : Int), ss.length = vs.length → 0 ≤ r → r * S ≤ cutM S a ss → (bumpM S a ss vs r).sum = vs.sum + r := by
  intro ss
  induction ss with
  | nil =>
    intro vs r hl h0 h1
    simp [cutM] at h1
    have : r = 0 := by
      rcases Int.lt_or_le 0 r with h | h
      · have := Int.mul_pos h hS; omega
      · omega
    subst this
    cases vs <;> simp [bumpM]
  | cons s ss ih =>
    intro vs r hl h0 h1
    cases vs with
    | nil => simp at hl
    | cons v vs =>
      have hl2 : ss.length = vs.length := by simpa using hl
      rw [cutM_cons] at h1
      have m1 := Int.emod_nonneg (s * a) (b := S) (by omega)
      have m2 := Int.emod_lt_of_pos (s * a) hS
      simp only [bumpM]
      by_cases h : 0 < r ∧ (s * a) % S ≠ 0
      · rw [if_pos h, List.sum_cons, List.sum_cons, ih vs (r - 1) hl2 (by omega) (by rw [Int.sub_mul]; omega)]
        omega
      · rw [if_neg h, List.sum_cons, List.sum_cons]
        by_cases hr : 0 < r
        · have : (s * a) % S = 0 := by
            rcases Int.lt_or_le 0 ((s * a) % S) with h4 | h4
            · exact absurd ⟨hr, by omega⟩ h
            · omega
          rw [ih vs r hl2 h0 (by omega)]; omega
        · have hr0 : r = 0 := by omega
          subst hr0
          rw [bumpM_zero]; omega
theorem bumpM_le (S a : Int) : ∀ (ss vs us : List Int) (r : Int), vs.length = ss.length → us.length = ss.length → (∀ i : Nat, i < ss.length → rd vs (i : Int) ≤ rd us (i : Int) ∧ ((rd ss (i : Int) * a) % S ≠ 0 → rd vs (i : Int) + 1 ≤ rd us (i : Int))) →
    ∀ i : Nat, i < ss.length → rd vs (i : Int) ≤ rd (bumpM S a ss vs r) (i : Int) ∧ rd (bumpM S a ss vs r) (i : Int) ≤ rd us (i : Int) := by
  intro ss
  induction ss with
  | nil => intro vs us r _ _ _ i hi; simp at hi
  | cons s ss ih =>
    intro vs us r h1 h2 h i hi
    cases vs with
    | nil => simp at h1
    | cons v vs =>
      cases us with
      | nil => simp at h2
      | cons u us =>
        have sh : ∀ (x : Int) (xs : List Int) (q : Nat), rd (x :: xs) ((q + 1 : Nat) : Int) = rd xs (q : Int) := by
          intro x xs q; simp [rd]
        have ih' := fun r => ih vs us r (by simpa using h1) (by simpa using h2) (fun q hq => by
          have := h (q + 1) (by simpa using hq)
          rwa [sh, sh, sh] at this)
        have h0 := h 0 (by simp)
        simp [rd] at h0
        simp only [bumpM]
        cases i with
        | zero =>
          split
          · rename_i hc
            have := h0.2 hc.2
            simp [rd]; omega
          · simp [rd]; omega
        | succ q =>
          have hq : q < ss.length := by simpa using hi
          split
          · rw [sh, sh, sh]; exact ih' _ q hq
          · rw [sh, sh, sh]; exact ih' _ q hq
/-- The parts of a box that does not hold all. -/
def floorsM (S a : Int) (ss : List Int) : List Int := ss.map fun s => (s * a) / S
theorem floorsM_length (S a : Int) (ss : List Int) : (floorsM S a ss).length = ss.length := by simp [floorsM]
theorem floorsM_rd {S a : Int} {ss : List Int} {i : Nat} (h : i < ss.length) : rd (floorsM S a ss) (i : Int) = (rd ss (i : Int) * a) / S := by
  rw [rd_get (by simpa [floorsM] using h), rd_get h]; simp [floorsM]
theorem cut_sum (S a : Int) : ∀ ss : List Int, S * (floorsM S a ss).sum + cutM S a ss = ss.sum * a := by
  intro ss
  induction ss with
  | nil => simp [floorsM, cutM]
  | cons s ss ih =>
    rw [cutM_cons]
    have e : floorsM S a (s :: ss) = (s * a) / S :: floorsM S a ss := by simp [floorsM]
    rw [e, List.sum_cons, List.sum_cons, Int.mul_add, Int.add_mul]
    have := Int.mul_ediv_add_emod (s * a) S
    omega
/-- What a box pays to stakes of one class. -/
def payM (stakes : List Int) (a : Int) : List Int :=
  if a ≥ stakes.sum then stakes else bumpM stakes.sum a stakes (floorsM stakes.sum a stakes) (a - (floorsM stakes.sum a stakes).sum)
theorem cutM_nonneg {S a : Int} (hS : 0 < S) : ∀ ss : List Int, 0 ≤ cutM S a ss := by
  intro ss
  induction ss with
  | nil => simp [cutM]
  | cons s ss ih =>
    rw [cutM_cons]
    have := Int.emod_nonneg (s * a) (b := S) (by omega)
    omega
theorem rest_facts {stakes : List Int} {a : Int} (hS : 0 < stakes.sum) : 0 ≤ a - (floorsM stakes.sum a stakes).sum ∧ (a - (floorsM stakes.sum a stakes).sum) * stakes.sum = cutM stakes.sum a stakes := by
  have h1 := cut_sum stakes.sum a stakes
  have h2 := cutM_nonneg (a := a) hS stakes
  have h3 : (a - (floorsM stakes.sum a stakes).sum) * stakes.sum = cutM stakes.sum a stakes := by
    rw [Int.sub_mul, Int.mul_comm a, Int.mul_comm (floorsM stakes.sum a stakes).sum]; omega
  refine ⟨?_, h3⟩
  rcases Int.lt_or_le (a - (floorsM stakes.sum a stakes).sum) 0 with h | h
  · have := Int.mul_neg_of_neg_of_pos h hS
    omega
  · exact h
theorem payM_length (stakes : List Int) (a : Int) : (payM stakes a).length = stakes.length := by
  unfold payM; split
  · rfl
  · rw [bumpM_length, floorsM_length]
theorem sum_nonneg {xs : List Int} (h : ∀ x ∈ xs, 0 ≤ x) : 0 ≤ xs.sum := by
  induction xs with
  | nil => simp
  | cons x xs ih =>
    rw [List.sum_cons]
    have h1 := h x (by simp)
    have h2 := ih (fun y hy => h y (by simp [hy]))
    omega
theorem payM_sum {stakes : List Int} {a : Int} (h0 : 0 ≤ a) (hs : ∀ x ∈ stakes, 0 ≤ x) : (payM stakes a).sum = min stakes.sum a := by
  unfold payM
  split
  · omega
  · have hS : 0 < stakes.sum := by omega
    obtain ⟨h1, h2⟩ := rest_facts (a := a) hS
    rw [bumpM_sum _ _ hS _ _ _ (by rw [floorsM_length]) h1 (by omega)]
    omega
theorem payM_bound {stakes : List Int} {a : Int} (h0 : 0 ≤ a) (hs : ∀ x ∈ stakes, 0 ≤ x) : ∀ i : Nat, i < stakes.length → 0 ≤ rd (payM stakes a) (i : Int) ∧ rd (payM stakes a) (i : Int) ≤ rd stakes (i : Int) := by
  intro i hi
  have hsi := hs _ (rd_mem hi)
  unfold payM
  split
  · exact ⟨hsi, Int.le_refl _⟩
  · have hS : 0 < stakes.sum := by omega
    have hA : a < stakes.sum := by omega
    have key := bumpM_le stakes.sum a stakes (floorsM stakes.sum a stakes) stakes (a - (floorsM stakes.sum a stakes).sum) (floorsM_length _ _ _) rfl (fun q hq => by
      rw [floorsM_rd hq]
      have hsq := hs _ (rd_mem hq)
      generalize rd stakes (q : Int) = s at *
      have e1 := Int.mul_ediv_add_emod (s * a) stakes.sum
      have e2 := Int.emod_nonneg (s * a) (b := stakes.sum) (by omega)
      have e3 : s * a ≤ s * stakes.sum := Int.mul_le_mul_of_nonneg_left (by omega) hsq
      rw [Int.mul_comm s stakes.sum] at e3
      constructor
      · exact Int.le_of_mul_le_mul_left (by omega) hS
      · intro hne
        have : stakes.sum * (s * a / stakes.sum) < stakes.sum * s := by omega
        have := Int.lt_of_mul_lt_mul_left this (by omega)
        omega) i hi
    refine ⟨Int.le_trans ?_ key.1, key.2⟩
    rw [floorsM_rd hi]
    exact Int.ediv_nonneg (Int.mul_nonneg hsi h0) (by omega)

/-! ### total -/
theorem total_l0 (xs : List Int) (hb : xs.length < 4611686018427387904) : ∀ (d k i : Nat) (acc : Int), i + d = xs.length → d < k → wrap64 acc = acc → laws_total.l0 k xs acc (i : Int) = some (wrap64 (acc + (xs.drop i).sum)) := by
  intro d
  induction d with
  | zero =>
    intro k i acc hi hk ha
    obtain ⟨k, rfl, -⟩ := fuel hk
    simp only [laws_total.l0]
    rw [if_neg (by omega), drop_end (by omega)]
    simp [ha]
  | succ d ih =>
    intro k i acc hi hk ha
    obtain ⟨k, rfl, hk⟩ := fuel hk
    simp only [laws_total.l0]
    rw [if_pos (by omega), if_pos (by omega), wrap_succ (by omega), ih k (i + 1) _ (by omega) (by omega) (wrap_wrap _), wrap_add_l, drop_rd (i := i) (by omega), List.sum_cons, Int.add_assoc]
theorem total_spec (k : Nat) (xs : List Int) (hb : xs.length < 4611686018427387904) (hk : xs.length < k) : laws_total.f k xs = some (wrap64 xs.sum) := by
  unfold laws_total.f
  have := total_l0 xs hb xs.length k 0 0 (by omega) hk (wrap_id (by omega) (by omega))
  simpa using this

/-! ### stotal -/
theorem stotal_l0 (xs : List Int) (hb : xs.length < 4611686018427387904) : ∀ (d k i : Nat) (acc : Int), i + d = xs.length → d < k → wrap64 acc = acc → spec_total.l0 k xs acc (i : Int) = some (wrap64 (acc + (xs.drop i).sum)) := by
  intro d
  induction d with
  | zero =>
    intro k i acc hi hk ha
    obtain ⟨k, rfl, -⟩ := fuel hk
    simp only [spec_total.l0]
    rw [if_neg (by omega), drop_end (by omega)]
    simp [ha]
  | succ d ih =>
    intro k i acc hi hk ha
    obtain ⟨k, rfl, hk⟩ := fuel hk
    simp only [spec_total.l0]
    rw [if_pos (by omega), if_pos (by omega), wrap_succ (by omega), ih k (i + 1) _ (by omega) (by omega) (wrap_wrap _), wrap_add_l, drop_rd (i := i) (by omega), List.sum_cons, Int.add_assoc]
theorem stotal_spec (k : Nat) (xs : List Int) (hb : xs.length < 4611686018427387904) (hk : xs.length < k) : spec_total.f k xs = some (wrap64 xs.sum) := by
  unfold spec_total.f
  have := stotal_l0 xs hb xs.length k 0 0 (by omega) hk (wrap_id (by omega) (by omega))
  simpa using this

/-! ### payclaims -/
/-- The stakes as claims of the first class. -/
def claimsM (ss : List Int) : List S48 := ss.map fun s => (⟨0, s⟩ : S48)
theorem claimsM_length (ss : List Int) : (claimsM ss).length = ss.length := by simp [claimsM]
theorem claimsM_rd {ss : List Int} {i : Nat} (h : i < ss.length) : rd_T48 (claimsM ss) (i : Int) = ⟨0, rd ss (i : Int)⟩ := by
  have h2 : i < (claimsM ss).length := by rw [claimsM_length]; exact h
  rw [rd_get h]
  simp [rd_T48, List.getD_eq_getElem?_getD, List.getElem?_eq_getElem h2]
  simp [claimsM]
structure Box (ss : List Int) (a : Int) : Prop where
  len : ss.length ≤ 12
  val : ∀ x ∈ ss, 0 ≤ x ∧ x ≤ 100000
  a0 : 0 ≤ a
  a1 : a ≤ 1000000
theorem Box.sum {ss : List Int} {a : Int} (h : Box ss a) (i : Nat) : 0 ≤ (ss.take i).sum ∧ (ss.take i).sum ≤ 1200000 := by
  have := sum_bound (ss.take i) 0 100000 (fun x hx => h.val x (List.mem_of_mem_take hx))
  have h1 := h.len
  have h2 : (ss.take i).length ≤ 12 := by simp; omega
  omega
theorem Box.at {ss : List Int} {a : Int} (h : Box ss a) {i : Nat} (hi : i < ss.length) : 0 ≤ rd ss (i : Int) ∧ rd ss (i : Int) ≤ 100000 ∧ 0 ≤ rd ss (i : Int) * a ∧ rd ss (i : Int) * a ≤ 100000000000 := by
  have h1 := h.val _ (rd_mem hi)
  have h2 := h.a0
  have h3 := h.a1
  refine ⟨h1.1, h1.2, Int.mul_nonneg h1.1 h2, ?_⟩
  have : rd ss (i : Int) * a ≤ 100000 * 1000000 := Int.mul_le_mul h1.2 h3 h2 (by omega)
  omega
theorem Box.whole {ss : List Int} {a : Int} (h : Box ss a) : 0 ≤ ss.sum ∧ ss.sum ≤ 1200000 := by
  have := h.sum ss.length
  rwa [List.take_length] at this
theorem validClaims_spec (ss : List Int) {a : Int} (h : Box ss a) : ∀ (d k i : Nat), i + d = ss.length → d < k → impl_ValidClaims.l0 k (claimsM ss) (ss.length : Int) (i : Int) = some true := by
  intro d
  induction d with
  | zero =>
    intro k i hi hk
    obtain ⟨k, rfl, -⟩ := fuel hk
    simp only [impl_ValidClaims.l0]
    rw [if_neg (by omega)]
  | succ d ih =>
    intro k i hi hk
    obtain ⟨k, rfl, hk⟩ := fuel hk
    have hl := h.len
    have := h.at (show i < ss.length by omega)
    simp only [impl_ValidClaims.l0]
    rw [if_pos (by omega), if_pos (by omega), claimsM_length, if_pos (by omega), claimsM_rd (by omega)]
    simp only
    rw [if_neg (by omega), if_neg (by omega), if_neg (by omega), if_neg (by omega), wrap_succ (by omega)]
    exact ih k (i + 1) (by omega) (by omega)
/-- The sum of the first class. -/
theorem implPay_l0 (ss : List Int) (a x2 : Int) (h : Box ss a) (x3 : List Int) : ∀ (d k i : Nat), i + d = ss.length → 
    impl_payClass.l0 (k + d + 1) (claimsM ss) 0 x2 x3 (ss.take i).sum (claimsM ss) (ss.length : Int) (i : Int) = impl_payClass.l1 k (claimsM ss) 0 x2 x3 ss.sum (decide (x2 ≥ ss.sum)) x2 (claimsM ss) (ss.length : Int) 0 := by
  intro d
  induction d with
  | zero =>
    intro k i hi
    simp only [impl_payClass.l0]
    rw [if_neg (by omega)]
    have e : ss.take i = ss := List.take_of_length_le (by omega)
    rw [e, claimsM_length]
  | succ d ih =>
    intro k i hi
    have e : k + (d + 1) + 1 = (k + d + 1) + 1 := by omega
    have hl := h.len
    have h1 := h.at (show i < ss.length by omega)
    have h2 := h.sum i
    rw [e]
    generalize hq : k + d + 1 = q
    simp only [impl_payClass.l0]
    subst hq
    rw [if_pos (by omega), if_pos (by omega), claimsM_length, if_pos (by omega), claimsM_rd (by omega)]
    simp only [if_true]
    rw [wrap_succ (by omega), wrap_id (x := (ss.take i).sum + rd ss (i : Int)) (by omega) (by omega)]
    have := ih k (i + 1) (by omega)
    rw [take_rd (by omega), List.sum_append, List.sum_cons, List.sum_nil, Int.add_zero] at this
    exact this
theorem implPay_l0c (ss : List Int) (a x2 : Int) (c : Int) (hc : c ≠ 0) (hx : 0 ≤ x2) (h : Box ss a) (x3 : List Int) : ∀ (d k i : Nat), i + d = ss.length → 
    impl_payClass.l0 (k + d + 1) (claimsM ss) c x2 x3 0 (claimsM ss) (ss.length : Int) (i : Int) = impl_payClass.l1 k (claimsM ss) c x2 x3 0 true x2 (claimsM ss) (ss.length : Int) 0 := by
  intro d
  induction d with
  | zero =>
    intro k i hi
    simp only [impl_payClass.l0]
    rw [if_neg (by omega), claimsM_length, decide_eq_true (show x2 ≥ 0 from hx)]
  | succ d ih =>
    intro k i hi
    have e : k + (d + 1) + 1 = (k + d + 1) + 1 := by omega
    have hl := h.len
    rw [e]
    generalize hq : k + d + 1 = q
    simp only [impl_payClass.l0]
    subst hq
    rw [if_pos (by omega), if_pos (by omega), claimsM_length, if_pos (by omega), claimsM_rd (by omega)]
    simp only
    rw [if_neg (Ne.symm hc), wrap_succ (by omega)]
    exact ih k (i + 1) (by omega)
/-- All get their part: the whole stake. -/
theorem implPay_l1w (ss : List Int) (a : Int) (h : Box ss a) (S : Int) : ∀ (d k i : Nat), i + d = ss.length →
    impl_payClass.l1 (k + d + 1) (claimsM ss) 0 a (ss.take i ++ List.replicate d 0) S true (a - (ss.take i).sum) (claimsM ss) (ss.length : Int) (i : Int) = impl_payClass.l2 k 0 a ss S true (a - ss.sum) (claimsM ss) (ss.length : Int) 0 := by
  intro d
  induction d with
  | zero =>
    intro k i hi
    simp only [impl_payClass.l1]
    rw [if_neg (by omega)]
    have e : ss.take i = ss := List.take_of_length_le (by omega)
    rw [e, claimsM_length]; simp
  | succ d ih =>
    intro k i hi
    have e : k + (d + 1) + 1 = (k + d + 1) + 1 := by omega
    have hl := h.len
    have h1 := h.at (show i < ss.length by omega)
    have h2 := h.sum i
    have ha := h.a0
    have ha1 := h.a1
    have hti : (ss.take i).length = i := by simp; omega
    rw [e]
    generalize hq : k + d + 1 = q
    simp only [impl_payClass.l1]
    subst hq
    rw [if_pos (by omega), if_pos (by omega), claimsM_length, if_pos (by omega), claimsM_rd (by omega)]
    simp only [if_true]
    rw [if_pos (by simp; omega), toNat_cast, set_fill' hti, Option.bind_some]
    rw [wrap_succ (by omega)]
    have hr : rd (ss.take i ++ [rd ss (i : Int)] ++ List.replicate d 0) (i : Int) = rd ss (i : Int) := by
      rw [rd_append_l (by simp; omega), rd_append_r (by omega) (by simp; omega)]
      simp [hti, rd]
    rw [hr, wrap_id (x := a - (ss.take i).sum - rd ss (i : Int)) (by omega) (by omega)]
    have := ih k (i + 1) (by omega)
    rw [take_rd (by omega), List.sum_append, List.sum_cons, List.sum_nil, Int.add_zero] at this
    rw [← this, Int.sub_sub]
/-- A class that no claim is of. -/
theorem implPay_l1c (ss : List Int) (a x2 : Int) (c : Int) (hc : c ≠ 0) (h : Box ss a) (x3 : List Int) : ∀ (d k i : Nat), i + d = ss.length →
    impl_payClass.l1 (k + d + 1) (claimsM ss) c x2 x3 0 true x2 (claimsM ss) (ss.length : Int) (i : Int) = impl_payClass.l2 k c x2 x3 0 true x2 (claimsM ss) (ss.length : Int) 0 := by
  intro d
  induction d with
  | zero =>
    intro k i hi
    simp only [impl_payClass.l1]
    rw [if_neg (by omega), claimsM_length]
  | succ d ih =>
    intro k i hi
    have e : k + (d + 1) + 1 = (k + d + 1) + 1 := by omega
    have hl := h.len
    rw [e]
    generalize hq : k + d + 1 = q
    simp only [impl_payClass.l1]
    subst hq
    rw [if_pos (by omega), if_pos (by omega), claimsM_length, if_pos (by omega), claimsM_rd (by omega)]
    simp only
    rw [if_neg (Ne.symm hc), wrap_succ (by omega)]
    exact ih k (i + 1) (by omega)
theorem implPay_l2w (ss : List Int) (k : Nat) (c x2 S r : Int) (x3 : List Int) : impl_payClass.l2 (k + 2) c x2 x3 S true r (claimsM ss) (ss.length : Int) 0 = some (r, x3) := by
  simp only [impl_payClass.l2, impl_payClass.j3, if_true]
  by_cases h : (0 : Int) < (ss.length : Int)
  · rw [if_pos h, if_pos (by omega), claimsM_length, if_pos h]
  · rw [if_neg h]
/-- The parts, where the box does not hold all. -/
theorem implPay_l1p (ss : List Int) (a : Int) (h : Box ss a) (hS : 0 < ss.sum) : ∀ (d k i : Nat), i + d = ss.length →
    impl_payClass.l1 (k + d + 1) (claimsM ss) 0 a ((floorsM ss.sum a ss).take i ++ List.replicate d 0) ss.sum false (a - ((floorsM ss.sum a ss).take i).sum) (claimsM ss) (ss.length : Int) (i : Int) = impl_payClass.l2 k 0 a (floorsM ss.sum a ss) ss.sum false (a - (floorsM ss.sum a ss).sum) (claimsM ss) (ss.length : Int) 0 := by
  intro d
  induction d with
  | zero =>
    intro k i hi
    simp only [impl_payClass.l1]
    rw [if_neg (by omega)]
    have e : (floorsM ss.sum a ss).take i = floorsM ss.sum a ss := List.take_of_length_le (by rw [floorsM_length]; omega)
    rw [e, claimsM_length]; simp
  | succ d ih =>
    intro k i hi
    have e : k + (d + 1) + 1 = (k + d + 1) + 1 := by omega
    have hl := h.len
    have h1 := h.at (show i < ss.length by omega)
    have ha := h.a0
    have ha1 := h.a1
    have hti : ((floorsM ss.sum a ss).take i).length = i := by simp [floorsM_length]; omega
    have hfl : ∀ q : Nat, q < ss.length → 0 ≤ rd (floorsM ss.sum a ss) (q : Int) ∧ rd (floorsM ss.sum a ss) (q : Int) ≤ 100000000000 := by
      intro q hq
      have := h.at hq
      rw [floorsM_rd hq]
      exact ⟨Int.ediv_nonneg this.2.2.1 (by omega), Int.le_trans (Int.ediv_le_self _ this.2.2.1) this.2.2.2⟩
    have hsum : 0 ≤ ((floorsM ss.sum a ss).take i).sum ∧ ((floorsM ss.sum a ss).take i).sum ≤ 1200000000000 := by
      have := sum_bound ((floorsM ss.sum a ss).take i) 0 100000000000 (fun x hx => by
        obtain ⟨q, hq, rfl⟩ := mem_rd (List.mem_of_mem_take hx)
        exact hfl q (by rwa [floorsM_length] at hq))
      omega
    have hv := hfl i (by omega)
    rw [floorsM_rd (by omega)] at hv
    rw [e]
    generalize hq : k + d + 1 = q
    simp only [impl_payClass.l1]
    subst hq
    rw [if_pos (by omega), if_pos (by omega), claimsM_length, if_pos (by omega), claimsM_rd (by omega)]
    simp only [if_true]
    rw [if_pos (by simp [floorsM_length]; omega), toNat_cast, set_fill' hti, Option.bind_some]
    rw [if_neg (by decide), if_neg (by omega), Option.bind_some, wrap_succ (by omega), wrap_id (x := rd ss (i : Int) * a) (by omega) (by omega), Int.tdiv_eq_ediv_of_nonneg h1.2.2.1, wrap_id (x := rd ss (i : Int) * a / ss.sum) (by omega) (by omega)]
    have hset : ((floorsM ss.sum a ss).take i ++ [rd ss (i : Int)] ++ List.replicate d 0).set i (rd ss (i : Int) * a / ss.sum) = (floorsM ss.sum a ss).take i ++ [rd ss (i : Int) * a / ss.sum] ++ List.replicate d 0 := by
      rw [List.append_assoc, List.set_append_right _ _ (by omega), hti]
      simp
    rw [hset]
    have hr : rd ((floorsM ss.sum a ss).take i ++ [rd ss (i : Int) * a / ss.sum] ++ List.replicate d 0) (i : Int) = rd ss (i : Int) * a / ss.sum := by
      rw [rd_append_l (by simp [floorsM_length]; omega), rd_append_r (by omega) (by simp [floorsM_length]; omega)]
      simp [hti, rd]
    rw [hr, wrap_id (x := a - ((floorsM ss.sum a ss).take i).sum - rd ss (i : Int) * a / ss.sum) (by omega) (by omega)]
    have := ih k (i + 1) (by omega)
    rw [take_rd (by rw [floorsM_length]; omega), List.sum_append, floorsM_rd (by omega), List.sum_cons, List.sum_nil, Int.add_zero] at this
    rw [← this, Int.sub_sub]
/-- What is left, one to each. -/
theorem implPay_l2p (ss : List Int) (a : Int) (h : Box ss a) (hS : 0 < ss.sum) : ∀ (d k i : Nat) (x3 : List Int) (r : Int), i + d = ss.length → x3.length = ss.length → 0 ≤ r → r ≤ 1000000000 → r * ss.sum ≤ cutM ss.sum a (ss.drop i) → (∀ j : Nat, i ≤ j → j < ss.length → 0 ≤ rd x3 (j : Int) ∧ rd x3 (j : Int) ≤ 1000000000000) →
    impl_payClass.l2 (k + (d + d) + 2) 0 a x3 ss.sum false r (claimsM ss) (ss.length : Int) (i : Int) = some (0, x3.take i ++ bumpM ss.sum a (ss.drop i) (x3.drop i) r) := by
  intro d
  induction d with
  | zero =>
    intro k i x3 r hi hx h0 hb h1 hv
    have e1 : x3.drop i = [] := drop_end (by omega)
    have e2 : ss.drop i = [] := drop_end (by omega)
    rw [e2] at h1
    simp [cutM] at h1
    have : r = 0 := by
      rcases Int.lt_or_le 0 r with h4 | h4
      · have := Int.mul_pos h4 hS; omega
      · omega
    simp only [impl_payClass.l2]
    rw [if_neg (by omega), e1, e2, this]
    have e3 : x3.take i = x3 := List.take_of_length_le (by omega)
    simp [bumpM, e3]
  | succ d ih =>
    intro k i x3 r hi hx h0 hb h1 hv
    have e : k + (d + 1 + (d + 1)) + 2 = (k + (d + d) + 2) + 1 + 1 := by omega
    have hl := h.len
    have hat := h.at (show i < ss.length by omega)
    rw [e]
    generalize hq : k + (d + d) + 2 = q
    simp only [impl_payClass.l2, impl_payClass.j3]
    subst hq
    rw [if_pos (by omega), if_pos (by omega), claimsM_length, if_pos (by omega), claimsM_rd (by omega), if_neg (by decide)]
    simp only
    by_cases hr : r = 0
    · rw [if_pos (by rw [beq_iff_eq]; exact hr), hr, bumpM_zero, List.take_append_drop]
    · rw [if_neg (by rw [beq_iff_eq]; exact hr), if_pos trivial, if_neg (by omega), wrap_id (x := rd ss (i : Int) * a) (by omega) (by omega), Int.tmod_eq_emod_of_nonneg hat.2.2.1, wrap_succ (by omega)]
      rw [drop_rd (xs := ss) (i := i) (by omega), cutM_cons] at h1
      rw [drop_rd (xs := ss) (i := i) (by omega), drop_rd (xs := x3) (i := i) (by omega)]
      simp only [bumpM]
      by_cases hm : rd ss (i : Int) * a % ss.sum = 0
      · rw [if_pos hm, if_neg (fun hh => hh.2 hm), ih k (i + 1) x3 r (by omega) hx h0 hb (by omega) (fun j hj hj2 => hv j (by omega) hj2), take_rd (by omega), List.append_assoc]; rfl
      · have hm2 := Int.emod_lt_of_pos (rd ss (i : Int) * a) hS
        have hvi := hv i (by omega) (by omega)
        rw [if_neg hm, if_pos (by omega), if_pos (by omega), if_pos ⟨by omega, hm⟩, toNat_cast, wrap_id (x := r - 1) (by omega) (by omega), wrap_id (x := rd x3 (i : Int) + 1) (by omega) (by omega)]
        rw [ih k (i + 1) _ (r - 1) (by omega) (by simpa using hx) (by omega) (by omega) (by rw [Int.sub_mul]; omega) ?_, take_set_at _ _ _ (by omega), drop_set_at, List.append_assoc]
        · rfl
        · intro j hj hj2
          rw [rd_set_ne (by omega)]
          exact hv j (by omega) hj2
theorem implPayClass_zero (ss : List Int) (a : Int) (h : Box ss a) (k : Nat) (hk : 100 < k) : impl_payClass.f k (claimsM ss) 0 a (List.replicate ss.length 0) = some (a - min ss.sum a, payM ss a) := by
  unfold impl_payClass.f
  have hl := h.len
  have hw := h.whole
  have e : k = ((k - 2 * ss.length - 2) + ss.length + 1) + ss.length + 1 := by omega
  rw [e, claimsM_length]
  have h0 := implPay_l0 ss a a h (List.replicate ss.length 0) ss.length ((k - 2 * ss.length - 2) + ss.length + 1) 0 (by omega)
  rw [List.take_zero] at h0
  simp only [List.sum_nil, Int.natCast_zero] at h0
  try rw [cast0] at h0
  rw [h0]
  unfold payM
  by_cases hs : a ≥ ss.sum
  · rw [decide_eq_true hs, if_pos hs]
    have h1 := implPay_l1w ss a h ss.sum ss.length (k - 2 * ss.length - 2) 0 (by omega)
    simp only [List.take_zero, List.sum_nil, List.nil_append, Int.sub_zero] at h1
    try rw [cast0] at h1
    rw [h1]
    obtain ⟨k2, hk2⟩ : ∃ k2, k - 2 * ss.length - 2 = k2 + 2 := ⟨k - 2 * ss.length - 4, by omega⟩
    rw [hk2, implPay_l2w]
    congr 2; omega
  · rw [decide_eq_false hs, if_neg hs]
    have hS : 0 < ss.sum := by have := h.a0; omega
    have h1 := implPay_l1p ss a h hS ss.length (k - 2 * ss.length - 2) 0 (by omega)
    simp only [List.take_zero, List.sum_nil, List.nil_append, Int.sub_zero] at h1
    try rw [cast0] at h1
    rw [h1]
    obtain ⟨r0, r1⟩ := rest_facts (a := a) hS
    have ha := h.a1
    have hf0 : 0 ≤ (floorsM ss.sum a ss).sum := sum_nonneg (fun x hx => by
      obtain ⟨q, hq, rfl⟩ := mem_rd hx
      rw [floorsM_length] at hq
      rw [floorsM_rd hq]
      exact Int.ediv_nonneg (h.at hq).2.2.1 (by omega))
    have h2 := implPay_l2p ss a h hS ss.length (k - 2 * ss.length - 2 - (ss.length + ss.length) - 2) 0 (floorsM ss.sum a ss) (a - (floorsM ss.sum a ss).sum) (by omega) (floorsM_length _ _ _) r0 (by omega) (by rw [List.drop_zero]; omega) (fun j _ hj => by
      have := h.at hj
      rw [floorsM_rd hj]
      exact ⟨Int.ediv_nonneg this.2.2.1 (by omega), Int.le_trans (Int.ediv_le_self _ this.2.2.1) (by omega)⟩)
    have e2 : k - 2 * ss.length - 2 - (ss.length + ss.length) - 2 + (ss.length + ss.length) + 2 = k - 2 * ss.length - 2 := by omega
    rw [e2] at h2
    try rw [cast0] at h2
    rw [h2]
    simp only [List.take_zero, List.nil_append, List.drop_zero]
    congr 2; omega
theorem implPayClass_none (ss : List Int) (a x2 c : Int) (hc : c ≠ 0) (hx : 0 ≤ x2) (h : Box ss a) (x3 : List Int) (k : Nat) (hk : 100 < k) : impl_payClass.f k (claimsM ss) c x2 x3 = some (x2, x3) := by
  unfold impl_payClass.f
  have hl := h.len
  have e : k = ((k - 2 * ss.length - 4 + 2) + ss.length + 1) + ss.length + 1 := by omega
  rw [e, claimsM_length]
  have h0 := implPay_l0c ss a x2 c hc hx h x3 ss.length ((k - 2 * ss.length - 4 + 2) + ss.length + 1) 0 (by omega)
  try rw [cast0] at h0
  rw [h0]
  have h1 := implPay_l1c ss a x2 c hc h x3 ss.length (k - 2 * ss.length - 4 + 2) 0 (by omega)
  try rw [cast0] at h1
  rw [h1, implPay_l2w]
theorem implPayClaims_spec (ss : List Int) (a : Int) (h : Box ss a) (k : Nat) (hk : 200 < k) : impl_PayClaims.f k (claimsM ss) a = some (payM ss a) := by
  unfold impl_PayClaims.f impl_ValidClaims.f
  have hl := h.len
  have ha := h.a0
  have ha1 := h.a1
  have hw := h.whole
  obtain ⟨k, rfl⟩ : ∃ k2, k = k2 + 10 := ⟨k - 10, by omega⟩
  have hv := validClaims_spec ss h ss.length (k + 10) 0 (by omega) (by omega)
  try rw [cast0] at hv
  rw [claimsM_length, if_neg (by omega), hv]
  simp only [Option.bind_some, if_true]
  rw [if_neg (by omega), decide_eq_false (by omega)]
  simp only [impl_PayClaims.j0]
  rw [if_neg (by decide), claimsM_length, if_pos (by omega), if_pos (by omega), toNat_cast]
  simp only [impl_PayClaims.l0]
  rw [if_pos (by decide), implPayClass_zero ss a h _ (by omega)]
  simp only [Option.bind_some]
  rw [w01, if_pos (by decide), implPayClass_none ss a _ 1 (by decide) (by omega) h _ _ (by omega)]
  simp only [Option.bind_some]
  rw [w12, if_pos (by decide), implPayClass_none ss a _ 2 (by decide) (by omega) h _ _ (by omega)]
  simp only [Option.bind_some]
  rw [w23, if_pos (by decide), implPayClass_none ss a _ 3 (by decide) (by omega) h _ _ (by omega)]
  simp only [Option.bind_some]
  rw [w34, if_pos (by decide), implPayClass_none ss a _ 4 (by decide) (by omega) h _ _ (by omega)]
  simp only [Option.bind_some]
  rw [w45, if_neg (by decide)]

/-! ### payspec -/
theorem classSum_l0 (ss : List Int) {a : Int} (h : Box ss a) : ∀ (d k i : Nat), i + d = ss.length → d < k → spec_classSum.l0 k (claimsM ss) 0 (ss.take i).sum (i : Int) = some ss.sum := by
  intro d
  induction d with
  | zero =>
    intro k i hi hk
    obtain ⟨k, rfl, -⟩ := fuel hk
    simp only [spec_classSum.l0]
    have e : ss.take i = ss := List.take_of_length_le (by omega)
    rw [claimsM_length, if_neg (by omega), e]
  | succ d ih =>
    intro k i hi hk
    obtain ⟨k, rfl, hk⟩ := fuel hk
    have hl := h.len
    have h1 := h.at (show i < ss.length by omega)
    have h2 := h.sum i
    simp only [spec_classSum.l0]
    rw [claimsM_length, if_pos (by omega), if_pos (by omega), claimsM_rd (by omega)]
    simp only [if_true]
    rw [wrap_succ (by omega), wrap_id (x := (ss.take i).sum + rd ss (i : Int)) (by omega) (by omega)]
    have := ih k (i + 1) (by omega) (by omega)
    rw [take_rd (by omega), List.sum_append, List.sum_cons, List.sum_nil, Int.add_zero] at this
    exact this
theorem classSum_l0c (ss : List Int) {a : Int} (h : Box ss a) (c : Int) (hc : c ≠ 0) : ∀ (d k i : Nat), i + d = ss.length → d < k → spec_classSum.l0 k (claimsM ss) c 0 (i : Int) = some 0 := by
  intro d
  induction d with
  | zero =>
    intro k i hi hk
    obtain ⟨k, rfl, -⟩ := fuel hk
    simp only [spec_classSum.l0]
    rw [claimsM_length, if_neg (by omega)]
  | succ d ih =>
    intro k i hi hk
    obtain ⟨k, rfl, hk⟩ := fuel hk
    have hl := h.len
    simp only [spec_classSum.l0]
    rw [claimsM_length, if_pos (by omega), if_pos (by omega), claimsM_rd (by omega)]
    simp only
    rw [if_neg (Ne.symm hc), wrap_succ (by omega)]
    exact ih k (i + 1) (by omega) (by omega)
theorem classSum_spec (ss : List Int) {a : Int} (h : Box ss a) (k : Nat) (hk : 20 < k) (c : Int) : spec_classSum.f k (claimsM ss) c = some (if c = 0 then ss.sum else 0) := by
  unfold spec_classSum.f
  have hl := h.len
  by_cases hc : c = 0
  · rw [if_pos hc, hc]
    exact classSum_l0 ss h ss.length k 0 (by omega) (by omega)
  · rw [if_neg hc]
    exact classSum_l0c ss h c hc ss.length k 0 (by omega) (by omega)
theorem specPay_l0 (ss : List Int) (m : Int) (h : Box ss m) (hS : 0 < ss.sum) : ∀ (d k i : Nat), i + d = ss.length →
    spec_payClass.l0 (k + d + 1) (claimsM ss) 0 ((floorsM ss.sum m ss).take i ++ List.replicate d 0) ss.sum m (m - ((floorsM ss.sum m ss).take i).sum) (i : Int) = spec_payClass.l1 k (claimsM ss) 0 (floorsM ss.sum m ss) ss.sum m (m - (floorsM ss.sum m ss).sum) 0 := by
  intro d
  induction d with
  | zero =>
    intro k i hi
    simp only [spec_payClass.l0]
    have e : (floorsM ss.sum m ss).take i = floorsM ss.sum m ss := List.take_of_length_le (by rw [floorsM_length]; omega)
    rw [claimsM_length, if_neg (by omega), e]; simp
  | succ d ih =>
    intro k i hi
    have e : k + (d + 1) + 1 = (k + d + 1) + 1 := by omega
    have hl := h.len
    have h1 := h.at (show i < ss.length by omega)
    have ha := h.a0
    have ha1 := h.a1
    have hti : ((floorsM ss.sum m ss).take i).length = i := by simp [floorsM_length]; omega
    have hfl : ∀ q : Nat, q < ss.length → 0 ≤ rd (floorsM ss.sum m ss) (q : Int) ∧ rd (floorsM ss.sum m ss) (q : Int) ≤ 100000000000 := by
      intro q hq
      have := h.at hq
      rw [floorsM_rd hq]
      exact ⟨Int.ediv_nonneg this.2.2.1 (by omega), Int.le_trans (Int.ediv_le_self _ this.2.2.1) this.2.2.2⟩
    have hsum : 0 ≤ ((floorsM ss.sum m ss).take i).sum ∧ ((floorsM ss.sum m ss).take i).sum ≤ 1200000000000 := by
      have := sum_bound ((floorsM ss.sum m ss).take i) 0 100000000000 (fun x hx => by
        obtain ⟨q, hq, rfl⟩ := mem_rd (List.mem_of_mem_take hx)
        exact hfl q (by rwa [floorsM_length] at hq))
      omega
    have hv := hfl i (by omega)
    rw [floorsM_rd (by omega)] at hv
    rw [e]
    generalize hq : k + d + 1 = q
    simp only [spec_payClass.l0]
    subst hq
    rw [claimsM_length, if_pos (by omega), if_pos (by omega), claimsM_rd (by omega)]
    simp only [if_true]
    rw [if_pos (by omega), if_neg (by omega), if_pos (by simp [floorsM_length]; omega), toNat_cast, set_fill' hti, Option.bind_some]
    rw [wrap_succ (by omega), wrap_id (x := rd ss (i : Int) * m) (by omega) (by omega), Int.tdiv_eq_ediv_of_nonneg h1.2.2.1, wrap_id (x := rd ss (i : Int) * m / ss.sum) (by omega) (by omega)]
    have hr : rd ((floorsM ss.sum m ss).take i ++ [rd ss (i : Int) * m / ss.sum] ++ List.replicate d 0) (i : Int) = rd ss (i : Int) * m / ss.sum := by
      rw [rd_append_l (by simp [floorsM_length]; omega), rd_append_r (by omega) (by simp [floorsM_length]; omega)]
      simp [hti, rd]
    rw [hr, wrap_id (x := m - ((floorsM ss.sum m ss).take i).sum - rd ss (i : Int) * m / ss.sum) (by omega) (by omega)]
    have := ih k (i + 1) (by omega)
    rw [take_rd (by rw [floorsM_length]; omega), List.sum_append, floorsM_rd (by omega), List.sum_cons, List.sum_nil, Int.add_zero] at this
    rw [← this, Int.sub_sub]
theorem specPay_l1 (ss : List Int) (m : Int) (h : Box ss m) (hS : 0 < ss.sum) : ∀ (d k i : Nat) (x3 : List Int) (r : Int), i + d = ss.length → d < k → x3.length = ss.length → 0 ≤ r → r ≤ 1000000000 → (∀ j : Nat, i ≤ j → j < ss.length → 0 ≤ rd x3 (j : Int) ∧ rd x3 (j : Int) ≤ 1000000000000) →
    spec_payClass.l1 k (claimsM ss) 0 x3 ss.sum m r (i : Int) = some (x3.take i ++ bumpM ss.sum m (ss.drop i) (x3.drop i) r) := by
  intro d
  induction d with
  | zero =>
    intro k i x3 r hi hk hx h0 hb hv
    obtain ⟨k, rfl, -⟩ := fuel hk
    have e1 : x3.drop i = [] := drop_end (by omega)
    have e2 : ss.drop i = [] := drop_end (by omega)
    have e3 : x3.take i = x3 := List.take_of_length_le (by omega)
    simp only [spec_payClass.l1]
    rw [claimsM_length, if_neg (by omega), e1, e2, e3]
    simp [bumpM]
  | succ d ih =>
    intro k i x3 r hi hk hx h0 hb hv
    obtain ⟨k, rfl, hk⟩ := fuel hk
    have hl := h.len
    have hat := h.at (show i < ss.length by omega)
    simp only [spec_payClass.l1]
    rw [claimsM_length, if_pos (by omega), if_pos (by omega), claimsM_rd (by omega)]
    simp only [if_true]
    rw [drop_rd (xs := ss) (i := i) (by omega), drop_rd (xs := x3) (i := i) (by omega), wrap_succ (by omega)]
    simp only [bumpM]
    have stay : spec_payClass.l1 k (claimsM ss) 0 x3 ss.sum m r ((i + 1 : Nat) : Int) = some (x3.take i ++ rd x3 (i : Int) :: bumpM ss.sum m (ss.drop (i + 1)) (x3.drop (i + 1)) r) := by
      rw [ih k (i + 1) x3 r (by omega) (by omega) hx h0 hb (fun j hj hj2 => hv j (by omega) hj2), take_rd (by omega), List.append_assoc]; rfl
    have hm1 := Int.emod_nonneg (rd ss (i : Int) * m) (b := ss.sum) (by omega)
    by_cases hr : r > 0
    · rw [if_pos hr, if_neg (by omega), wrap_id (x := rd ss (i : Int) * m) (by omega) (by omega), Int.tmod_eq_emod_of_nonneg hat.2.2.1]
      by_cases hm : rd ss (i : Int) * m % ss.sum = 0
      · rw [if_neg (by omega), if_neg (fun hh => hh.2 hm)]
        exact stay
      · have hvi := hv i (by omega) (by omega)
        rw [if_pos (by omega), if_pos (by omega), if_pos ⟨by omega, hm⟩, toNat_cast, wrap_id (x := r - 1) (by omega) (by omega), wrap_id (x := rd x3 (i : Int) + 1) (by omega) (by omega)]
        rw [ih k (i + 1) _ (r - 1) (by omega) (by omega) (by simpa using hx) (by omega) (by omega) ?_, take_set_at _ _ _ (by omega), drop_set_at, List.append_assoc]
        · rfl
        · intro j hj hj2
          rw [rd_set_ne (by omega)]
          exact hv j (by omega) hj2
    · rw [if_neg hr, if_neg (fun hh => hr (by omega))]
      exact stay
/-- A class of which nobody is (or of no sum): nothing changes. -/
theorem specPay_l0c (ss : List Int) {a : Int} (h : Box ss a) (c S m r : Int) (hc : c ≠ 0 ∨ S = 0) (x3 : List Int) : ∀ (d k i : Nat), i + d = ss.length →
    spec_payClass.l0 (k + d + 1) (claimsM ss) c x3 S m r (i : Int) = spec_payClass.l1 k (claimsM ss) c x3 S m r 0 := by
  intro d
  induction d with
  | zero =>
    intro k i hi
    simp only [spec_payClass.l0]
    rw [claimsM_length, if_neg (by omega)]
  | succ d ih =>
    intro k i hi
    have e : k + (d + 1) + 1 = (k + d + 1) + 1 := by omega
    have hl := h.len
    rw [e]
    generalize hq : k + d + 1 = q
    simp only [spec_payClass.l0]
    subst hq
    rw [claimsM_length, if_pos (by omega), if_pos (by omega), claimsM_rd (by omega), wrap_succ (by omega)]
    simp only
    rcases hc with hc | hc
    · rw [if_neg (Ne.symm hc)]
      exact ih k (i + 1) (by omega)
    · by_cases hc0 : 0 = c
      · rw [if_pos hc0, if_neg (by omega)]
        exact ih k (i + 1) (by omega)
      · rw [if_neg hc0]
        exact ih k (i + 1) (by omega)
theorem specPay_l1c (ss : List Int) {a : Int} (h : Box ss a) (c S m : Int) (x3 : List Int) : ∀ (d k i : Nat), i + d = ss.length → d < k →
    spec_payClass.l1 k (claimsM ss) c x3 S m 0 (i : Int) = some x3 := by
  intro d
  induction d with
  | zero =>
    intro k i hi hk
    obtain ⟨k, rfl, -⟩ := fuel hk
    simp only [spec_payClass.l1]
    rw [claimsM_length, if_neg (by omega)]
  | succ d ih =>
    intro k i hi hk
    obtain ⟨k, rfl, hk⟩ := fuel hk
    have hl := h.len
    simp only [spec_payClass.l1]
    rw [claimsM_length, if_pos (by omega), if_pos (by omega), claimsM_rd (by omega), wrap_succ (by omega)]
    simp only
    by_cases hc0 : 0 = c
    · rw [if_pos hc0, if_neg (by omega)]
      exact ih k (i + 1) (by omega) (by omega)
    · rw [if_neg hc0]
      exact ih k (i + 1) (by omega) (by omega)
theorem payM_min {ss : List Int} {a : Int} (hS : 0 < ss.sum) (h : Box ss a) : payM ss a = bumpM ss.sum (min ss.sum a) ss (floorsM ss.sum (min ss.sum a) ss) (min ss.sum a - (floorsM ss.sum (min ss.sum a) ss).sum) := by
  unfold payM
  by_cases hs : a ≥ ss.sum
  · rw [if_pos hs]
    have e : min ss.sum a = ss.sum := by omega
    have e2 : floorsM ss.sum ss.sum ss = ss := by
      apply ext_rd (floorsM_length _ _ _)
      intro i hi
      rw [floorsM_length] at hi
      rw [floorsM_rd hi, Int.mul_ediv_cancel _ (by omega)]
    rw [e, e2, Int.sub_self, bumpM_zero]
  · rw [if_neg hs]
    have e : min ss.sum a = a := by omega
    rw [e]
theorem specPayClass_zero (ss : List Int) (a : Int) (h : Box ss a) (k : Nat) (hk : 100 < k) : spec_payClass.f k (claimsM ss) 0 a (List.replicate ss.length 0) = some (payM ss a) := by
  unfold spec_payClass.f
  have hl := h.len
  have hw := h.whole
  have ha := h.a0
  have ha1 := h.a1
  rw [classSum_spec ss h k (by omega), if_pos rfl]
  simp only [Option.bind_some, mn_min]
  have e : k = (k - ss.length - 1) + ss.length + 1 := by omega
  by_cases hS : 0 < ss.sum
  · rw [payM_min hS h]
    have hb : Box ss (min ss.sum a) := ⟨h.len, h.val, by omega, by omega⟩
    have h0 := specPay_l0 ss (min ss.sum a) hb hS ss.length (k - ss.length - 1) 0 (by omega)
    simp only [List.take_zero, List.sum_nil, List.nil_append, Int.sub_zero] at h0
    rw [← e] at h0
    try rw [cast0] at h0
    rw [h0]
    obtain ⟨r0, r1⟩ := rest_facts (a := min ss.sum a) hS
    have hf0 : 0 ≤ (floorsM ss.sum (min ss.sum a) ss).sum := sum_nonneg (fun x hx => by
      obtain ⟨q, hq, rfl⟩ := mem_rd hx
      rw [floorsM_length] at hq
      rw [floorsM_rd hq]
      exact Int.ediv_nonneg (hb.at hq).2.2.1 (by omega))
    have h2 := specPay_l1 ss (min ss.sum a) hb hS ss.length (k - ss.length - 1) 0 (floorsM ss.sum (min ss.sum a) ss) (min ss.sum a - (floorsM ss.sum (min ss.sum a) ss).sum) (by omega) (by omega) (floorsM_length _ _ _) r0 (by omega) (fun j _ hj => by
      have := hb.at hj
      rw [floorsM_rd hj]
      exact ⟨Int.ediv_nonneg this.2.2.1 (by omega), Int.le_trans (Int.ediv_le_self _ this.2.2.1) (by omega)⟩)
    try rw [cast0] at h2
    rw [h2]
    simp
  · have hS0 : ss.sum = 0 := by omega
    have hall : ss = List.replicate ss.length 0 := by
      apply ext_rd (by simp)
      intro i hi
      rw [rd_replicate hi]
      have hs := h.val
      have : ∀ (xs : List Int), (∀ x ∈ xs, 0 ≤ x) → xs.sum = 0 → ∀ x ∈ xs, x = 0 := by
        intro xs
        induction xs with
        | nil => intro _ _ x hx; simp at hx
        | cons y ys ih =>
          intro hp hsum x hx
          have h1 := hp y (by simp)
          have h2 : 0 ≤ ys.sum := sum_nonneg (fun z hz => hp z (List.mem_cons_of_mem _ hz))
          rw [List.sum_cons] at hsum
          rcases List.mem_cons.1 hx with rfl | hx
          · omega
          · exact ih (fun z hz => hp z (by simp [hz])) (by omega) x hx
      exact this ss (fun x hx => (hs x hx).1) hS0 _ (rd_mem hi)
    have hp : payM ss a = List.replicate ss.length 0 := by unfold payM; rw [if_pos (by omega)]; exact hall
    have hm : min ss.sum a = 0 := by omega
    have h0 := specPay_l0c ss h 0 ss.sum 0 0 (.inr hS0) (List.replicate ss.length 0) ss.length (k - ss.length - 1) 0 (by omega)
    rw [← e] at h0
    rw [hm, hp]
    rw [cast0] at h0
    rw [h0]
    exact specPay_l1c ss h 0 _ 0 _ ss.length _ 0 (by omega) (by omega)
theorem specPayClass_none (ss : List Int) (a x1 c : Int) (hx : 0 ≤ x1) (hc : c ≠ 0) (h : Box ss a) (x3 : List Int) (k : Nat) (hk : 100 < k) : spec_payClass.f k (claimsM ss) c x1 x3 = some x3 := by
  unfold spec_payClass.f
  have hl := h.len
  rw [classSum_spec ss h k (by omega), if_neg hc]
  simp only [Option.bind_some, mn_min]
  have e : k = (k - ss.length - 1) + ss.length + 1 := by omega
  have hm : min 0 x1 = 0 := by omega
  rw [hm, e]
  have h0 := specPay_l0c ss h c 0 0 0 (.inl hc) x3 ss.length (k - ss.length - 1) 0 (by omega)
  try rw [cast0] at h0
  rw [h0]
  exact specPay_l1c ss h c _ 0 _ ss.length _ 0 (by omega) (by omega)
theorem specPay_spec (ss : List Int) (a : Int) (h : Box ss a) (k : Nat) (hk : 200 < k) : spec_pay.f k (claimsM ss) a = some (payM ss a) := by
  unfold spec_pay.f
  have hl := h.len
  have ha := h.a0
  have ha1 := h.a1
  have hw := h.whole
  obtain ⟨k, rfl⟩ : ∃ k2, k = k2 + 10 := ⟨k - 10, by omega⟩
  rw [claimsM_length, if_pos (by omega), if_pos (by omega), toNat_cast]
  simp only [spec_pay.l0]
  rw [if_pos (by decide), specPayClass_zero ss a h _ (by omega)]
  simp only [Option.bind_some]
  rw [classSum_spec ss h _ (by omega), if_pos rfl]
  simp only [Option.bind_some, mx_max]
  have hx : 0 ≤ max 0 (wrap64 (a - ss.sum)) := by omega
  generalize max 0 (wrap64 (a - ss.sum)) = x at hx ⊢
  rw [w01, if_pos (by decide), specPayClass_none ss a _ 1 (by omega) (by decide) h _ _ (by omega)]
  simp only [Option.bind_some]
  rw [classSum_spec ss h _ (by omega), if_neg (by decide)]
  simp only [Option.bind_some]
  have hx : 0 ≤ max 0 (wrap64 (x - 0)) := by omega
  generalize max 0 (wrap64 (x - 0)) = x at hx ⊢
  rw [w12, if_pos (by decide), specPayClass_none ss a _ 2 (by omega) (by decide) h _ _ (by omega)]
  simp only [Option.bind_some]
  rw [classSum_spec ss h _ (by omega), if_neg (by decide)]
  simp only [Option.bind_some]
  have hx : 0 ≤ max 0 (wrap64 (x - 0)) := by omega
  generalize max 0 (wrap64 (x - 0)) = x at hx ⊢
  rw [w23, if_pos (by decide), specPayClass_none ss a _ 3 (by omega) (by decide) h _ _ (by omega)]
  simp only [Option.bind_some]
  rw [classSum_spec ss h _ (by omega), if_neg (by decide)]
  simp only [Option.bind_some]
  have hx : 0 ≤ max 0 (wrap64 (x - 0)) := by omega
  generalize max 0 (wrap64 (x - 0)) = x at hx ⊢
  rw [w34, if_pos (by decide), specPayClass_none ss a _ 4 (by omega) (by decide) h _ _ (by omega)]
  simp only [Option.bind_some]
  rw [classSum_spec ss h _ (by omega), if_neg (by decide)]
  simp only [Option.bind_some]
  rw [w45, if_neg (by decide)]

/-! ### ranges -/
theorem inRange_spec (a lo up : Int) : spec_inRange.f a lo up = some (decide (lo ≤ a ∧ a ≤ up)) := by
  unfold spec_inRange.f
  by_cases h : lo ≤ a <;> simp [h]
theorem allIn_l0 (xs : List Int) (lo up : Int) (hb : xs.length < 4611686018427387904) : ∀ (d k i : Nat), i + d = xs.length → d < k → spec_allIn.l0 k xs lo up (i : Int) = some ((xs.drop i).all fun x => decide (lo ≤ x ∧ x ≤ up)) := by
  intro d
  induction d with
  | zero =>
    intro k i hi hk
    obtain ⟨k, rfl, -⟩ := fuel hk
    simp only [spec_allIn.l0]
    rw [if_neg (by omega), drop_end (by omega)]
    simp
  | succ d ih =>
    intro k i hi hk
    obtain ⟨k, rfl, hk⟩ := fuel hk
    simp only [spec_allIn.l0]
    rw [if_pos (by omega), if_pos (by omega), inRange_spec, wrap_succ (by omega), drop_rd (by omega)]
    simp only [Option.bind_some, List.all_cons]
    rw [ih k (i + 1) (by omega) (by omega)]
    cases decide (lo ≤ rd xs (i : Int) ∧ rd xs (i : Int) ≤ up) <;> simp
theorem allIn_spec (k : Nat) (xs : List Int) (lo up : Int) (hb : xs.length < 4611686018427387904) (hk : xs.length < k) : spec_allIn.f k xs lo up = some (xs.all fun x => decide (lo ≤ x ∧ x ≤ up)) := by
  unfold spec_allIn.f
  have := allIn_l0 xs lo up hb xs.length k 0 (by omega) hk
  simpa using this

/-! ### within -/
theorem allWithin_l0 (xs : List Int) (lo up : Int) (hb : xs.length < 4611686018427387904) : ∀ (d k i : Nat), i + d = xs.length → d < k → impl_allWithin.l0 k lo up xs (xs.length : Int) (i : Int) = some ((xs.drop i).all fun x => decide (lo ≤ x ∧ x ≤ up)) := by
  intro d
  induction d with
  | zero =>
    intro k i hi hk
    obtain ⟨k, rfl, -⟩ := fuel hk
    simp only [impl_allWithin.l0]
    rw [if_neg (by omega), drop_end (by omega)]
    simp
  | succ d ih =>
    intro k i hi hk
    obtain ⟨k, rfl, hk⟩ := fuel hk
    simp only [impl_allWithin.l0]
    rw [if_pos (by omega), if_pos (by omega), if_pos (by omega), wrap_succ (by omega), drop_rd (by omega)]
    simp only [List.all_cons]
    rw [ih k (i + 1) (by omega) (by omega)]
    by_cases h1 : rd xs (i : Int) < lo
    · rw [if_pos h1, decide_eq_false (by omega)]; rfl
    · rw [if_neg h1]
      by_cases h2 : rd xs (i : Int) > up
      · rw [if_pos h2, decide_eq_false (by omega)]; rfl
      · rw [if_neg h2, decide_eq_true (by omega)]; rfl
theorem allWithin_spec (k : Nat) (xs : List Int) (lo up : Int) (hb : xs.length < 4611686018427387904) (hk : xs.length < k) : impl_allWithin.f k xs lo up = some (xs.all fun x => decide (lo ≤ x ∧ x ≤ up)) := by
  unfold impl_allWithin.f
  have := allWithin_l0 xs lo up hb xs.length k 0 (by omega) hk
  simpa using this

/-! ### stakes -/
def OkStakes (stakes : List Int) : Prop := 1 ≤ stakes.length ∧ stakes.length ≤ 12 ∧ ∀ x ∈ stakes, 0 ≤ x ∧ x ≤ 100000
instance (stakes : List Int) : Decidable (OkStakes stakes) := inferInstanceAs (Decidable (_ ∧ _))
theorem implStakes_spec (k : Nat) (stakes : List Int) (hk : 20 < k) : impl_validStakes.f k stakes = some (decide (OkStakes stakes)) := by
  unfold impl_validStakes.f
  by_cases h1 : (stakes.length : Int) ≥ 1
  · rw [if_pos h1]
    by_cases h2 : (stakes.length : Int) ≤ 12
    · rw [if_pos h2, allWithin_spec _ _ _ _ (by omega) (by omega)]
      simp only [Option.bind_some]
      congr 1
      rw [Bool.eq_iff_iff, List.all_eq_true, decide_eq_true_eq]
      exact ⟨fun h => ⟨by omega, by omega, fun x hx => by simpa using h x hx⟩, fun h x hx => by simpa using h.2.2 x hx⟩
    · rw [if_neg h2, decide_eq_false]; rintro ⟨-, h, -⟩; omega
  · rw [if_neg h1, decide_eq_false]; rintro ⟨h, -⟩; omega
theorem specStakes_spec (k : Nat) (stakes : List Int) (hk : 20 < k) : spec_validStakes.f k stakes = some (decide (OkStakes stakes)) := by
  unfold spec_validStakes.f
  rw [inRange_spec]
  simp only [Option.bind_some]
  by_cases h1 : 1 ≤ (stakes.length : Int) ∧ (stakes.length : Int) ≤ 12
  · rw [decide_eq_true h1, if_pos rfl, allIn_spec _ _ _ _ (by omega) (by omega)]
    simp only [Option.bind_some]
    congr 1
    rw [Bool.eq_iff_iff, List.all_eq_true, decide_eq_true_eq]
    exact ⟨fun h => ⟨by omega, by omega, fun x hx => by simpa using h x hx⟩, fun h x hx => by simpa using h.2.2 x hx⟩
  · rw [decide_eq_false h1, if_neg (by decide), decide_eq_false]; rintro ⟨h2, h3, -⟩; exact h1 ⟨by omega, by omega⟩

/-! ### split -/
def splitM (g : Int) (m : Nat) : List Int := (List.range m).map fun i : Nat => g / (m : Int) + if (i : Int) < g % (m : Int) then 1 else 0
theorem splitM_length (g : Int) (m : Nat) : (splitM g m).length = m := by simp [splitM]
theorem splitM_rd {g : Int} {m i : Nat} (h : i < m) : rd (splitM g m) (i : Int) = g / (m : Int) + if (i : Int) < g % (m : Int) then 1 else 0 := rd_mapRange h
theorem sum_steps (a r : Int) (hr : 0 ≤ r) : ∀ m : Nat, ((List.range m).map fun i : Nat => a + if (i : Int) < r then 1 else 0).sum = (m : Int) * a + min (m : Int) r := by
  intro m
  induction m with
  | zero => simp; omega
  | succ m ih =>
    rw [List.range_succ, List.map_append, List.sum_append, ih]
    have e : ((m + 1 : Nat) : Int) * a = (m : Int) * a + a := by push_cast; rw [Int.add_mul]; omega
    rw [e]
    simp only [List.map_cons, List.map_nil, List.sum_cons, List.sum_nil]
    split <;> omega
theorem splitM_sum {g : Int} {m : Nat} (hm : 0 < m) : (splitM g m).sum = g := by
  unfold splitM
  rw [sum_steps _ _ (Int.emod_nonneg _ (by omega))]
  have h1 := Int.emod_lt_of_pos g (b := (m : Int)) (by omega)
  have h2 := Int.mul_ediv_add_emod g (m : Int)
  rw [show min (m : Int) (g % (m : Int)) = g % (m : Int) by omega]
  omega
theorem splitM_bound {g : Int} {m : Nat} (hm : 0 < m) (hg : 0 ≤ g) : ∀ x ∈ splitM g m, 0 ≤ x ∧ x ≤ g := by
  intro x hx
  obtain ⟨i, hi, rfl⟩ := mem_rd hx
  rw [splitM_length] at hi
  rw [splitM_rd hi]
  have h0 := Int.ediv_nonneg hg (show (0 : Int) ≤ m by omega)
  have h2 := Int.mul_ediv_add_emod g (m : Int)
  have h3 : g / (m : Int) ≤ (m : Int) * (g / (m : Int)) := by
    have : (1 : Int) * (g / (m : Int)) ≤ (m : Int) * (g / (m : Int)) := Int.mul_le_mul_of_nonneg_right (by omega) h0
    omega
  have h4 := Int.emod_lt_of_pos g (b := (m : Int)) (by omega)
  have h5 := Int.emod_nonneg g (b := (m : Int)) (by omega)
  split <;> omega

/-! ### spliteven -/
theorem range_map_succ {f : Nat → Int} (i : Nat) : (List.range (i + 1)).map f = (List.range i).map f ++ [f i] := by
  rw [List.range_succ, List.map_append]; rfl
theorem split_val {g : Int} {m : Nat} (hg : 0 ≤ g) (hg2 : g ≤ 1000000) (hm : 0 < m) (hm2 : m ≤ 12) :
    wrap64 (Int.tdiv g (m : Int)) = g / (m : Int) ∧ Int.tmod g (m : Int) = g % (m : Int) ∧ 0 ≤ g / (m : Int) ∧ g / (m : Int) ≤ 1000000 := by
  have h1 := Int.ediv_nonneg hg (show (0 : Int) ≤ m by omega)
  have h2 : g / (m : Int) ≤ g := Int.ediv_le_self _ hg
  rw [Int.tdiv_eq_ediv_of_nonneg hg, Int.tmod_eq_emod_of_nonneg hg]
  exact ⟨wrap_id (by omega) (by omega), rfl, h1, by omega⟩
theorem implSplit_l0 (g : Int) (m : Nat) (hg : 0 ≤ g) (hg2 : g ≤ 1000000) (hm : 0 < m) (hm2 : m ≤ 12) : ∀ (d k i : Nat), i + d = m → d < k →
    impl_SplitEven.l0 k g (m : Int) (((List.range i).map fun j : Nat => g / (m : Int) + if (j : Int) < g % (m : Int) then 1 else 0) ++ List.replicate d 0) (m : Int) (i : Int) = some (splitM g m) := by
  obtain ⟨e1, e2, e3, e4⟩ := split_val hg hg2 hm hm2
  intro d
  induction d with
  | zero =>
    intro k i hi hk
    obtain ⟨k, rfl, -⟩ := fuel hk
    simp only [impl_SplitEven.l0]
    rw [if_neg (by omega)]
    obtain rfl : i = m := by omega
    simp [splitM]
  | succ d ih =>
    intro k i hi hk
    obtain ⟨k, rfl, hk⟩ := fuel hk
    simp only [impl_SplitEven.l0]
    rw [if_pos (by omega), if_neg (by omega), if_pos (by omega), if_pos (by simp; omega), e1, e2, toNat_cast, wrap_succ (by omega)]
    simp only [Option.bind_some]
    rw [set_fill' (by simp)]
    have hr : rd (List.map (fun j : Nat => g / (m : Int) + if (j : Int) < g % (m : Int) then 1 else 0) (List.range i) ++ [g / (m : Int)] ++ List.replicate d 0) (i : Int) = g / (m : Int) := by
      rw [rd_append_l (by simp), rd_append_r (by simp) (by simp)]
      simp [rd]
    have := ih k (i + 1) (by omega) (by omega)
    rw [range_map_succ] at this
    by_cases h : (i : Int) < g % (m : Int)
    · rw [if_pos h] at this
      rw [if_pos h, hr, wrap_id (by omega) (by omega), List.append_assoc, List.set_append_right _ _ (by simp)]
      simp only [List.length_map, List.length_range, Nat.sub_self, List.singleton_append, List.set_cons_zero]
      rw [← this, List.append_assoc]; rfl
    · rw [if_neg h, Int.add_zero] at this
      rw [if_neg h]
      exact this
theorem implSplit_spec (k : Nat) (hk : 14 < k) (g : Int) (m : Int) : impl_SplitEven.f k g m = some (if 0 ≤ g ∧ g ≤ 1000000 ∧ 1 ≤ m ∧ m ≤ 12 then splitM g m.toNat else []) := by
  obtain ⟨k, rfl, hk⟩ := fuel hk
  unfold impl_SplitEven.f
  simp only [impl_SplitEven.j0, if_true]
  by_cases h1 : g < 0
  · rw [if_pos h1, if_neg (by omega)]
  · rw [if_neg h1]
    by_cases h2 : g > 1000000
    · rw [if_pos h2, if_neg (by omega)]
    · rw [if_neg h2]
      by_cases h3 : m < 1
      · rw [if_pos h3, if_neg (by omega)]
      · rw [if_neg h3]
        by_cases h4 : m > 12
        · rw [decide_eq_true h4, if_pos rfl, if_neg (by omega)]
        · rw [decide_eq_false h4, if_neg (by decide), if_pos (by omega), if_pos (by omega), if_pos (by omega)]
          obtain ⟨m, rfl⟩ := Int.eq_ofNat_of_zero_le (show 0 ≤ m by omega)
          simp only [Option.bind_some, Int.toNat_natCast, List.length_replicate]
          have := implSplit_l0 g m (by omega) (by omega) (by omega) (by omega) m k 0 (by omega) (by omega)
          simpa using this
theorem specSplit_l0 (g : Int) (m : Nat) (hg : 0 ≤ g) (hg2 : g ≤ 1000000) (hm : 0 < m) (hm2 : m ≤ 12) : ∀ (d k i : Nat), i + d = m → d < k →
    spec_split.l0 k g (m : Int) ((List.range i).map fun j : Nat => g / (m : Int) + if (j : Int) < g % (m : Int) then 1 else 0) (i : Int) = some (splitM g m) := by
  obtain ⟨e1, e2, e3, e4⟩ := split_val hg hg2 hm hm2
  intro d
  induction d with
  | zero =>
    intro k i hi hk
    obtain ⟨k, rfl, -⟩ := fuel hk
    simp only [spec_split.l0]
    rw [if_neg (by omega)]
    obtain rfl : i = m := by omega
    simp [splitM]
  | succ d ih =>
    intro k i hi hk
    obtain ⟨k, rfl, hk⟩ := fuel hk
    simp only [spec_split.l0]
    rw [if_pos (by omega), if_neg (by omega), e1, e2, wrap_succ (by omega)]
    have := ih k (i + 1) (by omega) (by omega)
    rw [range_map_succ] at this
    by_cases h : (i : Int) < g % (m : Int)
    · rw [if_pos h] at this
      rw [if_pos h, if_pos (by simp; omega), wrap_id (x := g / (m : Int) + 1) (by omega) (by omega)]
      exact this
    · rw [if_neg h, Int.add_zero] at this
      rw [if_neg h, if_pos (by simp; omega)]
      exact this
theorem specSplit_spec (k : Nat) (g : Int) (m : Nat) (hg : 0 ≤ g) (hg2 : g ≤ 1000000) (hm : 0 < m) (hm2 : m ≤ 12) (hk : m < k) : spec_split.f k g (m : Int) = some (splitM g m) := by
  unfold spec_split.f
  have := specSplit_l0 g m hg hg2 hm hm2 m k 0 (by omega) hk
  simpa using this

/-! ### sumof -/
theorem sumOf_l0 (xs : List Int) (hb : xs.length < 4611686018427387904) : ∀ (d k i : Nat) (acc : Int), i + d = xs.length → d < k → wrap64 acc = acc → impl_sumOf.l0 k acc xs (xs.length : Int) (i : Int) = some (wrap64 (acc + (xs.drop i).sum)) := by
  intro d
  induction d with
  | zero =>
    intro k i acc hi hk ha
    obtain ⟨k, rfl, -⟩ := fuel hk
    simp only [impl_sumOf.l0]
    rw [if_neg (by omega), drop_end (by omega)]
    simp [ha]
  | succ d ih =>
    intro k i acc hi hk ha
    obtain ⟨k, rfl, hk⟩ := fuel hk
    simp only [impl_sumOf.l0]
    rw [if_pos (by omega), if_pos (by omega), if_pos (by omega), wrap_succ (by omega), ih k (i + 1) _ (by omega) (by omega) (wrap_wrap _), wrap_add_l, drop_rd (i := i) (by omega), List.sum_cons, Int.add_assoc]
theorem sumOf_spec (k : Nat) (xs : List Int) (hb : xs.length < 4611686018427387904) (hk : xs.length < k) : impl_sumOf.f k xs = some (wrap64 xs.sum) := by
  unfold impl_sumOf.f
  have := sumOf_l0 xs hb xs.length k 0 0 (by omega) hk (wrap_id (by omega) (by omega))
  simpa using this

/-! ### dissolve -/
def zipM (a b : List Int) : List Int := (List.range a.length).map fun j : Nat => rd a (j : Int) + rd b (j : Int)
def dissolveM (ss : List Int) (a : Int) : List Int :=
  if OkStakes ss ∧ 0 ≤ a ∧ a ≤ 1000000 then zipM (payM ss a) (splitM (a - min ss.sum a) ss.length) else []
theorem OkStakes.box {ss : List Int} {a : Int} (h : OkStakes ss) (h0 : 0 ≤ a) (h1 : a ≤ 1000000) : Box ss a := ⟨h.2.1, h.2.2, h0, h1⟩
theorem claims_fill (ss : List Int) {i : Nat} (h : i < ss.length) : claimsM (ss.take i) ++ [(⟨0, rd ss (i : Int)⟩ : S48)] = claimsM (ss.take (i + 1)) := by
  rw [take_rd h]; simp [claimsM]
theorem zip_loop (n : Nat) (a b : List Int) (ha : a.length = n) (hb : b.length = n) (hn : n ≤ 12) (hav : ∀ j : Nat, j < n → 0 ≤ rd a (j : Int) ∧ rd a (j : Int) ≤ 1000000) (hbv : ∀ j : Nat, j < n → 0 ≤ rd b (j : Int) ∧ rd b (j : Int) ≤ 1000000) :
    ∀ (d k i : Nat) (x : List Int), i + d = n → x.length = n → (∀ j : Nat, j < n → rd x (j : Int) = if j < i then rd a (j : Int) + rd b (j : Int) else rd a (j : Int)) → d < k →
    impl_Dissolve.l1 k x b (n : Int) (i : Int) = some (zipM a b) ∧ spec_Dissolve.l1 k x b (i : Int) = some (zipM a b) := by
  intro d
  induction d with
  | zero =>
    intro k i x hi hx hq hk
    obtain ⟨k, rfl, -⟩ := fuel hk
    have e : x = zipM a b := by
      apply ext_rd (by simp [zipM, hx, ha])
      intro j hj
      rw [hq j (by omega), if_pos (by omega)]
      unfold zipM
      rw [rd_mapRange (by omega)]
    simp only [impl_Dissolve.l1, spec_Dissolve.l1]
    rw [if_neg (by omega), if_neg (by omega), e]
    exact ⟨rfl, rfl⟩
  | succ d ih =>
    intro k i x hi hx hq hk
    obtain ⟨k, rfl, hk⟩ := fuel hk
    have h1 := hq i (by omega)
    rw [if_neg (by omega)] at h1
    have h2 := hav i (by omega)
    have h3 := hbv i (by omega)
    have := ih k (i + 1) (x.set i (rd a (i : Int) + rd b (i : Int))) (by omega) (by simpa using hx) (fun j hj => by
      rw [rd_set (by omega)]
      by_cases e : i = j
      · subst e; rw [if_pos rfl, if_pos (by omega)]
      · rw [if_neg e, hq j hj]
        by_cases e2 : j < i
        · rw [if_pos e2, if_pos (by omega)]
        · rw [if_neg e2, if_neg (by omega)]) (by omega)
    simp only [impl_Dissolve.l1, spec_Dissolve.l1]
    rw [if_pos (by omega), if_pos (by omega), if_pos (by omega), if_pos (by omega), if_pos (by omega), if_pos (by omega), if_pos (by omega), h1, wrap_succ (by omega), wrap_id (x := rd a (i : Int) + rd b (i : Int)) (by omega) (by omega), toNat_cast]
    exact this
theorem parts_facts {ss : List Int} {a : Int} (h : OkStakes ss) (h0 : 0 ≤ a) (h1 : a ≤ 1000000) :
    (payM ss a).length = ss.length ∧ (splitM (a - min ss.sum a) ss.length).length = ss.length ∧ (∀ j : Nat, j < ss.length → 0 ≤ rd (payM ss a) (j : Int) ∧ rd (payM ss a) (j : Int) ≤ 1000000) ∧
    (∀ j : Nat, j < ss.length → 0 ≤ rd (splitM (a - min ss.sum a) ss.length) (j : Int) ∧ rd (splitM (a - min ss.sum a) ss.length) (j : Int) ≤ 1000000) := by
  have hb := h.box h0 h1
  have hw := hb.whole
  refine ⟨payM_length _ _, splitM_length _ _, fun j hj => ?_, fun j hj => ?_⟩
  · have h2 := payM_bound h0 (fun x hx => (h.2.2 x hx).1) j hj
    have h3 := h.2.2 _ (rd_mem hj)
    omega
  · have := splitM_bound (g := a - min ss.sum a) (m := ss.length) (by have := h.1; omega) (by omega) _ (rd_mem (by rw [splitM_length]; exact hj))
    omega
theorem implDissolve_spec (k : Nat) (ss : List Int) (a : Int) (hk : 300 < k) : impl_Dissolve.f k ss a = some (dissolveM ss a) := by
  unfold impl_Dissolve.f
  rw [implStakes_spec _ _ (by omega)]
  simp only [Option.bind_some]
  obtain ⟨k, rfl⟩ : ∃ k2, k = k2 + 20 := ⟨k - 20, by omega⟩
  unfold dissolveM
  by_cases h : OkStakes ss
  · rw [decide_eq_true h, if_pos rfl]
    by_cases h0 : a < 0
    · rw [if_pos h0, if_neg (by omega)]
      simp [impl_Dissolve.j0]
    · rw [if_neg h0]
      by_cases h1 : a > 1000000
      · rw [decide_eq_true h1, if_neg (by omega)]
        simp [impl_Dissolve.j0]
      · rw [decide_eq_false h1, if_pos ⟨h, by omega, by omega⟩]
        have hb := h.box (a := a) (by omega) (by omega)
        have hw := hb.whole
        have hl1 := h.1
        have hl := h.2.1
        obtain ⟨f1, f2, f3, f4⟩ := parts_facts h (show 0 ≤ a by omega) (by omega)
        have loop : ∀ (d q i : Nat), i + d = ss.length → 280 < q → impl_Dissolve.l0 (q + d + 1) ss a (claimsM (ss.take i)) ss (ss.length : Int) (i : Int) = some (zipM (payM ss a) (splitM (a - min ss.sum a) ss.length)) := by
          intro d
          induction d with
          | zero =>
            intro q i hi hq
            simp only [impl_Dissolve.l0]
            have e : ss.take i = ss := List.take_of_length_le (by omega)
            rw [if_neg (by omega), e, implPayClaims_spec ss a hb _ (by omega), Option.bind_some]
            have hs := payM_sum (stakes := ss) (a := a) (by omega) (fun x hx => (h.2.2 x hx).1)
            rw [sumOf_spec _ _ (by omega) (by omega), Option.bind_some, hs, wrap_id (x := min ss.sum a) (by omega) (by omega), wrap_id (x := a - min ss.sum a) (by omega) (by omega), implSplit_spec _ (by omega), Option.bind_some, if_pos ⟨by omega, by omega, by omega, by omega⟩, Int.toNat_natCast, f2]
            exact (zip_loop ss.length _ _ f1 f2 hl f3 f4 ss.length _ 0 (payM ss a) (by omega) f1 (fun j hj => by rw [if_neg (by omega)]) (by omega)).1
          | succ d ih =>
            intro q i hi hq
            have e : q + (d + 1) + 1 = (q + d + 1) + 1 := by omega
            rw [e]
            generalize hq2 : q + d + 1 = q2
            simp only [impl_Dissolve.l0]
            subst hq2
            rw [if_pos (by omega), if_pos (by omega), if_pos (by omega), if_pos (by rw [claimsM_length]; simp; omega), claims_fill ss (by omega), wrap_succ (by omega)]
            exact ih q (i + 1) (by omega) hq
        have := loop ss.length (k + 18 - ss.length) 0 (by omega) (by omega)
        have e : k + 18 - ss.length + ss.length + 1 = k + 19 := by omega
        rw [e] at this
        simp only [impl_Dissolve.j0]
        rw [if_neg (by decide)]
        exact this
  · rw [decide_eq_false h, if_neg (by decide), if_neg (fun hh => h hh.1)]
    simp [impl_Dissolve.j0]
theorem validAmount_spec (a : Int) : spec_validAmount.f a = some (decide (0 ≤ a ∧ a ≤ 1000000)) := by
  unfold spec_validAmount.f
  rw [inRange_spec]; rfl
theorem specDissolve_spec (k : Nat) (ss : List Int) (a : Int) (hk : 300 < k) : spec_Dissolve.f k ss a = some (dissolveM ss a) := by
  unfold spec_Dissolve.f
  rw [specStakes_spec _ _ (by omega)]
  simp only [Option.bind_some]
  obtain ⟨k, rfl⟩ : ∃ k2, k = k2 + 20 := ⟨k - 20, by omega⟩
  unfold dissolveM
  by_cases h : OkStakes ss
  · rw [decide_eq_true h, if_pos rfl, validAmount_spec, Option.bind_some]
    by_cases h0 : 0 ≤ a ∧ a ≤ 1000000
    · rw [decide_eq_true h0, if_pos ⟨h, h0⟩]
      obtain ⟨h0, h1⟩ := h0
      have hb := h.box (a := a) (by omega) (by omega)
      have hw := hb.whole
      have hl1 := h.1
      have hl := h.2.1
      obtain ⟨f1, f2, f3, f4⟩ := parts_facts h (show 0 ≤ a by omega) (by omega)
      have loop : ∀ (d q i : Nat), i + d = ss.length → 280 < q → spec_Dissolve.l0 (q + d + 1) ss a (claimsM (ss.take i)) (i : Int) = some (zipM (payM ss a) (splitM (a - min ss.sum a) ss.length)) := by
        intro d
        induction d with
        | zero =>
          intro q i hi hq
          simp only [spec_Dissolve.l0]
          have e : ss.take i = ss := List.take_of_length_le (by omega)
          have hs := payM_sum (stakes := ss) (a := a) (by omega) (fun x hx => (h.2.2 x hx).1)
          rw [if_neg (by omega), e, specPay_spec ss a hb _ (by omega), Option.bind_some]
          rw [stotal_spec _ _ (by omega) (by omega), Option.bind_some, hs, wrap_id (x := min ss.sum a) (by omega) (by omega), wrap_id (x := a - min ss.sum a) (by omega) (by omega), specSplit_spec _ _ _ (by omega) (by omega) (by omega) (by omega) (by omega), Option.bind_some]
          exact (zip_loop ss.length _ _ f1 f2 hl f3 f4 ss.length _ 0 (payM ss a) (by omega) f1 (fun j hj => by rw [if_neg (by omega)]) (by omega)).2
        | succ d ih =>
          intro q i hi hq
          have e : q + (d + 1) + 1 = (q + d + 1) + 1 := by omega
          rw [e]
          generalize hq2 : q + d + 1 = q2
          simp only [spec_Dissolve.l0]
          subst hq2
          rw [if_pos (by omega), if_pos (by omega), if_pos (by rw [claimsM_length]; simp; omega), claims_fill ss (by omega), wrap_succ (by omega)]
          exact ih q (i + 1) (by omega) hq
      have := loop ss.length (k + 18 - ss.length) 0 (by omega) (by omega)
      have e : k + 18 - ss.length + ss.length + 1 = k + 19 := by omega
      rw [e] at this
      simp only [spec_Dissolve.j0]
      rw [if_neg (by decide)]
      exact this
    · rw [decide_eq_false h0, if_neg (fun hh => h0 hh.2)]
      simp [spec_Dissolve.j0]
  · rw [decide_eq_false h, if_neg (by decide), if_neg (fun hh => h hh.1)]
    simp [spec_Dissolve.j0]
theorem dissolveM_facts {ss : List Int} {a : Int} (h : OkStakes ss) (h0 : 0 ≤ a) (h1 : a ≤ 1000000) :
    (dissolveM ss a).length = ss.length ∧ (dissolveM ss a).sum = a ∧ (a ≥ ss.sum → ∀ j : Nat, j < ss.length → rd ss (j : Int) ≤ rd (dissolveM ss a) (j : Int)) ∧ (ss.sum > a → ∀ j : Nat, j < ss.length → rd (dissolveM ss a) (j : Int) ≤ rd ss (j : Int)) := by
  obtain ⟨f1, f2, f3, f4⟩ := parts_facts h h0 h1
  have e : dissolveM ss a = zipM (payM ss a) (splitM (a - min ss.sum a) ss.length) := if_pos ⟨h, h0, h1⟩
  have hl1 := h.1
  have zl : ∀ a b : List Int, (zipM a b).length = a.length := fun a b => by simp [zipM]
  have zr : ∀ j : Nat, j < ss.length → rd (zipM (payM ss a) (splitM (a - min ss.sum a) ss.length)) (j : Int) = rd (payM ss a) (j : Int) + rd (splitM (a - min ss.sum a) ss.length) (j : Int) := by
    intro j hj
    unfold zipM
    rw [rd_mapRange (by omega)]
  have zs : ∀ (x y : List Int), x.length = y.length → (zipM x y).sum = x.sum + y.sum := by
    intro x
    induction x with
    | nil => intro y hy; cases y <;> simp_all [zipM]
    | cons v x ih =>
      intro y hy
      cases y with
      | nil => simp at hy
      | cons w y =>
        have hz : zipM (v :: x) (w :: y) = (v + w) :: zipM x y := by
          apply ext_rd (by simp [zipM])
          intro j hj
          have hj2 : j < (v :: x).length := by simpa [zipM] using hj
          have sh : ∀ (x : Int) (xs : List Int) (q : Nat), rd (x :: xs) ((q + 1 : Nat) : Int) = rd xs (q : Int) := by
            intro x xs q; simp [rd]
          have h1 : rd (zipM (v :: x) (w :: y)) (j : Int) = rd (v :: x) (j : Int) + rd (w :: y) (j : Int) := by
            unfold zipM; rw [rd_mapRange hj2]
          rw [h1]
          cases j with
          | zero => simp [rd]
          | succ q =>
            have hq : q < x.length := by simpa using hj2
            rw [sh, sh, sh]
            unfold zipM
            rw [rd_mapRange hq]
        rw [hz, List.sum_cons, ih y (by simpa using hy), List.sum_cons, List.sum_cons]
        omega
  rw [e]
  have hs := payM_sum (stakes := ss) h0 (fun x hx => (h.2.2 x hx).1)
  refine ⟨by rw [zl, f1], ?_, fun hge j hj => ?_, fun hgt j hj => ?_⟩
  · rw [zs _ _ (by omega), hs, splitM_sum (by omega)]; omega
  · have h2 := f4 j hj
    have h3 : payM ss a = ss := if_pos hge
    rw [zr j hj, h3]; omega
  · have h2 : splitM (a - min ss.sum a) ss.length = List.replicate ss.length 0 := by
      have : a - min ss.sum a = 0 := by omega
      rw [this]
      apply ext_rd (by simp [splitM])
      intro i hi
      rw [splitM_length] at hi
      rw [splitM_rd hi, rd_replicate hi]
      simp; omega
    have h3 := payM_bound h0 (fun x hx => (h.2.2 x hx).1) j hj
    rw [zr j hj, h2, rd_replicate hj]; omega

/-! ### reader -/
/-- A pick: a number below the bound (0 where there is none), one place on. -/
theorem pick_spec (k : Nat) (hk : 1 ≤ k) (b : List Int) (hb : ∀ x ∈ b, 0 ≤ x ∧ x ≤ 255) (hl : b.length ≤ 2000) (p : Int) (hp0 : 0 ≤ p) (hp : p ≤ 1000000) (n : Int) (hn : n ≤ 1000000000000) :
    ∃ v, spec_reader_pick.f k b p n = some (v, p + 1) ∧ 0 ≤ v ∧ (0 < n → v < n) ∧ (n ≤ 0 → v = 0) := by
  obtain ⟨k, rfl, -⟩ := fuel hk
  have hw : wrap64 (p + 1) = p + 1 := wrap_succ' hp0 (by omega)
  have hw2 : wrap64 (p + 1 - 1) = p := by rw [wrap_id (by omega) (by omega)]; omega
  unfold spec_reader_pick.f
  rw [hw]
  by_cases h1 : n < 1
  · rw [if_pos h1]
    exact ⟨0, by simp [spec_reader_pick.j0], by omega, by omega, fun _ => rfl⟩
  · rw [if_neg h1]
    by_cases h2 : b.length = 0
    · have e : ((b.length : Int) == 0) = true := by simp [h2]
      rw [e]
      exact ⟨0, by simp [spec_reader_pick.j0], by omega, fun _ => by omega, fun _ => rfl⟩
    · have e : ((b.length : Int) == 0) = false := by rw [beq_eq_false_iff_ne]; omega
      rw [e]
      simp only [spec_reader_pick.j0]
      rw [if_neg (by decide), hw2]
      have rdb : ∀ i : Int, 0 ≤ i → i < (b.length : Int) → 0 ≤ rd b i ∧ rd b i ≤ 255 := fun i h0 h => hb _ (rd_mem' h0 h)
      by_cases h3 : p < (b.length : Int)
      · rw [if_pos h3, if_pos hp0, if_neg (by omega)]
        have hr := rdb p hp0 h3
        rw [wrap_id (x := rd b p) (by omega) (by omega), Int.tmod_eq_emod_of_nonneg hr.1]
        exact ⟨_, rfl, Int.emod_nonneg _ (by omega), fun _ => Int.emod_lt_of_pos _ (by omega), fun h => by omega⟩
      · have hL : (0 : Int) < (b.length : Int) := by omega
        have m1 := Int.emod_nonneg p (b := (b.length : Int)) (by omega)
        have m2 := Int.emod_lt_of_pos p hL
        have w7 : wrap64 (wrap64 (p * 7) + 3) = p * 7 + 3 := by rw [wrap_add_l, wrap_id (by omega) (by omega)]
        have m3 := Int.emod_nonneg (p * 7 + 3) (b := (b.length : Int)) (by omega)
        have m4 := Int.emod_lt_of_pos (p * 7 + 3) hL
        rw [if_neg h3, if_neg (by omega)]
        rw [w7]
        rw [Int.tmod_eq_emod_of_nonneg hp0, Int.tmod_eq_emod_of_nonneg (by omega : (0 : Int) ≤ p * 7 + 3)]
        rw [if_pos m1, if_pos m2, if_pos m3, if_pos m4, if_neg (by omega)]
        have r1 := rdb _ m1 m2
        have r2 := rdb _ m3 m4
        have hq : 0 ≤ Int.tdiv p (b.length : Int) ∧ Int.tdiv p (b.length : Int) ≤ p := by
          rw [Int.tdiv_eq_ediv_of_nonneg hp0]
          exact ⟨Int.ediv_nonneg hp0 (by omega), Int.ediv_le_self _ hp0⟩
        generalize rd b (p % (b.length : Int)) = x at *
        generalize rd b ((p * 7 + 3) % (b.length : Int)) = y at *
        generalize Int.tdiv p (b.length : Int) = q at *
        have hx : wrap64 x = x := wrap_id (by omega) (by omega)
        have hy : wrap64 y = y := wrap_id (by omega) (by omega)
        have hqq : wrap64 q = q := wrap_id (by omega) (by omega)
        rw [hx, hy, hqq]
        have e1 : wrap64 (x * 131) = x * 131 := wrap_id (by omega) (by omega)
        have e2 : wrap64 (y * 1117) = y * 1117 := wrap_id (by omega) (by omega)
        have e3 : wrap64 (p * 29) = p * 29 := wrap_id (by omega) (by omega)
        have e4 : wrap64 (q * 53) = q * 53 := wrap_id (by omega) (by omega)
        rw [e1, e2, e3, e4]
        have e5 : wrap64 (x * 131 + y * 1117) = x * 131 + y * 1117 := wrap_id (by omega) (by omega)
        rw [e5]
        have e6 : wrap64 (x * 131 + y * 1117 + p * 29) = x * 131 + y * 1117 + p * 29 := wrap_id (by omega) (by omega)
        rw [e6]
        have e7 : wrap64 (x * 131 + y * 1117 + p * 29 + q * 53) = x * 131 + y * 1117 + p * 29 + q * 53 := wrap_id (by omega) (by omega)
        rw [e7]
        have hz : 0 ≤ x * 131 + y * 1117 + p * 29 + q * 53 ∧ x * 131 + y * 1117 + p * 29 + q * 53 ≤ 1000000000 := by omega
        generalize x * 131 + y * 1117 + p * 29 + q * 53 = z at *
        have hz64 : 0 ≤ Int.tdiv z 64 ∧ Int.tdiv z 64 ≤ z := by
          rw [Int.tdiv_eq_ediv_of_nonneg hz.1]; omega
        rw [wrap_id (x := Int.tdiv z 64) (by omega) (by omega)]
        have hxor := bits_xor (a := z) (b := Int.tdiv z 64) hz.1 (by omega) hz64.1 (by omega)
        rw [Int.tmod_eq_emod_of_nonneg hxor.1]
        exact ⟨_, rfl, Int.emod_nonneg _ (by omega), fun _ => Int.emod_lt_of_pos _ (by omega), fun h => by omega⟩
/-- One of some numbers. -/
theorem one_spec (k : Nat) (hk : 1 ≤ k) (b : List Int) (hb : ∀ x ∈ b, 0 ≤ x ∧ x ≤ 255) (hl : b.length ≤ 2000) (p : Int) (hp0 : 0 ≤ p) (hp : p ≤ 1000000) (l : List Int) (hn0 : l ≠ []) (hn : l.length ≤ 1000000) :
    ∃ v, spec_reader_one.f k b p l = some (v, p + 1) ∧ v ∈ l := by
  have h0 : 0 < l.length := List.length_pos_iff.2 hn0
  obtain ⟨v, hv, h1, h2, -⟩ := pick_spec k hk b hb hl p hp0 hp (l.length : Int) (by omega)
  unfold spec_reader_one.f
  rw [hv]
  simp only [Option.bind_some]
  rw [if_pos h1, if_pos (h2 (by omega))]
  exact ⟨_, rfl, rd_mem' h1 (h2 (by omega))⟩
theorem reader_bytes {l : List Int} (h : ∀ x ∈ l, (Lit.int .u8 x).wf = true) : ∀ x ∈ l, 0 ≤ x ∧ x ≤ 255 := by
  intro x hx
  have := h x hx
  simp [Lit.wf, IntKind.min, IntKind.max, IntKind.bits, IntKind.signed] at this
  omega
/-- A reader of some code: its bytes. -/
theorem newReader_spec (l : List Int) (h : ∀ x ∈ l, 0 ≤ x ∧ x ≤ 255) : ∃ b : List Int, spec_newReader.f l = some (b, 0) ∧ (∀ x ∈ b, 0 ≤ x ∧ x ≤ 255) ∧ b.length ≤ 2000 := by
  unfold spec_newReader.f
  by_cases h1 : (l.length : Int) > 2000
  · rw [if_pos h1, if_pos (by omega)]
    exact ⟨_, rfl, fun x hx => h x (List.mem_of_mem_take hx), by simp; omega⟩
  · rw [if_neg h1]
    exact ⟨_, rfl, h, by omega⟩

/-! ### drawdissolve -/
theorem drawDissolve_j1 (b : List Int) (hb : ∀ x ∈ b, 0 ≤ x ∧ x ≤ 255) (hl : b.length ≤ 2000) (k : Nat) (ss : List Int) (hs : ss.length ≤ 12) (p : Int) (h0 : 0 ≤ p) (h1 : p ≤ 1000) (hk : 20 < k) :
    ∃ a, spec_DrawDissolve.j1 k ss b p = some (ss, a) := by
  obtain ⟨k, rfl, hk⟩ := fuel hk
  simp only [spec_DrawDissolve.j1]
  rw [stotal_spec _ _ (by omega) (by omega)]
  simp only [Option.bind_some]
  obtain ⟨v, hv, -⟩ := pick_spec k (by omega) b hb hl p h0 (by omega) 250 (by omega)
  rw [hv]
  simp only [Option.bind_some]
  obtain ⟨u, hu, -⟩ := one_spec k (by omega) b hb hl (p + 1) (by omega) (by omega) [wrap64 ss.sum, wrap64 (Int.tdiv (wrap64 ss.sum) 2), v, 0, 5000, 1000001, (-1)] (by simp) (by simp)
  rw [hu]
  exact ⟨u, rfl⟩
theorem drawDissolve_l0 (b : List Int) (hb : ∀ x ∈ b, 0 ≤ x ∧ x ≤ 255) (hl : b.length ≤ 2000) : ∀ (d k : Nat) (ss : List Int) (p : Int), 0 < ss.length + d → ss.length + d ≤ 12 → 0 ≤ p → p + 2 * d ≤ 900 → d + 40 < k →
    ∃ out a, spec_DrawDissolve.l0 k ss (d : Int) b p = some (out, a) ∧ out.length ≤ 12 := by
  intro d
  induction d with
  | zero =>
    intro k ss p h1 h2 h3 h4 hk
    obtain ⟨k, rfl, hk⟩ := fuel hk
    simp only [spec_DrawDissolve.l0]
    rw [if_neg (by omega)]
    obtain ⟨v, hv, -⟩ := pick_spec k (by omega) b hb hl p h3 (by omega) 16 (by omega)
    rw [hv]
    simp only [Option.bind_some]
    by_cases h : v = 0
    · rw [if_pos h]
      obtain ⟨u, hu, -⟩ := one_spec k (by omega) b hb hl (p + 1) (by omega) (by omega) [(-1), 100001] (by simp) (by simp)
      rw [hu]
      simp only [Option.bind_some]
      rw [if_pos (by omega)]
      obtain ⟨a, ha⟩ := drawDissolve_j1 b hb hl k (ss.set (0 : Int).toNat u) (by simpa using h2) (p + 1 + 1) (by omega) (by omega) (by omega)
      exact ⟨_, a, ha, by simpa using h2⟩
    · rw [if_neg h]
      obtain ⟨a, ha⟩ := drawDissolve_j1 b hb hl k ss (by omega) (p + 1) (by omega) (by omega) (by omega)
      exact ⟨_, a, ha, by omega⟩
  | succ d ih =>
    intro k ss p h1 h2 h3 h4 hk
    obtain ⟨k, rfl, hk⟩ := fuel hk
    simp only [spec_DrawDissolve.l0]
    rw [if_pos (by omega)]
    obtain ⟨v, hv, -⟩ := pick_spec k (by omega) b hb hl p h3 (by omega) 250 (by omega)
    rw [hv]
    simp only [Option.bind_some]
    obtain ⟨u, hu, -⟩ := one_spec k (by omega) b hb hl (p + 1) (by omega) (by omega) [100, v, 0, 33] (by simp) (by simp)
    rw [hu]
    simp only [Option.bind_some]
    rw [if_pos (by omega), wrap_id (by omega) (by omega)]
    have e : ((d + 1 : Nat) : Int) - 1 = (d : Int) := by omega
    rw [e]
    exact ih k (ss ++ [u]) (p + 1 + 1) (by simp; omega) (by simp; omega) (by omega) (by omega) (by omega)
theorem drawDissolve_spec (k : Nat) (hk : 100 < k) (l : List Int) (hl : ∀ x ∈ l, 0 ≤ x ∧ x ≤ 255) : ∃ ss a, spec_DrawDissolve.f k l = some (ss, a) ∧ ss.length ≤ 12 := by
  obtain ⟨b, h1, h2, h3⟩ := newReader_spec l hl
  unfold spec_DrawDissolve.f
  rw [h1]
  simp only [Option.bind_some]
  obtain ⟨n, hn, hm⟩ := one_spec k (by omega) b h2 h3 0 (by omega) (by omega) [4, 3, 5, 1, 12] (by simp) (by simp)
  rw [hn]
  simp only [Option.bind_some]
  have hn2 : 1 ≤ n ∧ n ≤ 12 := by simp at hm; omega
  obtain ⟨n, rfl⟩ := Int.eq_ofNat_of_zero_le (show 0 ≤ n by omega)
  exact drawDissolve_l0 b h2 h3 n k [] (0 + 1) (by simp; omega) (by simp; omega) (by omega) (by omega) (by omega)

/-! ### common -/
theorem equalInts_l0 (a b : List Int) (hl : a.length = b.length) (hb : a.length < 4611686018427387904) : ∀ (d k i : Nat), i + d = a.length → d < k → laws_equalInts.l0 k a b (i : Int) = some (decide (a.drop i = b.drop i)) := by
  intro d
  induction d with
  | zero =>
    intro k i hi hk
    obtain ⟨k, rfl, -⟩ := fuel hk
    simp only [laws_equalInts.l0]
    rw [if_neg (by omega), drop_end (by omega), drop_end (by omega)]
    simp
  | succ d ih =>
    intro k i hi hk
    obtain ⟨k, rfl, hk⟩ := fuel hk
    simp only [laws_equalInts.l0]
    rw [if_pos (by omega), if_pos (by omega), if_pos (by omega), wrap_succ (by omega), drop_rd (xs := a) (i := i) (by omega), drop_rd (xs := b) (i := i) (by omega)]
    by_cases e : rd a (i : Int) = rd b (i : Int)
    · rw [if_pos e, ih k (i + 1) (by omega) (by omega), e]; simp
    · rw [if_neg e]; simp [e]
theorem equalInts_spec (k : Nat) (a b : List Int) (hb : a.length < 4611686018427387904) (hk : a.length < k) : laws_equalInts.f k a b = some (decide (a = b)) := by
  unfold laws_equalInts.f
  by_cases h : a.length = b.length
  · rw [if_pos (by omega)]
    have := equalInts_l0 a b h hb a.length k 0 (by omega) hk
    simpa using this
  · rw [if_neg (by omega)]
    have : a ≠ b := fun e => h (by rw [e])
    simp [this]

/-! ### the law -/
theorem dissolveLaw_l0 (ss : List Int) (a : Int) (h : OkStakes ss) (h0 : 0 ≤ a) (h1 : a ≤ 1000000) : ∀ (d k i : Nat), i + d = ss.length → d + 40 < k → laws_FnDissolve.l0 k ss a (dissolveM ss a) (i : Int) = some true := by
  obtain ⟨f1, f2, f3, f4⟩ := dissolveM_facts h h0 h1
  have hw := (h.box h0 h1).whole
  have hl := h.2.1
  intro d
  induction d with
  | zero =>
    intro k i hi hk
    obtain ⟨k, rfl, hk⟩ := fuel hk
    simp only [laws_FnDissolve.l0]
    rw [if_neg (by omega), total_spec _ _ (by omega) (by omega), f2, wrap_id (by omega) (by omega)]
    simp only [Option.bind_some]
    rw [if_pos trivial, f1]; simp
  | succ d ih =>
    intro k i hi hk
    obtain ⟨k, rfl, hk⟩ := fuel hk
    simp only [laws_FnDissolve.l0]
    rw [if_pos (by omega), total_spec _ ss (by omega) (by omega), wrap_id (x := ss.sum) (by omega) (by omega)]
    simp only [Option.bind_some]
    have := ih k (i + 1) (by omega) (by omega)
    rw [wrap_succ (by omega), this]
    by_cases hs : a ≥ ss.sum
    · have := f3 hs i (by omega)
      rw [if_pos hs, if_pos (by omega), if_pos (by omega), if_neg (by omega), if_neg (by omega)]
    · have := f4 (by omega) i (by omega)
      rw [if_neg hs, if_pos (by omega), if_pos (by omega), if_pos (by omega), if_neg (by omega)]
theorem FnDissolve : laws_FnDissolve.Pure := by
  intro l _ _ hw
  refine ⟨1000, ?_⟩
  unfold laws_FnDissolve.f
  by_cases h0 : (l.length : Int) > 1048576
  · rw [if_pos h0]
  · rw [if_neg h0]
    obtain ⟨ss, a, hd, hs⟩ := drawDissolve_spec 1000 (by omega) l (reader_bytes hw)
    rw [hd]
    simp only [Option.bind_some]
    have hlen : (dissolveM ss a).length ≤ 12 := by
      unfold dissolveM
      split
      · simp [zipM, payM_length]; omega
      · simp
    rw [implDissolve_spec _ _ _ (by omega)]
    simp only [Option.bind_some]
    rw [specDissolve_spec _ _ _ (by omega)]
    simp only [Option.bind_some]
    rw [equalInts_spec _ _ _ (by omega) (by omega)]
    simp only [Option.bind_some]
    simp only [decide_true, if_true]
    by_cases h3 : OkStakes ss ∧ 0 ≤ a ∧ a ≤ 1000000
    · obtain ⟨f1, -⟩ := dissolveM_facts h3.1 h3.2.1 h3.2.2
      have := h3.1.1
      have e : (((dissolveM ss a).length : Int) == 0) = false := by rw [beq_eq_false_iff_ne]; omega
      rw [e]
      simp only [laws_FnDissolve.j0]
      rw [if_neg (by decide)]
      exact dissolveLaw_l0 ss a h3.1 h3.2.1 h3.2.2 ss.length 999 0 (by omega) (by omega)
    · have e : dissolveM ss a = [] := by unfold dissolveM; rw [if_neg h3]
      rw [e]
      simp only [List.length_nil, Int.natCast_zero]
      simp only [laws_FnDissolve.j0]
      rw [if_pos (by decide), specDissolve_spec _ _ _ (by omega)]
      simp only [Option.bind_some]
      rw [e, equalInts_spec _ _ _ (by simp) (by simp)]
      rfl

end Go.Proofs.Yteemdklfjocidaa.Pure
