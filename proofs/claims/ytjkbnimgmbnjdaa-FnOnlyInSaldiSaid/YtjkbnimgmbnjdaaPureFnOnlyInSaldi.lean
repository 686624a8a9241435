/- The law FnOnlyInSaldi holds: the program's function answers as the reference does at every drawn input, and has the law's property; no condition. -/
import Derived.Test.YtjkbnimgmbnjdaaPFnOnlyInSaldix8
set_option linter.unusedVariables false
set_option linter.unusedSimpArgs false
namespace Go.Proofs.Ytjkbnimgmbnjdaa.Pure
open Go.RowKit Go.Proofs.Ytjkbnimgmbnjdaa.PFnOnlyInSaldi Go.Proofs.YtjkbnimgmbnjdaaW.PrintWords Go.Proofs.YtjkbnimgmbnjdaaW.PrintLast Go.Proofs.YtjkbnimgmbnjdaaW.PrintMore

/-! ### base -/
theorem fuel {k n : Nat} (h : n < k) : ∃ m, k = m + 1 ∧ n ≤ m := ⟨k - 1, by omega, by omega⟩
theorem wrap_id {x : Int} (h1 : -9223372036854775808 ≤ x) (h2 : x ≤ 9223372036854775807) : wrap64 x = x := by unfold wrap64; omega
theorem wrap_succ {i : Nat} (h : i < 4611686018427387904) : wrap64 ((i : Int) + 1) = ((i + 1 : Nat) : Int) := by unfold wrap64; omega
theorem wrap_succ' {i : Int} (h0 : 0 ≤ i) (h : i < 4611686018427387904) : wrap64 (i + 1) = i + 1 := by unfold wrap64; omega
theorem wrap_wrap (x : Int) : wrap64 (wrap64 x) = wrap64 x := by unfold wrap64; omega
theorem wrap_add_l (x y : Int) : wrap64 (wrap64 x + y) = wrap64 (x + y) := by unfold wrap64; omega
theorem wrap_add_r (x y : Int) : wrap64 (x + wrap64 y) = wrap64 (x + y) := by unfold wrap64; omega
theorem wrap_sub_l (x y : Int) : wrap64 (wrap64 x - y) = wrap64 (x - y) := by unfold wrap64; omega
theorem rd_get {xs : List Int} {i : Nat} (h : i < xs.length) : rd xs (i : Int) = xs[i] := by
  simp [rd, List.getD_eq_getElem?_getD, List.getElem?_eq_getElem h]
theorem drop_rd {xs : List Int} {i : Nat} (h : i < xs.length) : xs.drop i = rd xs (i : Int) :: xs.drop (i + 1) := by
  rw [rd_get h, List.drop_eq_getElem_cons h]
theorem drop_end {α : Type} {xs : List α} {i : Nat} (h : xs.length ≤ i) : xs.drop i = [] := List.drop_eq_nil_of_le h
theorem take_rd {xs : List Int} {i : Nat} (h : i < xs.length) : xs.take (i + 1) = xs.take i ++ [rd xs (i : Int)] := by
  rw [rd_get h, List.take_succ_eq_append_getElem h]
theorem rd_mem {xs : List Int} {i : Nat} (h : i < xs.length) : rd xs (i : Int) ∈ xs := by
  rw [rd_get h]; exact List.getElem_mem h
theorem rd_mem' {xs : List Int} {i : Int} (h0 : 0 ≤ i) (h : i < (xs.length : Int)) : rd xs i ∈ xs := by
  obtain ⟨j, rfl⟩ := Int.eq_ofNat_of_zero_le h0
  exact rd_mem (by omega)
theorem mem_rd {xs : List Int} {x : Int} (h : x ∈ xs) : ∃ i : Nat, i < xs.length ∧ rd xs (i : Int) = x := by
  obtain ⟨i, hi, he⟩ := List.getElem_of_mem h
  exact ⟨i, hi, by rw [rd_get hi, he]⟩
theorem ext_rd {xs ys : List Int} (hl : xs.length = ys.length) (h : ∀ i : Nat, i < xs.length → rd xs (i : Int) = rd ys (i : Int)) : xs = ys := by
  apply List.ext_getElem hl
  intro i h1 h2
  have := h i h1
  rwa [rd_get h1, rd_get h2] at this
theorem rd_set {xs : List Int} {i j : Nat} {v : Int} (hj : j < xs.length) : rd (xs.set i v) (j : Int) = if i = j then v else rd xs (j : Int) := by
  rw [rd_get (by simpa using hj), rd_get hj, List.getElem_set]
theorem rd_set_ne {xs : List Int} {i j : Nat} {v : Int} (h : i ≠ j) : rd (xs.set i v) (j : Int) = rd xs (j : Int) := by
  simp only [rd, List.getD_eq_getElem?_getD, Int.toNat_natCast, List.getElem?_set_ne h]
theorem rd_append_l {xs ys : List Int} {i : Nat} (h : i < xs.length) : rd (xs ++ ys) (i : Int) = rd xs (i : Int) := by
  rw [rd_get (by simp; omega), rd_get h, List.getElem_append_left h]
theorem rd_append_r {xs ys : List Int} {i : Nat} (h : xs.length ≤ i) (h2 : i < xs.length + ys.length) : rd (xs ++ ys) (i : Int) = rd ys ((i - xs.length : Nat) : Int) := by
  rw [rd_get (by simp; omega), rd_get (by omega), List.getElem_append_right h]
theorem rd_replicate {n i : Nat} {v : Int} (h : i < n) : rd (List.replicate n v) (i : Int) = v := by
  rw [rd_get (by simpa using h)]; simp
theorem rd_mapRange {n i : Nat} {f : Nat → Int} (h : i < n) : rd ((List.range n).map f) (i : Int) = f i := by
  rw [rd_get (by simpa using h)]; simp
theorem toNat_cast (i : Nat) : ((i : Int) : Int).toNat = i := by simp
theorem mx_max (a b : Int) : mx a b = max a b := by unfold mx; omega
theorem mn_min (a b : Int) : mn a b = min a b := by unfold mn; omega
theorem bits_xor {a b : Int} (ha : 0 ≤ a) (ha2 : a < 4611686018427387904) (hb : 0 ≤ b) (hb2 : b < 4611686018427387904) : 0 ≤ Go.bits .xor .i64 a b ∧ Go.bits .xor .i64 a b < 4611686018427387904 := by
  obtain ⟨a, rfl⟩ := Int.eq_ofNat_of_zero_le ha
  obtain ⟨b, rfl⟩ := Int.eq_ofNat_of_zero_le hb
  have h1 : a < 2 ^ 62 := by omega
  have h2 : b < 2 ^ 62 := by omega
  have h3 := Nat.xor_lt_two_pow h1 h2
  have e : Go.bits .xor .i64 (a : Int) (b : Int) = IntKind.i64.wrap (((BitVec.ofInt 64 (a : Int)) ^^^ (BitVec.ofInt 64 (b : Int))).toNat : Int) := rfl
  have ha' : (BitVec.ofInt 64 (a : Int)).toNat = a := by rw [BitVec.ofInt_natCast, BitVec.toNat_ofNat]; exact Nat.mod_eq_of_lt (by omega)
  have hb' : (BitVec.ofInt 64 (b : Int)).toNat = b := by rw [BitVec.ofInt_natCast, BitVec.toNat_ofNat]; exact Nat.mod_eq_of_lt (by omega)
  rw [e, BitVec.toNat_xor, ha', hb', IntKind.wrap_i64]
  omega
theorem cast0 : ((0 : Nat) : Int) = 0 := rfl
theorem w01 : wrap64 (0 + 1) = 1 := by unfold wrap64; omega
theorem w12 : wrap64 (1 + 1) = 2 := by unfold wrap64; omega
theorem w23 : wrap64 (2 + 1) = 3 := by unfold wrap64; omega
theorem w34 : wrap64 (3 + 1) = 4 := by unfold wrap64; omega
theorem w45 : wrap64 (4 + 1) = 5 := by unfold wrap64; omega

/-! ### listm -/
theorem pigeon : ∀ (n : Nat) (xs : List Int), xs.Nodup → (∀ x ∈ xs, 0 ≤ x ∧ x < (n : Int)) → xs.length ≤ n := by
  intro n
  induction n with
  | zero =>
    intro xs _ h
    cases xs with
    | nil => simp
    | cons x xs => have := h x (by simp); omega
  | succ n ih =>
    intro xs hn h
    by_cases hm : (n : Int) ∈ xs
    · have h1 := ih (xs.erase (n : Int)) (hn.erase _) (fun x hx => by
        have h2 := (hn.mem_erase_iff).1 hx
        have h3 := h x h2.2
        have h4 := h2.1
        omega)
      rw [List.length_erase_of_mem hm] at h1
      omega
    · have h1 := ih xs hn (fun x hx => by
        have h3 := h x hx
        have h4 : x ≠ (n : Int) := fun e => hm (e ▸ hx)
        omega)
      omega
/-- Fewer different members than there are: one is missing. -/
theorem one_missing : ∀ (n : Nat) (xs : List Int), xs.length < n → ∃ j : Nat, j < n ∧ (j : Int) ∉ xs := by
  intro n
  induction n with
  | zero => intro xs h; omega
  | succ n ih =>
    intro xs h
    by_cases hm : (n : Int) ∈ xs
    · obtain ⟨j, hj, hx⟩ := ih (xs.erase (n : Int)) (by rw [List.length_erase_of_mem hm]; have := List.length_pos_of_mem hm; omega)
      refine ⟨j, by omega, fun hmem => hx ?_⟩
      exact (List.mem_erase_of_ne (by omega)).2 hmem
    · exact ⟨n, by omega, hm⟩
/-- Members, one after the other, in range and not seen yet. -/
def memB (n : Int) : List Int → List Int → Bool
  | _, [] => true
  | seen, x :: rest => decide (0 ≤ x ∧ x < n) && (!decide (x ∈ seen) && memB n (seen ++ [x]) rest)
theorem memB_iff (n : Int) : ∀ (xs seen : List Int), memB n seen xs = true ↔ (∀ x ∈ xs, 0 ≤ x ∧ x < n ∧ x ∉ seen) ∧ xs.Nodup := by
  intro xs
  induction xs with
  | nil => intro seen; simp [memB]
  | cons a xs ih =>
    intro seen
    simp only [memB, Bool.and_eq_true, decide_eq_true_eq, Bool.not_eq_true', decide_eq_false_iff_not, ih, List.mem_cons, List.mem_append, List.not_mem_nil, or_false, List.nodup_cons]
    constructor
    · rintro ⟨⟨h1, h2⟩, h3, h4, h5⟩
      refine ⟨?_, fun ha => (h4 a ha).2.2 (Or.inr rfl), h5⟩
      rintro x (rfl | hx)
      · exact ⟨h1, h2, h3⟩
      · obtain ⟨a1, a2, a3⟩ := h4 x hx
        exact ⟨a1, a2, fun h => a3 (Or.inl h)⟩
    · rintro ⟨h1, h2, h3⟩
      obtain ⟨a1, a2, a3⟩ := h1 a (Or.inl rfl)
      refine ⟨⟨a1, a2⟩, a3, fun x hx => ?_, h3⟩
      obtain ⟨b1, b2, b3⟩ := h1 x (Or.inr hx)
      refine ⟨b1, b2, ?_⟩
      rintro (h | rfl)
      · exact b3 h
      · exact h2 hx
/-- Different members of a body. -/
def GoodM (xs : List Int) (n : Int) : Prop := xs.Nodup ∧ ∀ x ∈ xs, 0 ≤ x ∧ x < n
instance (xs : List Int) (n : Int) : Decidable (GoodM xs n) := inferInstanceAs (Decidable (_ ∧ _))
theorem memB_good (n : Int) (xs : List Int) : memB n [] xs = decide (GoodM xs n) := by
  rw [Bool.eq_iff_iff, memB_iff, decide_eq_true_eq]
  unfold GoodM
  constructor
  · rintro ⟨h, hn⟩
    exact ⟨hn, fun x hx => ⟨(h x hx).1, (h x hx).2.1⟩⟩
  · rintro ⟨hn, h⟩
    exact ⟨fun x hx => ⟨(h x hx).1, (h x hx).2, by simp⟩, hn⟩
theorem GoodM.le {xs : List Int} {n : Nat} (h : GoodM xs (n : Int)) : xs.length ≤ n := pigeon n xs h.1 h.2
/-- The first place of a number behind some. -/
def idxM : List Int → Int → Nat → Int
  | [], _, _ => -1
  | y :: ys, x, i => if y = x then (i : Int) else idxM ys x (i + 1)
theorem idxM_neg : ∀ (xs : List Int) (x : Int) (i : Nat), idxM xs x i < 0 ↔ x ∉ xs := by
  intro xs
  induction xs with
  | nil => intro x i; simp [idxM]
  | cons y ys ih =>
    intro x i
    simp only [idxM]
    by_cases e : y = x
    · rw [if_pos e]; simp [e]
    · rw [if_neg e, ih]
      have e' : ¬ x = y := fun h => e h.symm
      simp [e']
theorem idxM_nonneg (xs : List Int) (x : Int) (i : Nat) : 0 ≤ idxM xs x i ↔ x ∈ xs := by
  have := idxM_neg xs x i
  by_cases h : x ∈ xs
  · simp only [h, not_true, iff_false] at this
    simp [h]; omega
  · simp only [h, not_false_iff, iff_true] at this
    simp [h]; omega
theorem idxM_at : ∀ (xs : List Int) (x : Int) (i : Nat), x ∈ xs → ∃ j : Nat, idxM xs x i = ((i + j : Nat) : Int) ∧ j < xs.length ∧ rd xs (j : Int) = x ∧ ∀ q : Nat, q < j → rd xs (q : Int) ≠ x := by
  intro xs
  induction xs with
  | nil => intro x i h; simp at h
  | cons y ys ih =>
    intro x i h
    by_cases e : y = x
    · exact ⟨0, by simp [idxM, e], by simp, by simp [rd, e], fun q hq => by omega⟩
    · have hx : x ∈ ys := by
        rcases List.mem_cons.1 h with h | h
        · exact absurd h.symm e
        · exact h
      obtain ⟨j, h1, h2, h3, h4⟩ := ih x (i + 1) hx
      refine ⟨j + 1, by simp only [idxM, if_neg e, h1]; omega, by simp; omega, ?_, ?_⟩
      · rw [← h3, rd_get (by simp; omega), rd_get h2]; simp
      · intro q hq
        cases q with
        | zero => rw [rd_get (by simp)]; simpa using e
        | succ q => have := h4 q (by omega); rw [rd_get (by simp; omega)]; rw [rd_get (by omega)] at this; simpa using this
theorem sum_set : ∀ (xs : List Int) (i : Nat) (v : Int), i < xs.length → (xs.set i v).sum = xs.sum - rd xs (i : Int) + v := by
  intro xs
  induction xs with
  | nil => intro i v h; simp at h
  | cons x xs ih =>
    intro i v h
    cases i with
    | zero => simp [rd]; omega
    | succ i =>
      have h2 : i < xs.length := by simpa using h
      have := ih i v h2
      have e : rd (x :: xs) ((i + 1 : Nat) : Int) = rd xs (i : Int) := by rw [rd_get h, rd_get h2]; simp
      simp only [List.set_cons_succ, List.sum_cons, this, e]
      omega
theorem sum_replicate0 (n : Nat) : (List.replicate n (0 : Int)).sum = 0 := by
  induction n with
  | zero => rfl
  | succ n ih => simp [List.replicate_succ, ih]
theorem set_fill {α : Type} (A : List α) (d : Nat) (z v : α) : (A ++ List.replicate (d + 1) z).set A.length v = (A ++ [v]) ++ List.replicate d z := by
  rw [List.set_append_right _ _ (Nat.le_refl _)]
  simp [List.replicate_succ]
theorem set_fill' {α : Type} {A : List α} {i d : Nat} {z v : α} (h : A.length = i) : (A ++ List.replicate (d + 1) z).set i v = (A ++ [v]) ++ List.replicate d z := by
  subst h; exact set_fill A d z v
theorem sum_bound : ∀ (xs : List Int) (lo hi : Int), (∀ x ∈ xs, lo ≤ x ∧ x ≤ hi) → (xs.length : Int) * lo ≤ xs.sum ∧ xs.sum ≤ (xs.length : Int) * hi := by
  intro xs lo hi
  induction xs with
  | nil => intro _; simp
  | cons x xs ih =>
    intro h
    have h1 := ih (fun y hy => h y (by simp [hy]))
    have h2 := h x (by simp)
    have e1 : ((x :: xs).length : Int) * lo = (xs.length : Int) * lo + lo := by simp [Int.add_mul]
    have e2 : ((x :: xs).length : Int) * hi = (xs.length : Int) * hi + hi := by simp [Int.add_mul]
    rw [e1, e2, List.sum_cons]
    omega

/-! ### common -/
/-! ### inrange -/
theorem inRange_spec (a lo up : Int) : spec_inRange.f a lo up = some (decide (lo ≤ a ∧ a ≤ up)) := by
  unfold spec_inRange.f
  by_cases h : lo ≤ a <;> simp [h]

/-! ### entries -/
theorem rdE_at {xs : List S50} {i : Nat} (h : i < xs.length) : rd_T50 xs (i : Int) = xs[i] := by
  simp [rd_T50, List.getD_eq_getElem?_getD, List.getElem?_eq_getElem h]
theorem dropE {xs : List S50} {i : Nat} (h : i < xs.length) : xs.drop i = rd_T50 xs (i : Int) :: xs.drop (i + 1) := by
  rw [rdE_at h, List.drop_eq_getElem_cons h]
def vE (x : S50) : Bool := decide (0 ≤ x.f0 ∧ x.f0 ≤ 999 ∧ 0 ≤ x.f1 ∧ x.f1 ≤ 7 ∧ 0 ≤ x.f2 ∧ x.f2 ≤ 7 ∧ x.f1 ≠ x.f2 ∧ 1 ≤ x.f3 ∧ x.f3 ≤ 1000000)
def okE (xs : List S50) : Bool := xs.all vE && decide (xs.length ≤ 40)
theorem sinR (a b c : Int) : spec_inRange.f a b c = some (decide (b ≤ a ∧ a ≤ c)) := by
  unfold spec_inRange.f
  by_cases h : b ≤ a <;> simp [h]
theorem svE (x : S50) : spec_validEntry.f x.f0 x.f1 x.f2 x.f3 = some (vE x) := by
  unfold spec_validEntry.f vE
  simp only [sinR, Option.bind_some, decide_eq_true_eq]
  split <;> (try split) <;> (try split) <;> (try split) <;> (congr 1; symm; simp only [decide_eq_decide, decide_eq_false_iff_not]; omega)
theorem ivE (k : Nat) (x : S50) (hk : 0 < k) : impl_validEntry.f k x.f0 x.f1 x.f2 x.f3 = some (vE x) := by
  obtain ⟨k, rfl, -⟩ := fuel hk
  unfold impl_validEntry.f vE
  have hA : ∀ a : Int, impl_validAccount.f a = some (decide (0 ≤ a ∧ a < 8)) := by
    intro a
    unfold impl_validAccount.f
    by_cases h : a ≥ 0 <;> simp [h]
  simp only [impl_validEntry.j0, hA, Option.bind_some, decide_eq_true_eq, if_true]
  split <;> (try split) <;> (try split) <;> (try split) <;> (try split) <;> (try split) <;> (congr 1; symm; simp only [decide_eq_false_iff_not, bne_iff_ne, ne_eq, bne, Bool.not_eq_true', decide_eq_decide]; first | omega | (rw [Bool.eq_iff_iff]; simp; omega))
theorem sv_l0 (xs : List S50) (hb : xs.length ≤ 10000000) : ∀ (d k i : Nat), i + d = xs.length → d < k → spec_validEntries.l0 k xs (i : Int) = some ((xs.drop i).all vE && decide (xs.length ≤ 40)) := by
  intro d
  induction d with
  | zero =>
    intro k i hi hk
    obtain ⟨k, rfl, -⟩ := fuel hk
    simp only [spec_validEntries.l0]
    rw [if_neg (by omega), drop_end (by omega)]
    congr 1
    simp
    omega
  | succ d ih =>
    intro k i hi hk
    obtain ⟨k, rfl, hk⟩ := fuel hk
    simp only [spec_validEntries.l0]
    rw [if_pos (by omega), if_pos (by omega), svE, Option.bind_some, wrap_succ (by omega), dropE (by omega)]
    by_cases h : vE (rd_T50 xs (i : Int)) = true
    · rw [if_pos h, ih k (i + 1) (by omega) (by omega)]; simp [h]
    · rw [if_neg h]; simp [h]
theorem sv_spec (k : Nat) (xs : List S50) (hb : xs.length ≤ 10000000) (hk : xs.length < k) : spec_validEntries.f k xs = some (okE xs) := by
  unfold spec_validEntries.f okE
  have := sv_l0 xs hb xs.length k 0 (by omega) hk
  simpa using this
theorem iv_l0 (xs : List S50) (hb : xs.length ≤ 40) : ∀ (d k i : Nat), i + d = xs.length → d + 1 < k → impl_ValidEntries.l0 k xs (xs.length : Int) (i : Int) = some ((xs.drop i).all vE) := by
  intro d
  induction d with
  | zero =>
    intro k i hi hk
    obtain ⟨k, rfl, -⟩ := fuel hk
    simp only [impl_ValidEntries.l0]
    rw [if_neg (by omega), drop_end (by omega)]
    simp
  | succ d ih =>
    intro k i hi hk
    obtain ⟨k, rfl, hk⟩ := fuel hk
    simp only [impl_ValidEntries.l0]
    rw [if_pos (by omega), if_pos (by omega), if_pos (by omega), ivE _ _ (by omega), Option.bind_some, wrap_succ (by omega), dropE (by omega)]
    by_cases h : vE (rd_T50 xs (i : Int)) = true
    · rw [if_pos h, ih k (i + 1) (by omega) (by omega)]; simp [h]
    · rw [if_neg h]; simp [h]
theorem iv_spec (k : Nat) (xs : List S50) (hk : 100 < k) : impl_ValidEntries.f k xs = some (okE xs) := by
  unfold impl_ValidEntries.f okE
  by_cases h : (xs.length : Int) > 40
  · rw [if_pos h, decide_eq_false (by omega)]; simp
  · rw [if_neg h, decide_eq_true (by omega)]
    have := iv_l0 xs (by omega) xs.length k 0 (by omega) (by omega)
    simpa using this

/-! ### match -/
theorem E_ext {a b : S50} (h0 : a.f0 = b.f0) (h1 : a.f1 = b.f1) (h2 : a.f2 = b.f2) (h3 : a.f3 = b.f3) : a = b := by
  cases a; cases b; simp_all
instance decE : DecidableEq S50 := fun a b => if h : a.f0 = b.f0 ∧ a.f1 = b.f1 ∧ a.f2 = b.f2 ∧ a.f3 = b.f3 then isTrue (E_ext h.1 h.2.1 h.2.2.1 h.2.2.2) else isFalse (fun e => h (by rw [e]; exact ⟨rfl, rfl, rfl, rfl⟩))
def fnd (e : S50) : List S50 → List Bool → Nat → Option Nat
  | b :: bs, u :: us, i => if u = false ∧ b = e then some i else fnd e bs us (i + 1)
  | _, _, _ => none
def free : List S50 → List Bool → S50 → Nat
  | b :: bs, u :: us, x => (if u = false ∧ b = x then 1 else 0) + free bs us x
  | _, _, _ => 0
theorem fnd_none (e : S50) : ∀ (b : List S50) (u : List Bool) (i : Nat), fnd e b u i = none → free b u e = 0
  | b :: bs, u :: us, i, h => by
    simp only [fnd] at h
    split at h
    · exact absurd h (by simp)
    · rename_i h1
      simp only [free]
      rw [if_neg h1, fnd_none e bs us (i + 1) h]
  | [], _, _, _ => rfl
  | _ :: _, [], _, _ => rfl
theorem fnd_some (e : S50) : ∀ (b : List S50) (u : List Bool) (i j : Nat), fnd e b u i = some j → i ≤ j ∧ j - i < b.length ∧ ∀ x, free b (u.set (j - i) true) x + (if x = e then 1 else 0) = free b u x
  | b :: bs, u :: us, i, j, h => by
    simp only [fnd] at h
    split at h
    · rename_i h1
      obtain rfl := Option.some.inj h
      refine ⟨Nat.le_refl _, by simp, fun x => ?_⟩
      rw [Nat.sub_self, List.set_cons_zero]
      simp only [free]
      by_cases hx : x = e
      · subst hx
        rw [if_pos rfl, if_pos h1, if_neg (by simp)]; omega
      · rw [if_neg hx, if_neg (by simp), if_neg (by rintro ⟨-, h3⟩; exact hx (h3.symm.trans h1.2))]; omega
    · rename_i h1
      obtain ⟨h2, h3, h4⟩ := fnd_some e bs us (i + 1) j h
      refine ⟨by omega, by simp only [List.length_cons]; omega, fun x => ?_⟩
      have h5 := h4 x
      rw [show j - i = (j - (i + 1)) + 1 by omega, List.set_cons_succ]
      simp only [free]
      omega
  | [], _, _, _, h => by simp [fnd] at h
  | _ :: _, [], _, _, h => by simp [fnd] at h
theorem free_all (x : S50) : ∀ b : List S50, free b (List.replicate b.length false) x = b.count x
  | [] => rfl
  | b :: bs => by
    rw [List.length_cons, List.replicate_succ]
    simp only [free]
    rw [free_all x bs, List.count_cons]
    by_cases h : b = x <;> simp [h] <;> omega
def mtch : List S50 → List S50 → List Bool → List Int
  | [], _, _ => []
  | e :: as_, b, u => match fnd e b u 0 with | none => -1 :: mtch as_ b u | some j => (j : Int) :: mtch as_ b (u.set j true)
def onl : List S50 → List Int → List S50
  | e :: as_, p :: ps => if p < 0 then e :: onl as_ ps else onl as_ ps
  | _, _ => []
theorem mtch_length : ∀ (a b : List S50) (u : List Bool), (mtch a b u).length = a.length
  | [], _, _ => rfl
  | e :: as_, b, u => by
    simp only [mtch]
    split <;> simp [mtch_length as_]
theorem onl_sub : ∀ (a : List S50) (p : List Int), (onl a p).length ≤ a.length ∧ ∀ x ∈ onl a p, x ∈ a
  | e :: as_, p :: ps => by
    obtain ⟨h1, h2⟩ := onl_sub as_ ps
    simp only [onl]
    split
    · refine ⟨by simp only [List.length_cons]; omega, fun x hx => ?_⟩
      rcases List.mem_cons.1 hx with h | h
      · rw [h]; exact List.mem_cons_self
      · exact List.mem_cons_of_mem _ (h2 x h)
    · exact ⟨by simp only [List.length_cons]; omega, fun x hx => List.mem_cons_of_mem _ (h2 x hx)⟩
  | [], _ => ⟨Nat.le_refl _, fun _ h => h⟩
  | _ :: _, [] => ⟨Nat.zero_le _, fun x h => by simp [onl] at h⟩
theorem onl_count (x : S50) : ∀ (a b : List S50) (u : List Bool), (onl a (mtch a b u)).count x = a.count x - free b u x
  | [], b, u => by simp [onl]
  | e :: as_, b, u => by
    simp only [mtch]
    cases h : fnd e b u 0 with
    | none =>
      have h1 := fnd_none e b u 0 h
      simp only [onl]
      rw [if_pos (by decide), List.count_cons, List.count_cons, onl_count x as_ b u]
      by_cases hx : e = x
      · subst hx; rw [h1]; simp
      · simp [hx]
    | some j =>
      obtain ⟨-, -, h2⟩ := fnd_some e b u 0 j h
      have h3 := h2 x
      rw [Nat.sub_zero] at h3
      simp only [onl]
      rw [if_neg (by omega), List.count_cons, onl_count x as_ b (u.set j true)]
      by_cases hx : e = x
      · subst hx
        rw [if_pos rfl] at h3
        simp only [beq_self_eq_true, if_true]
        omega
      · rw [if_neg (fun h => hx h.symm)] at h3
        simp only [beq_iff_eq, hx, if_false]
        omega
def onlyM (a b : List S50) : List S50 := onl a (mtch a b (List.replicate b.length false))
theorem onlyM_count (x : S50) (a b : List S50) : (onlyM a b).count x = a.count x - b.count x := by
  unfold onlyM
  rw [onl_count, free_all]
theorem onlyM_perm (a b : List S50) : (onlyM a b ++ b).Perm (onlyM b a ++ a) := by
  rw [List.perm_iff_count]
  intro x
  rw [List.count_append, List.count_append, onlyM_count, onlyM_count]
  omega
def wsum (w : S50 → Int) : List S50 → Int
  | [] => 0
  | x :: xs => w x + wsum w xs
theorem wsum_app (w : S50 → Int) : ∀ xs ys, wsum w (xs ++ ys) = wsum w xs + wsum w ys
  | [], ys => by simp [wsum]
  | x :: xs, ys => by simp only [List.cons_append, wsum]; rw [wsum_app w xs ys]; omega
theorem wsum_perm (w : S50 → Int) {xs ys : List S50} (h : xs.Perm ys) : wsum w xs = wsum w ys := by
  induction h with
  | nil => rfl
  | cons x _ ih => simp only [wsum]; rw [ih]
  | swap x y l => simp only [wsum]; omega
  | trans _ _ h1 h2 => rw [h1, h2]
theorem wsum_diff (w : S50 → Int) (a b : List S50) : wsum w a - wsum w b = wsum w (onlyM a b) - wsum w (onlyM b a) := by
  have h := wsum_perm w (onlyM_perm a b)
  rw [wsum_app, wsum_app] at h
  omega
theorem fnd_step {b : List S50} {u : List Bool} {i : Nat} (e : S50) (hu : u.length = b.length) (hi : i < b.length) : fnd e (b.drop i) (u.drop i) i = if rdOf false u (i : Int) = false ∧ rd_T50 b (i : Int) = e then some i else fnd e (b.drop (i + 1)) (u.drop (i + 1)) (i + 1) := by
  have e1 : rdOf false u (i : Int) = u[i] := by simp [rdOf, List.getD_eq_getElem?_getD, List.getElem?_eq_getElem (show i < u.length by omega)]
  rw [dropE hi, List.drop_eq_getElem_cons (show i < u.length by omega), e1]
  rfl
theorem imatch_l1 (b : List S50) (A : List S50) (n : Int) (j : Nat) (hb : b.length ≤ 1000) (hj : j ≤ 1000000) (e : S50) (u : List Bool) (hu : u.length = b.length) (P : List Int) (hP : P.length ≤ 1000000) (F : Nat) (r : List Int)
    (H : ∀ k, F < k → impl_MatchBooks.l0 k b (match fnd e b u 0 with | none => u | some q => u.set q true) (P ++ [match fnd e b u 0 with | none => -1 | some q => (q : Int)]) A n ((j + 1 : Nat) : Int) = some r) :
    ∀ (d k i : Nat), i + d = b.length → fnd e (b.drop i) (u.drop i) i = fnd e b u 0 → d + 2 + F < k → impl_MatchBooks.l1 k b u P (-1) A n (j : Int) b (b.length : Int) (i : Int) e.f0 e.f1 e.f2 e.f3 = some r := by
  intro d
  induction d with
  | zero =>
    intro k i hi hx hk
    obtain ⟨k, rfl, hk2⟩ := fuel (show 1 + F < k by omega)
    rw [drop_end (show b.length ≤ i by omega)] at hx
    have H1 := H k (by omega)
    rw [← hx] at H1
    simp only [impl_MatchBooks.l1]
    rw [if_neg (by omega), if_pos (by omega), wrap_succ (by omega)]
    simpa only [fnd] using H1
  | succ d ih =>
    intro k i hi hx hk
    obtain ⟨k, rfl, hk2⟩ := fuel (show d + 2 + F < k by omega)
    rw [fnd_step e hu (by omega)] at hx
    simp only [impl_MatchBooks.l1]
    rw [if_pos (by omega), if_pos (by omega), if_pos (by omega), if_pos (by omega), wrap_succ (by omega)]
    by_cases h1 : rdOf false u (i : Int) = true
    · rw [if_pos h1]
      rw [if_neg (by rw [h1]; simp)] at hx
      exact ih k (i + 1) (by omega) hx (by omega)
    · rw [if_neg h1]
      have h1' : rdOf false u (i : Int) = false := by simpa using h1
      by_cases h2 : rd_T50 b (i : Int) = e
      · rw [if_pos ⟨h1', h2⟩] at hx
        have H1 := H k (by omega)
        rw [← hx] at H1
        rw [if_pos (by rw [h2]; simp), if_pos (by omega), toNat_cast, wrap_succ (by omega)]
        exact H1
      · rw [if_neg (fun h => h2 h.2)] at hx
        rw [if_neg (by intro h3; simp only [Bool.and_eq_true, beq_iff_eq] at h3; exact h2 (E_ext h3.1 h3.2.1 h3.2.2.1 h3.2.2.2))]
        exact ih k (i + 1) (by omega) hx (by omega)
theorem imatch_l0 (a b : List S50) (ha : a.length ≤ 1000) (hb : b.length ≤ 1000) : ∀ (d k j : Nat) (u : List Bool) (P : List Int), j + d = a.length → u.length = b.length → P.length = j → 1010 * d + 1 < k → impl_MatchBooks.l0 k b u P a (a.length : Int) (j : Int) = some (P ++ mtch (a.drop j) b u) := by
  intro d
  induction d with
  | zero =>
    intro k j u P hj hu hP hk
    obtain ⟨k, rfl, -⟩ := fuel hk
    simp only [impl_MatchBooks.l0]
    rw [if_neg (by omega), drop_end (by omega)]
    simp [mtch]
  | succ d ih =>
    intro k j u P hj hu hP hk
    obtain ⟨k, rfl, hk2⟩ := fuel (show 1010 * d + 1010 < k by omega)
    simp only [impl_MatchBooks.l0]
    rw [if_pos (by omega), if_pos (by omega), if_pos (by omega), dropE (by omega)]
    generalize rd_T50 a (j : Int) = e
    refine imatch_l1 b a _ j hb (by omega) e u hu P (by omega) (1010 * d + 1) _ ?_ b.length k 0 (by omega) (by simp) (by omega)
    intro k' hk'
    simp only [mtch]
    cases h : fnd e b u 0 with
    | none =>
      have := ih k' (j + 1) u (P ++ [-1]) (by omega) hu (by simp; omega) hk'
      simpa using this
    | some q =>
      have := ih k' (j + 1) (u.set q true) (P ++ [(q : Int)]) (by omega) (by simpa using hu) (by simp; omega) hk'
      simpa using this
theorem ionly_l0 (a : List S50) (p : List Int) (hp : p.length = a.length) (ha : a.length ≤ 1000) : ∀ (d k i : Nat) (o : List S50), i + d = a.length → o.length ≤ i → d < k → impl_OnlyIn.l0 k a o p (p.length : Int) (i : Int) = some (o ++ onl (a.drop i) (p.drop i)) := by
  intro d
  induction d with
  | zero =>
    intro k i o hi ho hk
    obtain ⟨k, rfl, -⟩ := fuel hk
    simp only [impl_OnlyIn.l0]
    rw [if_neg (by omega), drop_end (by omega)]
    simp [onl]
  | succ d ih =>
    intro k i o hi ho hk
    obtain ⟨k, rfl, hk⟩ := fuel hk
    simp only [impl_OnlyIn.l0]
    rw [if_pos (by omega), if_pos (by omega), if_pos (by omega), dropE (by omega), drop_rd (by omega), wrap_succ (by omega)]
    simp only [onl]
    by_cases h : rd p (i : Int) < 0
    · rw [if_pos h, if_pos h, if_pos (by omega), if_pos (by omega)]
      have := ih k (i + 1) (o ++ [rd_T50 a (i : Int)]) (by omega) (by simp; omega) (by omega)
      rw [List.append_assoc, List.singleton_append] at this
      exact this
    · rw [if_neg h, if_neg h]
      exact ih k (i + 1) o (by omega) (by omega) (by omega)
def onlyIn (a b : List S50) : List S50 := if okE a = true ∧ okE b = true then onlyM a b else []
theorem okE_len {a : List S50} (h : okE a = true) : a.length ≤ 40 := by unfold okE at h; simp only [Bool.and_eq_true, decide_eq_true_eq] at h; exact h.2
theorem ionly_spec (k : Nat) (a b : List S50) (hk : 100000 < k) : impl_OnlyIn.f k a b = some (onlyIn a b) := by
  unfold impl_OnlyIn.f impl_MatchBooks.f onlyIn
  rw [iv_spec _ _ (by omega), Option.bind_some]
  have hno : ∀ k', 0 < k' → impl_MatchBooks.j0 k' a b true = some [] := by
    intro k' h
    obtain ⟨k', rfl, -⟩ := fuel h
    simp [impl_MatchBooks.j0]
  have hon : impl_OnlyIn.l0 k a [] [] (([] : List Int).length : Int) 0 = some [] := by
    obtain ⟨k, rfl, -⟩ := fuel hk
    simp [impl_OnlyIn.l0]
  by_cases h1 : okE a = true
  · rw [if_pos h1, iv_spec _ _ (by omega), Option.bind_some]
    by_cases h2 : okE b = true
    · rw [if_pos ⟨h1, h2⟩, h2]
      have l1 := okE_len h1
      have l2 := okE_len h2
      have hm : impl_MatchBooks.j0 k a b (!true) = some (mtch a b (List.replicate b.length false)) := by
        obtain ⟨k, rfl, hk2⟩ := fuel hk
        simp only [impl_MatchBooks.j0]
        rw [if_neg (by simp), if_pos (by omega), toNat_cast, if_pos (by omega)]
        have := imatch_l0 a b (by omega) (by omega) a.length k 0 (List.replicate b.length false) [] (by omega) (by simp) rfl (by omega)
        simpa using this
      rw [hm, Option.bind_some]
      have := ionly_l0 a (mtch a b (List.replicate b.length false)) (mtch_length _ _ _) (by omega) a.length k 0 [] (by omega) (by simp) (by omega)
      unfold onlyM
      simpa using this
    · have h2' : okE b = false := by simpa using h2
      rw [if_neg (fun h => h2 h.2), h2', show (!false) = true from rfl, hno k (by omega), Option.bind_some]
      exact hon
  · rw [if_neg h1, if_neg (fun h => h1 h.1), hno k (by omega), Option.bind_some]
    exact hon
theorem smatch_l1 (a b : List S50) (j : Nat) (hb : b.length ≤ 1000) (hja : j < a.length) (hj : j ≤ 1000000) (e : S50) (he : rd_T50 a (j : Int) = e) (u : List Bool) (hu : u.length = b.length) (P : List Int) (hP : P.length ≤ 1000000) (F : Nat) (r : List Int)
    (H : ∀ k, F < k → spec_partners.l0 k a b (match fnd e b u 0 with | none => u | some q => u.set q true) (P ++ [match fnd e b u 0 with | none => -1 | some q => (q : Int)]) ((j + 1 : Nat) : Int) = some r) :
    ∀ (d k i : Nat), i + d = b.length → fnd e (b.drop i) (u.drop i) i = fnd e b u 0 → 2 * d + 6 + F < k → spec_partners.l1 k a b u P (j : Int) (-1) (i : Int) = some r := by
  have hend : ∀ (k : Nat) (u' : List Bool) (q i : Int), spec_partners.l0 k a b u' (P ++ [q]) ((j + 1 : Nat) : Int) = some r → spec_partners.j2 (k + 1) a b u' P (j : Int) q i false = some r := by
    intro k u' q i h
    simp only [spec_partners.j2]
    rw [if_neg (by simp), if_pos (by omega), wrap_succ (by omega)]
    exact h
  intro d
  induction d with
  | zero =>
    intro k i hi hx hk
    obtain ⟨k, rfl⟩ : ∃ m, k = m + 2 := ⟨k - 2, by omega⟩
    rw [drop_end (show b.length ≤ i by omega)] at hx
    have H1 := H k (by omega)
    rw [← hx] at H1
    have h2 := hend k u (-1) (i : Int) (by simpa only [fnd] using H1)
    rw [show k + 2 = (k + 1) + 1 from rfl]
    generalize hK : k + 1 = K at h2
    simp only [spec_partners.l1]
    rw [if_neg (by omega)]
    exact h2
  | succ d ih =>
    intro k i hi hx hk
    obtain ⟨k, rfl, hk2⟩ : ∃ m, k = m + 4 ∧ 2 * d + 4 + F < m := ⟨k - 4, by omega, by omega⟩
    rw [fnd_step e hu (by omega)] at hx
    have s1 : ∀ (hne : ¬(rdOf false u (i : Int) = false ∧ rd_T50 b (i : Int) = e)), spec_partners.l1 (k + 2) a b u P (j : Int) (-1) ((i + 1 : Nat) : Int) = some r := by
      intro hne
      rw [if_neg hne] at hx
      exact ih (k + 2) (i + 1) (by omega) hx (by omega)
    have s2 : ∀ (hne : rdOf false u (i : Int) = false ∧ rd_T50 b (i : Int) = e), spec_partners.l1 (k + 2) a b (u.set i true) P (j : Int) (i : Int) ((i + 1 : Nat) : Int) = some r := by
      intro hne
      rw [if_pos hne] at hx
      have H1 := H k (by omega)
      rw [← hx] at H1
      have h2 := hend k (u.set i true) (i : Int) ((i + 1 : Nat) : Int) H1
      rw [show k + 2 = (k + 1) + 1 from rfl]
      generalize hK : k + 1 = K at h2
      simp only [spec_partners.l1]
      split
      · rw [decide_eq_false (by omega)]; exact h2
      · exact h2
    have s3 : spec_partners.j2 (k + 3) a b u P (j : Int) (-1) (i : Int) true = some r := by
      rw [show k + 3 = (k + 2) + 1 from rfl]
      generalize hK : k + 2 = K at s1 s2
      simp only [spec_partners.j2]
      rw [if_pos trivial, if_pos (by omega), if_pos (by omega), wrap_succ (by omega)]
      by_cases h1 : rdOf false u (i : Int) = true
      · rw [if_pos h1]
        exact s1 (by rw [h1]; simp)
      · have h1' : rdOf false u (i : Int) = false := by simpa using h1
        rw [if_neg h1, if_pos (by omega), if_pos (by omega), if_pos (by omega), he]
        by_cases h2 : rd_T50 b (i : Int) = e
        · rw [if_pos (by rw [h2]; simp), toNat_cast]
          exact s2 ⟨h1', h2⟩
        · rw [if_neg (by intro h3; simp only [Bool.and_eq_true, beq_iff_eq] at h3; exact h2 (E_ext h3.1 h3.2.1 h3.2.2.1 h3.2.2.2).symm)]
          exact s1 (fun h => h2 h.2)
    rw [show k + 4 = (k + 3) + 1 from rfl]
    generalize hK : k + 3 = K at s3
    simp only [spec_partners.l1]
    rw [if_pos (by omega), decide_eq_true (by omega)]
    exact s3
theorem smatch_l0 (a b : List S50) (ha : a.length ≤ 1000) (hb : b.length ≤ 1000) : ∀ (d k j : Nat) (u : List Bool) (P : List Int), j + d = a.length → u.length = b.length → P.length = j → 2020 * d + 1 < k → spec_partners.l0 k a b u P (j : Int) = some (P ++ mtch (a.drop j) b u) := by
  intro d
  induction d with
  | zero =>
    intro k j u P hj hu hP hk
    obtain ⟨k, rfl, -⟩ := fuel hk
    simp only [spec_partners.l0]
    rw [if_neg (by omega), drop_end (by omega)]
    simp [mtch]
  | succ d ih =>
    intro k j u P hj hu hP hk
    obtain ⟨k, rfl, hk2⟩ := fuel (show 2020 * d + 2020 < k by omega)
    simp only [spec_partners.l0]
    rw [if_pos (by omega), dropE (by omega)]
    generalize he : rd_T50 a (j : Int) = e
    refine smatch_l1 a b j hb (by omega) (by omega) e he u hu P (by omega) (2020 * d + 1) _ ?_ b.length k 0 (by omega) (by simp) (by omega)
    intro k' hk'
    simp only [mtch]
    cases h : fnd e b u 0 with
    | none =>
      have := ih k' (j + 1) u (P ++ [-1]) (by omega) hu (by simp; omega) hk'
      simpa using this
    | some q =>
      have := ih k' (j + 1) (u.set q true) (P ++ [(q : Int)]) (by omega) (by simpa using hu) (by simp; omega) hk'
      simpa using this
theorem sonly_l0 (a : List S50) (p : List Int) (hp : p.length = a.length) (ha : a.length ≤ 1000) : ∀ (d k i : Nat) (o : List S50), i + d = a.length → o.length ≤ i → d < k → spec_onlyIn.l0 k a o p (i : Int) = some (o ++ onl (a.drop i) (p.drop i)) := by
  intro d
  induction d with
  | zero =>
    intro k i o hi ho hk
    obtain ⟨k, rfl, -⟩ := fuel hk
    simp only [spec_onlyIn.l0]
    rw [if_neg (by omega), drop_end (by omega)]
    simp [onl]
  | succ d ih =>
    intro k i o hi ho hk
    obtain ⟨k, rfl, hk⟩ := fuel hk
    simp only [spec_onlyIn.l0]
    rw [if_pos (by omega), if_pos (by omega), dropE (by omega), drop_rd (by omega), wrap_succ (by omega)]
    simp only [onl]
    by_cases h : rd p (i : Int) < 0
    · rw [if_pos h, if_pos h, if_pos (by omega), if_pos (by omega)]
      have := ih k (i + 1) (o ++ [rd_T50 a (i : Int)]) (by omega) (by simp; omega) (by omega)
      rw [List.append_assoc, List.singleton_append] at this
      exact this
    · rw [if_neg h, if_neg h]
      exact ih k (i + 1) o (by omega) (by omega) (by omega)
theorem sonly_spec (k : Nat) (a b : List S50) (ha : a.length ≤ 1000) (hb : b.length ≤ 1000) (hk : 200000 < k) : spec_OnlyIn.f k a b = some (onlyIn a b) := by
  unfold spec_OnlyIn.f onlyIn
  rw [sv_spec _ _ (by omega) (by omega), Option.bind_some]
  by_cases h1 : okE a = true
  · rw [if_pos h1, sv_spec _ _ (by omega) (by omega), Option.bind_some]
    by_cases h2 : okE b = true
    · have l1 := okE_len h1
      rw [if_pos h2, if_pos ⟨h1, h2⟩]
      unfold spec_onlyIn.f spec_partners.f
      have h3 := smatch_l0 a b (by omega) (by omega) a.length k 0 (List.replicate b.length false) [] (by omega) (by simp) rfl (by omega)
      have h4 := sonly_l0 a (mtch a b (List.replicate b.length false)) (mtch_length _ _ _) (by omega) a.length k 0 [] (by omega) (by simp) (by omega)
      simp only [Int.natCast_zero, List.nil_append, List.drop_zero] at h3 h4
      rw [if_pos (by omega), toNat_cast, if_pos (by omega), h3, Option.bind_some, h4, Option.bind_some]
      rfl
    · rw [if_neg h2, if_neg (fun h => h2 h.2)]
  · rw [if_neg h1, if_neg (fun h => h1 h.1)]

/-! ### reader -/
/-- A pick: a number below the bound (0 where there is none), one place on. -/
theorem pick_spec (k : Nat) (hk : 1 ≤ k) (b : List Int) (hb : ∀ x ∈ b, 0 ≤ x ∧ x ≤ 255) (hl : b.length ≤ 2000) (p : Int) (hp0 : 0 ≤ p) (hp : p ≤ 1000000) (n : Int) (hn : n ≤ 1000000000000) :
    ∃ v, spec_reader_pick.f k b p n = some (v, p + 1) ∧ 0 ≤ v ∧ (0 < n → v < n) ∧ (n ≤ 0 → v = 0) := by
  obtain ⟨k, rfl, -⟩ := fuel hk
  have hw : wrap64 (p + 1) = p + 1 := wrap_succ' hp0 (by omega)
  have hw2 : wrap64 (p + 1 - 1) = p := by rw [wrap_id (by omega) (by omega)]; omega
  unfold spec_reader_pick.f
  rw [hw]
  by_cases h1 : n < 1
  · rw [if_pos h1]
    exact ⟨0, by simp [spec_reader_pick.j0], by omega, by omega, fun _ => rfl⟩
  · rw [if_neg h1]
    by_cases h2 : b.length = 0
    · have e : ((b.length : Int) == 0) = true := by simp [h2]
      rw [e]
      exact ⟨0, by simp [spec_reader_pick.j0], by omega, fun _ => by omega, fun _ => rfl⟩
    · have e : ((b.length : Int) == 0) = false := by rw [beq_eq_false_iff_ne]; omega
      rw [e]
      simp only [spec_reader_pick.j0]
      rw [if_neg (by decide), hw2]
      have rdb : ∀ i : Int, 0 ≤ i → i < (b.length : Int) → 0 ≤ rd b i ∧ rd b i ≤ 255 := fun i h0 h => hb _ (rd_mem' h0 h)
      by_cases h3 : p < (b.length : Int)
      · rw [if_pos h3, if_pos hp0, if_neg (by omega)]
        have hr := rdb p hp0 h3
        rw [wrap_id (x := rd b p) (by omega) (by omega), Int.tmod_eq_emod_of_nonneg hr.1]
        exact ⟨_, rfl, Int.emod_nonneg _ (by omega), fun _ => Int.emod_lt_of_pos _ (by omega), fun h => by omega⟩
      · have hL : (0 : Int) < (b.length : Int) := by omega
        have m1 := Int.emod_nonneg p (b := (b.length : Int)) (by omega)
        have m2 := Int.emod_lt_of_pos p hL
        have w7 : wrap64 (wrap64 (p * 7) + 3) = p * 7 + 3 := by rw [wrap_add_l, wrap_id (by omega) (by omega)]
        have m3 := Int.emod_nonneg (p * 7 + 3) (b := (b.length : Int)) (by omega)
        have m4 := Int.emod_lt_of_pos (p * 7 + 3) hL
        rw [if_neg h3, if_neg (by omega)]
        rw [w7]
        rw [Int.tmod_eq_emod_of_nonneg hp0, Int.tmod_eq_emod_of_nonneg (by omega : (0 : Int) ≤ p * 7 + 3)]
        rw [if_pos m1, if_pos m2, if_pos m3, if_pos m4, if_neg (by omega)]
        have r1 := rdb _ m1 m2
        have r2 := rdb _ m3 m4
        have hq : 0 ≤ Int.tdiv p (b.length : Int) ∧ Int.tdiv p (b.length : Int) ≤ p := by
          rw [Int.tdiv_eq_ediv_of_nonneg hp0]
          exact ⟨Int.ediv_nonneg hp0 (by omega), Int.ediv_le_self _ hp0⟩
        generalize rd b (p % (b.length : Int)) = x at *
        generalize rd b ((p * 7 + 3) % (b.length : Int)) = y at *
        generalize Int.tdiv p (b.length : Int) = q at *
        have hx : wrap64 x = x := wrap_id (by omega) (by omega)
        have hy : wrap64 y = y := wrap_id (by omega) (by omega)
        have hqq : wrap64 q = q := wrap_id (by omega) (by omega)
        rw [hx, hy, hqq]
        have e1 : wrap64 (x * 131) = x * 131 := wrap_id (by omega) (by omega)
        have e2 : wrap64 (y * 1117) = y * 1117 := wrap_id (by omega) (by omega)
        have e3 : wrap64 (p * 29) = p * 29 := wrap_id (by omega) (by omega)
        have e4 : wrap64 (q * 53) = q * 53 := wrap_id (by omega) (by omega)
        rw [e1, e2, e3, e4]
        have e5 : wrap64 (x * 131 + y * 1117) = x * 131 + y * 1117 := wrap_id (by omega) (by omega)
        rw [e5]
        have e6 : wrap64 (x * 131 + y * 1117 + p * 29) = x * 131 + y * 1117 + p * 29 := wrap_id (by omega) (by omega)
        rw [e6]
        have e7 : wrap64 (x * 131 + y * 1117 + p * 29 + q * 53) = x * 131 + y * 1117 + p * 29 + q * 53 := wrap_id (by omega) (by omega)
        rw [e7]
        have hz : 0 ≤ x * 131 + y * 1117 + p * 29 + q * 53 ∧ x * 131 + y * 1117 + p * 29 + q * 53 ≤ 1000000000 := by omega
        generalize x * 131 + y * 1117 + p * 29 + q * 53 = z at *
        have hz64 : 0 ≤ Int.tdiv z 64 ∧ Int.tdiv z 64 ≤ z := by
          rw [Int.tdiv_eq_ediv_of_nonneg hz.1]; omega
        rw [wrap_id (x := Int.tdiv z 64) (by omega) (by omega)]
        have hxor := bits_xor (a := z) (b := Int.tdiv z 64) hz.1 (by omega) hz64.1 (by omega)
        rw [Int.tmod_eq_emod_of_nonneg hxor.1]
        exact ⟨_, rfl, Int.emod_nonneg _ (by omega), fun _ => Int.emod_lt_of_pos _ (by omega), fun h => by omega⟩
/-- One of some numbers. -/
theorem one_spec (k : Nat) (hk : 1 ≤ k) (b : List Int) (hb : ∀ x ∈ b, 0 ≤ x ∧ x ≤ 255) (hl : b.length ≤ 2000) (p : Int) (hp0 : 0 ≤ p) (hp : p ≤ 1000000) (l : List Int) (hn0 : l ≠ []) (hn : l.length ≤ 1000000) :
    ∃ v, spec_reader_one.f k b p l = some (v, p + 1) ∧ v ∈ l := by
  have h0 : 0 < l.length := List.length_pos_iff.2 hn0
  obtain ⟨v, hv, h1, h2, -⟩ := pick_spec k hk b hb hl p hp0 hp (l.length : Int) (by omega)
  unfold spec_reader_one.f
  rw [hv]
  simp only [Option.bind_some]
  rw [if_pos h1, if_pos (h2 (by omega))]
  exact ⟨_, rfl, rd_mem' h1 (h2 (by omega))⟩
theorem reader_bytes {l : List Int} (h : ∀ x ∈ l, (Lit.int .u8 x).wf = true) : ∀ x ∈ l, 0 ≤ x ∧ x ≤ 255 := by
  intro x hx
  have := h x hx
  simp [Lit.wf, IntKind.min, IntKind.max, IntKind.bits, IntKind.signed] at this
  omega
/-- A reader of some code: its bytes. -/
theorem newReader_spec (l : List Int) (h : ∀ x ∈ l, 0 ≤ x ∧ x ≤ 255) : ∃ b : List Int, spec_newReader.f l = some (b, 0) ∧ (∀ x ∈ b, 0 ≤ x ∧ x ≤ 255) ∧ b.length ≤ 2000 := by
  unfold spec_newReader.f
  by_cases h1 : (l.length : Int) > 2000
  · rw [if_pos h1, if_pos (by omega)]
    exact ⟨_, rfl, fun x hx => h x (List.mem_of_mem_take hx), by simp; omega⟩
  · rw [if_neg h1]
    exact ⟨_, rfl, h, by omega⟩

/-! ### the law -/
-- the draw is whole
def GoodA (xs : List S50) : Prop := ∀ x ∈ xs, x.f3 ≤ 9000000
theorem rdE_mem {xs : List S50} {i : Int} (h0 : 0 ≤ i) (h : i < (xs.length : Int)) : rd_T50 xs i ∈ xs := by
  obtain ⟨j, rfl⟩ := Int.eq_ofNat_of_zero_le h0
  rw [rdE_at (by omega)]
  exact List.getElem_mem _
theorem goodA_app {xs : List S50} {y : S50} (h : GoodA xs) (hy : y.f3 ≤ 9000000) : GoodA (xs ++ [y]) := by
  intro x hx
  rcases List.mem_append.1 hx with h1 | h1
  · exact h x h1
  · rw [List.mem_singleton.1 h1]; exact hy
theorem someE_l0 (b : List Int) (hb : ∀ x ∈ b, 0 ≤ x ∧ x ≤ 255) (hl : b.length ≤ 2000) : ∀ (d k : Nat) (xs : List S50) (p : Int), xs.length + 2 * d ≤ 1000 → GoodA xs → 0 ≤ p → p + 10 * d ≤ 900000 → d + 10 < k →
    ∃ ys q, spec_someEntries.l0 k xs (d : Int) b p = some (ys, q) ∧ ys.length ≤ xs.length + 2 * d ∧ GoodA ys ∧ 0 ≤ q ∧ q ≤ p + 10 * d := by
  intro d
  induction d with
  | zero =>
    intro k xs p hx hg h0 h1 hk
    obtain ⟨k, rfl, -⟩ := fuel hk
    simp only [spec_someEntries.l0]
    rw [if_neg (by omega)]
    exact ⟨xs, p, rfl, by omega, hg, h0, by omega⟩
  | succ d ih =>
    intro k xs p hx hg h0 h1 hk
    obtain ⟨k, rfl, hk⟩ := fuel (show d + 10 < k by omega)
    obtain ⟨v1, e1, -⟩ := pick_spec k (by omega) b hb hl p h0 (by omega) 5 (by omega)
    obtain ⟨v2, e2, -⟩ := pick_spec k (by omega) b hb hl (p + 1) (by omega) (by omega) 6 (by omega)
    obtain ⟨v3, e3, -⟩ := pick_spec k (by omega) b hb hl (p + 1 + 1) (by omega) (by omega) 4 (by omega)
    obtain ⟨v4, e4, a4, c4, -⟩ := pick_spec k (by omega) b hb hl (p + 1 + 1 + 1) (by omega) (by omega) 250 (by omega)
    obtain ⟨v5, e5, a5, c5, -⟩ := pick_spec k (by omega) b hb hl (p + 1 + 1 + 1 + 1) (by omega) (by omega) 100 (by omega)
    have c4 := c4 (by omega)
    have c5 := c5 (by omega)
    obtain ⟨v6, e6, a6⟩ := one_spec k (by omega) b hb hl (p + 1 + 1 + 1 + 1 + 1) (by omega) (by omega) [1200, wrap64 (1 + v4), 1234, 50, 90, wrap64 (100 * (wrap64 (1 + v5)))] (by simp) (by simp)
    have b6 : v6 ≤ 9000000 := by
      rw [wrap_id (x := 1 + v4) (by omega) (by omega), wrap_id (x := 1 + v5) (by omega) (by omega), wrap_id (by omega) (by omega)] at a6
      simp only [List.mem_cons, List.not_mem_nil, or_false] at a6
      omega
    obtain ⟨v7, e7, -⟩ := pick_spec k (by omega) b hb hl (p + 1 + 1 + 1 + 1 + 1 + 1) (by omega) (by omega) 6 (by omega)
    have hg2 := goodA_app hg (y := ⟨v2, v1, Int.tmod (wrap64 ((wrap64 (v1 + 1)) + v3)) 5, v6⟩) b6
    have hl2 : (xs ++ [(⟨v2, v1, Int.tmod (wrap64 ((wrap64 (v1 + 1)) + v3)) 5, v6⟩ : S50)]).length = xs.length + 1 := by simp
    have hw : wrap64 (((d + 1 : Nat) : Int) - 1) = (d : Int) := by rw [wrap_id (by omega) (by omega)]; omega
    simp only [spec_someEntries.l0]
    rw [if_pos (by omega), e1, Option.bind_some]
    simp only []
    rw [e2, Option.bind_some]
    simp only []
    rw [e3, Option.bind_some]
    simp only []
    rw [e4, Option.bind_some]
    simp only []
    rw [e5, Option.bind_some]
    simp only []
    rw [e6, Option.bind_some, if_pos (by omega), Option.bind_some]
    simp only []
    rw [e7, Option.bind_some, hw]
    simp only []
    generalize hY : xs ++ [(⟨v2, v1, Int.tmod (wrap64 ((wrap64 (v1 + 1)) + v3)) 5, v6⟩ : S50)] = Y at hg2 hl2
    by_cases h7 : v7 = 0
    · obtain ⟨v8, e8, a8, c8, -⟩ := pick_spec k (by omega) b hb hl (p + 1 + 1 + 1 + 1 + 1 + 1 + 1) (by omega) (by omega) (Y.length : Int) (by omega)
      have c8 := c8 (by omega)
      rw [if_pos h7, e8, Option.bind_some]
      simp only []
      rw [if_pos a8, if_pos c8, if_pos (by omega)]
      obtain ⟨ys, q, q1, q2, q3, q4, q5⟩ := ih k (Y ++ [rd_T50 Y v8]) (p + 1 + 1 + 1 + 1 + 1 + 1 + 1 + 1) (by simp; omega) (goodA_app hg2 (hg2 _ (rdE_mem a8 c8))) (by omega) (by omega) (by omega)
      exact ⟨ys, q, q1, by simp at q2; omega, q3, q4, by omega⟩
    · rw [if_neg h7]
      obtain ⟨ys, q, q1, q2, q3, q4, q5⟩ := ih k Y (p + 1 + 1 + 1 + 1 + 1 + 1 + 1) (by omega) hg2 (by omega) (by omega) (by omega)
      exact ⟨ys, q, q1, by omega, q3, q4, by omega⟩
theorem someE_spec (b : List Int) (hb : ∀ x ∈ b, 0 ≤ x ∧ x ≤ 255) (hl : b.length ≤ 2000) (k : Nat) (hk : 100 < k) : ∃ ys q, spec_someEntries.f k b 0 = some (ys, q) ∧ ys.length ≤ 20 ∧ GoodA ys ∧ 0 ≤ q ∧ q ≤ 1000 := by
  obtain ⟨v, e1, a1⟩ := one_spec k (by omega) b hb hl 0 (by omega) (by omega) [4, 5, 3, 7, 1, 0, 10] (by simp) (by simp)
  have b1 : 0 ≤ v ∧ v ≤ 10 := by
    simp only [List.mem_cons, List.not_mem_nil, or_false] at a1
    omega
  obtain ⟨n, rfl⟩ := Int.eq_ofNat_of_zero_le b1.1
  unfold spec_someEntries.f
  rw [e1, Option.bind_some]
  simp only []
  obtain ⟨ys, q, q1, q2, q3, q4, q5⟩ := someE_l0 b hb hl n k [] (0 + 1) (by simp; omega) (by intro x hx; simp at hx) (by omega) (by omega) (by omega)
  exact ⟨ys, q, q1, by simp at q2; omega, q3, q4, by omega⟩
theorem goodA_set {xs : List S50} {y : S50} {i : Nat} (h : GoodA xs) (hy : y.f3 ≤ 9000000) : GoodA (xs.set i y) := by
  intro x hx
  rcases List.mem_or_eq_of_mem_set hx with h1 | h1
  · exact h x h1
  · rw [h1]; exact hy
theorem anyE_spec (b : List Int) (hb : ∀ x ∈ b, 0 ≤ x ∧ x ≤ 255) (hl : b.length ≤ 2000) (k : Nat) (hk : 100 < k) : ∃ ys q, spec_anyEntries.f k b 0 = some (ys, q) ∧ ys.length ≤ 20 ∧ GoodA ys ∧ 0 ≤ q ∧ q ≤ 2000 := by
  obtain ⟨ys, p, q1, q2, q3, q4, q5⟩ := someE_spec b hb hl k hk
  unfold spec_anyEntries.f
  rw [q1, Option.bind_some]
  simp only []
  by_cases h0 : (ys.length : Int) > 0
  · obtain ⟨v, e1, a1, c1, -⟩ := pick_spec k (by omega) b hb hl p q4 (by omega) (ys.length : Int) (by omega)
    have c1 := c1 h0
    obtain ⟨u, e2, -⟩ := pick_spec k (by omega) b hb hl (p + 1) (by omega) (by omega) 20 (by omega)
    have hm := q3 _ (rdE_mem a1 c1)
    rw [if_pos h0, e1, Option.bind_some]
    simp only []
    rw [e2, Option.bind_some]
    simp only []
    by_cases h1 : u = 0
    · obtain ⟨z, e3, a3⟩ := one_spec k (by omega) b hb hl (p + 1 + 1) (by omega) (by omega) [0, 1000001, 1000000] (by simp) (by simp)
      have b3 : z ≤ 9000000 := by
        simp only [List.mem_cons, List.not_mem_nil, or_false] at a3
        omega
      rw [if_pos h1, e3, Option.bind_some, if_pos a1, if_pos c1]
      exact ⟨_, _, rfl, by simpa using q2, goodA_set q3 b3, by omega, by omega⟩
    · rw [if_neg h1]
      by_cases h2 : u = 1
      · obtain ⟨z, e3, -⟩ := one_spec k (by omega) b hb hl (p + 1 + 1) (by omega) (by omega) [(rd_T50 ys v).f1, 8, (-1)] (by simp) (by simp)
        rw [if_pos h2, if_pos a1, if_pos c1, e3, Option.bind_some]
        exact ⟨_, _, rfl, by simpa using q2, goodA_set q3 hm, by omega, by omega⟩
      · rw [if_neg h2]
        by_cases h3 : u = 2
        · obtain ⟨z, e3, -⟩ := one_spec k (by omega) b hb hl (p + 1 + 1) (by omega) (by omega) [(-1), 1000] (by simp) (by simp)
          rw [if_pos h3, e3, Option.bind_some, if_pos a1, if_pos c1]
          exact ⟨_, _, rfl, by simpa using q2, goodA_set q3 hm, by omega, by omega⟩
        · rw [if_neg h3]
          exact ⟨_, _, rfl, q2, q3, by omega, by omega⟩
  · rw [if_neg h0]
    exact ⟨_, _, rfl, q2, q3, by omega, by omega⟩
theorem digits_spec : ∀ (d m k : Nat), d ≤ 100 → m < 10 ^ (d + 1) → m ≤ 9000000 → d < k → ∃ l, spec_digits.f k (m : Int) = some l ∧ l.length ≤ d + 1 := by
  intro d
  induction d with
  | zero =>
    intro m k _ h _ hk
    obtain ⟨k, rfl, -⟩ := fuel hk
    have h' : m < 10 := by simpa using h
    simp only [spec_digits.f]
    rw [if_pos (by omega)]
    exact ⟨_, rfl, by simp⟩
  | succ d ih =>
    intro m k hd h hm hk
    obtain ⟨k, rfl, hk2⟩ := fuel hk
    simp only [spec_digits.f]
    by_cases h1 : m < 10
    · rw [if_pos (by omega)]
      exact ⟨_, rfl, by simp⟩
    · rw [Nat.pow_succ] at h
      obtain ⟨l, e, hl⟩ := ih (m / 10) k (by omega) (by generalize 10 ^ (d + 1) = P at h ⊢; omega) (by omega) (by omega)
      have e1 : wrap64 (Int.tdiv (m : Int) 10) = ((m / 10 : Nat) : Int) := by rw [Int.tdiv_eq_ediv_of_nonneg (by omega), wrap_id (by omega) (by omega)]; omega
      rw [if_neg (by omega), e1, e, Option.bind_some, if_pos (by omega)]
      exact ⟨_, rfl, by simp; omega⟩
theorem valueOf_l0 (l : List Int) (hl : l.length ≤ 1000) : ∀ (d k i : Nat) (v : Int), i + d = l.length → d < k → ∃ r, spec_valueOf.l0 k l v (i : Int) = some r := by
  intro d
  induction d with
  | zero =>
    intro k i v hi hk
    obtain ⟨k, rfl, -⟩ := fuel hk
    simp only [spec_valueOf.l0]
    rw [if_neg (by omega)]
    exact ⟨_, rfl⟩
  | succ d ih =>
    intro k i v hi hk
    obtain ⟨k, rfl, hk⟩ := fuel hk
    simp only [spec_valueOf.l0]
    rw [if_pos (by omega), if_pos (by omega), wrap_succ (by omega)]
    exact ih k (i + 1) _ (by omega) (by omega)
theorem valueOf_spec (k : Nat) (l : List Int) (hl : l.length ≤ 1000) (hk : 1000 < k) : ∃ r, spec_valueOf.f k l = some r := valueOf_l0 l hl l.length k 0 0 (by omega) (by omega)
theorem swaps_l0 (D : List Int) (hD : D.length ≤ 100) : ∀ (d k i : Nat) (xs : List Int), i + d = D.length → d + 1010 < k → xs.length ≤ 1000 + i → ∃ r, spec_swaps.l0 k xs D (i : Int) = some r ∧ r.length ≤ xs.length + d := by
  intro d
  induction d with
  | zero =>
    intro k i xs hi hk hx
    obtain ⟨k, rfl, -⟩ := fuel hk
    simp only [spec_swaps.l0]
    rw [wrap_succ (by omega), if_neg (by omega)]
    exact ⟨_, rfl, by omega⟩
  | succ d ih =>
    intro k i xs hi hk hx
    obtain ⟨k, rfl, hk⟩ := fuel (show d + 1010 < k by omega)
    simp only [spec_swaps.l0, spec_copyInts.f]
    rw [wrap_succ (by omega)]
    by_cases h : (((i + 1 : Nat) : Int)) < (D.length : Int)
    · rw [if_pos h, Option.bind_some, if_pos (by simp; omega), Option.bind_some, List.nil_append, if_pos (by omega), if_pos (by omega), if_pos (by omega), if_pos (by omega), if_pos (by omega), Option.bind_some, if_pos (by omega)]
      obtain ⟨r, r1, r2⟩ := ih k (i + 1) xs (by omega) (by omega) (by omega)
      split
      · split
        · exact ⟨r, r1, by omega⟩
        · obtain ⟨v, hv⟩ := valueOf_spec k ((D.set (i : Int).toNat (rd D ((i + 1 : Nat) : Int))).set (((i + 1 : Nat) : Int)).toNat (rd D (i : Int))) (by simp; omega) (by omega)
          rw [hv, Option.bind_some, if_pos (by omega)]
          obtain ⟨r, r1, r2⟩ := ih k (i + 1) (xs ++ [v]) (by omega) (by omega) (by simp; omega)
          exact ⟨r, r1, by simp at r2; omega⟩
      · exact ⟨r, r1, by omega⟩
    · rw [if_neg h]
      exact ⟨_, rfl, by omega⟩
theorem swaps_spec (k : Nat) (n : Int) (hn0 : 0 ≤ n) (hn : n ≤ 9000000) (hk : 2000 < k) : ∃ r, spec_swaps.f k n = some r ∧ r.length ≤ 100 := by
  obtain ⟨m, rfl⟩ := Int.eq_ofNat_of_zero_le hn0
  obtain ⟨D, e, hD⟩ := digits_spec 6 m k (by omega) (by omega) (by omega) (by omega)
  obtain ⟨r, r1, r2⟩ := swaps_l0 D (by omega) D.length k 0 [] (by omega) (by omega) (by simp)
  unfold spec_swaps.f
  rw [e, Option.bind_some]
  exact ⟨r, r1, by simp at r2; omega⟩
def tailF (k : Nat) (a X : List S50) (E : S50) (i : Int) (b : List Int) (p : Int) : Option ((List S50) × (List S50) × Int) := (spec_reader_pick.f k b p (wrap64 ((X.length : Int) + 1))).bind fun bt => ((some (([] : List S50) : List S50)).bind fun y => (if 0 ≤ bt.1 then (if bt.1 ≤ (X.length : Int) then ((some (X.drop (bt.1 : Int).toNat : List S50)).bind fun y2 => (if y.length + y2.length < 4398046511104 then ((some (y ++ y2 : List S50)).bind fun y3 => ((some (X.take (bt.1 : Int).toNat : List S50)).bind fun y4 => (if y4.length < 4398046511104 then ((some (y4 ++ [E] : List S50)).bind fun y5 => (if y5.length + y3.length < 4398046511104 then (spec_twoBooks.l0 k a (y5 ++ y3) (wrap64 (i + 1)) b bt.2) else (none))) else (none)))) else (none))) else (none)) else (none)))
theorem tail_spec (k : Nat) (hk : 1 ≤ k) (a X : List S50) (E : S50) (i : Int) (b : List Int) (hb : ∀ x ∈ b, 0 ≤ x ∧ x ≤ 255) (hl : b.length ≤ 2000) (p : Int) (h0 : 0 ≤ p) (h1 : p ≤ 900000) (hX : X.length ≤ 1000) (Q : (List S50) × (List S50) × Int → Prop)
    (IH : ∀ Y : List S50, Y.length = X.length + 1 → ∃ r, spec_twoBooks.l0 k a Y (wrap64 (i + 1)) b (p + 1) = some r ∧ Q r) : ∃ r, tailF k a X E i b p = some r ∧ Q r := by
  obtain ⟨v, e1, a1, c1, -⟩ := pick_spec k hk b hb hl p h0 (by omega) ((X.length : Int) + 1) (by omega)
  have c1 := c1 (by omega)
  obtain ⟨n, rfl⟩ := Int.eq_ofNat_of_zero_le a1
  unfold tailF
  rw [wrap_id (x := (X.length : Int) + 1) (by omega) (by omega), e1, Option.bind_some, Option.bind_some]
  simp only []
  rw [if_pos a1, if_pos (by omega), Option.bind_some, toNat_cast, if_pos (by simp; omega), Option.bind_some, Option.bind_some, if_pos (by simp; omega), Option.bind_some, if_pos (by simp; omega)]
  exact IH _ (by simp; omega)
theorem two_l0 (a : List S50) (ha : a.length ≤ 20) (hg : GoodA a) (b : List Int) (hb : ∀ x ∈ b, 0 ≤ x ∧ x ≤ 255) (hl : b.length ≤ 2000) : ∀ (d k i : Nat) (X : List S50) (p : Int), i + d = a.length → X.length + 2 * d ≤ 100 → 0 ≤ p → p + 10 * d ≤ 900000 → d + 3000 < k →
    ∃ r, spec_twoBooks.l0 k a X (i : Int) b p = some r ∧ (r.1 = a ∧ r.2.1.length ≤ 100) := by
  intro d
  induction d with
  | zero =>
    intro k i X p hi hX h0 h1 hk
    obtain ⟨k, rfl, -⟩ := fuel hk
    simp only [spec_twoBooks.l0]
    rw [if_neg (by omega)]
    exact ⟨_, rfl, rfl, by simp only []; omega⟩
  | succ d ih =>
    intro k i X p hi hX h0 h1 hk
    obtain ⟨k, rfl, hk⟩ := fuel (show d + 3000 < k by omega)
    obtain ⟨v, e1, -⟩ := pick_spec k (by omega) b hb hl p h0 (by omega) 10 (by omega)
    have hm := hg _ (rdE_mem (xs := a) (i := (i : Int)) (by omega) (by omega))
    have IH : ∀ (Z : List S50) (q : Int), Z.length + 1 + 2 * d ≤ 100 → 0 ≤ q → q + 1 + 10 * d ≤ 900000 → ∀ Y : List S50, Y.length = Z.length + 1 → ∃ r, spec_twoBooks.l0 k a Y (wrap64 ((i : Int) + 1)) b (q + 1) = some r ∧ (r.1 = a ∧ r.2.1.length ≤ 100) := by
      intro Z q hZ hq hq2 Y hY
      rw [wrap_succ (by omega)]
      exact ih k (i + 1) Y (q + 1) (by omega) (by omega) (by omega) (by omega) (by omega)
    simp only [spec_twoBooks.l0]
    rw [if_pos (by omega), if_pos (by omega), e1, Option.bind_some]
    simp only []
    by_cases h2 : v = 0
    · obtain ⟨S, s1, s2⟩ := swaps_spec k (mx ((rd_T50 a (i : Int)).f3) 0) (by unfold mx; omega) (by unfold mx; omega) (by omega)
      rw [if_pos h2, s1, Option.bind_some]
      by_cases h3 : (S.length : Int) > 0
      · obtain ⟨u, e2, a2, c2, -⟩ := pick_spec k (by omega) b hb hl (p + 1) (by omega) (by omega) (S.length : Int) (by omega)
        have c2 := c2 h3
        rw [if_pos h3, e2, Option.bind_some]
        simp only []
        rw [if_pos a2, if_pos c2]
        exact tail_spec k (by omega) a X _ (i : Int) b hb hl (p + 1 + 1) (by omega) (by omega) (by omega) _ (IH X (p + 1 + 1) (by omega) (by omega) (by omega))
      · rw [if_neg h3]
        exact tail_spec k (by omega) a X _ (i : Int) b hb hl (p + 1) (by omega) (by omega) (by omega) _ (IH X (p + 1) (by omega) (by omega) (by omega))
    · rw [if_neg h2]
      by_cases h3 : v = 1
      · rw [if_pos h3]
        exact tail_spec k (by omega) a X _ (i : Int) b hb hl (p + 1) (by omega) (by omega) (by omega) _ (IH X (p + 1) (by omega) (by omega) (by omega))
      · rw [if_neg h3]
        by_cases h4 : v = 2
        · obtain ⟨u, e2, -⟩ := pick_spec k (by omega) b hb hl (p + 1) (by omega) (by omega) 6 (by omega)
          rw [if_pos h4, e2, Option.bind_some]
          exact tail_spec k (by omega) a X _ (i : Int) b hb hl (p + 1 + 1) (by omega) (by omega) (by omega) _ (IH X (p + 1 + 1) (by omega) (by omega) (by omega))
        · rw [if_neg h4]
          by_cases h5 : v = 3
          · rw [if_pos h5, wrap_succ (by omega)]
            exact ih k (i + 1) X (p + 1) (by omega) (by omega) (by omega) (by omega) (by omega)
          · rw [if_neg h5]
            by_cases h6 : v = 4
            · rw [if_pos h6, if_pos (by omega), Option.bind_some]
              exact tail_spec k (by omega) a (X ++ [rd_T50 a (i : Int)]) _ (i : Int) b hb hl (p + 1) (by omega) (by omega) (by simp; omega) _ (IH (X ++ [rd_T50 a (i : Int)]) (p + 1) (by simp; omega) (by omega) (by omega))
            · rw [if_neg h6]
              exact tail_spec k (by omega) a X _ (i : Int) b hb hl (p + 1) (by omega) (by omega) (by omega) _ (IH X (p + 1) (by omega) (by omega) (by omega))
theorem draw_spec (k : Nat) (hk : 10000 < k) (l : List Int) (hl : ∀ x ∈ l, 0 ≤ x ∧ x ≤ 255) : ∃ a b, spec_DrawOnlyIn.f k l = some (a, b) ∧ a.length ≤ 100 ∧ b.length ≤ 100 := by
  obtain ⟨c, h1, h2, h3⟩ := newReader_spec l hl
  obtain ⟨a, p, q1, q2, q3, q4, q5⟩ := anyE_spec c h2 h3 k (by omega)
  obtain ⟨r, r1, r2, r3⟩ := two_l0 a q2 q3 c h2 h3 a.length k 0 [] p (by omega) (by simp; omega) q4 (by omega) (by omega)
  unfold spec_DrawOnlyIn.f spec_twoBooks.f
  rw [h1, Option.bind_some]
  simp only []
  simp only [Int.natCast_zero] at r1
  rw [q1, Option.bind_some]
  simp only []
  rw [r1, Option.bind_some]
  exact ⟨_, _, rfl, by rw [r2]; omega, r3⟩
-- the balances
def sw (t : Nat) (x : S50) : Int := (if x.f2 = (t : Int) then x.f3 else 0) - (if x.f1 = (t : Int) then x.f3 else 0)
theorem sw_bound (t : Nat) {x : S50} (h : vE x = true) : -1000000 ≤ sw t x ∧ sw t x ≤ 1000000 := by
  unfold vE at h
  simp only [decide_eq_true_eq] at h
  unfold sw
  split <;> split <;> omega
theorem wsum_bound (t : Nat) : ∀ l : List S50, (∀ x ∈ l, vE x = true) → -1000000 * (l.length : Int) ≤ wsum (sw t) l ∧ wsum (sw t) l ≤ 1000000 * (l.length : Int)
  | [], _ => by simp [wsum]
  | x :: xs, h => by
    have h1 := wsum_bound t xs (fun y hy => h y (List.mem_cons_of_mem _ hy))
    have h2 := sw_bound t (h x (by simp))
    simp only [wsum, List.length_cons]
    push_cast
    omega
theorem saldi_l0 (l : List S50) (hv : ∀ x ∈ l, vE x = true) (hl : l.length ≤ 40) : ∀ (d k i : Nat) (v : List Int), i + d = l.length → v.length = 8 → (∀ t : Nat, t < 8 → rd v (t : Int) = wsum (sw t) (l.take i)) → d < k →
    ∃ r, impl_SaldiOf.l0 k v l (l.length : Int) (i : Int) = some r ∧ r.length = 8 ∧ ∀ t : Nat, t < 8 → rd r (t : Int) = wsum (sw t) l := by
  intro d
  induction d with
  | zero =>
    intro k i v hi h8 hr hk
    obtain ⟨k, rfl, -⟩ := fuel hk
    simp only [impl_SaldiOf.l0]
    rw [if_neg (by omega)]
    rw [List.take_of_length_le (by omega)] at hr
    exact ⟨v, rfl, h8, hr⟩
  | succ d ih =>
    intro k i v hi h8 hr hk
    obtain ⟨k, rfl, hk⟩ := fuel hk
    have hx := hv _ (rdE_mem (xs := l) (i := (i : Int)) (by omega) (by omega))
    have ht : l.take (i + 1) = l.take i ++ [rd_T50 l (i : Int)] := by rw [rdE_at (by omega), List.take_succ_eq_append_getElem (by omega)]
    generalize he : rd_T50 l (i : Int) = x at hx ht
    have hx' := hx
    unfold vE at hx'
    simp only [decide_eq_true_eq] at hx'
    obtain ⟨p, hp⟩ := Int.eq_ofNat_of_zero_le hx'.2.2.1
    obtain ⟨q, hq⟩ := Int.eq_ofNat_of_zero_le hx'.2.2.2.2.1
    have hb : ∀ t : Nat, t < 8 → -40000000 ≤ rd v (t : Int) ∧ rd v (t : Int) ≤ 40000000 := by
      intro t h
      rw [hr t h]
      have := wsum_bound t (l.take i) (fun y hy => hv y (List.mem_of_mem_take hy))
      have hlen : (l.take i).length ≤ 40 := by simp; omega
      omega
    have b1 := hb p (by omega)
    have b2 := hb q (by omega)
    have hne : p ≠ q := by intro e; apply hx'.2.2.2.2.2.2.1; rw [hp, hq, e]
    simp only [impl_SaldiOf.l0, he]
    rw [if_pos (by omega), if_pos (by omega), if_pos (by omega), hq, if_pos (by omega), if_pos (by omega), Option.bind_some, hp, if_pos (by omega), if_pos (by omega), toNat_cast, toNat_cast, rd_set_ne (Ne.symm hne), wrap_id (x := rd v (q : Int) + x.f3) (by omega) (by omega), wrap_id (x := rd v (p : Int) - x.f3) (by omega) (by omega), wrap_succ (by omega)]
    refine ih k (i + 1) _ (by omega) (by simpa using h8) (fun t h => ?_) (by omega)
    rw [ht, wsum_app, ← hr t h, rd_set (by simp; omega), rd_set (by omega)]
    simp only [wsum, sw, hp, hq]
    by_cases h1 : p = t
    · subst h1
      rw [if_pos rfl, if_neg (by omega), if_pos rfl]; omega
    · rw [if_neg h1, if_neg (show ¬ ((p : Int) = (t : Int)) by omega)]
      by_cases h2 : q = t
      · subst h2
        rw [if_pos rfl, if_pos rfl]; omega
      · rw [if_neg h2, if_neg (by omega)]; omega
theorem saldi_spec (k : Nat) (l : List S50) (h : okE l = true) (hk : 200 < k) : ∃ r, impl_SaldiOf.f k l = some r ∧ r.length = 8 ∧ ∀ t : Nat, t < 8 → rd r (t : Int) = wsum (sw t) l := by
  have hl := okE_len h
  have hv : ∀ x ∈ l, vE x = true := by
    unfold okE at h
    simp only [Bool.and_eq_true, List.all_eq_true] at h
    exact h.1
  unfold impl_SaldiOf.f
  rw [iv_spec _ _ (by omega), Option.bind_some, if_pos h, if_pos (by omega)]
  exact saldi_l0 l hv hl l.length k 0 (List.replicate 8 0) (by omega) (by simp) (fun t ht => by rw [rd_replicate ht]; simp [wsum]) (by omega)
theorem onlyM_ok {a b : List S50} (h : okE a = true) : okE (onlyM a b) = true := by
  obtain ⟨h1, h2⟩ := onl_sub a (mtch a b (List.replicate b.length false))
  have hl := okE_len h
  unfold okE at h ⊢
  simp only [Bool.and_eq_true, List.all_eq_true, decide_eq_true_eq] at h ⊢
  exact ⟨fun x hx => h.1 x (h2 x hx), by unfold onlyM; omega⟩
theorem eqE_l0 (a : List S50) (hb : a.length ≤ 1000) : ∀ (d k i : Nat), i + d = a.length → d < k → laws_equalEntries.l0 k a a (i : Int) = some true := by
  intro d
  induction d with
  | zero =>
    intro k i hi hk
    obtain ⟨k, rfl, -⟩ := fuel hk
    simp only [laws_equalEntries.l0]
    rw [if_neg (by omega)]
  | succ d ih =>
    intro k i hi hk
    obtain ⟨k, rfl, hk⟩ := fuel hk
    simp only [laws_equalEntries.l0]
    rw [if_pos (by omega), if_pos (by omega), if_pos (by omega), if_neg (by simp), wrap_succ (by omega)]
    exact ih k (i + 1) (by omega) (by omega)
theorem eqE_self (k : Nat) (a : List S50) (hb : a.length ≤ 1000) (hk : 1000 < k) : laws_equalEntries.f k a a = some true := by
  unfold laws_equalEntries.f
  rw [if_pos rfl]
  exact eqE_l0 a hb a.length k 0 (by omega) (by omega)
theorem law_l0 (p q s t : List Int) (hp : p.length = 8) (hq : q.length = 8) (hs : s.length = 8) (ht : t.length = 8) (h : ∀ j : Nat, j < 8 → rd p (j : Int) - rd q (j : Int) = rd s (j : Int) - rd t (j : Int)) : ∀ (d k i : Nat), i + d = 8 → d < k → laws_FnOnlyInSaldi.l0 k p q s t (i : Int) = some true := by
  intro d
  induction d with
  | zero =>
    intro k i hi hk
    obtain ⟨k, rfl, -⟩ := fuel hk
    simp only [laws_FnOnlyInSaldi.l0]
    rw [if_neg (by omega)]
  | succ d ih =>
    intro k i hi hk
    obtain ⟨k, rfl, hk⟩ := fuel hk
    simp only [laws_FnOnlyInSaldi.l0]
    rw [if_pos (by omega), if_pos (by omega), if_pos (by omega), if_pos (by omega), if_pos (by omega), if_pos (by rw [h i (by omega)]), wrap_succ (by omega)]
    exact ih k (i + 1) (by omega) (by omega)
theorem FnOnlyInSaldi : laws_FnOnlyInSaldi.Pure := by
  intro l0 m0 _ hw
  refine ⟨1000000, ?_⟩
  unfold laws_FnOnlyInSaldi.f
  by_cases h0 : (l0.length : Int) > 1048576
  · rw [if_pos h0]
  rw [if_neg h0]
  obtain ⟨a, b, hd, ha, hb⟩ := draw_spec 1000000 (by omega) l0 (reader_bytes hw)
  have hon : (onlyIn a b).length ≤ 1000 := by
    unfold onlyIn
    split
    · have := (onl_sub a (mtch a b (List.replicate b.length false))).1
      unfold onlyM; omega
    · simp
  have hno : ∀ K, 500000 < K → laws_FnOnlyInSaldi.j0 K a b (onlyIn a b) true = some true := by
    intro K hK
    obtain ⟨K, rfl, hK2⟩ := fuel hK
    simp only [laws_FnOnlyInSaldi.j0]
    rw [if_pos trivial, sonly_spec _ _ _ (by omega) (by omega) (by omega), Option.bind_some, eqE_self _ _ hon (by omega), Option.bind_some]
  rw [hd, Option.bind_some]
  simp only []
  rw [ionly_spec _ _ _ (by omega), Option.bind_some, sonly_spec _ _ _ (by omega) (by omega) (by omega), Option.bind_some, eqE_self _ _ hon (by omega), Option.bind_some, if_pos rfl, iv_spec _ _ (by omega), Option.bind_some]
  by_cases h1 : okE a = true
  · rw [if_pos h1, iv_spec _ _ (by omega), Option.bind_some]
    by_cases h2 : okE b = true
    · rw [h2]
      obtain ⟨K, hK, hK2⟩ : ∃ K : Nat, 1000000 = K + 1 ∧ 900000 < K := ⟨999999, by omega, by omega⟩
      rw [hK]
      obtain ⟨p, p1, p2, p3⟩ := saldi_spec K a h1 (by omega)
      obtain ⟨q, q1, q2, q3⟩ := saldi_spec K b h2 (by omega)
      have o1 : onlyIn a b = onlyM a b := by unfold onlyIn; rw [if_pos ⟨h1, h2⟩]
      have o2 : onlyIn b a = onlyM b a := by unfold onlyIn; rw [if_pos ⟨h2, h1⟩]
      obtain ⟨s, s1, s2, s3⟩ := saldi_spec K (onlyM a b) (onlyM_ok h1) (by omega)
      obtain ⟨t, t1, t2, t3⟩ := saldi_spec K (onlyM b a) (onlyM_ok h2) (by omega)
      simp only [laws_FnOnlyInSaldi.j0]
      rw [if_neg (by simp), p1, Option.bind_some, q1, Option.bind_some, o1, s1, Option.bind_some, ionly_spec _ _ _ (by omega), Option.bind_some, o2, t1, Option.bind_some]
      exact law_l0 p q s t p2 q2 s2 t2 (fun j hj => by rw [p3 j hj, q3 j hj, s3 j hj, t3 j hj]; exact wsum_diff _ a b) 8 K 0 (by omega) (by omega)
    · have h2' : okE b = false := by simpa using h2
      rw [h2']
      exact hno _ (by omega)
  · rw [if_neg h1]
    exact hno _ (by omega)

end Go.Proofs.Ytjkbnimgmbnjdaa.Pure
