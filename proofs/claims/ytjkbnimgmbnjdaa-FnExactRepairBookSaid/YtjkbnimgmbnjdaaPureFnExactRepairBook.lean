/- The law FnExactRepairBook holds: the program's function answers as the reference does at every drawn input, and has the law's property; no condition. -/
import Derived.Test.YtjkbnimgmbnjdaaPFnExactRepairBookx8
set_option linter.unusedVariables false
set_option linter.unusedSimpArgs false
namespace Go.Proofs.Ytjkbnimgmbnjdaa.Pure
open Go.RowKit Go.Proofs.Ytjkbnimgmbnjdaa.PFnExactRepairBook Go.Proofs.YtjkbnimgmbnjdaaW.PrintWords Go.Proofs.YtjkbnimgmbnjdaaW.PrintLast Go.Proofs.YtjkbnimgmbnjdaaW.PrintMore

/-! ### base -/
theorem fuel {k n : Nat} (h : n < k) : ∃ m, k = m + 1 ∧ n ≤ m := ⟨k - 1, by omega, by omega⟩
theorem wrap_id {x : Int} (h1 : -9223372036854775808 ≤ x) (h2 : x ≤ 9223372036854775807) : wrap64 x = x := by unfold wrap64; omega
theorem wrap_succ {i : Nat} (h : i < 4611686018427387904) : wrap64 ((i : Int) + 1) = ((i + 1 : Nat) : Int) := by unfold wrap64; omega
theorem wrap_succ' {i : Int} (h0 : 0 ≤ i) (h : i < 4611686018427387904) : wrap64 (i + 1) = i + 1 := by unfold wrap64; omega
theorem wrap_wrap (x : Int) : wrap64 (wrap64 x) = wrap64 x := by unfold wrap64; omega
theorem wrap_add_l (x y : Int) : wrap64 (wrap64 x + y) = wrap64 (x + y) := by unfold wrap64; omega
theorem wrap_add_r (x y : Int) : wrap64 (x + wrap64 y) = wrap64 (x + y) := by unfold wrap64; omega
theorem wrap_sub_l (x y : Int) : wrap64 (wrap64 x - y) = wrap64 (x - y) := by unfold wrap64; omega
theorem rd_get {xs : List Int} {i : Nat} (h : i < xs.length) : rd xs (i : Int) = xs[i] := by
  simp [rd, List.getD_eq_getElem?_getD, List.getElem?_eq_getElem h]
theorem drop_rd {xs : List Int} {i : Nat} (h : i < xs.length) : xs.drop i = rd xs (i : Int) :: xs.drop (i + 1) := by
  rw [rd_get h, List.drop_eq_getElem_cons h]
theorem drop_end {α : Type} {xs : List α} {i : Nat} (h : xs.length ≤ i) : xs.drop i = [] := List.drop_eq_nil_of_le h
theorem take_rd {xs : List Int} {i : Nat} (h : i < xs.length) : xs.take (i + 1) = xs.take i ++ [rd xs (i : Int)] := by
  rw [rd_get h, List.take_succ_eq_append_getElem h]
theorem rd_mem {xs : List Int} {i : Nat} (h : i < xs.length) : rd xs (i : Int) ∈ xs := by
  rw [rd_get h]; exact List.getElem_mem h
theorem rd_mem' {xs : List Int} {i : Int} (h0 : 0 ≤ i) (h : i < (xs.length : Int)) : rd xs i ∈ xs := by
  obtain ⟨j, rfl⟩ := Int.eq_ofNat_of_zero_le h0
  exact rd_mem (by omega)
theorem mem_rd {xs : List Int} {x : Int} (h : x ∈ xs) : ∃ i : Nat, i < xs.length ∧ rd xs (i : Int) = x := by
  obtain ⟨i, hi, he⟩ := List.getElem_of_mem h
  exact ⟨i, hi, by rw [rd_get hi, he]⟩
theorem ext_rd {xs ys : List Int} (hl : xs.length = ys.length) (h : ∀ i : Nat, i < xs.length → rd xs (i : Int) = rd ys (i : Int)) : xs = ys := by
  apply List.ext_getElem hl
  intro i h1 h2
  have := h i h1
  rwa [rd_get h1, rd_get h2] at this
theorem rd_set {xs : List Int} {i j : Nat} {v : Int} (hj : j < xs.length) : rd (xs.set i v) (j : Int) = if i = j then v else rd xs (j : Int) := by
  rw [rd_get (by simpa using hj), rd_get hj, List.getElem_set]
theorem rd_set_ne {xs : List Int} {i j : Nat} {v : Int} (h : i ≠ j) : rd (xs.set i v) (j : Int) = rd xs (j : Int) := by
  simp only [rd, List.getD_eq_getElem?_getD, Int.toNat_natCast, List.getElem?_set_ne h]
theorem rd_append_l {xs ys : List Int} {i : Nat} (h : i < xs.length) : rd (xs ++ ys) (i : Int) = rd xs (i : Int) := by
  rw [rd_get (by simp; omega), rd_get h, List.getElem_append_left h]
theorem rd_append_r {xs ys : List Int} {i : Nat} (h : xs.length ≤ i) (h2 : i < xs.length + ys.length) : rd (xs ++ ys) (i : Int) = rd ys ((i - xs.length : Nat) : Int) := by
  rw [rd_get (by simp; omega), rd_get (by omega), List.getElem_append_right h]
theorem rd_replicate {n i : Nat} {v : Int} (h : i < n) : rd (List.replicate n v) (i : Int) = v := by
  rw [rd_get (by simpa using h)]; simp
theorem rd_mapRange {n i : Nat} {f : Nat → Int} (h : i < n) : rd ((List.range n).map f) (i : Int) = f i := by
  rw [rd_get (by simpa using h)]; simp
theorem toNat_cast (i : Nat) : ((i : Int) : Int).toNat = i := by simp
theorem mx_max (a b : Int) : mx a b = max a b := by unfold mx; omega
theorem mn_min (a b : Int) : mn a b = min a b := by unfold mn; omega
theorem bits_xor {a b : Int} (ha : 0 ≤ a) (ha2 : a < 4611686018427387904) (hb : 0 ≤ b) (hb2 : b < 4611686018427387904) : 0 ≤ Go.bits .xor .i64 a b ∧ Go.bits .xor .i64 a b < 4611686018427387904 := by
  obtain ⟨a, rfl⟩ := Int.eq_ofNat_of_zero_le ha
  obtain ⟨b, rfl⟩ := Int.eq_ofNat_of_zero_le hb
  have h1 : a < 2 ^ 62 := by omega
  have h2 : b < 2 ^ 62 := by omega
  have h3 := Nat.xor_lt_two_pow h1 h2
  have e : Go.bits .xor .i64 (a : Int) (b : Int) = IntKind.i64.wrap (((BitVec.ofInt 64 (a : Int)) ^^^ (BitVec.ofInt 64 (b : Int))).toNat : Int) := rfl
  have ha' : (BitVec.ofInt 64 (a : Int)).toNat = a := by rw [BitVec.ofInt_natCast, BitVec.toNat_ofNat]; exact Nat.mod_eq_of_lt (by omega)
  have hb' : (BitVec.ofInt 64 (b : Int)).toNat = b := by rw [BitVec.ofInt_natCast, BitVec.toNat_ofNat]; exact Nat.mod_eq_of_lt (by omega)
  rw [e, BitVec.toNat_xor, ha', hb', IntKind.wrap_i64]
  omega
theorem cast0 : ((0 : Nat) : Int) = 0 := rfl
theorem w01 : wrap64 (0 + 1) = 1 := by unfold wrap64; omega
theorem w12 : wrap64 (1 + 1) = 2 := by unfold wrap64; omega
theorem w23 : wrap64 (2 + 1) = 3 := by unfold wrap64; omega
theorem w34 : wrap64 (3 + 1) = 4 := by unfold wrap64; omega
theorem w45 : wrap64 (4 + 1) = 5 := by unfold wrap64; omega

/-! ### listm -/
theorem pigeon : ∀ (n : Nat) (xs : List Int), xs.Nodup → (∀ x ∈ xs, 0 ≤ x ∧ x < (n : Int)) → xs.length ≤ n := by
  intro n
  induction n with
  | zero =>
    intro xs _ h
    cases xs with
    | nil => simp
    | cons x xs => have := h x (by simp); omega
  | succ n ih =>
    intro xs hn h
    by_cases hm : (n : Int) ∈ xs
    · have h1 := ih (xs.erase (n : Int)) (hn.erase _) (fun x hx => by
        have h2 := (hn.mem_erase_iff).1 hx
        have h3 := h x h2.2
        have h4 := h2.1
        omega)
      rw [List.length_erase_of_mem hm] at h1
      omega
    · have h1 := ih xs hn (fun x hx => by
        have h3 := h x hx
        have h4 : x ≠ (n : Int) := fun e => hm (e ▸ hx)
        omega)
      omega
/-- Fewer different members than there are: one is missing. -/
theorem one_missing : ∀ (n : Nat) (xs : List Int), xs.length < n → ∃ j : Nat, j < n ∧ (j : Int) ∉ xs := by
  intro n
  induction n with
  | zero => intro xs h; omega
  | succ n ih =>
    intro xs h
    by_cases hm : (n : Int) ∈ xs
    · obtain ⟨j, hj, hx⟩ := ih (xs.erase (n : Int)) (by rw [List.length_erase_of_mem hm]; have := List.length_pos_of_mem hm; omega)
      refine ⟨j, by omega, fun hmem => hx ?_⟩
      exact (List.mem_erase_of_ne (by omega)).2 hmem
    · exact ⟨n, by omega, hm⟩
/-- Members, one after the other, in range and not seen yet. -/
def memB (n : Int) : List Int → List Int → Bool
  | _, [] => true
  | seen, x :: rest => decide (0 ≤ x ∧ x < n) && (!decide (x ∈ seen) && memB n (seen ++ [x]) rest)
theorem memB_iff (n : Int) : ∀ (xs seen : List Int), memB n seen xs = true ↔ (∀ x ∈ xs, 0 ≤ x ∧ x < n ∧ x ∉ seen) ∧ xs.Nodup := by
  intro xs
  induction xs with
  | nil => intro seen; simp [memB]
  | cons a xs ih =>
    intro seen
    simp only [memB, Bool.and_eq_true, decide_eq_true_eq, Bool.not_eq_true', decide_eq_false_iff_not, ih, List.mem_cons, List.mem_append, List.not_mem_nil, or_false, List.nodup_cons]
    constructor
    · rintro ⟨⟨h1, h2⟩, h3, h4, h5⟩
      refine ⟨?_, fun ha => (h4 a ha).2.2 (Or.inr rfl), h5⟩
      rintro x (rfl | hx)
      · exact ⟨h1, h2, h3⟩
      · obtain ⟨a1, a2, a3⟩ := h4 x hx
        exact ⟨a1, a2, fun h => a3 (Or.inl h)⟩
    · rintro ⟨h1, h2, h3⟩
      obtain ⟨a1, a2, a3⟩ := h1 a (Or.inl rfl)
      refine ⟨⟨a1, a2⟩, a3, fun x hx => ?_, h3⟩
      obtain ⟨b1, b2, b3⟩ := h1 x (Or.inr hx)
      refine ⟨b1, b2, ?_⟩
      rintro (h | rfl)
      · exact b3 h
      · exact h2 hx
/-- Different members of a body. -/
def GoodM (xs : List Int) (n : Int) : Prop := xs.Nodup ∧ ∀ x ∈ xs, 0 ≤ x ∧ x < n
instance (xs : List Int) (n : Int) : Decidable (GoodM xs n) := inferInstanceAs (Decidable (_ ∧ _))
theorem memB_good (n : Int) (xs : List Int) : memB n [] xs = decide (GoodM xs n) := by
  rw [Bool.eq_iff_iff, memB_iff, decide_eq_true_eq]
  unfold GoodM
  constructor
  · rintro ⟨h, hn⟩
    exact ⟨hn, fun x hx => ⟨(h x hx).1, (h x hx).2.1⟩⟩
  · rintro ⟨hn, h⟩
    exact ⟨fun x hx => ⟨(h x hx).1, (h x hx).2, by simp⟩, hn⟩
theorem GoodM.le {xs : List Int} {n : Nat} (h : GoodM xs (n : Int)) : xs.length ≤ n := pigeon n xs h.1 h.2
/-- The first place of a number behind some. -/
def idxM : List Int → Int → Nat → Int
  | [], _, _ => -1
  | y :: ys, x, i => if y = x then (i : Int) else idxM ys x (i + 1)
theorem idxM_neg : ∀ (xs : List Int) (x : Int) (i : Nat), idxM xs x i < 0 ↔ x ∉ xs := by
  intro xs
  induction xs with
  | nil => intro x i; simp [idxM]
  | cons y ys ih =>
    intro x i
    simp only [idxM]
    by_cases e : y = x
    · rw [if_pos e]; simp [e]
    · rw [if_neg e, ih]
      have e' : ¬ x = y := fun h => e h.symm
      simp [e']
theorem idxM_nonneg (xs : List Int) (x : Int) (i : Nat) : 0 ≤ idxM xs x i ↔ x ∈ xs := by
  have := idxM_neg xs x i
  by_cases h : x ∈ xs
  · simp only [h, not_true, iff_false] at this
    simp [h]; omega
  · simp only [h, not_false_iff, iff_true] at this
    simp [h]; omega
theorem idxM_at : ∀ (xs : List Int) (x : Int) (i : Nat), x ∈ xs → ∃ j : Nat, idxM xs x i = ((i + j : Nat) : Int) ∧ j < xs.length ∧ rd xs (j : Int) = x ∧ ∀ q : Nat, q < j → rd xs (q : Int) ≠ x := by
  intro xs
  induction xs with
  | nil => intro x i h; simp at h
  | cons y ys ih =>
    intro x i h
    by_cases e : y = x
    · exact ⟨0, by simp [idxM, e], by simp, by simp [rd, e], fun q hq => by omega⟩
    · have hx : x ∈ ys := by
        rcases List.mem_cons.1 h with h | h
        · exact absurd h.symm e
        · exact h
      obtain ⟨j, h1, h2, h3, h4⟩ := ih x (i + 1) hx
      refine ⟨j + 1, by simp only [idxM, if_neg e, h1]; omega, by simp; omega, ?_, ?_⟩
      · rw [← h3, rd_get (by simp; omega), rd_get h2]; simp
      · intro q hq
        cases q with
        | zero => rw [rd_get (by simp)]; simpa using e
        | succ q => have := h4 q (by omega); rw [rd_get (by simp; omega)]; rw [rd_get (by omega)] at this; simpa using this
theorem sum_set : ∀ (xs : List Int) (i : Nat) (v : Int), i < xs.length → (xs.set i v).sum = xs.sum - rd xs (i : Int) + v := by
  intro xs
  induction xs with
  | nil => intro i v h; simp at h
  | cons x xs ih =>
    intro i v h
    cases i with
    | zero => simp [rd]; omega
    | succ i =>
      have h2 : i < xs.length := by simpa using h
      have := ih i v h2
      have e : rd (x :: xs) ((i + 1 : Nat) : Int) = rd xs (i : Int) := by rw [rd_get h, rd_get h2]; simp
      simp only [List.set_cons_succ, List.sum_cons, this, e]
      omega
theorem sum_replicate0 (n : Nat) : (List.replicate n (0 : Int)).sum = 0 := by
  induction n with
  | zero => rfl
  | succ n ih => simp [List.replicate_succ, ih]
theorem set_fill {α : Type} (A : List α) (d : Nat) (z v : α) : (A ++ List.replicate (d + 1) z).set A.length v = (A ++ [v]) ++ List.replicate d z := by
  rw [List.set_append_right _ _ (Nat.le_refl _)]
  simp [List.replicate_succ]
theorem set_fill' {α : Type} {A : List α} {i d : Nat} {z v : α} (h : A.length = i) : (A ++ List.replicate (d + 1) z).set i v = (A ++ [v]) ++ List.replicate d z := by
  subst h; exact set_fill A d z v
theorem sum_bound : ∀ (xs : List Int) (lo hi : Int), (∀ x ∈ xs, lo ≤ x ∧ x ≤ hi) → (xs.length : Int) * lo ≤ xs.sum ∧ xs.sum ≤ (xs.length : Int) * hi := by
  intro xs lo hi
  induction xs with
  | nil => intro _; simp
  | cons x xs ih =>
    intro h
    have h1 := ih (fun y hy => h y (by simp [hy]))
    have h2 := h x (by simp)
    have e1 : ((x :: xs).length : Int) * lo = (xs.length : Int) * lo + lo := by simp [Int.add_mul]
    have e2 : ((x :: xs).length : Int) * hi = (xs.length : Int) * hi + hi := by simp [Int.add_mul]
    rw [e1, e2, List.sum_cons]
    omega

/-! ### common -/
/-! ### inrange -/
theorem inRange_spec (a lo up : Int) : spec_inRange.f a lo up = some (decide (lo ≤ a ∧ a ≤ up)) := by
  unfold spec_inRange.f
  by_cases h : lo ≤ a <;> simp [h]

/-! ### the law -/
theorem rdLE_at {xs : List S53} {i : Nat} (h : i < xs.length) : rd_T53 xs (i : Int) = xs[i] := by
  simp [rd_T53, List.getD_eq_getElem?_getD, List.getElem?_eq_getElem h]
theorem rdLF_at {xs : List S58} {i : Nat} (h : i < xs.length) : rd_T58 xs (i : Int) = xs[i] := by
  simp [rd_T58, List.getD_eq_getElem?_getD, List.getElem?_eq_getElem h]
theorem rdE_at {xs : List S50} {i : Nat} (h : i < xs.length) : rd_T50 xs (i : Int) = xs[i] := by
  simp [rd_T50, List.getD_eq_getElem?_getD, List.getElem?_eq_getElem h]
theorem rdF_at {xs : List S55} {i : Nat} (h : i < xs.length) : rd_T55 xs (i : Int) = xs[i] := by
  simp [rd_T55, List.getD_eq_getElem?_getD, List.getElem?_eq_getElem h]
theorem takeLE {xs : List S53} {i : Nat} (h : i < xs.length) : xs.take (i + 1) = xs.take i ++ [rd_T53 xs (i : Int)] := by
  rw [rdLE_at h, List.take_succ_eq_append_getElem h]
theorem takeLF {xs : List S58} {i : Nat} (h : i < xs.length) : xs.take (i + 1) = xs.take i ++ [rd_T58 xs (i : Int)] := by
  rw [rdLF_at h, List.take_succ_eq_append_getElem h]
theorem dropE {xs : List S50} {i : Nat} (h : i < xs.length) : xs.drop i = rd_T50 xs (i : Int) :: xs.drop (i + 1) := by
  rw [rdE_at h, List.drop_eq_getElem_cons h]
theorem dropF {xs : List S55} {i : Nat} (h : i < xs.length) : xs.drop i = rd_T55 xs (i : Int) :: xs.drop (i + 1) := by
  rw [rdF_at h, List.drop_eq_getElem_cons h]
def convE (x : S53) : S50 := ⟨x.f0, x.f1, x.f2, x.f3⟩
def convF (x : S58) : S55 := ⟨x.f0, convE x.f1, convE x.f2⟩
theorem toEntryS_l0 (xs : List S53) (hb : xs.length ≤ 1048576) : ∀ (d k i : Nat), i + d = xs.length → d < k → laws_toEntryS.l0 k xs ((xs.take i).map convE ++ List.replicate d z50) (i : Int) = some (xs.map convE) := by
  intro d
  induction d with
  | zero =>
    intro k i hi hk
    obtain ⟨k, rfl, -⟩ := fuel hk
    simp only [laws_toEntryS.l0]
    rw [if_neg (by omega), List.take_of_length_le (by omega)]
    simp
  | succ d ih =>
    intro k i hi hk
    obtain ⟨k, rfl, hk⟩ := fuel hk
    have hti : ((xs.take i).map convE).length = i := by simp; omega
    simp only [laws_toEntryS.l0, laws_toEntry.f]
    rw [if_pos (by omega), if_pos (by omega), Option.bind_some, if_pos (by rw [List.length_append, hti, List.length_replicate]; omega), toNat_cast, wrap_succ (by omega)]
    have := ih k (i + 1) (by omega) (by omega)
    rw [takeLE (by omega), List.map_append, List.append_assoc] at this
    rw [List.replicate_succ, List.set_append_right _ _ (by omega), hti, Nat.sub_self, List.set_cons_zero]
    exact this
theorem toEntryS_spec (k : Nat) (xs : List S53) (hb : xs.length ≤ 1048576) (hk : 1048600 < k) : laws_toEntryS.f k xs = some (xs.map convE) := by
  unfold laws_toEntryS.f
  have := toEntryS_l0 xs hb xs.length k 0 (by omega) (by omega)
  rw [if_pos (by omega), toNat_cast, if_pos (by omega)]
  simpa using this
theorem toFindingS_l0 (xs : List S58) (hb : xs.length ≤ 1048576) : ∀ (d k i : Nat), i + d = xs.length → d < k → laws_toFindingS.l0 k xs ((xs.take i).map convF ++ List.replicate d z55) (i : Int) = some (xs.map convF) := by
  intro d
  induction d with
  | zero =>
    intro k i hi hk
    obtain ⟨k, rfl, -⟩ := fuel hk
    simp only [laws_toFindingS.l0]
    rw [if_neg (by omega), List.take_of_length_le (by omega)]
    simp
  | succ d ih =>
    intro k i hi hk
    obtain ⟨k, rfl, hk⟩ := fuel hk
    have hti : ((xs.take i).map convF).length = i := by simp; omega
    simp only [laws_toFindingS.l0, laws_toFinding.f, laws_toEntry.f]
    rw [if_pos (by omega), if_pos (by omega), Option.bind_some, Option.bind_some, Option.bind_some, if_pos (by rw [List.length_append, hti, List.length_replicate]; omega), toNat_cast, wrap_succ (by omega)]
    have := ih k (i + 1) (by omega) (by omega)
    rw [takeLF (by omega), List.map_append, List.append_assoc] at this
    rw [List.replicate_succ, List.set_append_right _ _ (by omega), hti, Nat.sub_self, List.set_cons_zero]
    exact this
theorem toFindingS_spec (k : Nat) (xs : List S58) (hb : xs.length ≤ 1048576) (hk : 1048600 < k) : laws_toFindingS.f k xs = some (xs.map convF) := by
  unfold laws_toFindingS.f
  have := toFindingS_l0 xs hb xs.length k 0 (by omega) (by omega)
  rw [if_pos (by omega), toNat_cast, if_pos (by omega)]
  simpa using this
theorem szEntryS_spec (xs : List S53) (h : xs.length ≤ maxLen) : ∃ r, laws_szEntryS.f xs 1048576 = some r ∧ r ≤ 1048576 ∧ (0 ≤ r → r = 1048576 - (xs.length : Int)) := by
  have hm : maxLen ≤ 9223372036854775807 := by decide
  unfold laws_szEntryS.f
  rw [wrap_id (by omega) (by omega)]
  by_cases h1 : 1048576 - (xs.length : Int) < 0
  · rw [if_pos h1]
    exact ⟨_, rfl, by omega, fun h => by omega⟩
  · rw [if_neg h1]
    exact ⟨_, rfl, by omega, fun _ => rfl⟩
theorem szFindingS_spec (xs : List S58) (h : xs.length ≤ maxLen) (a : Int) (ha : 0 ≤ a) (hb : a ≤ 1048576) : ∃ r, laws_szFindingS.f xs a = some r ∧ (0 ≤ r → r = a - (xs.length : Int)) := by
  have hm : maxLen ≤ 9223372036854775807 := by decide
  unfold laws_szFindingS.f
  rw [wrap_id (by omega) (by omega)]
  by_cases h1 : a - (xs.length : Int) < 0
  · rw [if_pos h1]
    exact ⟨_, rfl, fun h => by omega⟩
  · rw [if_neg h1]
    exact ⟨_, rfl, fun _ => rfl⟩
theorem eqEntryS_l0 (a : List S50) (hb : a.length ≤ 1048576) : ∀ (d k i : Nat), i + d = a.length → d < k → laws_eqEntryS.l0 k a a (i : Int) = some true := by
  intro d
  induction d with
  | zero =>
    intro k i hi hk
    obtain ⟨k, rfl, -⟩ := fuel hk
    simp only [laws_eqEntryS.l0]
    rw [if_neg (by omega)]
  | succ d ih =>
    intro k i hi hk
    obtain ⟨k, rfl, hk⟩ := fuel hk
    simp only [laws_eqEntryS.l0, laws_eqEntry.f]
    rw [if_pos (by omega), if_pos (by omega), if_pos (by omega), if_pos trivial, if_pos trivial, if_pos trivial, if_pos trivial, Option.bind_some, if_pos rfl, wrap_succ (by omega)]
    exact ih k (i + 1) (by omega) (by omega)
theorem eqEntryS_self (k : Nat) (a : List S50) (hb : a.length ≤ 1048576) (hk : 1048600 < k) : laws_eqEntryS.f k a a = some true := by
  unfold laws_eqEntryS.f
  rw [if_pos rfl]
  exact eqEntryS_l0 a hb a.length k 0 (by omega) (by omega)
theorem eqEntry_self (a b c d : Int) : laws_eqEntry.f a b c d a b c d = some true := by
  unfold laws_eqEntry.f
  rw [if_pos rfl, if_pos rfl, if_pos rfl, if_pos rfl]
theorem eqFindingS_l0 (a : List S55) (hb : a.length ≤ 1048576) : ∀ (d k i : Nat), i + d = a.length → d < k → laws_eqFindingS.l0 k a a (i : Int) = some true := by
  intro d
  induction d with
  | zero =>
    intro k i hi hk
    obtain ⟨k, rfl, -⟩ := fuel hk
    simp only [laws_eqFindingS.l0]
    rw [if_neg (by omega)]
  | succ d ih =>
    intro k i hi hk
    obtain ⟨k, rfl, hk⟩ := fuel hk
    simp only [laws_eqFindingS.l0, laws_eqFinding.f]
    rw [if_pos (by omega), if_pos (by omega), if_pos (by omega), if_pos trivial, eqEntry_self, Option.bind_some, if_pos rfl, eqEntry_self, Option.bind_some, if_pos rfl, Option.bind_some, if_pos rfl, wrap_succ (by omega)]
    exact ih k (i + 1) (by omega) (by omega)
theorem eqFindingS_self (k : Nat) (a : List S55) (hb : a.length ≤ 1048576) (hk : 1048600 < k) : laws_eqFindingS.f k a a = some true := by
  unfold laws_eqFindingS.f
  rw [if_pos rfl]
  exact eqFindingS_l0 a hb a.length k 0 (by omega) (by omega)
def mkE : Nat → Int → List S50
  | 0, _ => []
  | d + 1, a => ⟨a, a + 1, a + 2, a + 3⟩ :: mkE d (a + 4)
theorem mkE_length : ∀ d a, (mkE d a).length = d
  | 0, _ => rfl
  | d + 1, a => by simp [mkE, mkE_length d]
theorem rdE_app {xs : List S50} {y : S50} {zs : List S50} {i : Nat} (h : xs.length = i) : rd_T50 (xs ++ y :: zs) (i : Int) = y := by
  rw [rdE_at (by simp; omega)]
  subst h
  simp
theorem markEntryS_l0 : ∀ (d k i : Nat) (x : List S50) (a : Int), i + d = x.length → x.length ≤ 1048576 → d < k → 0 ≤ a → a + 4 * d ≤ 10000000 → laws_markEntryS.l0 k x a (i : Int) = some (a + 4 * d, x.take i ++ mkE d a) := by
  intro d
  induction d with
  | zero =>
    intro k i x a hi hb hk h0 h1
    obtain ⟨k, rfl, -⟩ := fuel hk
    simp only [laws_markEntryS.l0]
    rw [if_neg (by omega), List.take_of_length_le (by omega)]
    simp [mkE]
  | succ d ih =>
    intro k i x a hi hb hk h0 h1
    obtain ⟨k, rfl, hk⟩ := fuel hk
    simp only [laws_markEntryS.l0]
    rw [if_pos (by omega), if_pos (by omega), Option.bind_some, Option.bind_some, Option.bind_some, wrap_succ (by omega), wrap_id (x := a + 1) (by omega) (by omega), wrap_id (x := a + 1 + 1) (by omega) (by omega), wrap_id (x := a + 1 + 1 + 1) (by omega) (by omega), wrap_id (by omega) (by omega), toNat_cast]
    obtain ⟨p, y, q, hx, hp⟩ : ∃ p y q, x = p ++ y :: q ∧ p.length = i := ⟨x.take i, rd_T50 x (i : Int), x.drop (i + 1), by rw [← dropE (by omega), List.take_append_drop], by simp; omega⟩
    subst hx
    have hs : ∀ u v : S50, (p ++ u :: q).set i v = p ++ v :: q := by
      intro u v
      rw [List.set_append_right _ _ (by omega), hp, Nat.sub_self, List.set_cons_zero]
    simp only [hs, rdE_app hp]
    have e : ∀ v : S50, (p ++ v :: q).take (i + 1) = p ++ [v] := by
      intro v
      rw [show p ++ v :: q = (p ++ [v]) ++ q by simp, List.take_left' (by simp; omega)]
    have e2 : ∀ v : S50, (p ++ v :: q).take i = p := fun v => List.take_left' hp
    rw [ih k (i + 1) _ _ (by simp at hi ⊢; omega) (by simpa using hb) (by omega) (by omega) (by omega), e, e2]
    simp only [mkE, List.append_assoc, List.singleton_append]
    rw [show a + 1 + 1 + 1 + 1 + 4 * (d : Int) = a + 4 * ((d + 1 : Nat) : Int) by omega, show a + 1 + 1 + 1 + 1 = a + 4 by omega, show a + 1 + 1 + 1 = a + 3 by omega, show a + 1 + 1 = a + 2 by omega]
theorem markEntryS_spec (k : Nat) (x : List S50) (hb : x.length ≤ 1048576) (hk : 1048600 < k) : laws_markEntryS.f k x 1 = some (1 + 4 * (x.length : Int), mkE x.length 1) := by
  unfold laws_markEntryS.f
  have := markEntryS_l0 x.length k 0 x 1 (by omega) hb (by omega) (by omega) (by omega)
  simpa using this
theorem heldEntryS_l0 (x : List S50) (hb : x.length ≤ 1048576) : ∀ (d k i : Nat) (a : Int), i + d = x.length → x.drop i = mkE d a → d < k → 0 ≤ a → a + 4 * d ≤ 10000000 → laws_heldEntryS.l0 k x a (i : Int) = some (a + 4 * d) := by
  intro d
  induction d with
  | zero =>
    intro k i a hi hx hk h0 h1
    obtain ⟨k, rfl, -⟩ := fuel hk
    simp only [laws_heldEntryS.l0]
    rw [if_neg (by omega)]
    simp
  | succ d ih =>
    intro k i a hi hx hk h0 h1
    obtain ⟨k, rfl, hk⟩ := fuel hk
    rw [dropE (by omega)] at hx
    simp only [mkE] at hx
    obtain ⟨h2, h3⟩ := List.cons.inj hx
    simp only [laws_heldEntryS.l0, h2]
    rw [if_pos (by omega), if_pos (by omega), if_pos trivial, wrap_id (x := a + 1) (by omega) (by omega), if_pos rfl, wrap_id (x := a + 1 + 1) (by omega) (by omega), if_pos (by omega), wrap_id (x := a + 1 + 1 + 1) (by omega) (by omega), if_pos (by omega), wrap_id (by omega) (by omega), wrap_succ (by omega), show a + 1 + 1 + 1 + 1 = a + 4 by omega, ih k (i + 1) (a + 4) (by omega) h3 (by omega) (by omega) (by omega)]
    congr 1
    omega
theorem heldEntryS_spec (k n : Nat) (hb : n ≤ 1048576) (hk : 1048600 < k) : laws_heldEntryS.f k (mkE n 1) 1 = some (1 + 4 * (n : Int)) := by
  unfold laws_heldEntryS.f
  exact heldEntryS_l0 _ (by rw [mkE_length]; exact hb) n k 0 1 (by rw [mkE_length]; omega) (by simp) (by omega) (by omega) (by omega)
theorem markFindingS_l0 (n : Int) (hn : n ≤ 1048576) : ∀ (d k : Nat) (a i : Int), 0 ≤ i → i + d = n → d < k → 0 ≤ a → a + 9 * d ≤ 100000000 → ∃ r, laws_markFindingS.l0 k n a i = some r ∧ 0 ≤ r := by
  intro d
  induction d with
  | zero =>
    intro k a i h0 hi hk h1 h2
    obtain ⟨k, rfl, -⟩ := fuel hk
    simp only [laws_markFindingS.l0]
    rw [if_neg (by omega)]
    exact ⟨a, rfl, h1⟩
  | succ d ih =>
    intro k a i h0 hi hk h1 h2
    obtain ⟨k, rfl, hk⟩ := fuel hk
    simp only [laws_markFindingS.l0]
    rw [if_pos (by omega), if_pos h0, wrap_succ' h0 (by omega), wrap_id (x := a + 1) (by omega) (by omega), wrap_id (x := a + 1 + 1) (by omega) (by omega), wrap_id (x := a + 1 + 1 + 1) (by omega) (by omega), wrap_id (x := a + 1 + 1 + 1 + 1) (by omega) (by omega), wrap_id (x := a + 1 + 1 + 1 + 1 + 1) (by omega) (by omega), wrap_id (x := a + 1 + 1 + 1 + 1 + 1 + 1) (by omega) (by omega), wrap_id (x := a + 1 + 1 + 1 + 1 + 1 + 1 + 1) (by omega) (by omega), wrap_id (x := a + 1 + 1 + 1 + 1 + 1 + 1 + 1 + 1) (by omega) (by omega), wrap_id (by omega) (by omega)]
    exact ih k _ _ (by omega) (by omega) (by omega) (by omega) (by omega)
theorem markFindingS_spec (k : Nat) (l : List S55) (a : Int) (hb : l.length ≤ 1048576) (h0 : 0 ≤ a) (h1 : a ≤ 10000000) (hk : 1048600 < k) : ∃ r, laws_markFindingS.f k l a = some r ∧ 0 ≤ r := by
  unfold laws_markFindingS.f
  exact markFindingS_l0 _ (by omega) l.length k a 0 (by omega) (by omega) (by omega) h0 (by omega)
-- what is valid
def vE (x : S50) : Bool := decide (0 ≤ x.f0 ∧ x.f0 ≤ 999 ∧ 0 ≤ x.f1 ∧ x.f1 ≤ 7 ∧ 0 ≤ x.f2 ∧ x.f2 ≤ 7 ∧ x.f1 ≠ x.f2 ∧ 1 ≤ x.f3 ∧ x.f3 ≤ 1000000)
def okE (xs : List S50) : Bool := xs.all vE && decide (xs.length ≤ 40)
theorem sinR (a b c : Int) : spec_inRange.f a b c = some (decide (b ≤ a ∧ a ≤ c)) := by
  unfold spec_inRange.f
  by_cases h : b ≤ a <;> simp [h]
theorem svE (x : S50) : spec_validEntry.f x.f0 x.f1 x.f2 x.f3 = some (vE x) := by
  unfold spec_validEntry.f vE
  simp only [sinR, Option.bind_some, decide_eq_true_eq]
  split <;> (try split) <;> (try split) <;> (try split) <;> (congr 1; symm; simp only [decide_eq_decide, decide_eq_false_iff_not]; omega)
theorem ivE (k : Nat) (x : S50) (hk : 0 < k) : impl_validEntry.f k x.f0 x.f1 x.f2 x.f3 = some (vE x) := by
  obtain ⟨k, rfl, -⟩ := fuel hk
  unfold impl_validEntry.f vE
  have hA : ∀ a : Int, impl_validAccount.f a = some (decide (0 ≤ a ∧ a < 8)) := by
    intro a
    unfold impl_validAccount.f
    by_cases h : a ≥ 0 <;> simp [h]
  simp only [impl_validEntry.j0, hA, Option.bind_some, decide_eq_true_eq, if_true]
  split <;> (try split) <;> (try split) <;> (try split) <;> (try split) <;> (try split) <;> (congr 1; symm; simp only [decide_eq_false_iff_not, bne_iff_ne, ne_eq, bne, Bool.not_eq_true', decide_eq_decide]; first | omega | (rw [Bool.eq_iff_iff]; simp; omega))
theorem sv_l0 (xs : List S50) (hb : xs.length ≤ 10000000) : ∀ (d k i : Nat), i + d = xs.length → d < k → spec_validEntries.l0 k xs (i : Int) = some ((xs.drop i).all vE && decide (xs.length ≤ 40)) := by
  intro d
  induction d with
  | zero =>
    intro k i hi hk
    obtain ⟨k, rfl, -⟩ := fuel hk
    simp only [spec_validEntries.l0]
    rw [if_neg (by omega), drop_end (by omega)]
    congr 1
    simp
    omega
  | succ d ih =>
    intro k i hi hk
    obtain ⟨k, rfl, hk⟩ := fuel hk
    simp only [spec_validEntries.l0]
    rw [if_pos (by omega), if_pos (by omega), svE, Option.bind_some, wrap_succ (by omega), dropE (by omega)]
    by_cases h : vE (rd_T50 xs (i : Int)) = true
    · rw [if_pos h, ih k (i + 1) (by omega) (by omega)]; simp [h]
    · rw [if_neg h]; simp [h]
theorem sv_spec (k : Nat) (xs : List S50) (hb : xs.length ≤ 10000000) (hk : xs.length < k) : spec_validEntries.f k xs = some (okE xs) := by
  unfold spec_validEntries.f okE
  have := sv_l0 xs hb xs.length k 0 (by omega) hk
  simpa using this
theorem iv_l0 (xs : List S50) (hb : xs.length ≤ 40) : ∀ (d k i : Nat), i + d = xs.length → d + 1 < k → impl_ValidEntries.l0 k xs (xs.length : Int) (i : Int) = some ((xs.drop i).all vE) := by
  intro d
  induction d with
  | zero =>
    intro k i hi hk
    obtain ⟨k, rfl, -⟩ := fuel hk
    simp only [impl_ValidEntries.l0]
    rw [if_neg (by omega), drop_end (by omega)]
    simp
  | succ d ih =>
    intro k i hi hk
    obtain ⟨k, rfl, hk⟩ := fuel hk
    simp only [impl_ValidEntries.l0]
    rw [if_pos (by omega), if_pos (by omega), if_pos (by omega), ivE _ _ (by omega), Option.bind_some, wrap_succ (by omega), dropE (by omega)]
    by_cases h : vE (rd_T50 xs (i : Int)) = true
    · rw [if_pos h, ih k (i + 1) (by omega) (by omega)]; simp [h]
    · rw [if_neg h]; simp [h]
theorem iv_spec (k : Nat) (xs : List S50) (hk : 100 < k) : impl_ValidEntries.f k xs = some (okE xs) := by
  unfold impl_ValidEntries.f okE
  by_cases h : (xs.length : Int) > 40
  · rw [if_pos h, decide_eq_false (by omega)]; simp
  · rw [if_neg h, decide_eq_true (by omega)]
    have := iv_l0 xs (by omega) xs.length k 0 (by omega) (by omega)
    simpa using this
-- where an entry is
def eqE (a b : S50) : Prop := a.f0 = b.f0 ∧ a.f1 = b.f1 ∧ a.f2 = b.f2 ∧ a.f3 = b.f3
instance (a b : S50) : Decidable (eqE a b) := by unfold eqE; infer_instance
def ixM (e : S50) : List S50 → Int → Int
  | [], _ => -1
  | x :: xs, i => if eqE x e then i else ixM e xs (i + 1)
theorem ixM_cases (e : S50) : ∀ (xs : List S50) (i : Int), ixM e xs i = -1 ∨ (i ≤ ixM e xs i ∧ ixM e xs i < i + xs.length)
  | [], i => Or.inl rfl
  | x :: xs, i => by
    simp only [ixM, List.length_cons]
    by_cases h : eqE x e
    · rw [if_pos h]; right; omega
    · rw [if_neg h]
      rcases ixM_cases e xs (i + 1) with h1 | h1
      · exact Or.inl h1
      · right; omega
theorem index_l0 (xs : List S50) (hb : xs.length ≤ 10000000) (e : S50) : ∀ (d k i : Nat), i + d = xs.length → d < k → impl_Entry_32.l0 k xs (xs.length : Int) (i : Int) e.f0 e.f1 e.f2 e.f3 = some (ixM e (xs.drop i) (i : Int)) := by
  intro d
  induction d with
  | zero =>
    intro k i hi hk
    obtain ⟨k, rfl, -⟩ := fuel hk
    simp only [impl_Entry_32.l0]
    rw [if_neg (by omega), drop_end (by omega)]
    rfl
  | succ d ih =>
    intro k i hi hk
    obtain ⟨k, rfl, hk⟩ := fuel hk
    simp only [impl_Entry_32.l0]
    rw [if_pos (by omega), if_pos (by omega), if_pos (by omega), wrap_succ (by omega), dropE (by omega)]
    simp only [ixM]
    by_cases h : eqE (rd_T50 xs (i : Int)) e
    · rw [if_pos h, if_pos (by simp [h.1, h.2.1, h.2.2.1, h.2.2.2])]
    · rw [if_neg h, if_neg (by intro h2; simp only [Bool.and_eq_true, beq_iff_eq] at h2; exact h ⟨h2.1.symm, h2.2.1.symm, h2.2.2.1.symm, h2.2.2.2.symm⟩), ih k (i + 1) (by omega) (by omega)]
      rfl
theorem index_spec (k : Nat) (xs : List S50) (hb : xs.length ≤ 10000000) (e : S50) (hk : xs.length < k) : impl_Entry_32.f k xs e.f0 e.f1 e.f2 e.f3 = some (ixM e xs 0) := by
  unfold impl_Entry_32.f
  exact index_l0 xs hb e xs.length k 0 (by omega) hk
-- the repair
def repM : List S50 → List S55 → Option (List S50)
  | out, [] => some out
  | out, f :: fs => if f.f0 = 0 then repM (out ++ [f.f1]) fs else if ixM f.f2 out 0 < 0 then none else if f.f0 = 1 then repM (out.eraseIdx (ixM f.f2 out 0).toNat) fs else repM (out.set (ixM f.f2 out 0).toNat f.f1) fs
def repS : Option (List S50) → List S50 × Bool
  | some x => (x, true)
  | none => ([], false)
def repI : Option (List S50) → List S50 × Bool
  | some x => if okE x = true then (x, true) else ([], false)
  | none => ([], false)
def bookM (b : List S50) (l : List S55) : List S50 × Bool := if okE b = true then repI (repM b l) else ([], false)
theorem repM_length : ∀ (l : List S55) (b r : List S50), repM b l = some r → r.length ≤ b.length + l.length
  | [], b, r, h => by simp only [repM] at h; rw [← Option.some.inj h]; simp
  | f :: fs, b, r, h => by
    simp only [repM] at h
    split at h
    · have := repM_length fs _ _ h; simp at this ⊢; omega
    · split at h
      · exact absurd h (by simp)
      · split at h
        · have := repM_length fs _ _ h
          have h2 := List.length_eraseIdx_le b (ixM f.f2 b 0).toNat
          simp at this ⊢; omega
        · have := repM_length fs _ _ h; simp at this ⊢; omega
theorem bookM_length (b : List S50) (l : List S55) : (bookM b l).1.length ≤ 40 := by
  unfold bookM
  split
  · cases repM b l with
    | none => simp [repI]
    | some r =>
      simp only [repI]
      split
      · rename_i h; unfold okE at h; simp only [Bool.and_eq_true, decide_eq_true_eq] at h; exact h.2
      · simp
  · simp
theorem rep_found (x1 : List S55) (out : List S50) (j q : Nat) (f : S55) (r : List S50 × Bool) (k p : Nat) (hj : j ≤ 10000000) (hb : out.length ≤ 10000000) (hq : q < out.length) (hp : p ≤ 20000000)
    (H : (if f.f0 = 1 then spec_repair.l0 k x1 (out.eraseIdx q) ((j + 1 : Nat) : Int) else spec_repair.l0 k x1 (out.set q f.f1) ((j + 1 : Nat) : Int)) = some r) :
    spec_repair.l1 (k + 2) x1 out (j : Int) (q : Int) (p : Int) f.f0 f.f1.f0 f.f1.f1 f.f1.f2 f.f1.f3 f.f2.f0 f.f2.f1 f.f2.f2 f.f2.f3 = some r := by
  have e : spec_repair.j2 (k + 1) x1 out (j : Int) (q : Int) (p : Int) false f.f0 f.f1.f0 f.f1.f1 f.f1.f2 f.f1.f3 f.f2.f0 f.f2.f1 f.f2.f2 f.f2.f3 = some r := by
    simp only [spec_repair.j2]
    rw [if_neg (by simp), if_neg (by omega), wrap_succ (by omega), wrap_succ (by omega)]
    by_cases h : f.f0 = 1
    · rw [if_pos h] at H
      rw [if_pos h, if_pos (by omega), if_pos (by omega), if_pos (by omega), if_pos (by omega), toNat_cast]
      exact H
    · rw [if_neg h] at H
      rw [if_neg h, if_pos (by omega), if_pos (by omega), toNat_cast]
      exact H
  rw [show k + 2 = (k + 1) + 1 from rfl]
  generalize hK : k + 1 = K at e
  simp only [spec_repair.l1]
  split
  · rw [decide_eq_false (by omega)]; exact e
  · exact e
theorem rep_l1 (x1 : List S55) (out : List S50) (j : Nat) (f : S55) (F : Nat) (r : List S50 × Bool) (hj : j ≤ 10000000) (hb : out.length ≤ 10000000)
    (H : ∀ k, F < k → ∀ q : Nat, q < out.length → ixM f.f2 out 0 = (q : Int) → (if f.f0 = 1 then spec_repair.l0 k x1 (out.eraseIdx q) ((j + 1 : Nat) : Int) else spec_repair.l0 k x1 (out.set q f.f1) ((j + 1 : Nat) : Int)) = some r)
    (H0 : ixM f.f2 out 0 = -1 → r = ([], false)) : ∀ (n k p : Nat), p + n = out.length → ixM f.f2 (out.drop p) (p : Int) = ixM f.f2 out 0 → 2 * n + 6 + F < k →
    spec_repair.l1 k x1 out (j : Int) (-1) (p : Int) f.f0 f.f1.f0 f.f1.f1 f.f1.f2 f.f1.f3 f.f2.f0 f.f2.f1 f.f2.f2 f.f2.f3 = some r := by
  intro n
  induction n with
  | zero =>
    intro k p hp hx hk
    obtain ⟨k, rfl⟩ : ∃ m, k = m + 2 := ⟨k - 2, by omega⟩
    rw [drop_end (by omega)] at hx
    rw [H0 hx.symm, show k + 2 = (k + 1) + 1 from rfl]
    have e : spec_repair.j2 (k + 1) x1 out (j : Int) (-1) (p : Int) false f.f0 f.f1.f0 f.f1.f1 f.f1.f2 f.f1.f3 f.f2.f0 f.f2.f1 f.f2.f2 f.f2.f3 = some ([], false) := by
      simp only [spec_repair.j2]
      rw [if_neg (by simp), if_pos (by omega)]
    generalize hK : k + 1 = K at e
    simp only [spec_repair.l1]
    rw [if_neg (by omega)]
    exact e
  | succ n ih =>
    intro k p hp hx hk
    obtain ⟨k, rfl, hk2⟩ : ∃ m, k = m + 4 ∧ 2 * n + 4 + F < m := ⟨k - 4, by omega, by omega⟩
    rw [dropE (by omega)] at hx
    simp only [ixM] at hx
    rw [show k + 4 = (k + 3) + 1 from rfl]
    have e : spec_repair.j2 (k + 3) x1 out (j : Int) (-1) (p : Int) true f.f0 f.f1.f0 f.f1.f1 f.f1.f2 f.f1.f3 f.f2.f0 f.f2.f1 f.f2.f2 f.f2.f3 = some r := by
      rw [show k + 3 = (k + 2) + 1 from rfl]
      have e1 : eqE (rd_T50 out (p : Int)) f.f2 → spec_repair.l1 (k + 2) x1 out (j : Int) (p : Int) ((p + 1 : Nat) : Int) f.f0 f.f1.f0 f.f1.f1 f.f1.f2 f.f1.f3 f.f2.f0 f.f2.f1 f.f2.f2 f.f2.f3 = some r := by
        intro h
        rw [if_pos h] at hx
        exact rep_found x1 out j p f r k (p + 1) hj hb (by omega) (by omega) (H k (by omega) p (by omega) hx.symm)
      have e2 : ¬eqE (rd_T50 out (p : Int)) f.f2 → spec_repair.l1 (k + 2) x1 out (j : Int) (-1) ((p + 1 : Nat) : Int) f.f0 f.f1.f0 f.f1.f1 f.f1.f2 f.f1.f3 f.f2.f0 f.f2.f1 f.f2.f2 f.f2.f3 = some r := by
        intro h
        rw [if_neg h] at hx
        exact ih (k + 2) (p + 1) (by omega) hx (by omega)
      generalize hK : k + 2 = K at e1 e2
      simp only [spec_repair.j2]
      rw [if_pos trivial, if_pos (by omega), if_pos (by omega), wrap_succ (by omega)]
      by_cases h : eqE (rd_T50 out (p : Int)) f.f2
      · rw [if_pos (by simp [h.1, h.2.1, h.2.2.1, h.2.2.2])]
        exact e1 h
      · rw [if_neg (by intro h2; simp only [Bool.and_eq_true, beq_iff_eq] at h2; exact h ⟨h2.1, h2.2.1, h2.2.2.1, h2.2.2.2⟩)]
        exact e2 h
    generalize hK : k + 3 = K at e
    simp only [spec_repair.l1]
    rw [if_pos (by omega), decide_eq_true (by omega)]
    exact e
theorem rep_l0 (x1 : List S55) (hb : x1.length ≤ 1048576) : ∀ (d k i : Nat) (out : List S50), i + d = x1.length → out.length + d ≤ 1048700 → 2097500 * d < k → spec_repair.l0 k x1 out (i : Int) = some (repS (repM out (x1.drop i))) := by
  intro d
  induction d with
  | zero =>
    intro k i out hi ho hk
    obtain ⟨k, rfl, -⟩ := fuel (show 0 < k by omega)
    simp only [spec_repair.l0]
    rw [if_neg (by omega), drop_end (by omega)]
    rfl
  | succ d ih =>
    intro k i out hi ho hk
    obtain ⟨k, rfl, hk2⟩ : ∃ m, k = m + 1 ∧ 2097499 + 2097500 * d < m := ⟨k - 1, by omega, by omega⟩
    rw [dropF (by omega)]
    generalize hf : rd_T55 x1 (i : Int) = f
    simp only [spec_repair.l0, repM, hf]
    rw [if_pos (by omega), if_pos (by omega), wrap_succ (by omega)]
    by_cases h0 : f.f0 = 0
    · rw [if_pos h0, if_pos h0, if_pos (by omega)]
      exact ih k (i + 1) (out ++ [f.f1]) (by omega) (by simp; omega) (by omega)
    · rw [if_neg h0, if_neg h0]
      have hc := ixM_cases f.f2 out 0
      refine rep_l1 x1 out i f (2097500 * d) _ (by omega) (by omega) ?_ ?_ out.length k 0 (by omega) (by simp) (by omega)
      · intro k' hk' q hq he
        have hne : ¬((q : Int) < 0) := by omega
        rw [he, if_neg hne, toNat_cast]
        by_cases h1 : f.f0 = 1
        · rw [if_pos h1, if_pos h1]
          have h2 := List.length_eraseIdx_le out q
          exact ih k' (i + 1) _ (by omega) (by omega) hk'
        · rw [if_neg h1, if_neg h1]
          exact ih k' (i + 1) _ (by omega) (by simp; omega) hk'
      · intro he
        rw [he, if_pos (by omega)]
        rfl
theorem irep_l0 (x1 : List S55) (hb : x1.length ≤ 1048576) : ∀ (d k i : Nat) (out : List S50), i + d = x1.length → out.length + d ≤ 1048700 → 1048800 + d < k → impl_RepairBook.l0 k out x1 (x1.length : Int) (i : Int) = some (repI (repM out (x1.drop i))) := by
  intro d
  induction d with
  | zero =>
    intro k i out hi ho hk
    obtain ⟨k, rfl, hk2⟩ := fuel (show 1048800 < k by omega)
    simp only [impl_RepairBook.l0]
    rw [if_neg (by omega), drop_end (by omega), iv_spec _ _ (by omega), Option.bind_some]
    simp only [repM, repI]
    split <;> rfl
  | succ d ih =>
    intro k i out hi ho hk
    obtain ⟨k, rfl, hk2⟩ : ∃ m, k = m + 1 ∧ 1048800 + d < m := ⟨k - 1, by omega, by omega⟩
    rw [dropF (by omega)]
    generalize hf : rd_T55 x1 (i : Int) = f
    simp only [impl_RepairBook.l0, repM, hf]
    rw [if_pos (by omega), if_pos (by omega), if_pos (by omega), wrap_succ (by omega)]
    by_cases h0 : f.f0 = 0
    · rw [if_pos h0, if_pos h0, if_pos (by omega)]
      exact ih k (i + 1) (out ++ [f.f1]) (by omega) (by simp; omega) (by omega)
    · rw [if_neg h0, if_neg h0, index_spec _ _ (by omega) _ (by omega), Option.bind_some]
      rcases ixM_cases f.f2 out 0 with he | ⟨h3, h4⟩
      · rw [he, if_pos (by omega), if_pos (by omega)]
        rfl
      · obtain ⟨q, hq⟩ := Int.eq_ofNat_of_zero_le h3
        rw [hq] at h4 ⊢
        have hne : ¬((q : Int) < 0) := by omega
        rw [if_neg hne, if_neg hne, wrap_succ (by omega), toNat_cast]
        by_cases h1 : f.f0 = 1
        · rw [if_pos h1, if_pos h1]
          unfold impl_Entry_33.f
          have h2 := List.length_eraseIdx_le out q
          rw [if_pos ⟨by omega, by omega, by omega⟩, Option.bind_some, toNat_cast, toNat_cast, ← List.eraseIdx_eq_take_drop_succ]
          exact ih k (i + 1) _ (by omega) (by omega) (by omega)
        · rw [if_neg h1, if_neg h1, if_pos (by omega), if_pos (by omega)]
          exact ih k (i + 1) _ (by omega) (by simp; omega) (by omega)
theorem irep_spec (k : Nat) (b : List S50) (l : List S55) (hb : b.length ≤ 1048576) (hl : l.length ≤ 1048576) (hk : 3000000 < k) : impl_RepairBook.f k b l = some (bookM b l) := by
  unfold impl_RepairBook.f bookM
  rw [iv_spec _ _ (by omega), Option.bind_some]
  by_cases h : okE b = true
  · rw [if_pos h, if_pos h]
    unfold impl_Entry_31.f
    rw [if_pos (by omega), Option.bind_some]
    have h40 : b.length ≤ 40 := by unfold okE at h; simp only [Bool.and_eq_true, decide_eq_true_eq] at h; exact h.2
    have := irep_l0 l hl l.length k 0 b (by omega) (by omega) (by omega)
    simpa using this
  · rw [if_neg h, if_neg h]
theorem srep_spec (k : Nat) (b : List S50) (l : List S55) (hb : b.length ≤ 1048576) (hl : l.length ≤ 1048576) (hk : 2300000000000 < k) : spec_RepairBook.f k b l = some (bookM b l) := by
  unfold spec_RepairBook.f bookM
  rw [sv_spec _ _ (by omega) (by omega), Option.bind_some]
  by_cases h : okE b = true
  · rw [if_pos h, if_pos h]
    have h40 : b.length ≤ 40 := by unfold okE at h; simp only [Bool.and_eq_true, decide_eq_true_eq] at h; exact h.2
    have := rep_l0 l hl l.length k 0 b (by omega) (by omega) (by omega)
    unfold spec_repair.f
    rw [Option.bind_some, if_pos (by simp; omega), List.nil_append, show (0 : Int) = ((0 : Nat) : Int) from rfl, this, List.drop_zero, Option.bind_some]
    cases hr : repM b l with
    | none => simp [repS, repI]
    | some r =>
      have hrl := repM_length l b r hr
      simp only [repS, repI]
      rw [if_pos trivial, sv_spec _ _ (by omega) (by omega), Option.bind_some]
      split <;> rfl
  · rw [if_neg h, if_neg h]
theorem FnExactRepairBook (l0 : List S53) (l1 : List S58) (h0 : l0.length ≤ maxLen) (q0 : ∀ x2 ∈ l0, ((Lit.int .i64 x2.f0).wf = true ∧ (Lit.int .i64 x2.f1).wf = true ∧ (Lit.int .i64 x2.f2).wf = true ∧ (Lit.int .i64 x2.f3).wf = true)) (h1 : l1.length ≤ maxLen) (q1 : ∀ x2 ∈ l1, ((Lit.int .i64 x2.f0).wf = true ∧ ((Lit.int .i64 x2.f1.f0).wf = true ∧ (Lit.int .i64 x2.f1.f1).wf = true ∧ (Lit.int .i64 x2.f1.f2).wf = true ∧ (Lit.int .i64 x2.f1.f3).wf = true) ∧ ((Lit.int .i64 x2.f2.f0).wf = true ∧ (Lit.int .i64 x2.f2.f1).wf = true ∧ (Lit.int .i64 x2.f2.f2).wf = true ∧ (Lit.int .i64 x2.f2.f3).wf = true))) : laws_FnExactRepairBook.f 2400000000000 l0 l1 = some true := by
  unfold laws_FnExactRepairBook.f
  obtain ⟨r, hr, hr1, hl⟩ := szEntryS_spec l0 h0
  rw [hr, Option.bind_some]
  by_cases h2 : r < 0
  · rw [if_pos h2]
  · have e1 := hl (by omega)
    obtain ⟨s, hs, hs2⟩ := szFindingS_spec l1 h1 r (by omega) hr1
    rw [if_neg h2, hs, Option.bind_some]
    by_cases h3 : s < 0
    · rw [if_pos h3]
    · have e2 := hs2 (by omega)
      have b1 : (l0.map convE).length ≤ 1048576 := by simp; omega
      have b2 : (l1.map convF).length ≤ 1048576 := by simp; omega
      have b3 := bookM_length (l0.map convE) (l1.map convF)
      obtain ⟨m, hm1, hm2⟩ : ∃ m, laws_markFindingS.f 2399999999999 (l1.map convF) (1 + 4 * ((l0.map convE).length : Int)) = some m ∧ 0 ≤ m := markFindingS_spec _ _ _ b2 (by omega) (by omega) (by omega)
      rw [if_neg h3, toEntryS_spec _ _ (by omega) (by omega), Option.bind_some, toFindingS_spec _ _ (by omega) (by omega), Option.bind_some, srep_spec _ _ _ b1 b2 (by omega), Option.bind_some, Option.bind_some, Option.bind_some, irep_spec _ _ _ b1 b2 (by omega), Option.bind_some, eqEntryS_self _ _ (by omega) (by omega), Option.bind_some, if_pos rfl]
      obtain ⟨K, hK, hK2, hK3⟩ : ∃ k : Nat, 2400000000000 = k + 1 ∧ 2300000000000 < k ∧ k = 2399999999999 := ⟨2399999999999, by omega, by omega, rfl⟩
      rw [hK]
      rw [← hK3] at hm1
      obtain ⟨K1, rfl, hK4⟩ : ∃ m, K = m + 1 ∧ 2200000000000 < m := ⟨K - 1, by omega, by omega⟩
      obtain ⟨K2, rfl, hK5⟩ : ∃ m, K1 = m + 1 ∧ 2100000000000 < m := ⟨K1 - 1, by omega, by omega⟩
      have j2 : laws_FnExactRepairBook.j2 (K2 + 1) (mkE (bookM (l0.map convE) (l1.map convF)).1.length 1) (1 + 4 * ((bookM (l0.map convE) (l1.map convF)).1.length : Int)) false = some true := by
        simp only [laws_FnExactRepairBook.j2]
        rw [if_neg (by simp), heldEntryS_spec _ _ (by omega) (by omega), Option.bind_some, if_neg (by omega), if_pos rfl]
      have j1 : laws_FnExactRepairBook.j1 (K2 + 1 + 1) l0 l1 (bookM (l0.map convE) (l1.map convF)).1 (bookM (l0.map convE) (l1.map convF)).2 (bookM (l0.map convE) (l1.map convF)).1 false = some true := by
        generalize hq : K2 + 1 = Q at j2
        simp only [laws_FnExactRepairBook.j1]
        rw [if_neg (by simp), markEntryS_spec _ _ (by omega) (by omega), Option.bind_some, heldEntryS_spec _ _ (by omega) (by omega), Option.bind_some, if_neg (by omega), if_pos rfl, toEntryS_spec _ _ (by omega) (by omega), Option.bind_some, toFindingS_spec _ _ (by omega) (by omega), Option.bind_some, irep_spec _ _ _ b1 b2 (by omega), Option.bind_some, eqEntryS_self _ _ (by omega) (by omega), Option.bind_some, if_pos rfl, bne_self_eq_false]
        exact j2
      generalize hq : K2 + 1 + 1 = Q at j1 hm1 hK2
      simp only [laws_FnExactRepairBook.j0]
      rw [if_neg (by simp), toEntryS_spec _ _ (by omega) (by omega), Option.bind_some, eqEntryS_self _ _ b1 (by omega), Option.bind_some, if_pos rfl, toFindingS_spec _ _ (by omega) (by omega), Option.bind_some, eqFindingS_self _ _ b2 (by omega), Option.bind_some, if_pos rfl, markEntryS_spec _ _ b1 (by omega), Option.bind_some, hm1, Option.bind_some, if_neg (by omega), eqEntryS_self _ _ (by omega) (by omega), Option.bind_some, if_pos rfl, bne_self_eq_false]
      exact j1

end Go.Proofs.Ytjkbnimgmbnjdaa.Pure
