/- The law FnDrawOrder holds: the program's function answers as the reference does at every drawn input, and has the law's property; no condition. -/
import Derived.Test.YteknmkikpcdjbaaPFnDrawOrderx6
set_option linter.unusedVariables false
set_option linter.unusedSimpArgs false
namespace Go.Proofs.Yteknmkikpcdjbaa.Pure
open Go.RowKit Go.Proofs.Yteknmkikpcdjbaa.PFnDrawOrder Go.Proofs.YteknmkikpcdjbaaW.PrintWords Go.Proofs.YteknmkikpcdjbaaW.PrintLast Go.Proofs.YteknmkikpcdjbaaW.PrintMore

/-! ### base -/
theorem fuel {k n : Nat} (h : n < k) : ∃ m, k = m + 1 ∧ n ≤ m := ⟨k - 1, by omega, by omega⟩
theorem wrap_id {x : Int} (h1 : -9223372036854775808 ≤ x) (h2 : x ≤ 9223372036854775807) : wrap64 x = x := by unfold wrap64; omega
theorem wrap_succ {i : Nat} (h : i < 4611686018427387904) : wrap64 ((i : Int) + 1) = ((i + 1 : Nat) : Int) := by unfold wrap64; omega
theorem wrap_succ' {i : Int} (h0 : 0 ≤ i) (h : i < 4611686018427387904) : wrap64 (i + 1) = i + 1 := by unfold wrap64; omega
theorem wrap_wrap (x : Int) : wrap64 (wrap64 x) = wrap64 x := by unfold wrap64; omega
theorem wrap_add_l (x y : Int) : wrap64 (wrap64 x + y) = wrap64 (x + y) := by unfold wrap64; omega
theorem wrap_add_r (x y : Int) : wrap64 (x + wrap64 y) = wrap64 (x + y) := by unfold wrap64; omega
theorem wrap_sub_l (x y : Int) : wrap64 (wrap64 x - y) = wrap64 (x - y) := by unfold wrap64; omega
theorem rd_get {xs : List Int} {i : Nat} (h : i < xs.length) : rd xs (i : Int) = xs[i] := by
  simp [rd, List.getD_eq_getElem?_getD, List.getElem?_eq_getElem h]
theorem drop_rd {xs : List Int} {i : Nat} (h : i < xs.length) : xs.drop i = rd xs (i : Int) :: xs.drop (i + 1) := by
  rw [rd_get h, List.drop_eq_getElem_cons h]
theorem drop_end {α : Type} {xs : List α} {i : Nat} (h : xs.length ≤ i) : xs.drop i = [] := List.drop_eq_nil_of_le h
theorem take_rd {xs : List Int} {i : Nat} (h : i < xs.length) : xs.take (i + 1) = xs.take i ++ [rd xs (i : Int)] := by
  rw [rd_get h, List.take_succ_eq_append_getElem h]
theorem rd_mem {xs : List Int} {i : Nat} (h : i < xs.length) : rd xs (i : Int) ∈ xs := by
  rw [rd_get h]; exact List.getElem_mem h
theorem rd_mem' {xs : List Int} {i : Int} (h0 : 0 ≤ i) (h : i < (xs.length : Int)) : rd xs i ∈ xs := by
  obtain ⟨j, rfl⟩ := Int.eq_ofNat_of_zero_le h0
  exact rd_mem (by omega)
theorem mem_rd {xs : List Int} {x : Int} (h : x ∈ xs) : ∃ i : Nat, i < xs.length ∧ rd xs (i : Int) = x := by
  obtain ⟨i, hi, he⟩ := List.getElem_of_mem h
  exact ⟨i, hi, by rw [rd_get hi, he]⟩
theorem ext_rd {xs ys : List Int} (hl : xs.length = ys.length) (h : ∀ i : Nat, i < xs.length → rd xs (i : Int) = rd ys (i : Int)) : xs = ys := by
  apply List.ext_getElem hl
  intro i h1 h2
  have := h i h1
  rwa [rd_get h1, rd_get h2] at this
theorem rd_set {xs : List Int} {i j : Nat} {v : Int} (hj : j < xs.length) : rd (xs.set i v) (j : Int) = if i = j then v else rd xs (j : Int) := by
  rw [rd_get (by simpa using hj), rd_get hj, List.getElem_set]
theorem rd_set_ne {xs : List Int} {i j : Nat} {v : Int} (h : i ≠ j) : rd (xs.set i v) (j : Int) = rd xs (j : Int) := by
  simp only [rd, List.getD_eq_getElem?_getD, Int.toNat_natCast, List.getElem?_set_ne h]
theorem rd_append_l {xs ys : List Int} {i : Nat} (h : i < xs.length) : rd (xs ++ ys) (i : Int) = rd xs (i : Int) := by
  rw [rd_get (by simp; omega), rd_get h, List.getElem_append_left h]
theorem rd_append_r {xs ys : List Int} {i : Nat} (h : xs.length ≤ i) (h2 : i < xs.length + ys.length) : rd (xs ++ ys) (i : Int) = rd ys ((i - xs.length : Nat) : Int) := by
  rw [rd_get (by simp; omega), rd_get (by omega), List.getElem_append_right h]
theorem rd_replicate {n i : Nat} {v : Int} (h : i < n) : rd (List.replicate n v) (i : Int) = v := by
  rw [rd_get (by simpa using h)]; simp
theorem rd_mapRange {n i : Nat} {f : Nat → Int} (h : i < n) : rd ((List.range n).map f) (i : Int) = f i := by
  rw [rd_get (by simpa using h)]; simp
theorem toNat_cast (i : Nat) : ((i : Int) : Int).toNat = i := by simp
theorem mx_max (a b : Int) : mx a b = max a b := by unfold mx; omega
theorem mn_min (a b : Int) : mn a b = min a b := by unfold mn; omega
theorem bits_xor {a b : Int} (ha : 0 ≤ a) (ha2 : a < 4611686018427387904) (hb : 0 ≤ b) (hb2 : b < 4611686018427387904) : 0 ≤ Go.bits .xor .i64 a b ∧ Go.bits .xor .i64 a b < 4611686018427387904 := by
  obtain ⟨a, rfl⟩ := Int.eq_ofNat_of_zero_le ha
  obtain ⟨b, rfl⟩ := Int.eq_ofNat_of_zero_le hb
  have h1 : a < 2 ^ 62 := by omega
  have h2 : b < 2 ^ 62 := by omega
  have h3 := Nat.xor_lt_two_pow h1 h2
  have e : Go.bits .xor .i64 (a : Int) (b : Int) = IntKind.i64.wrap (((BitVec.ofInt 64 (a : Int)) ^^^ (BitVec.ofInt 64 (b : Int))).toNat : Int) := rfl
  have ha' : (BitVec.ofInt 64 (a : Int)).toNat = a := by rw [BitVec.ofInt_natCast, BitVec.toNat_ofNat]; exact Nat.mod_eq_of_lt (by omega)
  have hb' : (BitVec.ofInt 64 (b : Int)).toNat = b := by rw [BitVec.ofInt_natCast, BitVec.toNat_ofNat]; exact Nat.mod_eq_of_lt (by omega)
  rw [e, BitVec.toNat_xor, ha', hb', IntKind.wrap_i64]
  omega
theorem cast0 : ((0 : Nat) : Int) = 0 := rfl
theorem w01 : wrap64 (0 + 1) = 1 := by unfold wrap64; omega
theorem w12 : wrap64 (1 + 1) = 2 := by unfold wrap64; omega
theorem w23 : wrap64 (2 + 1) = 3 := by unfold wrap64; omega
theorem w34 : wrap64 (3 + 1) = 4 := by unfold wrap64; omega
theorem w45 : wrap64 (4 + 1) = 5 := by unfold wrap64; omega

/-! ### listm -/
theorem pigeon : ∀ (n : Nat) (xs : List Int), xs.Nodup → (∀ x ∈ xs, 0 ≤ x ∧ x < (n : Int)) → xs.length ≤ n := by
  intro n
  induction n with
  | zero =>
    intro xs _ h
    cases xs with
    | nil => simp
    | cons x xs => have := h x (by simp); omega
  | succ n ih =>
    intro xs hn h
    by_cases hm : (n : Int) ∈ xs
    · have h1 := ih (xs.erase (n : Int)) (hn.erase _) (fun x hx => by
        have h2 := (hn.mem_erase_iff).1 hx
        have h3 := h x h2.2
        have h4 := h2.1
        omega)
      rw [List.length_erase_of_mem hm] at h1
      omega
    · have h1 := ih xs hn (fun x hx => by
        have h3 := h x hx
        have h4 : x ≠ (n : Int) := fun e => hm (e ▸ hx)
        omega)
      omega
/-- Fewer different members than there are: one is missing. -/
theorem one_missing : ∀ (n : Nat) (xs : List Int), xs.length < n → ∃ j : Nat, j < n ∧ (j : Int) ∉ xs := by
  intro n
  induction n with
  | zero => intro xs h; omega
  | succ n ih =>
    intro xs h
    by_cases hm : (n : Int) ∈ xs
    · obtain ⟨j, hj, hx⟩ := ih (xs.erase (n : Int)) (by rw [List.length_erase_of_mem hm]; have := List.length_pos_of_mem hm; omega)
      refine ⟨j, by omega, fun hmem => hx ?_⟩
      exact (List.mem_erase_of_ne (by omega)).2 hmem
    · exact ⟨n, by omega, hm⟩
/-- Members, one after the other, in range and not seen yet. -/
def memB (n : Int) : List Int → List Int → Bool
  | _, [] => true
  | seen, x :: rest => decide (0 ≤ x ∧ x < n) && (!decide (x ∈ seen) && memB n (seen ++ [x]) rest)
theorem memB_iff (n : Int) : ∀ (xs seen : List Int), memB n seen xs = true ↔ (∀ x ∈ xs, 0 ≤ x ∧ x < n ∧ x ∉ seen) ∧ xs.Nodup := by
  intro xs
  induction xs with
  | nil => intro seen; simp [memB]
  | cons a xs ih =>
    intro seen
    simp only [memB, Bool.and_eq_true, decide_eq_true_eq, Bool.not_eq_true', decide_eq_false_iff_not, ih, List.mem_cons, List.mem_append, List.not_mem_nil, or_false, List.nodup_cons]
    constructor
    · rintro ⟨⟨h1, h2⟩, h3, h4, h5⟩
      refine ⟨?_, fun ha => (h4 a ha).2.2 (Or.inr rfl), h5⟩
      rintro x (rfl | hx)
      · exact ⟨h1, h2, h3⟩
      · obtain ⟨a1, a2, a3⟩ := h4 x hx
        exact ⟨a1, a2, fun h => a3 (Or.inl h)⟩
    · rintro ⟨h1, h2, h3⟩
      obtain ⟨a1, a2, a3⟩ := h1 a (Or.inl rfl)
      refine ⟨⟨a1, a2⟩, a3, fun x hx => ?_, h3⟩
      obtain ⟨b1, b2, b3⟩ := h1 x (Or.inr hx)
      refine ⟨b1, b2, ?_⟩
      rintro (h | rfl)
      · exact b3 h
      · exact h2 hx
/-- Different members of a body. -/
def GoodM (xs : List Int) (n : Int) : Prop := xs.Nodup ∧ ∀ x ∈ xs, 0 ≤ x ∧ x < n
instance (xs : List Int) (n : Int) : Decidable (GoodM xs n) := inferInstanceAs (Decidable (_ ∧ _))
theorem memB_good (n : Int) (xs : List Int) : memB n [] xs = decide (GoodM xs n) := by
  rw [Bool.eq_iff_iff, memB_iff, decide_eq_true_eq]
  unfold GoodM
  constructor
  · rintro ⟨h, hn⟩
    exact ⟨hn, fun x hx => ⟨(h x hx).1, (h x hx).2.1⟩⟩
  · rintro ⟨hn, h⟩
    exact ⟨fun x hx => ⟨(h x hx).1, (h x hx).2, by simp⟩, hn⟩
theorem GoodM.le {xs : List Int} {n : Nat} (h : GoodM xs (n : Int)) : xs.length ≤ n := pigeon n xs h.1 h.2
/-- The first place of a number behind some. -/
def idxM : List Int → Int → Nat → Int
  | [], _, _ => -1
  | y :: ys, x, i => if y = x then (i : Int) else idxM ys x (i + 1)
theorem idxM_neg : ∀ (xs : List Int) (x : Int) (i : Nat), idxM xs x i < 0 ↔ x ∉ xs := by
  intro xs
  induction xs with
  | nil => intro x i; simp [idxM]
  | cons y ys ih =>
    intro x i
    simp only [idxM]
    by_cases e : y = x
    · rw [if_pos e]; simp [e]
    · rw [if_neg e, ih]
      have e' : ¬ x = y := fun h => e h.symm
      simp [e']
theorem idxM_nonneg (xs : List Int) (x : Int) (i : Nat) : 0 ≤ idxM xs x i ↔ x ∈ xs := by
  have := idxM_neg xs x i
  by_cases h : x ∈ xs
  · simp only [h, not_true, iff_false] at this
    simp [h]; omega
  · simp only [h, not_false_iff, iff_true] at this
    simp [h]; omega
theorem idxM_at : ∀ (xs : List Int) (x : Int) (i : Nat), x ∈ xs → ∃ j : Nat, idxM xs x i = ((i + j : Nat) : Int) ∧ j < xs.length ∧ rd xs (j : Int) = x ∧ ∀ q : Nat, q < j → rd xs (q : Int) ≠ x := by
  intro xs
  induction xs with
  | nil => intro x i h; simp at h
  | cons y ys ih =>
    intro x i h
    by_cases e : y = x
    · exact ⟨0, by simp [idxM, e], by simp, by simp [rd, e], fun q hq => by omega⟩
    · have hx : x ∈ ys := by
        rcases List.mem_cons.1 h with h | h
        · exact absurd h.symm e
        · exact h
      obtain ⟨j, h1, h2, h3, h4⟩ := ih x (i + 1) hx
      refine ⟨j + 1, by simp only [idxM, if_neg e, h1]; omega, by simp; omega, ?_, ?_⟩
      · rw [← h3, rd_get (by simp; omega), rd_get h2]; simp
      · intro q hq
        cases q with
        | zero => rw [rd_get (by simp)]; simpa using e
        | succ q => have := h4 q (by omega); rw [rd_get (by simp; omega)]; rw [rd_get (by omega)] at this; simpa using this
theorem sum_set : ∀ (xs : List Int) (i : Nat) (v : Int), i < xs.length → (xs.set i v).sum = xs.sum - rd xs (i : Int) + v := by
  intro xs
  induction xs with
  | nil => intro i v h; simp at h
  | cons x xs ih =>
    intro i v h
    cases i with
    | zero => simp [rd]; omega
    | succ i =>
      have h2 : i < xs.length := by simpa using h
      have := ih i v h2
      have e : rd (x :: xs) ((i + 1 : Nat) : Int) = rd xs (i : Int) := by rw [rd_get h, rd_get h2]; simp
      simp only [List.set_cons_succ, List.sum_cons, this, e]
      omega
theorem sum_replicate0 (n : Nat) : (List.replicate n (0 : Int)).sum = 0 := by
  induction n with
  | zero => rfl
  | succ n ih => simp [List.replicate_succ, ih]
theorem set_fill {α : Type} (A : List α) (d : Nat) (z v : α) : (A ++ List.replicate (d + 1) z).set A.length v = (A ++ [v]) ++ List.replicate d z := by
  rw [List.set_append_right _ _ (Nat.le_refl _)]
  simp [List.replicate_succ]
theorem set_fill' {α : Type} {A : List α} {i d : Nat} {z v : α} (h : A.length = i) : (A ++ List.replicate (d + 1) z).set i v = (A ++ [v]) ++ List.replicate d z := by
  subst h; exact set_fill A d z v
theorem sum_bound : ∀ (xs : List Int) (lo hi : Int), (∀ x ∈ xs, lo ≤ x ∧ x ≤ hi) → (xs.length : Int) * lo ≤ xs.sum ∧ xs.sum ≤ (xs.length : Int) * hi := by
  intro xs lo hi
  induction xs with
  | nil => intro _; simp
  | cons x xs ih =>
    intro h
    have h1 := ih (fun y hy => h y (by simp [hy]))
    have h2 := h x (by simp)
    have e1 : ((x :: xs).length : Int) * lo = (xs.length : Int) * lo + lo := by simp [Int.add_mul]
    have e2 : ((x :: xs).length : Int) * hi = (xs.length : Int) * hi + hi := by simp [Int.add_mul]
    rw [e1, e2, List.sum_cons]
    omega

/-! ### inrange -/
theorem inRange_spec (a lo up : Int) : spec_inRange.f a lo up = some (decide (lo ≤ a ∧ a ≤ up)) := by
  unfold spec_inRange.f
  by_cases h : lo ≤ a <;> simp [h]

/-! ### copyints -/
theorem copyInts_spec (l : List Int) (hl : l.length ≤ 1000000) : spec_copyInts.f l = some l := by
  unfold spec_copyInts.f
  simp only [Option.bind_some]
  rw [if_pos (by simp; omega)]; simp

/-! ### reader -/
/-- A pick: a number below the bound (0 where there is none), one place on. -/
theorem pick_spec (k : Nat) (hk : 1 ≤ k) (b : List Int) (hb : ∀ x ∈ b, 0 ≤ x ∧ x ≤ 255) (hl : b.length ≤ 2000) (p : Int) (hp0 : 0 ≤ p) (hp : p ≤ 1000000) (n : Int) (hn : n ≤ 1000000000000) :
    ∃ v, spec_reader_pick.f k b p n = some (v, p + 1) ∧ 0 ≤ v ∧ (0 < n → v < n) ∧ (n ≤ 0 → v = 0) := by
  obtain ⟨k, rfl, -⟩ := fuel hk
  have hw : wrap64 (p + 1) = p + 1 := wrap_succ' hp0 (by omega)
  have hw2 : wrap64 (p + 1 - 1) = p := by rw [wrap_id (by omega) (by omega)]; omega
  unfold spec_reader_pick.f
  rw [hw]
  by_cases h1 : n < 1
  · rw [if_pos h1]
    exact ⟨0, by simp [spec_reader_pick.j0], by omega, by omega, fun _ => rfl⟩
  · rw [if_neg h1]
    by_cases h2 : b.length = 0
    · have e : ((b.length : Int) == 0) = true := by simp [h2]
      rw [e]
      exact ⟨0, by simp [spec_reader_pick.j0], by omega, fun _ => by omega, fun _ => rfl⟩
    · have e : ((b.length : Int) == 0) = false := by rw [beq_eq_false_iff_ne]; omega
      rw [e]
      simp only [spec_reader_pick.j0]
      rw [if_neg (by decide), hw2]
      have rdb : ∀ i : Int, 0 ≤ i → i < (b.length : Int) → 0 ≤ rd b i ∧ rd b i ≤ 255 := fun i h0 h => hb _ (rd_mem' h0 h)
      by_cases h3 : p < (b.length : Int)
      · rw [if_pos h3, if_pos hp0, if_neg (by omega)]
        have hr := rdb p hp0 h3
        rw [wrap_id (x := rd b p) (by omega) (by omega), Int.tmod_eq_emod_of_nonneg hr.1]
        exact ⟨_, rfl, Int.emod_nonneg _ (by omega), fun _ => Int.emod_lt_of_pos _ (by omega), fun h => by omega⟩
      · have hL : (0 : Int) < (b.length : Int) := by omega
        have m1 := Int.emod_nonneg p (b := (b.length : Int)) (by omega)
        have m2 := Int.emod_lt_of_pos p hL
        have w7 : wrap64 (wrap64 (p * 7) + 3) = p * 7 + 3 := by rw [wrap_add_l, wrap_id (by omega) (by omega)]
        have m3 := Int.emod_nonneg (p * 7 + 3) (b := (b.length : Int)) (by omega)
        have m4 := Int.emod_lt_of_pos (p * 7 + 3) hL
        rw [if_neg h3, if_neg (by omega)]
        rw [w7]
        rw [Int.tmod_eq_emod_of_nonneg hp0, Int.tmod_eq_emod_of_nonneg (by omega : (0 : Int) ≤ p * 7 + 3)]
        rw [if_pos m1, if_pos m2, if_pos m3, if_pos m4, if_neg (by omega)]
        have r1 := rdb _ m1 m2
        have r2 := rdb _ m3 m4
        have hq : 0 ≤ Int.tdiv p (b.length : Int) ∧ Int.tdiv p (b.length : Int) ≤ p := by
          rw [Int.tdiv_eq_ediv_of_nonneg hp0]
          exact ⟨Int.ediv_nonneg hp0 (by omega), Int.ediv_le_self _ hp0⟩
        generalize rd b (p % (b.length : Int)) = x at *
        generalize rd b ((p * 7 + 3) % (b.length : Int)) = y at *
        generalize Int.tdiv p (b.length : Int) = q at *
        have hx : wrap64 x = x := wrap_id (by omega) (by omega)
        have hy : wrap64 y = y := wrap_id (by omega) (by omega)
        have hqq : wrap64 q = q := wrap_id (by omega) (by omega)
        rw [hx, hy, hqq]
        have e1 : wrap64 (x * 131) = x * 131 := wrap_id (by omega) (by omega)
        have e2 : wrap64 (y * 1117) = y * 1117 := wrap_id (by omega) (by omega)
        have e3 : wrap64 (p * 29) = p * 29 := wrap_id (by omega) (by omega)
        have e4 : wrap64 (q * 53) = q * 53 := wrap_id (by omega) (by omega)
        rw [e1, e2, e3, e4]
        have e5 : wrap64 (x * 131 + y * 1117) = x * 131 + y * 1117 := wrap_id (by omega) (by omega)
        rw [e5]
        have e6 : wrap64 (x * 131 + y * 1117 + p * 29) = x * 131 + y * 1117 + p * 29 := wrap_id (by omega) (by omega)
        rw [e6]
        have e7 : wrap64 (x * 131 + y * 1117 + p * 29 + q * 53) = x * 131 + y * 1117 + p * 29 + q * 53 := wrap_id (by omega) (by omega)
        rw [e7]
        have hz : 0 ≤ x * 131 + y * 1117 + p * 29 + q * 53 ∧ x * 131 + y * 1117 + p * 29 + q * 53 ≤ 1000000000 := by omega
        generalize x * 131 + y * 1117 + p * 29 + q * 53 = z at *
        have hz64 : 0 ≤ Int.tdiv z 64 ∧ Int.tdiv z 64 ≤ z := by
          rw [Int.tdiv_eq_ediv_of_nonneg hz.1]; omega
        rw [wrap_id (x := Int.tdiv z 64) (by omega) (by omega)]
        have hxor := bits_xor (a := z) (b := Int.tdiv z 64) hz.1 (by omega) hz64.1 (by omega)
        rw [Int.tmod_eq_emod_of_nonneg hxor.1]
        exact ⟨_, rfl, Int.emod_nonneg _ (by omega), fun _ => Int.emod_lt_of_pos _ (by omega), fun h => by omega⟩
/-- One of some numbers. -/
theorem one_spec (k : Nat) (hk : 1 ≤ k) (b : List Int) (hb : ∀ x ∈ b, 0 ≤ x ∧ x ≤ 255) (hl : b.length ≤ 2000) (p : Int) (hp0 : 0 ≤ p) (hp : p ≤ 1000000) (l : List Int) (hn0 : l ≠ []) (hn : l.length ≤ 1000000) :
    ∃ v, spec_reader_one.f k b p l = some (v, p + 1) ∧ v ∈ l := by
  have h0 : 0 < l.length := List.length_pos_iff.2 hn0
  obtain ⟨v, hv, h1, h2, -⟩ := pick_spec k hk b hb hl p hp0 hp (l.length : Int) (by omega)
  unfold spec_reader_one.f
  rw [hv]
  simp only [Option.bind_some]
  rw [if_pos h1, if_pos (h2 (by omega))]
  exact ⟨_, rfl, rd_mem' h1 (h2 (by omega))⟩
theorem reader_bytes {l : List Int} (h : ∀ x ∈ l, (Lit.int .u8 x).wf = true) : ∀ x ∈ l, 0 ≤ x ∧ x ≤ 255 := by
  intro x hx
  have := h x hx
  simp [Lit.wf, IntKind.min, IntKind.max, IntKind.bits, IntKind.signed] at this
  omega
/-- A reader of some code: its bytes. -/
theorem newReader_spec (l : List Int) (h : ∀ x ∈ l, 0 ≤ x ∧ x ≤ 255) : ∃ b : List Int, spec_newReader.f l = some (b, 0) ∧ (∀ x ∈ b, 0 ≤ x ∧ x ≤ 255) ∧ b.length ≤ 2000 := by
  unfold spec_newReader.f
  by_cases h1 : (l.length : Int) > 2000
  · rw [if_pos h1, if_pos (by omega)]
    exact ⟨_, rfl, fun x hx => h x (List.mem_of_mem_take hx), by simp; omega⟩
  · rw [if_neg h1]
    exact ⟨_, rfl, h, by omega⟩

/-! ### reveals -/
def OkRev (x : S45) : Prop := 0 ≤ x.f1 ∧ x.f1 ≤ 50000 ∧ 0 ≤ x.f2 ∧ x.f2 ≤ 9999
instance (x : S45) : Decidable (OkRev x) := inferInstanceAs (Decidable (_ ∧ _))
def OkRevs (ls : List S45) : Prop := ls.length ≤ 12 ∧ ∀ x ∈ ls, OkRev x
instance (ls : List S45) : Decidable (OkRevs ls) := inferInstanceAs (Decidable (_ ∧ _))
theorem rdV_at {xs : List S45} {i : Nat} (h : i < xs.length) : rd_T45 xs (i : Int) = xs[i] := by
  unfold rd_T45
  simp [h]
theorem drop_rdV {xs : List S45} {i : Nat} (h : i < xs.length) : xs.drop i = rd_T45 xs (i : Int) :: xs.drop (i + 1) := by
  rw [List.drop_eq_getElem_cons h, rdV_at h]
theorem rdV_mem {xs : List S45} {i : Nat} (h : i < xs.length) : rd_T45 xs (i : Int) ∈ xs := by
  rw [rdV_at h]; exact List.getElem_mem h
def commitM (v s : Int) : Int := (v * 7919 + s * s + s) % 99991
theorem commit_range {v s : Int} (h : 0 ≤ v ∧ v ≤ 50000 ∧ 0 ≤ s ∧ s ≤ 9999) : Int.tmod (wrap64 ((wrap64 ((wrap64 (v * 7919)) + (wrap64 (s * s)))) + s)) 99991 = commitM v s ∧ 0 ≤ commitM v s := by
  have h1 : 0 ≤ s * s := Int.mul_nonneg h.2.2.1 h.2.2.1
  have h2 : s * s ≤ 9999 * 9999 := Int.mul_le_mul h.2.2.2 h.2.2.2 h.2.2.1 (by omega)
  generalize hq : s * s = q at *
  unfold commitM
  rw [hq, wrap_id (x := v * 7919) (by omega) (by omega), wrap_id (x := q) (by omega) (by omega), wrap_id (x := v * 7919 + q) (by omega) (by omega), wrap_id (by omega) (by omega), Int.tmod_eq_emod_of_nonneg (by omega)]
  exact ⟨rfl, Int.emod_nonneg _ (by omega)⟩
theorem implCommit_ok {v s : Int} (h : 0 ≤ v ∧ v ≤ 50000 ∧ 0 ≤ s ∧ s ≤ 9999) : impl_CommitTo.f v s = some (commitM v s) := by
  unfold impl_CommitTo.f
  rw [if_neg (by omega), if_neg (by omega), if_neg (by omega), if_neg (by omega), (commit_range h).1]
theorem implCommit_bad {v s : Int} (h : ¬ (0 ≤ v ∧ v ≤ 50000 ∧ 0 ≤ s ∧ s ≤ 9999)) : impl_CommitTo.f v s = some (-1) := by
  unfold impl_CommitTo.f
  by_cases h1 : v < 0
  · rw [if_pos h1]
  rw [if_neg h1]
  by_cases h2 : v > 50000
  · rw [if_pos h2]
  rw [if_neg h2]
  by_cases h3 : s < 0
  · rw [if_pos h3]
  rw [if_neg h3, if_pos (by omega)]
theorem specCommit_ok {v s : Int} (h : 0 ≤ v ∧ v ≤ 50000 ∧ 0 ≤ s ∧ s ≤ 9999) : spec_commit.f v s = some (commitM v s) := by
  unfold spec_commit.f
  rw [(commit_range h).1]
theorem implRevs_l0 (ls : List S45) (hl : ls.length ≤ 1048576) : ∀ (d k i : Nat), i + d = ls.length → d < k → impl_validReveals.l0 k ls (ls.length : Int) (i : Int) = some (decide (∀ x ∈ ls.drop i, OkRev x)) := by
  intro d
  induction d with
  | zero =>
    intro k i hi hk
    obtain ⟨k, rfl, -⟩ := fuel hk
    simp only [impl_validReveals.l0]
    rw [if_neg (by omega), List.drop_eq_nil_of_le (by omega)]
    simp
  | succ d ih =>
    intro k i hi hk
    obtain ⟨k, rfl, hk⟩ := fuel hk
    simp only [impl_validReveals.l0]
    rw [if_pos (by omega), if_pos (by omega), if_pos (by omega), drop_rdV (show i < ls.length by omega)]
    by_cases h : OkRev (rd_T45 ls (i : Int))
    · rw [implCommit_ok h, Option.bind_some, if_neg (by have := (commit_range h).2; omega), wrap_succ (by omega), ih k (i + 1) (by omega) (by omega)]
      congr 1
      simp [h]
    · rw [implCommit_bad h, Option.bind_some, if_pos (by omega)]
      simp [h]
theorem implRevs_spec (k : Nat) (ls : List S45) (hl : ls.length ≤ 1048576) (hk : 1048576 < k) : impl_validReveals.f k ls = some (decide (OkRevs ls)) := by
  unfold impl_validReveals.f
  by_cases h : (ls.length : Int) > 12
  · rw [if_pos h, decide_eq_false (fun h' : OkRevs ls => by have := h'.1; omega)]
  · have e : (∀ x ∈ ls, OkRev x) ↔ OkRevs ls := ⟨fun h' => ⟨by omega, h'⟩, fun h' => h'.2⟩
    have h2 := implRevs_l0 ls hl ls.length k 0 (by omega) (by omega)
    rw [List.drop_zero, decide_eq_decide.2 e] at h2
    rw [if_neg h]
    exact h2
theorem specRevs_l0 (ls : List S45) (hl : ls.length ≤ 1048576) : ∀ (d k i : Nat), i + d = ls.length → d < k → spec_validReveals.l0 k ls (i : Int) = some (decide ((∀ x ∈ ls.drop i, OkRev x) ∧ ls.length ≤ 12)) := by
  intro d
  induction d with
  | zero =>
    intro k i hi hk
    obtain ⟨k, rfl, -⟩ := fuel hk
    simp only [spec_validReveals.l0]
    rw [if_neg (by omega), List.drop_eq_nil_of_le (by omega)]
    congr 1
    rw [Bool.eq_iff_iff]
    simp
    omega
  | succ d ih =>
    intro k i hi hk
    obtain ⟨k, rfl, hk⟩ := fuel hk
    simp only [spec_validReveals.l0]
    rw [if_pos (by omega), if_pos (by omega), drop_rdV (show i < ls.length by omega), inRange_spec, Option.bind_some]
    by_cases h1 : 0 ≤ (rd_T45 ls (i : Int)).f1 ∧ (rd_T45 ls (i : Int)).f1 ≤ 50000
    · rw [decide_eq_true h1, if_pos rfl, inRange_spec, Option.bind_some]
      by_cases h2 : 0 ≤ (rd_T45 ls (i : Int)).f2 ∧ (rd_T45 ls (i : Int)).f2 ≤ 9999
      · have h : OkRev (rd_T45 ls (i : Int)) := ⟨h1.1, h1.2, h2.1, h2.2⟩
        rw [decide_eq_true h2, if_pos rfl, wrap_succ (by omega), ih k (i + 1) (by omega) (by omega)]
        congr 1
        simp [h]
      · have h : ¬ OkRev (rd_T45 ls (i : Int)) := fun h => h2 ⟨h.2.2.1, h.2.2.2⟩
        rw [decide_eq_false h2, if_neg (by decide)]
        simp [h]
    · have h : ¬ OkRev (rd_T45 ls (i : Int)) := fun h => h1 ⟨h.1, h.2.1⟩
      rw [decide_eq_false h1, if_neg (by decide)]
      simp [h]
theorem specRevs_spec (k : Nat) (ls : List S45) (hl : ls.length ≤ 1048576) (hk : 1048576 < k) : spec_validReveals.f k ls = some (decide (OkRevs ls)) := by
  unfold spec_validReveals.f
  have e : ((∀ x ∈ ls, OkRev x) ∧ ls.length ≤ 12) ↔ OkRevs ls := ⟨fun h' => ⟨h'.2, h'.1⟩, fun h' => ⟨h'.2, h'.1⟩⟩
  have h2 := specRevs_l0 ls hl ls.length k 0 (by omega) (by omega)
  rw [List.drop_zero, decide_eq_decide.2 e] at h2
  exact h2
/-- What the honest reveals draw together. -/
def honM (ls : List S45) : Int := (ls.map fun x => if commitM x.f1 x.f2 = x.f0 then x.f1 else 0).sum
theorem honM_cons (x : S45) (ls : List S45) : honM (x :: ls) = (if commitM x.f1 x.f2 = x.f0 then x.f1 else 0) + honM ls := by simp [honM]
theorem honM_append (a b : List S45) : honM (a ++ b) = honM a + honM b := by simp [honM]
theorem honM_range : ∀ (ls : List S45), (∀ x ∈ ls, OkRev x) → 0 ≤ honM ls ∧ honM ls ≤ 50000 * ls.length := by
  intro ls
  induction ls with
  | nil => intro _; simp [honM]
  | cons x ls ih =>
    intro h
    have := ih (fun y hy => h y (List.mem_cons_of_mem _ hy))
    have hx := h x List.mem_cons_self
    have h1 := hx.1
    have h2 := hx.2.1
    rw [honM_cons, List.length_cons]
    push_cast
    split <;> omega
def hFrom : List S45 → Nat → List Int
  | [], _ => []
  | x :: xs, i => if commitM x.f1 x.f2 = x.f0 then (i : Int) :: hFrom xs (i + 1) else hFrom xs (i + 1)
theorem hFrom_length : ∀ (xs : List S45) (i : Nat), (hFrom xs i).length ≤ xs.length := by
  intro xs
  induction xs with
  | nil => intro i; simp [hFrom]
  | cons x xs ih =>
    intro i
    have := ih (i + 1)
    simp only [hFrom]
    split <;> simp <;> omega
theorem hFrom_mem : ∀ (xs : List S45) (i : Nat), ∀ j ∈ hFrom xs i, (i : Int) ≤ j ∧ j < (i : Int) + xs.length := by
  intro xs
  induction xs with
  | nil => intro i j hj; simp [hFrom] at hj
  | cons x xs ih =>
    intro i j hj
    simp only [hFrom] at hj
    rw [List.length_cons]
    push_cast
    split at hj
    · rcases List.mem_cons.1 hj with rfl | hj
      · omega
      · have := ih (i + 1) j hj; push_cast at this; omega
    · have := ih (i + 1) j hj; push_cast at this; omega
theorem hFrom_sum (ls : List S45) : ∀ (d i : Nat), i + d = ls.length → ((hFrom (ls.drop i) i).map fun j => (rd_T45 ls j).f1).sum = honM (ls.drop i) := by
  intro d
  induction d with
  | zero => intro i hi; rw [List.drop_eq_nil_of_le (by omega)]; simp [hFrom, honM]
  | succ d ih =>
    intro i hi
    rw [drop_rdV (show i < ls.length by omega), honM_cons, ← ih (i + 1) (by omega)]
    simp only [hFrom]
    split
    · simp only [List.map_cons, List.sum_cons]
    · omega
theorem implHonest_l0 (ls : List S45) (h : OkRevs ls) : ∀ (d k i : Nat) (acc : List Int), i + d = ls.length → acc.length ≤ i → d < k → impl_Honest.l0 k acc ls (ls.length : Int) (i : Int) = some (acc ++ hFrom (ls.drop i) i) := by
  have hl := h.1
  intro d
  induction d with
  | zero =>
    intro k i acc hi ha hk
    obtain ⟨k, rfl, -⟩ := fuel hk
    simp only [impl_Honest.l0]
    rw [if_neg (by omega), List.drop_eq_nil_of_le (by omega)]
    simp [hFrom]
  | succ d ih =>
    intro k i acc hi ha hk
    obtain ⟨k, rfl, hk⟩ := fuel hk
    have hx := h.2 _ (rdV_mem (show i < ls.length by omega))
    simp only [impl_Honest.l0]
    rw [if_pos (by omega), if_pos (by omega), if_pos (by omega), implCommit_ok hx, Option.bind_some, drop_rdV (show i < ls.length by omega), wrap_succ (by omega)]
    simp only [hFrom]
    by_cases hc : commitM (rd_T45 ls (i : Int)).f1 (rd_T45 ls (i : Int)).f2 = (rd_T45 ls (i : Int)).f0
    · rw [if_pos hc, if_pos (by omega), if_pos hc, ih k (i + 1) (acc ++ [(i : Int)]) (by omega) (by simp; omega) (by omega), List.append_assoc]
      rfl
    · rw [if_neg hc, if_neg hc]
      exact ih k (i + 1) acc (by omega) (by omega) (by omega)
theorem implSum_l0 (ls : List S45) (h : OkRevs ls) (t : List Int) (ht : t.length ≤ 12) (hm : ∀ j ∈ t, 0 ≤ j ∧ j < (ls.length : Int)) : ∀ (d k i : Nat) (s : Int), i + d = t.length → 0 ≤ s → s ≤ 50000 * i → d < k → impl_honestSum.l0 k ls s t (t.length : Int) (i : Int) = some (s + ((t.drop i).map fun j => (rd_T45 ls j).f1).sum) := by
  have hl := h.1
  intro d
  induction d with
  | zero =>
    intro k i s hi h0 h1 hk
    obtain ⟨k, rfl, -⟩ := fuel hk
    simp only [impl_honestSum.l0]
    rw [if_neg (by omega), List.drop_eq_nil_of_le (by omega)]
    simp
  | succ d ih =>
    intro k i s hi h0 h1 hk
    obtain ⟨k, rfl, hk⟩ := fuel hk
    have hj := hm _ (rd_mem (show i < t.length by omega))
    have hx : OkRev (rd_T45 ls (rd t (i : Int))) := by
      obtain ⟨j, hj'⟩ := Int.eq_ofNat_of_zero_le hj.1
      rw [hj'] at hj ⊢
      exact h.2 _ (rdV_mem (by omega))
    have hx1 := hx.1
    have hx2 := hx.2.1
    simp only [impl_honestSum.l0]
    rw [if_pos (by omega), if_pos (by omega), if_pos (by omega), if_pos hj.1, if_pos hj.2, wrap_id (by omega) (by omega), wrap_succ (by omega), ih k (i + 1) _ (by omega) (by omega) (by push_cast; omega) (by omega), drop_rd (show i < t.length by omega)]
    simp only [List.map_cons, List.sum_cons]
    congr 1
    omega
theorem implHonSum_spec (k : Nat) (ls : List S45) (h : OkRevs ls) (hk : 1048576 < k) : impl_honestSum.f k ls = some (honM ls) := by
  have hl := h.1
  have e0 := implHonest_l0 ls h ls.length k 0 [] (by omega) (by simp) (by omega)
  have e1 := implSum_l0 ls h (hFrom ls 0) (by have := hFrom_length ls 0; omega) (fun j hj => by have := hFrom_mem ls 0 j hj; omega) (hFrom ls 0).length k 0 0 (by omega) (by omega) (by omega) (by have := hFrom_length ls 0; omega)
  have e2 := hFrom_sum ls ls.length 0 (by omega)
  rw [List.drop_zero] at e0 e1 e2
  rw [cast0, List.nil_append] at e0
  rw [cast0, e2, Int.zero_add] at e1
  unfold impl_honestSum.f impl_Honest.f
  rw [implRevs_spec k ls (by omega) hk, Option.bind_some, decide_eq_true h, if_pos rfl, e0, Option.bind_some, e1]
theorem specDrawOf_l0 (ls : List S45) (h : OkRevs ls) : ∀ (d k i : Nat) (s : Int), i + d = ls.length → 0 ≤ s → s ≤ 50000 * i → d < k → spec_DrawOf.l0 k ls 1 s (i : Int) = some (s + honM (ls.drop i), Int.tmod (s + honM (ls.drop i)) 1) := by
  have hl := h.1
  intro d
  induction d with
  | zero =>
    intro k i s hi h0 h1 hk
    obtain ⟨k, rfl, -⟩ := fuel hk
    simp only [spec_DrawOf.l0]
    rw [if_neg (by omega), if_neg (by decide), List.drop_eq_nil_of_le (by omega)]
    simp [honM]
  | succ d ih =>
    intro k i s hi h0 h1 hk
    obtain ⟨k, rfl, hk⟩ := fuel hk
    have hx := h.2 _ (rdV_mem (show i < ls.length by omega))
    have hx1 := hx.1
    have hx2 := hx.2.1
    simp only [spec_DrawOf.l0]
    rw [if_pos (by omega), if_pos (by omega), specCommit_ok hx, Option.bind_some, drop_rdV (show i < ls.length by omega), wrap_succ (by omega), honM_cons]
    by_cases hc : commitM (rd_T45 ls (i : Int)).f1 (rd_T45 ls (i : Int)).f2 = (rd_T45 ls (i : Int)).f0
    · rw [if_pos hc, if_pos hc, wrap_id (by omega) (by omega), ih k (i + 1) _ (by omega) (by omega) (by push_cast; omega) (by omega), Int.add_assoc]
    · rw [if_neg hc, if_neg hc, ih k (i + 1) _ (by omega) (by omega) (by push_cast; omega) (by omega), Int.zero_add]
theorem specDrawOf_spec (k : Nat) (ls : List S45) (h : OkRevs ls) (hk : 1048577 < k) : ∃ c, spec_DrawOf.f k ls 1 = some (honM ls, c) := by
  have hl := h.1
  unfold spec_DrawOf.f
  rw [specRevs_spec k ls (by omega) (by omega), Option.bind_some, decide_eq_true h, if_pos rfl, inRange_spec, Option.bind_some]
  obtain ⟨k, rfl, hk⟩ := fuel hk
  have e := specDrawOf_l0 ls h ls.length k 0 0 (by omega) (by omega) (by omega) (by omega)
  rw [List.drop_zero, cast0, Int.zero_add] at e
  simp only [spec_DrawOf.j0]
  rw [decide_eq_true (show (1:Int) ≤ 1 ∧ (1:Int) ≤ 50000 by omega), Bool.not_true, if_neg (by decide), e]
  exact ⟨_, rfl⟩
theorem someReveals_l0 (b : List Int) (hb : ∀ x ∈ b, 0 ≤ x ∧ x ≤ 255) (hl : b.length ≤ 2000) : ∀ (c k : Nat) (acc : List S45) (p : Int), acc.length + c ≤ 6 → 0 ≤ p → p + 8 * c ≤ 900 → c + 5 < k →
    ∃ r, spec_someReveals.l0 k acc (c : Int) b p = some r ∧ r.1.length ≤ 6 ∧ 0 ≤ r.2 ∧ r.2 ≤ 1000 := by
  intro c
  induction c with
  | zero =>
    intro k acc p ha h0 h1 hk
    obtain ⟨k, rfl, -⟩ := fuel hk
    simp only [spec_someReveals.l0]
    rw [if_neg (by omega)]
    by_cases hz : (acc.length : Int) > 0
    · obtain ⟨v, h3, -⟩ := pick_spec k (by omega) b hb hl p h0 (by omega) 16 (by omega)
      rw [if_pos hz, h3, Option.bind_some]
      dsimp only
      by_cases hv : v = 0
      · obtain ⟨x, h4, -⟩ := one_spec k (by omega) b hb hl (p + 1) (by omega) (by omega) [-1, 10000] (by simp) (by simp)
        rw [if_pos hv, h4, Option.bind_some, if_pos hz]
        exact ⟨_, rfl, by simp; omega, by dsimp only; omega, by dsimp only; omega⟩
      · rw [if_neg hv]
        exact ⟨_, rfl, by dsimp only; omega, by dsimp only; omega, by dsimp only; omega⟩
    · rw [if_neg hz]
      exact ⟨_, rfl, by dsimp only; omega, by dsimp only; omega, by dsimp only; omega⟩
  | succ c ih =>
    intro k acc p ha h0 h1 hk
    obtain ⟨k, rfl, hk⟩ := fuel (show c + 5 + 1 < k by omega)
    simp only [spec_someReveals.l0]
    obtain ⟨v1, e1, -⟩ := pick_spec k (by omega) b hb hl p h0 (by omega) 250 (by omega)
    obtain ⟨v2, e2, -⟩ := pick_spec k (by omega) b hb hl (p + 1) (by omega) (by omega) 250 (by omega)
    obtain ⟨v3, e3, -⟩ := one_spec k (by omega) b hb hl (p + 1 + 1) (by omega) (by omega) [v1, wrap64 (100 * v2), 0] (by simp) (by simp)
    obtain ⟨v4, e4, -⟩ := pick_spec k (by omega) b hb hl (p + 1 + 1 + 1) (by omega) (by omega) 250 (by omega)
    obtain ⟨v5, e5, -⟩ := pick_spec k (by omega) b hb hl (p + 1 + 1 + 1 + 1) (by omega) (by omega) 6 (by omega)
    obtain ⟨v6, e6, -⟩ := pick_spec k (by omega) b hb hl (p + 1 + 1 + 1 + 1 + 1) (by omega) (by omega) 5 (by omega)
    obtain ⟨cm, ec⟩ : ∃ cm, spec_commit.f v3 v4 = some cm := ⟨_, rfl⟩
    rw [if_pos (by omega), e1, Option.bind_some]
    dsimp only
    rw [e2, Option.bind_some]
    dsimp only
    rw [e3, Option.bind_some]
    dsimp only
    rw [e4, Option.bind_some]
    dsimp only
    rw [ec, Option.bind_some, e5, Option.bind_some]
    dsimp only
    have hw : wrap64 (((c + 1 : Nat) : Int) - 1) = (c : Int) := by rw [wrap_id (by omega) (by omega)]; omega
    rw [hw]
    by_cases hv : v5 = 0
    · rw [if_pos hv, e6, Option.bind_some]
      dsimp only
      rw [if_pos (by omega)]
      exact ih k _ _ (by simp; omega) (by omega) (by omega) (by omega)
    · rw [if_neg hv, if_pos (by omega)]
      exact ih k _ _ (by simp; omega) (by omega) (by omega) (by omega)
theorem someReveals_spec (b : List Int) (hb : ∀ x ∈ b, 0 ≤ x ∧ x ≤ 255) (hl : b.length ≤ 2000) (k : Nat) (hk : 20 < k) : ∃ r, spec_someReveals.f k b 0 = some r ∧ r.1.length ≤ 6 ∧ 0 ≤ r.2 ∧ r.2 ≤ 1000 := by
  unfold spec_someReveals.f
  obtain ⟨v, e, hm⟩ := one_spec k (by omega) b hb hl 0 (by omega) (by omega) [3, 4, 2, 1, 0, 6] (by simp) (by simp)
  rw [e, Option.bind_some]
  dsimp only
  have hv : 0 ≤ v ∧ v ≤ 6 := by simp at hm; omega
  obtain ⟨c, rfl⟩ := Int.eq_ofNat_of_zero_le hv.1
  exact someReveals_l0 b hb hl c k [] _ (by simp; omega) (by omega) (by omega) (by omega)

/-! ### fact -/
def factM : Nat → Int
  | 0 => 1
  | n + 1 => factM n * ((n + 1 : Nat) : Int)
theorem factM_pos : ∀ n : Nat, 1 ≤ factM n := by
  intro n
  induction n with
  | zero => decide
  | succ n ih =>
    simp only [factM]
    have h : (0 : Int) ≤ ((n : Nat) : Int) := by omega
    have := Int.mul_nonneg (show 0 ≤ factM n by omega) h
    push_cast
    rw [Int.mul_add]
    omega
theorem factM_step (n : Nat) : factM (n + 1) = factM n * ((n + 1 : Nat) : Int) := rfl
theorem factM_mono : ∀ (d n : Nat), factM n ≤ factM (n + d) := by
  intro d
  induction d with
  | zero => intro n; exact Int.le_refl _
  | succ d ih =>
    intro n
    refine Int.le_trans (ih n) ?_
    rw [show n + (d + 1) = (n + d) + 1 from rfl, factM_step]
    have h1 := factM_pos (n + d)
    have := Int.mul_le_mul_of_nonneg_left (show (1 : Int) ≤ ((n + d + 1 : Nat) : Int) by omega) (show 0 ≤ factM (n + d) by omega)
    omega
theorem factM_small {n : Nat} (h : n ≤ 12) : factM n ≤ 479001600 := by
  have := factM_mono (12 - n) n
  rw [show n + (12 - n) = 12 by omega] at this
  have e : factM 12 = 479001600 := by decide
  omega

/-! ### ifact -/
theorem implFact_l0 (n : Nat) (hn : n ≤ 12) : ∀ (d k i : Nat), i + d = n → d < k → impl_factorial.l0 k (n : Int) (factM i) ((i + 1 : Nat) : Int) = some (factM n) := by
  intro d
  induction d with
  | zero =>
    intro k i hi hk
    obtain ⟨k, rfl, -⟩ := fuel hk
    simp only [impl_factorial.l0]
    obtain rfl : i = n := by omega
    rw [if_neg (by omega)]
  | succ d ih =>
    intro k i hi hk
    obtain ⟨k, rfl, hk⟩ := fuel hk
    simp only [impl_factorial.l0]
    have h1 := factM_pos (i + 1)
    have h2 := factM_small (show i + 1 ≤ 12 by omega)
    rw [if_pos (by omega), ← factM_step, wrap_id (by omega) (by omega), wrap_succ (by omega)]
    exact ih k (i + 1) (by omega) (by omega)
theorem implFact_spec (k : Nat) (n : Nat) (hn : n ≤ 12) (hk : 20 < k) : impl_factorial.f k (n : Int) = some (factM n) := by
  unfold impl_factorial.f
  rcases Nat.eq_zero_or_pos n with h | h
  · subst h
    obtain ⟨k, rfl, -⟩ := fuel hk
    simp only [impl_factorial.l0]
    rw [if_neg (by omega)]; rfl
  · have := implFact_l0 n hn (n - 1) k 1 (by omega) (by omega)
    exact this

/-! ### sfact -/
theorem specFact_l0 (n : Nat) (hn : n ≤ 12) : ∀ (d k i : Nat), i + d = n → d < k → spec_factorial.l0 k (n : Int) (factM i) ((i + 1 : Nat) : Int) = some (factM n) := by
  intro d
  induction d with
  | zero =>
    intro k i hi hk
    obtain ⟨k, rfl, -⟩ := fuel hk
    simp only [spec_factorial.l0]
    obtain rfl : i = n := by omega
    rw [if_neg (by omega)]
  | succ d ih =>
    intro k i hi hk
    obtain ⟨k, rfl, hk⟩ := fuel hk
    simp only [spec_factorial.l0]
    have h1 := factM_pos (i + 1)
    have h2 := factM_small (show i + 1 ≤ 12 by omega)
    rw [if_pos (by omega), ← factM_step, wrap_id (by omega) (by omega), wrap_succ (by omega)]
    exact ih k (i + 1) (by omega) (by omega)
theorem specFact_spec (k : Nat) (n : Nat) (hn : n ≤ 12) (hk : 20 < k) : spec_factorial.f k (n : Int) = some (factM n) := by
  unfold spec_factorial.f
  rcases Nat.eq_zero_or_pos n with h | h
  · subst h
    obtain ⟨k, rfl, -⟩ := fuel hk
    simp only [spec_factorial.l0]
    rw [if_neg (by omega)]; rfl
  · have := specFact_l0 n hn (n - 1) k 1 (by omega) (by omega)
    exact this

/-! ### orders -/
/-- The order with a number. -/
def ordM : Nat → Int → List Int → List Int
  | 0, _, _ => []
  | d + 1, n, left => rd left (n / factM d) :: ordM d (n % factM d) (left.take (n / factM d).toNat ++ left.drop ((n / factM d).toNat + 1))
theorem ord_at {d : Nat} {n : Int} (h0 : 0 ≤ n) (h1 : n < factM (d + 1)) : 0 ≤ n / factM d ∧ n / factM d < ((d + 1 : Nat) : Int) ∧ 0 ≤ n % factM d ∧ n % factM d < factM d := by
  have hp := factM_pos d
  refine ⟨Int.ediv_nonneg h0 (by omega), ?_, Int.emod_nonneg _ (by omega), Int.emod_lt_of_pos _ (by omega)⟩
  rw [factM_step] at h1
  exact Int.ediv_lt_of_lt_mul (by omega) (by rw [Int.mul_comm]; exact h1)
theorem cut_length {left : List Int} {i d : Nat} (h : left.length = d + 1) (hi : i < d + 1) : (left.take i ++ left.drop (i + 1)).length = d := by simp; omega
theorem cut_perm {left : List Int} {i : Nat} (hi : i < left.length) : (rd left (i : Int) :: (left.take i ++ left.drop (i + 1))).Perm left := by
  conv => rhs; rw [← List.take_append_drop i left, drop_rd hi]
  exact List.perm_middle.symm
theorem ordM_perm : ∀ (d : Nat) (n : Int) (left : List Int), left.length = d → 0 ≤ n → n < factM d → (ordM d n left).Perm left := by
  intro d
  induction d with
  | zero => intro n left hl _ _; rw [List.length_eq_zero_iff.1 hl]; exact List.Perm.refl _
  | succ d ih =>
    intro n left hl h0 h1
    obtain ⟨a, b, c, e⟩ := ord_at h0 h1
    obtain ⟨i, hi⟩ := Int.eq_ofNat_of_zero_le a
    simp only [ordM]
    rw [hi] at b ⊢
    rw [toNat_cast]
    have hlt : i < left.length := by omega
    exact (List.Perm.cons _ (ih _ _ (cut_length hl (by omega)) c e)).trans (cut_perm hlt)
def upTo (m : Nat) : List Int := (List.range m).map fun (j : Nat) => (j : Int)
theorem upTo_length (m : Nat) : (upTo m).length = m := by simp [upTo]
theorem upTo_succ (m : Nat) : upTo (m + 1) = upTo m ++ [(m : Int)] := by simp [upTo, List.range_succ]
theorem upTo_good (m : Nat) : GoodM (upTo m) (m : Int) := by
  refine ⟨?_, fun x hx => ?_⟩
  · unfold upTo
    rw [List.nodup_iff_pairwise_ne, List.pairwise_map]
    exact List.nodup_range.imp (fun h e => h (by omega))
  · obtain ⟨j, hj, rfl⟩ := List.mem_map.1 hx
    have := List.mem_range.1 hj
    omega
theorem ordM_good {m : Nat} {n : Int} (h0 : 0 ≤ n) (h1 : n < factM m) : GoodM (ordM m n (upTo m)) (m : Int) ∧ (ordM m n (upTo m)).length = m := by
  have hp := ordM_perm m n (upTo m) (upTo_length m) h0 h1
  have hg := upTo_good m
  exact ⟨⟨hp.symm.nodup hg.1, fun x hx => hg.2 x (hp.mem_iff.1 hx)⟩, by rw [hp.length_eq, upTo_length]⟩
theorem implOrd_l1 : ∀ (d k : Nat) (n : Int) (left acc : List Int), left.length = d → d ≤ 8 → acc.length + d ≤ 8 → 0 ≤ n → n < factM d → d + 30 < k → impl_OrderAt.l1 k n left acc = some (acc ++ ordM d n left) := by
  intro d
  induction d with
  | zero =>
    intro k n left acc hl hd ha h0 h1 hk
    obtain ⟨k, rfl, -⟩ := fuel (show 0 < k by omega)
    simp only [impl_OrderAt.l1]
    rw [if_neg (by omega)]; simp [ordM]
  | succ d ih =>
    intro k n left acc hl hd ha h0 h1 hk
    obtain ⟨k, rfl, hk⟩ := fuel (show d + 31 < k by omega)
    obtain ⟨a, b, c, e⟩ := ord_at h0 h1
    have hp := factM_pos d
    simp only [impl_OrderAt.l1, ordM]
    have hw : wrap64 ((left.length : Int) - 1) = (d : Int) := by rw [wrap_id (by omega) (by omega)]; omega
    rw [if_pos (by omega), hw, implFact_spec k d (by omega) (by omega), Option.bind_some, if_neg (by omega), Int.tdiv_eq_ediv_of_nonneg h0, Int.tmod_eq_emod_of_nonneg h0]
    obtain ⟨i, hi⟩ := Int.eq_ofNat_of_zero_le a
    rw [hi] at b ⊢
    rw [wrap_id (x := (i : Int)) (by omega) (by omega), wrap_succ (by omega), if_pos (by omega), if_pos (by omega), if_pos (by omega), toNat_cast]
    have hdel : slices_Delete_int_int.f left (i : Int) ((i + 1 : Nat) : Int) = some (left.take i ++ left.drop (i + 1)) := by
      unfold slices_Delete_int_int.f
      rw [if_pos ⟨by omega, by omega, by omega⟩, toNat_cast, toNat_cast]
    rw [hdel, Option.bind_some, ih k _ _ _ (cut_length hl (by omega)) (by omega) (by simp; omega) c e (by omega), List.append_assoc]
    rfl
theorem implOrd_l0 (m : Nat) (hm : m ≤ 8) (n : Int) (h0 : 0 ≤ n) (h1 : n < factM m) : ∀ (d k i : Nat), i + d = m → d + 50 < k → impl_OrderAt.l0 k n (upTo i) (m : Int) (i : Int) = some (ordM m n (upTo m)) := by
  intro d
  induction d with
  | zero =>
    intro k i hi hk
    obtain ⟨k, rfl, hk⟩ := fuel (show 50 < k by omega)
    obtain rfl : i = m := by omega
    simp only [impl_OrderAt.l0]
    rw [if_neg (by omega), implOrd_l1 i k n (upTo i) [] (upTo_length i) hm (by simpa using hm) h0 h1 (by omega), List.nil_append]
  | succ d ih =>
    intro k i hi hk
    obtain ⟨k, rfl, hk⟩ := fuel (show d + 51 < k by omega)
    simp only [impl_OrderAt.l0]
    rw [if_pos (by omega), if_pos (by rw [upTo_length]; omega), ← upTo_succ, wrap_succ (by omega)]
    exact ih k (i + 1) (by omega) (by omega)
theorem implOrd_spec (k m : Nat) (hm1 : 1 ≤ m) (hm : m ≤ 8) (n : Int) (h0 : 0 ≤ n) (h1 : n < factM m) (hk : 80 < k) : impl_OrderAt.f k n (m : Int) = some (ordM m n (upTo m)) := by
  unfold impl_OrderAt.f
  rw [if_neg (by omega), if_neg (by omega), if_neg (by omega), implFact_spec k m (by omega) (by omega), Option.bind_some]
  obtain ⟨k, rfl, hk⟩ := fuel hk
  simp only [impl_OrderAt.j0]
  rw [decide_eq_false (by omega), if_neg (by decide)]
  exact implOrd_l0 m hm n h0 h1 m k 0 (by omega) (by omega)
theorem specOrd_l1 : ∀ (d k : Nat) (n : Int) (left acc : List Int), left.length = d → d ≤ 8 → acc.length + d ≤ 8 → 0 ≤ n → n < factM d → d + 30 < k → spec_orderAt.l1 k n left acc (d : Int) = some (acc ++ ordM d n left) := by
  intro d
  induction d with
  | zero =>
    intro k n left acc hl hd ha h0 h1 hk
    obtain ⟨k, rfl, -⟩ := fuel (show 0 < k by omega)
    simp only [spec_orderAt.l1]
    rw [if_neg (by omega)]; simp [ordM]
  | succ d ih =>
    intro k n left acc hl hd ha h0 h1 hk
    obtain ⟨k, rfl, hk⟩ := fuel (show d + 31 < k by omega)
    obtain ⟨a, b, c, e⟩ := ord_at h0 h1
    have hp := factM_pos d
    simp only [spec_orderAt.l1, ordM]
    have hw : wrap64 (((d + 1 : Nat) : Int) - 1) = (d : Int) := by rw [wrap_id (by omega) (by omega)]; omega
    rw [if_pos (by omega), hw, specFact_spec k d (by omega) (by omega), Option.bind_some, if_neg (by omega), Option.bind_some, if_neg (by omega), Int.tdiv_eq_ediv_of_nonneg h0, Int.tmod_eq_emod_of_nonneg h0]
    obtain ⟨i, hi⟩ := Int.eq_ofNat_of_zero_le a
    rw [hi] at b ⊢
    rw [wrap_id (x := (i : Int)) (by omega) (by omega), wrap_succ (by omega), if_pos (by omega), if_pos (by omega), if_pos (by omega), if_pos (by omega), if_pos (by omega), toNat_cast, toNat_cast, copyInts_spec _ (by simp; omega), Option.bind_some, if_pos (by omega), Option.bind_some, if_pos (by simp; omega), ih k _ _ _ (cut_length hl (by omega)) (by omega) (by simp; omega) c e (by omega), List.append_assoc]
    rfl
theorem specOrd_l0 (m : Nat) (hm : m ≤ 8) (n : Int) (h0 : 0 ≤ n) (h1 : n < factM m) : ∀ (d k i : Nat), i + d = m → d + 50 < k → spec_orderAt.l0 k n (m : Int) (upTo i) (i : Int) = some (ordM m n (upTo m)) := by
  intro d
  induction d with
  | zero =>
    intro k i hi hk
    obtain ⟨k, rfl, hk⟩ := fuel (show 50 < k by omega)
    obtain rfl : i = m := by omega
    simp only [spec_orderAt.l0]
    rw [if_neg (by omega), specOrd_l1 i k n (upTo i) [] (upTo_length i) hm (by simpa using hm) h0 h1 (by omega), List.nil_append]
  | succ d ih =>
    intro k i hi hk
    obtain ⟨k, rfl, hk⟩ := fuel (show d + 51 < k by omega)
    simp only [spec_orderAt.l0]
    rw [if_pos (by omega), if_pos (by rw [upTo_length]; omega), ← upTo_succ, wrap_succ (by omega)]
    exact ih k (i + 1) (by omega) (by omega)
theorem specOrd_spec (k m : Nat) (hm : m ≤ 8) (n : Int) (h0 : 0 ≤ n) (h1 : n < factM m) (hk : 80 < k) : spec_orderAt.f k n (m : Int) = some (ordM m n (upTo m)) := by
  unfold spec_orderAt.f
  exact specOrd_l0 m hm n h0 h1 m k 0 (by omega) (by omega)

/-! ### isin -/
theorem isIn_l0 (xs : List Int) (x : Int) (hb : xs.length < 4611686018427387904) : ∀ (d k i : Nat), i + d = xs.length → d < k → laws_isIn.l0 k xs x (i : Int) = some (decide (x ∈ xs.drop i)) := by
  intro d
  induction d with
  | zero =>
    intro k i hi hk
    obtain ⟨k, rfl, -⟩ := fuel hk
    simp only [laws_isIn.l0]
    rw [if_neg (by omega), drop_end (by omega)]
    simp
  | succ d ih =>
    intro k i hi hk
    obtain ⟨k, rfl, hk⟩ := fuel hk
    simp only [laws_isIn.l0]
    rw [if_pos (by omega), if_pos (by omega), drop_rd (by omega), wrap_succ (by omega), ih k (i + 1) (by omega) (by omega)]
    by_cases e : rd xs (i : Int) = x
    · rw [if_pos e, e]; simp
    · rw [if_neg e]
      have e' : ¬ x = rd xs (i : Int) := fun h => e h.symm
      simp [e']
theorem isIn_spec (k : Nat) (xs : List Int) (x : Int) (hb : xs.length < 4611686018427387904) (hk : xs.length < k) : laws_isIn.f k xs x = some (decide (x ∈ xs)) := by
  unfold laws_isIn.f
  have := isIn_l0 xs x hb xs.length k 0 (by omega) hk
  simpa using this

/-! ### common -/
theorem equalInts_l0 (a b : List Int) (hl : a.length = b.length) (hb : a.length < 4611686018427387904) : ∀ (d k i : Nat), i + d = a.length → d < k → laws_equalInts.l0 k a b (i : Int) = some (decide (a.drop i = b.drop i)) := by
  intro d
  induction d with
  | zero =>
    intro k i hi hk
    obtain ⟨k, rfl, -⟩ := fuel hk
    simp only [laws_equalInts.l0]
    rw [if_neg (by omega), drop_end (by omega), drop_end (by omega)]
    simp
  | succ d ih =>
    intro k i hi hk
    obtain ⟨k, rfl, hk⟩ := fuel hk
    simp only [laws_equalInts.l0]
    rw [if_pos (by omega), if_pos (by omega), if_pos (by omega), wrap_succ (by omega), drop_rd (xs := a) (i := i) (by omega), drop_rd (xs := b) (i := i) (by omega)]
    by_cases e : rd a (i : Int) = rd b (i : Int)
    · rw [if_pos e, ih k (i + 1) (by omega) (by omega), e]; simp
    · rw [if_neg e]; simp [e]
theorem equalInts_spec (k : Nat) (a b : List Int) (hb : a.length < 4611686018427387904) (hk : a.length < k) : laws_equalInts.f k a b = some (decide (a = b)) := by
  unfold laws_equalInts.f
  by_cases h : a.length = b.length
  · rw [if_pos (by omega)]
    have := equalInts_l0 a b h hb a.length k 0 (by omega) hk
    simpa using this
  · rw [if_neg (by omega)]
    have : a ≠ b := fun e => h (by rw [e])
    simp [this]

/-! ### different -/
theorem flags_set {fl : List Bool} {n : Int} {seen : List Int} {x : Int} (hl : (fl.length : Int) = n) (h : ∀ j : Int, 0 ≤ j → j < n → rdOf false fl j = decide (j ∈ seen)) (h0 : 0 ≤ x) (h1 : x < n) :
    ∀ j : Int, 0 ≤ j → j < n → rdOf false (fl.set x.toNat true) j = decide (j ∈ seen ++ [x]) := by
  intro j hj0 hj
  have := h j hj0 hj
  simp only [rdOf, List.getD_eq_getElem?_getD, List.getElem?_set] at this ⊢
  by_cases e : x = j
  · subst e
    rw [if_pos rfl, if_pos (by omega)]
    simp
  · rw [if_neg (by omega), this]
    have : ¬ j = x := fun h => e h.symm
    simp [this]
theorem different_l0 (xs : List Int) (n : Int) (hb : xs.length < 4611686018427387904) : ∀ (d k i : Nat) (fl : List Bool), (fl.length : Int) = n → (∀ j : Int, 0 ≤ j → j < n → rdOf false fl j = decide (j ∈ xs.take i)) → i + d = xs.length → d < k → impl_differentBelow.l0 k n fl xs (xs.length : Int) (i : Int) = some (memB n (xs.take i) (xs.drop i)) := by
  intro d
  induction d with
  | zero =>
    intro k i fl hl hf hi hk
    obtain ⟨k, rfl, -⟩ := fuel hk
    simp only [impl_differentBelow.l0]
    rw [if_neg (by omega), drop_end (by omega)]
    simp [memB]
  | succ d ih =>
    intro k i fl hl hf hi hk
    obtain ⟨k, rfl, hk⟩ := fuel hk
    simp only [impl_differentBelow.l0]
    rw [if_pos (by omega), if_pos (by omega), if_pos (by omega), wrap_succ (by omega), drop_rd (by omega)]
    simp only [memB]
    by_cases h1 : rd xs (i : Int) < 0
    · rw [if_pos h1, decide_eq_false (by omega)]; rfl
    · rw [if_neg h1]
      by_cases h2 : rd xs (i : Int) ≥ n
      · rw [if_pos h2, decide_eq_false (by omega)]; rfl
      · rw [if_neg h2, if_pos (by omega), if_pos (by omega), hf _ (by omega) (by omega), decide_eq_true (show 0 ≤ rd xs (i : Int) ∧ rd xs (i : Int) < n by omega)]
        by_cases h3 : rd xs (i : Int) ∈ xs.take i
        · rw [decide_eq_true h3, if_pos rfl]; rfl
        · rw [decide_eq_false h3, if_neg (by decide), ih k (i + 1) _ (by simpa using hl) (by rw [take_rd (by omega)]; exact flags_set hl hf (by omega) (by omega)) (by omega) (by omega), take_rd (by omega)]; rfl
theorem different_spec (k : Nat) (xs : List Int) (n : Int) (hn : 0 ≤ n) (hn2 : n ≤ 281474976710656) (hb : xs.length < 4611686018427387904) (hk : xs.length < k) : impl_differentBelow.f k xs n = some (decide (GoodM xs n)) := by
  unfold impl_differentBelow.f
  by_cases h : (xs.length : Int) > n
  · rw [if_pos h, decide_eq_false]
    intro hg
    obtain ⟨m, rfl⟩ := Int.eq_ofNat_of_zero_le hn
    have := hg.le
    omega
  · rw [if_neg h, if_pos hn, if_pos (by omega)]
    have := different_l0 xs n hb xs.length k 0 (List.replicate n.toNat false) (by simp; omega) (fun j h0 h1 => by simp [rdOf, List.getD_eq_getElem?_getD, List.getElem?_replicate]; split <;> rfl) (by omega) hk
    rw [← memB_good]
    simpa using this

/-! ### the law -/
def drawM (ls : List S45) (m : Int) : List Int := if OkRevs ls ∧ 1 ≤ m ∧ m ≤ 8 then ordM m.toNat (honM ls % factM m.toNat) (upTo m.toNat) else []
theorem drawM_neg {ls : List S45} {m : Int} (h : ¬ (OkRevs ls ∧ 1 ≤ m ∧ m ≤ 8)) : drawM ls m = [] := if_neg h
theorem drawM_pos {ls : List S45} {m : Int} (h : OkRevs ls ∧ 1 ≤ m ∧ m ≤ 8) : drawM ls m = ordM m.toNat (honM ls % factM m.toNat) (upTo m.toNat) := if_pos h
theorem implDraw_spec (k : Nat) (ls : List S45) (m : Int) (hl : ls.length ≤ 1048576) (hk : 1048600 < k) : impl_DrawOrder.f k ls m = some (drawM ls m) := by
  unfold impl_DrawOrder.f
  rw [implRevs_spec k ls hl (by omega), Option.bind_some]
  obtain ⟨k, rfl, hk⟩ := fuel hk
  simp only [impl_DrawOrder.j0, if_true]
  by_cases h : OkRevs ls
  · rw [decide_eq_true h, if_pos rfl]
    by_cases h1 : m < 1
    · rw [if_pos h1, drawM_neg (by omega)]
    rw [if_neg h1]
    by_cases h2 : m > 8
    · rw [decide_eq_true h2, if_pos rfl, drawM_neg (by omega)]
    obtain ⟨m, rfl⟩ := Int.eq_ofNat_of_zero_le (show 0 ≤ m by omega)
    have hr := honM_range ls h.2
    have hp := factM_pos m
    rw [decide_eq_false h2, if_neg (by decide), implHonSum_spec k ls h (by omega), Option.bind_some, implFact_spec k m (by omega) (by omega), Option.bind_some, if_neg (by omega), Int.tmod_eq_emod_of_nonneg hr.1, implOrd_spec k m (by omega) (by omega) _ (Int.emod_nonneg _ (by omega)) (Int.emod_lt_of_pos _ (by omega)) (by omega), Option.bind_some, drawM_pos ⟨h, by omega, by omega⟩, toNat_cast]
  · rw [decide_eq_false h, if_neg (by decide), drawM_neg (fun h' => h h'.1)]
theorem specDraw_spec (k : Nat) (ls : List S45) (m : Int) (hl : ls.length ≤ 1048576) (hk : 1048600 < k) : spec_DrawOrder.f k ls m = some (drawM ls m) := by
  unfold spec_DrawOrder.f
  rw [specRevs_spec k ls hl (by omega), Option.bind_some]
  obtain ⟨k, rfl, hk⟩ := fuel hk
  simp only [spec_DrawOrder.j0, if_true]
  by_cases h : OkRevs ls
  · rw [decide_eq_true h, if_pos rfl, inRange_spec, Option.bind_some]
    by_cases h1 : 1 ≤ m ∧ m ≤ 8
    · obtain ⟨m, rfl⟩ := Int.eq_ofNat_of_zero_le (show 0 ≤ m by omega)
      have hr := honM_range ls h.2
      have hp := factM_pos m
      obtain ⟨c, hc⟩ := specDrawOf_spec k ls h (by omega)
      rw [decide_eq_true h1, Bool.not_true, if_neg (by decide), hc, Option.bind_some, specFact_spec k m (by omega) (by omega), Option.bind_some, if_neg (by omega), Int.tmod_eq_emod_of_nonneg hr.1, specOrd_spec k m (by omega) _ (Int.emod_nonneg _ (by omega)) (Int.emod_lt_of_pos _ (by omega)) (by omega), Option.bind_some, drawM_pos ⟨h, h1⟩, toNat_cast]
    · rw [decide_eq_false h1, Bool.not_false, if_pos rfl, drawM_neg (fun h' => h1 h'.2)]
  · rw [decide_eq_false h, if_neg (by decide), drawM_neg (fun h' => h h'.1)]
theorem validOrder_good (k : Nat) (xs : List Int) (h0 : 1 ≤ xs.length) (h1 : xs.length ≤ 12) (hg : GoodM xs (xs.length : Int)) (hk : 100 < k) : impl_ValidOrder.f k xs = some true := by
  unfold impl_ValidOrder.f
  rw [if_pos (by omega), if_pos (by omega), different_spec k xs _ (by omega) (by omega) (by omega) (by omega), decide_eq_true hg]
  rfl
theorem rank_six (k : Nat) (n : Int) (h0 : 0 ≤ n) (h1 : n < 6) (hk : 200 < k) : impl_RankOrder.f k (ordM 3 n (upTo 3)) = some n := by
  obtain ⟨hg, hl⟩ := ordM_good (m := 3) (n := n) h0 (by show n < 6; exact h1)
  have hv := validOrder_good k (ordM 3 n (upTo 3)) (by omega) (by omega) (by rw [hl]; exact hg) (by omega)
  have f0 : ∀ k, 20 < k → impl_factorial.f k 0 = some 1 := fun k hk => implFact_spec k 0 (by omega) hk
  have f1 : ∀ k, 20 < k → impl_factorial.f k 1 = some 1 := fun k hk => implFact_spec k 1 (by omega) hk
  have f2 : ∀ k, 20 < k → impl_factorial.f k 2 = some 2 := fun k hk => implFact_spec k 2 (by omega) hk
  unfold impl_RankOrder.f
  rw [if_neg (by omega), hv, Option.bind_some]
  obtain ⟨k, rfl⟩ : ∃ q, k = q + 60 := ⟨k - 60, by omega⟩
  have cases6 : n = 0 ∨ n = 1 ∨ n = 2 ∨ n = 3 ∨ n = 4 ∨ n = 5 := by omega
  clear hv hg hl
  rcases cases6 with rfl | rfl | rfl | rfl | rfl | rfl <;> (refine Eq.trans (b := impl_RankOrder.j0 (k + 60) (ordM 3 _ (upTo 3)) (!true)) rfl ?_; kernel_rfl)
theorem drawOrd_spec (k : Nat) (hk : 200 < k) (l : List Int) (hl : ∀ x ∈ l, 0 ≤ x ∧ x ≤ 255) : ∃ ls m, spec_DrawDrawOrder.f k l = some (ls, m) ∧ ls.length ≤ 6 := by
  obtain ⟨b, h1, h2, h3⟩ := newReader_spec l hl
  obtain ⟨r, h4, h5, h6, h7⟩ := someReveals_spec b h2 h3 k (by omega)
  obtain ⟨v, h9, -⟩ := one_spec k (by omega) b h2 h3 r.2 (by omega) (by omega) [4, 3, 5, 1, 8, 0, 9] (by simp) (by simp)
  unfold spec_DrawDrawOrder.f
  rw [h1, Option.bind_some]
  dsimp only
  rw [h4, Option.bind_some, h9]
  exact ⟨_, _, rfl, h5⟩
theorem drawLaw_l0 (ls : List S45) (m : Int) (hls : OkRevs ls) (hl11 : ls.length ≤ 11) (out : List Int) (hm : ((out.length : Int) = m)) (ho : 1 ≤ out.length ∧ out.length ≤ 12) (hg : GoodM out (out.length : Int)) :
    ∀ (d k i : Nat), i + d = 6 → 1048800 + d < k → laws_FnDrawOrder.l0 k ls m out ((List.range i).map fun (j : Nat) => (honM ls + (j : Int)) % 6) (i : Int) = some true := by
  intro d
  induction d with
  | zero =>
    intro k i hi hk
    obtain ⟨k, rfl, hk⟩ := fuel (show 1048800 < k by omega)
    simp only [laws_FnDrawOrder.l0]
    rw [if_neg (by omega), validOrder_good k out ho.1 ho.2 hg (by omega), Option.bind_some, if_pos rfl]
    simp [hm]
  | succ d ih =>
    intro k i hi hk
    obtain ⟨k, rfl, hk⟩ := fuel (show 1048801 + d < k by omega)
    have hr := honM_range ls hls.2
    have hc : impl_CommitTo.f (i : Int) 5 = some (commitM (i : Int) 5) := implCommit_ok (by omega)
    have hok : OkRevs (ls ++ [(⟨commitM (i : Int) 5, (i : Int), 5⟩ : S45)]) := by
      refine ⟨by simp; omega, fun x hx => ?_⟩
      rcases List.mem_append.1 hx with hx | hx
      · exact hls.2 x hx
      · rw [List.mem_singleton.1 hx]
        exact ⟨by show 0 ≤ (i : Int); omega, by show (i : Int) ≤ 50000; omega, by show (0 : Int) ≤ 5; omega, by show (5 : Int) ≤ 9999; omega⟩
    have hh : honM (ls ++ [(⟨commitM (i : Int) 5, (i : Int), 5⟩ : S45)]) = honM ls + (i : Int) := by
      rw [honM_append, honM_cons]
      simp [honM]
    have hn0 : 0 ≤ (honM ls + (i : Int)) % 6 := Int.emod_nonneg _ (by omega)
    have hn1 : (honM ls + (i : Int)) % 6 < 6 := Int.emod_lt_of_pos _ (by omega)
    have hd : drawM (ls ++ [(⟨commitM (i : Int) 5, (i : Int), 5⟩ : S45)]) 3 = ordM 3 ((honM ls + (i : Int)) % 6) (upTo 3) := by
      rw [drawM_pos ⟨hok, by omega, by omega⟩, hh]
      rfl
    have hnot : (honM ls + (i : Int)) % 6 ∉ ((List.range i).map fun (j : Nat) => (honM ls + (j : Int)) % 6) := by
      intro hmem
      obtain ⟨j, hj, e⟩ := List.mem_map.1 hmem
      have := List.mem_range.1 hj
      omega
    simp only [laws_FnDrawOrder.l0]
    rw [if_pos (by omega), hc, Option.bind_some, Option.bind_some, if_pos (by simp; omega), Option.bind_some, Option.bind_some, List.nil_append, if_pos (by simp; omega), implDraw_spec k _ 3 (by simp; omega) (by omega), Option.bind_some, hd, rank_six k _ hn0 hn1 (by omega), Option.bind_some, if_neg (by omega), if_neg (by omega), isIn_spec k _ _ (by simp; omega) (by simp; omega), Option.bind_some, decide_eq_false hnot, if_neg (by decide), Option.bind_some, if_pos (by simp; omega), wrap_succ (by omega)]
    have e : ((List.range i).map fun (j : Nat) => (honM ls + (j : Int)) % 6) ++ [(honM ls + (i : Int)) % 6] = ((List.range (i + 1)).map fun (j : Nat) => (honM ls + (j : Int)) % 6) := by
      rw [List.range_succ, List.map_append]; rfl
    rw [e]
    exact ih k (i + 1) (by omega) (by omega)
theorem FnDrawOrder : laws_FnDrawOrder.Pure := by
  intro l0 m0 _ hw
  refine ⟨4000000, ?_⟩
  unfold laws_FnDrawOrder.f
  by_cases h0 : (l0.length : Int) > 1048576
  · rw [if_pos h0]
  rw [if_neg h0]
  obtain ⟨ls, m, hd, hs⟩ := drawOrd_spec 4000000 (by omega) l0 (reader_bytes hw)
  have hlen : (drawM ls m).length ≤ 8 := by
    by_cases h : OkRevs ls ∧ 1 ≤ m ∧ m ≤ 8
    · obtain ⟨n, rfl⟩ := Int.eq_ofNat_of_zero_le (show 0 ≤ m by omega)
      have hp := factM_pos n
      rw [drawM_pos h, toNat_cast, (ordM_good (Int.emod_nonneg _ (by omega)) (Int.emod_lt_of_pos _ (by omega))).2]
      omega
    · rw [drawM_neg h]; simp
  rw [hd, Option.bind_some]
  dsimp only
  rw [implDraw_spec 4000000 ls m (by omega) (by omega), Option.bind_some, specDraw_spec 4000000 ls m (by omega) (by omega), Option.bind_some, equalInts_spec 4000000 _ _ (by omega) (by omega), Option.bind_some, decide_eq_true rfl, if_pos rfl]
  have bad : ∀ k, 1048700 < k → laws_FnDrawOrder.j0 k ls m (drawM ls m) true = some true := by
    intro k hk
    obtain ⟨k, rfl, hk⟩ := fuel hk
    simp only [laws_FnDrawOrder.j0, if_true]
    rw [specDraw_spec _ ls m (by omega) (by omega), Option.bind_some, equalInts_spec _ _ _ (by omega) (by omega), Option.bind_some, decide_eq_true rfl]
  by_cases hz : ((drawM ls m).length : Int) = 0
  · rw [if_pos hz]
    exact bad 4000000 (by omega)
  rw [if_neg hz]
  have h : OkRevs ls ∧ 1 ≤ m ∧ m ≤ 8 := by
    refine Classical.byContradiction fun hn => hz ?_
    rw [drawM_neg hn]; rfl
  obtain ⟨n, rfl⟩ := Int.eq_ofNat_of_zero_le (show 0 ≤ m by omega)
  have hp := factM_pos n
  have hg := ordM_good (m := n) (n := honM ls % factM n) (Int.emod_nonneg _ (by omega)) (Int.emod_lt_of_pos _ (by omega))
  rw [show (((ls.length : Int)) == 12) = false by simp; omega]
  rw [show (4000000 : Nat) = 3999999 + 1 from rfl]
  simp only [laws_FnDrawOrder.j0]
  rw [if_neg (by decide), drawM_pos h, toNat_cast]
  refine drawLaw_l0 ls (n : Int) h.1 (by omega) _ ?_ ?_ ?_ 6 3999999 0 (by omega) (by omega)
  · rw [hg.2]
  · rw [hg.2]; omega
  · rw [hg.2]; exact hg.1

end Go.Proofs.Yteknmkikpcdjbaa.Pure
