/- The law FnExactByWish holds: the program's function answers as the reference does at every drawn input, and has the law's property; no condition. -/
import Derived.Test.YteemdklfjocidaaPFnExactByWishx5
set_option linter.unusedVariables false
set_option linter.unusedSimpArgs false
namespace Go.Proofs.Yteemdklfjocidaa.Pure
open Go.RowKit Go.Proofs.Yteemdklfjocidaa.PFnExactByWish Go.Proofs.YteemdklfjocidaaW.PrintWords Go.Proofs.YteemdklfjocidaaW.PrintLast Go.Proofs.YteemdklfjocidaaW.PrintMore

/-! ### base -/
theorem fuel {k n : Nat} (h : n < k) : ∃ m, k = m + 1 ∧ n ≤ m := ⟨k - 1, by omega, by omega⟩
theorem wrap_id {x : Int} (h1 : -9223372036854775808 ≤ x) (h2 : x ≤ 9223372036854775807) : wrap64 x = x := by unfold wrap64; omega
theorem wrap_succ {i : Nat} (h : i < 4611686018427387904) : wrap64 ((i : Int) + 1) = ((i + 1 : Nat) : Int) := by unfold wrap64; omega
theorem wrap_succ' {i : Int} (h0 : 0 ≤ i) (h : i < 4611686018427387904) : wrap64 (i + 1) = i + 1 := by unfold wrap64; omega
theorem wrap_wrap (x : Int) : wrap64 (wrap64 x) = wrap64 x := by unfold wrap64; omega
theorem wrap_add_l (x y : Int) : wrap64 (wrap64 x + y) = wrap64 (x + y) := by unfold wrap64; omega
theorem wrap_add_r (x y : Int) : wrap64 (x + wrap64 y) = wrap64 (x + y) := by unfold wrap64; omega
theorem wrap_sub_l (x y : Int) : wrap64 (wrap64 x - y) = wrap64 (x - y) := by unfold wrap64; omega
theorem rd_get {xs : List Int} {i : Nat} (h : i < xs.length) : rd xs (i : Int) = xs[i] := by
  simp [rd, List.getD_eq_getElem?_getD, List.getElem?_eq_getElem h]
theorem drop_rd {xs : List Int} {i : Nat} (h : i < xs.length) : xs.drop i = rd xs (i : Int) :: xs.drop (i + 1) := by
  rw [rd_get h, List.drop_eq_getElem_cons h]
theorem drop_end {α : Type} {xs : List α} {i : Nat} (h : xs.length ≤ i) : xs.drop i = [] := List.drop_eq_nil_of_le h
theorem take_rd {xs : List Int} {i : Nat} (h : i < xs.length) : xs.take (i + 1) = xs.take i ++ [rd xs (i : Int)] := by
  rw [rd_get h, List.take_succ_eq_append_getElem h]
theorem rd_mem {xs : List Int} {i : Nat} (h : i < xs.length) : rd xs (i : Int) ∈ xs := by
  rw [rd_get h]; exact List.getElem_mem h
theorem rd_mem' {xs : List Int} {i : Int} (h0 : 0 ≤ i) (h : i < (xs.length : Int)) : rd xs i ∈ xs := by
  obtain ⟨j, rfl⟩ := Int.eq_ofNat_of_zero_le h0
  exact rd_mem (by omega)
theorem mem_rd {xs : List Int} {x : Int} (h : x ∈ xs) : ∃ i : Nat, i < xs.length ∧ rd xs (i : Int) = x := by
  obtain ⟨i, hi, he⟩ := List.getElem_of_mem h
  exact ⟨i, hi, by rw [rd_get hi, he]⟩
theorem ext_rd {xs ys : List Int} (hl : xs.length = ys.length) (h : ∀ i : Nat, i < xs.length → rd xs (i : Int) = rd ys (i : Int)) : xs = ys := by
  apply List.ext_getElem hl
  intro i h1 h2
  have := h i h1
  rwa [rd_get h1, rd_get h2] at this
theorem rd_set {xs : List Int} {i j : Nat} {v : Int} (hj : j < xs.length) : rd (xs.set i v) (j : Int) = if i = j then v else rd xs (j : Int) := by
  rw [rd_get (by simpa using hj), rd_get hj, List.getElem_set]
theorem rd_set_ne {xs : List Int} {i j : Nat} {v : Int} (h : i ≠ j) : rd (xs.set i v) (j : Int) = rd xs (j : Int) := by
  simp only [rd, List.getD_eq_getElem?_getD, Int.toNat_natCast, List.getElem?_set_ne h]
theorem rd_append_l {xs ys : List Int} {i : Nat} (h : i < xs.length) : rd (xs ++ ys) (i : Int) = rd xs (i : Int) := by
  rw [rd_get (by simp; omega), rd_get h, List.getElem_append_left h]
theorem rd_append_r {xs ys : List Int} {i : Nat} (h : xs.length ≤ i) (h2 : i < xs.length + ys.length) : rd (xs ++ ys) (i : Int) = rd ys ((i - xs.length : Nat) : Int) := by
  rw [rd_get (by simp; omega), rd_get (by omega), List.getElem_append_right h]
theorem rd_replicate {n i : Nat} {v : Int} (h : i < n) : rd (List.replicate n v) (i : Int) = v := by
  rw [rd_get (by simpa using h)]; simp
theorem rd_mapRange {n i : Nat} {f : Nat → Int} (h : i < n) : rd ((List.range n).map f) (i : Int) = f i := by
  rw [rd_get (by simpa using h)]; simp
theorem toNat_cast (i : Nat) : ((i : Int) : Int).toNat = i := by simp
theorem mx_max (a b : Int) : mx a b = max a b := by unfold mx; omega
theorem mn_min (a b : Int) : mn a b = min a b := by unfold mn; omega
theorem bits_xor {a b : Int} (ha : 0 ≤ a) (ha2 : a < 4611686018427387904) (hb : 0 ≤ b) (hb2 : b < 4611686018427387904) : 0 ≤ Go.bits .xor .i64 a b ∧ Go.bits .xor .i64 a b < 4611686018427387904 := by
  obtain ⟨a, rfl⟩ := Int.eq_ofNat_of_zero_le ha
  obtain ⟨b, rfl⟩ := Int.eq_ofNat_of_zero_le hb
  have h1 : a < 2 ^ 62 := by omega
  have h2 : b < 2 ^ 62 := by omega
  have h3 := Nat.xor_lt_two_pow h1 h2
  have e : Go.bits .xor .i64 (a : Int) (b : Int) = IntKind.i64.wrap (((BitVec.ofInt 64 (a : Int)) ^^^ (BitVec.ofInt 64 (b : Int))).toNat : Int) := rfl
  have ha' : (BitVec.ofInt 64 (a : Int)).toNat = a := by rw [BitVec.ofInt_natCast, BitVec.toNat_ofNat]; exact Nat.mod_eq_of_lt (by omega)
  have hb' : (BitVec.ofInt 64 (b : Int)).toNat = b := by rw [BitVec.ofInt_natCast, BitVec.toNat_ofNat]; exact Nat.mod_eq_of_lt (by omega)
  rw [e, BitVec.toNat_xor, ha', hb', IntKind.wrap_i64]
  omega
theorem cast0 : ((0 : Nat) : Int) = 0 := rfl
theorem w01 : wrap64 (0 + 1) = 1 := by unfold wrap64; omega
theorem w12 : wrap64 (1 + 1) = 2 := by unfold wrap64; omega
theorem w23 : wrap64 (2 + 1) = 3 := by unfold wrap64; omega
theorem w34 : wrap64 (3 + 1) = 4 := by unfold wrap64; omega
theorem w45 : wrap64 (4 + 1) = 5 := by unfold wrap64; omega

/-! ### wish -/
/-- A good does not come behind another one. -/
def Bef (a b : List Int) (g h : Int) : Prop := rd a h * rd b g ≤ rd a g * rd b h
theorem Bef.trans {a b : List Int} (ha : ∀ x, 0 ≤ rd a x) (hb : ∀ x, 0 ≤ rd b x) {g h i : Int} (hw : 0 < rd a h + rd b h) (h1 : Bef a b g h) (h2 : Bef a b h i) : Bef a b g i := by
  unfold Bef at *
  have ag := ha g; have ah := ha h; have ai := ha i; have bg := hb g; have bh := hb h; have bi := hb i
  generalize rd a g = Ag at *; generalize rd a h = Ah at *; generalize rd a i = Ai at *
  generalize rd b g = Bg at *; generalize rd b h = Bh at *; generalize rd b i = Bi at *
  by_cases hB : 0 < Bh
  · have e1 := Int.mul_le_mul_of_nonneg_right h1 bi
    have e2 := Int.mul_le_mul_of_nonneg_right h2 bg
    refine Int.le_of_mul_le_mul_right ?_ hB
    have q1 : Ai * Bg * Bh = Ai * Bh * Bg := by rw [Int.mul_assoc, Int.mul_comm Bg, ← Int.mul_assoc]
    have q2 : Ah * Bi * Bg = Ah * Bg * Bi := by rw [Int.mul_assoc, Int.mul_comm Bi, ← Int.mul_assoc]
    have q3 : Ag * Bh * Bi = Ag * Bi * Bh := by rw [Int.mul_assoc, Int.mul_comm Bh, ← Int.mul_assoc]
    omega
  · obtain rfl : Bh = 0 := by omega
    rw [Int.mul_zero] at h1
    have hA : 0 < Ah := by omega
    have hg : Bg = 0 := by
      rcases Int.lt_or_le 0 Bg with h3 | h3
      · have := Int.mul_pos hA h3; omega
      · omega
    subst hg
    rw [Int.mul_zero]
    exact Int.mul_nonneg ag bi
/-- Where a good is put in: behind the last one that is not less wished. -/
def plW (a b : List Int) (i : Int) (xs : List Int) : Nat → Nat
  | 0 => 0
  | p + 1 => if rd a (rd xs (p : Int)) * rd b i < rd a i * rd b (rd xs (p : Int)) then plW a b i xs p else p + 1
theorem plW_le (a b : List Int) (i : Int) (xs : List Int) : ∀ p, plW a b i xs p ≤ p := by
  intro p
  induction p with
  | zero => exact Nat.le_refl _
  | succ p ih => simp only [plW]; split <;> omega
theorem plW_behind (a b : List Int) (i : Int) (xs : List Int) : ∀ p j : Nat, plW a b i xs p ≤ j → j < p → rd a (rd xs (j : Int)) * rd b i < rd a i * rd b (rd xs (j : Int)) := by
  intro p
  induction p with
  | zero => intro j _ h; omega
  | succ p ih =>
    intro j h1 h2
    simp only [plW] at h1
    by_cases h : rd a (rd xs (p : Int)) * rd b i < rd a i * rd b (rd xs (p : Int))
    · rw [if_pos h] at h1
      rcases Nat.lt_or_ge j p with h3 | h3
      · exact ih j h1 h3
      · obtain rfl : j = p := by omega
        exact h
    · rw [if_neg h] at h1; omega
theorem plW_ahead (a b : List Int) (i : Int) (xs : List Int) : ∀ p, 0 < plW a b i xs p → ¬ rd a (rd xs ((plW a b i xs p - 1 : Nat) : Int)) * rd b i < rd a i * rd b (rd xs ((plW a b i xs p - 1 : Nat) : Int)) := by
  intro p
  induction p with
  | zero => intro h; simp [plW] at h
  | succ p ih =>
    intro h
    simp only [plW] at h ⊢
    by_cases h1 : rd a (rd xs (p : Int)) * rd b i < rd a i * rd b (rd xs (p : Int))
    · rw [if_pos h1] at h ⊢; exact ih h
    · rw [if_neg h1, Nat.add_sub_cancel]; exact h1
/-- A good is put in. -/
def putW (a b : List Int) (xs : List Int) (i : Int) : List Int := xs.take (plW a b i xs xs.length) ++ [i] ++ xs.drop (plW a b i xs xs.length)
/-- The goods by wishes, the first ones of them. -/
def ordW (a b : List Int) : Nat → List Int
  | 0 => []
  | n + 1 => putW a b (ordW a b n) (n : Int)
theorem putW_length (a b xs : List Int) (i : Int) : (putW a b xs i).length = xs.length + 1 := by
  have := plW_le a b i xs xs.length
  simp [putW]; omega
theorem putW_perm (a b xs : List Int) (i : Int) : (putW a b xs i).Perm (i :: xs) := by
  unfold putW
  have h : (xs.take (plW a b i xs xs.length) ++ [i] ++ xs.drop (plW a b i xs xs.length)).Perm ([i] ++ (xs.take (plW a b i xs xs.length) ++ xs.drop (plW a b i xs xs.length))) := by
    rw [← List.append_assoc]
    exact List.Perm.append_right _ List.perm_append_comm
  rw [List.take_append_drop] at h
  exact h
theorem ordW_length (a b : List Int) (n : Nat) : (ordW a b n).length = n := by
  induction n with
  | zero => rfl
  | succ n ih => simp only [ordW]; rw [putW_length, ih]
theorem ordW_perm (a b : List Int) (n : Nat) : (ordW a b n).Perm ((List.range n).map fun j : Nat => (j : Int)) := by
  induction n with
  | zero => exact List.Perm.refl _
  | succ n ih =>
    rw [List.range_succ, List.map_append]
    refine (putW_perm a b _ _).trans ?_
    refine (ih.cons _).trans ?_
    exact (List.perm_append_comm (l₁ := [(n : Int)])).symm.symm
theorem ordW_mem {a b : List Int} {n : Nat} {x : Int} : x ∈ ordW a b n ↔ 0 ≤ x ∧ x < (n : Int) := by
  rw [(ordW_perm a b n).mem_iff, List.mem_map]
  constructor
  · rintro ⟨j, hj, rfl⟩
    have := List.mem_range.1 hj
    omega
  · rintro ⟨h0, h1⟩
    exact ⟨x.toNat, List.mem_range.2 (by omega), by omega⟩
theorem ordW_nodup (a b : List Int) (n : Nat) : (ordW a b n).Nodup := by
  refine (ordW_perm a b n).nodup_iff.2 ?_
  refine List.Pairwise.map _ (fun x y h e => h (by omega)) List.nodup_range
theorem putW_sorted {a b : List Int} (ha : ∀ x, 0 ≤ rd a x) (hb : ∀ x, 0 ≤ rd b x) {xs : List Int} {i : Int} (hw : ∀ x ∈ xs, 0 < rd a x + rd b x) (h : xs.Pairwise (Bef a b)) : (putW a b xs i).Pairwise (Bef a b) := by
  have hp := plW_le a b i xs xs.length
  have hB := plW_behind a b i xs xs.length
  have hA := plW_ahead a b i xs xs.length
  generalize hpp : plW a b i xs xs.length = p at *
  unfold putW
  rw [hpp]
  have hsplit := h
  rw [← List.take_append_drop p xs, List.pairwise_append] at hsplit
  obtain ⟨h1, h2, h3⟩ := hsplit
  -- what stands ahead
  have ahead : ∀ x ∈ xs.take p, Bef a b x i := by
    intro x hx
    obtain ⟨j, hj, rfl⟩ := List.getElem_of_mem hx
    rw [List.length_take] at hj
    have hj2 : j < xs.length := by omega
    rw [List.getElem_take]
    have hlast : Bef a b (rd xs ((p - 1 : Nat) : Int)) i := by
      have := hA (by omega)
      unfold Bef; omega
    rcases Nat.lt_or_ge j (p - 1) with h4 | h4
    · have hpw := List.pairwise_iff_getElem.1 h j (p - 1) hj2 (by omega) h4
      rw [rd_get (show p - 1 < xs.length by omega)] at hlast
      exact hpw.trans ha hb (hw _ (List.getElem_mem _)) hlast
    · obtain rfl : j = p - 1 := by omega
      rw [rd_get hj2] at hlast
      exact hlast
  have behind : ∀ y ∈ xs.drop p, Bef a b i y := by
    intro y hy
    obtain ⟨j, hj, rfl⟩ := List.getElem_of_mem hy
    rw [List.length_drop] at hj
    rw [List.getElem_drop]
    have := hB (p + j) (by omega) (by omega)
    rw [rd_get (show p + j < xs.length by omega)] at this
    unfold Bef
    omega
  rw [List.append_assoc, List.pairwise_append]
  refine ⟨h1, ?_, fun x hx y hy => ?_⟩
  · rw [List.singleton_append, List.pairwise_cons]
    exact ⟨behind, h2⟩
  · rw [List.singleton_append] at hy
    rcases List.mem_cons.1 hy with rfl | hy
    · exact ahead x hx
    · exact h3 x hx y hy
theorem ordW_sorted {a b : List Int} (ha : ∀ x, 0 ≤ rd a x) (hb : ∀ x, 0 ≤ rd b x) : ∀ n : Nat, (∀ j : Nat, j < n → 0 < rd a (j : Int) + rd b (j : Int)) → (ordW a b n).Pairwise (Bef a b) := by
  intro n
  induction n with
  | zero => intro _; exact List.Pairwise.nil
  | succ n ih =>
    intro hw
    refine putW_sorted ha hb (fun x hx => ?_) (ih fun j hj => hw j (by omega))
    obtain ⟨h0, h1⟩ := ordW_mem.1 hx
    have := hw x.toNat (by omega)
    rwa [show ((x.toNat : Nat) : Int) = x by omega] at this
theorem rd_nonneg {xs : List Int} (h : ∀ x ∈ xs, 0 ≤ x) (i : Int) : 0 ≤ rd xs i := by
  simp only [rd, List.getD_eq_getElem?_getD]
  cases h1 : xs[i.toNat]? with
  | none => simp
  | some v => simp only [Option.getD_some]; exact h v (List.mem_of_getElem? h1)
theorem perm_sum {xs ys : List Int} (h : xs.Perm ys) : xs.sum = ys.sum := by
  induction h with
  | nil => rfl
  | cons x _ ih => simp only [List.sum_cons, ih]
  | swap x y l => simp only [List.sum_cons]; omega
  | trans _ _ h1 h2 => rw [h1, h2]
/-- Sums by the order are sums. -/
theorem ordW_sum (a b xs : List Int) : ((ordW a b xs.length).map fun g => rd xs g).sum = xs.sum := by
  have h := perm_sum ((ordW_perm a b xs.length).map fun g => rd xs g)
  rw [h, List.map_map]
  congr 1
  apply List.ext_getElem (by simp)
  intro j h1 h2
  simp [rd_get h2]

/-! ### listm -/
theorem pigeon : ∀ (n : Nat) (xs : List Int), xs.Nodup → (∀ x ∈ xs, 0 ≤ x ∧ x < (n : Int)) → xs.length ≤ n := by
  intro n
  induction n with
  | zero =>
    intro xs _ h
    cases xs with
    | nil => simp
    | cons x xs => have := h x (by simp); omega
  | succ n ih =>
    intro xs hn h
    by_cases hm : (n : Int) ∈ xs
    · have h1 := ih (xs.erase (n : Int)) (hn.erase _) (fun x hx => by
        have h2 := (hn.mem_erase_iff).1 hx
        have h3 := h x h2.2
        have h4 := h2.1
        omega)
      rw [List.length_erase_of_mem hm] at h1
      omega
    · have h1 := ih xs hn (fun x hx => by
        have h3 := h x hx
        have h4 : x ≠ (n : Int) := fun e => hm (e ▸ hx)
        omega)
      omega
/-- Fewer different members than there are: one is missing. -/
theorem one_missing : ∀ (n : Nat) (xs : List Int), xs.length < n → ∃ j : Nat, j < n ∧ (j : Int) ∉ xs := by
  intro n
  induction n with
  | zero => intro xs h; omega
  | succ n ih =>
    intro xs h
    by_cases hm : (n : Int) ∈ xs
    · obtain ⟨j, hj, hx⟩ := ih (xs.erase (n : Int)) (by rw [List.length_erase_of_mem hm]; have := List.length_pos_of_mem hm; omega)
      refine ⟨j, by omega, fun hmem => hx ?_⟩
      exact (List.mem_erase_of_ne (by omega)).2 hmem
    · exact ⟨n, by omega, hm⟩
/-- Members, one after the other, in range and not seen yet. -/
def memB (n : Int) : List Int → List Int → Bool
  | _, [] => true
  | seen, x :: rest => decide (0 ≤ x ∧ x < n) && (!decide (x ∈ seen) && memB n (seen ++ [x]) rest)
theorem memB_iff (n : Int) : ∀ (xs seen : List Int), memB n seen xs = true ↔ (∀ x ∈ xs, 0 ≤ x ∧ x < n ∧ x ∉ seen) ∧ xs.Nodup := by
  intro xs
  induction xs with
  | nil => intro seen; simp [memB]
  | cons a xs ih =>
    intro seen
    simp only [memB, Bool.and_eq_true, decide_eq_true_eq, Bool.not_eq_true', decide_eq_false_iff_not, ih, List.mem_cons, List.mem_append, List.not_mem_nil, or_false, List.nodup_cons]
    constructor
    · rintro ⟨⟨h1, h2⟩, h3, h4, h5⟩
      refine ⟨?_, fun ha => (h4 a ha).2.2 (Or.inr rfl), h5⟩
      rintro x (rfl | hx)
      · exact ⟨h1, h2, h3⟩
      · obtain ⟨a1, a2, a3⟩ := h4 x hx
        exact ⟨a1, a2, fun h => a3 (Or.inl h)⟩
    · rintro ⟨h1, h2, h3⟩
      obtain ⟨a1, a2, a3⟩ := h1 a (Or.inl rfl)
      refine ⟨⟨a1, a2⟩, a3, fun x hx => ?_, h3⟩
      obtain ⟨b1, b2, b3⟩ := h1 x (Or.inr hx)
      refine ⟨b1, b2, ?_⟩
      rintro (h | rfl)
      · exact b3 h
      · exact h2 hx
/-- Different members of a body. -/
def GoodM (xs : List Int) (n : Int) : Prop := xs.Nodup ∧ ∀ x ∈ xs, 0 ≤ x ∧ x < n
instance (xs : List Int) (n : Int) : Decidable (GoodM xs n) := inferInstanceAs (Decidable (_ ∧ _))
theorem memB_good (n : Int) (xs : List Int) : memB n [] xs = decide (GoodM xs n) := by
  rw [Bool.eq_iff_iff, memB_iff, decide_eq_true_eq]
  unfold GoodM
  constructor
  · rintro ⟨h, hn⟩
    exact ⟨hn, fun x hx => ⟨(h x hx).1, (h x hx).2.1⟩⟩
  · rintro ⟨hn, h⟩
    exact ⟨fun x hx => ⟨(h x hx).1, (h x hx).2, by simp⟩, hn⟩
theorem GoodM.le {xs : List Int} {n : Nat} (h : GoodM xs (n : Int)) : xs.length ≤ n := pigeon n xs h.1 h.2
/-- The first place of a number behind some. -/
def idxM : List Int → Int → Nat → Int
  | [], _, _ => -1
  | y :: ys, x, i => if y = x then (i : Int) else idxM ys x (i + 1)
theorem idxM_neg : ∀ (xs : List Int) (x : Int) (i : Nat), idxM xs x i < 0 ↔ x ∉ xs := by
  intro xs
  induction xs with
  | nil => intro x i; simp [idxM]
  | cons y ys ih =>
    intro x i
    simp only [idxM]
    by_cases e : y = x
    · rw [if_pos e]; simp [e]
    · rw [if_neg e, ih]
      have e' : ¬ x = y := fun h => e h.symm
      simp [e']
theorem idxM_nonneg (xs : List Int) (x : Int) (i : Nat) : 0 ≤ idxM xs x i ↔ x ∈ xs := by
  have := idxM_neg xs x i
  by_cases h : x ∈ xs
  · simp only [h, not_true, iff_false] at this
    simp [h]; omega
  · simp only [h, not_false_iff, iff_true] at this
    simp [h]; omega
theorem idxM_at : ∀ (xs : List Int) (x : Int) (i : Nat), x ∈ xs → ∃ j : Nat, idxM xs x i = ((i + j : Nat) : Int) ∧ j < xs.length ∧ rd xs (j : Int) = x ∧ ∀ q : Nat, q < j → rd xs (q : Int) ≠ x := by
  intro xs
  induction xs with
  | nil => intro x i h; simp at h
  | cons y ys ih =>
    intro x i h
    by_cases e : y = x
    · exact ⟨0, by simp [idxM, e], by simp, by simp [rd, e], fun q hq => by omega⟩
    · have hx : x ∈ ys := by
        rcases List.mem_cons.1 h with h | h
        · exact absurd h.symm e
        · exact h
      obtain ⟨j, h1, h2, h3, h4⟩ := ih x (i + 1) hx
      refine ⟨j + 1, by simp only [idxM, if_neg e, h1]; omega, by simp; omega, ?_, ?_⟩
      · rw [← h3, rd_get (by simp; omega), rd_get h2]; simp
      · intro q hq
        cases q with
        | zero => rw [rd_get (by simp)]; simpa using e
        | succ q => have := h4 q (by omega); rw [rd_get (by simp; omega)]; rw [rd_get (by omega)] at this; simpa using this
theorem sum_set : ∀ (xs : List Int) (i : Nat) (v : Int), i < xs.length → (xs.set i v).sum = xs.sum - rd xs (i : Int) + v := by
  intro xs
  induction xs with
  | nil => intro i v h; simp at h
  | cons x xs ih =>
    intro i v h
    cases i with
    | zero => simp [rd]; omega
    | succ i =>
      have h2 : i < xs.length := by simpa using h
      have := ih i v h2
      have e : rd (x :: xs) ((i + 1 : Nat) : Int) = rd xs (i : Int) := by rw [rd_get h, rd_get h2]; simp
      simp only [List.set_cons_succ, List.sum_cons, this, e]
      omega
theorem sum_replicate0 (n : Nat) : (List.replicate n (0 : Int)).sum = 0 := by
  induction n with
  | zero => rfl
  | succ n ih => simp [List.replicate_succ, ih]
theorem set_fill {α : Type} (A : List α) (d : Nat) (z v : α) : (A ++ List.replicate (d + 1) z).set A.length v = (A ++ [v]) ++ List.replicate d z := by
  rw [List.set_append_right _ _ (Nat.le_refl _)]
  simp [List.replicate_succ]
theorem set_fill' {α : Type} {A : List α} {i d : Nat} {z v : α} (h : A.length = i) : (A ++ List.replicate (d + 1) z).set i v = (A ++ [v]) ++ List.replicate d z := by
  subst h; exact set_fill A d z v
theorem sum_bound : ∀ (xs : List Int) (lo hi : Int), (∀ x ∈ xs, lo ≤ x ∧ x ≤ hi) → (xs.length : Int) * lo ≤ xs.sum ∧ xs.sum ≤ (xs.length : Int) * hi := by
  intro xs lo hi
  induction xs with
  | nil => intro _; simp
  | cons x xs ih =>
    intro h
    have h1 := ih (fun y hy => h y (by simp [hy]))
    have h2 := h x (by simp)
    have e1 : ((x :: xs).length : Int) * lo = (xs.length : Int) * lo + lo := by simp [Int.add_mul]
    have e2 : ((x :: xs).length : Int) * hi = (xs.length : Int) * hi + hi := by simp [Int.add_mul]
    rw [e1, e2, List.sum_cons]
    omega

/-! ### wishm -/
/-- Points that the law looks at. -/
def OkP (a b : List Int) : Prop := a.length = b.length ∧ 1 ≤ a.length ∧ a.length ≤ 10 ∧ (∀ x ∈ a, 0 ≤ x ∧ x ≤ 100) ∧ (∀ x ∈ b, 0 ≤ x ∧ x ≤ 100) ∧ a.sum = b.sum ∧ 0 < a.sum
/-- Every good from one on is wanted. -/
def WanF (a b : List Int) (i : Nat) : Prop := ∀ j : Nat, i ≤ j → j < a.length → 0 < rd a (j : Int) + rd b (j : Int)
theorem WanF.step {a b : List Int} {i : Nat} (h : 0 < rd a (i : Int) + rd b (i : Int)) : WanF a b i ↔ WanF a b (i + 1) := by
  constructor
  · intro h1 j h2 h3; exact h1 j (by omega) h3
  · intro h1 j h2 h3
    rcases Nat.lt_or_ge i j with h4 | h4
    · exact h1 j (by omega) h3
    · obtain rfl : j = i := by omega
      exact h
theorem rd_bound {xs : List Int} (h : ∀ x ∈ xs, 0 ≤ x ∧ x ≤ 100) (i : Int) : 0 ≤ rd xs i ∧ rd xs i ≤ 100 := by
  simp only [rd, List.getD_eq_getElem?_getD]
  cases h1 : xs[i.toNat]? with
  | none => simp
  | some v => simp only [Option.getD_some]; exact h v (List.mem_of_getElem? h1)
theorem mul_bound {u v : Int} (hu : 0 ≤ u ∧ u ≤ 100) (hv : 0 ≤ v ∧ v ≤ 100) : 0 ≤ u * v ∧ u * v ≤ 10000 := by
  have h1 := Int.mul_nonneg hu.1 hv.1
  have h2 := Int.mul_le_mul_of_nonneg_right hu.2 hv.1
  omega
theorem wrap_mul {xs ys : List Int} (hx : ∀ x ∈ xs, 0 ≤ x ∧ x ≤ 100) (hy : ∀ x ∈ ys, 0 ≤ x ∧ x ≤ 100) (i j : Int) : wrap64 (rd xs i * rd ys j) = rd xs i * rd ys j := by
  have := mul_bound (rd_bound hx i) (rd_bound hy j)
  exact wrap_id (by omega) (by omega)
/-- The order that both make. -/
theorem wishM_ex (a b : List Int) : ∃ r : List Int, (OkP a b ∧ WanF a b 0 → r = ordW a b a.length) ∧ (¬ (OkP a b ∧ WanF a b 0) → r = []) := by
  by_cases h : OkP a b ∧ WanF a b 0
  · exact ⟨_, fun _ => rfl, fun h1 => absurd h h1⟩
  · exact ⟨[], fun h1 => absurd h1 h, fun _ => rfl⟩

/-! ### within -/
theorem allWithin_l0 (xs : List Int) (lo up : Int) (hb : xs.length < 4611686018427387904) : ∀ (d k i : Nat), i + d = xs.length → d < k → impl_allWithin.l0 k lo up xs (xs.length : Int) (i : Int) = some ((xs.drop i).all fun x => decide (lo ≤ x ∧ x ≤ up)) := by
  intro d
  induction d with
  | zero =>
    intro k i hi hk
    obtain ⟨k, rfl, -⟩ := fuel hk
    simp only [impl_allWithin.l0]
    rw [if_neg (by omega), drop_end (by omega)]
    simp
  | succ d ih =>
    intro k i hi hk
    obtain ⟨k, rfl, hk⟩ := fuel hk
    simp only [impl_allWithin.l0]
    rw [if_pos (by omega), if_pos (by omega), if_pos (by omega), wrap_succ (by omega), drop_rd (by omega)]
    simp only [List.all_cons]
    rw [ih k (i + 1) (by omega) (by omega)]
    by_cases h1 : rd xs (i : Int) < lo
    · rw [if_pos h1, decide_eq_false (by omega)]; rfl
    · rw [if_neg h1]
      by_cases h2 : rd xs (i : Int) > up
      · rw [if_pos h2, decide_eq_false (by omega)]; rfl
      · rw [if_neg h2, decide_eq_true (by omega)]; rfl
theorem allWithin_spec (k : Nat) (xs : List Int) (lo up : Int) (hb : xs.length < 4611686018427387904) (hk : xs.length < k) : impl_allWithin.f k xs lo up = some (xs.all fun x => decide (lo ≤ x ∧ x ≤ up)) := by
  unfold impl_allWithin.f
  have := allWithin_l0 xs lo up hb xs.length k 0 (by omega) hk
  simpa using this

/-! ### sumof -/
theorem sumOf_l0 (xs : List Int) (hb : xs.length < 4611686018427387904) : ∀ (d k i : Nat) (acc : Int), i + d = xs.length → d < k → wrap64 acc = acc → impl_sumOf.l0 k acc xs (xs.length : Int) (i : Int) = some (wrap64 (acc + (xs.drop i).sum)) := by
  intro d
  induction d with
  | zero =>
    intro k i acc hi hk ha
    obtain ⟨k, rfl, -⟩ := fuel hk
    simp only [impl_sumOf.l0]
    rw [if_neg (by omega), drop_end (by omega)]
    simp [ha]
  | succ d ih =>
    intro k i acc hi hk ha
    obtain ⟨k, rfl, hk⟩ := fuel hk
    simp only [impl_sumOf.l0]
    rw [if_pos (by omega), if_pos (by omega), if_pos (by omega), wrap_succ (by omega), ih k (i + 1) _ (by omega) (by omega) (wrap_wrap _), wrap_add_l, drop_rd (i := i) (by omega), List.sum_cons, Int.add_assoc]
theorem sumOf_spec (k : Nat) (xs : List Int) (hb : xs.length < 4611686018427387904) (hk : xs.length < k) : impl_sumOf.f k xs = some (wrap64 xs.sum) := by
  unfold impl_sumOf.f
  have := sumOf_l0 xs hb xs.length k 0 0 (by omega) hk (wrap_id (by omega) (by omega))
  simpa using this

/-! ### iwish -/
theorem ivalidPoints_spec (k : Nat) (a b : List Int) (ha : a.length ≤ 1048576) (hb : b.length ≤ 1048576) (hk : 1048600 < k) : ∃ c : Bool, impl_ValidPoints.f k a b = some c ∧ (c = true ↔ OkP a b) := by
  unfold impl_ValidPoints.f
  obtain ⟨k, rfl, hk⟩ := fuel hk
  have no : ∀ c : Bool, c = true → impl_ValidPoints.j0 (k + 1) a b c = some false := by
    intro c hc; subst hc; simp only [impl_ValidPoints.j0]; rw [if_pos trivial]
  by_cases h1 : (a.length : Int) < 1
  · rw [if_pos h1, no _ rfl]
    exact ⟨false, rfl, by simp [OkP]; omega⟩
  rw [if_neg h1]
  by_cases h2 : (a.length : Int) > 10
  · rw [if_pos h2, no _ rfl]
    exact ⟨false, rfl, by simp [OkP]; omega⟩
  rw [if_neg h2]
  by_cases h3 : a.length = b.length
  case neg =>
    rw [no _ (by simp; omega)]
    exact ⟨false, rfl, by simp [OkP]; omega⟩
  have e : ((a.length : Int) != (b.length : Int)) = false := by simp; omega
  rw [e]
  simp only [impl_ValidPoints.j0]
  rw [if_neg (by simp), allWithin_spec _ _ _ _ (by omega) (by omega), Option.bind_some]
  obtain ⟨k, rfl, hk⟩ := fuel (show 1048500 < k by omega)
  have no1 : ∀ c : Bool, c = true → impl_ValidPoints.j1 (k + 1) a b c = some false := by
    intro c hc; subst hc; simp only [impl_ValidPoints.j1]; rw [if_pos trivial]
  by_cases h4 : ∀ x ∈ a, 0 ≤ x ∧ x ≤ 100
  case neg =>
    rw [if_neg (by simpa using h4), no1 _ rfl]
    exact ⟨false, rfl, ⟨fun h => (by cases h), fun h => by exact absurd h.2.2.2.1 h4⟩⟩
  rw [if_pos (by simpa using h4), allWithin_spec _ _ _ _ (by omega) (by omega), Option.bind_some]
  by_cases h5 : ∀ x ∈ b, 0 ≤ x ∧ x ≤ 100
  case neg =>
    rw [no1 _ (by simpa using h5)]
    exact ⟨false, rfl, ⟨fun h => (by cases h), fun h => by exact absurd h.2.2.2.2.1 h5⟩⟩
  have e2 : (!(b.all fun x => decide (0 ≤ x ∧ x ≤ 100))) = false := by simpa using h5
  rw [e2]
  simp only [impl_ValidPoints.j1]
  have sa := sum_bound a 0 100 h4
  have sb := sum_bound b 0 100 h5
  rw [if_neg (by simp), sumOf_spec _ _ (by omega) (by omega), Option.bind_some, wrap_id (x := a.sum) (by omega) (by omega)]
  by_cases h6 : a.sum > 0
  · rw [if_pos h6, Option.bind_some, sumOf_spec _ _ (by omega) (by omega), Option.bind_some, wrap_id (x := b.sum) (by omega) (by omega)]
    exact ⟨_, rfl, ⟨fun h => by exact ⟨h3, by omega, by omega, h4, h5, by simpa using h, h6⟩, fun h => by simpa using h.2.2.2.2.2.1⟩⟩
  · rw [if_neg h6]
    exact ⟨false, rfl, ⟨fun h => (by cases h), fun h => by exact absurd h.2.2.2.2.2.2 h6⟩⟩
theorem insert_spec (xs : List Int) (p : Nat) (x : Int) (h : p ≤ xs.length) (hb : xs.length ≤ 100) : slices_Insert_int_int.f xs (p : Int) [x] = some (xs.take p ++ [x] ++ xs.drop p) := by
  unfold slices_Insert_int_int.f
  rw [if_pos ⟨rfl, by omega, by omega, by omega⟩, toNat_cast]
theorem ibyWish_l1 (a b : List Int) (h : OkP a b) (xs : List Int) (i : Nat) (hi : i < a.length) (hx : ∀ x ∈ xs, 0 ≤ x ∧ x < (i : Int)) (hl : xs.length ≤ 10) (K : Nat) (n : Int) (R : Option (List Int)) : ∀ (p : Nat), p ≤ xs.length →
    (∀ k, K ≤ k → impl_ByWish.l0 k a b (xs.take (plW a b (i : Int) xs p) ++ [(i : Int)] ++ xs.drop (plW a b (i : Int) xs p)) n ((i + 1 : Nat) : Int) = R) →
    ∀ k, K + p < k → impl_ByWish.l1 k a b xs (i : Int) (p : Int) n (i : Int) = R := by
  obtain ⟨e1, e2, e3, e4, e5, -⟩ := h
  intro p
  induction p with
  | zero =>
    intro _ hR k hk
    obtain ⟨k, rfl, hk⟩ := fuel hk
    simp only [impl_ByWish.l1]
    rw [if_neg (by omega), insert_spec _ _ _ (by omega) (by omega), Option.bind_some, wrap_succ (by omega)]
    exact hR k (by omega)
  | succ p ih =>
    intro hp hR k hk
    obtain ⟨k, rfl, hk⟩ := fuel hk
    have hm := hx _ (rd_mem (xs := xs) (i := p) (by omega))
    simp only [impl_ByWish.l1]
    rw [if_pos (by omega), show wrap64 (((p + 1 : Nat) : Int) - 1) = (p : Int) by rw [wrap_id (by omega) (by omega)]; omega]
    rw [if_pos (by omega), if_pos (by omega), if_pos (by omega), if_pos (by omega), if_pos (by omega), if_pos (by omega), if_pos (by omega), if_pos (by omega), wrap_mul e4 e5, wrap_mul e4 e5]
    simp only [plW] at hR
    by_cases hc : rd a (rd xs (p : Int)) * rd b (i : Int) < rd a (i : Int) * rd b (rd xs (p : Int))
    · rw [if_pos hc] at hR ⊢
      exact ih (by omega) hR k (by omega)
    · rw [if_neg hc] at hR ⊢
      rw [insert_spec _ _ _ (by omega) (by omega), Option.bind_some, wrap_succ (by omega)]
      exact hR k (by omega)
theorem ibyWish_l0 (a b : List Int) (h : OkP a b) : ∀ (d i k : Nat) (r : List Int), i + d = a.length → d * 20 < k → (WanF a b i → r = ordW a b a.length) → (¬ WanF a b i → r = []) →
    impl_ByWish.l0 k a b (ordW a b i) (a.length : Int) (i : Int) = some r := by
  obtain ⟨e1, e2, e3, e4, e5, -⟩ := id h
  intro d
  induction d with
  | zero =>
    intro i k r hi hk h1 h2
    obtain ⟨k, rfl, hk⟩ := fuel hk
    simp only [impl_ByWish.l0]
    rw [if_neg (by omega), h1 (fun j _ _ => by omega), show i = a.length by omega]
  | succ d ih =>
    intro i k r hi hk h1 h2
    obtain ⟨k, rfl, hk⟩ := fuel hk
    have ba := rd_bound e4 (i : Int)
    have bb := rd_bound e5 (i : Int)
    simp only [impl_ByWish.l0]
    rw [if_pos (by omega), if_pos (by omega), if_pos (by omega), if_pos (by omega), wrap_id (by omega) (by omega)]
    by_cases hw : rd a (i : Int) + rd b (i : Int) = 0
    · rw [if_pos hw, h2 fun hn => by have := hn i (by omega) (by omega); omega]
    · rw [if_neg hw]
      have hs := WanF.step (a := a) (b := b) (i := i) (by omega)
      have hlen := ordW_length a b i
      refine ibyWish_l1 a b h _ i (by omega) (fun x hx => ordW_mem.1 hx) (by omega) (d * 20 + 1) _ _ _ (Nat.le_refl _) (fun k hk => ?_) k (by omega)
      exact ih (i + 1) k r (by omega) (by omega) (fun h => h1 (hs.2 h)) (fun h => h2 fun h3 => h (hs.1 h3))
theorem ibyWish_spec (k : Nat) (a b : List Int) (ha : a.length ≤ 1048576) (hb : b.length ≤ 1048576) (hk : 1048700 < k) (r : List Int) (h1 : OkP a b ∧ WanF a b 0 → r = ordW a b a.length) (h2 : ¬ (OkP a b ∧ WanF a b 0) → r = []) : impl_ByWish.f k a b = some r := by
  unfold impl_ByWish.f
  obtain ⟨c, hc, hcc⟩ := ivalidPoints_spec k a b ha hb (by omega)
  rw [hc, Option.bind_some]
  by_cases h : c = true
  · rw [if_pos h]
    have hok := hcc.1 h
    exact ibyWish_l0 a b hok a.length 0 k r (by omega) (by have := hok.2.2.1; omega) (fun hw => h1 ⟨hok, hw⟩) (fun hw => h2 fun h3 => hw h3.2)
  · rw [if_neg h, h2 fun h3 => h (hcc.2 h3.1)]

/-! ### inrange -/
theorem inRange_spec (a lo up : Int) : spec_inRange.f a lo up = some (decide (lo ≤ a ∧ a ≤ up)) := by
  unfold spec_inRange.f
  by_cases h : lo ≤ a <;> simp [h]

/-! ### ranges -/
theorem allIn_l0 (xs : List Int) (lo up : Int) (hb : xs.length < 4611686018427387904) : ∀ (d k i : Nat), i + d = xs.length → d < k → spec_allIn.l0 k xs lo up (i : Int) = some ((xs.drop i).all fun x => decide (lo ≤ x ∧ x ≤ up)) := by
  intro d
  induction d with
  | zero =>
    intro k i hi hk
    obtain ⟨k, rfl, -⟩ := fuel hk
    simp only [spec_allIn.l0]
    rw [if_neg (by omega), drop_end (by omega)]
    simp
  | succ d ih =>
    intro k i hi hk
    obtain ⟨k, rfl, hk⟩ := fuel hk
    simp only [spec_allIn.l0]
    rw [if_pos (by omega), if_pos (by omega), inRange_spec, wrap_succ (by omega), drop_rd (by omega)]
    simp only [Option.bind_some, List.all_cons]
    rw [ih k (i + 1) (by omega) (by omega)]
    cases decide (lo ≤ rd xs (i : Int) ∧ rd xs (i : Int) ≤ up) <;> simp
theorem allIn_spec (k : Nat) (xs : List Int) (lo up : Int) (hb : xs.length < 4611686018427387904) (hk : xs.length < k) : spec_allIn.f k xs lo up = some (xs.all fun x => decide (lo ≤ x ∧ x ≤ up)) := by
  unfold spec_allIn.f
  have := allIn_l0 xs lo up hb xs.length k 0 (by omega) hk
  simpa using this

/-! ### stotal -/
theorem stotal_l0 (xs : List Int) (hb : xs.length < 4611686018427387904) : ∀ (d k i : Nat) (acc : Int), i + d = xs.length → d < k → wrap64 acc = acc → spec_total.l0 k xs acc (i : Int) = some (wrap64 (acc + (xs.drop i).sum)) := by
  intro d
  induction d with
  | zero =>
    intro k i acc hi hk ha
    obtain ⟨k, rfl, -⟩ := fuel hk
    simp only [spec_total.l0]
    rw [if_neg (by omega), drop_end (by omega)]
    simp [ha]
  | succ d ih =>
    intro k i acc hi hk ha
    obtain ⟨k, rfl, hk⟩ := fuel hk
    simp only [spec_total.l0]
    rw [if_pos (by omega), if_pos (by omega), wrap_succ (by omega), ih k (i + 1) _ (by omega) (by omega) (wrap_wrap _), wrap_add_l, drop_rd (i := i) (by omega), List.sum_cons, Int.add_assoc]
theorem stotal_spec (k : Nat) (xs : List Int) (hb : xs.length < 4611686018427387904) (hk : xs.length < k) : spec_total.f k xs = some (wrap64 xs.sum) := by
  unfold spec_total.f
  have := stotal_l0 xs hb xs.length k 0 0 (by omega) hk (wrap_id (by omega) (by omega))
  simpa using this

/-! ### copyints -/
theorem copyInts_spec (l : List Int) (hl : l.length ≤ 1000000) : spec_copyInts.f l = some l := by
  unfold spec_copyInts.f
  simp only [Option.bind_some]
  rw [if_pos (by simp; omega)]; simp

/-! ### swish -/
theorem svalidPoints_spec (k : Nat) (a b : List Int) (ha : a.length ≤ 1048576) (hb : b.length ≤ 1048576) (hk : 1048600 < k) : ∃ c : Bool, spec_validPoints.f k a b = some c ∧ (c = true ↔ OkP a b) := by
  unfold spec_validPoints.f
  by_cases h3 : a.length = b.length
  case neg =>
    rw [if_neg (by omega)]
    exact ⟨false, rfl, by simp [OkP]; omega⟩
  rw [if_pos (by omega), inRange_spec, Option.bind_some]
  by_cases h1 : 1 ≤ (a.length : Int) ∧ (a.length : Int) ≤ 10
  case neg =>
    rw [if_neg (by simpa using h1)]
    exact ⟨false, rfl, ⟨fun h => (by cases h), fun h => by have q1 := h.2.1; have q2 := h.2.2.1; omega⟩⟩
  rw [if_pos (by simpa using h1), allIn_spec _ _ _ _ (by omega) (by omega), Option.bind_some]
  by_cases h4 : ∀ x ∈ a, 0 ≤ x ∧ x ≤ 100
  case neg =>
    rw [if_neg (by simpa using h4)]
    exact ⟨false, rfl, ⟨fun h => (by cases h), fun h => by exact absurd h.2.2.2.1 h4⟩⟩
  rw [if_pos (by simpa using h4), allIn_spec _ _ _ _ (by omega) (by omega), Option.bind_some]
  by_cases h5 : ∀ x ∈ b, 0 ≤ x ∧ x ≤ 100
  case neg =>
    rw [if_neg (by simpa using h5)]
    exact ⟨false, rfl, ⟨fun h => (by cases h), fun h => by exact absurd h.2.2.2.2.1 h5⟩⟩
  rw [if_pos (by simpa using h5)]
  have sa := sum_bound a 0 100 h4
  have sb := sum_bound b 0 100 h5
  rw [stotal_spec _ a (by omega) (by omega), Option.bind_some, stotal_spec _ b (by omega) (by omega), Option.bind_some, wrap_id (x := a.sum) (by omega) (by omega), wrap_id (x := b.sum) (by omega) (by omega)]
  by_cases h6 : a.sum = b.sum
  · rw [if_pos h6, Option.bind_some]
    exact ⟨_, rfl, ⟨fun h => by exact ⟨h3, by omega, by omega, h4, h5, h6, by simpa using h⟩, fun h => by simpa using h.2.2.2.2.2.2⟩⟩
  · rw [if_neg h6]
    exact ⟨false, rfl, ⟨fun h => (by cases h), fun h => by exact absurd h.2.2.2.2.2.1 h6⟩⟩
theorem swanted_l0 (a b : List Int) (h : OkP a b) : ∀ (d i k : Nat), i + d = a.length → d < k → ∃ c : Bool, spec_wanted.l0 k a b (i : Int) = some c ∧ (c = true ↔ WanF a b i) := by
  obtain ⟨e1, e2, e3, e4, e5, -⟩ := id h
  intro d
  induction d with
  | zero =>
    intro i k hi hk
    obtain ⟨k, rfl, hk⟩ := fuel hk
    simp only [spec_wanted.l0]
    rw [if_neg (by omega)]
    exact ⟨true, rfl, by simp only [true_iff]; intro j _ _; omega⟩
  | succ d ih =>
    intro i k hi hk
    obtain ⟨k, rfl, hk⟩ := fuel hk
    have ba := rd_bound e4 (i : Int)
    have bb := rd_bound e5 (i : Int)
    simp only [spec_wanted.l0]
    rw [if_pos (by omega), if_pos (by omega), if_pos (by omega), wrap_id (by omega) (by omega)]
    by_cases hw : rd a (i : Int) + rd b (i : Int) = 0
    · rw [if_pos hw]
      exact ⟨false, rfl, ⟨fun h1 => (by cases h1), fun h1 => by (have := h1 i (by omega) (by omega); omega)⟩⟩
    · rw [if_neg hw, wrap_succ (by omega), WanF.step (by omega)]
      exact ih (i + 1) k (by omega) (by omega)
theorem swanted_spec (k : Nat) (a b : List Int) (h : OkP a b) (hk : 20 < k) : ∃ c : Bool, spec_wanted.f k a b = some c ∧ (c = true ↔ WanF a b 0) := by
  unfold spec_wanted.f
  exact swanted_l0 a b h a.length 0 k (by omega) (by have := h.2.2.1; omega)
theorem sinsert_spec (xs : List Int) (p : Nat) (x : Int) (h : p ≤ xs.length) (hb : xs.length ≤ 100) (f : List Int → Option (List Int)) :
    (if (0 : Int) ≤ (p : Int) then (if (p : Int) ≤ (xs.length : Int) then ((spec_copyInts.f (xs.drop (p : Int).toNat)).bind fun t131 => ((some (xs.take (p : Int).toNat : List Int)).bind fun y134 => (if y134.length < 17592186044416 then ((some (y134 ++ [x] : List Int)).bind fun y137 => (if y137.length + t131.length < 17592186044416 then f (y137 ++ t131) else (none))) else (none)))) else (none)) else (none)) = f (xs.take p ++ [x] ++ xs.drop p) := by
  rw [if_pos (by omega), if_pos (by omega), copyInts_spec _ (by simp; omega), Option.bind_some, Option.bind_some, if_pos (by simp; omega), Option.bind_some, if_pos (by simp; omega), toNat_cast]
theorem sbyWish_l1 (a b : List Int) (h : OkP a b) (xs : List Int) (i : Nat) (hi : i < a.length) (hx : ∀ x ∈ xs, 0 ≤ x ∧ x < (i : Int)) (hl : xs.length ≤ 10) (K : Nat) (R : Option (List Int)) : ∀ (p : Nat), p ≤ xs.length →
    (∀ k, K ≤ k → spec_byWish.l0 k a b (xs.take (plW a b (i : Int) xs p) ++ [(i : Int)] ++ xs.drop (plW a b (i : Int) xs p)) ((i + 1 : Nat) : Int) = R) →
    ∀ k, K + p < k → spec_byWish.l1 k a b xs (i : Int) (p : Int) = R := by
  obtain ⟨e1, e2, e3, e4, e5, -⟩ := h
  intro p
  induction p with
  | zero =>
    intro _ hR k hk
    obtain ⟨k, rfl, hk⟩ := fuel hk
    simp only [spec_byWish.l1]
    rw [if_neg (by omega), sinsert_spec _ _ _ (by omega) (by omega) (fun ys => spec_byWish.l0 k a b ys (wrap64 ((i : Int) + 1))), wrap_succ (by omega)]
    exact hR k (by omega)
  | succ p ih =>
    intro hp hR k hk
    obtain ⟨k, rfl, hk⟩ := fuel hk
    have hm := hx _ (rd_mem (xs := xs) (i := p) (by omega))
    simp only [spec_byWish.l1]
    rw [if_pos (by omega), show wrap64 (((p + 1 : Nat) : Int) - 1) = (p : Int) by rw [wrap_id (by omega) (by omega)]; omega]
    rw [if_pos (by omega), if_pos (by omega), if_pos (by omega), if_pos (by omega), if_pos (by omega), if_pos (by omega), if_pos (by omega), if_pos (by omega), wrap_mul e4 e5, wrap_mul e4 e5]
    simp only [plW] at hR
    by_cases hc : rd a (rd xs (p : Int)) * rd b (i : Int) < rd a (i : Int) * rd b (rd xs (p : Int))
    · rw [if_pos hc] at hR
      rw [if_pos (show rd a (i : Int) * rd b (rd xs (p : Int)) > rd a (rd xs (p : Int)) * rd b (i : Int) from hc)]
      exact ih (by omega) hR k (by omega)
    · rw [if_neg hc] at hR
      rw [if_neg (show ¬ rd a (i : Int) * rd b (rd xs (p : Int)) > rd a (rd xs (p : Int)) * rd b (i : Int) from hc)]
      rw [sinsert_spec _ _ _ (by omega) (by omega) (fun ys => spec_byWish.l0 k a b ys (wrap64 ((i : Int) + 1))), wrap_succ (by omega)]
      exact hR k (by omega)
theorem sbyWish_l0 (a b : List Int) (h : OkP a b) : ∀ (d i k : Nat), i + d = a.length → d * 20 < k →
    spec_byWish.l0 k a b (ordW a b i) (i : Int) = some (ordW a b a.length) := by
  intro d
  induction d with
  | zero =>
    intro i k hi hk
    obtain ⟨k, rfl, hk⟩ := fuel hk
    simp only [spec_byWish.l0]
    rw [if_neg (by omega), show i = a.length by omega]
  | succ d ih =>
    intro i k hi hk
    obtain ⟨k, rfl, hk⟩ := fuel hk
    simp only [spec_byWish.l0]
    have hlen := ordW_length a b i
    have e3 := h.2.2.1
    rw [if_pos (by omega)]
    exact sbyWish_l1 a b h _ i (by omega) (fun x hx => ordW_mem.1 hx) (by omega) (d * 20 + 1) _ _ (Nat.le_refl _) (fun k hk => ih (i + 1) k (by omega) (by omega)) k (by omega)
theorem sbyWishOf_spec (k : Nat) (a b : List Int) (h : OkP a b) (hk : 300 < k) : spec_byWish.f k a b = some (ordW a b a.length) := by
  unfold spec_byWish.f
  exact sbyWish_l0 a b h a.length 0 k (by omega) (by have := h.2.2.1; omega)

/-! ### sByWish -/
theorem sByWish_spec (k : Nat) (a b : List Int) (ha : a.length ≤ 1048576) (hb : b.length ≤ 1048576) (hk : 1048700 < k) (r : List Int) (h1 : OkP a b ∧ WanF a b 0 → r = ordW a b a.length) (h2 : ¬ (OkP a b ∧ WanF a b 0) → r = []) : spec_ByWish.f k a b = some r := by
  unfold spec_ByWish.f
  obtain ⟨c, hc, hcc⟩ := svalidPoints_spec k a b ha hb (by omega)
  rw [hc, Option.bind_some]
  by_cases h : c = true
  · have hok := hcc.1 h
    obtain ⟨d, hd, hdd⟩ := swanted_spec k a b hok (by omega)
    rw [if_pos h, hd, Option.bind_some]
    by_cases h3 : d = true
    · rw [if_pos h3, sbyWishOf_spec _ _ _ hok (by omega), Option.bind_some, h1 ⟨hok, hdd.1 h3⟩]
    · rw [if_neg h3, h2 fun h4 => h3 (hdd.2 h4.2)]
  · rw [if_neg h, h2 fun h3 => h (hcc.2 h3.1)]

/-! ### exactints -/
theorem toIntS_l0 (xs : List Int) (hb : xs.length < 4611686018427387904) : ∀ (d k i : Nat), i + d = xs.length → d < k → laws_toIntS.l0 k xs (xs.take i ++ List.replicate d 0) (i : Int) = some xs := by
  intro d
  induction d with
  | zero =>
    intro k i hi hk
    obtain ⟨k, rfl, -⟩ := fuel hk
    have e : xs.take i = xs := List.take_of_length_le (by omega)
    simp only [laws_toIntS.l0]
    rw [if_neg (by omega), e]; simp
  | succ d ih =>
    intro k i hi hk
    obtain ⟨k, rfl, hk⟩ := fuel hk
    have hti : (xs.take i).length = i := by simp; omega
    have := ih k (i + 1) (by omega) (by omega)
    rw [take_rd (by omega)] at this
    simp only [laws_toIntS.l0]
    rw [if_pos (by omega), if_pos (by omega), if_pos (by simp; omega), toNat_cast, set_fill' hti, wrap_succ (by omega)]
    exact this
theorem toIntS_spec (k : Nat) (xs : List Int) (hb : xs.length ≤ 35184372088832) (hk : xs.length < k) : laws_toIntS.f k xs = some xs := by
  unfold laws_toIntS.f
  have := toIntS_l0 xs (by omega) xs.length k 0 (by omega) hk
  rw [if_pos (by omega), if_pos (by simpa using hb), toNat_cast]
  simpa using this
theorem eqIntS_l0 (a b : List Int) (hl : a.length = b.length) (hb : a.length < 4611686018427387904) : ∀ (d k i : Nat), i + d = a.length → d < k → laws_eqIntS.l0 k a b (i : Int) = some (decide (a.drop i = b.drop i)) := by
  intro d
  induction d with
  | zero =>
    intro k i hi hk
    obtain ⟨k, rfl, -⟩ := fuel hk
    simp only [laws_eqIntS.l0]
    rw [if_neg (by omega), drop_end (by omega), drop_end (by omega)]
    simp
  | succ d ih =>
    intro k i hi hk
    obtain ⟨k, rfl, hk⟩ := fuel hk
    simp only [laws_eqIntS.l0]
    rw [if_pos (by omega), if_pos (by omega), if_pos (by omega), wrap_succ (by omega), drop_rd (xs := a) (i := i) (by omega), drop_rd (xs := b) (i := i) (by omega)]
    by_cases e : rd a (i : Int) = rd b (i : Int)
    · rw [if_pos e, ih k (i + 1) (by omega) (by omega), e]; simp
    · rw [if_neg e]; simp [e]
theorem eqIntS_spec (k : Nat) (a b : List Int) (hb : a.length < 4611686018427387904) (hk : a.length < k) : laws_eqIntS.f k a b = some (decide (a = b)) := by
  unfold laws_eqIntS.f
  by_cases h : a.length = b.length
  · first | rw [if_pos (by omega)] | rw [if_neg (by omega)]
    have := eqIntS_l0 a b h hb a.length k 0 (by omega) hk
    simpa using this
  · first | rw [if_neg (by omega)] | rw [if_pos (by omega)]
    have : a ≠ b := fun e => h (by rw [e])
    simp [this]

/-! ### marks -/
/-- Numbers one after the other. -/
def markI (n : Nat) (a : Int) : List Int := (List.range n).map fun i : Nat => a + (i : Int)
theorem markI_length (n : Nat) (a : Int) : (markI n a).length = n := by simp [markI]
theorem markI_succ (n : Nat) (a : Int) : markI (n + 1) a = markI n a ++ [a + (n : Int)] := by simp [markI, List.range_succ]
theorem markI_rd {n i : Nat} (a : Int) (h : i < n) : rd (markI n a) (i : Int) = a + (i : Int) := by rw [markI, rd_mapRange h]
theorem markIntS_l0 (xs : List Int) (a : Int) (ha : 0 ≤ a ∧ a ≤ 1000000000) (hb : xs.length ≤ 1000000000) : ∀ (d k i : Nat), i + d = xs.length → d < k → laws_markIntS.l0 k (markI i a ++ xs.drop i) (a + (i : Int)) (i : Int) = some (a + (xs.length : Int), markI xs.length a) := by
  intro d
  induction d with
  | zero =>
    intro k i hi hk
    obtain ⟨k, rfl, -⟩ := fuel hk
    simp only [laws_markIntS.l0]
    rw [if_neg (by rw [List.length_append, markI_length, List.length_drop]; omega), drop_end (by omega), List.append_nil, show i = xs.length by omega]
  | succ d ih =>
    intro k i hi hk
    obtain ⟨k, rfl, hk⟩ := fuel hk
    simp only [laws_markIntS.l0]
    rw [if_pos (by rw [List.length_append, markI_length, List.length_drop]; omega), if_pos (by omega), toNat_cast, wrap_succ (by omega), wrap_id (by omega) (by omega)]
    have := ih k (i + 1) (by omega) (by omega)
    have e : (markI i a ++ xs.drop i).set i (a + (i : Int)) = markI (i + 1) a ++ xs.drop (i + 1) := by
      rw [drop_rd (by omega), markI_succ, List.set_append_right _ _ (by rw [markI_length]; omega), markI_length, Nat.sub_self, List.set_cons_zero, List.append_assoc]
      rfl
    rw [e, show a + (i : Int) + 1 = a + ((i + 1 : Nat) : Int) by omega]
    exact this
theorem markIntS_spec (k : Nat) (xs : List Int) (a : Int) (ha : 0 ≤ a ∧ a ≤ 1000000000) (hb : xs.length ≤ 1000000000) (hk : xs.length < k) : laws_markIntS.f k xs a = some (a + (xs.length : Int), markI xs.length a) := by
  unfold laws_markIntS.f
  have := markIntS_l0 xs a ha hb xs.length k 0 (by omega) hk
  simpa [markI] using this
theorem heldIntS_l0 (n : Nat) (a : Int) (ha : 0 ≤ a ∧ a ≤ 1000000000) (hb : n ≤ 1000000000) : ∀ (d k i : Nat), i + d = n → d < k → laws_heldIntS.l0 k (markI n a) (a + (i : Int)) (i : Int) = some (a + (n : Int)) := by
  intro d
  induction d with
  | zero =>
    intro k i hi hk
    obtain ⟨k, rfl, -⟩ := fuel hk
    simp only [laws_heldIntS.l0]
    rw [if_neg (by rw [markI_length]; omega), show i = n by omega]
  | succ d ih =>
    intro k i hi hk
    obtain ⟨k, rfl, hk⟩ := fuel hk
    simp only [laws_heldIntS.l0]
    rw [if_pos (by rw [markI_length]; omega), if_pos (by omega), if_pos (markI_rd a (by omega)), wrap_succ (by omega), wrap_id (by omega) (by omega)]
    have := ih k (i + 1) (by omega) (by omega)
    rw [show a + (i : Int) + 1 = a + ((i + 1 : Nat) : Int) by omega]
    exact this
theorem heldIntS_spec (k n : Nat) (a : Int) (ha : 0 ≤ a ∧ a ≤ 1000000000) (hb : n ≤ 1000000000) (hk : n < k) : laws_heldIntS.f k (markI n a) a = some (a + (n : Int)) := by
  unfold laws_heldIntS.f
  have := heldIntS_l0 n a ha hb n k 0 (by omega) hk
  simpa using this

/-! ### the law -/
theorem FnExactByWish : laws_FnExactByWish.Pure := by
  intro l0 l1 m0 _ _ m1 _ _
  refine ⟨4000000, ?_⟩
  unfold laws_FnExactByWish.f
  by_cases h0 : (l0.length : Int) > 1048576
  · rw [if_pos h0]
  by_cases h1 : (l1.length : Int) > 1048576
  · rw [if_neg h0, if_pos h1]
  rw [if_neg h0, if_neg h1]
  obtain ⟨r, hr1, hr2⟩ := wishM_ex l0 l1
  have hrl : r.length ≤ 1048576 := by
    by_cases h : OkP l0 l1 ∧ WanF l0 l1 0
    · rw [hr1 h, ordW_length]; omega
    · rw [hr2 h]; simp
  rw [toIntS_spec _ l0 (by omega) (by omega), Option.bind_some, toIntS_spec _ l1 (by omega) (by omega), Option.bind_some, sByWish_spec _ _ _ (by omega) (by omega) (by omega) r hr1 hr2, Option.bind_some, Option.bind_some, Option.bind_some, ibyWish_spec _ _ _ (by omega) (by omega) (by omega) r hr1 hr2, Option.bind_some, eqIntS_spec _ _ _ (by omega) (by omega), Option.bind_some, if_pos (by simp), Option.bind_some, eqIntS_spec _ _ _ (by omega) (by omega), Option.bind_some, if_pos (by simp), Option.bind_some, eqIntS_spec _ _ _ (by omega) (by omega), Option.bind_some, if_pos (by simp), markIntS_spec _ _ _ (by omega) (by omega) (by omega), Option.bind_some, markIntS_spec _ _ _ (by simp; omega) (by omega) (by omega), Option.bind_some]
  rw [if_neg (by simp; omega), Option.bind_some]
  simp only [laws_FnExactByWish.j0]
  rw [if_neg (by simp), markIntS_spec _ _ _ (by omega) (by omega) (by omega), Option.bind_some, heldIntS_spec _ _ _ (by omega) (by omega) (by omega), Option.bind_some, if_neg (by omega), if_pos rfl]
  rw [toIntS_spec _ l0 (by omega) (by omega), Option.bind_some, toIntS_spec _ l1 (by omega) (by omega), Option.bind_some, ibyWish_spec _ _ _ (by omega) (by omega) (by omega) r hr1 hr2, Option.bind_some, eqIntS_spec _ _ _ (by omega) (by omega), Option.bind_some, if_pos (by simp), Option.bind_some, if_neg (by omega), if_pos rfl]

end Go.Proofs.Yteemdklfjocidaa.Pure
