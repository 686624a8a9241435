/- The law FnExactInheritSeats holds: the program's function answers as the reference does at every drawn input, and has the law's property; no condition. -/
import Derived.Test.YteknmkikpcdjbaaPFnExactInheritSeatsx4
set_option linter.unusedVariables false
set_option linter.unusedSimpArgs false
namespace Go.Proofs.Yteknmkikpcdjbaa.Pure
open Go.RowKit Go.Proofs.Yteknmkikpcdjbaa.PFnExactInheritSeats Go.Proofs.YteknmkikpcdjbaaW.PrintWords Go.Proofs.YteknmkikpcdjbaaW.PrintLast Go.Proofs.YteknmkikpcdjbaaW.PrintMore

/-! ### base -/
theorem fuel {k n : Nat} (h : n < k) : ∃ m, k = m + 1 ∧ n ≤ m := ⟨k - 1, by omega, by omega⟩
theorem wrap_id {x : Int} (h1 : -9223372036854775808 ≤ x) (h2 : x ≤ 9223372036854775807) : wrap64 x = x := by unfold wrap64; omega
theorem wrap_succ {i : Nat} (h : i < 4611686018427387904) : wrap64 ((i : Int) + 1) = ((i + 1 : Nat) : Int) := by unfold wrap64; omega
theorem wrap_succ' {i : Int} (h0 : 0 ≤ i) (h : i < 4611686018427387904) : wrap64 (i + 1) = i + 1 := by unfold wrap64; omega
theorem wrap_wrap (x : Int) : wrap64 (wrap64 x) = wrap64 x := by unfold wrap64; omega
theorem wrap_add_l (x y : Int) : wrap64 (wrap64 x + y) = wrap64 (x + y) := by unfold wrap64; omega
theorem wrap_add_r (x y : Int) : wrap64 (x + wrap64 y) = wrap64 (x + y) := by unfold wrap64; omega
theorem wrap_sub_l (x y : Int) : wrap64 (wrap64 x - y) = wrap64 (x - y) := by unfold wrap64; omega
theorem rd_get {xs : List Int} {i : Nat} (h : i < xs.length) : rd xs (i : Int) = xs[i] := by
  simp [rd, List.getD_eq_getElem?_getD, List.getElem?_eq_getElem h]
theorem drop_rd {xs : List Int} {i : Nat} (h : i < xs.length) : xs.drop i = rd xs (i : Int) :: xs.drop (i + 1) := by
  rw [rd_get h, List.drop_eq_getElem_cons h]
theorem drop_end {α : Type} {xs : List α} {i : Nat} (h : xs.length ≤ i) : xs.drop i = [] := List.drop_eq_nil_of_le h
theorem take_rd {xs : List Int} {i : Nat} (h : i < xs.length) : xs.take (i + 1) = xs.take i ++ [rd xs (i : Int)] := by
  rw [rd_get h, List.take_succ_eq_append_getElem h]
theorem rd_mem {xs : List Int} {i : Nat} (h : i < xs.length) : rd xs (i : Int) ∈ xs := by
  rw [rd_get h]; exact List.getElem_mem h
theorem rd_mem' {xs : List Int} {i : Int} (h0 : 0 ≤ i) (h : i < (xs.length : Int)) : rd xs i ∈ xs := by
  obtain ⟨j, rfl⟩ := Int.eq_ofNat_of_zero_le h0
  exact rd_mem (by omega)
theorem mem_rd {xs : List Int} {x : Int} (h : x ∈ xs) : ∃ i : Nat, i < xs.length ∧ rd xs (i : Int) = x := by
  obtain ⟨i, hi, he⟩ := List.getElem_of_mem h
  exact ⟨i, hi, by rw [rd_get hi, he]⟩
theorem ext_rd {xs ys : List Int} (hl : xs.length = ys.length) (h : ∀ i : Nat, i < xs.length → rd xs (i : Int) = rd ys (i : Int)) : xs = ys := by
  apply List.ext_getElem hl
  intro i h1 h2
  have := h i h1
  rwa [rd_get h1, rd_get h2] at this
theorem rd_set {xs : List Int} {i j : Nat} {v : Int} (hj : j < xs.length) : rd (xs.set i v) (j : Int) = if i = j then v else rd xs (j : Int) := by
  rw [rd_get (by simpa using hj), rd_get hj, List.getElem_set]
theorem rd_set_ne {xs : List Int} {i j : Nat} {v : Int} (h : i ≠ j) : rd (xs.set i v) (j : Int) = rd xs (j : Int) := by
  simp only [rd, List.getD_eq_getElem?_getD, Int.toNat_natCast, List.getElem?_set_ne h]
theorem rd_append_l {xs ys : List Int} {i : Nat} (h : i < xs.length) : rd (xs ++ ys) (i : Int) = rd xs (i : Int) := by
  rw [rd_get (by simp; omega), rd_get h, List.getElem_append_left h]
theorem rd_append_r {xs ys : List Int} {i : Nat} (h : xs.length ≤ i) (h2 : i < xs.length + ys.length) : rd (xs ++ ys) (i : Int) = rd ys ((i - xs.length : Nat) : Int) := by
  rw [rd_get (by simp; omega), rd_get (by omega), List.getElem_append_right h]
theorem rd_replicate {n i : Nat} {v : Int} (h : i < n) : rd (List.replicate n v) (i : Int) = v := by
  rw [rd_get (by simpa using h)]; simp
theorem rd_mapRange {n i : Nat} {f : Nat → Int} (h : i < n) : rd ((List.range n).map f) (i : Int) = f i := by
  rw [rd_get (by simpa using h)]; simp
theorem toNat_cast (i : Nat) : ((i : Int) : Int).toNat = i := by simp
theorem mx_max (a b : Int) : mx a b = max a b := by unfold mx; omega
theorem mn_min (a b : Int) : mn a b = min a b := by unfold mn; omega
theorem bits_xor {a b : Int} (ha : 0 ≤ a) (ha2 : a < 4611686018427387904) (hb : 0 ≤ b) (hb2 : b < 4611686018427387904) : 0 ≤ Go.bits .xor .i64 a b ∧ Go.bits .xor .i64 a b < 4611686018427387904 := by
  obtain ⟨a, rfl⟩ := Int.eq_ofNat_of_zero_le ha
  obtain ⟨b, rfl⟩ := Int.eq_ofNat_of_zero_le hb
  have h1 : a < 2 ^ 62 := by omega
  have h2 : b < 2 ^ 62 := by omega
  have h3 := Nat.xor_lt_two_pow h1 h2
  have e : Go.bits .xor .i64 (a : Int) (b : Int) = IntKind.i64.wrap (((BitVec.ofInt 64 (a : Int)) ^^^ (BitVec.ofInt 64 (b : Int))).toNat : Int) := rfl
  have ha' : (BitVec.ofInt 64 (a : Int)).toNat = a := by rw [BitVec.ofInt_natCast, BitVec.toNat_ofNat]; exact Nat.mod_eq_of_lt (by omega)
  have hb' : (BitVec.ofInt 64 (b : Int)).toNat = b := by rw [BitVec.ofInt_natCast, BitVec.toNat_ofNat]; exact Nat.mod_eq_of_lt (by omega)
  rw [e, BitVec.toNat_xor, ha', hb', IntKind.wrap_i64]
  omega
theorem cast0 : ((0 : Nat) : Int) = 0 := rfl
theorem w01 : wrap64 (0 + 1) = 1 := by unfold wrap64; omega
theorem w12 : wrap64 (1 + 1) = 2 := by unfold wrap64; omega
theorem w23 : wrap64 (2 + 1) = 3 := by unfold wrap64; omega
theorem w34 : wrap64 (3 + 1) = 4 := by unfold wrap64; omega
theorem w45 : wrap64 (4 + 1) = 5 := by unfold wrap64; omega

/-! ### listm -/
theorem pigeon : ∀ (n : Nat) (xs : List Int), xs.Nodup → (∀ x ∈ xs, 0 ≤ x ∧ x < (n : Int)) → xs.length ≤ n := by
  intro n
  induction n with
  | zero =>
    intro xs _ h
    cases xs with
    | nil => simp
    | cons x xs => have := h x (by simp); omega
  | succ n ih =>
    intro xs hn h
    by_cases hm : (n : Int) ∈ xs
    · have h1 := ih (xs.erase (n : Int)) (hn.erase _) (fun x hx => by
        have h2 := (hn.mem_erase_iff).1 hx
        have h3 := h x h2.2
        have h4 := h2.1
        omega)
      rw [List.length_erase_of_mem hm] at h1
      omega
    · have h1 := ih xs hn (fun x hx => by
        have h3 := h x hx
        have h4 : x ≠ (n : Int) := fun e => hm (e ▸ hx)
        omega)
      omega
/-- Fewer different members than there are: one is missing. -/
theorem one_missing : ∀ (n : Nat) (xs : List Int), xs.length < n → ∃ j : Nat, j < n ∧ (j : Int) ∉ xs := by
  intro n
  induction n with
  | zero => intro xs h; omega
  | succ n ih =>
    intro xs h
    by_cases hm : (n : Int) ∈ xs
    · obtain ⟨j, hj, hx⟩ := ih (xs.erase (n : Int)) (by rw [List.length_erase_of_mem hm]; have := List.length_pos_of_mem hm; omega)
      refine ⟨j, by omega, fun hmem => hx ?_⟩
      exact (List.mem_erase_of_ne (by omega)).2 hmem
    · exact ⟨n, by omega, hm⟩
/-- Members, one after the other, in range and not seen yet. -/
def memB (n : Int) : List Int → List Int → Bool
  | _, [] => true
  | seen, x :: rest => decide (0 ≤ x ∧ x < n) && (!decide (x ∈ seen) && memB n (seen ++ [x]) rest)
theorem memB_iff (n : Int) : ∀ (xs seen : List Int), memB n seen xs = true ↔ (∀ x ∈ xs, 0 ≤ x ∧ x < n ∧ x ∉ seen) ∧ xs.Nodup := by
  intro xs
  induction xs with
  | nil => intro seen; simp [memB]
  | cons a xs ih =>
    intro seen
    simp only [memB, Bool.and_eq_true, decide_eq_true_eq, Bool.not_eq_true', decide_eq_false_iff_not, ih, List.mem_cons, List.mem_append, List.not_mem_nil, or_false, List.nodup_cons]
    constructor
    · rintro ⟨⟨h1, h2⟩, h3, h4, h5⟩
      refine ⟨?_, fun ha => (h4 a ha).2.2 (Or.inr rfl), h5⟩
      rintro x (rfl | hx)
      · exact ⟨h1, h2, h3⟩
      · obtain ⟨a1, a2, a3⟩ := h4 x hx
        exact ⟨a1, a2, fun h => a3 (Or.inl h)⟩
    · rintro ⟨h1, h2, h3⟩
      obtain ⟨a1, a2, a3⟩ := h1 a (Or.inl rfl)
      refine ⟨⟨a1, a2⟩, a3, fun x hx => ?_, h3⟩
      obtain ⟨b1, b2, b3⟩ := h1 x (Or.inr hx)
      refine ⟨b1, b2, ?_⟩
      rintro (h | rfl)
      · exact b3 h
      · exact h2 hx
/-- Different members of a body. -/
def GoodM (xs : List Int) (n : Int) : Prop := xs.Nodup ∧ ∀ x ∈ xs, 0 ≤ x ∧ x < n
instance (xs : List Int) (n : Int) : Decidable (GoodM xs n) := inferInstanceAs (Decidable (_ ∧ _))
theorem memB_good (n : Int) (xs : List Int) : memB n [] xs = decide (GoodM xs n) := by
  rw [Bool.eq_iff_iff, memB_iff, decide_eq_true_eq]
  unfold GoodM
  constructor
  · rintro ⟨h, hn⟩
    exact ⟨hn, fun x hx => ⟨(h x hx).1, (h x hx).2.1⟩⟩
  · rintro ⟨hn, h⟩
    exact ⟨fun x hx => ⟨(h x hx).1, (h x hx).2, by simp⟩, hn⟩
theorem GoodM.le {xs : List Int} {n : Nat} (h : GoodM xs (n : Int)) : xs.length ≤ n := pigeon n xs h.1 h.2
/-- The first place of a number behind some. -/
def idxM : List Int → Int → Nat → Int
  | [], _, _ => -1
  | y :: ys, x, i => if y = x then (i : Int) else idxM ys x (i + 1)
theorem idxM_neg : ∀ (xs : List Int) (x : Int) (i : Nat), idxM xs x i < 0 ↔ x ∉ xs := by
  intro xs
  induction xs with
  | nil => intro x i; simp [idxM]
  | cons y ys ih =>
    intro x i
    simp only [idxM]
    by_cases e : y = x
    · rw [if_pos e]; simp [e]
    · rw [if_neg e, ih]
      have e' : ¬ x = y := fun h => e h.symm
      simp [e']
theorem idxM_nonneg (xs : List Int) (x : Int) (i : Nat) : 0 ≤ idxM xs x i ↔ x ∈ xs := by
  have := idxM_neg xs x i
  by_cases h : x ∈ xs
  · simp only [h, not_true, iff_false] at this
    simp [h]; omega
  · simp only [h, not_false_iff, iff_true] at this
    simp [h]; omega
theorem idxM_at : ∀ (xs : List Int) (x : Int) (i : Nat), x ∈ xs → ∃ j : Nat, idxM xs x i = ((i + j : Nat) : Int) ∧ j < xs.length ∧ rd xs (j : Int) = x ∧ ∀ q : Nat, q < j → rd xs (q : Int) ≠ x := by
  intro xs
  induction xs with
  | nil => intro x i h; simp at h
  | cons y ys ih =>
    intro x i h
    by_cases e : y = x
    · exact ⟨0, by simp [idxM, e], by simp, by simp [rd, e], fun q hq => by omega⟩
    · have hx : x ∈ ys := by
        rcases List.mem_cons.1 h with h | h
        · exact absurd h.symm e
        · exact h
      obtain ⟨j, h1, h2, h3, h4⟩ := ih x (i + 1) hx
      refine ⟨j + 1, by simp only [idxM, if_neg e, h1]; omega, by simp; omega, ?_, ?_⟩
      · rw [← h3, rd_get (by simp; omega), rd_get h2]; simp
      · intro q hq
        cases q with
        | zero => rw [rd_get (by simp)]; simpa using e
        | succ q => have := h4 q (by omega); rw [rd_get (by simp; omega)]; rw [rd_get (by omega)] at this; simpa using this
theorem sum_set : ∀ (xs : List Int) (i : Nat) (v : Int), i < xs.length → (xs.set i v).sum = xs.sum - rd xs (i : Int) + v := by
  intro xs
  induction xs with
  | nil => intro i v h; simp at h
  | cons x xs ih =>
    intro i v h
    cases i with
    | zero => simp [rd]; omega
    | succ i =>
      have h2 : i < xs.length := by simpa using h
      have := ih i v h2
      have e : rd (x :: xs) ((i + 1 : Nat) : Int) = rd xs (i : Int) := by rw [rd_get h, rd_get h2]; simp
      simp only [List.set_cons_succ, List.sum_cons, this, e]
      omega
theorem sum_replicate0 (n : Nat) : (List.replicate n (0 : Int)).sum = 0 := by
  induction n with
  | zero => rfl
  | succ n ih => simp [List.replicate_succ, ih]
theorem set_fill {α : Type} (A : List α) (d : Nat) (z v : α) : (A ++ List.replicate (d + 1) z).set A.length v = (A ++ [v]) ++ List.replicate d z := by
  rw [List.set_append_right _ _ (Nat.le_refl _)]
  simp [List.replicate_succ]
theorem set_fill' {α : Type} {A : List α} {i d : Nat} {z v : α} (h : A.length = i) : (A ++ List.replicate (d + 1) z).set i v = (A ++ [v]) ++ List.replicate d z := by
  subst h; exact set_fill A d z v
theorem sum_bound : ∀ (xs : List Int) (lo hi : Int), (∀ x ∈ xs, lo ≤ x ∧ x ≤ hi) → (xs.length : Int) * lo ≤ xs.sum ∧ xs.sum ≤ (xs.length : Int) * hi := by
  intro xs lo hi
  induction xs with
  | nil => intro _; simp
  | cons x xs ih =>
    intro h
    have h1 := ih (fun y hy => h y (by simp [hy]))
    have h2 := h x (by simp)
    have e1 : ((x :: xs).length : Int) * lo = (xs.length : Int) * lo + lo := by simp [Int.add_mul]
    have e2 : ((x :: xs).length : Int) * hi = (xs.length : Int) * hi + hi := by simp [Int.add_mul]
    rw [e1, e2, List.sum_cons]
    omega

/-! ### inherit -/
/-- An order of seats. -/
def OrdOk (xs : List Int) : Prop := 1 ≤ xs.length ∧ xs.length ≤ 12 ∧ GoodM xs (xs.length : Int)
/-- The order with an heir behind a seat. -/
def inhM (xs : List Int) (s : Int) : List Int := xs.take (idxM xs s 0 + 1).toNat ++ [(xs.length : Int)] ++ xs.drop (idxM xs s 0 + 1).toNat
def InhOk (xs : List Int) (s : Int) : Prop := OrdOk xs ∧ xs.length < 12 ∧ s ∈ xs
theorem inhM_ex (xs : List Int) (s : Int) : ∃ r : List Int, (InhOk xs s → r = inhM xs s) ∧ (¬ InhOk xs s → r = []) := by
  by_cases h : InhOk xs s
  · exact ⟨_, fun _ => rfl, fun h1 => absurd h h1⟩
  · exact ⟨[], fun h1 => absurd h1 h, fun _ => rfl⟩
theorem idx_place {xs : List Int} {s : Int} (h : s ∈ xs) : ∃ j : Nat, idxM xs s 0 = (j : Int) ∧ j < xs.length ∧ rd xs (j : Int) = s ∧ ∀ q : Nat, q < j → rd xs (q : Int) ≠ s := by
  obtain ⟨j, h1, h2⟩ := idxM_at xs s 0 h
  exact ⟨j, by rw [h1, Nat.zero_add], h2⟩
theorem idx_eq {xs : List Int} {s : Int} {j : Nat} (hj : j < xs.length) (h1 : rd xs (j : Int) = s) (h2 : ∀ q : Nat, q < j → rd xs (q : Int) ≠ s) : idxM xs s 0 = (j : Int) := by
  obtain ⟨i, e1, e2, e3, e4⟩ := idx_place (h1 ▸ rd_mem hj)
  rw [e1]
  rcases Nat.lt_or_ge i j with h | h
  · exact absurd e3 (h2 i h)
  · rcases Nat.lt_or_ge j i with h' | h'
    · exact absurd h1 (e4 j h')
    · congr 1; omega
theorem inh_facts {xs : List Int} {s : Int} (h : InhOk xs s) : ∃ p : Nat, p < xs.length ∧ idxM xs s 0 = (p : Int) ∧ inhM xs s = xs.take (p + 1) ++ [(xs.length : Int)] ++ xs.drop (p + 1) ∧ (inhM xs s).length = xs.length + 1 ∧ OrdOk (inhM xs s) ∧ idxM (inhM xs s) (xs.length : Int) 0 = ((p + 1 : Nat) : Int) ∧ idxM (inhM xs s) s 0 = (p : Int) := by
  obtain ⟨⟨h1, h2, h3, h4⟩, h5, h6⟩ := h
  obtain ⟨p, e1, e2, e3, e4⟩ := idx_place h6
  have e5 : inhM xs s = xs.take (p + 1) ++ [(xs.length : Int)] ++ xs.drop (p + 1) := by
    unfold inhM; rw [e1, show ((p : Int) + 1).toNat = p + 1 by omega]
  have hlen : (inhM xs s).length = xs.length + 1 := by rw [e5]; simp; omega
  have hperm : (inhM xs s).Perm ((xs.length : Int) :: xs) := by
    rw [e5]
    have q : (xs.take (p + 1) ++ [(xs.length : Int)] ++ xs.drop (p + 1)).Perm ([(xs.length : Int)] ++ (xs.take (p + 1) ++ xs.drop (p + 1))) := by
      rw [← List.append_assoc]
      exact List.Perm.append_right _ List.perm_append_comm
    rw [List.take_append_drop] at q
    exact q
  have hn : (xs.length : Int) ∉ xs := fun hh => by have := h4 _ hh; omega
  have rdp : ∀ q : Nat, q < p + 1 → rd (inhM xs s) (q : Int) = rd xs (q : Int) := by
    intro q hq
    rw [e5, List.append_assoc, rd_append_l (by simp; omega), rd_get (by simp; omega), rd_get (show q < xs.length by omega), List.getElem_take]
  refine ⟨p, e2, e1, e5, hlen, ⟨by omega, by omega, ?_, ?_⟩, idx_eq (by omega) ?_ ?_, idx_eq (by omega) (by rw [rdp _ (by omega), e3]) (fun q hq => by rw [rdp _ (by omega)]; exact e4 q hq)⟩
  · rw [hperm.nodup_iff, List.nodup_cons]; exact ⟨hn, h3⟩
  · intro x hx
    rcases List.mem_cons.1 (hperm.mem_iff.1 hx) with rfl | hx
    · omega
    · have := h4 x hx; omega
  · have hA : (xs.take (p + 1)).length = p + 1 := by simp; omega
    rw [e5, List.append_assoc, rd_append_r (by omega) (by rw [hA]; simp), hA, Nat.sub_self]
    simp [rd]
  · intro q hq
    rw [rdp q hq]
    exact fun hh => hn (hh ▸ rd_mem (by omega))

/-! ### different -/
theorem flags_set {fl : List Bool} {n : Int} {seen : List Int} {x : Int} (hl : (fl.length : Int) = n) (h : ∀ j : Int, 0 ≤ j → j < n → rdOf false fl j = decide (j ∈ seen)) (h0 : 0 ≤ x) (h1 : x < n) :
    ∀ j : Int, 0 ≤ j → j < n → rdOf false (fl.set x.toNat true) j = decide (j ∈ seen ++ [x]) := by
  intro j hj0 hj
  have := h j hj0 hj
  simp only [rdOf, List.getD_eq_getElem?_getD, List.getElem?_set] at this ⊢
  by_cases e : x = j
  · subst e
    rw [if_pos rfl, if_pos (by omega)]
    simp
  · rw [if_neg (by omega), this]
    have : ¬ j = x := fun h => e h.symm
    simp [this]
theorem different_l0 (xs : List Int) (n : Int) (hb : xs.length < 4611686018427387904) : ∀ (d k i : Nat) (fl : List Bool), (fl.length : Int) = n → (∀ j : Int, 0 ≤ j → j < n → rdOf false fl j = decide (j ∈ xs.take i)) → i + d = xs.length → d < k → impl_differentBelow.l0 k n fl xs (xs.length : Int) (i : Int) = some (memB n (xs.take i) (xs.drop i)) := by
  intro d
  induction d with
  | zero =>
    intro k i fl hl hf hi hk
    obtain ⟨k, rfl, -⟩ := fuel hk
    simp only [impl_differentBelow.l0]
    rw [if_neg (by omega), drop_end (by omega)]
    simp [memB]
  | succ d ih =>
    intro k i fl hl hf hi hk
    obtain ⟨k, rfl, hk⟩ := fuel hk
    simp only [impl_differentBelow.l0]
    rw [if_pos (by omega), if_pos (by omega), if_pos (by omega), wrap_succ (by omega), drop_rd (by omega)]
    simp only [memB]
    by_cases h1 : rd xs (i : Int) < 0
    · rw [if_pos h1, decide_eq_false (by omega)]; rfl
    · rw [if_neg h1]
      by_cases h2 : rd xs (i : Int) ≥ n
      · rw [if_pos h2, decide_eq_false (by omega)]; rfl
      · rw [if_neg h2, if_pos (by omega), if_pos (by omega), hf _ (by omega) (by omega), decide_eq_true (show 0 ≤ rd xs (i : Int) ∧ rd xs (i : Int) < n by omega)]
        by_cases h3 : rd xs (i : Int) ∈ xs.take i
        · rw [decide_eq_true h3, if_pos rfl]; rfl
        · rw [decide_eq_false h3, if_neg (by decide), ih k (i + 1) _ (by simpa using hl) (by rw [take_rd (by omega)]; exact flags_set hl hf (by omega) (by omega)) (by omega) (by omega), take_rd (by omega)]; rfl
theorem different_spec (k : Nat) (xs : List Int) (n : Int) (hn : 0 ≤ n) (hn2 : n ≤ 281474976710656) (hb : xs.length < 4611686018427387904) (hk : xs.length < k) : impl_differentBelow.f k xs n = some (decide (GoodM xs n)) := by
  unfold impl_differentBelow.f
  by_cases h : (xs.length : Int) > n
  · rw [if_pos h, decide_eq_false]
    intro hg
    obtain ⟨m, rfl⟩ := Int.eq_ofNat_of_zero_le hn
    have := hg.le
    omega
  · rw [if_neg h, if_pos hn, if_pos (by omega)]
    have := different_l0 xs n hb xs.length k 0 (List.replicate n.toNat false) (by simp; omega) (fun j h0 h1 => by simp [rdOf, List.getD_eq_getElem?_getD, List.getElem?_replicate]; split <;> rfl) (by omega) hk
    rw [← memB_good]
    simpa using this

/-! ### index -/
theorem index_l0 (xs : List Int) (x : Int) (hb : xs.length < 4611686018427387904) : ∀ (d k i : Nat), i + d = xs.length → d < k → slices_Index_int_int.l0 k xs x (xs.length : Int) (i : Int) = some (idxM (xs.drop i) x i) := by
  intro d
  induction d with
  | zero =>
    intro k i hi hk
    obtain ⟨k, rfl, -⟩ := fuel hk
    simp only [slices_Index_int_int.l0]
    rw [if_neg (by omega), drop_end (by omega)]
    simp [idxM]
  | succ d ih =>
    intro k i hi hk
    obtain ⟨k, rfl, hk⟩ := fuel hk
    simp only [slices_Index_int_int.l0]
    rw [if_pos (by omega), if_pos (by omega), if_pos (by omega), wrap_succ (by omega), drop_rd (by omega)]
    simp only [idxM]
    rw [ih k (i + 1) (by omega) (by omega)]
    by_cases e : x = rd xs (i : Int)
    · rw [if_pos e, if_pos e.symm]
    · rw [if_neg e, if_neg (fun h => e h.symm)]
theorem index_spec (k : Nat) (xs : List Int) (x : Int) (hb : xs.length < 4611686018427387904) (hk : xs.length < k) : slices_Index_int_int.f k xs x = some (idxM xs x 0) := by
  unfold slices_Index_int_int.f
  have := index_l0 xs x hb xs.length k 0 (by omega) hk
  simpa using this

/-! ### iorder -/
theorem ivalidOrder_spec (k : Nat) (xs : List Int) (hb : xs.length ≤ 1048576) (hk : 1048600 < k) : ∃ c : Bool, impl_ValidOrder.f k xs = some c ∧ (c = true ↔ OrdOk xs) := by
  unfold impl_ValidOrder.f
  by_cases h1 : (xs.length : Int) ≥ 1
  · by_cases h2 : (xs.length : Int) ≤ 12
    · rw [if_pos h1, if_pos h2, different_spec _ _ _ (by omega) (by omega) (by omega) (by omega), Option.bind_some]
      refine ⟨_, rfl, ?_⟩
      rw [decide_eq_true_iff]
      exact ⟨fun h => ⟨by omega, by omega, h⟩, fun h => h.2.2⟩
    · rw [if_pos h1, if_neg h2]
      exact ⟨false, rfl, fun h => (by cases h), fun h => by have := h.2.1; omega⟩
  · rw [if_neg h1]
    exact ⟨false, rfl, fun h => (by cases h), fun h => by have := h.1; omega⟩
theorem turnOf_spec (k : Nat) (xs : List Int) (s : Int) (hb : xs.length ≤ 1048576) (hk : 1048600 < k) : ∃ t : Int, impl_TurnOf.f k xs s = some t ∧ (OrdOk xs → t = idxM xs s 0) ∧ (¬ OrdOk xs → t = -1) := by
  unfold impl_TurnOf.f
  obtain ⟨c, hc, hcc⟩ := ivalidOrder_spec k xs hb hk
  rw [hc, Option.bind_some]
  by_cases h : c = true
  · rw [if_pos h, index_spec _ _ _ (by omega) (by omega), Option.bind_some]
    exact ⟨_, rfl, fun _ => rfl, fun hh => absurd (hcc.1 h) hh⟩
  · rw [if_neg h]
    exact ⟨_, rfl, fun hh => absurd (hcc.2 hh) h, fun _ => rfl⟩
theorem iinherit_spec (k : Nat) (xs : List Int) (s : Int) (hb : xs.length ≤ 1048576) (hk : 1048600 < k) (r : List Int) (h1 : InhOk xs s → r = inhM xs s) (h2 : ¬ InhOk xs s → r = []) : impl_InheritSeats.f k xs s = some r := by
  unfold impl_InheritSeats.f
  obtain ⟨t, ht, ht1, ht2⟩ := turnOf_spec k xs s hb hk
  rw [ht, Option.bind_some]
  obtain ⟨k, rfl, hk⟩ := fuel hk
  simp only [impl_InheritSeats.j0]
  by_cases h : t < 0
  · rw [if_pos h, if_pos trivial, h2 fun hh => ?_]
    have := ht1 hh.1
    have := (idxM_nonneg xs s 0).2 hh.2.2
    omega
  · rw [if_neg h]
    have ho : OrdOk xs := Classical.byContradiction fun hh => by have := ht2 hh; omega
    have hti := ht1 ho
    have hmem : s ∈ xs := (idxM_nonneg xs s 0).1 (by omega)
    by_cases h3 : (xs.length : Int) ≥ 12
    · rw [if_pos (by simpa using h3), h2 fun hh => by have := hh.2.1; omega]
    · rw [if_neg (by simpa using h3), h1 ⟨ho, by omega, hmem⟩]
      obtain ⟨p, e1, e2, -⟩ := idx_place hmem
      have := ho.2.1
      unfold slices_Clone_int_int.f slices_Insert_int_int.f inhM
      rw [if_pos (by omega), Option.bind_some, hti, e1, wrap_id (by omega) (by omega), if_pos ⟨rfl, by omega, by omega, by omega⟩, Option.bind_some]

/-! ### inrange -/
theorem inRange_spec (a lo up : Int) : spec_inRange.f a lo up = some (decide (lo ≤ a ∧ a ≤ up)) := by
  unfold spec_inRange.f
  by_cases h : lo ≤ a <;> simp [h]

/-! ### place -/
theorem placeIn_l0 (xs : List Int) (x : Int) (hb : xs.length < 4611686018427387904) : ∀ (d k i : Nat), i + d = xs.length → d < k → spec_placeIn.l0 k xs x (i : Int) = some (idxM (xs.drop i) x i) := by
  intro d
  induction d with
  | zero =>
    intro k i hi hk
    obtain ⟨k, rfl, -⟩ := fuel hk
    simp only [spec_placeIn.l0]
    rw [if_neg (by omega), drop_end (by omega)]
    simp [idxM]
  | succ d ih =>
    intro k i hi hk
    obtain ⟨k, rfl, hk⟩ := fuel hk
    simp only [spec_placeIn.l0]
    rw [if_pos (by omega), if_pos (by omega), wrap_succ (by omega), drop_rd (by omega)]
    simp only [idxM]
    rw [ih k (i + 1) (by omega) (by omega)]
    split <;> rfl
theorem placeIn_spec (k : Nat) (xs : List Int) (x : Int) (hb : xs.length < 4611686018427387904) (hk : xs.length < k) : spec_placeIn.f k xs x = some (idxM xs x 0) := by
  unfold spec_placeIn.f
  have := placeIn_l0 xs x hb xs.length k 0 (by omega) hk
  simpa using this

/-! ### members -/
theorem validMembers_l0 (xs : List Int) (n : Int) (hb : xs.length < 4611686018427387904) : ∀ (d k i : Nat), i + d = xs.length → xs.length + d < k → spec_validMembers.l0 k xs n (i : Int) = some (memB (wrap64 (n - 1) + 1) (xs.take i) (xs.drop i)) := by
  intro d
  induction d with
  | zero =>
    intro k i hi hk
    obtain ⟨k, rfl, -⟩ := fuel hk
    simp only [spec_validMembers.l0]
    rw [if_neg (by omega), drop_end (by omega)]
    simp [memB]
  | succ d ih =>
    intro k i hi hk
    obtain ⟨k, rfl, hk⟩ := fuel hk
    simp only [spec_validMembers.l0]
    rw [if_pos (by omega), if_pos (by omega), inRange_spec, wrap_succ (i := i) (by omega), drop_rd (by omega), toNat_cast]
    rw [placeIn_spec _ _ _ (by simp; omega) (by simp; omega)]
    simp only [Option.bind_some]
    rw [if_pos (show (i : Int) ≤ (xs.length : Int) by omega), ih k (i + 1) (by omega) (by omega), take_rd (by omega)]
    simp only [memB]
    by_cases h1 : 0 ≤ rd xs (i : Int) ∧ rd xs (i : Int) < wrap64 (n - 1) + 1
    · rw [decide_eq_true h1, decide_eq_true (show 0 ≤ rd xs (i : Int) ∧ rd xs (i : Int) ≤ wrap64 (n - 1) by omega), if_pos rfl]
      have h2 := idxM_nonneg (xs.take i) (rd xs (i : Int)) 0
      by_cases h3 : rd xs (i : Int) ∈ xs.take i
      · rw [if_pos (h2.2 h3), decide_eq_true h3]; rfl
      · rw [if_neg (fun h => h3 (h2.1 h)), decide_eq_false h3]; rfl
    · rw [decide_eq_false h1, decide_eq_false (show ¬ (0 ≤ rd xs (i : Int) ∧ rd xs (i : Int) ≤ wrap64 (n - 1)) by omega), if_neg (by decide)]; rfl
theorem validMembers_any (k : Nat) (xs : List Int) (n : Int) (hb : xs.length < 4611686018427387904) (hk : xs.length + xs.length < k) : spec_validMembers.f k xs n = some (decide (GoodM xs (wrap64 (n - 1) + 1))) := by
  unfold spec_validMembers.f
  have := validMembers_l0 xs n hb xs.length k 0 (by omega) hk
  rw [← memB_good]
  simpa using this
theorem validMembers_spec (k : Nat) (xs : List Int) (n : Int) (hn : -4611686018427387904 ≤ n) (hn2 : n ≤ 4611686018427387904) (hb : xs.length < 4611686018427387904) (hk : xs.length + xs.length < k) : spec_validMembers.f k xs n = some (decide (GoodM xs n)) := by
  rw [validMembers_any k xs n hb hk, wrap_id (x := n - 1) (by omega) (by omega), Int.sub_add_cancel]

/-! ### copyints -/
theorem copyInts_spec (l : List Int) (hl : l.length ≤ 1000000) : spec_copyInts.f l = some l := by
  unfold spec_copyInts.f
  simp only [Option.bind_some]
  rw [if_pos (by simp; omega)]; simp

/-! ### sinherit -/
theorem svalidOrder_spec (k : Nat) (xs : List Int) (hb : xs.length ≤ 1048576) (hk : 2097200 < k) : ∃ c : Bool, spec_validOrder.f k xs = some c ∧ (c = true ↔ OrdOk xs) := by
  unfold spec_validOrder.f
  rw [inRange_spec, Option.bind_some]
  by_cases h : 1 ≤ (xs.length : Int) ∧ (xs.length : Int) ≤ 12
  · rw [if_pos (by simpa using h), validMembers_spec _ _ _ (by omega) (by omega) (by omega) (by omega), Option.bind_some]
    refine ⟨_, rfl, ?_⟩
    rw [decide_eq_true_iff]
    exact ⟨fun h1 => ⟨by omega, by omega, h1⟩, fun h1 => h1.2.2⟩
  · rw [if_neg (by simpa using h)]
    exact ⟨false, rfl, fun h1 => (by cases h1), fun h1 => by have q1 := h1.1; have q2 := h1.2.1; omega⟩
theorem sinherit_spec (k : Nat) (xs : List Int) (s : Int) (hb : xs.length ≤ 1048576) (hk : 2097200 < k) (r : List Int) (h1 : InhOk xs s → r = inhM xs s) (h2 : ¬ InhOk xs s → r = []) : spec_InheritSeats.f k xs s = some r := by
  unfold spec_InheritSeats.f
  obtain ⟨c, hc, hcc⟩ := svalidOrder_spec k xs hb hk
  rw [hc, Option.bind_some]
  obtain ⟨k, rfl, hk⟩ := fuel hk
  simp only [spec_InheritSeats.j0]
  by_cases h : c = true
  · have ho := hcc.1 h
    rw [if_pos h]
    by_cases h3 : (xs.length : Int) = 12
    · rw [if_pos h3, if_pos trivial, h2 fun hh => by have := hh.2.1; omega]
    · rw [if_neg h3, placeIn_spec _ _ _ (by omega) (by omega), Option.bind_some]
      by_cases hm : s ∈ xs
      · obtain ⟨p, e1, e2, -⟩ := idx_place hm
        have := ho.2.1
        rw [if_neg (by simp; omega), placeIn_spec _ _ _ (by omega) (by omega), Option.bind_some, h1 ⟨ho, by omega, hm⟩]
        unfold inhM
        rw [e1, wrap_id (by omega) (by omega), if_pos (by omega), if_pos (by omega), copyInts_spec _ (by simp; omega), Option.bind_some, copyInts_spec _ (by simp; omega), Option.bind_some, if_pos (by simp; omega), Option.bind_some, if_pos (by simp; omega)]
      · have := (idxM_neg xs s 0).2 hm
        rw [if_pos (by simpa using this), h2 fun hh => hm hh.2.2]
  · rw [if_neg h, if_pos trivial, h2 fun hh => h (hcc.2 hh.1)]

/-! ### exactints -/
theorem toIntS_l0 (xs : List Int) (hb : xs.length < 4611686018427387904) : ∀ (d k i : Nat), i + d = xs.length → d < k → laws_toIntS.l0 k xs (xs.take i ++ List.replicate d 0) (i : Int) = some xs := by
  intro d
  induction d with
  | zero =>
    intro k i hi hk
    obtain ⟨k, rfl, -⟩ := fuel hk
    have e : xs.take i = xs := List.take_of_length_le (by omega)
    simp only [laws_toIntS.l0]
    rw [if_neg (by omega), e]; simp
  | succ d ih =>
    intro k i hi hk
    obtain ⟨k, rfl, hk⟩ := fuel hk
    have hti : (xs.take i).length = i := by simp; omega
    have := ih k (i + 1) (by omega) (by omega)
    rw [take_rd (by omega)] at this
    simp only [laws_toIntS.l0]
    rw [if_pos (by omega), if_pos (by omega), if_pos (by simp; omega), toNat_cast, set_fill' hti, wrap_succ (by omega)]
    exact this
theorem toIntS_spec (k : Nat) (xs : List Int) (hb : xs.length ≤ 35184372088832) (hk : xs.length < k) : laws_toIntS.f k xs = some xs := by
  unfold laws_toIntS.f
  have := toIntS_l0 xs (by omega) xs.length k 0 (by omega) hk
  rw [if_pos (by omega), if_pos (by simpa using hb), toNat_cast]
  simpa using this
theorem eqIntS_l0 (a b : List Int) (hl : a.length = b.length) (hb : a.length < 4611686018427387904) : ∀ (d k i : Nat), i + d = a.length → d < k → laws_eqIntS.l0 k a b (i : Int) = some (decide (a.drop i = b.drop i)) := by
  intro d
  induction d with
  | zero =>
    intro k i hi hk
    obtain ⟨k, rfl, -⟩ := fuel hk
    simp only [laws_eqIntS.l0]
    rw [if_neg (by omega), drop_end (by omega), drop_end (by omega)]
    simp
  | succ d ih =>
    intro k i hi hk
    obtain ⟨k, rfl, hk⟩ := fuel hk
    simp only [laws_eqIntS.l0]
    rw [if_pos (by omega), if_pos (by omega), if_pos (by omega), wrap_succ (by omega), drop_rd (xs := a) (i := i) (by omega), drop_rd (xs := b) (i := i) (by omega)]
    by_cases e : rd a (i : Int) = rd b (i : Int)
    · rw [if_pos e, ih k (i + 1) (by omega) (by omega), e]; simp
    · rw [if_neg e]; simp [e]
theorem eqIntS_spec (k : Nat) (a b : List Int) (hb : a.length < 4611686018427387904) (hk : a.length < k) : laws_eqIntS.f k a b = some (decide (a = b)) := by
  unfold laws_eqIntS.f
  by_cases h : a.length = b.length
  · first | rw [if_pos (by omega)] | rw [if_neg (by omega)]
    have := eqIntS_l0 a b h hb a.length k 0 (by omega) hk
    simpa using this
  · first | rw [if_neg (by omega)] | rw [if_pos (by omega)]
    have : a ≠ b := fun e => h (by rw [e])
    simp [this]

/-! ### marks -/
/-- Numbers one after the other. -/
def markI (n : Nat) (a : Int) : List Int := (List.range n).map fun i : Nat => a + (i : Int)
theorem markI_length (n : Nat) (a : Int) : (markI n a).length = n := by simp [markI]
theorem markI_succ (n : Nat) (a : Int) : markI (n + 1) a = markI n a ++ [a + (n : Int)] := by simp [markI, List.range_succ]
theorem markI_rd {n i : Nat} (a : Int) (h : i < n) : rd (markI n a) (i : Int) = a + (i : Int) := by rw [markI, rd_mapRange h]
theorem markIntS_l0 (xs : List Int) (a : Int) (ha : 0 ≤ a ∧ a ≤ 1000000000) (hb : xs.length ≤ 1000000000) : ∀ (d k i : Nat), i + d = xs.length → d < k → laws_markIntS.l0 k (markI i a ++ xs.drop i) (a + (i : Int)) (i : Int) = some (a + (xs.length : Int), markI xs.length a) := by
  intro d
  induction d with
  | zero =>
    intro k i hi hk
    obtain ⟨k, rfl, -⟩ := fuel hk
    simp only [laws_markIntS.l0]
    rw [if_neg (by rw [List.length_append, markI_length, List.length_drop]; omega), drop_end (by omega), List.append_nil, show i = xs.length by omega]
  | succ d ih =>
    intro k i hi hk
    obtain ⟨k, rfl, hk⟩ := fuel hk
    simp only [laws_markIntS.l0]
    rw [if_pos (by rw [List.length_append, markI_length, List.length_drop]; omega), if_pos (by omega), toNat_cast, wrap_succ (by omega), wrap_id (by omega) (by omega)]
    have := ih k (i + 1) (by omega) (by omega)
    have e : (markI i a ++ xs.drop i).set i (a + (i : Int)) = markI (i + 1) a ++ xs.drop (i + 1) := by
      rw [drop_rd (by omega), markI_succ, List.set_append_right _ _ (by rw [markI_length]; omega), markI_length, Nat.sub_self, List.set_cons_zero, List.append_assoc]
      rfl
    rw [e, show a + (i : Int) + 1 = a + ((i + 1 : Nat) : Int) by omega]
    exact this
theorem markIntS_spec (k : Nat) (xs : List Int) (a : Int) (ha : 0 ≤ a ∧ a ≤ 1000000000) (hb : xs.length ≤ 1000000000) (hk : xs.length < k) : laws_markIntS.f k xs a = some (a + (xs.length : Int), markI xs.length a) := by
  unfold laws_markIntS.f
  have := markIntS_l0 xs a ha hb xs.length k 0 (by omega) hk
  simpa [markI] using this
theorem heldIntS_l0 (n : Nat) (a : Int) (ha : 0 ≤ a ∧ a ≤ 1000000000) (hb : n ≤ 1000000000) : ∀ (d k i : Nat), i + d = n → d < k → laws_heldIntS.l0 k (markI n a) (a + (i : Int)) (i : Int) = some (a + (n : Int)) := by
  intro d
  induction d with
  | zero =>
    intro k i hi hk
    obtain ⟨k, rfl, -⟩ := fuel hk
    simp only [laws_heldIntS.l0]
    rw [if_neg (by rw [markI_length]; omega), show i = n by omega]
  | succ d ih =>
    intro k i hi hk
    obtain ⟨k, rfl, hk⟩ := fuel hk
    simp only [laws_heldIntS.l0]
    rw [if_pos (by rw [markI_length]; omega), if_pos (by omega), if_pos (markI_rd a (by omega)), wrap_succ (by omega), wrap_id (by omega) (by omega)]
    have := ih k (i + 1) (by omega) (by omega)
    rw [show a + (i : Int) + 1 = a + ((i + 1 : Nat) : Int) by omega]
    exact this
theorem heldIntS_spec (k n : Nat) (a : Int) (ha : 0 ≤ a ∧ a ≤ 1000000000) (hb : n ≤ 1000000000) (hk : n < k) : laws_heldIntS.f k (markI n a) a = some (a + (n : Int)) := by
  unfold laws_heldIntS.f
  have := heldIntS_l0 n a ha hb n k 0 (by omega) hk
  simpa using this

/-! ### the law -/
theorem FnExactInheritSeats : laws_FnExactInheritSeats.Pure := by
  intro l0 a1 m0 _ _ _
  refine ⟨4000000, ?_⟩
  unfold laws_FnExactInheritSeats.f
  by_cases h0 : (l0.length : Int) > 1048576
  · rw [if_pos h0]
  rw [if_neg h0]
  obtain ⟨r, hr1, hr2⟩ := inhM_ex l0 a1
  have hrl : r.length ≤ 1048576 := by
    by_cases h : InhOk l0 a1
    · obtain ⟨p, -, -, -, e, -⟩ := inh_facts h
      rw [hr1 h, e]; have := h.2.1; omega
    · rw [hr2 h]; simp
  rw [toIntS_spec _ l0 (by omega) (by omega), Option.bind_some, sinherit_spec _ _ _ (by omega) (by omega) r hr1 hr2, Option.bind_some, Option.bind_some, iinherit_spec _ _ _ (by omega) (by omega) r hr1 hr2, Option.bind_some, eqIntS_spec _ _ _ (by omega) (by omega), Option.bind_some, if_pos (by simp), Option.bind_some, eqIntS_spec _ _ _ (by omega) (by omega), Option.bind_some, if_pos (by simp), markIntS_spec _ _ _ (by omega) (by omega) (by omega), Option.bind_some]
  rw [if_neg (by simp; omega), Option.bind_some]
  simp only [laws_FnExactInheritSeats.j0]
  rw [if_neg (by simp), markIntS_spec _ _ _ (by omega) (by omega) (by omega), Option.bind_some, heldIntS_spec _ _ _ (by omega) (by omega) (by omega), Option.bind_some, if_neg (by omega), if_pos rfl]
  rw [toIntS_spec _ l0 (by omega) (by omega), Option.bind_some, iinherit_spec _ _ _ (by omega) (by omega) r hr1 hr2, Option.bind_some, eqIntS_spec _ _ _ (by omega) (by omega), Option.bind_some, if_pos (by simp), Option.bind_some, if_neg (by omega), if_pos rfl]

end Go.Proofs.Yteknmkikpcdjbaa.Pure
