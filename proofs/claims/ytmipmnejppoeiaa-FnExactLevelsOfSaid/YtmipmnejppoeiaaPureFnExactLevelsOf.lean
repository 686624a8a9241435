/- The law FnExactLevelsOf holds: the program's function answers as the reference does at every drawn input, and has the law's property; no condition. -/
import Derived.Test.YtmipmnejppoeiaaPFnExactLevelsOfx7
set_option linter.unusedVariables false
set_option linter.unusedSimpArgs false
namespace Go.Proofs.Ytmipmnejppoeiaa.Pure
open Go.RowKit Go.Proofs.Ytmipmnejppoeiaa.PFnExactLevelsOf Go.Proofs.YtmipmnejppoeiaaW.PrintWords Go.Proofs.YtmipmnejppoeiaaW.PrintLast Go.Proofs.YtmipmnejppoeiaaW.PrintMore

/-! ### base -/
theorem fuel {k n : Nat} (h : n < k) : ∃ m, k = m + 1 ∧ n ≤ m := ⟨k - 1, by omega, by omega⟩
theorem wrap_id {x : Int} (h1 : -9223372036854775808 ≤ x) (h2 : x ≤ 9223372036854775807) : wrap64 x = x := by unfold wrap64; omega
theorem wrap_succ {i : Nat} (h : i < 4611686018427387904) : wrap64 ((i : Int) + 1) = ((i + 1 : Nat) : Int) := by unfold wrap64; omega
theorem wrap_succ' {i : Int} (h0 : 0 ≤ i) (h : i < 4611686018427387904) : wrap64 (i + 1) = i + 1 := by unfold wrap64; omega
theorem wrap_wrap (x : Int) : wrap64 (wrap64 x) = wrap64 x := by unfold wrap64; omega
theorem wrap_add_l (x y : Int) : wrap64 (wrap64 x + y) = wrap64 (x + y) := by unfold wrap64; omega
theorem wrap_add_r (x y : Int) : wrap64 (x + wrap64 y) = wrap64 (x + y) := by unfold wrap64; omega
theorem wrap_sub_l (x y : Int) : wrap64 (wrap64 x - y) = wrap64 (x - y) := by unfold wrap64; omega
theorem rd_get {xs : List Int} {i : Nat} (h : i < xs.length) : rd xs (i : Int) = xs[i] := by
  simp [rd, List.getD_eq_getElem?_getD, List.getElem?_eq_getElem h]
theorem drop_rd {xs : List Int} {i : Nat} (h : i < xs.length) : xs.drop i = rd xs (i : Int) :: xs.drop (i + 1) := by
  rw [rd_get h, List.drop_eq_getElem_cons h]
theorem drop_end {α : Type} {xs : List α} {i : Nat} (h : xs.length ≤ i) : xs.drop i = [] := List.drop_eq_nil_of_le h
theorem take_rd {xs : List Int} {i : Nat} (h : i < xs.length) : xs.take (i + 1) = xs.take i ++ [rd xs (i : Int)] := by
  rw [rd_get h, List.take_succ_eq_append_getElem h]
theorem rd_mem {xs : List Int} {i : Nat} (h : i < xs.length) : rd xs (i : Int) ∈ xs := by
  rw [rd_get h]; exact List.getElem_mem h
theorem rd_mem' {xs : List Int} {i : Int} (h0 : 0 ≤ i) (h : i < (xs.length : Int)) : rd xs i ∈ xs := by
  obtain ⟨j, rfl⟩ := Int.eq_ofNat_of_zero_le h0
  exact rd_mem (by omega)
theorem mem_rd {xs : List Int} {x : Int} (h : x ∈ xs) : ∃ i : Nat, i < xs.length ∧ rd xs (i : Int) = x := by
  obtain ⟨i, hi, he⟩ := List.getElem_of_mem h
  exact ⟨i, hi, by rw [rd_get hi, he]⟩
theorem ext_rd {xs ys : List Int} (hl : xs.length = ys.length) (h : ∀ i : Nat, i < xs.length → rd xs (i : Int) = rd ys (i : Int)) : xs = ys := by
  apply List.ext_getElem hl
  intro i h1 h2
  have := h i h1
  rwa [rd_get h1, rd_get h2] at this
theorem rd_set {xs : List Int} {i j : Nat} {v : Int} (hj : j < xs.length) : rd (xs.set i v) (j : Int) = if i = j then v else rd xs (j : Int) := by
  rw [rd_get (by simpa using hj), rd_get hj, List.getElem_set]
theorem rd_set_ne {xs : List Int} {i j : Nat} {v : Int} (h : i ≠ j) : rd (xs.set i v) (j : Int) = rd xs (j : Int) := by
  simp only [rd, List.getD_eq_getElem?_getD, Int.toNat_natCast, List.getElem?_set_ne h]
theorem rd_append_l {xs ys : List Int} {i : Nat} (h : i < xs.length) : rd (xs ++ ys) (i : Int) = rd xs (i : Int) := by
  rw [rd_get (by simp; omega), rd_get h, List.getElem_append_left h]
theorem rd_append_r {xs ys : List Int} {i : Nat} (h : xs.length ≤ i) (h2 : i < xs.length + ys.length) : rd (xs ++ ys) (i : Int) = rd ys ((i - xs.length : Nat) : Int) := by
  rw [rd_get (by simp; omega), rd_get (by omega), List.getElem_append_right h]
theorem rd_replicate {n i : Nat} {v : Int} (h : i < n) : rd (List.replicate n v) (i : Int) = v := by
  rw [rd_get (by simpa using h)]; simp
theorem rd_mapRange {n i : Nat} {f : Nat → Int} (h : i < n) : rd ((List.range n).map f) (i : Int) = f i := by
  rw [rd_get (by simpa using h)]; simp
theorem toNat_cast (i : Nat) : ((i : Int) : Int).toNat = i := by simp
theorem mx_max (a b : Int) : mx a b = max a b := by unfold mx; omega
theorem mn_min (a b : Int) : mn a b = min a b := by unfold mn; omega
theorem bits_xor {a b : Int} (ha : 0 ≤ a) (ha2 : a < 4611686018427387904) (hb : 0 ≤ b) (hb2 : b < 4611686018427387904) : 0 ≤ Go.bits .xor .i64 a b ∧ Go.bits .xor .i64 a b < 4611686018427387904 := by
  obtain ⟨a, rfl⟩ := Int.eq_ofNat_of_zero_le ha
  obtain ⟨b, rfl⟩ := Int.eq_ofNat_of_zero_le hb
  have h1 : a < 2 ^ 62 := by omega
  have h2 : b < 2 ^ 62 := by omega
  have h3 := Nat.xor_lt_two_pow h1 h2
  have e : Go.bits .xor .i64 (a : Int) (b : Int) = IntKind.i64.wrap (((BitVec.ofInt 64 (a : Int)) ^^^ (BitVec.ofInt 64 (b : Int))).toNat : Int) := rfl
  have ha' : (BitVec.ofInt 64 (a : Int)).toNat = a := by rw [BitVec.ofInt_natCast, BitVec.toNat_ofNat]; exact Nat.mod_eq_of_lt (by omega)
  have hb' : (BitVec.ofInt 64 (b : Int)).toNat = b := by rw [BitVec.ofInt_natCast, BitVec.toNat_ofNat]; exact Nat.mod_eq_of_lt (by omega)
  rw [e, BitVec.toNat_xor, ha', hb', IntKind.wrap_i64]
  omega
theorem cast0 : ((0 : Nat) : Int) = 0 := rfl
theorem w01 : wrap64 (0 + 1) = 1 := by unfold wrap64; omega
theorem w12 : wrap64 (1 + 1) = 2 := by unfold wrap64; omega
theorem w23 : wrap64 (2 + 1) = 3 := by unfold wrap64; omega
theorem w34 : wrap64 (3 + 1) = 4 := by unfold wrap64; omega
theorem w45 : wrap64 (4 + 1) = 5 := by unfold wrap64; omega

/-! ### listm -/
theorem pigeon : ∀ (n : Nat) (xs : List Int), xs.Nodup → (∀ x ∈ xs, 0 ≤ x ∧ x < (n : Int)) → xs.length ≤ n := by
  intro n
  induction n with
  | zero =>
    intro xs _ h
    cases xs with
    | nil => simp
    | cons x xs => have := h x (by simp); omega
  | succ n ih =>
    intro xs hn h
    by_cases hm : (n : Int) ∈ xs
    · have h1 := ih (xs.erase (n : Int)) (hn.erase _) (fun x hx => by
        have h2 := (hn.mem_erase_iff).1 hx
        have h3 := h x h2.2
        have h4 := h2.1
        omega)
      rw [List.length_erase_of_mem hm] at h1
      omega
    · have h1 := ih xs hn (fun x hx => by
        have h3 := h x hx
        have h4 : x ≠ (n : Int) := fun e => hm (e ▸ hx)
        omega)
      omega
/-- Fewer different members than there are: one is missing. -/
theorem one_missing : ∀ (n : Nat) (xs : List Int), xs.length < n → ∃ j : Nat, j < n ∧ (j : Int) ∉ xs := by
  intro n
  induction n with
  | zero => intro xs h; omega
  | succ n ih =>
    intro xs h
    by_cases hm : (n : Int) ∈ xs
    · obtain ⟨j, hj, hx⟩ := ih (xs.erase (n : Int)) (by rw [List.length_erase_of_mem hm]; have := List.length_pos_of_mem hm; omega)
      refine ⟨j, by omega, fun hmem => hx ?_⟩
      exact (List.mem_erase_of_ne (by omega)).2 hmem
    · exact ⟨n, by omega, hm⟩
/-- Members, one after the other, in range and not seen yet. -/
def memB (n : Int) : List Int → List Int → Bool
  | _, [] => true
  | seen, x :: rest => decide (0 ≤ x ∧ x < n) && (!decide (x ∈ seen) && memB n (seen ++ [x]) rest)
theorem memB_iff (n : Int) : ∀ (xs seen : List Int), memB n seen xs = true ↔ (∀ x ∈ xs, 0 ≤ x ∧ x < n ∧ x ∉ seen) ∧ xs.Nodup := by
  intro xs
  induction xs with
  | nil => intro seen; simp [memB]
  | cons a xs ih =>
    intro seen
    simp only [memB, Bool.and_eq_true, decide_eq_true_eq, Bool.not_eq_true', decide_eq_false_iff_not, ih, List.mem_cons, List.mem_append, List.not_mem_nil, or_false, List.nodup_cons]
    constructor
    · rintro ⟨⟨h1, h2⟩, h3, h4, h5⟩
      refine ⟨?_, fun ha => (h4 a ha).2.2 (Or.inr rfl), h5⟩
      rintro x (rfl | hx)
      · exact ⟨h1, h2, h3⟩
      · obtain ⟨a1, a2, a3⟩ := h4 x hx
        exact ⟨a1, a2, fun h => a3 (Or.inl h)⟩
    · rintro ⟨h1, h2, h3⟩
      obtain ⟨a1, a2, a3⟩ := h1 a (Or.inl rfl)
      refine ⟨⟨a1, a2⟩, a3, fun x hx => ?_, h3⟩
      obtain ⟨b1, b2, b3⟩ := h1 x (Or.inr hx)
      refine ⟨b1, b2, ?_⟩
      rintro (h | rfl)
      · exact b3 h
      · exact h2 hx
/-- Different members of a body. -/
def GoodM (xs : List Int) (n : Int) : Prop := xs.Nodup ∧ ∀ x ∈ xs, 0 ≤ x ∧ x < n
instance (xs : List Int) (n : Int) : Decidable (GoodM xs n) := inferInstanceAs (Decidable (_ ∧ _))
theorem memB_good (n : Int) (xs : List Int) : memB n [] xs = decide (GoodM xs n) := by
  rw [Bool.eq_iff_iff, memB_iff, decide_eq_true_eq]
  unfold GoodM
  constructor
  · rintro ⟨h, hn⟩
    exact ⟨hn, fun x hx => ⟨(h x hx).1, (h x hx).2.1⟩⟩
  · rintro ⟨hn, h⟩
    exact ⟨fun x hx => ⟨(h x hx).1, (h x hx).2, by simp⟩, hn⟩
theorem GoodM.le {xs : List Int} {n : Nat} (h : GoodM xs (n : Int)) : xs.length ≤ n := pigeon n xs h.1 h.2
/-- The first place of a number behind some. -/
def idxM : List Int → Int → Nat → Int
  | [], _, _ => -1
  | y :: ys, x, i => if y = x then (i : Int) else idxM ys x (i + 1)
theorem idxM_neg : ∀ (xs : List Int) (x : Int) (i : Nat), idxM xs x i < 0 ↔ x ∉ xs := by
  intro xs
  induction xs with
  | nil => intro x i; simp [idxM]
  | cons y ys ih =>
    intro x i
    simp only [idxM]
    by_cases e : y = x
    · rw [if_pos e]; simp [e]
    · rw [if_neg e, ih]
      have e' : ¬ x = y := fun h => e h.symm
      simp [e']
theorem idxM_nonneg (xs : List Int) (x : Int) (i : Nat) : 0 ≤ idxM xs x i ↔ x ∈ xs := by
  have := idxM_neg xs x i
  by_cases h : x ∈ xs
  · simp only [h, not_true, iff_false] at this
    simp [h]; omega
  · simp only [h, not_false_iff, iff_true] at this
    simp [h]; omega
theorem idxM_at : ∀ (xs : List Int) (x : Int) (i : Nat), x ∈ xs → ∃ j : Nat, idxM xs x i = ((i + j : Nat) : Int) ∧ j < xs.length ∧ rd xs (j : Int) = x ∧ ∀ q : Nat, q < j → rd xs (q : Int) ≠ x := by
  intro xs
  induction xs with
  | nil => intro x i h; simp at h
  | cons y ys ih =>
    intro x i h
    by_cases e : y = x
    · exact ⟨0, by simp [idxM, e], by simp, by simp [rd, e], fun q hq => by omega⟩
    · have hx : x ∈ ys := by
        rcases List.mem_cons.1 h with h | h
        · exact absurd h.symm e
        · exact h
      obtain ⟨j, h1, h2, h3, h4⟩ := ih x (i + 1) hx
      refine ⟨j + 1, by simp only [idxM, if_neg e, h1]; omega, by simp; omega, ?_, ?_⟩
      · rw [← h3, rd_get (by simp; omega), rd_get h2]; simp
      · intro q hq
        cases q with
        | zero => rw [rd_get (by simp)]; simpa using e
        | succ q => have := h4 q (by omega); rw [rd_get (by simp; omega)]; rw [rd_get (by omega)] at this; simpa using this
theorem sum_set : ∀ (xs : List Int) (i : Nat) (v : Int), i < xs.length → (xs.set i v).sum = xs.sum - rd xs (i : Int) + v := by
  intro xs
  induction xs with
  | nil => intro i v h; simp at h
  | cons x xs ih =>
    intro i v h
    cases i with
    | zero => simp [rd]; omega
    | succ i =>
      have h2 : i < xs.length := by simpa using h
      have := ih i v h2
      have e : rd (x :: xs) ((i + 1 : Nat) : Int) = rd xs (i : Int) := by rw [rd_get h, rd_get h2]; simp
      simp only [List.set_cons_succ, List.sum_cons, this, e]
      omega
theorem sum_replicate0 (n : Nat) : (List.replicate n (0 : Int)).sum = 0 := by
  induction n with
  | zero => rfl
  | succ n ih => simp [List.replicate_succ, ih]
theorem set_fill {α : Type} (A : List α) (d : Nat) (z v : α) : (A ++ List.replicate (d + 1) z).set A.length v = (A ++ [v]) ++ List.replicate d z := by
  rw [List.set_append_right _ _ (Nat.le_refl _)]
  simp [List.replicate_succ]
theorem set_fill' {α : Type} {A : List α} {i d : Nat} {z v : α} (h : A.length = i) : (A ++ List.replicate (d + 1) z).set i v = (A ++ [v]) ++ List.replicate d z := by
  subst h; exact set_fill A d z v
theorem sum_bound : ∀ (xs : List Int) (lo hi : Int), (∀ x ∈ xs, lo ≤ x ∧ x ≤ hi) → (xs.length : Int) * lo ≤ xs.sum ∧ xs.sum ≤ (xs.length : Int) * hi := by
  intro xs lo hi
  induction xs with
  | nil => intro _; simp
  | cons x xs ih =>
    intro h
    have h1 := ih (fun y hy => h y (by simp [hy]))
    have h2 := h x (by simp)
    have e1 : ((x :: xs).length : Int) * lo = (xs.length : Int) * lo + lo := by simp [Int.add_mul]
    have e2 : ((x :: xs).length : Int) * hi = (xs.length : Int) * hi + hi := by simp [Int.add_mul]
    rw [e1, e2, List.sum_cons]
    omega

/-! ### relax -/
/-- One edge: whether something changed stands beside it. -/
def relF (st : List Int × Bool) (e : Int × Int) : List Int × Bool := if rd st.1 e.1 < rd st.1 e.2 + 1 then (st.1.set e.1.toNat (rd st.1 e.2 + 1), true) else st
def roundR (E : List (Int × Int)) (lv : List Int) : List Int × Bool := E.foldl relF (lv, false)
/-- Rounds until nothing changes; nothing, where they do not suffice. -/
def iterR (E : List (Int × Int)) : Nat → List Int → List Int
  | 0, _ => []
  | m + 1, lv => if (roundR E lv).2 = true then iterR E m (roundR E lv).1 else (roundR E lv).1
/-- Edges between n. -/
def EdgesIn (E : List (Int × Int)) (n : Nat) : Prop := ∀ e ∈ E, (0 ≤ e.1 ∧ e.1 < (n : Int)) ∧ (0 ≤ e.2 ∧ e.2 < (n : Int))
/-- Below it stand so many, one above the other. -/
def DR (E : List (Int × Int)) : Nat → Int → Prop
  | 0, _ => True
  | r + 1, v => ∃ g, (v, g) ∈ E ∧ DR E r g
theorem DR.down {E : List (Int × Int)} : ∀ (r : Nat) (v : Int), DR E (r + 1) v → DR E r v := by
  intro r
  induction r with
  | zero => intro v _; trivial
  | succ r ih =>
    rintro v ⟨g, hg, h⟩
    exact ⟨g, hg, ih g h⟩
theorem DR.le {E : List (Int × Int)} {r s : Nat} {v : Int} (h : DR E r v) (hs : s ≤ r) : DR E s v := by
  obtain ⟨d, rfl⟩ : ∃ d, r = s + d := ⟨r - s, by omega⟩
  induction d with
  | zero => exact h
  | succ d ih => exact ih (DR.down _ _ h) (by omega)
theorem relF_len (st : List Int × Bool) (e : Int × Int) : (relF st e).1.length = st.1.length := by
  unfold relF; split <;> simp
theorem foldR_len (E : List (Int × Int)) : ∀ st : List Int × Bool, (E.foldl relF st).1.length = st.1.length := by
  induction E with
  | nil => intro st; rfl
  | cons e E ih => intro st; rw [List.foldl_cons, ih, relF_len]
theorem rdsetR {xs : List Int} {n : Nat} (hl : xs.length = n) {b v x : Int} (h0 : 0 ≤ b) (h1 : b < (n : Int)) (hx : 0 ≤ x ∧ x < (n : Int)) : rd (xs.set b.toNat v) x = if b = x then v else rd xs x := by
  obtain ⟨j, rfl⟩ := Int.eq_ofNat_of_zero_le hx.1
  rw [rd_set (by omega)]
  by_cases e : b = (j : Int)
  · rw [if_pos e, if_pos (by omega)]
  · rw [if_neg e, if_neg (by omega)]
/-- An edge never takes away. -/
theorem relF_up {n : Nat} {st : List Int × Bool} {e : Int × Int} (hl : st.1.length = n) (he : (0 ≤ e.1 ∧ e.1 < (n : Int)) ∧ (0 ≤ e.2 ∧ e.2 < (n : Int))) {x : Int} (hx : 0 ≤ x ∧ x < (n : Int)) : rd st.1 x ≤ rd (relF st e).1 x := by
  unfold relF
  split
  · rename_i h
    rw [rdsetR hl he.1.1 he.1.2 hx]
    by_cases q : e.1 = x
    · rw [if_pos q, ← q]; omega
    · rw [if_neg q]; exact Int.le_refl _
  · exact Int.le_refl _
theorem foldR_up {n : Nat} : ∀ (E : List (Int × Int)) (st : List Int × Bool), EdgesIn E n → st.1.length = n → ∀ x : Int, 0 ≤ x ∧ x < (n : Int) → rd st.1 x ≤ rd (E.foldl relF st).1 x := by
  intro E
  induction E with
  | nil => intro st _ _ x _; exact Int.le_refl _
  | cons e E ih =>
    intro st hE hl x hx
    rw [List.foldl_cons]
    have h1 := relF_up hl (hE e (by simp)) hx
    have h2 := ih (relF st e) (fun y hy => hE y (by simp [hy])) (by rw [relF_len]; exact hl) x hx
    omega
/-- Behind an edge the upper one stands above. -/
theorem relF_above {n : Nat} {st : List Int × Bool} {e : Int × Int} (hl : st.1.length = n) (he : (0 ≤ e.1 ∧ e.1 < (n : Int)) ∧ (0 ≤ e.2 ∧ e.2 < (n : Int))) : rd st.1 e.2 + 1 ≤ rd (relF st e).1 e.1 := by
  unfold relF
  split
  · rw [rdsetR hl he.1.1 he.1.2 he.1, if_pos rfl]; exact Int.le_refl _
  · rename_i h
    have h2 : ¬ rd st.1 e.1 < rd st.1 e.2 + 1 := h
    show rd st.1 e.2 + 1 ≤ rd st.1 e.1
    omega
/-- Behind a round every edge's upper one stands above what the lower one was. -/
theorem foldR_above {n : Nat} : ∀ (E : List (Int × Int)) (st : List Int × Bool), EdgesIn E n → st.1.length = n → ∀ e ∈ E, rd st.1 e.2 + 1 ≤ rd (E.foldl relF st).1 e.1 := by
  intro E
  induction E with
  | nil => intro st _ _ e he; cases he
  | cons e0 E ih =>
    intro st hE hl e he
    rw [List.foldl_cons]
    have h0 := hE e0 (by simp)
    have hE2 : EdgesIn E n := fun y hy => hE y (by simp [hy])
    have hl2 : (relF st e0).1.length = n := by rw [relF_len]; exact hl
    rcases List.mem_cons.1 he with rfl | he
    · have h1 := relF_above hl h0
      have h2 := foldR_up E (relF st e) hE2 hl2 e.1 h0.1
      omega
    · have h1 := ih (relF st e0) hE2 hl2 e he
      have h2 := relF_up hl h0 (hE e (by simp [he])).2
      omega
/-- All that stands is borne: so many stand below. -/
def Borne (E : List (Int × Int)) (n : Nat) (lv : List Int) : Prop := ∀ x : Int, 0 ≤ x → x < (n : Int) → 0 ≤ rd lv x ∧ ∀ r : Nat, (r : Int) ≤ rd lv x → DR E r x
theorem relF_borne {E : List (Int × Int)} {n : Nat} {st : List Int × Bool} {e : Int × Int} (hl : st.1.length = n) (hm : e ∈ E) (he : (0 ≤ e.1 ∧ e.1 < (n : Int)) ∧ (0 ≤ e.2 ∧ e.2 < (n : Int))) (h : Borne E n st.1) : Borne E n (relF st e).1 := by
  intro x h0 h1
  unfold relF
  split
  · rw [rdsetR hl he.1.1 he.1.2 ⟨h0, h1⟩]
    by_cases q : e.1 = x
    · rw [if_pos q]
      have hg := h e.2 he.2.1 he.2.2
      refine ⟨by omega, fun r hr => ?_⟩
      cases r with
      | zero => trivial
      | succ r => exact ⟨e.2, by rw [← q]; exact hm, hg.2 r (by omega)⟩
    · rw [if_neg q]; exact h x h0 h1
  · exact h x h0 h1
theorem foldR_borne {E : List (Int × Int)} {n : Nat} : ∀ (F : List (Int × Int)) (st : List Int × Bool), (∀ e ∈ F, e ∈ E) → EdgesIn E n → st.1.length = n → Borne E n st.1 → Borne E n (F.foldl relF st).1 := by
  intro F
  induction F with
  | nil => intro st _ _ _ h; exact h
  | cons e F ih =>
    intro st hs hE hl h
    rw [List.foldl_cons]
    exact ih _ (fun y hy => hs y (by simp [hy])) hE (by rw [relF_len]; exact hl) (relF_borne hl (hs e (by simp)) (hE e (hs e (by simp))) h)
/-- Behind r rounds. -/
def Full (E : List (Int × Int)) (n r : Nat) (lv : List Int) : Prop := ∀ x : Int, 0 ≤ x → x < (n : Int) → ∀ s : Nat, s ≤ r → DR E s x → (s : Int) ≤ rd lv x
theorem roundR_full {E : List (Int × Int)} {n r : Nat} {lv : List Int} (hE : EdgesIn E n) (hl : lv.length = n) (h : Full E n r lv) : Full E n (r + 1) (roundR E lv).1 := by
  intro x h0 h1 s hs hd
  rcases Nat.lt_or_ge r s with h2 | h2
  · obtain rfl : s = r + 1 := by omega
    obtain ⟨g, hg, hd⟩ := hd
    have hb := hE _ hg
    have h3 := foldR_above E (lv, false) hE hl _ hg
    have h4 := h g hb.2.1 hb.2.2 r (Nat.le_refl _) hd
    simp only at h3
    unfold roundR
    push_cast
    omega
  · have h3 := h x h0 h1 s h2 hd
    have h4 := foldR_up E (lv, false) hE hl x ⟨h0, h1⟩
    unfold roundR
    simp only at h4
    omega
/-- What changes in a round behind r rounds bears r + 1. -/
theorem foldR_changed {E : List (Int × Int)} {n r : Nat} (hE : EdgesIn E n) : ∀ (F : List (Int × Int)) (st : List Int × Bool), (∀ e ∈ F, e ∈ E) → st.1.length = n → Borne E n st.1 → Full E n r st.1 → st.2 = false → (F.foldl relF st).2 = true → ∃ v, (0 ≤ v ∧ v < (n : Int)) ∧ DR E (r + 1) v := by
  intro F
  induction F with
  | nil => intro st _ _ _ _ h1 h2; rw [List.foldl_nil, h1] at h2; cases h2
  | cons e F ih =>
    intro st hs hl hb hf h1 h2
    rw [List.foldl_cons] at h2
    have he := hE e (hs e (by simp))
    by_cases hc : rd st.1 e.1 < rd st.1 e.2 + 1
    · obtain ⟨g0, g1⟩ := hb e.2 he.2.1 he.2.2
      obtain ⟨m, hm⟩ := Int.eq_ofNat_of_zero_le g0
      have hd : DR E (m + 1) e.1 := ⟨e.2, hs e (by simp), g1 m (by omega)⟩
      refine ⟨e.1, he.1, hd.le ?_⟩
      rcases Nat.lt_or_ge m r with h3 | h3
      · have := hf e.1 he.1.1 he.1.2 (m + 1) (by omega) hd
        omega
      · omega
    · have e1 : relF st e = st := by unfold relF; rw [if_neg hc]
      rw [e1] at h2
      exact ih st (fun y hy => hs y (by simp [hy])) hl hb hf h1 h2
/-- Nothing changed: all edges stand. -/
theorem foldR_still : ∀ (F : List (Int × Int)) (st : List Int × Bool), (F.foldl relF st).2 = false → F.foldl relF st = st ∧ ∀ e ∈ F, rd st.1 e.2 + 1 ≤ rd st.1 e.1 := by
  have keep : ∀ (F : List (Int × Int)) (st : List Int × Bool), st.2 = true → (F.foldl relF st).2 = true := by
    intro F
    induction F with
    | nil => intro st h; exact h
    | cons e F ih =>
      intro st h
      rw [List.foldl_cons]
      refine ih _ ?_
      unfold relF
      split
      · rfl
      · exact h
  intro F
  induction F with
  | nil => intro st _; exact ⟨rfl, fun e he => by cases he⟩
  | cons e F ih =>
    intro st h
    rw [List.foldl_cons] at h ⊢
    by_cases hc : rd st.1 e.1 < rd st.1 e.2 + 1
    · have e1 : (relF st e).2 = true := by unfold relF; rw [if_pos hc]
      rw [keep F _ e1] at h; cases h
    · have e1 : relF st e = st := by unfold relF; rw [if_neg hc]
      rw [e1] at h ⊢
      obtain ⟨h1, h2⟩ := ih st h
      refine ⟨h1, fun y hy => ?_⟩
      rcases List.mem_cons.1 hy with rfl | hy
      · omega
      · exact h2 y hy
/-- Levels that suit all edges. -/
def Suits (E : List (Int × Int)) (n : Nat) (F : Int → Int) : Prop := (∀ x, 0 ≤ x → x < (n : Int) → 0 ≤ F x) ∧ ∀ e ∈ E, F e.2 + 1 ≤ F e.1
theorem DR.chain {E : List (Int × Int)} {n : Nat} (hE : EdgesIn E n) {F : Int → Int} (hF : Suits E n F) : ∀ (r : Nat) (v : Int), 0 ≤ v ∧ v < (n : Int) → DR E r v → ∃ c : List Int, c.length = r + 1 ∧ c.Nodup ∧ ∀ x ∈ c, (0 ≤ x ∧ x < (n : Int)) ∧ F x ≤ F v := by
  intro r
  induction r with
  | zero => intro v hv _; exact ⟨[v], rfl, by simp, fun x hx => by rw [List.mem_singleton.1 hx]; exact ⟨hv, Int.le_refl _⟩⟩
  | succ r ih =>
    rintro v hv ⟨g, hg, hd⟩
    obtain ⟨c, h1, h2, h3⟩ := ih g (hE _ hg).2 hd
    have hs := hF.2 _ hg
    simp only at hs
    refine ⟨v :: c, by rw [List.length_cons, h1], List.nodup_cons.2 ⟨fun hm => ?_, h2⟩, fun x hx => ?_⟩
    · have := (h3 v hm).2; omega
    · rcases List.mem_cons.1 hx with rfl | hx
      · exact ⟨hv, Int.le_refl _⟩
      · have := h3 x hx; exact ⟨this.1, by omega⟩
theorem DR.short {E : List (Int × Int)} {n : Nat} (hE : EdgesIn E n) {F : Int → Int} (hF : Suits E n F) {r : Nat} {v : Int} (hv : 0 ≤ v ∧ v < (n : Int)) (h : DR E r v) : r < n := by
  obtain ⟨c, h1, h2, h3⟩ := DR.chain hE hF r v hv h
  have := pigeon n c h2 (fun x hx => (h3 x hx).1)
  omega
theorem foldR_least {n : Nat} {F : Int → Int} : ∀ (E : List (Int × Int)) (st : List Int × Bool), (∀ e ∈ E, F e.2 + 1 ≤ F e.1) → EdgesIn E n → st.1.length = n → (∀ x, 0 ≤ x → x < (n : Int) → rd st.1 x ≤ F x) → ∀ x, 0 ≤ x → x < (n : Int) → rd (E.foldl relF st).1 x ≤ F x := by
  intro E
  induction E with
  | nil => intro st _ _ _ h; exact h
  | cons e E ih =>
    intro st hF hE hl h
    rw [List.foldl_cons]
    refine ih _ (fun y hy => hF y (by simp [hy])) (fun y hy => hE y (by simp [hy])) (by rw [relF_len]; exact hl) (fun x h0 h1 => ?_)
    have he := hE e (by simp)
    unfold relF
    split
    · rw [rdsetR hl he.1.1 he.1.2 ⟨h0, h1⟩]
      by_cases q : e.1 = x
      · rw [if_pos q, ← q]
        have q1 := h e.2 he.2.1 he.2.2
        have q2 := hF e (by simp)
        omega
      · rw [if_neg q]; exact h x h0 h1
    · exact h x h0 h1
/-- Where levels suit, the rounds find the least ones. -/
theorem iterR_finds {E : List (Int × Int)} {n : Nat} (hE : EdgesIn E n) {F : Int → Int} (hF : Suits E n F) : ∀ (m r : Nat) (lv : List Int), lv.length = n → Borne E n lv → Full E n r lv → (∃ v, (0 ≤ v ∧ v < (n : Int)) ∧ DR E r v) → n ≤ r + m → (∀ G, Suits E n G → ∀ x, 0 ≤ x → x < (n : Int) → rd lv x ≤ G x) →
    (iterR E m lv).length = n ∧ Suits E n (fun x => rd (iterR E m lv) x) ∧ ∀ G, Suits E n G → ∀ x, 0 ≤ x → x < (n : Int) → rd (iterR E m lv) x ≤ G x := by
  intro m
  induction m with
  | zero =>
    rintro r lv hl hb hf ⟨v, hv, hd⟩ hm hG
    have := DR.short hE hF hv hd
    omega
  | succ m ih =>
    rintro r lv hl hb hf hv hm hG
    simp only [iterR]
    have hl2 : (roundR E lv).1.length = n := by unfold roundR; rw [foldR_len]; exact hl
    by_cases hc : (roundR E lv).2 = true
    · rw [if_pos hc]
      exact ih (r + 1) _ hl2 (foldR_borne E (lv, false) (fun _ h => h) hE hl hb) (roundR_full hE hl hf) (foldR_changed hE E (lv, false) (fun _ h => h) hl hb hf rfl hc) (by omega) (fun G hg => foldR_least E (lv, false) hg.2 hE hl (hG G hg))
    · rw [if_neg hc]
      obtain ⟨h1, h2⟩ := foldR_still E (lv, false) (by simpa [roundR] using hc)
      have e : (roundR E lv).1 = lv := by unfold roundR; rw [h1]
      rw [e]
      exact ⟨hl, ⟨fun x h0 h1 => (hb x h0 h1).1, h2⟩, hG⟩
/-- Where the rounds end, levels suit. -/
theorem iterR_ends {E : List (Int × Int)} {n : Nat} (hE : EdgesIn E n) : ∀ (m : Nat) (lv : List Int), lv.length = n → Borne E n lv → iterR E m lv = [] ∨ ∃ F, Suits E n F := by
  intro m
  induction m with
  | zero => intro lv _ _; exact .inl rfl
  | succ m ih =>
    intro lv hl hb
    simp only [iterR]
    by_cases hc : (roundR E lv).2 = true
    · rw [if_pos hc]
      exact ih _ (by unfold roundR; rw [foldR_len]; exact hl) (foldR_borne E (lv, false) (fun _ h => h) hE hl hb)
    · obtain ⟨h1, h2⟩ := foldR_still E (lv, false) (by simpa [roundR] using hc)
      exact .inr ⟨fun x => rd lv x, fun x h0 h1 => (hb x h0 h1).1, h2⟩
/-- The order of the edges and rounds too many do not matter. -/
theorem iterR_same {E E' : List (Int × Int)} {n : Nat} (hn : 1 ≤ n) (hE : EdgesIn E n) (hs : ∀ e, e ∈ E ↔ e ∈ E') (m m' : Nat) (h1 : n ≤ m) (h2 : n ≤ m') : iterR E m (List.replicate n 0) = iterR E' m' (List.replicate n 0) := by
  have hE' : EdgesIn E' n := fun e he => hE e ((hs e).2 he)
  have hz : ∀ x : Int, 0 ≤ x → x < (n : Int) → rd (List.replicate n 0) x = 0 := by
    intro x h0 h1
    obtain ⟨j, rfl⟩ := Int.eq_ofNat_of_zero_le h0
    exact rd_replicate (by omega)
  have hb : ∀ D : List (Int × Int), Borne D n (List.replicate n 0) := by
    intro D x h0 h1
    rw [hz x h0 h1]
    refine ⟨Int.le_refl _, fun r hr => ?_⟩
    obtain rfl : r = 0 := by omega
    trivial
  have hf : ∀ D : List (Int × Int), Full D n 0 (List.replicate n 0) := by
    intro D x h0 h1 s hs _
    rw [hz x h0 h1]; omega
  have hg : ∀ (D : List (Int × Int)) G, Suits D n G → ∀ x, 0 ≤ x → x < (n : Int) → rd (List.replicate n 0) x ≤ G x := by
    intro D G hG x h0 h1
    rw [hz x h0 h1]; exact hG.1 x h0 h1
  have hv : ∀ D : List (Int × Int), ∃ v, (0 ≤ v ∧ v < (n : Int)) ∧ DR D 0 v := fun D => ⟨0, by omega, trivial⟩
  have sw : ∀ {G : Int → Int}, Suits E n G → Suits E' n G := fun h => ⟨h.1, fun e he => h.2 e ((hs e).2 he)⟩
  have sw' : ∀ {G : Int → Int}, Suits E' n G → Suits E n G := fun h => ⟨h.1, fun e he => h.2 e ((hs e).1 he)⟩
  by_cases hF : ∃ F, Suits E n F
  · obtain ⟨F, hF⟩ := hF
    obtain ⟨a1, a2, a3⟩ := iterR_finds hE hF m 0 _ (by simp) (hb E) (hf E) (hv E) (by omega) (hg E)
    obtain ⟨b1, b2, b3⟩ := iterR_finds hE' (sw hF) m' 0 _ (by simp) (hb E') (hf E') (hv E') (by omega) (hg E')
    apply ext_rd (by rw [a1, b1])
    intro i hi
    have c1 := a3 _ (sw' b2) (i : Int) (by omega) (by omega)
    have c2 := b3 _ (sw a2) (i : Int) (by omega) (by omega)
    omega
  · rcases iterR_ends hE m _ (by simp) (hb E) with h | h
    · rcases iterR_ends hE' m' _ (by simp) (hb E') with h' | ⟨G, h'⟩
      · rw [h, h']
      · exact absurd ⟨G, sw' h'⟩ hF
    · exact absurd h hF
theorem iterR_len {E : List (Int × Int)} : ∀ (m : Nat) (lv : List Int), (iterR E m lv).length ≤ lv.length := by
  intro m
  induction m with
  | zero => intro lv; simp [iterR]
  | succ m ih =>
    intro lv
    simp only [iterR]
    have e : (roundR E lv).1.length = lv.length := by unfold roundR; rw [foldR_len]
    split
    · have := ih (roundR E lv).1; omega
    · omega
theorem iterR_on {E : List (Int × Int)} {m : Nat} {lv : List Int} (h : (E.foldl relF (lv, false)).2 = true) : iterR E (m + 1) lv = iterR E m (E.foldl relF (lv, false)).1 := by
  rw [iterR]; exact if_pos h
theorem iterR_off {E : List (Int × Int)} {m : Nat} {lv : List Int} (h : (E.foldl relF (lv, false)).2 = false) : iterR E (m + 1) lv = (E.foldl relF (lv, false)).1 := by
  rw [iterR]; exact if_neg (by unfold roundR; rw [h]; simp)

/-! ### levbound -/
theorem relF_bd {st : List Int × Bool} {B : Int} (hB : 0 ≤ B) (h : ∀ x ∈ st.1, 0 ≤ x ∧ x ≤ B) (e : Int × Int) : ∀ x ∈ (relF st e).1, 0 ≤ x ∧ x ≤ B + 1 := by
  intro x hx
  unfold relF at hx
  split at hx
  · rcases List.mem_or_eq_of_mem_set hx with q | q
    · have := h x q; omega
    · have hr : 0 ≤ rd st.1 e.2 ∧ rd st.1 e.2 ≤ B := by
        simp only [rd, List.getD_eq_getElem?_getD]
        cases h1 : st.1[e.2.toNat]? with
        | none => simpa using hB
        | some v => simp only [Option.getD_some]; exact h v (List.mem_of_getElem? h1)
      rw [q]; omega
  · have := h x hx; omega
theorem foldR_bd : ∀ (E : List (Int × Int)) (st : List Int × Bool) (B : Int), 0 ≤ B → (∀ x ∈ st.1, 0 ≤ x ∧ x ≤ B) → ∀ x ∈ (E.foldl relF st).1, 0 ≤ x ∧ x ≤ B + (E.length : Int) := by
  intro E
  induction E with
  | nil => intro st B _ h x hx; have := h x hx; simp; omega
  | cons e E ih =>
    intro st B hB h x hx
    rw [List.foldl_cons] at hx
    have := ih (relF st e) (B + 1) (by omega) (relF_bd hB h e) x hx
    rw [List.length_cons]; omega
theorem rdB {xs : List Int} {B : Int} (hB : 0 ≤ B) (h : ∀ x ∈ xs, 0 ≤ x ∧ x ≤ B) (i : Int) : 0 ≤ rd xs i ∧ rd xs i ≤ B := by
  simp only [rd, List.getD_eq_getElem?_getD]
  cases h1 : xs[i.toNat]? with
  | none => simpa using hB
  | some v => simp only [Option.getD_some]; exact h v (List.mem_of_getElem? h1)

/-! ### different -/
theorem flags_set {fl : List Bool} {n : Int} {seen : List Int} {x : Int} (hl : (fl.length : Int) = n) (h : ∀ j : Int, 0 ≤ j → j < n → rdOf false fl j = decide (j ∈ seen)) (h0 : 0 ≤ x) (h1 : x < n) :
    ∀ j : Int, 0 ≤ j → j < n → rdOf false (fl.set x.toNat true) j = decide (j ∈ seen ++ [x]) := by
  intro j hj0 hj
  have := h j hj0 hj
  simp only [rdOf, List.getD_eq_getElem?_getD, List.getElem?_set] at this ⊢
  by_cases e : x = j
  · subst e
    rw [if_pos rfl, if_pos (by omega)]
    simp
  · rw [if_neg (by omega), this]
    have : ¬ j = x := fun h => e h.symm
    simp [this]
theorem different_l0 (xs : List Int) (n : Int) (hb : xs.length < 4611686018427387904) : ∀ (d k i : Nat) (fl : List Bool), (fl.length : Int) = n → (∀ j : Int, 0 ≤ j → j < n → rdOf false fl j = decide (j ∈ xs.take i)) → i + d = xs.length → d < k → impl_differentBelow.l0 k n fl xs (xs.length : Int) (i : Int) = some (memB n (xs.take i) (xs.drop i)) := by
  intro d
  induction d with
  | zero =>
    intro k i fl hl hf hi hk
    obtain ⟨k, rfl, -⟩ := fuel hk
    simp only [impl_differentBelow.l0]
    rw [if_neg (by omega), drop_end (by omega)]
    simp [memB]
  | succ d ih =>
    intro k i fl hl hf hi hk
    obtain ⟨k, rfl, hk⟩ := fuel hk
    simp only [impl_differentBelow.l0]
    rw [if_pos (by omega), if_pos (by omega), if_pos (by omega), wrap_succ (by omega), drop_rd (by omega)]
    simp only [memB]
    by_cases h1 : rd xs (i : Int) < 0
    · rw [if_pos h1, decide_eq_false (by omega)]; rfl
    · rw [if_neg h1]
      by_cases h2 : rd xs (i : Int) ≥ n
      · rw [if_pos h2, decide_eq_false (by omega)]; rfl
      · rw [if_neg h2, if_pos (by omega), if_pos (by omega), hf _ (by omega) (by omega), decide_eq_true (show 0 ≤ rd xs (i : Int) ∧ rd xs (i : Int) < n by omega)]
        by_cases h3 : rd xs (i : Int) ∈ xs.take i
        · rw [decide_eq_true h3, if_pos rfl]; rfl
        · rw [decide_eq_false h3, if_neg (by decide), ih k (i + 1) _ (by simpa using hl) (by rw [take_rd (by omega)]; exact flags_set hl hf (by omega) (by omega)) (by omega) (by omega), take_rd (by omega)]; rfl
theorem different_spec (k : Nat) (xs : List Int) (n : Int) (hn : 0 ≤ n) (hn2 : n ≤ 281474976710656) (hb : xs.length < 4611686018427387904) (hk : xs.length < k) : impl_differentBelow.f k xs n = some (decide (GoodM xs n)) := by
  unfold impl_differentBelow.f
  by_cases h : (xs.length : Int) > n
  · rw [if_pos h, decide_eq_false]
    intro hg
    obtain ⟨m, rfl⟩ := Int.eq_ofNat_of_zero_le hn
    have := hg.le
    omega
  · rw [if_neg h, if_pos hn, if_pos (by omega)]
    have := different_l0 xs n hb xs.length k 0 (List.replicate n.toNat false) (by simp; omega) (fun j h0 h1 => by simp [rdOf, List.getD_eq_getElem?_getD, List.getElem?_replicate]; split <;> rfl) (by omega) hk
    rw [← memB_good]
    simpa using this

/-! ### index -/
theorem index_l0 (xs : List Int) (x : Int) (hb : xs.length < 4611686018427387904) : ∀ (d k i : Nat), i + d = xs.length → d < k → slices_Index_int_int.l0 k xs x (xs.length : Int) (i : Int) = some (idxM (xs.drop i) x i) := by
  intro d
  induction d with
  | zero =>
    intro k i hi hk
    obtain ⟨k, rfl, -⟩ := fuel hk
    simp only [slices_Index_int_int.l0]
    rw [if_neg (by omega), drop_end (by omega)]
    simp [idxM]
  | succ d ih =>
    intro k i hi hk
    obtain ⟨k, rfl, hk⟩ := fuel hk
    simp only [slices_Index_int_int.l0]
    rw [if_pos (by omega), if_pos (by omega), if_pos (by omega), wrap_succ (by omega), drop_rd (by omega)]
    simp only [idxM]
    rw [ih k (i + 1) (by omega) (by omega)]
    by_cases e : x = rd xs (i : Int)
    · rw [if_pos e, if_pos e.symm]
    · rw [if_neg e, if_neg (fun h => e h.symm)]
theorem index_spec (k : Nat) (xs : List Int) (x : Int) (hb : xs.length < 4611686018427387904) (hk : xs.length < k) : slices_Index_int_int.f k xs x = some (idxM xs x 0) := by
  unfold slices_Index_int_int.f
  have := index_l0 xs x hb xs.length k 0 (by omega) hk
  simpa using this

/-! ### contains -/
theorem contains_spec (k : Nat) (xs : List Int) (x : Int) (hb : xs.length < 4611686018427387904) (hk : xs.length < k) : slices_Contains_int_int.f k xs x = some (decide (x ∈ xs)) := by
  unfold slices_Contains_int_int.f
  rw [index_spec k xs x hb hk]
  simp only [Option.bind_some]
  congr 1
  rw [decide_eq_decide]
  exact idxM_nonneg xs x 0

/-! ### loans -/
/-- A loan that is valid. -/
def OkLoan (l : S56) (n : Int) : Prop := 0 ≤ l.f0 ∧ l.f0 < n ∧ 1 ≤ l.f1 ∧ l.f1 ≤ 100000 ∧ 1 ≤ l.f2.length ∧ GoodM l.f2 n ∧ l.f0 ∉ l.f2
instance (l : S56) (n : Int) : Decidable (OkLoan l n) := inferInstanceAs (Decidable (_ ∧ _))
def OkLoans (list : List S56) (n : Int) : Prop := list.length ≤ 16 ∧ 1 ≤ n ∧ n ≤ 12 ∧ ∀ l ∈ list, OkLoan l n
instance (list : List S56) (n : Int) : Decidable (OkLoans list n) := inferInstanceAs (Decidable (_ ∧ _))
theorem rdT_at {xs : List S56} {i : Nat} (h : i < xs.length) : rd_T56 xs (i : Int) = xs[i] := by
  simp [rd_T56, List.getD_eq_getElem?_getD, List.getElem?_eq_getElem h]
theorem drop_rdT {xs : List S56} {i : Nat} (h : i < xs.length) : xs.drop i = rd_T56 xs (i : Int) :: xs.drop (i + 1) := by
  rw [rdT_at h, List.drop_eq_getElem_cons h]
theorem rdT_mem {xs : List S56} {i : Nat} (h : i < xs.length) : rd_T56 xs (i : Int) ∈ xs := by
  rw [rdT_at h]; exact List.getElem_mem h
theorem implValidLoans_l0 (list : List S56) (n : Int) (hn1 : 1 ≤ n) (hn2 : n ≤ 12) (hl : list.length ≤ 16) (hg : ∀ l ∈ list, l.f2.length ≤ 1048576) : ∀ (d k i : Nat), i + d = list.length → d + d + 1048600 < k →
    impl_ValidLoans.l0 k n list (list.length : Int) (i : Int) = some (decide (∀ l ∈ list.drop i, OkLoan l n)) := by
  intro d
  induction d with
  | zero =>
    intro k i hi hk
    obtain ⟨k, rfl, -⟩ := fuel (show 0 < k by omega)
    simp only [impl_ValidLoans.l0]
    rw [if_neg (by omega), drop_end (by omega)]
    simp
  | succ d ih =>
    intro k i hi hk
    obtain ⟨k, rfl, hk⟩ := fuel (show d + d + 1048601 < k by omega)
    obtain ⟨k, rfl, hk⟩ := fuel (show d + d + 1048600 < k by omega)
    simp only [impl_ValidLoans.l0, impl_ValidLoans.j2, if_true]
    rw [if_pos (by omega), if_pos (by omega), if_pos (by omega), drop_rdT (by omega)]
    have hgl := hg _ (rdT_mem (xs := list) (i := i) (by omega))
    generalize rd_T56 list (i : Int) = l at hgl ⊢
    simp only [List.forall_mem_cons]
    by_cases h1 : l.f0 < 0
    · rw [if_pos h1, decide_eq_false]; rintro ⟨h, -⟩; have := h.1; omega
    · rw [if_neg h1]
      by_cases h2 : l.f0 ≥ n
      · rw [if_pos h2, decide_eq_false]; rintro ⟨h, -⟩; have := h.2.1; omega
      · rw [if_neg h2]
        by_cases h3 : l.f1 < 1
        · rw [if_pos h3, decide_eq_false]; rintro ⟨h, -⟩; have := h.2.2.1; omega
        · rw [if_neg h3]
          by_cases h4 : l.f1 > 100000
          · rw [decide_eq_true h4, if_pos rfl, decide_eq_false]; rintro ⟨h, -⟩; have := h.2.2.2.1; omega
          · rw [decide_eq_false h4, if_neg (by decide)]
            by_cases h5 : (l.f2.length : Int) < 1
            · rw [if_pos h5, decide_eq_false]; rintro ⟨h, -⟩; have := h.2.2.2.2.1; omega
            · rw [if_neg h5, different_spec _ _ _ (by omega) (by omega) (by omega) (by omega)]
              simp only [Option.bind_some]
              by_cases h6 : GoodM l.f2 n
              · have hle : l.f2.length ≤ 12 := by
                  obtain ⟨m, rfl⟩ := Int.eq_ofNat_of_zero_le (show 0 ≤ n by omega)
                  have := h6.le
                  omega
                rw [decide_eq_true h6, if_pos rfl, contains_spec _ _ _ (by omega) (by omega)]
                simp only [Option.bind_some]
                by_cases h7 : l.f0 ∈ l.f2
                · rw [decide_eq_true h7, if_pos rfl, decide_eq_false]; rintro ⟨h, -⟩; exact h.2.2.2.2.2.2 h7
                · rw [decide_eq_false h7, if_neg (by decide), wrap_succ (by omega), ih k (i + 1) (by omega) (by omega)]
                  congr 1
                  rw [decide_eq_decide]
                  exact ⟨fun h => ⟨⟨by omega, by omega, by omega, by omega, by omega, h6, h7⟩, h⟩, fun h => h.2⟩
              · rw [decide_eq_false h6, if_neg (by decide), decide_eq_false]; rintro ⟨h, -⟩; exact h6 h.2.2.2.2.2.1
theorem implValidLoans_spec (k : Nat) (list : List S56) (n : Int) (hl : list.length ≤ 1048576) (hg : ∀ l ∈ list, l.f2.length ≤ 1048576) (hk : 1048700 < k) : impl_ValidLoans.f k list n = some (decide (OkLoans list n)) := by
  obtain ⟨k, rfl, hk⟩ := fuel hk
  unfold impl_ValidLoans.f
  simp only [impl_ValidLoans.j0, if_true]
  by_cases h1 : (list.length : Int) > 16
  · rw [if_pos h1, decide_eq_false]; rintro ⟨h, -⟩; omega
  · rw [if_neg h1]
    by_cases h2 : n < 1
    · rw [if_pos h2, decide_eq_false]; rintro ⟨-, h, -⟩; omega
    · rw [if_neg h2]
      by_cases h3 : n > 12
      · rw [decide_eq_true h3, if_pos rfl, decide_eq_false]; rintro ⟨-, -, h, -⟩; omega
      · rw [decide_eq_false h3, if_neg (by decide)]
        have := implValidLoans_l0 list n (by omega) (by omega) (by omega) hg list.length k 0 (by omega) (by omega)
        rw [show (0 : Int) = ((0 : Nat) : Int) from rfl, this]
        congr 1
        rw [decide_eq_decide, List.drop_zero]
        exact ⟨fun h => ⟨by omega, by omega, by omega, h⟩, fun h => h.2.2.2⟩

/-! ### split -/
def splitM (g : Int) (m : Nat) : List Int := (List.range m).map fun i : Nat => g / (m : Int) + if (i : Int) < g % (m : Int) then 1 else 0
theorem splitM_length (g : Int) (m : Nat) : (splitM g m).length = m := by simp [splitM]
theorem splitM_rd {g : Int} {m i : Nat} (h : i < m) : rd (splitM g m) (i : Int) = g / (m : Int) + if (i : Int) < g % (m : Int) then 1 else 0 := rd_mapRange h
theorem sum_steps (a r : Int) (hr : 0 ≤ r) : ∀ m : Nat, ((List.range m).map fun i : Nat => a + if (i : Int) < r then 1 else 0).sum = (m : Int) * a + min (m : Int) r := by
  intro m
  induction m with
  | zero => simp; omega
  | succ m ih =>
    rw [List.range_succ, List.map_append, List.sum_append, ih]
    have e : ((m + 1 : Nat) : Int) * a = (m : Int) * a + a := by push_cast; rw [Int.add_mul]; omega
    rw [e]
    simp only [List.map_cons, List.map_nil, List.sum_cons, List.sum_nil]
    split <;> omega
theorem splitM_sum {g : Int} {m : Nat} (hm : 0 < m) : (splitM g m).sum = g := by
  unfold splitM
  rw [sum_steps _ _ (Int.emod_nonneg _ (by omega))]
  have h1 := Int.emod_lt_of_pos g (b := (m : Int)) (by omega)
  have h2 := Int.mul_ediv_add_emod g (m : Int)
  rw [show min (m : Int) (g % (m : Int)) = g % (m : Int) by omega]
  omega
theorem splitM_bound {g : Int} {m : Nat} (hm : 0 < m) (hg : 0 ≤ g) : ∀ x ∈ splitM g m, 0 ≤ x ∧ x ≤ g := by
  intro x hx
  obtain ⟨i, hi, rfl⟩ := mem_rd hx
  rw [splitM_length] at hi
  rw [splitM_rd hi]
  have h0 := Int.ediv_nonneg hg (show (0 : Int) ≤ m by omega)
  have h2 := Int.mul_ediv_add_emod g (m : Int)
  have h3 : g / (m : Int) ≤ (m : Int) * (g / (m : Int)) := by
    have : (1 : Int) * (g / (m : Int)) ≤ (m : Int) * (g / (m : Int)) := Int.mul_le_mul_of_nonneg_right (by omega) h0
    omega
  have h4 := Int.emod_lt_of_pos g (b := (m : Int)) (by omega)
  have h5 := Int.emod_nonneg g (b := (m : Int)) (by omega)
  split <;> omega

/-! ### spliteven -/
theorem range_map_succ {f : Nat → Int} (i : Nat) : (List.range (i + 1)).map f = (List.range i).map f ++ [f i] := by
  rw [List.range_succ, List.map_append]; rfl
theorem split_val {g : Int} {m : Nat} (hg : 0 ≤ g) (hg2 : g ≤ 1000000) (hm : 0 < m) (hm2 : m ≤ 12) :
    wrap64 (Int.tdiv g (m : Int)) = g / (m : Int) ∧ Int.tmod g (m : Int) = g % (m : Int) ∧ 0 ≤ g / (m : Int) ∧ g / (m : Int) ≤ 1000000 := by
  have h1 := Int.ediv_nonneg hg (show (0 : Int) ≤ m by omega)
  have h2 : g / (m : Int) ≤ g := Int.ediv_le_self _ hg
  rw [Int.tdiv_eq_ediv_of_nonneg hg, Int.tmod_eq_emod_of_nonneg hg]
  exact ⟨wrap_id (by omega) (by omega), rfl, h1, by omega⟩
/-! ### exposure -/
/-- Parts added where their guards are. -/
def addParts : List Int → List Int → List Int → List Int
  | ex, g :: gs, p :: ps => addParts (ex.set g.toNat (wrap64 (rd ex g + p))) gs ps
  | ex, _, _ => ex
theorem addParts_length : ∀ (gs ps ex : List Int), (addParts ex gs ps).length = ex.length := by
  intro gs
  induction gs with
  | nil => intro ps ex; simp [addParts]
  | cons g gs ih =>
    intro ps ex
    cases ps with
    | nil => simp [addParts]
    | cons p ps => simp [addParts, ih]
/-- What all answer for. -/
def expoM : List S56 → List Int → List Int
  | [], ex => ex
  | l :: ls, ex => expoM ls (addParts ex l.f2 (splitM l.f1 l.f2.length))
theorem expoM_length : ∀ (ls : List S56) (ex : List Int), (expoM ls ex).length = ex.length := by
  intro ls
  induction ls with
  | nil => intro ex; rfl
  | cons l ls ih => intro ex; simp only [expoM, ih, addParts_length]
theorem guards_le {gs : List Int} {n : Int} (h : GoodM gs n) (hn : 1 ≤ n) (hn2 : n ≤ 12) : gs.length ≤ 12 := by
  obtain ⟨m, rfl⟩ := Int.eq_ofNat_of_zero_le (show 0 ≤ n by omega)
  have := h.le
  omega
/-- ExposureOf. -/
def exposureM (list : List S56) (n : Int) : List Int := if OkLoans list n then expoM list (List.replicate n.toNat 0) else []
theorem exposureM_pos {list : List S56} {n : Int} (h : OkLoans list n) : exposureM list n = expoM list (List.replicate n.toNat 0) := if_pos h
theorem exposureM_neg {list : List S56} {n : Int} (h : ¬ OkLoans list n) : exposureM list n = [] := if_neg h
theorem exposureM_length {list : List S56} {n : Int} (h : OkLoans list n) : (exposureM list n).length = n.toNat := by
  rw [exposureM_pos h, expoM_length]; simp
/-! ### ilevels -/
/-- The edges as the program meets them. -/
def edgI (ls : List S56) : List (Int × Int) := ls.flatMap fun l => l.f2.map fun g => (l.f0, g)
theorem edgI_len {ls : List S56} {n : Int} (hn : 1 ≤ n) (hn2 : n ≤ 12) (h : ∀ l ∈ ls, OkLoan l n) : (edgI ls).length ≤ 12 * ls.length := by
  induction ls with
  | nil => simp [edgI]
  | cons l ls ih =>
    have h1 := guards_le (h l (by simp)).2.2.2.2.2.1 hn hn2
    have h2 := ih (fun y hy => h y (by simp [hy]))
    simp only [edgI, List.flatMap_cons, List.length_append, List.length_map, List.length_cons] at h2 ⊢
    omega
theorem ilevels_l2 (ls : List S56) (n : Nat) (i w : Nat) (gs : List Int) (b am : Int) (gs' : List Int) (hb : 0 ≤ b ∧ b < (n : Int)) (hg : ∀ g ∈ gs, 0 ≤ g ∧ g < (n : Int)) (hgl : gs.length ≤ 12) (hw : w < 1000) (K : Nat) (R : Option (List Int)) : ∀ (d j : Nat) (lv : List Int) (ch : Bool) (B : Int), j + d = gs.length → lv.length = n → 0 ≤ B → (∀ x ∈ lv, 0 ≤ x ∧ x ≤ B) → B + (d : Int) ≤ 1000000 →
    (∀ k, K ≤ k → impl_LevelsOf.l1 k ls (((gs.drop j).map fun g => (b, g)).foldl relF (lv, ch)).1 (((gs.drop j).map fun g => (b, g)).foldl relF (lv, ch)).2 (n : Int) (i : Int) ls (ls.length : Int) ((w + 1 : Nat) : Int) = R) →
    ∀ k, K + d < k → impl_LevelsOf.l2 k ls lv ch (n : Int) (i : Int) ls (ls.length : Int) (w : Int) gs (gs.length : Int) (j : Int) b am gs' = R := by
  intro d
  induction d with
  | zero =>
    intro j lv ch B hj hl hB hx hBb hR k hk
    obtain ⟨k, rfl, hk⟩ := fuel hk
    simp only [impl_LevelsOf.l2]
    rw [if_neg (by omega), wrap_succ (by omega)]
    have := hR k (by omega)
    rw [drop_end (by omega)] at this
    exact this
  | succ d ih =>
    intro j lv ch B hj hl hB hx hBb hR k hk
    obtain ⟨k, rfl, hk⟩ := fuel hk
    have hgj := hg _ (rd_mem (xs := gs) (i := j) (by omega))
    have hr := rdB hB hx (rd gs (j : Int))
    rw [drop_rd (show j < gs.length by omega)] at hR
    simp only [List.map_cons, List.foldl_cons] at hR
    simp only [impl_LevelsOf.l2]
    rw [if_pos (by omega), if_pos (by omega), if_pos (by omega), if_pos hb.1, if_pos (by omega), if_pos hgj.1, if_pos (by omega), wrap_id (x := rd lv (rd gs (j : Int)) + 1) (by omega) (by omega), wrap_succ (by omega)]
    by_cases hc : rd lv b < rd lv (rd gs (j : Int)) + 1
    · have e : relF (lv, ch) (b, rd gs (j : Int)) = (lv.set b.toNat (rd lv (rd gs (j : Int)) + 1), true) := by unfold relF; rw [if_pos hc]
      rw [e] at hR
      rw [if_pos hc]
      refine ih (j + 1) _ true (B + 1) (by omega) (by simpa using hl) (by omega) (fun x hxx => ?_) ?_ hR k (by omega)
      · rcases List.mem_or_eq_of_mem_set hxx with q | q
        · have := hx x q; omega
        · rw [q]; omega
      · omega
    · have e : relF (lv, ch) (b, rd gs (j : Int)) = (lv, ch) := by unfold relF; rw [if_neg hc]
      rw [e] at hR
      rw [if_neg hc]
      exact ih (j + 1) lv ch B (by omega) hl hB hx (by omega) hR k (by omega)
theorem ilevels_l1 (ls : List S56) (n : Nat) (hL : OkLoans ls (n : Int)) (i : Nat) (K : Nat) (R : Option (List Int)) : ∀ (d w : Nat) (lv : List Int) (ch : Bool) (B : Int), w + d = ls.length → lv.length = n → 0 ≤ B → (∀ x ∈ lv, 0 ≤ x ∧ x ≤ B) → B + 12 * (d : Int) ≤ 1000000 → i < 1000 →
    (((edgI (ls.drop w)).foldl relF (lv, ch)).2 = true → ∀ k, K ≤ k → impl_LevelsOf.l0 k ls ((edgI (ls.drop w)).foldl relF (lv, ch)).1 (n : Int) ((i + 1 : Nat) : Int) = R) →
    (((edgI (ls.drop w)).foldl relF (lv, ch)).2 = false → R = some ((edgI (ls.drop w)).foldl relF (lv, ch)).1) →
    ∀ k, K + 20 * d < k → impl_LevelsOf.l1 k ls lv ch (n : Int) (i : Int) ls (ls.length : Int) (w : Int) = R := by
  obtain ⟨h1, h2, h3, h4⟩ := id hL
  intro d
  induction d with
  | zero =>
    intro w lv ch B hw hl hB hx hBb hi hR1 hR2 k hk
    obtain ⟨k, rfl, hk⟩ := fuel hk
    rw [show ls.drop w = [] from List.drop_eq_nil_of_le (by omega)] at hR1 hR2
    simp only [edgI, List.flatMap_nil, List.foldl_nil] at hR1 hR2
    simp only [impl_LevelsOf.l1]
    rw [if_neg (by omega)]
    by_cases hc : ch = true
    · rw [if_pos hc, wrap_succ (by omega)]; exact hR1 hc k (by omega)
    · rw [if_neg hc, hR2 (by simpa using hc)]
  | succ d ih =>
    intro w lv ch B hw hl hB hx hBb hi hR1 hR2 k hk
    obtain ⟨k, rfl, hk⟩ := fuel (show K + 20 * d + 19 < k by omega)
    have hwl : w < ls.length := by omega
    have hok := h4 _ (List.getElem_mem hwl)
    have hgl := guards_le hok.2.2.2.2.2.1 h2 h3
    have hsp : edgI (ls.drop w) = ((ls[w]).f2.map fun g => ((ls[w]).f0, g)) ++ edgI (ls.drop (w + 1)) := by
      unfold edgI; rw [List.drop_eq_getElem_cons hwl, List.flatMap_cons]
    rw [hsp, List.foldl_append] at hR1 hR2
    simp only [impl_LevelsOf.l1]
    rw [if_pos (by omega), if_pos (by omega), if_pos (by omega), rdT_at hwl]
    have hbd := foldR_bd ((ls[w]).f2.map fun g => ((ls[w]).f0, g)) (lv, ch) B hB hx
    rw [List.length_map] at hbd
    refine ilevels_l2 ls n i w _ _ _ _ ⟨hok.1, hok.2.1⟩ hok.2.2.2.2.2.1.2 hgl (by omega) (K + 20 * d + 1) R (ls[w]).f2.length 0 lv ch B (by omega) hl hB hx (by omega) (fun k hk => ?_) k (by omega)
    rw [List.drop_zero]
    generalize hst : ((ls[w]).f2.map fun g => ((ls[w]).f0, g)).foldl relF (lv, ch) = st at *
    have hl2 : st.1.length = n := by rw [← hst, foldR_len]; exact hl
    exact ih (w + 1) st.1 st.2 (B + ((ls[w]).f2.length : Int)) (by omega) hl2 (by omega) hbd (by omega) hi hR1 hR2 k (by omega)
set_option maxRecDepth 20000 in
theorem ilevels_l0 (ls : List S56) (n : Nat) (hL : OkLoans ls (n : Int)) : ∀ (m i k : Nat) (lv : List Int) (B : Int), i + m = n → lv.length = n → 0 ≤ B → (∀ x ∈ lv, 0 ≤ x ∧ x ≤ B) → B + 192 * (m : Int) ≤ 900000 → m * 400 < k →
    impl_LevelsOf.l0 k ls lv (n : Int) (i : Int) = some (iterR (edgI ls) m lv) := by
  obtain ⟨h1, h2, h3, h4⟩ := id hL
  intro m
  induction m with
  | zero =>
    intro i k lv B hi hl hB hx hBb hk
    obtain ⟨k, rfl, -⟩ := fuel (show 0 < k by omega)
    simp only [impl_LevelsOf.l0, iterR]
    rw [if_neg (by omega)]
  | succ m ih =>
    intro i k lv B hi hl hB hx hBb hk
    obtain ⟨k, rfl, hk⟩ := fuel (show m * 400 + 399 < k by omega)
    have hel := edgI_len h2 h3 h4
    have hbd := foldR_bd (edgI ls) (lv, false) B hB hx
    simp only [impl_LevelsOf.l0]
    rw [if_pos (by omega)]
    refine ilevels_l1 ls n hL i (m * 400 + 1) _ ls.length 0 lv false B (by omega) hl hB hx (by omega) (by omega) ?_ ?_ k (by omega)
    · intro hc k hk
      rw [List.drop_zero] at hc ⊢
      have hl2 : ((edgI ls).foldl relF (lv, false)).1.length = n := by rw [foldR_len]; exact hl
      rw [ih (i + 1) k _ (B + ((edgI ls).length : Int)) (by omega) hl2 (by omega) hbd (by omega) (by omega)]
      rw [iterR_on hc]
    · intro hc
      rw [List.drop_zero] at hc ⊢
      rw [iterR_off hc]
/-- The levels. -/
def levM (ls : List S56) (n : Int) : List Int := if OkLoans ls n then iterR (edgI ls) n.toNat (List.replicate n.toNat 0) else []
theorem iLevels_spec (k : Nat) (ls : List S56) (n : Int) (hl : ls.length ≤ 1048576) (hg : ∀ l ∈ ls, l.f2.length ≤ 1048576) (hk : 1048700 < k) : impl_LevelsOf.f k ls n = some (levM ls n) := by
  unfold impl_LevelsOf.f levM
  rw [implValidLoans_spec k ls n hl hg hk, Option.bind_some]
  by_cases h : OkLoans ls n
  · obtain ⟨h1, h2, h3, h4⟩ := id h
    obtain ⟨m, rfl⟩ := Int.eq_ofNat_of_zero_le (show 0 ≤ n by omega)
    rw [decide_eq_true h, if_pos rfl, if_pos (by omega), Int.toNat_natCast, if_pos (by omega), if_pos h]
    exact ilevels_l0 ls m h m 0 k _ 0 (by omega) (by simp) (by omega) (fun x hx => by rw [(List.mem_replicate.1 hx).2]; omega) (by omega) (by omega)
  · rw [decide_eq_false h, if_neg (by simp), if_neg h]

/-! ### place -/
theorem placeIn_l0 (xs : List Int) (x : Int) (hb : xs.length < 4611686018427387904) : ∀ (d k i : Nat), i + d = xs.length → d < k → spec_placeIn.l0 k xs x (i : Int) = some (idxM (xs.drop i) x i) := by
  intro d
  induction d with
  | zero =>
    intro k i hi hk
    obtain ⟨k, rfl, -⟩ := fuel hk
    simp only [spec_placeIn.l0]
    rw [if_neg (by omega), drop_end (by omega)]
    simp [idxM]
  | succ d ih =>
    intro k i hi hk
    obtain ⟨k, rfl, hk⟩ := fuel hk
    simp only [spec_placeIn.l0]
    rw [if_pos (by omega), if_pos (by omega), wrap_succ (by omega), drop_rd (by omega)]
    simp only [idxM]
    rw [ih k (i + 1) (by omega) (by omega)]
    split <;> rfl
theorem placeIn_spec (k : Nat) (xs : List Int) (x : Int) (hb : xs.length < 4611686018427387904) (hk : xs.length < k) : spec_placeIn.f k xs x = some (idxM xs x 0) := by
  unfold spec_placeIn.f
  have := placeIn_l0 xs x hb xs.length k 0 (by omega) hk
  simpa using this

/-! ### inrange -/
theorem inRange_spec (a lo up : Int) : spec_inRange.f a lo up = some (decide (lo ≤ a ∧ a ≤ up)) := by
  unfold spec_inRange.f
  by_cases h : lo ≤ a <;> simp [h]

/-! ### members -/
theorem validMembers_l0 (xs : List Int) (n : Int) (hb : xs.length < 4611686018427387904) : ∀ (d k i : Nat), i + d = xs.length → xs.length + d < k → spec_validMembers.l0 k xs n (i : Int) = some (memB (wrap64 (n - 1) + 1) (xs.take i) (xs.drop i)) := by
  intro d
  induction d with
  | zero =>
    intro k i hi hk
    obtain ⟨k, rfl, -⟩ := fuel hk
    simp only [spec_validMembers.l0]
    rw [if_neg (by omega), drop_end (by omega)]
    simp [memB]
  | succ d ih =>
    intro k i hi hk
    obtain ⟨k, rfl, hk⟩ := fuel hk
    simp only [spec_validMembers.l0]
    rw [if_pos (by omega), if_pos (by omega), inRange_spec, wrap_succ (i := i) (by omega), drop_rd (by omega), toNat_cast]
    rw [placeIn_spec _ _ _ (by simp; omega) (by simp; omega)]
    simp only [Option.bind_some]
    rw [if_pos (show (i : Int) ≤ (xs.length : Int) by omega), ih k (i + 1) (by omega) (by omega), take_rd (by omega)]
    simp only [memB]
    by_cases h1 : 0 ≤ rd xs (i : Int) ∧ rd xs (i : Int) < wrap64 (n - 1) + 1
    · rw [decide_eq_true h1, decide_eq_true (show 0 ≤ rd xs (i : Int) ∧ rd xs (i : Int) ≤ wrap64 (n - 1) by omega), if_pos rfl]
      have h2 := idxM_nonneg (xs.take i) (rd xs (i : Int)) 0
      by_cases h3 : rd xs (i : Int) ∈ xs.take i
      · rw [if_pos (h2.2 h3), decide_eq_true h3]; rfl
      · rw [if_neg (fun h => h3 (h2.1 h)), decide_eq_false h3]; rfl
    · rw [decide_eq_false h1, decide_eq_false (show ¬ (0 ≤ rd xs (i : Int) ∧ rd xs (i : Int) ≤ wrap64 (n - 1)) by omega), if_neg (by decide)]; rfl
theorem validMembers_any (k : Nat) (xs : List Int) (n : Int) (hb : xs.length < 4611686018427387904) (hk : xs.length + xs.length < k) : spec_validMembers.f k xs n = some (decide (GoodM xs (wrap64 (n - 1) + 1))) := by
  unfold spec_validMembers.f
  have := validMembers_l0 xs n hb xs.length k 0 (by omega) hk
  rw [← memB_good]
  simpa using this
theorem validMembers_spec (k : Nat) (xs : List Int) (n : Int) (hn : -4611686018427387904 ≤ n) (hn2 : n ≤ 4611686018427387904) (hb : xs.length < 4611686018427387904) (hk : xs.length + xs.length < k) : spec_validMembers.f k xs n = some (decide (GoodM xs n)) := by
  rw [validMembers_any k xs n hb hk, wrap_id (x := n - 1) (by omega) (by omega), Int.sub_add_cancel]

/-! ### loansspec -/
theorem specValidLoans_out (list : List S56) (n : Int) (hn : ¬ (1 ≤ n ∧ n ≤ 12)) (hl : list.length ≤ 1048576) (hg : ∀ l ∈ list, l.f2.length ≤ 1048576) : ∀ (d k i : Nat), i + d = list.length → d + 2097200 < k →
    spec_validLoans.l0 k list n (i : Int) = some false := by
  intro d
  induction d with
  | zero =>
    intro k i hi hk
    obtain ⟨k, rfl, -⟩ := fuel (show 0 < k by omega)
    simp only [spec_validLoans.l0]
    rw [if_neg (by omega), inRange_spec, decide_eq_false hn]
    simp
  | succ d ih =>
    intro k i hi hk
    obtain ⟨k, rfl, hk⟩ := fuel (show d + 2097200 < k by omega)
    simp only [spec_validLoans.l0]
    rw [if_pos (by omega), if_pos (by omega), inRange_spec, inRange_spec]
    have hgl := hg _ (rdT_mem (xs := list) (i := i) (by omega))
    generalize rd_T56 list (i : Int) = l at hgl ⊢
    rw [validMembers_any _ _ _ (by omega) (by omega), placeIn_spec _ _ _ (by omega) (by omega), wrap_succ (i := i) (by omega), ih k (i + 1) (by omega) (by omega)]
    simp only [Option.bind_some, ite_self]
theorem specValidLoans_l0 (list : List S56) (n : Int) (hn1 : 1 ≤ n) (hn2 : n ≤ 12) (hl : list.length ≤ 1048576) (hg : ∀ l ∈ list, l.f2.length ≤ 1048576) : ∀ (d k i : Nat), i + d = list.length → d + 2097200 < k →
    spec_validLoans.l0 k list n (i : Int) = some (decide (list.length ≤ 16 ∧ ∀ l ∈ list.drop i, OkLoan l n)) := by
  intro d
  induction d with
  | zero =>
    intro k i hi hk
    obtain ⟨k, rfl, -⟩ := fuel (show 0 < k by omega)
    simp only [spec_validLoans.l0]
    rw [if_neg (by omega), drop_end (by omega), inRange_spec, decide_eq_true (show 1 ≤ n ∧ n ≤ 12 from ⟨hn1, hn2⟩)]
    by_cases h : (list.length : Int) ≤ 16
    · rw [if_pos h, decide_eq_true]
      · rfl
      · exact ⟨by omega, by simp⟩
    · rw [if_neg h, decide_eq_false]; rintro ⟨h2, -⟩; omega
  | succ d ih =>
    intro k i hi hk
    obtain ⟨k, rfl, hk⟩ := fuel (show d + 2097200 < k by omega)
    simp only [spec_validLoans.l0]
    rw [if_pos (by omega), if_pos (by omega), inRange_spec, inRange_spec, drop_rdT (by omega)]
    have hgl := hg _ (rdT_mem (xs := list) (i := i) (by omega))
    generalize rd_T56 list (i : Int) = l at hgl ⊢
    rw [validMembers_spec _ _ _ (by omega) (by omega) (by omega) (by omega), placeIn_spec _ _ _ (by omega) (by omega), wrap_succ (i := i) (by omega), ih k (i + 1) (by omega) (by omega), wrap_id (x := n - 1) (by omega) (by omega)]
    simp only [Option.bind_some, List.forall_mem_cons]
    by_cases h1 : 0 ≤ l.f0 ∧ l.f0 ≤ n - 1
    · rw [decide_eq_true h1, if_pos rfl]
      by_cases h2 : 1 ≤ l.f1 ∧ l.f1 ≤ 100000
      · rw [decide_eq_true h2, if_pos rfl]
        by_cases h3 : (l.f2.length : Int) = 0
        · rw [if_pos h3, decide_eq_false]; rintro ⟨-, h, -⟩; have := h.2.2.2.2.1; omega
        · rw [if_neg h3]
          by_cases h4 : GoodM l.f2 n
          · rw [decide_eq_true h4, if_pos rfl]
            have hm := idxM_nonneg l.f2 l.f0 0
            by_cases h5 : l.f0 ∈ l.f2
            · rw [if_pos (hm.2 h5), decide_eq_false]; rintro ⟨-, h, -⟩; exact h.2.2.2.2.2.2 h5
            · rw [if_neg (fun h => h5 (hm.1 h))]
              congr 1
              rw [decide_eq_decide]
              exact ⟨fun h => ⟨h.1, ⟨by omega, by omega, by omega, by omega, by omega, h4, h5⟩, h.2⟩, fun h => ⟨h.1, h.2.2⟩⟩
          · rw [decide_eq_false h4, if_neg (by decide), decide_eq_false]; rintro ⟨-, h, -⟩; exact h4 h.2.2.2.2.2.1
      · rw [decide_eq_false h2, if_neg (by decide), decide_eq_false]; rintro ⟨-, h, -⟩; exact h2 ⟨h.2.2.1, h.2.2.2.1⟩
    · rw [decide_eq_false h1, if_neg (by decide), decide_eq_false]; rintro ⟨-, h, -⟩; exact h1 ⟨h.1, by have := h.2.1; omega⟩
theorem specValidLoans_spec (k : Nat) (list : List S56) (n : Int) (hl : list.length ≤ 1048576) (hg : ∀ l ∈ list, l.f2.length ≤ 1048576) (hk : 3145800 < k) : spec_validLoans.f k list n = some (decide (OkLoans list n)) := by
  unfold spec_validLoans.f
  by_cases h : 1 ≤ n ∧ n ≤ 12
  · have := specValidLoans_l0 list n h.1 h.2 hl hg list.length k 0 (by omega) (by omega)
    rw [show (0 : Int) = ((0 : Nat) : Int) from rfl, this]
    congr 1
    rw [decide_eq_decide, List.drop_zero]
    exact ⟨fun h2 => ⟨h2.1, h.1, h.2, h2.2⟩, fun h2 => ⟨h2.1, h2.2.2.2⟩⟩
  · have := specValidLoans_out list n h hl hg list.length k 0 (by omega) (by omega)
    rw [show (0 : Int) = ((0 : Nat) : Int) from rfl, this, decide_eq_false]
    rintro ⟨-, h1, h2, -⟩
    exact h ⟨h1, h2⟩

/-! ### slevels -/
/-- Whether one answers for another one. -/
def ansB (ls : List S56) (g b : Int) : Bool := ls.any fun l => decide (l.f0 = b) && decide (g ∈ l.f2)
theorem answers_l0 (ls : List S56) (g b : Int) (hl : ls.length ≤ 1000) (hg : ∀ l ∈ ls, l.f2.length ≤ 20) : ∀ (d k w : Nat), w + d = ls.length → d + 40 < k → spec_answers.l0 k ls g b (w : Int) = some (ansB (ls.drop w) g b) := by
  intro d
  induction d with
  | zero =>
    intro k w hw hk
    obtain ⟨k, rfl, -⟩ := fuel (show 0 < k by omega)
    simp only [spec_answers.l0]
    rw [if_neg (by omega), List.drop_eq_nil_of_le (by omega)]; rfl
  | succ d ih =>
    intro k w hw hk
    obtain ⟨k, rfl, hk⟩ := fuel (show d + 41 < k by omega)
    have hwl : w < ls.length := by omega
    have hgl := hg _ (List.getElem_mem hwl)
    have hsp : ansB (ls.drop w) g b = ((decide ((ls[w]).f0 = b) && decide (g ∈ (ls[w]).f2)) || ansB (ls.drop (w + 1)) g b) := by
      unfold ansB; rw [List.drop_eq_getElem_cons hwl, List.any_cons]
    simp only [spec_answers.l0]
    rw [if_pos (by omega), if_pos (by omega), rdT_at hwl, hsp, wrap_succ (by omega), ih k (w + 1) (by omega) (by omega)]
    by_cases h1 : (ls[w]).f0 = b
    · rw [if_pos h1, placeIn_spec _ _ _ (by omega) (by omega), Option.bind_some, decide_eq_true h1]
      by_cases h2 : g ∈ (ls[w]).f2
      · rw [if_pos ((idxM_nonneg _ _ _).2 h2), decide_eq_true h2]; rfl
      · have := (idxM_neg (ls[w]).f2 g 0).2 h2
        rw [if_neg (by omega), decide_eq_false h2]; simp
    · rw [if_neg h1, decide_eq_false h1]; simp
theorem answers_spec (k : Nat) (ls : List S56) (g b : Int) (hl : ls.length ≤ 16) (hg : ∀ l ∈ ls, l.f2.length ≤ 20) (hk : 60 < k) : spec_answers.f k ls g b = some (ansB ls g b) := by
  unfold spec_answers.f
  have := answers_l0 ls g b (by omega) hg ls.length k 0 (by omega) (by omega)
  rwa [cast0, List.drop_zero] at this
/-- The edges as the reference meets them. -/
def rowS (ls : List S56) (i j d : Nat) : List (Int × Int) := ((List.range' j d).filter fun q : Nat => ansB ls (q : Int) (i : Int)).map fun q : Nat => ((i : Int), (q : Int))
def edgS (ls : List S56) (n i d : Nat) : List (Int × Int) := (List.range' i d).flatMap fun p => rowS ls p 0 n
theorem rowS_len (ls : List S56) (i j d : Nat) : (rowS ls i j d).length ≤ d := by
  unfold rowS
  rw [List.length_map]
  have := List.length_filter_le (fun q : Nat => ansB ls (q : Int) (i : Int)) (List.range' j d)
  rw [List.length_range'] at this
  exact this
theorem edgS_len (ls : List S56) (n : Nat) : ∀ d i : Nat, (edgS ls n i d).length ≤ n * d := by
  intro d
  induction d with
  | zero => intro i; simp [edgS]
  | succ d ih =>
    intro i
    have h1 := ih (i + 1)
    have h2 := rowS_len ls i 0 n
    unfold edgS at h1 ⊢
    rw [List.range'_succ, List.flatMap_cons, List.length_append, Nat.mul_succ]
    omega
theorem rowS_succ (ls : List S56) (i j d : Nat) : rowS ls i j (d + 1) = (if ansB ls (j : Int) (i : Int) = true then [((i : Int), (j : Int))] else []) ++ rowS ls i (j + 1) d := by
  unfold rowS
  rw [List.range'_succ, List.filter_cons]
  split <;> simp_all
theorem slevels_l2 (ls : List S56) (n : Nat) (hL : OkLoans ls (n : Int)) (hg : ∀ l ∈ ls, l.f2.length ≤ 20) (r i : Nat) (hi : i < n) (K : Nat) (R : Option (List Int)) : ∀ (d j : Nat) (lv : List Int) (ch : Bool) (B : Int), j + d = n → lv.length = n → 0 ≤ B → (∀ x ∈ lv, 0 ≤ x ∧ x ≤ B) → B + (d : Int) ≤ 1000000 →
    (∀ k, K ≤ k → spec_levels.l1 k ls (n : Int) ((rowS ls i j d).foldl relF (lv, ch)).1 (r : Int) ((rowS ls i j d).foldl relF (lv, ch)).2 ((i + 1 : Nat) : Int) = R) →
    ∀ k, K + d + 100 < k → spec_levels.l2 k ls (n : Int) lv (r : Int) ch (i : Int) (j : Int) = R := by
  obtain ⟨h1, h2, h3, h4⟩ := id hL
  intro d
  induction d with
  | zero =>
    intro j lv ch B hj hl hB hx hBb hR k hk
    obtain ⟨k, rfl, hk⟩ := fuel (show K + 100 < k by omega)
    simp only [spec_levels.l2]
    rw [if_neg (by omega), wrap_succ (by omega)]
    exact hR k (by omega)
  | succ d ih =>
    intro j lv ch B hj hl hB hx hBb hR k hk
    obtain ⟨k, rfl, hk⟩ := fuel (show K + d + 101 < k by omega)
    have hr := rdB hB hx (j : Int)
    rw [rowS_succ, ] at hR
    simp only [spec_levels.l2]
    rw [if_pos (by omega), answers_spec _ _ _ _ h1 hg (by omega), Option.bind_some, wrap_succ (by omega)]
    by_cases ha : ansB ls (j : Int) (i : Int) = true
    · rw [if_pos ha] at hR
      rw [List.singleton_append] at hR
      simp only [List.foldl_cons] at hR
      rw [if_pos ha, if_pos (by omega), if_pos (by omega), if_pos (by omega), if_pos (by omega), wrap_id (x := rd lv (j : Int) + 1) (by omega) (by omega)]
      by_cases hc : rd lv (i : Int) < rd lv (j : Int) + 1
      · have e : relF (lv, ch) ((i : Int), (j : Int)) = (lv.set (i : Int).toNat (rd lv (j : Int) + 1), true) := by unfold relF; rw [if_pos hc]
        rw [e] at hR
        rw [if_pos hc]
        refine ih (j + 1) _ true (B + 1) (by omega) (by simpa using hl) (by omega) (fun x hxx => ?_) (by omega) hR k (by omega)
        rcases List.mem_or_eq_of_mem_set hxx with q | q
        · have := hx x q; omega
        · rw [q]; omega
      · have e : relF (lv, ch) ((i : Int), (j : Int)) = (lv, ch) := by unfold relF; rw [if_neg hc]
        rw [e] at hR
        rw [if_neg hc]
        exact ih (j + 1) lv ch B (by omega) hl hB hx (by omega) hR k (by omega)
    · rw [if_neg ha, List.nil_append] at hR
      rw [if_neg ha]
      exact ih (j + 1) lv ch B (by omega) hl hB hx (by omega) hR k (by omega)
theorem slevels_l1 (ls : List S56) (n : Nat) (hL : OkLoans ls (n : Int)) (hg : ∀ l ∈ ls, l.f2.length ≤ 20) (r : Nat) (hr : r < 1000) (K : Nat) (R : Option (List Int)) : ∀ (d i : Nat) (lv : List Int) (ch : Bool) (B : Int), i + d = n → lv.length = n → 0 ≤ B → (∀ x ∈ lv, 0 ≤ x ∧ x ≤ B) → B + 12 * (d : Int) ≤ 900000 →
    (((edgS ls n i d).foldl relF (lv, ch)).2 = true → ∀ k, K ≤ k → spec_levels.l0 k ls (n : Int) ((edgS ls n i d).foldl relF (lv, ch)).1 ((r + 1 : Nat) : Int) = R) →
    (((edgS ls n i d).foldl relF (lv, ch)).2 = false → R = some ((edgS ls n i d).foldl relF (lv, ch)).1) →
    ∀ k, K + 200 * d + 1 < k → spec_levels.l1 k ls (n : Int) lv (r : Int) ch (i : Int) = R := by
  obtain ⟨h1, h2, h3, h4⟩ := id hL
  intro d
  induction d with
  | zero =>
    intro i lv ch B hi hl hB hx hBb hR1 hR2 k hk
    obtain ⟨k, rfl, hk⟩ := fuel (show K < k by omega)
    simp only [edgS, List.range'_zero, List.flatMap_nil, List.foldl_nil] at hR1 hR2
    simp only [spec_levels.l1]
    rw [if_neg (by omega)]
    by_cases hc : ch = true
    · rw [if_pos hc, wrap_succ (by omega)]; exact hR1 hc k (by omega)
    · rw [if_neg hc, hR2 (by simpa using hc)]
  | succ d ih =>
    intro i lv ch B hi hl hB hx hBb hR1 hR2 k hk
    obtain ⟨k, rfl, hk⟩ := fuel (show K + 200 * d + 200 < k by omega)
    have hsp : edgS ls n i (d + 1) = rowS ls i 0 n ++ edgS ls n (i + 1) d := by
      unfold edgS; rw [List.range'_succ, List.flatMap_cons]
    rw [hsp, List.foldl_append] at hR1 hR2
    have hbd := foldR_bd (rowS ls i 0 n) (lv, ch) B hB hx
    have hrl := rowS_len ls i 0 n
    simp only [spec_levels.l1]
    rw [if_pos (by omega)]
    refine slevels_l2 ls n hL hg r i (by omega) (K + 200 * d + 2) R n 0 lv ch B (by omega) hl hB hx (by omega) (fun k hk => ?_) k (by omega)
    generalize hst : (rowS ls i 0 n).foldl relF (lv, ch) = st at *
    have hl2 : st.1.length = n := by rw [← hst, foldR_len]; exact hl
    exact ih (i + 1) st.1 st.2 (B + ((rowS ls i 0 n).length : Int)) (by omega) hl2 (by omega) hbd (by omega) hR1 hR2 k (by omega)
set_option maxRecDepth 20000 in
theorem slevels_l0 (ls : List S56) (n : Nat) (hL : OkLoans ls (n : Int)) (hg : ∀ l ∈ ls, l.f2.length ≤ 20) : ∀ (m r k : Nat) (lv : List Int) (B : Int), r + m = n + 1 → lv.length = n → 0 ≤ B → (∀ x ∈ lv, 0 ≤ x ∧ x ≤ B) → B + 200 * (m : Int) ≤ 800000 → m * 3000 < k →
    spec_levels.l0 k ls (n : Int) lv (r : Int) = some (iterR (edgS ls n 0 n) m lv) := by
  obtain ⟨h1, h2, h3, h4⟩ := id hL
  intro m
  induction m with
  | zero =>
    intro r k lv B hi hl hB hx hBb hk
    obtain ⟨k, rfl, -⟩ := fuel (show 0 < k by omega)
    simp only [spec_levels.l0, iterR]
    rw [if_neg (by omega)]
  | succ m ih =>
    intro r k lv B hi hl hB hx hBb hk
    obtain ⟨k, rfl, hk⟩ := fuel (show m * 3000 + 2999 < k by omega)
    have hel : (edgS ls n 0 n).length ≤ 144 := by
      have q := edgS_len ls n n 0
      have q2 : n * n ≤ 12 * 12 := Nat.mul_le_mul (by omega) (by omega)
      omega
    have hbd := foldR_bd (edgS ls n 0 n) (lv, false) B hB hx
    simp only [spec_levels.l0]
    rw [if_pos (by omega)]
    refine slevels_l1 ls n hL hg r (by omega) (m * 3000 + 1) _ n 0 lv false B (by omega) hl hB hx (by omega) ?_ ?_ k (by omega)
    · intro hc k hk
      have hl2 : ((edgS ls n 0 n).foldl relF (lv, false)).1.length = n := by rw [foldR_len]; exact hl
      rw [ih (r + 1) k _ (B + ((edgS ls n 0 n).length : Int)) (by omega) hl2 (by omega) hbd (by omega) (by omega)]
      rw [iterR_on hc]
    · intro hc
      rw [iterR_off hc]

/-! ### exactints -/
theorem toIntS_l0 (xs : List Int) (hb : xs.length < 4611686018427387904) : ∀ (d k i : Nat), i + d = xs.length → d < k → laws_toIntS.l0 k xs (xs.take i ++ List.replicate d 0) (i : Int) = some xs := by
  intro d
  induction d with
  | zero =>
    intro k i hi hk
    obtain ⟨k, rfl, -⟩ := fuel hk
    have e : xs.take i = xs := List.take_of_length_le (by omega)
    simp only [laws_toIntS.l0]
    rw [if_neg (by omega), e]; simp
  | succ d ih =>
    intro k i hi hk
    obtain ⟨k, rfl, hk⟩ := fuel hk
    have hti : (xs.take i).length = i := by simp; omega
    have := ih k (i + 1) (by omega) (by omega)
    rw [take_rd (by omega)] at this
    simp only [laws_toIntS.l0]
    rw [if_pos (by omega), if_pos (by omega), if_pos (by simp; omega), toNat_cast, set_fill' hti, wrap_succ (by omega)]
    exact this
theorem toIntS_spec (k : Nat) (xs : List Int) (hb : xs.length ≤ 35184372088832) (hk : xs.length < k) : laws_toIntS.f k xs = some xs := by
  unfold laws_toIntS.f
  have := toIntS_l0 xs (by omega) xs.length k 0 (by omega) hk
  rw [if_pos (by omega), if_pos (by simpa using hb), toNat_cast]
  simpa using this
theorem eqIntS_l0 (a b : List Int) (hl : a.length = b.length) (hb : a.length < 4611686018427387904) : ∀ (d k i : Nat), i + d = a.length → d < k → laws_eqIntS.l0 k a b (i : Int) = some (decide (a.drop i = b.drop i)) := by
  intro d
  induction d with
  | zero =>
    intro k i hi hk
    obtain ⟨k, rfl, -⟩ := fuel hk
    simp only [laws_eqIntS.l0]
    rw [if_neg (by omega), drop_end (by omega), drop_end (by omega)]
    simp
  | succ d ih =>
    intro k i hi hk
    obtain ⟨k, rfl, hk⟩ := fuel hk
    simp only [laws_eqIntS.l0]
    rw [if_pos (by omega), if_pos (by omega), if_pos (by omega), wrap_succ (by omega), drop_rd (xs := a) (i := i) (by omega), drop_rd (xs := b) (i := i) (by omega)]
    by_cases e : rd a (i : Int) = rd b (i : Int)
    · rw [if_pos e, ih k (i + 1) (by omega) (by omega), e]; simp
    · rw [if_neg e]; simp [e]
theorem eqIntS_spec (k : Nat) (a b : List Int) (hb : a.length < 4611686018427387904) (hk : a.length < k) : laws_eqIntS.f k a b = some (decide (a = b)) := by
  unfold laws_eqIntS.f
  by_cases h : a.length = b.length
  · first | rw [if_pos (by omega)] | rw [if_neg (by omega)]
    have := eqIntS_l0 a b h hb a.length k 0 (by omega) hk
    simpa using this
  · first | rw [if_neg (by omega)] | rw [if_pos (by omega)]
    have : a ≠ b := fun e => h (by rw [e])
    simp [this]

/-! ### exactloans -/
def convM (x : S68) : S56 := ⟨x.f0, x.f1, x.f2⟩
theorem rdA_at {xs : List S68} {i : Nat} (h : i < xs.length) : rd_T68 xs (i : Int) = xs[i] := by
  simp [rd_T68, List.getD_eq_getElem?_getD, List.getElem?_eq_getElem h]
theorem takeA {xs : List S68} {i : Nat} (h : i < xs.length) : xs.take (i + 1) = xs.take i ++ [rd_T68 xs (i : Int)] := by
  rw [rdA_at h, List.take_succ_eq_append_getElem h]
theorem toLoanS_l0 (xs : List S68) (hb : xs.length ≤ 1048576) (hg : ∀ x ∈ xs, x.f2.length ≤ 1048576) : ∀ (d k i : Nat), i + d = xs.length → d + 1048580 < k → laws_toLoanS.l0 k xs ((xs.take i).map convM ++ List.replicate d z56) (i : Int) = some (xs.map convM) := by
  intro d
  induction d with
  | zero =>
    intro k i hi hk
    obtain ⟨k, rfl, -⟩ := fuel (show 0 < k by omega)
    have e : xs.take i = xs := List.take_of_length_le (by omega)
    simp only [laws_toLoanS.l0]
    rw [if_neg (by omega), e]; simp
  | succ d ih =>
    intro k i hi hk
    obtain ⟨k, rfl, hk⟩ := fuel (show d + 1048580 < k by omega)
    have hti : ((xs.take i).map convM).length = i := by simp; omega
    have hgi := hg (rd_T68 xs (i : Int)) (by rw [rdA_at (by omega)]; exact List.getElem_mem (by omega))
    have := ih k (i + 1) (by omega) (by omega)
    rw [takeA (by omega), List.map_append] at this
    simp only [laws_toLoanS.l0, laws_toLoan.f]
    rw [if_pos (by omega), if_pos (by omega), toIntS_spec _ _ (by omega) (by omega), Option.bind_some, Option.bind_some, if_pos (by simp; omega), toNat_cast, set_fill' hti, wrap_succ (by omega)]
    exact this
theorem toLoanS_spec (k : Nat) (xs : List S68) (hb : xs.length ≤ 1048576) (hg : ∀ x ∈ xs, x.f2.length ≤ 1048576) (hk : 2097200 < k) : laws_toLoanS.f k xs = some (xs.map convM) := by
  unfold laws_toLoanS.f
  have := toLoanS_l0 xs hb hg xs.length k 0 (by omega) (by omega)
  rw [if_pos (by omega), if_pos (by omega), toNat_cast]
  simpa using this
theorem szLoanS_l0 (xs : List S68) (hb : xs.length ≤ 1048576) (hg : ∀ x ∈ xs, x.f2.length ≤ maxLen) : ∀ (d k i : Nat) (a : Int), i + d = xs.length → d < k → 0 ≤ a → a ≤ 1048576 →
    ∃ r, laws_szLoanS.l0 k xs a (i : Int) = some r ∧ (0 ≤ r → r ≤ a ∧ ∀ x ∈ xs.drop i, x.f2.length ≤ 1048576) := by
  have hbig : maxLen ≤ 9223372036854775807 := by decide
  intro d
  induction d with
  | zero =>
    intro k i a hi hk h0 h1
    obtain ⟨k, rfl, -⟩ := fuel hk
    simp only [laws_szLoanS.l0]
    rw [if_neg (by omega), drop_end (by omega)]
    exact ⟨a, rfl, fun _ => ⟨Int.le_refl _, by simp⟩⟩
  | succ d ih =>
    intro k i a hi hk h0 h1
    obtain ⟨k, rfl, hk⟩ := fuel hk
    have hgi := hg (rd_T68 xs (i : Int)) (by rw [rdA_at (by omega)]; exact List.getElem_mem (by omega))
    have hd : xs.drop i = rd_T68 xs (i : Int) :: xs.drop (i + 1) := by rw [rdA_at (by omega), List.drop_eq_getElem_cons (by omega)]
    simp only [laws_szLoanS.l0, laws_szLoan.f, laws_szIntS.f]
    rw [if_pos (by omega), if_pos (by omega), wrap_id (x := a - ((rd_T68 xs (i : Int)).f2.length : Int)) (by omega) (by omega)]
    by_cases h : a - ((rd_T68 xs (i : Int)).f2.length : Int) < 0
    · rw [if_pos h]
      exact ⟨-1, by simp, fun h => by omega⟩
    · rw [if_neg h, Option.bind_some, if_neg h, Option.bind_some, if_neg h, wrap_succ (by omega)]
      obtain ⟨r, hr, h2⟩ := ih k (i + 1) _ (by omega) (by omega) (Int.not_lt.1 h) (by omega)
      refine ⟨r, hr, fun h3 => ?_⟩
      obtain ⟨h4, h5⟩ := h2 h3
      refine ⟨by omega, fun x hx => ?_⟩
      rw [hd] at hx
      rcases List.mem_cons.1 hx with e | e
      · rw [e]; omega
      · exact h5 x e
theorem szLoanS_spec (k : Nat) (xs : List S68) (hb : xs.length ≤ maxLen) (hg : ∀ x ∈ xs, x.f2.length ≤ maxLen) (a : Int) (h0 : 0 ≤ a) (h1 : a ≤ 1048576) (hk : 1048580 < k) :
    ∃ r, laws_szLoanS.f k xs a = some r ∧ (0 ≤ r → r ≤ a ∧ xs.length ≤ 1048576 ∧ ∀ x ∈ xs, x.f2.length ≤ 1048576) := by
  have hbig : maxLen ≤ 9223372036854775807 := by decide
  unfold laws_szLoanS.f
  rw [wrap_id (x := a - (xs.length : Int)) (by omega) (by omega)]
  by_cases h : a - (xs.length : Int) < 0
  · rw [if_pos h]
    exact ⟨-1, rfl, fun h => by omega⟩
  · rw [if_neg h]
    obtain ⟨r, hr, h2⟩ := szLoanS_l0 xs (by omega) hg xs.length k 0 (a - (xs.length : Int)) (by omega) (by omega) (by omega) (by omega)
    refine ⟨r, hr, fun h3 => ?_⟩
    obtain ⟨h4, h5⟩ := h2 h3
    rw [List.drop_zero] at h5
    exact ⟨by omega, by omega, h5⟩
theorem eqLoanS_l0 (a : List S56) (hb : a.length ≤ 1048576) (hg : ∀ x ∈ a, x.f2.length ≤ 1048576) : ∀ (d k i : Nat), i + d = a.length → d + 1048580 < k → laws_eqLoanS.l0 k a a (i : Int) = some true := by
  intro d
  induction d with
  | zero =>
    intro k i hi hk
    obtain ⟨k, rfl, -⟩ := fuel (show 0 < k by omega)
    simp only [laws_eqLoanS.l0]
    rw [if_neg (by omega)]
  | succ d ih =>
    intro k i hi hk
    obtain ⟨k, rfl, hk⟩ := fuel (show d + 1048580 < k by omega)
    have hgi := hg (rd_T56 a (i : Int)) (rdT_mem (by omega))
    simp only [laws_eqLoanS.l0, laws_eqLoan.f]
    rw [if_pos (by omega), if_pos (by omega), wrap_succ (by omega), eqIntS_spec _ _ _ (by omega) (by omega)]
    simp only [if_true, Option.bind_some, decide_true]
    rw [if_pos (by omega)]
    exact ih k (i + 1) (by omega) (by omega)
theorem eqLoanS_self (k : Nat) (a : List S56) (hb : a.length ≤ 1048576) (hg : ∀ x ∈ a, x.f2.length ≤ 1048576) (hk : 2097200 < k) : laws_eqLoanS.f k a a = some true := by
  unfold laws_eqLoanS.f
  have := eqLoanS_l0 a hb hg a.length k 0 (by omega) (by omega)
  rw [if_pos rfl]
  exact this

/-! ### marks -/
/-- Numbers one after the other. -/
def markI (n : Nat) (a : Int) : List Int := (List.range n).map fun i : Nat => a + (i : Int)
theorem markI_length (n : Nat) (a : Int) : (markI n a).length = n := by simp [markI]
theorem markI_succ (n : Nat) (a : Int) : markI (n + 1) a = markI n a ++ [a + (n : Int)] := by simp [markI, List.range_succ]
theorem markI_rd {n i : Nat} (a : Int) (h : i < n) : rd (markI n a) (i : Int) = a + (i : Int) := by rw [markI, rd_mapRange h]
theorem markIntS_l0 (xs : List Int) (a : Int) (ha : 0 ≤ a ∧ a ≤ 1000000000) (hb : xs.length ≤ 1000000000) : ∀ (d k i : Nat), i + d = xs.length → d < k → laws_markIntS.l0 k (markI i a ++ xs.drop i) (a + (i : Int)) (i : Int) = some (a + (xs.length : Int), markI xs.length a) := by
  intro d
  induction d with
  | zero =>
    intro k i hi hk
    obtain ⟨k, rfl, -⟩ := fuel hk
    simp only [laws_markIntS.l0]
    rw [if_neg (by rw [List.length_append, markI_length, List.length_drop]; omega), drop_end (by omega), List.append_nil, show i = xs.length by omega]
  | succ d ih =>
    intro k i hi hk
    obtain ⟨k, rfl, hk⟩ := fuel hk
    simp only [laws_markIntS.l0]
    rw [if_pos (by rw [List.length_append, markI_length, List.length_drop]; omega), if_pos (by omega), toNat_cast, wrap_succ (by omega), wrap_id (by omega) (by omega)]
    have := ih k (i + 1) (by omega) (by omega)
    have e : (markI i a ++ xs.drop i).set i (a + (i : Int)) = markI (i + 1) a ++ xs.drop (i + 1) := by
      rw [drop_rd (by omega), markI_succ, List.set_append_right _ _ (by rw [markI_length]; omega), markI_length, Nat.sub_self, List.set_cons_zero, List.append_assoc]
      rfl
    rw [e, show a + (i : Int) + 1 = a + ((i + 1 : Nat) : Int) by omega]
    exact this
theorem markIntS_spec (k : Nat) (xs : List Int) (a : Int) (ha : 0 ≤ a ∧ a ≤ 1000000000) (hb : xs.length ≤ 1000000000) (hk : xs.length < k) : laws_markIntS.f k xs a = some (a + (xs.length : Int), markI xs.length a) := by
  unfold laws_markIntS.f
  have := markIntS_l0 xs a ha hb xs.length k 0 (by omega) hk
  simpa [markI] using this
theorem heldIntS_l0 (n : Nat) (a : Int) (ha : 0 ≤ a ∧ a ≤ 1000000000) (hb : n ≤ 1000000000) : ∀ (d k i : Nat), i + d = n → d < k → laws_heldIntS.l0 k (markI n a) (a + (i : Int)) (i : Int) = some (a + (n : Int)) := by
  intro d
  induction d with
  | zero =>
    intro k i hi hk
    obtain ⟨k, rfl, -⟩ := fuel hk
    simp only [laws_heldIntS.l0]
    rw [if_neg (by rw [markI_length]; omega), show i = n by omega]
  | succ d ih =>
    intro k i hi hk
    obtain ⟨k, rfl, hk⟩ := fuel hk
    simp only [laws_heldIntS.l0]
    rw [if_pos (by rw [markI_length]; omega), if_pos (by omega), if_pos (markI_rd a (by omega)), wrap_succ (by omega), wrap_id (by omega) (by omega)]
    have := ih k (i + 1) (by omega) (by omega)
    rw [show a + (i : Int) + 1 = a + ((i + 1 : Nat) : Int) by omega]
    exact this
theorem heldIntS_spec (k n : Nat) (a : Int) (ha : 0 ≤ a ∧ a ≤ 1000000000) (hb : n ≤ 1000000000) (hk : n < k) : laws_heldIntS.f k (markI n a) a = some (a + (n : Int)) := by
  unfold laws_heldIntS.f
  have := heldIntS_l0 n a ha hb n k 0 (by omega) hk
  simpa using this

/-! ### markloans -/
theorem markIntS_l0b (xs : List Int) (a : Int) (ha : 0 ≤ a ∧ a ≤ 1000000000000000000) (hb : xs.length ≤ 1000000000) : ∀ (d k i : Nat), i + d = xs.length → d < k → laws_markIntS.l0 k (markI i a ++ xs.drop i) (a + (i : Int)) (i : Int) = some (a + (xs.length : Int), markI xs.length a) := by
  intro d
  induction d with
  | zero =>
    intro k i hi hk
    obtain ⟨k, rfl, -⟩ := fuel hk
    simp only [laws_markIntS.l0]
    rw [if_neg (by rw [List.length_append, markI_length, List.length_drop]; omega), drop_end (by omega), List.append_nil, show i = xs.length by omega]
  | succ d ih =>
    intro k i hi hk
    obtain ⟨k, rfl, hk⟩ := fuel hk
    simp only [laws_markIntS.l0]
    rw [if_pos (by rw [List.length_append, markI_length, List.length_drop]; omega), if_pos (by omega), toNat_cast, wrap_succ (by omega), wrap_id (by omega) (by omega)]
    have := ih k (i + 1) (by omega) (by omega)
    have e : (markI i a ++ xs.drop i).set i (a + (i : Int)) = markI (i + 1) a ++ xs.drop (i + 1) := by
      rw [drop_rd (by omega), markI_succ, List.set_append_right _ _ (by rw [markI_length]; omega), markI_length, Nat.sub_self, List.set_cons_zero, List.append_assoc]
      rfl
    rw [e, show a + (i : Int) + 1 = a + ((i + 1 : Nat) : Int) by omega]
    exact this
theorem markIntS_big (k : Nat) (xs : List Int) (a : Int) (ha : 0 ≤ a ∧ a ≤ 1000000000000000000) (hb : xs.length ≤ 1000000000) (hk : xs.length < k) : laws_markIntS.f k xs a = some (a + (xs.length : Int), markI xs.length a) := by
  unfold laws_markIntS.f
  have := markIntS_l0b xs a ha hb xs.length k 0 (by omega) hk
  simpa [markI] using this
theorem markLoanS_l0 : ∀ (d k i : Nat) (xs : List S56) (a : Int), xs.length ≤ 1048576 → (∀ x ∈ xs, x.f2.length ≤ 1048576) → i + d = xs.length → 1048600 + d < k → 0 ≤ a → a ≤ 2000000 + 1048578 * (i : Int) → ∃ r, laws_markLoanS.l0 k xs a (i : Int) = some r ∧ 0 ≤ r := by
  intro d
  induction d with
  | zero =>
    intro k i xs a hb hg hi hk h0 h1
    obtain ⟨k, rfl, -⟩ := fuel hk
    simp only [laws_markLoanS.l0]
    rw [if_neg (by omega)]
    exact ⟨a, rfl, h0⟩
  | succ d ih =>
    intro k i xs a hb hg hi hk h0 h1
    obtain ⟨k, rfl, hk⟩ := fuel hk
    have hgi := hg (rd_T56 xs (i : Int)) (by simp [rd_T56, List.getD_eq_getElem?_getD, List.getElem?_eq_getElem (show i < xs.length by omega)])
    simp only [laws_markLoanS.l0]
    rw [if_pos (by omega), if_pos (by omega), wrap_id (x := a + 1) (by omega) (by omega), wrap_id (x := a + 1 + 1) (by omega) (by omega), markIntS_big _ _ _ (by omega) (by omega) (by omega), Option.bind_some, toNat_cast, wrap_succ (by omega)]
    refine ih k (i + 1) _ _ (by simpa using hb) (fun x hx => ?_) (by simp; omega) (by omega) (by simp only []; omega) (by simp only []; omega)
    rcases List.mem_or_eq_of_mem_set hx with h | h
    · exact hg x h
    · rw [h]; simp only [markI_length]; exact hgi
theorem markLoanS_spec (k : Nat) (xs : List S56) (a : Int) (ha : 0 ≤ a ∧ a ≤ 2000000) (hb : xs.length ≤ 1048576) (hg : ∀ x ∈ xs, x.f2.length ≤ 1048576) (hk : 2097200 < k) : ∃ r, laws_markLoanS.f k xs a = some r ∧ 0 ≤ r := by
  unfold laws_markLoanS.f
  exact markLoanS_l0 xs.length k 0 xs a hb hg (by omega) (by omega) (by omega) (by omega)

/-! ### the law -/
theorem edg_same {ls : List S56} {n : Nat} (hL : OkLoans ls (n : Int)) (e : Int × Int) : e ∈ edgI ls ↔ e ∈ edgS ls n 0 n := by
  obtain ⟨h1, h2, h3, h4⟩ := hL
  obtain ⟨a, b⟩ := e
  unfold edgI edgS rowS ansB
  simp only [List.mem_flatMap, List.mem_map, List.mem_filter, List.mem_range'_1, List.any_eq_true, Bool.and_eq_true, decide_eq_true_eq, Prod.mk.injEq]
  constructor
  · rintro ⟨l, hl, g, hg, rfl, rfl⟩
    have hok := h4 l hl
    have hgg := hok.2.2.2.2.2.1.2 g hg
    have h0 := hok.1
    have h5 := hok.2.1
    exact ⟨l.f0.toNat, by omega, g.toNat, ⟨by omega, l, hl, by omega, by rw [Int.toNat_of_nonneg hgg.1]; exact hg⟩, by omega, by omega⟩
  · rintro ⟨i, hi, j, ⟨hj, l, hl, h5, h6⟩, rfl, rfl⟩
    exact ⟨l, hl, (j : Int), h6, h5, rfl⟩
theorem edg_in {ls : List S56} {n : Nat} (hL : OkLoans ls (n : Int)) : EdgesIn (edgI ls) n := by
  rintro ⟨a, b⟩ he
  unfold edgI at he
  simp only [List.mem_flatMap, List.mem_map, Prod.mk.injEq] at he
  obtain ⟨l, hl, g, hg, rfl, rfl⟩ := he
  have hok := hL.2.2.2 l hl
  exact ⟨⟨hok.1, hok.2.1⟩, hok.2.2.2.2.2.1.2 g hg⟩
theorem sLevels_spec (k : Nat) (ls : List S56) (n : Int) (hl : ls.length ≤ 1048576) (hg : ∀ l ∈ ls, l.f2.length ≤ 1048576) (hk : 3145800 < k) : spec_LevelsOf.f k ls n = some (levM ls n) := by
  unfold spec_LevelsOf.f levM
  rw [specValidLoans_spec k ls n hl hg hk, Option.bind_some]
  by_cases h : OkLoans ls n
  · obtain ⟨h1, h2, h3, h4⟩ := id h
    have hg2 : ∀ l ∈ ls, l.f2.length ≤ 20 := fun l hl => by have := guards_le (h4 l hl).2.2.2.2.2.1 h2 h3; omega
    obtain ⟨m, rfl⟩ := Int.eq_ofNat_of_zero_le (show 0 ≤ n by omega)
    rw [decide_eq_true h, if_pos rfl, if_pos h]
    unfold spec_levels.f
    rw [if_pos (by omega), Int.toNat_natCast, if_pos (by omega)]
    have := slevels_l0 ls m h hg2 (m + 1) 0 k (List.replicate m 0) 0 (by omega) (by simp) (by omega) (fun x hx => by rw [(List.mem_replicate.1 hx).2]; omega) (by omega) (by omega)
    rw [cast0] at this
    rw [this, Option.bind_some, iterR_same (by omega) (edg_in h) (edg_same h) m (m + 1) (Nat.le_refl _) (by omega)]
  · rw [decide_eq_false h, if_neg (by simp), if_neg h]
theorem levM_length (ls : List S56) (n : Int) : (levM ls n).length ≤ 1048576 := by
  unfold levM
  by_cases h : OkLoans ls n
  · rw [if_pos h]
    have := iterR_len (E := edgI ls) n.toNat (List.replicate n.toNat 0)
    have h2 := h.2.1
    have h3 := h.2.2.1
    rw [List.length_replicate] at this
    omega
  · rw [if_neg h]; simp
theorem FnExactLevelsOf (l0 : List (S68)) (a1 : Int) (h0 : l0.length ≤ maxLen) (q0 : ∀ x2 ∈ l0, ((Lit.int .i64 x2.f0).wf = true ∧ (Lit.int .i64 x2.f1).wf = true ∧ (x2.f2.length ≤ maxLen ∧ ∀ x5 ∈ x2.f2, (Lit.int .i64 x5).wf = true))) (w1 : (Lit.int .i64 a1).wf = true) : laws_FnExactLevelsOf.f 4000000 l0 a1 = some true := by
  unfold laws_FnExactLevelsOf.f
  obtain ⟨r, hr, hl⟩ := szLoanS_spec 4000000 l0 h0 (fun x hx => (q0 x hx).2.2.1) 1048576 (by omega) (by omega) (by omega)
  rw [hr, Option.bind_some]
  by_cases h1 : r < 0
  · rw [if_pos h1]
  · obtain ⟨-, hb, hg⟩ := hl (by omega)
    have m1 : (l0.map convM).length ≤ 1048576 := by simpa using hb
    have m2 : ∀ x ∈ l0.map convM, x.f2.length ≤ 1048576 := by
      intro x hx
      obtain ⟨y, hy, rfl⟩ := List.mem_map.1 hx
      exact hg y hy
    have hn := levM_length (l0.map convM) a1
    obtain ⟨t, ht1, ht2⟩ := markLoanS_spec 4000000 (l0.map convM) 1 (by omega) m1 m2 (by omega)
    rw [if_neg h1, toLoanS_spec _ _ hb hg (by omega), Option.bind_some, sLevels_spec _ _ _ m1 m2 (by omega), Option.bind_some, Option.bind_some, iLevels_spec _ _ _ m1 m2 (by omega), Option.bind_some, eqIntS_spec _ _ _ (by omega) (by omega), Option.bind_some, if_pos (by simp), Option.bind_some, eqLoanS_self _ _ m1 m2 (by omega), Option.bind_some, if_pos rfl, ht1, Option.bind_some, if_neg (by omega), Option.bind_some]
    obtain ⟨k, hk, hk2⟩ : ∃ k : Nat, 4000000 = k + 1 ∧ 3999998 < k := ⟨3999999, by omega, by omega⟩
    rw [hk]
    simp only [laws_FnExactLevelsOf.j0]
    rw [if_neg (by simp), markIntS_spec _ _ _ (by omega) (by omega) (by omega), Option.bind_some, heldIntS_spec _ _ _ (by omega) (by omega) (by omega), Option.bind_some, if_neg (by omega), if_pos rfl, toLoanS_spec _ _ hb hg (by omega), Option.bind_some, iLevels_spec _ _ _ m1 m2 (by omega), Option.bind_some, eqIntS_spec _ _ _ (by omega) (by omega), Option.bind_some, if_pos (by simp), Option.bind_some, if_neg (by omega), if_pos rfl]

end Go.Proofs.Ytmipmnejppoeiaa.Pure
