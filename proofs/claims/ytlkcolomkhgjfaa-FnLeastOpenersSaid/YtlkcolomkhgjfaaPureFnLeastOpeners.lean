/- The law FnLeastOpeners holds: the program's function answers as the reference does at every drawn input, and has the law's property; no condition. -/
import Derived.Test.YtlkcolomkhgjfaaPFnLeastOpenersx10
set_option linter.unusedVariables false
set_option linter.unusedSimpArgs false
namespace Go.Proofs.Ytlkcolomkhgjfaa.Pure
open Go.RowKit Go.Proofs.Ytlkcolomkhgjfaa.PFnLeastOpeners Go.Proofs.YtlkcolomkhgjfaaW.PrintWords Go.Proofs.YtlkcolomkhgjfaaW.PrintLast Go.Proofs.YtlkcolomkhgjfaaW.PrintMore

/-! ### base -/
theorem fuel {k n : Nat} (h : n < k) : ∃ m, k = m + 1 ∧ n ≤ m := ⟨k - 1, by omega, by omega⟩
theorem wrap_id {x : Int} (h1 : -9223372036854775808 ≤ x) (h2 : x ≤ 9223372036854775807) : wrap64 x = x := by unfold wrap64; omega
theorem wrap_succ {i : Nat} (h : i < 4611686018427387904) : wrap64 ((i : Int) + 1) = ((i + 1 : Nat) : Int) := by unfold wrap64; omega
theorem wrap_succ' {i : Int} (h0 : 0 ≤ i) (h : i < 4611686018427387904) : wrap64 (i + 1) = i + 1 := by unfold wrap64; omega
theorem wrap_wrap (x : Int) : wrap64 (wrap64 x) = wrap64 x := by unfold wrap64; omega
theorem wrap_add_l (x y : Int) : wrap64 (wrap64 x + y) = wrap64 (x + y) := by unfold wrap64; omega
theorem wrap_add_r (x y : Int) : wrap64 (x + wrap64 y) = wrap64 (x + y) := by unfold wrap64; omega
theorem wrap_sub_l (x y : Int) : wrap64 (wrap64 x - y) = wrap64 (x - y) := by unfold wrap64; omega
theorem rd_get {xs : List Int} {i : Nat} (h : i < xs.length) : rd xs (i : Int) = xs[i] := by
  simp [rd, List.getD_eq_getElem?_getD, List.getElem?_eq_getElem h]
theorem drop_rd {xs : List Int} {i : Nat} (h : i < xs.length) : xs.drop i = rd xs (i : Int) :: xs.drop (i + 1) := by
  rw [rd_get h, List.drop_eq_getElem_cons h]
theorem drop_end {α : Type} {xs : List α} {i : Nat} (h : xs.length ≤ i) : xs.drop i = [] := List.drop_eq_nil_of_le h
theorem take_rd {xs : List Int} {i : Nat} (h : i < xs.length) : xs.take (i + 1) = xs.take i ++ [rd xs (i : Int)] := by
  rw [rd_get h, List.take_succ_eq_append_getElem h]
theorem rd_mem {xs : List Int} {i : Nat} (h : i < xs.length) : rd xs (i : Int) ∈ xs := by
  rw [rd_get h]; exact List.getElem_mem h
theorem rd_mem' {xs : List Int} {i : Int} (h0 : 0 ≤ i) (h : i < (xs.length : Int)) : rd xs i ∈ xs := by
  obtain ⟨j, rfl⟩ := Int.eq_ofNat_of_zero_le h0
  exact rd_mem (by omega)
theorem mem_rd {xs : List Int} {x : Int} (h : x ∈ xs) : ∃ i : Nat, i < xs.length ∧ rd xs (i : Int) = x := by
  obtain ⟨i, hi, he⟩ := List.getElem_of_mem h
  exact ⟨i, hi, by rw [rd_get hi, he]⟩
theorem ext_rd {xs ys : List Int} (hl : xs.length = ys.length) (h : ∀ i : Nat, i < xs.length → rd xs (i : Int) = rd ys (i : Int)) : xs = ys := by
  apply List.ext_getElem hl
  intro i h1 h2
  have := h i h1
  rwa [rd_get h1, rd_get h2] at this
theorem rd_set {xs : List Int} {i j : Nat} {v : Int} (hj : j < xs.length) : rd (xs.set i v) (j : Int) = if i = j then v else rd xs (j : Int) := by
  rw [rd_get (by simpa using hj), rd_get hj, List.getElem_set]
theorem rd_set_ne {xs : List Int} {i j : Nat} {v : Int} (h : i ≠ j) : rd (xs.set i v) (j : Int) = rd xs (j : Int) := by
  simp only [rd, List.getD_eq_getElem?_getD, Int.toNat_natCast, List.getElem?_set_ne h]
theorem rd_append_l {xs ys : List Int} {i : Nat} (h : i < xs.length) : rd (xs ++ ys) (i : Int) = rd xs (i : Int) := by
  rw [rd_get (by simp; omega), rd_get h, List.getElem_append_left h]
theorem rd_append_r {xs ys : List Int} {i : Nat} (h : xs.length ≤ i) (h2 : i < xs.length + ys.length) : rd (xs ++ ys) (i : Int) = rd ys ((i - xs.length : Nat) : Int) := by
  rw [rd_get (by simp; omega), rd_get (by omega), List.getElem_append_right h]
theorem rd_replicate {n i : Nat} {v : Int} (h : i < n) : rd (List.replicate n v) (i : Int) = v := by
  rw [rd_get (by simpa using h)]; simp
theorem rd_mapRange {n i : Nat} {f : Nat → Int} (h : i < n) : rd ((List.range n).map f) (i : Int) = f i := by
  rw [rd_get (by simpa using h)]; simp
theorem toNat_cast (i : Nat) : ((i : Int) : Int).toNat = i := by simp
theorem mx_max (a b : Int) : mx a b = max a b := by unfold mx; omega
theorem mn_min (a b : Int) : mn a b = min a b := by unfold mn; omega
theorem bits_xor {a b : Int} (ha : 0 ≤ a) (ha2 : a < 4611686018427387904) (hb : 0 ≤ b) (hb2 : b < 4611686018427387904) : 0 ≤ Go.bits .xor .i64 a b ∧ Go.bits .xor .i64 a b < 4611686018427387904 := by
  obtain ⟨a, rfl⟩ := Int.eq_ofNat_of_zero_le ha
  obtain ⟨b, rfl⟩ := Int.eq_ofNat_of_zero_le hb
  have h1 : a < 2 ^ 62 := by omega
  have h2 : b < 2 ^ 62 := by omega
  have h3 := Nat.xor_lt_two_pow h1 h2
  have e : Go.bits .xor .i64 (a : Int) (b : Int) = IntKind.i64.wrap (((BitVec.ofInt 64 (a : Int)) ^^^ (BitVec.ofInt 64 (b : Int))).toNat : Int) := rfl
  have ha' : (BitVec.ofInt 64 (a : Int)).toNat = a := by rw [BitVec.ofInt_natCast, BitVec.toNat_ofNat]; exact Nat.mod_eq_of_lt (by omega)
  have hb' : (BitVec.ofInt 64 (b : Int)).toNat = b := by rw [BitVec.ofInt_natCast, BitVec.toNat_ofNat]; exact Nat.mod_eq_of_lt (by omega)
  rw [e, BitVec.toNat_xor, ha', hb', IntKind.wrap_i64]
  omega
theorem cast0 : ((0 : Nat) : Int) = 0 := rfl
theorem w01 : wrap64 (0 + 1) = 1 := by unfold wrap64; omega
theorem w12 : wrap64 (1 + 1) = 2 := by unfold wrap64; omega
theorem w23 : wrap64 (2 + 1) = 3 := by unfold wrap64; omega
theorem w34 : wrap64 (3 + 1) = 4 := by unfold wrap64; omega
theorem w45 : wrap64 (4 + 1) = 5 := by unfold wrap64; omega

/-! ### listm -/
theorem pigeon : ∀ (n : Nat) (xs : List Int), xs.Nodup → (∀ x ∈ xs, 0 ≤ x ∧ x < (n : Int)) → xs.length ≤ n := by
  intro n
  induction n with
  | zero =>
    intro xs _ h
    cases xs with
    | nil => simp
    | cons x xs => have := h x (by simp); omega
  | succ n ih =>
    intro xs hn h
    by_cases hm : (n : Int) ∈ xs
    · have h1 := ih (xs.erase (n : Int)) (hn.erase _) (fun x hx => by
        have h2 := (hn.mem_erase_iff).1 hx
        have h3 := h x h2.2
        have h4 := h2.1
        omega)
      rw [List.length_erase_of_mem hm] at h1
      omega
    · have h1 := ih xs hn (fun x hx => by
        have h3 := h x hx
        have h4 : x ≠ (n : Int) := fun e => hm (e ▸ hx)
        omega)
      omega
/-- Fewer different members than there are: one is missing. -/
theorem one_missing : ∀ (n : Nat) (xs : List Int), xs.length < n → ∃ j : Nat, j < n ∧ (j : Int) ∉ xs := by
  intro n
  induction n with
  | zero => intro xs h; omega
  | succ n ih =>
    intro xs h
    by_cases hm : (n : Int) ∈ xs
    · obtain ⟨j, hj, hx⟩ := ih (xs.erase (n : Int)) (by rw [List.length_erase_of_mem hm]; have := List.length_pos_of_mem hm; omega)
      refine ⟨j, by omega, fun hmem => hx ?_⟩
      exact (List.mem_erase_of_ne (by omega)).2 hmem
    · exact ⟨n, by omega, hm⟩
/-- Members, one after the other, in range and not seen yet. -/
def memB (n : Int) : List Int → List Int → Bool
  | _, [] => true
  | seen, x :: rest => decide (0 ≤ x ∧ x < n) && (!decide (x ∈ seen) && memB n (seen ++ [x]) rest)
theorem memB_iff (n : Int) : ∀ (xs seen : List Int), memB n seen xs = true ↔ (∀ x ∈ xs, 0 ≤ x ∧ x < n ∧ x ∉ seen) ∧ xs.Nodup := by
  intro xs
  induction xs with
  | nil => intro seen; simp [memB]
  | cons a xs ih =>
    intro seen
    simp only [memB, Bool.and_eq_true, decide_eq_true_eq, Bool.not_eq_true', decide_eq_false_iff_not, ih, List.mem_cons, List.mem_append, List.not_mem_nil, or_false, List.nodup_cons]
    constructor
    · rintro ⟨⟨h1, h2⟩, h3, h4, h5⟩
      refine ⟨?_, fun ha => (h4 a ha).2.2 (Or.inr rfl), h5⟩
      rintro x (rfl | hx)
      · exact ⟨h1, h2, h3⟩
      · obtain ⟨a1, a2, a3⟩ := h4 x hx
        exact ⟨a1, a2, fun h => a3 (Or.inl h)⟩
    · rintro ⟨h1, h2, h3⟩
      obtain ⟨a1, a2, a3⟩ := h1 a (Or.inl rfl)
      refine ⟨⟨a1, a2⟩, a3, fun x hx => ?_, h3⟩
      obtain ⟨b1, b2, b3⟩ := h1 x (Or.inr hx)
      refine ⟨b1, b2, ?_⟩
      rintro (h | rfl)
      · exact b3 h
      · exact h2 hx
/-- Different members of a body. -/
def GoodM (xs : List Int) (n : Int) : Prop := xs.Nodup ∧ ∀ x ∈ xs, 0 ≤ x ∧ x < n
instance (xs : List Int) (n : Int) : Decidable (GoodM xs n) := inferInstanceAs (Decidable (_ ∧ _))
theorem memB_good (n : Int) (xs : List Int) : memB n [] xs = decide (GoodM xs n) := by
  rw [Bool.eq_iff_iff, memB_iff, decide_eq_true_eq]
  unfold GoodM
  constructor
  · rintro ⟨h, hn⟩
    exact ⟨hn, fun x hx => ⟨(h x hx).1, (h x hx).2.1⟩⟩
  · rintro ⟨hn, h⟩
    exact ⟨fun x hx => ⟨(h x hx).1, (h x hx).2, by simp⟩, hn⟩
theorem GoodM.le {xs : List Int} {n : Nat} (h : GoodM xs (n : Int)) : xs.length ≤ n := pigeon n xs h.1 h.2
/-- The first place of a number behind some. -/
def idxM : List Int → Int → Nat → Int
  | [], _, _ => -1
  | y :: ys, x, i => if y = x then (i : Int) else idxM ys x (i + 1)
theorem idxM_neg : ∀ (xs : List Int) (x : Int) (i : Nat), idxM xs x i < 0 ↔ x ∉ xs := by
  intro xs
  induction xs with
  | nil => intro x i; simp [idxM]
  | cons y ys ih =>
    intro x i
    simp only [idxM]
    by_cases e : y = x
    · rw [if_pos e]; simp [e]
    · rw [if_neg e, ih]
      have e' : ¬ x = y := fun h => e h.symm
      simp [e']
theorem idxM_nonneg (xs : List Int) (x : Int) (i : Nat) : 0 ≤ idxM xs x i ↔ x ∈ xs := by
  have := idxM_neg xs x i
  by_cases h : x ∈ xs
  · simp only [h, not_true, iff_false] at this
    simp [h]; omega
  · simp only [h, not_false_iff, iff_true] at this
    simp [h]; omega
theorem idxM_at : ∀ (xs : List Int) (x : Int) (i : Nat), x ∈ xs → ∃ j : Nat, idxM xs x i = ((i + j : Nat) : Int) ∧ j < xs.length ∧ rd xs (j : Int) = x ∧ ∀ q : Nat, q < j → rd xs (q : Int) ≠ x := by
  intro xs
  induction xs with
  | nil => intro x i h; simp at h
  | cons y ys ih =>
    intro x i h
    by_cases e : y = x
    · exact ⟨0, by simp [idxM, e], by simp, by simp [rd, e], fun q hq => by omega⟩
    · have hx : x ∈ ys := by
        rcases List.mem_cons.1 h with h | h
        · exact absurd h.symm e
        · exact h
      obtain ⟨j, h1, h2, h3, h4⟩ := ih x (i + 1) hx
      refine ⟨j + 1, by simp only [idxM, if_neg e, h1]; omega, by simp; omega, ?_, ?_⟩
      · rw [← h3, rd_get (by simp; omega), rd_get h2]; simp
      · intro q hq
        cases q with
        | zero => rw [rd_get (by simp)]; simpa using e
        | succ q => have := h4 q (by omega); rw [rd_get (by simp; omega)]; rw [rd_get (by omega)] at this; simpa using this
theorem sum_set : ∀ (xs : List Int) (i : Nat) (v : Int), i < xs.length → (xs.set i v).sum = xs.sum - rd xs (i : Int) + v := by
  intro xs
  induction xs with
  | nil => intro i v h; simp at h
  | cons x xs ih =>
    intro i v h
    cases i with
    | zero => simp [rd]; omega
    | succ i =>
      have h2 : i < xs.length := by simpa using h
      have := ih i v h2
      have e : rd (x :: xs) ((i + 1 : Nat) : Int) = rd xs (i : Int) := by rw [rd_get h, rd_get h2]; simp
      simp only [List.set_cons_succ, List.sum_cons, this, e]
      omega
theorem sum_replicate0 (n : Nat) : (List.replicate n (0 : Int)).sum = 0 := by
  induction n with
  | zero => rfl
  | succ n ih => simp [List.replicate_succ, ih]
theorem set_fill {α : Type} (A : List α) (d : Nat) (z v : α) : (A ++ List.replicate (d + 1) z).set A.length v = (A ++ [v]) ++ List.replicate d z := by
  rw [List.set_append_right _ _ (Nat.le_refl _)]
  simp [List.replicate_succ]
theorem set_fill' {α : Type} {A : List α} {i d : Nat} {z v : α} (h : A.length = i) : (A ++ List.replicate (d + 1) z).set i v = (A ++ [v]) ++ List.replicate d z := by
  subst h; exact set_fill A d z v
theorem sum_bound : ∀ (xs : List Int) (lo hi : Int), (∀ x ∈ xs, lo ≤ x ∧ x ≤ hi) → (xs.length : Int) * lo ≤ xs.sum ∧ xs.sum ≤ (xs.length : Int) * hi := by
  intro xs lo hi
  induction xs with
  | nil => intro _; simp
  | cons x xs ih =>
    intro h
    have h1 := ih (fun y hy => h y (by simp [hy]))
    have h2 := h x (by simp)
    have e1 : ((x :: xs).length : Int) * lo = (xs.length : Int) * lo + lo := by simp [Int.add_mul]
    have e2 : ((x :: xs).length : Int) * hi = (xs.length : Int) * hi + hi := by simp [Int.add_mul]
    rw [e1, e2, List.sum_cons]
    omega

/-! ### bits -/
theorem shr_nat (s i : Nat) (h : i ≤ 64) : shr .i64 (s : Int) (i : Int) = ((s / 2 ^ i : Nat) : Int) := by
  unfold shr
  have e : min ((i : Int).toNat) IntKind.i64.bits = i := by simp [IntKind.bits]; omega
  rw [e]; simp
theorem and_one (s : Nat) (h : s < 9223372036854775808) : Go.bits .and .i64 (s : Int) 1 = ((s % 2 : Nat) : Int) := by
  have e : Go.bits .and .i64 (s : Int) 1 = IntKind.i64.wrap (((BitVec.ofInt 64 (s : Int)) &&& (BitVec.ofInt 64 1)).toNat : Int) := rfl
  have ha' : (BitVec.ofInt 64 (s : Int)).toNat = s := by rw [BitVec.ofInt_natCast, BitVec.toNat_ofNat]; exact Nat.mod_eq_of_lt (by omega)
  have hb' : (BitVec.ofInt 64 (1 : Int)).toNat = 1 := by decide
  rw [e, BitVec.toNat_and, ha', hb', IntKind.wrap_i64, Nat.and_one_is_mod]
  omega
theorem shl_one (n : Nat) (h : n ≤ 40) : shl .i64 1 (n : Int) = ((2 ^ n : Nat) : Int) := by
  unfold shl
  have e : min ((n : Int).toNat) IntKind.i64.bits = n := by simp [IntKind.bits]; omega
  have h2 : 2 ^ n ≤ 2 ^ 40 := Nat.pow_le_pow_right (by omega) h
  rw [e, IntKind.wrap_i64]
  have e2 : (1 : Int) * 2 ^ n = ((2 ^ n : Nat) : Int) := by simp
  rw [e2]
  generalize 2 ^ n = m at h2 ⊢
  omega
theorem half_step (s i : Nat) : s / 2 ^ (i + 1) = s / 2 ^ i / 2 := by
  rw [Nat.pow_succ, Nat.div_div_eq_div_mul]
/-- The weights of the set's members. -/
def bw : List Int → Nat → Int
  | [], _ => 0
  | w :: ws, s => (if s % 2 = 1 then w else 0) + bw ws (s / 2)
/-- The set's members, from i on. -/
def mb : Nat → Nat → Nat → List Int
  | 0, _, _ => []
  | n + 1, i, s => if s % 2 = 1 then (i : Int) :: mb n (i + 1) (s / 2) else mb n (i + 1) (s / 2)
theorem mb_zero : ∀ n i : Nat, mb n i 0 = [] := by
  intro n
  induction n with
  | zero => intro i; rfl
  | succ n ih => intro i; simp [mb, ih]
theorem mb_more : ∀ (n i s : Nat), s < 2 ^ n → mb (n + 1) i s = mb n i s := by
  intro n
  induction n with
  | zero => intro i s h; (have h0 : s = 0 := by simpa using h); subst h0; simp [mb]
  | succ n ih =>
    intro i s h
    have h2 : s / 2 < 2 ^ n := by rw [Nat.pow_succ] at h; omega
    have := ih (i + 1) (s / 2) h2
    rw [mb, this]
    conv => rhs; rw [mb]
theorem mb_length : ∀ (n i s : Nat), (mb n i s).length ≤ n := by
  intro n
  induction n with
  | zero => intro i s; simp [mb]
  | succ n ih =>
    intro i s
    have := ih (i + 1) (s / 2)
    simp only [mb]; split <;> simp <;> omega
theorem bw_bound : ∀ (ws : List Int) (s : Nat) (hi : Int), 0 ≤ hi → (∀ w ∈ ws, 0 ≤ w ∧ w ≤ hi) → 0 ≤ bw ws s ∧ bw ws s ≤ (ws.length : Int) * hi := by
  intro ws
  induction ws with
  | nil => intro s hi _ _; simp [bw]
  | cons w ws ih =>
    intro s hi h0 h
    obtain ⟨h1, h2⟩ := ih (s / 2) hi h0 (fun x hx => h x (by simp [hx]))
    have h3 := h w (by simp)
    have e : (((w :: ws).length : Nat) : Int) * hi = (ws.length : Int) * hi + hi := by simp [Int.add_mul]
    rw [e]
    simp only [bw]
    split <;> omega
/-- Members as truth values. -/
def encB : List Bool → Nat
  | [] => 0
  | b :: bs => (if b then 1 else 0) + 2 * encB bs
theorem encB_lt : ∀ bs : List Bool, encB bs < 2 ^ bs.length := by
  intro bs
  induction bs with
  | nil => simp [encB]
  | cons b bs ih => simp only [encB, List.length_cons, Nat.pow_succ]; split <;> omega
theorem encB_mod (b : Bool) (bs : List Bool) : encB (b :: bs) % 2 = (if b then 1 else 0) := by simp only [encB]; split <;> omega
theorem encB_half (b : Bool) (bs : List Bool) : encB (b :: bs) / 2 = encB bs := by simp only [encB]; split <;> omega
def decB : Nat → Nat → List Bool
  | 0, _ => []
  | n + 1, s => (s % 2 == 1) :: decB n (s / 2)
theorem decB_length : ∀ n s : Nat, (decB n s).length = n := by
  intro n
  induction n with
  | zero => intro s; rfl
  | succ n ih => intro s; simp [decB, ih]
theorem enc_dec : ∀ n s : Nat, s < 2 ^ n → encB (decB n s) = s := by
  intro n
  induction n with
  | zero => intro s h; (have h0 : s = 0 := by simpa using h); subst h0; rfl
  | succ n ih =>
    intro s h
    have h2 : s / 2 < 2 ^ n := by rw [Nat.pow_succ] at h; omega
    simp only [decB, encB, ih _ h2]
    by_cases e : s % 2 = 1 <;> simp [e] <;> omega
/-- The weights of those that are in. -/
def bwB : List Int → List Bool → Int
  | w :: ws, b :: bs => (if b then w else 0) + bwB ws bs
  | _, _ => 0
theorem bw_enc : ∀ (ws : List Int) (bs : List Bool), ws.length = bs.length → bw ws (encB bs) = bwB ws bs := by
  intro ws
  induction ws with
  | nil => intro bs h; cases bs <;> simp [bw, bwB]
  | cons w ws ih =>
    intro bs h
    cases bs with
    | nil => simp at h
    | cons b bs =>
      simp only [bw, bwB, encB_mod, encB_half, ih bs (by simpa using h)]
      cases b <;> simp
theorem mem_mb : ∀ (bs : List Bool) (i : Nat) (x : Int), x ∈ mb bs.length i (encB bs) ↔ ∃ j : Nat, j < bs.length ∧ x = ((i + j : Nat) : Int) ∧ bs[j]? = some true := by
  intro bs
  induction bs with
  | nil => intro i x; simp [mb]
  | cons b bs ih =>
    intro i x
    simp only [List.length_cons, mb, encB_mod, encB_half]
    have key : (∃ j : Nat, j < bs.length ∧ x = ((i + 1 + j : Nat) : Int) ∧ bs[j]? = some true) ↔ ∃ j : Nat, 0 < j ∧ j < bs.length + 1 ∧ x = ((i + j : Nat) : Int) ∧ (b :: bs)[j]? = some true := by
      constructor
      · rintro ⟨j, h1, h2, h3⟩
        exact ⟨j + 1, by omega, by omega, by rw [h2]; congr 1; omega, by simpa using h3⟩
      · rintro ⟨j, h0, h1, h2, h3⟩
        obtain ⟨j, rfl⟩ : ∃ q, j = q + 1 := ⟨j - 1, by omega⟩
        exact ⟨j, by omega, by rw [h2]; congr 1; omega, by simpa using h3⟩
    cases b with
    | true =>
      rw [if_pos (by simp), List.mem_cons, ih, key]
      constructor
      · rintro (h | ⟨j, h0, h1, h2, h3⟩)
        · exact ⟨0, by omega, by simpa using h, by simp⟩
        · exact ⟨j, by omega, h2, h3⟩
      · rintro ⟨j, h1, h2, h3⟩
        rcases Nat.eq_zero_or_pos j with e | e
        · subst e; exact .inl (by simpa using h2)
        · exact .inr ⟨j, e, by omega, h2, h3⟩
    | false =>
      rw [if_neg (by simp), ih, key]
      constructor
      · rintro ⟨j, h0, h1, h2, h3⟩
        exact ⟨j, by omega, h2, h3⟩
      · rintro ⟨j, h1, h2, h3⟩
        rcases Nat.eq_zero_or_pos j with e | e
        · subst e; simp at h3
        · exact ⟨j, e, by omega, h2, h3⟩
theorem bwB_set : ∀ (ws : List Int) (bs : List Bool) (j : Nat) (v : Bool), ws.length = bs.length → j < bs.length → bwB ws (bs.set j v) = bwB ws bs - (if bs[j]? = some true then rd ws (j : Int) else 0) + (if v then rd ws (j : Int) else 0) := by
  intro ws
  induction ws with
  | nil => intro bs j v h hj; simp at h; omega
  | cons w ws ih =>
    intro bs j v h hj
    cases bs with
    | nil => simp at h
    | cons b bs =>
      cases j with
      | zero => simp only [List.set_cons_zero, bwB]; cases b <;> cases v <;> simp [rd] <;> omega
      | succ j =>
        have := ih bs j v (by simpa using h) (by simpa using hj)
        have e : rd (w :: ws) ((j + 1 : Nat) : Int) = rd ws (j : Int) := by simp [rd]
        simp only [List.set_cons_succ, bwB, List.getElem?_cons_succ, e, this]
        omega
theorem encB_set : ∀ (bs : List Bool) (j : Nat), bs[j]? = some false → encB (bs.set j true) = encB bs + 2 ^ j := by
  intro bs
  induction bs with
  | nil => intro j h; simp at h
  | cons b bs ih =>
    intro j h
    cases j with
    | zero => simp at h; subst h; simp [encB]; omega
    | succ j =>
      have := ih j (by simpa using h)
      simp only [List.set_cons_succ, encB, this, Nat.pow_succ]
      omega
def cntB (bs : List Bool) : Nat := (bs.filter id).length
theorem cntB_set : ∀ (bs : List Bool) (j : Nat), bs[j]? = some true → cntB (bs.set j false) + 1 = cntB bs := by
  intro bs
  induction bs with
  | nil => intro j h; simp at h
  | cons b bs ih =>
    intro j h
    cases j with
    | zero => simp at h; subst h; simp [cntB]
    | succ j =>
      have := ih j (by simpa using h)
      unfold cntB at this ⊢
      cases b <;> simp [List.filter_cons] <;> omega

/-! ### different -/
theorem flags_set {fl : List Bool} {n : Int} {seen : List Int} {x : Int} (hl : (fl.length : Int) = n) (h : ∀ j : Int, 0 ≤ j → j < n → rdOf false fl j = decide (j ∈ seen)) (h0 : 0 ≤ x) (h1 : x < n) :
    ∀ j : Int, 0 ≤ j → j < n → rdOf false (fl.set x.toNat true) j = decide (j ∈ seen ++ [x]) := by
  intro j hj0 hj
  have := h j hj0 hj
  simp only [rdOf, List.getD_eq_getElem?_getD, List.getElem?_set] at this ⊢
  by_cases e : x = j
  · subst e
    rw [if_pos rfl, if_pos (by omega)]
    simp
  · rw [if_neg (by omega), this]
    have : ¬ j = x := fun h => e h.symm
    simp [this]
theorem different_l0 (xs : List Int) (n : Int) (hb : xs.length < 4611686018427387904) : ∀ (d k i : Nat) (fl : List Bool), (fl.length : Int) = n → (∀ j : Int, 0 ≤ j → j < n → rdOf false fl j = decide (j ∈ xs.take i)) → i + d = xs.length → d < k → impl_differentBelow.l0 k n fl xs (xs.length : Int) (i : Int) = some (memB n (xs.take i) (xs.drop i)) := by
  intro d
  induction d with
  | zero =>
    intro k i fl hl hf hi hk
    obtain ⟨k, rfl, -⟩ := fuel hk
    simp only [impl_differentBelow.l0]
    rw [if_neg (by omega), drop_end (by omega)]
    simp [memB]
  | succ d ih =>
    intro k i fl hl hf hi hk
    obtain ⟨k, rfl, hk⟩ := fuel hk
    simp only [impl_differentBelow.l0]
    rw [if_pos (by omega), if_pos (by omega), if_pos (by omega), wrap_succ (by omega), drop_rd (by omega)]
    simp only [memB]
    by_cases h1 : rd xs (i : Int) < 0
    · rw [if_pos h1, decide_eq_false (by omega)]; rfl
    · rw [if_neg h1]
      by_cases h2 : rd xs (i : Int) ≥ n
      · rw [if_pos h2, decide_eq_false (by omega)]; rfl
      · rw [if_neg h2, if_pos (by omega), if_pos (by omega), hf _ (by omega) (by omega), decide_eq_true (show 0 ≤ rd xs (i : Int) ∧ rd xs (i : Int) < n by omega)]
        by_cases h3 : rd xs (i : Int) ∈ xs.take i
        · rw [decide_eq_true h3, if_pos rfl]; rfl
        · rw [decide_eq_false h3, if_neg (by decide), ih k (i + 1) _ (by simpa using hl) (by rw [take_rd (by omega)]; exact flags_set hl hf (by omega) (by omega)) (by omega) (by omega), take_rd (by omega)]; rfl
theorem different_spec (k : Nat) (xs : List Int) (n : Int) (hn : 0 ≤ n) (hn2 : n ≤ 281474976710656) (hb : xs.length < 4611686018427387904) (hk : xs.length < k) : impl_differentBelow.f k xs n = some (decide (GoodM xs n)) := by
  unfold impl_differentBelow.f
  by_cases h : (xs.length : Int) > n
  · rw [if_pos h, decide_eq_false]
    intro hg
    obtain ⟨m, rfl⟩ := Int.eq_ofNat_of_zero_le hn
    have := hg.le
    omega
  · rw [if_neg h, if_pos hn, if_pos (by omega)]
    have := different_l0 xs n hb xs.length k 0 (List.replicate n.toNat false) (by simp; omega) (fun j h0 h1 => by simp [rdOf, List.getD_eq_getElem?_getD, List.getElem?_replicate]; split <;> rfl) (by omega) hk
    rw [← memB_good]
    simpa using this

/-! ### place -/
theorem placeIn_l0 (xs : List Int) (x : Int) (hb : xs.length < 4611686018427387904) : ∀ (d k i : Nat), i + d = xs.length → d < k → spec_placeIn.l0 k xs x (i : Int) = some (idxM (xs.drop i) x i) := by
  intro d
  induction d with
  | zero =>
    intro k i hi hk
    obtain ⟨k, rfl, -⟩ := fuel hk
    simp only [spec_placeIn.l0]
    rw [if_neg (by omega), drop_end (by omega)]
    simp [idxM]
  | succ d ih =>
    intro k i hi hk
    obtain ⟨k, rfl, hk⟩ := fuel hk
    simp only [spec_placeIn.l0]
    rw [if_pos (by omega), if_pos (by omega), wrap_succ (by omega), drop_rd (by omega)]
    simp only [idxM]
    rw [ih k (i + 1) (by omega) (by omega)]
    split <;> rfl
theorem placeIn_spec (k : Nat) (xs : List Int) (x : Int) (hb : xs.length < 4611686018427387904) (hk : xs.length < k) : spec_placeIn.f k xs x = some (idxM xs x 0) := by
  unfold spec_placeIn.f
  have := placeIn_l0 xs x hb xs.length k 0 (by omega) hk
  simpa using this

/-! ### inrange -/
theorem inRange_spec (a lo up : Int) : spec_inRange.f a lo up = some (decide (lo ≤ a ∧ a ≤ up)) := by
  unfold spec_inRange.f
  by_cases h : lo ≤ a <;> simp [h]

/-! ### members -/
theorem validMembers_l0 (xs : List Int) (n : Int) (hb : xs.length < 4611686018427387904) : ∀ (d k i : Nat), i + d = xs.length → xs.length + d < k → spec_validMembers.l0 k xs n (i : Int) = some (memB (wrap64 (n - 1) + 1) (xs.take i) (xs.drop i)) := by
  intro d
  induction d with
  | zero =>
    intro k i hi hk
    obtain ⟨k, rfl, -⟩ := fuel hk
    simp only [spec_validMembers.l0]
    rw [if_neg (by omega), drop_end (by omega)]
    simp [memB]
  | succ d ih =>
    intro k i hi hk
    obtain ⟨k, rfl, hk⟩ := fuel hk
    simp only [spec_validMembers.l0]
    rw [if_pos (by omega), if_pos (by omega), inRange_spec, wrap_succ (i := i) (by omega), drop_rd (by omega), toNat_cast]
    rw [placeIn_spec _ _ _ (by simp; omega) (by simp; omega)]
    simp only [Option.bind_some]
    rw [if_pos (show (i : Int) ≤ (xs.length : Int) by omega), ih k (i + 1) (by omega) (by omega), take_rd (by omega)]
    simp only [memB]
    by_cases h1 : 0 ≤ rd xs (i : Int) ∧ rd xs (i : Int) < wrap64 (n - 1) + 1
    · rw [decide_eq_true h1, decide_eq_true (show 0 ≤ rd xs (i : Int) ∧ rd xs (i : Int) ≤ wrap64 (n - 1) by omega), if_pos rfl]
      have h2 := idxM_nonneg (xs.take i) (rd xs (i : Int)) 0
      by_cases h3 : rd xs (i : Int) ∈ xs.take i
      · rw [if_pos (h2.2 h3), decide_eq_true h3]; rfl
      · rw [if_neg (fun h => h3 (h2.1 h)), decide_eq_false h3]; rfl
    · rw [decide_eq_false h1, decide_eq_false (show ¬ (0 ≤ rd xs (i : Int) ∧ rd xs (i : Int) ≤ wrap64 (n - 1)) by omega), if_neg (by decide)]; rfl
theorem validMembers_any (k : Nat) (xs : List Int) (n : Int) (hb : xs.length < 4611686018427387904) (hk : xs.length + xs.length < k) : spec_validMembers.f k xs n = some (decide (GoodM xs (wrap64 (n - 1) + 1))) := by
  unfold spec_validMembers.f
  have := validMembers_l0 xs n hb xs.length k 0 (by omega) hk
  rw [← memB_good]
  simpa using this
theorem validMembers_spec (k : Nat) (xs : List Int) (n : Int) (hn : -4611686018427387904 ≤ n) (hn2 : n ≤ 4611686018427387904) (hb : xs.length < 4611686018427387904) (hk : xs.length + xs.length < k) : spec_validMembers.f k xs n = some (decide (GoodM xs n)) := by
  rw [validMembers_any k xs n hb hk, wrap_id (x := n - 1) (by omega) (by omega), Int.sub_add_cancel]

/-! ### locks -/
mutual
/-- May the lock be, and all in it? -/
def okM : S26 → Prop
  | ⟨need, ms, ks⟩ => 1 ≤ need ∧ need ≤ ((ms.length + ks.length : Nat) : Int) ∧ ms.length + ks.length ≤ 8 ∧ GoodM ms 8 ∧ okK ks
def okK : List S26 → Prop
  | [] => True
  | l :: ls => okM l ∧ okK ls
end
mutual
/-- How many locks it is. -/
def szM : S26 → Nat
  | ⟨_, _, ks⟩ => 1 + szK ks
def szK : List S26 → Nat
  | [] => 0
  | l :: ls => szM l + szK ls
end
mutual
/-- How long it takes. -/
def fuM : S26 → Nat
  | ⟨_, ms, ks⟩ => 60 + ms.length + ms.length + fuK ks
def fuK : List S26 → Nat
  | [] => 0
  | l :: ls => 1 + fuM l + fuK ls
end
/-- How many of the members are in. -/
def cntM (s : Nat) : List Int → Int
  | [] => 0
  | m :: ms => ((s / 2 ^ m.toNat % 2 : Nat) : Int) + cntM s ms
mutual
/-- Does the set open the lock? -/
def opM : S26 → Nat → Bool
  | ⟨need, ms, ks⟩, s => decide (cntM s ms + opK ks s ≥ need)
def opK : List S26 → Nat → Int
  | [], _ => 0
  | l :: ls, s => (if opM l s then 1 else 0) + opK ls s
end
theorem okK_cons (l : S26) (ls : List S26) : okK (l :: ls) ↔ okM l ∧ okK ls := by simp only [okK]
theorem szK_cons (l : S26) (ls : List S26) : szK (l :: ls) = szM l + szK ls := by simp only [szK]
theorem okM_mk (need : Int) (ms : List Int) (ks : List S26) : okM ⟨need, ms, ks⟩ ↔ 1 ≤ need ∧ need ≤ ((ms.length + ks.length : Nat) : Int) ∧ ms.length + ks.length ≤ 8 ∧ GoodM ms 8 ∧ okK ks := by simp only [okM]
theorem szM_mk (need : Int) (ms : List Int) (ks : List S26) : szM ⟨need, ms, ks⟩ = 1 + szK ks := by simp only [szM]
theorem opK_cons (l : S26) (ls : List S26) (s : Nat) : opK (l :: ls) s = (if opM l s = true then 1 else 0) + opK ls s := by simp only [opK]
theorem opM_mk (need : Int) (ms : List Int) (ks : List S26) (s : Nat) : opM ⟨need, ms, ks⟩ s = decide (cntM s ms + opK ks s ≥ need) := by simp only [opM]
theorem szM_pos (l : S26) : 1 ≤ szM l := by
  obtain ⟨n, ms, ks⟩ := l; simp [szM]
theorem fuM_big (l : S26) : 60 ≤ fuM l := by
  obtain ⟨n, ms, ks⟩ := l; simp [fuM]; omega
theorem fuK_length (ls : List S26) : ls.length ≤ fuK ls := by
  induction ls with
  | nil => simp [fuK]
  | cons l ls ih => simp [fuK]; omega
theorem rdT_at {xs : List S26} {i : Nat} (h : i < xs.length) : rd_T26 xs (i : Int) = xs[i] := by
  simp [rd_T26, List.getD_eq_getElem?_getD, List.getElem?_eq_getElem h]
theorem drop_rdT {xs : List S26} {i : Nat} (h : i < xs.length) : xs.drop i = rd_T26 xs (i : Int) :: xs.drop (i + 1) := by
  rw [rdT_at h, List.drop_eq_getElem_cons h]
noncomputable instance (l : S26) : Decidable (okM l) := Classical.propDecidable _
noncomputable instance (ls : List S26) : Decidable (okK ls) := Classical.propDecidable _
theorem fuK_drop (ls : List S26) : ∀ i : Nat, fuK (ls.drop i) ≤ fuK ls := by
  induction ls with
  | nil => intro i; simp
  | cons l ls ih =>
    intro i
    cases i with
    | zero => simp
    | succ i => have := ih i; simp only [List.drop_succ_cons, fuK]; omega
theorem fuM_mem {l : S26} : ∀ {ls : List S26}, l ∈ ls → fuM l + 1 ≤ fuK ls := by
  intro ls
  induction ls with
  | nil => intro h; simp at h
  | cons x ls ih =>
    intro h
    simp only [fuK]
    rcases List.mem_cons.1 h with h | h
    · subst h; omega
    · have := ih h; omega
/-- The count's value: what it is, or more than 12. -/
def Counts (l : S26) (most r : Int) : Prop := (okM l ∧ (szM l : Int) ≤ most → r = (szM l : Int)) ∧ (¬ (okM l ∧ (szM l : Int) ≤ most) → 12 < r) ∧ r ≤ 13 + 12 * fuM l
def CountK (ls : List S26) (most c r : Int) : Prop := (okK ls ∧ c + szK ls ≤ most → r = c + szK ls) ∧ (¬ (okK ls ∧ c + szK ls ≤ most) → 12 < r) ∧ r ≤ 25 + 12 * fuK ls
theorem lockCount_k (most : Int) (hm : most ≤ 12) (ls : List S26) (hll : ls.length ≤ 1000) (hfb : fuK ls ≤ 1000000) (ih : ∀ l ∈ ls, ∀ (k : Nat) (most : Int), most ≤ 12 → -1000 ≤ most → fuM l < k → ∃ r, impl_lockCount.f k l.f0 l.f1 l.f2 most = some r ∧ Counts l most r) :
    ∀ (d k i : Nat) (c : Int), i + d = ls.length → fuK (ls.drop i) < k → 1 ≤ c → c ≤ most → ∃ r, impl_lockCount.l0 k most c ls (ls.length : Int) (i : Int) = some r ∧ CountK (ls.drop i) most c r := by
  intro d
  induction d with
  | zero =>
    intro k i c hi hk h1 h2
    obtain ⟨k, rfl, -⟩ := fuel (show 0 < k by omega)
    simp only [impl_lockCount.l0]
    rw [if_neg (by omega), drop_end (by omega)]
    refine ⟨c, rfl, ?_⟩
    simp only [CountK, okK, szK, fuK]
    exact ⟨fun _ => by simp, fun h => absurd ⟨trivial, by simpa using h2⟩ h, by omega⟩
  | succ d ih2 =>
    intro k i c hi hk h1 h2
    have hd := drop_rdT (xs := ls) (i := i) (by omega)
    rw [hd] at hk ⊢
    have hmem : rd_T26 ls (i : Int) ∈ ls := by rw [rdT_at (by omega)]; exact List.getElem_mem _
    have hf1 := fuK_drop ls i
    rw [hd] at hf1
    simp only [fuK] at hf1 hk
    obtain ⟨k, rfl, hk'⟩ := fuel (show 0 < k by omega)
    simp only [impl_lockCount.l0]
    obtain ⟨r, hr, r1, r2, r3⟩ := ih _ hmem k (most - c) (by omega) (by omega) (by omega)
    rw [if_pos (by omega), if_pos (by omega), if_pos (by omega), wrap_id (x := most - c) (by omega) (by omega), hr, Option.bind_some, wrap_succ (by omega)]
    generalize rd_T26 ls (i : Int) = l at *
    have hsz := szM_pos l
    by_cases hok : okM l ∧ (szM l : Int) ≤ most - c
    · have e := r1 hok
      subst e
      rw [wrap_id (by omega) (by omega), if_neg (by omega)]
      obtain ⟨r', hr', s1, s2, s3⟩ := ih2 k (i + 1) (c + szM l) (by omega) (by omega) (by omega) (by omega)
      refine ⟨r', hr', ?_⟩
      simp only [CountK, okK, szK, fuK]
      refine ⟨fun h => ?_, fun h => s2 (fun h2 => h ⟨⟨hok.1, h2.1⟩, by omega⟩), by omega⟩
      have := s1 ⟨h.1.2, by omega⟩
      omega
    · have e := r2 hok
      rw [wrap_id (by omega) (by omega), if_pos (by omega)]
      refine ⟨_, rfl, ?_⟩
      simp only [CountK, okK, szK, fuK]
      exact ⟨fun h => absurd ⟨h.1.1, by omega⟩ hok, fun _ => by omega, by omega⟩
theorem lockCount_spec : ∀ (n : Nat) (l : S26), fuM l ≤ n → n ≤ 1000000 → ∀ (k : Nat) (most : Int), most ≤ 12 → -1000 ≤ most → fuM l < k → ∃ r, impl_lockCount.f k l.f0 l.f1 l.f2 most = some r ∧ Counts l most r := by
  intro n
  induction n with
  | zero => intro l h; have := fuM_big l; omega
  | succ n ih =>
    intro l hl hn k most hm1 hm2 hk
    obtain ⟨need, ms, ks⟩ := l
    have hkl := fuK_length ks
    simp only [fuM] at hl hk
    obtain ⟨k, rfl, hk'⟩ := fuel (show 0 < k by omega)
    obtain ⟨k, rfl, hk''⟩ := fuel (show 0 < k by omega)
    simp only [impl_lockCount.f, impl_lockCount.j0, if_true]
    have bad : ¬ (okM ⟨need, ms, ks⟩ ∧ (szM (⟨need, ms, ks⟩ : S26) : Int) ≤ most) → Counts ⟨need, ms, ks⟩ most 13 := fun h => ⟨fun h2 => absurd h2 h, fun _ => by omega, by omega⟩
    rw [wrap_id (x := (ms.length : Int) + (ks.length : Int)) (by omega) (by omega)]
    by_cases h1 : most < 1
    · rw [if_pos h1]
      exact ⟨13, rfl, bad (fun h => by have := szM_pos ⟨need, ms, ks⟩; omega)⟩
    · rw [if_neg h1]
      by_cases h2 : (ms.length : Int) + (ks.length : Int) > 8
      · rw [if_pos h2]
        exact ⟨13, rfl, bad (fun h => by have := h.1; simp only [okM] at this; omega)⟩
      · rw [if_neg h2]
        by_cases h3 : need < 1
        · rw [if_pos h3]
          exact ⟨13, rfl, bad (fun h => by have := h.1; simp only [okM] at this; omega)⟩
        · rw [if_neg h3]
          by_cases h4 : need > (ms.length : Int) + (ks.length : Int)
          · rw [if_pos h4]
            exact ⟨13, rfl, bad (fun h => by have := h.1; simp only [okM] at this; omega)⟩
          · rw [if_neg h4, different_spec _ _ _ (by omega) (by omega) (by omega) (by omega), Option.bind_some]
            by_cases h5 : GoodM ms 8
            · rw [decide_eq_true h5]
              obtain ⟨r, hr, s1, s2, s3⟩ := lockCount_k most hm1 ks (by omega) (by omega) (fun l' hl' k' most' a1 a2 a3 => ih l' (by have := fuM_mem hl'; omega) (by omega) k' most' a1 a2 a3) ks.length k 0 1 (by omega) (by rw [List.drop_zero]; omega) (by omega) (by omega)
              rw [List.drop_zero] at s1 s2 s3
              refine ⟨r, by rw [Bool.not_true, if_neg (by decide)]; exact hr, ?_⟩
              simp only [Counts, okM, szM, fuM]
              refine ⟨fun h => ?_, fun h => s2 (fun h6 => h ⟨⟨by omega, by omega, by omega, h5, h6.1⟩, by omega⟩), by omega⟩
              have := s1 ⟨h.1.2.2.2.2, by omega⟩
              omega
            · rw [decide_eq_false h5]
              exact ⟨13, by simp, bad (fun h => by have := h.1; simp only [okM] at this; exact h5 this.2.2.2.1)⟩
/-- A valid lock. -/
def OkLock (l : S26) : Prop := okM l ∧ szM l ≤ 12
noncomputable instance (l : S26) : Decidable (OkLock l) := Classical.propDecidable _
theorem implValidLock_spec (k : Nat) (l : S26) (hf : fuM l ≤ 1000000) (hk : fuM l < k) : impl_ValidLock.f k l.f0 l.f1 l.f2 = some (decide (OkLock l)) := by
  unfold impl_ValidLock.f
  obtain ⟨r, hr, r1, r2, r3⟩ := lockCount_spec _ l (Nat.le_refl _) hf k 12 (by omega) (by omega) hk
  rw [hr, Option.bind_some]
  congr 1
  rw [decide_eq_decide]
  unfold OkLock
  by_cases h : okM l ∧ (szM l : Int) ≤ 12
  · have := r1 h
    exact ⟨fun _ => ⟨h.1, by omega⟩, fun _ => by omega⟩
  · have := r2 h
    exact ⟨fun h2 => by omega, fun h2 => absurd ⟨h2.1, by omega⟩ h⟩

/-! ### hasbits -/
theorem has_l0 (n : Nat) (hn : n ≤ 100) : ∀ (d k j s : Nat), j + d = n → d < k → s < 1000000 → spec_has.l0 k (s : Int) (n : Int) (j : Int) = some (decide (s / 2 ^ d % 2 = 1)) := by
  intro d
  induction d with
  | zero =>
    intro k j s hj hk hs
    obtain ⟨k, rfl, -⟩ := fuel hk
    simp only [spec_has.l0]
    rw [if_neg (by omega), Int.tmod_eq_emod_of_nonneg (by omega)]
    congr 1
    rw [Bool.eq_iff_iff, beq_iff_eq, decide_eq_true_eq]
    simp only [Nat.pow_zero, Nat.div_one]
    omega
  | succ d ih =>
    intro k j s hj hk hs
    obtain ⟨k, rfl, hk⟩ := fuel hk
    simp only [spec_has.l0]
    have e : Int.tdiv (s : Int) 2 = ((s / 2 : Nat) : Int) := by rw [Int.tdiv_eq_ediv_of_nonneg (by omega)]; omega
    rw [if_pos (by omega), wrap_succ (by omega), e, wrap_id (by omega) (by omega), ih k (j + 1) (s / 2) (by omega) (by omega) (by omega)]
    have e2 : s / 2 / 2 ^ d = s / 2 ^ (d + 1) := by rw [Nat.div_div_eq_div_mul, Nat.pow_succ, Nat.mul_comm]
    rw [e2]
theorem has_spec (k s i : Nat) (hs : s < 1000000) (hi : i ≤ 100) (hk : i < k) : spec_has.f k (s : Int) (i : Int) = some (decide (s / 2 ^ i % 2 = 1)) := by
  unfold spec_has.f
  have := has_l0 i hi i k 0 s (by omega) hk hs
  simpa using this
theorem power_l0 (n : Nat) (hn : n ≤ 40) : ∀ (d k i : Nat), i + d = n → d < k → spec_power.l0 k (n : Int) ((2 ^ i : Nat) : Int) (i : Int) = some ((2 ^ n : Nat) : Int) := by
  intro d
  induction d with
  | zero =>
    intro k i hi hk
    obtain ⟨k, rfl, -⟩ := fuel hk
    simp only [spec_power.l0]
    rw [if_neg (by omega), show i = n by omega]
  | succ d ih =>
    intro k i hi hk
    obtain ⟨k, rfl, hk⟩ := fuel hk
    have hp : 2 ^ i ≤ 2 ^ 40 := Nat.pow_le_pow_right (by omega) (by omega)
    have e : (2 : Int) * ((2 ^ i : Nat) : Int) = ((2 ^ (i + 1) : Nat) : Int) := by rw [Nat.pow_succ]; generalize 2 ^ i = m; omega
    have hp2 : 2 ^ (i + 1) ≤ 2 ^ 41 := Nat.pow_le_pow_right (by omega) (by omega)
    have := ih k (i + 1) (by omega) (by omega)
    simp only [spec_power.l0]
    rw [if_pos (by omega), e, wrap_succ (by omega), wrap_id (by generalize 2 ^ (i + 1) = m; omega) (by generalize 2 ^ (i + 1) = m at hp2; omega)]
    exact this
theorem power_spec (k n : Nat) (hn : n ≤ 40) (hk : n < k) : spec_power.f k (n : Int) = some ((2 ^ n : Nat) : Int) := by
  unfold spec_power.f
  have := power_l0 n hn n k 0 (by omega) hk
  simpa using this

/-! ### lockspec -/
def finM (need : Int) (ms : List Int) (n : Nat) (t : Int) : Prop := t ≤ 12 ∧ GoodM ms 8 ∧ 1 ≤ need ∧ need ≤ ((ms.length + n : Nat) : Int) ∧ ms.length + n ≤ 8
instance (need : Int) (ms : List Int) (n : Nat) (t : Int) : Decidable (finM need ms n t) := inferInstanceAs (Decidable (_ ∧ _))
theorem lockSize_k (need : Int) (ms : List Int) (ks : List S26) (hms : ms.length ≤ 1000000) (hfb : fuK ks ≤ 1000000) (ih : ∀ l ∈ ks, ∀ (k : Nat), fuM l < k → spec_lockSize.f k l.f0 l.f1 l.f2 = some (if OkLock l then (szM l : Int) else -1)) :
    ∀ (d k i : Nat) (x : Int), i + d = ks.length → fuK (ks.drop i) + (ms.length + ms.length) + 20 < k → 1 ≤ x → x ≤ 1 + 12 * i → spec_lockSize.l0 k x (i : Int) need ms ks = some (if okK (ks.drop i) ∧ finM need ms ks.length (x + szK (ks.drop i)) then x + szK (ks.drop i) else -1) := by
  have hkl := fuK_length ks
  intro d
  induction d with
  | zero =>
    intro k i x hi hk h1 h2
    obtain ⟨k, rfl, hk'⟩ := fuel (show 0 < k by omega)
    simp only [spec_lockSize.l0]
    rw [if_neg (by omega), drop_end (by omega)]
    have e0 : okK [] := by simp only [okK]
    have e1 : szK [] = 0 := by simp only [szK]
    rw [e1, Int.natCast_zero, Int.add_zero]
    by_cases h3 : x > 12
    · rw [if_pos h3, if_neg (fun h => by have := h.2.1; omega)]
    · rw [if_neg h3, validMembers_spec _ _ _ (by omega) (by omega) (by omega) (by rw [drop_end (by omega)] at hk; simp only [fuK] at hk; omega), Option.bind_some]
      by_cases h4 : GoodM ms 8
      · rw [decide_eq_true h4, if_pos rfl, inRange_spec, Option.bind_some, wrap_id (x := (ms.length : Int) + (ks.length : Int)) (by omega) (by omega)]
        by_cases h5 : 1 ≤ need ∧ need ≤ (ms.length : Int) + (ks.length : Int)
        · rw [decide_eq_true h5, if_pos rfl]
          by_cases h6 : (ms.length : Int) + (ks.length : Int) > 8
          · rw [if_pos h6, if_neg (fun h => by have := h.2.2.2.2.2; omega)]
          · rw [if_neg h6, if_pos ⟨e0, by omega, h4, by omega, by omega, by omega⟩]
        · rw [decide_eq_false h5, if_neg (by decide), if_neg (fun h => h5 ⟨h.2.2.2.1, by have := h.2.2.2.2.1; omega⟩)]
      · rw [decide_eq_false h4, if_neg (by decide), if_neg (fun h => h4 h.2.2.1)]
  | succ d ih2 =>
    intro k i x hi hk h1 h2
    have hd := drop_rdT (xs := ks) (i := i) (by omega)
    rw [hd] at hk ⊢
    have hmem : rd_T26 ks (i : Int) ∈ ks := by rw [rdT_at (by omega)]; exact List.getElem_mem _
    simp only [fuK] at hk
    obtain ⟨k, rfl, hk'⟩ := fuel (show 0 < k by omega)
    simp only [spec_lockSize.l0]
    rw [if_pos (by omega), if_pos (by omega), ih _ hmem k (by omega), Option.bind_some, wrap_succ (by omega)]
    generalize rd_T26 ks (i : Int) = l at *
    rw [szK_cons]
    have hsz := szM_pos l
    by_cases hok : OkLock l
    · rw [if_pos hok, if_neg (by omega)]
      obtain ⟨o1, o2⟩ := hok
      rw [wrap_id (by omega) (by omega), ih2 k (i + 1) _ (by omega) (by omega) (by omega) (by omega)]
      have e : x + (szM l : Int) + (szK (ks.drop (i + 1)) : Int) = x + ((szM l + szK (ks.drop (i + 1)) : Nat) : Int) := by omega
      rw [e]
      congr 1
      by_cases hr : okK (ks.drop (i + 1)) ∧ finM need ms ks.length (x + ((szM l + szK (ks.drop (i + 1)) : Nat) : Int))
      · rw [if_pos hr, if_pos ⟨(okK_cons _ _).2 ⟨o1, hr.1⟩, hr.2⟩]
      · rw [if_neg hr, if_neg (fun h => hr ⟨((okK_cons _ _).1 h.1).2, h.2⟩)]
    · rw [if_neg hok, if_pos (by omega), if_neg]
      rintro ⟨a, a3⟩
      obtain ⟨a1, a2⟩ := (okK_cons _ _).1 a
      refine hok ⟨a1, ?_⟩
      have := a3.1
      omega
theorem lockSize_spec : ∀ (n : Nat) (l : S26), fuM l ≤ n → n ≤ 1000000 → ∀ (k : Nat), fuM l < k → spec_lockSize.f k l.f0 l.f1 l.f2 = some (if OkLock l then (szM l : Int) else -1) := by
  intro n
  induction n with
  | zero => intro l h; have := fuM_big l; omega
  | succ n ih =>
    intro l hl hn k hk
    obtain ⟨need, ms, ks⟩ := l
    have hkl := fuK_length ks
    simp only [fuM] at hl hk
    obtain ⟨k, rfl, hk'⟩ := fuel (show 0 < k by omega)
    simp only [spec_lockSize.f]
    have := lockSize_k need ms ks (by omega) (by omega) (fun l' hl' k' a => ih l' (by have := fuM_mem hl'; omega) (by omega) k' a) ks.length k 0 1 (by omega) (by rw [List.drop_zero]; omega) (by omega) (by omega)
    rw [List.drop_zero] at this
    rw [cast0] at this
    rw [this]
    congr 1
    rw [szM_mk]
    by_cases h : okK ks ∧ finM need ms ks.length (1 + (szK ks : Int))
    · obtain ⟨h1, h2, h3, h4, h5, h6⟩ := h
      rw [if_pos ⟨h1, h2, h3, h4, h5, h6⟩, if_pos (show OkLock ⟨need, ms, ks⟩ from ⟨(okM_mk _ _ _).2 ⟨h4, h5, h6, h3, h1⟩, by rw [szM_mk]; omega⟩)]
      omega
    · rw [if_neg h, if_neg]
      rintro ⟨a, a6⟩
      obtain ⟨a1, a2, a3, a4, a5⟩ := (okM_mk _ _ _).1 a
      rw [szM_mk] at a6
      exact h ⟨a5, by omega, a4, a1, a2, a3⟩
/-- The member's bit. -/
theorem cnt_bound (s : Nat) : ∀ ms : List Int, 0 ≤ cntM s ms ∧ cntM s ms ≤ ms.length := by
  intro ms
  induction ms with
  | nil => simp [cntM]
  | cons m ms ih => simp only [cntM, List.length_cons]; omega
theorem opK_bound (s : Nat) : ∀ ks : List S26, 0 ≤ opK ks s ∧ opK ks s ≤ ks.length := by
  intro ks
  induction ks with
  | nil => simp [opK]
  | cons l ks ih => simp only [opK, List.length_cons]; split <;> omega
theorem opens_m (need : Int) (ms : List Int) (ks : List S26) (s : Nat) (hs : s < 1000000) (hm : ∀ m ∈ ms, 0 ≤ m ∧ m < 8) (hl : ms.length ≤ 1000) :
    ∀ (d k i : Nat) (c : Int), i + d = ms.length → 0 ≤ c → c ≤ i → impl_opensWith.l0 (k + d + 1) (s : Int) c ms (ms.length : Int) (i : Int) need ms ks = impl_opensWith.l1 k (s : Int) (c + cntM s (ms.drop i)) ks (ks.length : Int) 0 need ms ks := by
  intro d
  induction d with
  | zero =>
    intro k i c hi h0 h1
    simp only [impl_opensWith.l0]
    rw [if_neg (by omega), drop_end (by omega)]
    simp [cntM]
  | succ d ih =>
    intro k i c hi h0 h1
    have hmi := hm _ (rd_mem (xs := ms) (i := i) (by omega))
    have e : k + (d + 1) + 1 = (k + d + 1) + 1 := by omega
    rw [e]
    generalize hq : k + d + 1 = q
    simp only [impl_opensWith.l0]
    subst hq
    rw [if_pos (by omega), if_pos (by omega), if_pos (by omega), if_pos (by omega), wrap_succ (by omega), drop_rd (xs := ms) (i := i) (by omega)]
    obtain ⟨m, hmm⟩ := Int.eq_ofNat_of_zero_le hmi.1
    rw [hmm] at hmi ⊢
    have hle : s / 2 ^ m ≤ s := Nat.div_le_self _ _
    rw [shr_nat _ _ (by omega), and_one _ (by omega)]
    simp only [cntM, Int.toNat_natCast]
    generalize hz : s / 2 ^ m % 2 = z
    have hz2 : z < 2 := by omega
    rw [wrap_id (by omega) (by omega), ih k (i + 1) _ (by omega) (by omega) (by omega), Int.add_assoc]
theorem opens_k (need : Int) (ms : List Int) (ks : List S26) (s : Nat) (hl : ks.length ≤ 1000) (ih : ∀ l ∈ ks, ∀ (k : Nat), fuM l < k → impl_opensWith.f k l.f0 l.f1 l.f2 (s : Int) = some (opM l s)) :
    ∀ (d k i : Nat) (c : Int), i + d = ks.length → fuK (ks.drop i) < k → 0 ≤ c → c ≤ 1000 + i → impl_opensWith.l1 k (s : Int) c ks (ks.length : Int) (i : Int) need ms ks = some (decide (c + opK (ks.drop i) s ≥ need)) := by
  intro d
  induction d with
  | zero =>
    intro k i c hi hk h0 h1
    obtain ⟨k, rfl, -⟩ := fuel (show 0 < k by omega)
    simp only [impl_opensWith.l1]
    rw [if_neg (by omega), drop_end (by omega)]
    simp [opK]
  | succ d ih2 =>
    intro k i c hi hk h0 h1
    have hd := drop_rdT (xs := ks) (i := i) (by omega)
    rw [hd] at hk ⊢
    have hmem : rd_T26 ks (i : Int) ∈ ks := by rw [rdT_at (by omega)]; exact List.getElem_mem _
    simp only [fuK] at hk
    obtain ⟨k, rfl, hk'⟩ := fuel (show 0 < k by omega)
    simp only [impl_opensWith.l1]
    rw [if_pos (by omega), if_pos (by omega), if_pos (by omega), ih _ hmem k (by omega), Option.bind_some, wrap_succ (by omega)]
    generalize rd_T26 ks (i : Int) = l at *
    rw [opK_cons]
    by_cases hop : opM l s = true
    · rw [if_pos hop, if_pos hop, wrap_id (by omega) (by omega), ih2 k (i + 1) _ (by omega) (by omega) (by omega) (by omega), Int.add_assoc]
    · rw [if_neg hop, if_neg hop, ih2 k (i + 1) _ (by omega) (by omega) (by omega) (by omega), Int.zero_add]
theorem okK_mem {l : S26} : ∀ {ls : List S26}, okK ls → l ∈ ls → okM l := by
  intro ls
  induction ls with
  | nil => intro _ h; simp at h
  | cons x ls ih =>
    intro h hm
    simp only [okK] at h
    rcases List.mem_cons.1 hm with e | e
    · subst e; exact h.1
    · exact ih h.2 e
theorem implOpens_spec : ∀ (n : Nat) (l : S26), fuM l ≤ n → okM l → ∀ (k s : Nat), s < 1000000 → fuM l < k → impl_opensWith.f k l.f0 l.f1 l.f2 (s : Int) = some (opM l s) := by
  intro n
  induction n with
  | zero => intro l h; have := fuM_big l; omega
  | succ n ih =>
    intro l hl hok k s hs hk
    obtain ⟨need, ms, ks⟩ := l
    simp only [fuM] at hl hk
    simp only [okM] at hok
    obtain ⟨a1, a2, a3, a4, a5⟩ := hok
    obtain ⟨k, rfl, hk'⟩ := fuel (show 0 < k by omega)
    simp only [impl_opensWith.f]
    have h1 := opens_m need ms ks s hs a4.2 (by omega) ms.length (k - ms.length - 1) 0 0 (by omega) (by omega) (by omega)
    rw [show k - ms.length - 1 + ms.length + 1 = k by omega, List.drop_zero, cast0, Int.zero_add] at h1
    have hc := cnt_bound s ms
    have h2 := opens_k need ms ks s (by omega) (fun l' hl' k' a => ih l' (by have := fuM_mem hl'; omega) (okK_mem a5 hl') k' s hs a) ks.length (k - ms.length - 1) 0 (cntM s ms) (by omega) (by rw [List.drop_zero]; omega) (by omega) (by omega)
    rw [List.drop_zero, cast0] at h2
    rw [h1, h2, opM_mk]
theorem sopens_m (need : Int) (ms : List Int) (ks : List S26) (s : Nat) (hs : s < 1000000) (hm : ∀ m ∈ ms, 0 ≤ m ∧ m < 8) (hl : ms.length ≤ 1000) :
    ∀ (d k i : Nat) (c : Int), i + d = ms.length → 0 ≤ c → c ≤ i → 20 < k → spec_opens.l0 (k + d + 1) (s : Int) c (i : Int) need ms ks = spec_opens.l1 k (s : Int) (c + cntM s (ms.drop i)) 0 need ms ks := by
  intro d
  induction d with
  | zero =>
    intro k i c hi h0 h1 hk
    simp only [spec_opens.l0]
    rw [if_neg (by omega), drop_end (by omega)]
    simp [cntM]
  | succ d ih =>
    intro k i c hi h0 h1 hk
    have hmi := hm _ (rd_mem (xs := ms) (i := i) (by omega))
    have e : k + (d + 1) + 1 = (k + d + 1) + 1 := by omega
    rw [e]
    generalize hq : k + d + 1 = q
    simp only [spec_opens.l0]
    subst hq
    rw [if_pos (by omega), if_pos (by omega), wrap_succ (by omega), drop_rd (xs := ms) (i := i) (by omega)]
    obtain ⟨m, hmm⟩ := Int.eq_ofNat_of_zero_le hmi.1
    rw [hmm] at hmi ⊢
    rw [has_spec _ _ _ hs (by omega) (by omega), Option.bind_some]
    simp only [cntM, Int.toNat_natCast]
    by_cases hb : s / 2 ^ m % 2 = 1
    · rw [decide_eq_true hb, if_pos rfl, hb, wrap_id (by omega) (by omega), ih k (i + 1) _ (by omega) (by omega) (by omega) hk, Int.add_assoc]; rfl
    · have hb0 : s / 2 ^ m % 2 = 0 := by omega
      rw [decide_eq_false hb, if_neg (by decide), hb0, ih k (i + 1) _ (by omega) (by omega) (by omega) hk]
      simp
theorem sopens_k (need : Int) (ms : List Int) (ks : List S26) (s : Nat) (hl : ks.length ≤ 1000) (ih : ∀ l ∈ ks, ∀ (k : Nat), fuM l < k → spec_opens.f k l.f0 l.f1 l.f2 (s : Int) = some (opM l s)) :
    ∀ (d k i : Nat) (c : Int), i + d = ks.length → fuK (ks.drop i) < k → 0 ≤ c → c ≤ 1000 + i → spec_opens.l1 k (s : Int) c (i : Int) need ms ks = some (decide (c + opK (ks.drop i) s ≥ need)) := by
  intro d
  induction d with
  | zero =>
    intro k i c hi hk h0 h1
    obtain ⟨k, rfl, -⟩ := fuel (show 0 < k by omega)
    simp only [spec_opens.l1]
    rw [if_neg (by omega), drop_end (by omega)]
    simp [opK]
  | succ d ih2 =>
    intro k i c hi hk h0 h1
    have hd := drop_rdT (xs := ks) (i := i) (by omega)
    rw [hd] at hk ⊢
    have hmem : rd_T26 ks (i : Int) ∈ ks := by rw [rdT_at (by omega)]; exact List.getElem_mem _
    simp only [fuK] at hk
    obtain ⟨k, rfl, hk'⟩ := fuel (show 0 < k by omega)
    simp only [spec_opens.l1]
    rw [if_pos (by omega), if_pos (by omega), ih _ hmem k (by omega), Option.bind_some, wrap_succ (by omega)]
    generalize rd_T26 ks (i : Int) = l at *
    rw [opK_cons]
    by_cases hop : opM l s = true
    · rw [if_pos hop, if_pos hop, wrap_id (by omega) (by omega), ih2 k (i + 1) _ (by omega) (by omega) (by omega) (by omega), Int.add_assoc]
    · rw [if_neg hop, if_neg hop, ih2 k (i + 1) _ (by omega) (by omega) (by omega) (by omega), Int.zero_add]
theorem specOpens_spec : ∀ (n : Nat) (l : S26), fuM l ≤ n → okM l → ∀ (k s : Nat), s < 1000000 → fuM l < k → spec_opens.f k l.f0 l.f1 l.f2 (s : Int) = some (opM l s) := by
  intro n
  induction n with
  | zero => intro l h; have := fuM_big l; omega
  | succ n ih =>
    intro l hl hok k s hs hk
    obtain ⟨need, ms, ks⟩ := l
    simp only [fuM] at hl hk
    simp only [okM] at hok
    obtain ⟨a1, a2, a3, a4, a5⟩ := hok
    obtain ⟨k, rfl, hk'⟩ := fuel (show 0 < k by omega)
    simp only [spec_opens.f]
    have h1 := sopens_m need ms ks s hs a4.2 (by omega) ms.length (k - ms.length - 1) 0 0 (by omega) (by omega) (by omega) (by omega)
    rw [show k - ms.length - 1 + ms.length + 1 = k by omega, List.drop_zero, cast0, Int.zero_add] at h1
    have hc := cnt_bound s ms
    have h2 := sopens_k need ms ks s (by omega) (fun l' hl' k' a => ih l' (by have := fuM_mem hl'; omega) (okK_mem a5 hl') k' s hs a) ks.length (k - ms.length - 1) 0 (cntM s ms) (by omega) (by rw [List.drop_zero]; omega) (by omega) (by omega)
    rw [List.drop_zero, cast0] at h2
    rw [h1, h2, opM_mk]
/-- More members open no less. -/
theorem cntM_mono (s t : Nat) : ∀ ms : List Int, (∀ m ∈ ms, s / 2 ^ m.toNat % 2 = 1 → t / 2 ^ m.toNat % 2 = 1) → cntM s ms ≤ cntM t ms := by
  intro ms
  induction ms with
  | nil => intro _; simp [cntM]
  | cons m ms ih =>
    intro h
    have h1 := ih (fun x hx => h x (by simp [hx]))
    have h2 := h m (by simp)
    simp only [cntM]
    omega
theorem opM_mono (s t : Nat) (h : ∀ j : Nat, j < 8 → s / 2 ^ j % 2 = 1 → t / 2 ^ j % 2 = 1) : ∀ (n : Nat) (l : S26), fuM l ≤ n → okM l → opM l s = true → opM l t = true := by
  intro n
  induction n with
  | zero => intro l hl; have := fuM_big l; omega
  | succ n ih =>
    intro l hl hok ho
    obtain ⟨need, ms, ks⟩ := l
    simp only [fuM] at hl
    obtain ⟨a1, a2, a3, a4, a5⟩ := (okM_mk _ _ _).1 hok
    rw [opM_mk, decide_eq_true_eq] at ho ⊢
    have h1 := cntM_mono s t ms (fun m hm => h m.toNat (by have := a4.2 m hm; omega))
    have h2 : ∀ ls : List S26, (∀ l ∈ ls, l ∈ ks) → opK ls s ≤ opK ls t := by
      intro ls
      induction ls with
      | nil => intro _; simp [opK]
      | cons x ls ih2 =>
        intro hsub
        have h3 := ih2 (fun y hy => hsub y (by simp [hy]))
        have hx := hsub x (by simp)
        have h4 := ih x (by have := fuM_mem hx; omega) (okK_mem a5 hx)
        rw [opK_cons, opK_cons]
        by_cases ho1 : opM x s = true
        · rw [if_pos ho1, if_pos (h4 ho1)]; omega
        · rw [if_neg ho1]; split <;> omega
    have := h2 ks (fun _ h => h)
    omega

/-! ### indb -/
/-- Who is in, as truth values. -/
def indB (n : Nat) (xs : List Int) : List Bool := (List.range n).map fun i : Nat => decide ((i : Int) ∈ xs)
theorem indB_length (n : Nat) (xs : List Int) : (indB n xs).length = n := by simp [indB]
theorem indB_at {n j : Nat} {xs : List Int} (h : j < n) : (indB n xs)[j]? = some (decide ((j : Int) ∈ xs)) := by simp [indB, h]
theorem indB_add {n j : Nat} {xs : List Int} (h : j < n) : indB n (xs ++ [(j : Int)]) = (indB n xs).set j true := by
  apply List.ext_getElem? 
  intro i
  rcases Nat.lt_or_ge i n with hi | hi
  · rw [indB_at hi, List.getElem?_set, indB_length, indB_at hi]
    by_cases e : j = i
    · subst e; simp [h]
    · simp [e]
      intro h2; omega
  · rw [List.getElem?_eq_none (by rw [indB_length]; exact hi), List.getElem?_eq_none (by simp [indB_length]; exact hi)]
theorem rep_false : ∀ (n : Nat) (ws : List Int), encB (List.replicate n false) = 0 ∧ bwB ws (List.replicate n false) = 0 := by
  intro n
  induction n with
  | zero => intro ws; exact ⟨rfl, by cases ws <;> rfl⟩
  | succ n ih =>
    intro ws
    refine ⟨by simp [List.replicate_succ, encB, (ih ws).1], ?_⟩
    cases ws with
    | nil => rfl
    | cons w ws => simp [List.replicate_succ, bwB, (ih ws).2]
theorem indB_nil (n : Nat) : indB n [] = List.replicate n false := by
  apply List.ext_getElem (by simp [indB])
  intro i h1 h2; simp [indB]
theorem ind_get {n j : Nat} {xs : List Int} : (indB n xs)[j]? = some true ↔ j < n ∧ (j : Int) ∈ xs := by
  rcases Nat.lt_or_ge j n with h | h
  · rw [indB_at h]; simp [h]
  · rw [List.getElem?_eq_none (by rw [indB_length]; exact h)]; simp; omega
theorem decB_get : ∀ (n s i : Nat), i < n → (decB n s)[i]? = some (s / 2 ^ i % 2 == 1) := by
  intro n
  induction n with
  | zero => intro s i h; omega
  | succ n ih =>
    intro s i h
    cases i with
    | zero => simp [decB]
    | succ i =>
      simp only [decB, List.getElem?_cons_succ]
      rw [ih (s / 2) i (by omega)]
      have e2 : s / 2 / 2 ^ i = s / 2 ^ (i + 1) := by rw [Nat.div_div_eq_div_mul, Nat.pow_succ, Nat.mul_comm]
      rw [e2]
theorem mb_ge : ∀ (n i s : Nat), ∀ m ∈ mb n i s, (i : Int) ≤ m := by
  intro n
  induction n with
  | zero => intro i s m h; simp [mb] at h
  | succ n ih =>
    intro i s m h
    simp only [mb] at h
    split at h
    · rcases List.mem_cons.1 h with h | h
      · omega
      · have := ih _ _ m h; omega
    · have := ih _ _ m h; omega
theorem mb_nodup : ∀ (n i s : Nat), (mb n i s).Nodup := by
  intro n
  induction n with
  | zero => intro i s; simp [mb]
  | succ n ih =>
    intro i s
    simp only [mb]
    split
    · refine List.nodup_cons.2 ⟨fun h => ?_, ih _ _⟩
      have := mb_ge _ _ _ _ h; omega
    · exact ih _ _
theorem mb_mem_range {n s : Nat} (hs : s < 2 ^ n) : ∀ m ∈ mb n 0 s, 0 ≤ m ∧ m < (n : Int) := by
  intro m hm
  have e := enc_dec n s hs
  have hl := decB_length n s
  have : m ∈ mb (decB n s).length 0 (encB (decB n s)) := by rw [hl, e]; exact hm
  obtain ⟨j, j1, j2, j3⟩ := (mem_mb _ _ _).1 this
  rw [hl] at j1
  omega
theorem mb_good {n s : Nat} (hs : s < 2 ^ n) : GoodM (mb n 0 s) (n : Int) := ⟨mb_nodup _ _ _, mb_mem_range hs⟩
theorem dec_enc : ∀ bs : List Bool, decB bs.length (encB bs) = bs := by
  intro bs
  induction bs with
  | nil => rfl
  | cons b bs ih =>
    simp only [List.length_cons, decB, encB_mod, encB_half, ih]
    cases b <;> rfl
theorem enc_bit {bs : List Bool} {j : Nat} (h : j < bs.length) : encB bs / 2 ^ j % 2 = 1 ↔ bs[j]? = some true := by
  have := decB_get bs.length (encB bs) j h
  rw [dec_enc] at this
  rw [this]; simp

/-! ### membersin -/
theorem membersIn_l0 (n s : Nat) (hn : n ≤ 40) (hs : s < 2 ^ n) : ∀ (d k i : Nat) (acc : List Int), i + d = n → acc.length ≤ i → d < k → impl_membersIn.l0 k (s : Int) acc (i : Int) = some (acc ++ mb d i (s / 2 ^ i)) := by
  have hp : 2 ^ n ≤ 2 ^ 40 := Nat.pow_le_pow_right (by omega) hn
  intro d
  induction d with
  | zero =>
    intro k i acc hi ha hk
    obtain ⟨k, rfl, -⟩ := fuel hk
    have e : s / 2 ^ i = 0 := by rw [show i = n by omega]; exact Nat.div_eq_of_lt hs
    simp only [impl_membersIn.l0]
    rw [if_pos (by omega), shr_nat _ _ (by omega), e, if_neg (by decide)]
    simp [mb]
  | succ d ih =>
    intro k i acc hi ha hk
    obtain ⟨k, rfl, hk⟩ := fuel hk
    have hle : s / 2 ^ i ≤ s := Nat.div_le_self _ _
    simp only [impl_membersIn.l0]
    rw [if_pos (by omega), shr_nat _ _ (by omega)]
    by_cases h0 : s / 2 ^ i = 0
    · rw [h0, if_neg (by decide), mb_zero]; simp
    · have h1 : ((s / 2 ^ i : Nat) : Int) > 0 := Int.natCast_pos.2 (Nat.pos_of_ne_zero h0)
      rw [if_pos h1, and_one _ (Nat.lt_of_le_of_lt hle (by omega)), wrap_succ (by omega)]
      simp only [mb]
      rw [← half_step]
      by_cases hb : s / 2 ^ i % 2 = 1
      · rw [if_pos (by omega), if_pos (by omega), ih k (i + 1) _ (by omega) (by simp; omega) (by omega), if_pos hb, List.append_assoc]; rfl
      · rw [if_neg (by omega), ih k (i + 1) _ (by omega) (by omega) (by omega), if_neg hb]
theorem membersIn_spec (k n s : Nat) (hn : n ≤ 40) (hs : s < 2 ^ n) (hk : n < k) : impl_membersIn.f k (s : Int) = some (mb n 0 s) := by
  unfold impl_membersIn.f
  have := membersIn_l0 n s hn hs n k 0 [] (by omega) (by simp) hk
  simpa using this

/-! ### loleast -/
theorem exists_leastO (op : List Bool → Bool) : ∀ (c : Nat) (ps : List Bool), cntB ps = c → op ps = true →
    ∃ qs : List Bool, qs.length = ps.length ∧ (∀ j : Nat, qs[j]? = some true → ps[j]? = some true) ∧ op qs = true ∧ ∀ j : Nat, qs[j]? = some true → op (qs.set j false) = false := by
  intro c
  induction c with
  | zero =>
    intro ps hc ho
    refine ⟨ps, rfl, fun _ h => h, ho, fun j hj => ?_⟩
    have := cntB_set ps j hj
    omega
  | succ c ih =>
    intro ps hc ho
    by_cases h : ∀ j : Nat, ps[j]? = some true → op (ps.set j false) = false
    · exact ⟨ps, rfl, fun _ h => h, ho, h⟩
    · simp only [Classical.not_forall] at h
      obtain ⟨j, hj, hn⟩ := h
      have h1 := cntB_set ps j hj
      obtain ⟨qs, q1, q2, q3, q4⟩ := ih (ps.set j false) (by omega) (by simpa using hn)
      refine ⟨qs, by simpa using q1, fun i hi => ?_, q3, q4⟩
      have := q2 i hi
      rw [List.getElem?_set] at this
      by_cases e : j = i
      · subst e; simp at this
      · rw [if_neg e] at this; exact this
def isLeastO (op : Nat → Bool) (s : Nat) : Bool := op s && (mb 8 0 s).all fun m => !op (s - 2 ^ m.toNat)
def loM (op : Nat → Bool) : List (List Int) := ((List.range 256).filter (isLeastO op)).map (mb 8 0)
theorem encB_unset {bs : List Bool} {j : Nat} (h : bs[j]? = some true) : encB (bs.set j false) = encB bs - 2 ^ j := by
  have hl : j < bs.length := by
    rcases Nat.lt_or_ge j bs.length with h1 | h1
    · exact h1
    · rw [List.getElem?_eq_none h1] at h; cases h
  have h1 : (bs.set j false)[j]? = some false := by simp [hl]
  have h2 := encB_set (bs.set j false) j h1
  rw [List.set_set] at h2
  have h3 : bs.set j true = bs := by
    apply List.ext_getElem?
    intro i
    rw [List.getElem?_set]
    by_cases e : j = i
    · subst e; rw [h]; simp [hl]
    · simp [e]
  rw [h3] at h2
  omega
theorem get_lt {bs : List Bool} {j : Nat} (h : bs[j]? = some true) : j < bs.length := by
  rcases Nat.lt_or_ge j bs.length with h1 | h1
  · exact h1
  · rw [List.getElem?_eq_none h1] at h; cases h
theorem mb_bit {s : Nat} (hs : s < 256) (j : Nat) (hj : j < 8) : (j : Int) ∈ mb 8 0 s ↔ s / 2 ^ j % 2 = 1 := by
  have e := enc_dec 8 s hs
  have hl := decB_length 8 s
  have h1 := mem_mb (decB 8 s) 0 (j : Int)
  rw [hl, e] at h1
  have h2 := decB_get 8 s j hj
  rw [h1]
  constructor
  · rintro ⟨q, q1, q2, q3⟩
    have : q = j := by omega
    subst this
    rw [h2] at q3
    simpa using q3
  · intro h; exact ⟨j, hj, by simp, by rw [h2]; simp [h]⟩
theorem leastO_iff (op : Nat → Bool) (xs : List Int) (hg : GoodM xs 8) (hmono : ∀ s t : Nat, (∀ j : Nat, j < 8 → s / 2 ^ j % 2 = 1 → t / 2 ^ j % 2 = 1) → op s = true → op t = true) :
    op (encB (indB 8 xs)) = true ↔ ∃ c ∈ loM op, ∀ x ∈ c, x ∈ xs := by
  have hil : (indB 8 xs).length = 8 := indB_length 8 xs
  constructor
  · intro h
    obtain ⟨qs, q1, q2, q3, q4⟩ := exists_leastO (fun bs => op (encB bs)) _ (indB 8 xs) rfl h
    have hl : qs.length = 8 := by omega
    have hlt := encB_lt qs
    rw [hl] at hlt
    refine ⟨mb 8 0 (encB qs), List.mem_map.2 ⟨encB qs, List.mem_filter.2 ⟨List.mem_range.2 hlt, ?_⟩, rfl⟩, ?_⟩
    · unfold isLeastO
      rw [Bool.and_eq_true, List.all_eq_true]
      refine ⟨q3, fun m hm => ?_⟩
      rw [← hl, mem_mb] at hm
      obtain ⟨j, j1, j2, j3⟩ := hm
      have e : m.toNat = j := by omega
      have := q4 j j3
      rw [encB_unset j3] at this
      rw [e, this]; rfl
    · intro x hx
      rw [← hl, mem_mb] at hx
      obtain ⟨j, j1, j2, j3⟩ := hx
      rw [j2, Nat.zero_add]
      exact (ind_get.1 (q2 j j3)).2
  · rintro ⟨c, hc, hsub⟩
    obtain ⟨s, hs, rfl⟩ := List.mem_map.1 hc
    obtain ⟨hs1, hs2⟩ := List.mem_filter.1 hs
    have hs3 := List.mem_range.1 hs1
    unfold isLeastO at hs2
    rw [Bool.and_eq_true] at hs2
    refine hmono s _ (fun j hj hb => ?_) hs2.1
    rw [enc_bit (by omega)]
    exact ind_get.2 ⟨hj, hsub _ ((mb_bit hs3 j hj).2 hb)⟩
theorem andnot_small : ∀ s : Fin 256, ∀ m : Fin 8, s.val / 2 ^ m.val % 2 = 1 → Go.bits .andNot .i64 (s.val : Int) (shl .i64 1 (m.val : Int)) = ((s.val - 2 ^ m.val : Nat) : Int) := by decide +kernel
theorem or_small : ∀ s : Fin 256, ∀ m : Fin 8, s.val / 2 ^ m.val % 2 = 0 → Go.bits .or .i64 (s.val : Int) (shl .i64 1 (m.val : Int)) = ((s.val + 2 ^ m.val : Nat) : Int) := by decide +kernel

/-! ### loimpl -/
theorem isetOf_l0 (xs : List Int) (hg : GoodM xs 8) : ∀ (d k i : Nat), i + d = xs.length → d < k →
    impl_setOf.l0 k (encB (indB 8 (xs.take i)) : Int) xs (xs.length : Int) (i : Int) = some (encB (indB 8 xs) : Int) := by
  have hle := GoodM.le (n := 8) hg
  intro d
  induction d with
  | zero =>
    intro k i hi hk
    obtain ⟨k, rfl, -⟩ := fuel hk
    have e : xs.take i = xs := List.take_of_length_le (by omega)
    simp only [impl_setOf.l0]
    rw [if_neg (by omega), e]
  | succ d ih =>
    intro k i hi hk
    obtain ⟨k, rfl, hk⟩ := fuel hk
    have hm := hg.2 _ (rd_mem (xs := xs) (i := i) (by omega))
    have := ih k (i + 1) (by omega) (by omega)
    rw [take_rd (by omega)] at this
    have hny : rd xs (i : Int) ∉ xs.take i := by
      have hnd := (List.take_sublist (i + 1) xs).nodup hg.1
      rw [take_rd (by omega), List.nodup_append] at hnd
      exact fun h => hnd.2.2 _ h _ (by simp) rfl
    obtain ⟨j, hj⟩ := Int.eq_ofNat_of_zero_le hm.1
    rw [hj] at hm hny this
    have hjn : j < 8 := by omega
    have hat := indB_at (xs := xs.take i) hjn
    rw [decide_eq_false hny] at hat
    have h4 := encB_set (indB 8 (xs.take i)) j hat
    have hlt := encB_lt (indB 8 (xs.take i))
    rw [indB_length] at hlt
    have hb : encB (indB 8 (xs.take i)) / 2 ^ j % 2 = 0 := by
      have := enc_bit (bs := indB 8 (xs.take i)) (j := j) (by rw [indB_length]; exact hjn)
      rw [hat] at this
      simp at this
      omega
    rw [indB_add hjn, h4] at this
    simp only [impl_setOf.l0]
    have ho := or_small ⟨encB (indB 8 (xs.take i)), hlt⟩ ⟨j, hjn⟩ hb
    simp only at ho
    rw [if_pos (by omega), if_pos (by omega), if_pos (by omega), hj, if_pos (by omega), ho, wrap_succ (by omega)]
    exact this
theorem isetOf_spec (k : Nat) (xs : List Int) (hg : GoodM xs 8) (hk : 20 < k) : impl_setOf.f k xs = some (encB (indB 8 xs) : Int) := by
  unfold impl_setOf.f
  have hle := GoodM.le (n := 8) hg
  have := isetOf_l0 xs hg xs.length k 0 (by omega) (by omega)
  rw [List.take_zero, indB_nil, (rep_false 8 []).1] at this
  exact this
noncomputable def opensM (l : S26) (xs : List Int) : Bool := decide (OkLock l) && (decide (GoodM xs 8) && opM l (encB (indB 8 xs)))
theorem ind_small (xs : List Int) : encB (indB 8 xs) < 256 := by
  have := encB_lt (indB 8 xs)
  rwa [indB_length] at this
theorem implOpensF_spec (k : Nat) (l : S26) (xs : List Int) (hx : xs.length ≤ 1000) (hf : fuM l ≤ 1000000) (hk : fuM l + 2000 < k) : impl_Opens.f k l.f0 l.f1 l.f2 xs = some (opensM l xs) := by
  unfold impl_Opens.f opensM
  rw [implValidLock_spec k l hf (by omega), Option.bind_some]
  by_cases h1 : OkLock l
  · rw [decide_eq_true h1, if_pos rfl, different_spec _ _ _ (by omega) (by omega) (by omega) (by omega), Option.bind_some]
    by_cases h2 : GoodM xs 8
    · have := ind_small xs
      rw [decide_eq_true h2, if_pos rfl, isetOf_spec k xs h2 (by omega), Option.bind_some, implOpens_spec _ l (Nat.le_refl _) h1.1 k _ (by omega) (by omega)]; rfl
    · rw [decide_eq_false h2, if_neg (by decide)]; rfl
  · rw [decide_eq_false h1, if_neg (by decide)]; rfl
theorem lo_l1 (l : S26) (hok : okM l) (s : Nat) (hs : s < 256) (acc : List (List Int)) (hacc : acc.length ≤ 5000) (ms : List Int) (hm : ∀ m ∈ ms, 0 ≤ m ∧ m < 8 ∧ s / 2 ^ m.toNat % 2 = 1) (hml : ms.length ≤ 12) :
    ∀ (d k i : Nat) (b : Bool), i + d = ms.length → fuM l < k →
    impl_LeastOpeners.l1 (k + d + 1) acc (s : Int) ms b (s : Int) ms (ms.length : Int) (i : Int) l.f0 l.f1 l.f2 = impl_LeastOpeners.l0 k (if b && (ms.drop i).all (fun m => !opM l (s - 2 ^ m.toNat)) then acc ++ [ms] else acc) (wrap64 ((s : Int) + 1)) l.f0 l.f1 l.f2 := by
  intro d
  induction d with
  | zero =>
    intro k i b hi hk
    simp only [impl_LeastOpeners.l1]
    rw [if_neg (by omega), drop_end (by omega)]
    cases b with
    | true => rw [if_pos rfl, if_pos (by omega)]; rfl
    | false => rw [if_neg (by decide)]; rfl
  | succ d ih =>
    intro k i b hi hk
    have e : k + (d + 1) + 1 = (k + d + 1) + 1 := by omega
    have hmi := hm _ (rd_mem (xs := ms) (i := i) (by omega))
    rw [e]
    generalize hq : k + d + 1 = q
    simp only [impl_LeastOpeners.l1]
    subst hq
    rw [if_pos (by omega), if_pos (by omega), if_pos (by omega), wrap_succ (i := i) (by omega), drop_rd (xs := ms) (i := i) (by omega), List.all_cons]
    cases b with
    | true =>
      obtain ⟨m, hmm⟩ := Int.eq_ofNat_of_zero_le hmi.1
      rw [hmm] at hmi ⊢
      have ha := andnot_small ⟨s, hs⟩ ⟨m, by omega⟩ (by simpa using hmi.2.2)
      simp only at ha
      rw [if_pos rfl, if_pos hmi.1, ha, implOpens_spec _ l (Nat.le_refl _) hok _ _ (Nat.lt_of_le_of_lt (Nat.sub_le _ _) (by omega)) (by omega), Option.bind_some, ih k (i + 1) _ (by omega) hk, Int.toNat_natCast]
      simp
    | false =>
      rw [if_neg (by decide), ih k (i + 1) _ (by omega) hk]
      simp
theorem mb_bits {s : Nat} (hs : s < 256) : ∀ m ∈ mb 8 0 s, 0 ≤ m ∧ m < 8 ∧ s / 2 ^ m.toNat % 2 = 1 := by
  intro m hm
  have h := mb_mem_range (n := 8) hs m hm
  obtain ⟨j, rfl⟩ := Int.eq_ofNat_of_zero_le h.1
  exact ⟨h.1, h.2, (mb_bit hs j (by omega)).1 hm⟩
theorem lo_l0 (l : S26) (hok : okM l) : ∀ (d k s : Nat) (acc : List (List Int)), s + d = 256 → acc.length ≤ s → 20 * d + fuM l + 100 < k →
    impl_LeastOpeners.l0 k acc (s : Int) l.f0 l.f1 l.f2 = some (acc ++ ((List.range' s d).filter (isLeastO (opM l))).map (mb 8 0)) := by
  intro d
  induction d with
  | zero =>
    intro k s acc hs ha hk
    obtain ⟨k, rfl, -⟩ := fuel (show 0 < k by omega)
    simp only [impl_LeastOpeners.l0]
    rw [if_neg (by omega)]; simp
  | succ d ih =>
    intro k s acc hs ha hk
    obtain ⟨k, rfl, hk⟩ := fuel (show 20 * (d + 1) + fuM l + 99 < k by omega)
    have hs2 : s < 256 := by omega
    have hml := mb_length 8 0 s
    simp only [impl_LeastOpeners.l0]
    rw [if_pos (by omega), membersIn_spec k 8 s (by omega) hs2 (by omega), Option.bind_some, implOpens_spec _ l (Nat.le_refl _) hok _ _ (by omega) (by omega), Option.bind_some]
    have h1 := lo_l1 l hok s hs2 acc (by omega) (mb 8 0 s) (mb_bits hs2) (by omega) (mb 8 0 s).length (k - (mb 8 0 s).length - 1) 0 (opM l s) (by omega) (by omega)
    have e : k - (mb 8 0 s).length - 1 + (mb 8 0 s).length + 1 = k := by omega
    rw [e, List.drop_zero, wrap_succ (by omega)] at h1
    rw [cast0] at h1
    rw [h1, List.range'_succ, List.filter_cons]
    have hb : (opM l s && (mb 8 0 s).all fun m => !opM l (s - 2 ^ m.toNat)) = isLeastO (opM l) s := rfl
    rw [hb]
    cases hl : isLeastO (opM l) s with
    | true =>
      rw [if_pos rfl, if_pos rfl, ih _ (s + 1) (acc ++ [mb 8 0 s]) (by omega) (by simp; omega) (by omega)]
      simp
    | false =>
      rw [if_neg (by decide), if_neg (by decide), ih _ (s + 1) acc (by omega) (by omega) (by omega)]
theorem implLO_spec (k : Nat) (l : S26) (hf : fuM l ≤ 1000000) (hk : fuM l + 10000 < k) : impl_LeastOpeners.f k l.f0 l.f1 l.f2 = some (if OkLock l then loM (opM l) else []) := by
  unfold impl_LeastOpeners.f
  rw [implValidLock_spec k l hf (by omega), Option.bind_some]
  by_cases h1 : OkLock l
  · rw [decide_eq_true h1, if_pos rfl, if_pos h1]
    have := lo_l0 l h1.1 256 k 0 [] (by omega) (by simp) (by omega)
    rw [cast0, List.nil_append] at this
    rw [this]
    unfold loM
    rw [List.range_eq_range']
  · rw [decide_eq_false h1, if_neg (by decide), if_neg h1]

/-! ### membersof -/
theorem membersOf_l0 (n s : Nat) (hn : n ≤ 40) (hs : s < 2 ^ n) : ∀ (d k i : Nat) (acc : List Int), i + d = n → acc.length ≤ i → d < k → spec_membersOf.l0 k ((s / 2 ^ i : Nat) : Int) acc (i : Int) = some (acc ++ mb d i (s / 2 ^ i)) := by
  have hp : 2 ^ n ≤ 2 ^ 40 := Nat.pow_le_pow_right (by omega) hn
  intro d
  induction d with
  | zero =>
    intro k i acc hi ha hk
    obtain ⟨k, rfl, -⟩ := fuel hk
    have e : s / 2 ^ i = 0 := by rw [show i = n by omega]; exact Nat.div_eq_of_lt hs
    simp only [spec_membersOf.l0]
    rw [e, if_neg (by decide)]
    simp [mb]
  | succ d ih =>
    intro k i acc hi ha hk
    obtain ⟨k, rfl, hk⟩ := fuel hk
    have hle : s / 2 ^ i ≤ s := Nat.div_le_self _ _
    have ih1 := fun acc ha => ih k (i + 1) acc (by omega) ha (by omega)
    rw [half_step] at ih1
    simp only [spec_membersOf.l0, mb]
    generalize hz : s / 2 ^ i = z at hle ih1 ⊢
    have hz2 : z < 1099511627776 := by omega
    by_cases h0 : z = 0
    · subst h0
      rw [if_neg (by decide), if_neg (by decide), mb_zero]; simp
    · have e : Int.tdiv (z : Int) 2 = ((z / 2 : Nat) : Int) := by rw [Int.tdiv_eq_ediv_of_nonneg (by omega)]; omega
      rw [if_pos (by omega), Int.tmod_eq_emod_of_nonneg (by omega), wrap_succ (by omega), e, wrap_id (by omega) (by omega)]
      by_cases hb : z % 2 = 1
      · rw [if_pos (by omega), if_pos (by omega), ih1 _ (by simp; omega), if_pos hb, List.append_assoc]; rfl
      · rw [if_neg (by omega), ih1 _ (by omega), if_neg hb]
theorem membersOf_spec (k n s : Nat) (hn : n ≤ 40) (hs : s < 2 ^ n) (hk : n < k) : spec_membersOf.f k (s : Int) = some (mb n 0 s) := by
  unfold spec_membersOf.f
  have := membersOf_l0 n s hn hs n k 0 [] (by omega) (by simp) hk
  simpa using this

/-! ### lospec -/
theorem bit_le {s m : Nat} (h : s / 2 ^ m % 2 = 1) : 2 ^ m ≤ s := by
  rcases Nat.lt_or_ge s (2 ^ m) with h1 | h1
  · rw [Nat.div_eq_of_lt h1] at h; omega
  · exact h1
theorem slo_l1 (l : S26) (hok : okM l) (s : Nat) (hs : s < 256) (acc : List (List Int)) (hacc : acc.length ≤ 5000) (ms : List Int) (hm : ∀ m ∈ ms, 0 ≤ m ∧ m < 8 ∧ s / 2 ^ m.toNat % 2 = 1) (hml : ms.length ≤ 12) :
    ∀ (d k i : Nat) (b : Bool), i + d = ms.length → fuM l + 20 < k →
    spec_LeastOpeners.l1 (k + d + 1) acc (s : Int) ms b (i : Int) l.f0 l.f1 l.f2 = spec_LeastOpeners.l0 k (if b && (ms.drop i).all (fun m => !opM l (s - 2 ^ m.toNat)) then acc ++ [ms] else acc) (wrap64 ((s : Int) + 1)) l.f0 l.f1 l.f2 := by
  intro d
  induction d with
  | zero =>
    intro k i b hi hk
    simp only [spec_LeastOpeners.l1]
    rw [if_neg (by omega), drop_end (by omega)]
    cases b with
    | true => rw [if_pos rfl, if_pos (by omega)]; rfl
    | false => rw [if_neg (by decide)]; rfl
  | succ d ih =>
    intro k i b hi hk
    have e : k + (d + 1) + 1 = (k + d + 1) + 1 := by omega
    have hmi := hm _ (rd_mem (xs := ms) (i := i) (by omega))
    rw [e]
    generalize hq : k + d + 1 = q
    simp only [spec_LeastOpeners.l1]
    subst hq
    rw [if_pos (by omega), wrap_succ (i := i) (by omega), drop_rd (xs := ms) (i := i) (by omega), List.all_cons]
    cases b with
    | true =>
      obtain ⟨m, hmm⟩ := Int.eq_ofNat_of_zero_le hmi.1
      rw [hmm] at hmi ⊢
      have hle := bit_le (s := s) (m := m) (by simpa using hmi.2.2)
      have e : wrap64 ((s : Int) - ((2 ^ m : Nat) : Int)) = ((s - 2 ^ m : Nat) : Int) := by
        generalize 2 ^ m = z at hle
        rw [wrap_id (by omega) (by omega)]; omega
      rw [if_pos rfl, if_pos (by omega), power_spec _ _ (by omega) (by omega), Option.bind_some, e, specOpens_spec _ l (Nat.le_refl _) hok _ _ (Nat.lt_of_le_of_lt (Nat.sub_le _ _) (by omega)) (by omega), Option.bind_some, ih k (i + 1) _ (by omega) hk, Int.toNat_natCast]
      simp
    | false =>
      rw [if_neg (by decide), ih k (i + 1) _ (by omega) hk]
      simp
theorem slo_l0 (l : S26) (hok : okM l) : ∀ (d k s : Nat) (acc : List (List Int)), s + d = 256 → acc.length ≤ s → 20 * d + fuM l + 200 < k →
    spec_LeastOpeners.l0 k acc (s : Int) l.f0 l.f1 l.f2 = some (acc ++ ((List.range' s d).filter (isLeastO (opM l))).map (mb 8 0)) := by
  have hp8 : ∀ k : Nat, 20 < k → spec_power.f k 8 = some 256 := fun k hk => power_spec k 8 (by omega) (by omega)
  intro d
  induction d with
  | zero =>
    intro k s acc hs ha hk
    obtain ⟨k, rfl, -⟩ := fuel (show 0 < k by omega)
    simp only [spec_LeastOpeners.l0]
    rw [hp8 k (by omega), Option.bind_some, if_neg (by omega)]; simp
  | succ d ih =>
    intro k s acc hs ha hk
    obtain ⟨k, rfl, hk⟩ := fuel (show 20 * (d + 1) + fuM l + 199 < k by omega)
    have hs2 : s < 256 := by omega
    have hml := mb_length 8 0 s
    simp only [spec_LeastOpeners.l0]
    rw [hp8 k (by omega), Option.bind_some, if_pos (by omega), specOpens_spec _ l (Nat.le_refl _) hok _ _ (by omega) (by omega), Option.bind_some, List.range'_succ, List.filter_cons]
    by_cases ho : opM l s = true
    · have h1 := slo_l1 l hok s hs2 acc (by omega) (mb 8 0 s) (mb_bits hs2) (by omega) (mb 8 0 s).length (k - (mb 8 0 s).length - 1) 0 true (by omega) (by omega)
      have e : k - (mb 8 0 s).length - 1 + (mb 8 0 s).length + 1 = k := by omega
      rw [e, List.drop_zero, wrap_succ (by omega), cast0] at h1
      rw [if_pos ho, membersOf_spec k 8 s (by omega) hs2 (by omega), Option.bind_some, h1]
      have hb : (true && (mb 8 0 s).all fun m => !opM l (s - 2 ^ m.toNat)) = isLeastO (opM l) s := by unfold isLeastO; rw [ho]
      rw [hb]
      cases hl : isLeastO (opM l) s with
      | true =>
        rw [if_pos rfl, if_pos rfl, ih _ (s + 1) (acc ++ [mb 8 0 s]) (by omega) (by simp; omega) (by omega)]
        simp
      | false =>
        rw [if_neg (by decide), if_neg (by decide), ih _ (s + 1) acc (by omega) (by omega) (by omega)]
    · have hl : isLeastO (opM l) s = false := by unfold isLeastO; simp at ho; rw [ho]; rfl
      rw [if_neg ho, hl, if_neg (by decide), wrap_succ (by omega), ih k (s + 1) acc (by omega) (by omega) (by omega)]
theorem cnt_zero : ∀ ms : List Int, cntM 0 ms = 0 := by
  intro ms
  induction ms with
  | nil => rfl
  | cons m ms ih => simp [cntM, ih]
theorem op_zero : ∀ (n : Nat) (l : S26), fuM l ≤ n → okM l → opM l 0 = false := by
  intro n
  induction n with
  | zero => intro l h; have := fuM_big l; omega
  | succ n ih =>
    intro l hl hok
    obtain ⟨need, ms, ks⟩ := l
    simp only [fuM] at hl
    obtain ⟨a1, a2, a3, a4, a5⟩ := (okM_mk _ _ _).1 hok
    have h2 : ∀ ls : List S26, (∀ l ∈ ls, l ∈ ks) → opK ls 0 = 0 := by
      intro ls
      induction ls with
      | nil => intro _; simp [opK]
      | cons x ls ih2 =>
        intro hsub
        have hx := hsub x (by simp)
        rw [opK_cons, ih x (by have := fuM_mem hx; omega) (okK_mem a5 hx), ih2 (fun y hy => hsub y (by simp [hy]))]; rfl
    rw [opM_mk, cnt_zero, h2 ks (fun _ h => h), decide_eq_false (by omega)]
theorem cnt_all : ∀ ms : List Int, (∀ m ∈ ms, 0 ≤ m ∧ m < 8) → cntM 255 ms = ms.length := by
  intro ms
  induction ms with
  | nil => intro _; rfl
  | cons m ms ih =>
    intro h
    have h1 := h m (by simp)
    have h2 : 255 / 2 ^ m.toNat % 2 = 1 := by
      obtain ⟨j, rfl⟩ := Int.eq_ofNat_of_zero_le h1.1
      have hj : j < 8 := by omega
      rw [Int.toNat_natCast]
      have : ∀ q : Fin 8, 255 / 2 ^ q.val % 2 = 1 := by decide
      exact this ⟨j, hj⟩
    simp only [cntM, List.length_cons, ih (fun x hx => h x (by simp [hx])), h2]
    omega
theorem op_all : ∀ (n : Nat) (l : S26), fuM l ≤ n → okM l → opM l 255 = true := by
  intro n
  induction n with
  | zero => intro l h; have := fuM_big l; omega
  | succ n ih =>
    intro l hl hok
    obtain ⟨need, ms, ks⟩ := l
    simp only [fuM] at hl
    obtain ⟨a1, a2, a3, a4, a5⟩ := (okM_mk _ _ _).1 hok
    have h2 : ∀ ls : List S26, (∀ l ∈ ls, l ∈ ks) → opK ls 255 = ls.length := by
      intro ls
      induction ls with
      | nil => intro _; simp [opK]
      | cons x ls ih2 =>
        intro hsub
        have hx := hsub x (by simp)
        rw [opK_cons, if_pos (ih x (by have := fuM_mem hx; omega) (okK_mem a5 hx)), ih2 (fun y hy => hsub y (by simp [hy])), List.length_cons]; omega
    rw [opM_mk, cnt_all ms a4.2, h2 ks (fun _ h => h), decide_eq_true (by omega)]
theorem specLO_spec (k : Nat) (l : S26) (hf : fuM l ≤ 1000000) (hk : fuM l + 10000 < k) : spec_LeastOpeners.f k l.f0 l.f1 l.f2 = some (if OkLock l then loM (opM l) else []) := by
  unfold spec_LeastOpeners.f
  rw [lockSize_spec _ l (Nat.le_refl _) hf k (by omega), Option.bind_some]
  by_cases h1 : OkLock l
  · have := slo_l0 l h1.1 255 k 1 [] (by omega) (by simp) (by omega)
    rw [if_pos h1, if_neg (by omega), if_pos h1]
    have e : List.range 256 = 0 :: List.range' 1 255 := by rw [List.range_eq_range']; rfl
    have h0 : isLeastO (opM l) 0 = false := by unfold isLeastO; rw [op_zero _ l (Nat.le_refl _) h1.1]; rfl
    unfold loM
    rw [e, List.filter_cons, h0, if_neg (by decide)]
    rw [List.nil_append] at this
    exact this
  · rw [if_neg h1, if_pos (by decide), if_neg h1]
theorem ind_mb {s : Nat} (hs : s < 256) : indB 8 (mb 8 0 s) = decB 8 s := by
  apply List.ext_getElem?
  intro j
  rcases Nat.lt_or_ge j 8 with h | h
  · rw [indB_at h, decB_get 8 s j h]
    congr 1
    rw [Bool.eq_iff_iff, decide_eq_true_eq, mb_bit hs j h]; simp
  · rw [List.getElem?_eq_none (by rw [indB_length]; exact h), List.getElem?_eq_none (by rw [decB_length]; exact h)]
theorem enc_mb {s : Nat} (hs : s < 256) : encB (indB 8 (mb 8 0 s)) = s := by rw [ind_mb hs, enc_dec 8 s hs]
theorem enc_without {s : Nat} (hs : s < 256) {i : Nat} (hi : i < (mb 8 0 s).length) : encB (indB 8 ((mb 8 0 s).take i ++ (mb 8 0 s).drop (i + 1))) = s - 2 ^ (rd (mb 8 0 s) (i : Int)).toNat := by
  have hmem := rd_mem hi
  have hb := mb_bits hs _ hmem
  have hnd := mb_nodup 8 0 s
  have hsp : mb 8 0 s = (mb 8 0 s).take i ++ (rd (mb 8 0 s) (i : Int) :: (mb 8 0 s).drop (i + 1)) := by rw [← drop_rd hi, List.take_append_drop]
  obtain ⟨m, hm⟩ := Int.eq_ofNat_of_zero_le hb.1
  rw [hm] at hb hsp hmem ⊢
  rw [Int.toNat_natCast] at hb ⊢
  have hset : indB 8 ((mb 8 0 s).take i ++ (mb 8 0 s).drop (i + 1)) = (indB 8 (mb 8 0 s)).set m false := by
    apply List.ext_getElem?
    intro j
    rcases Nat.lt_or_ge j 8 with h | h
    · rw [indB_at h, List.getElem?_set, indB_length, indB_at h]
      rw [hsp] at hnd
      rw [List.nodup_append] at hnd
      obtain ⟨n1, n2, n3⟩ := hnd
      rw [List.nodup_cons] at n2
      by_cases e : m = j
      · subst e
        rw [if_pos rfl, if_pos h, decide_eq_false]
        intro hx
        rcases List.mem_append.1 hx with hx | hx
        · exact n3 _ hx _ (by simp) rfl
        · exact n2.1 hx
      · rw [if_neg e]
        congr 1
        rw [decide_eq_decide]
        conv => rhs; rw [hsp]
        have e' : ¬ (j : Int) = (m : Int) := by omega
        simp [e']
    · rw [List.getElem?_eq_none (by rw [indB_length]; exact h), List.getElem?_eq_none (by simp [indB_length]; exact h)]
  rw [hset, encB_unset (by rw [indB_at (by omega)]; simp [hmem]), enc_mb hs]

/-! ### reader -/
/-- A pick: a number below the bound (0 where there is none), one place on. -/
theorem pick_spec (k : Nat) (hk : 1 ≤ k) (b : List Int) (hb : ∀ x ∈ b, 0 ≤ x ∧ x ≤ 255) (hl : b.length ≤ 2000) (p : Int) (hp0 : 0 ≤ p) (hp : p ≤ 1000000) (n : Int) (hn : n ≤ 1000000000000) :
    ∃ v, spec_reader_pick.f k b p n = some (v, p + 1) ∧ 0 ≤ v ∧ (0 < n → v < n) ∧ (n ≤ 0 → v = 0) := by
  obtain ⟨k, rfl, -⟩ := fuel hk
  have hw : wrap64 (p + 1) = p + 1 := wrap_succ' hp0 (by omega)
  have hw2 : wrap64 (p + 1 - 1) = p := by rw [wrap_id (by omega) (by omega)]; omega
  unfold spec_reader_pick.f
  rw [hw]
  by_cases h1 : n < 1
  · rw [if_pos h1]
    exact ⟨0, by simp [spec_reader_pick.j0], by omega, by omega, fun _ => rfl⟩
  · rw [if_neg h1]
    by_cases h2 : b.length = 0
    · have e : ((b.length : Int) == 0) = true := by simp [h2]
      rw [e]
      exact ⟨0, by simp [spec_reader_pick.j0], by omega, fun _ => by omega, fun _ => rfl⟩
    · have e : ((b.length : Int) == 0) = false := by rw [beq_eq_false_iff_ne]; omega
      rw [e]
      simp only [spec_reader_pick.j0]
      rw [if_neg (by decide), hw2]
      have rdb : ∀ i : Int, 0 ≤ i → i < (b.length : Int) → 0 ≤ rd b i ∧ rd b i ≤ 255 := fun i h0 h => hb _ (rd_mem' h0 h)
      by_cases h3 : p < (b.length : Int)
      · rw [if_pos h3, if_pos hp0, if_neg (by omega)]
        have hr := rdb p hp0 h3
        rw [wrap_id (x := rd b p) (by omega) (by omega), Int.tmod_eq_emod_of_nonneg hr.1]
        exact ⟨_, rfl, Int.emod_nonneg _ (by omega), fun _ => Int.emod_lt_of_pos _ (by omega), fun h => by omega⟩
      · have hL : (0 : Int) < (b.length : Int) := by omega
        have m1 := Int.emod_nonneg p (b := (b.length : Int)) (by omega)
        have m2 := Int.emod_lt_of_pos p hL
        have w7 : wrap64 (wrap64 (p * 7) + 3) = p * 7 + 3 := by rw [wrap_add_l, wrap_id (by omega) (by omega)]
        have m3 := Int.emod_nonneg (p * 7 + 3) (b := (b.length : Int)) (by omega)
        have m4 := Int.emod_lt_of_pos (p * 7 + 3) hL
        rw [if_neg h3, if_neg (by omega)]
        rw [w7]
        rw [Int.tmod_eq_emod_of_nonneg hp0, Int.tmod_eq_emod_of_nonneg (by omega : (0 : Int) ≤ p * 7 + 3)]
        rw [if_pos m1, if_pos m2, if_pos m3, if_pos m4, if_neg (by omega)]
        have r1 := rdb _ m1 m2
        have r2 := rdb _ m3 m4
        have hq : 0 ≤ Int.tdiv p (b.length : Int) ∧ Int.tdiv p (b.length : Int) ≤ p := by
          rw [Int.tdiv_eq_ediv_of_nonneg hp0]
          exact ⟨Int.ediv_nonneg hp0 (by omega), Int.ediv_le_self _ hp0⟩
        generalize rd b (p % (b.length : Int)) = x at *
        generalize rd b ((p * 7 + 3) % (b.length : Int)) = y at *
        generalize Int.tdiv p (b.length : Int) = q at *
        have hx : wrap64 x = x := wrap_id (by omega) (by omega)
        have hy : wrap64 y = y := wrap_id (by omega) (by omega)
        have hqq : wrap64 q = q := wrap_id (by omega) (by omega)
        rw [hx, hy, hqq]
        have e1 : wrap64 (x * 131) = x * 131 := wrap_id (by omega) (by omega)
        have e2 : wrap64 (y * 1117) = y * 1117 := wrap_id (by omega) (by omega)
        have e3 : wrap64 (p * 29) = p * 29 := wrap_id (by omega) (by omega)
        have e4 : wrap64 (q * 53) = q * 53 := wrap_id (by omega) (by omega)
        rw [e1, e2, e3, e4]
        have e5 : wrap64 (x * 131 + y * 1117) = x * 131 + y * 1117 := wrap_id (by omega) (by omega)
        rw [e5]
        have e6 : wrap64 (x * 131 + y * 1117 + p * 29) = x * 131 + y * 1117 + p * 29 := wrap_id (by omega) (by omega)
        rw [e6]
        have e7 : wrap64 (x * 131 + y * 1117 + p * 29 + q * 53) = x * 131 + y * 1117 + p * 29 + q * 53 := wrap_id (by omega) (by omega)
        rw [e7]
        have hz : 0 ≤ x * 131 + y * 1117 + p * 29 + q * 53 ∧ x * 131 + y * 1117 + p * 29 + q * 53 ≤ 1000000000 := by omega
        generalize x * 131 + y * 1117 + p * 29 + q * 53 = z at *
        have hz64 : 0 ≤ Int.tdiv z 64 ∧ Int.tdiv z 64 ≤ z := by
          rw [Int.tdiv_eq_ediv_of_nonneg hz.1]; omega
        rw [wrap_id (x := Int.tdiv z 64) (by omega) (by omega)]
        have hxor := bits_xor (a := z) (b := Int.tdiv z 64) hz.1 (by omega) hz64.1 (by omega)
        rw [Int.tmod_eq_emod_of_nonneg hxor.1]
        exact ⟨_, rfl, Int.emod_nonneg _ (by omega), fun _ => Int.emod_lt_of_pos _ (by omega), fun h => by omega⟩
/-- One of some numbers. -/
theorem one_spec (k : Nat) (hk : 1 ≤ k) (b : List Int) (hb : ∀ x ∈ b, 0 ≤ x ∧ x ≤ 255) (hl : b.length ≤ 2000) (p : Int) (hp0 : 0 ≤ p) (hp : p ≤ 1000000) (l : List Int) (hn0 : l ≠ []) (hn : l.length ≤ 1000000) :
    ∃ v, spec_reader_one.f k b p l = some (v, p + 1) ∧ v ∈ l := by
  have h0 : 0 < l.length := List.length_pos_iff.2 hn0
  obtain ⟨v, hv, h1, h2, -⟩ := pick_spec k hk b hb hl p hp0 hp (l.length : Int) (by omega)
  unfold spec_reader_one.f
  rw [hv]
  simp only [Option.bind_some]
  rw [if_pos h1, if_pos (h2 (by omega))]
  exact ⟨_, rfl, rd_mem' h1 (h2 (by omega))⟩
theorem reader_bytes {l : List Int} (h : ∀ x ∈ l, (Lit.int .u8 x).wf = true) : ∀ x ∈ l, 0 ≤ x ∧ x ≤ 255 := by
  intro x hx
  have := h x hx
  simp [Lit.wf, IntKind.min, IntKind.max, IntKind.bits, IntKind.signed] at this
  omega
/-- A reader of some code: its bytes. -/
theorem newReader_spec (l : List Int) (h : ∀ x ∈ l, 0 ≤ x ∧ x ≤ 255) : ∃ b : List Int, spec_newReader.f l = some (b, 0) ∧ (∀ x ∈ b, 0 ≤ x ∧ x ≤ 255) ∧ b.length ≤ 2000 := by
  unfold spec_newReader.f
  by_cases h1 : (l.length : Int) > 2000
  · rw [if_pos h1, if_pos (by omega)]
    exact ⟨_, rfl, fun x hx => h x (List.mem_of_mem_take hx), by simp; omega⟩
  · rw [if_neg h1]
    exact ⟨_, rfl, h, by omega⟩

/-! ### drawlock -/
theorem lock_l0 (b : List Int) (hb : ∀ x ∈ b, 0 ≤ x ∧ x ≤ 255) (hl : b.length ≤ 2000) (D need : Int) (R : Option (Int × List Int × (List S26) × Int) → Prop) (p0 : Int) (hp0 : 0 ≤ p0) (hp1 : p0 ≤ 10000) (K : Nat)
    (cont : ∀ (ms : List Int) (c k : Nat), ms.length ≤ 5 → c ≤ 2 → K ≤ k → R (spec_someLock.l1 k D (c : Int) b (p0 + 9) need ms [])) :
    ∀ (d k i : Nat) (ms : List Int), i + d = 8 → ms.length ≤ 5 → K + d + 1 < k → R (spec_someLock.l0 k D (i : Int) b (p0 + i) need ms) := by
  intro d
  induction d with
  | zero =>
    intro k i ms hi hm hk
    obtain ⟨k, rfl, hk⟩ := fuel (show K + 1 < k by omega)
    simp only [spec_someLock.l0]
    obtain ⟨z, hz, hmz⟩ := one_spec k (by omega) b hb hl (p0 + i) (by omega) (by omega) [0, 1, 2] (by simp) (by simp)
    have hz2 : 0 ≤ z ∧ z ≤ 2 := by simp at hmz; omega
    obtain ⟨z, rfl⟩ := Int.eq_ofNat_of_zero_le hz2.1
    rw [if_neg (by omega), hz, Option.bind_some]
    have := cont ms z k hm (by omega) (by omega)
    rw [show p0 + (i : Int) + 1 = p0 + 9 by omega]
    exact this
  | succ d ih =>
    intro k i ms hi hm hk
    obtain ⟨k, rfl, hk⟩ := fuel (show K + (d + 1) + 1 < k by omega)
    simp only [spec_someLock.l0]
    obtain ⟨v, hv, -⟩ := pick_spec k (by omega) b hb hl (p0 + i) (by omega) (by omega) 4 (by omega)
    rw [if_pos (by omega), hv, Option.bind_some, wrap_succ (by omega)]
    have e : p0 + (i : Int) + 1 = p0 + ((i + 1 : Nat) : Int) := by omega
    simp only [e]
    by_cases h : v = 0
    · rw [if_pos h]
      by_cases h2 : (ms.length : Int) < 5
      · rw [if_pos h2, if_pos (by omega)]
        exact ih k (i + 1) (ms ++ [(i : Int)]) (by omega) (by simp; omega) (by omega)
      · rw [if_neg h2]
        exact ih k (i + 1) ms (by omega) hm (by omega)
    · rw [if_neg h]
      exact ih k (i + 1) ms (by omega) hm (by omega)
theorem lock_j2 (b : List Int) (hb : ∀ x ∈ b, 0 ≤ x ∧ x ≤ 255) (hl : b.length ≤ 2000) (k : Nat) (hk : 2 < k) (p need : Int) (h0 : 0 ≤ p) (h1 : p ≤ 100000) (ms : List Int) (ks : List S26) (hm : ms.length ≤ 5) (hks : ks.length ≤ 10) :
    ∃ n ms' q, spec_someLock.j2 k b p need ms ks = some (n, ms', ks, q) ∧ ms'.length ≤ 5 ∧ p ≤ q ∧ q ≤ p + 2 := by
  obtain ⟨k, rfl, hk⟩ := fuel hk
  simp only [spec_someLock.j2]
  rw [wrap_id (x := (ms.length : Int) + (ks.length : Int)) (by omega) (by omega)]
  by_cases h : (ms.length : Int) + (ks.length : Int) = 0
  · obtain ⟨v, hv, -⟩ := pick_spec k (by omega) b hb hl p h0 (by omega) 8 (by omega)
    rw [if_pos h, hv, Option.bind_some, Option.bind_some]
    simp only
    have e : wrap64 ((([v] : List Int).length : Int) + (ks.length : Int)) = 1 + (ks.length : Int) := by rw [wrap_id (by simp; omega) (by simp; omega)]; simp
    rw [e]
    obtain ⟨u, hu, -⟩ := pick_spec k (by omega) b hb hl (p + 1) (by omega) (by omega) (1 + (ks.length : Int)) (by omega)
    rw [hu, Option.bind_some]
    exact ⟨_, _, _, rfl, by simp, by omega, by omega⟩
  · obtain ⟨v, hv, -⟩ := pick_spec k (by omega) b hb hl p h0 (by omega) ((ms.length : Int) + (ks.length : Int)) (by omega)
    rw [if_neg h, hv, Option.bind_some]
    exact ⟨_, _, _, rfl, hm, by omega, by omega⟩
def LockR (b : List Int) (p : Int) (T : Nat) (r : Option (Int × List Int × (List S26) × Int)) : Prop :=
  ∃ n ms ks q, r = some (n, ms, ks, q) ∧ ms.length ≤ 5 ∧ p ≤ q ∧ q ≤ p + 12 * T ∧ fuM (⟨n, ms, ks⟩ : S26) ≤ 80 * T
theorem fuK_snoc (ls : List S26) (l : S26) : fuK (ls ++ [l]) = fuK ls + (1 + fuM l) := by
  induction ls with
  | nil => simp [fuK]
  | cons x ls ih => simp only [List.cons_append, fuK, ih]; omega
theorem lock_l1 (b : List Int) (hb : ∀ x ∈ b, 0 ≤ x ∧ x ≤ 255) (hl : b.length ≤ 2000) (D : Nat) (hD : D ≤ 5) (T : Nat) (hT : 1 ≤ T) (hT2 : T ≤ 9) (K : Nat) (need p0 : Int) (hp0 : 0 ≤ p0) (hp1 : p0 ≤ 10000) (ms : List Int) (hm : ms.length ≤ 5)
    (kid : ∀ (k : Nat) (p : Int), K < k → 0 ≤ p → p ≤ p0 + 400 → LockR b p T (spec_someLock.f k b p (D : Int))) :
    ∀ (c k : Nat) (ks : List S26) (p : Int), ks.length + c ≤ 2 → fuK ks ≤ ks.length * (80 * T + 1) → p0 + 9 ≤ p → p ≤ p0 + 9 + (12 * T) * ks.length → K + c + 10 < k → LockR b p0 (3 * T) (spec_someLock.l1 k ((D + 1 : Nat) : Int) (c : Int) b p need ms ks) := by
  intro c
  induction c with
  | zero =>
    intro k ks p h1 h2 h3 h4 hk
    obtain ⟨k, rfl, hk⟩ := fuel (show K + 10 < k by omega)
    simp only [spec_someLock.l1]
    have hks : ks.length = 0 ∨ ks.length = 1 ∨ ks.length = 2 := by omega
    have h4' : p ≤ p0 + 9 + 24 * T := by rcases hks with h | h | h <;> rw [h] at h4 <;> simp at h4 <;> omega
    have h2' : fuK ks ≤ 160 * T + 2 := by rcases hks with h | h | h <;> rw [h] at h2 <;> omega
    obtain ⟨n, ms', q, j1, j2, j3, j4⟩ := lock_j2 b hb hl k (by omega) p need (by omega) (by omega) ms ks hm (by omega)
    rw [if_neg (by omega), j1]
    exact ⟨n, ms', ks, q, rfl, j2, by omega, by omega, by simp only [fuM]; omega⟩
  | succ c ih =>
    intro k ks p h1 h2 h3 h4 hk
    obtain ⟨k, rfl, hk⟩ := fuel (show K + 10 < k by omega)
    simp only [spec_someLock.l1]
    have hks : ks.length = 0 ∨ ks.length = 1 := by omega
    have h4' : p ≤ p0 + 9 + 12 * T := by rcases hks with h | h <;> rw [h] at h4 <;> simp at h4 <;> omega
    have e1 : wrap64 (((D + 1 : Nat) : Int) - 1) = (D : Int) := by rw [wrap_id (by omega) (by omega)]; omega
    have e2 : wrap64 (((c + 1 : Nat) : Int) - 1) = (c : Int) := by rw [wrap_id (by omega) (by omega)]; omega
    obtain ⟨n, ms1, ks1, q, hr, r1, r2, r3, r4⟩ := kid k p (by omega) (by omega) (by omega)
    rw [if_pos (by omega), if_pos (by omega), e1, hr, Option.bind_some, if_pos (by omega), e2]
    refine ih k (ks ++ [(⟨n, ms1, ks1⟩ : S26)]) q (by simp; omega) ?_ (by omega) ?_ (by omega)
    · rw [fuK_snoc, List.length_append, List.length_singleton]
      rcases hks with h | h <;> rw [h] at h2 ⊢ <;> omega
    · rw [List.length_append, List.length_singleton]
      rcases hks with h | h <;> rw [h] at h4 ⊢ <;> simp at h4 ⊢ <;> omega
theorem someLock_spec (b : List Int) (hb : ∀ x ∈ b, 0 ≤ x ∧ x ≤ 255) (hl : b.length ≤ 2000) : ∀ (D : Nat), D ≤ 2 → ∀ (k : Nat) (p : Int), 40 * (D + 1) < k → 0 ≤ p → p ≤ 9000 - 500 * D → LockR b p (3 ^ D) (spec_someLock.f k b p (D : Int)) := by
  intro D
  induction D with
  | zero =>
    intro _ k p hk h0 h1
    obtain ⟨k, rfl, hk⟩ := fuel hk
    simp only [spec_someLock.f]
    have := lock_l0 b hb hl ((0 : Nat) : Int) 0 (LockR b p (3 ^ 0)) p h0 (by omega) 20 (fun ms c k hm hc hk => by
      obtain ⟨k, rfl, hk⟩ := fuel (show 19 < k by omega)
      obtain ⟨n, ms', q, j1, j2, j3, j4⟩ := lock_j2 b hb hl k (by omega) (p + 9) 0 (by omega) (by omega) ms [] hm (by simp)
      simp only [spec_someLock.l1]
      have fin : LockR b p (3 ^ 0) (spec_someLock.j2 k b (p + 9) 0 ms []) := ⟨n, ms', [], q, j1, j2, by omega, by simp; omega, by simp [fuM, fuK]; omega⟩
      by_cases hc : (c : Int) > 0
      · rw [if_pos hc, if_neg (by omega)]; exact fin
      · rw [if_neg hc]; exact fin) 8 k 0 [] (by omega) (by simp) (by omega)
    simpa using this
  | succ D ih =>
    intro hD k p hk h0 h1
    obtain ⟨k, rfl, hk⟩ := fuel hk
    simp only [spec_someLock.f]
    have hT : 1 ≤ 3 ^ D ∧ 3 ^ D ≤ 9 := ⟨Nat.one_le_pow _ _ (by omega), by
      have : 3 ^ D ≤ 3 ^ 2 := Nat.pow_le_pow_right (by omega) (by omega)
      omega⟩
    have e : 3 ^ (D + 1) = 3 * 3 ^ D := by rw [Nat.pow_succ]; omega
    rw [e]
    have := lock_l0 b hb hl ((D + 1 : Nat) : Int) 0 (LockR b p (3 * 3 ^ D)) p h0 (by omega) (40 * (D + 1) + 13) (fun ms c k hm hc hk => 
      lock_l1 b hb hl D (by omega) (3 ^ D) hT.1 hT.2 (40 * (D + 1)) 0 p h0 (by omega) ms hm (fun k p' hk h0' h1' => ih (by omega) k p' hk h0' (by omega)) c k [] (p + 9) (by simp; omega) (by simp [fuK]) (by omega) (by simp) (by omega)) 8 k 0 [] (by omega) (by simp) (by omega)
    simpa using this
theorem anyLock_spec (b : List Int) (hb : ∀ x ∈ b, 0 ≤ x ∧ x ≤ 255) (hl : b.length ≤ 2000) (k : Nat) (hk : 200 < k) (p : Int) (h0 : 0 ≤ p) (h1 : p ≤ 1000) : ∃ n ms ks q, spec_anyLock.f k b p = some (n, ms, ks, q) ∧ p ≤ q ∧ q ≤ p + 200 ∧ fuM (⟨n, ms, ks⟩ : S26) ≤ 1000 := by
  unfold spec_anyLock.f
  obtain ⟨z, hz, hm⟩ := one_spec k (by omega) b hb hl p h0 (by omega) [2, 1, 0] (by simp) (by simp)
  have hz2 : 0 ≤ z ∧ z ≤ 2 := by simp at hm; omega
  obtain ⟨z, rfl⟩ := Int.eq_ofNat_of_zero_le hz2.1
  obtain ⟨n, ms, ks, q, r1, r2, r3, r4, r5⟩ := someLock_spec b hb hl z (by omega) k (p + 1) (by omega) (by omega) (by omega)
  have hT : 3 ^ z ≤ 9 := by
    have : 3 ^ z ≤ 3 ^ 2 := Nat.pow_le_pow_right (by omega) (by omega)
    omega
  generalize 3 ^ z = T at r4 r5 hT
  rw [hz, Option.bind_some]
  simp only
  rw [r1, Option.bind_some]
  simp only
  obtain ⟨v, hv, -⟩ := pick_spec k (by omega) b hb hl q (by omega) (by omega) 20 (by omega)
  rw [hv, Option.bind_some]
  simp only
  simp only [fuM] at r5 ⊢
  by_cases h2 : v = 0
  · obtain ⟨u, hu, -⟩ := one_spec k (by omega) b hb hl (q + 1) (by omega) (by omega) [0, 9] (by simp) (by simp)
    rw [if_pos h2, hu, Option.bind_some]
    exact ⟨u, ms, ks, _, rfl, by omega, by omega, by omega⟩
  · rw [if_neg h2]
    by_cases h3 : v = 1
    · obtain ⟨u, hu, -⟩ := one_spec k (by omega) b hb hl (q + 1) (by omega) (by omega) [8, (-1)] (by simp) (by simp)
      rw [if_pos h3, hu, Option.bind_some, if_pos (by omega)]
      exact ⟨n, ms ++ [u], ks, _, rfl, by omega, by omega, by simp; omega⟩
    · rw [if_neg h3]
      exact ⟨n, ms, ks, _, rfl, by omega, by omega, by omega⟩

/-! ### common -/
theorem equalInts_l0 (a b : List Int) (hl : a.length = b.length) (hb : a.length < 4611686018427387904) : ∀ (d k i : Nat), i + d = a.length → d < k → laws_equalInts.l0 k a b (i : Int) = some (decide (a.drop i = b.drop i)) := by
  intro d
  induction d with
  | zero =>
    intro k i hi hk
    obtain ⟨k, rfl, -⟩ := fuel hk
    simp only [laws_equalInts.l0]
    rw [if_neg (by omega), drop_end (by omega), drop_end (by omega)]
    simp
  | succ d ih =>
    intro k i hi hk
    obtain ⟨k, rfl, hk⟩ := fuel hk
    simp only [laws_equalInts.l0]
    rw [if_pos (by omega), if_pos (by omega), if_pos (by omega), wrap_succ (by omega), drop_rd (xs := a) (i := i) (by omega), drop_rd (xs := b) (i := i) (by omega)]
    by_cases e : rd a (i : Int) = rd b (i : Int)
    · rw [if_pos e, ih k (i + 1) (by omega) (by omega), e]; simp
    · rw [if_neg e]; simp [e]
theorem equalInts_spec (k : Nat) (a b : List Int) (hb : a.length < 4611686018427387904) (hk : a.length < k) : laws_equalInts.f k a b = some (decide (a = b)) := by
  unfold laws_equalInts.f
  by_cases h : a.length = b.length
  · rw [if_pos (by omega)]
    have := equalInts_l0 a b h hb a.length k 0 (by omega) hk
    simpa using this
  · rw [if_neg (by omega)]
    have : a ≠ b := fun e => h (by rw [e])
    simp [this]

/-! ### eqlists -/
theorem rdL_at {cs : List (List Int)} {i : Nat} (h : i < cs.length) : rd_L2 cs (i : Int) = cs[i] := by
  simp [rd_L2, List.getD_eq_getElem?_getD, List.getElem?_eq_getElem h]
theorem drop_rdL {cs : List (List Int)} {i : Nat} (h : i < cs.length) : cs.drop i = rd_L2 cs (i : Int) :: cs.drop (i + 1) := by
  rw [rdL_at h, List.drop_eq_getElem_cons h]
theorem eqLists_l0 (a b : List (List Int)) (hl : a.length = b.length) (hb : a.length < 4611686018427387904) (hr : ∀ c ∈ a, c.length ≤ 20) : ∀ (d k i : Nat), i + d = a.length → d + 30 < k → laws_equalLists.l0 k a b (i : Int) = some (decide (a.drop i = b.drop i)) := by
  intro d
  induction d with
  | zero =>
    intro k i hi hk
    obtain ⟨k, rfl, -⟩ := fuel (show 0 < k by omega)
    simp only [laws_equalLists.l0]
    rw [if_neg (by omega), drop_end (by omega), drop_end (by omega)]
    simp
  | succ d ih =>
    intro k i hi hk
    obtain ⟨k, rfl, hk⟩ := fuel (show d + 30 < k by omega)
    have hc := hr (rd_L2 a (i : Int)) (by rw [rdL_at (by omega)]; exact List.getElem_mem (by omega))
    simp only [laws_equalLists.l0]
    rw [if_pos (by omega), if_pos (by omega), if_pos (by omega), equalInts_spec _ _ _ (by omega) (by omega), Option.bind_some, wrap_succ (by omega), drop_rdL (cs := a) (i := i) (by omega), drop_rdL (cs := b) (i := i) (by omega)]
    by_cases e : rd_L2 a (i : Int) = rd_L2 b (i : Int)
    · rw [decide_eq_true e, if_pos rfl, ih k (i + 1) (by omega) (by omega), e]; simp
    · rw [decide_eq_false e, if_neg (by decide)]; simp [e]
theorem eqLists_spec (k : Nat) (a b : List (List Int)) (hb : a.length < 4611686018427387904) (hr : ∀ c ∈ a, c.length ≤ 20) (hk : a.length + 30 < k) : laws_equalLists.f k a b = some (decide (a = b)) := by
  unfold laws_equalLists.f
  by_cases h : a.length = b.length
  · rw [if_pos (by omega)]
    have := eqLists_l0 a b h hb hr a.length k 0 (by omega) hk
    simpa using this
  · rw [if_neg (by omega)]
    have : a ≠ b := fun e => h (by rw [e])
    simp [this]
theorem without_spec (c : List Int) (i : Nat) (h : i < c.length) (hc : c.length ≤ 1000) : laws_without.f c (i : Int) = some (c.take i ++ c.drop (i + 1)) := by
  unfold laws_without.f laws_join.f
  rw [if_pos (by omega), if_pos (by omega), wrap_succ (by omega), if_pos (by omega), if_pos (by omega), Option.bind_some, if_pos (by simp; omega), Option.bind_some, if_pos (by simp; omega), Option.bind_some, toNat_cast, toNat_cast]
  simp

/-! ### the law -/
theorem drawLO_spec (k : Nat) (hk : 300 < k) (l : List Int) (hl : ∀ x ∈ l, 0 ≤ x ∧ x ≤ 255) : ∃ (L : S26), spec_DrawLeastOpeners.f k l = some (L.f0, L.f1, L.f2) ∧ fuM L ≤ 1000 := by
  obtain ⟨b, h1, h2, h3⟩ := newReader_spec l hl
  obtain ⟨n, ms, ks, q, h4, h5, h6, h7⟩ := anyLock_spec b h2 h3 k (by omega) 0 (by omega) (by omega)
  unfold spec_DrawLeastOpeners.f
  rw [h1, Option.bind_some]
  simp only
  rw [h4, Option.bind_some]
  exact ⟨⟨n, ms, ks⟩, rfl, h7⟩
theorem numbers_l0 : ∀ (d k i : Nat), i + d = 8 → d < k → laws_numbers.l0 k 8 ((List.range i).map fun j : Nat => (j : Int)) (i : Int) = some ((List.range 8).map fun j : Nat => (j : Int)) := by
  intro d
  induction d with
  | zero =>
    intro k i hi hk
    obtain ⟨k, rfl, -⟩ := fuel hk
    simp only [laws_numbers.l0]
    rw [if_neg (by omega), show i = 8 by omega]
  | succ d ih =>
    intro k i hi hk
    obtain ⟨k, rfl, hk⟩ := fuel hk
    simp only [laws_numbers.l0]
    rw [if_pos (by omega), if_pos (by simp; omega), wrap_succ (by omega)]
    have := ih k (i + 1) (by omega) (by omega)
    rw [List.range_succ, List.map_append] at this
    exact this
theorem numbers_spec (k : Nat) (hk : 10 < k) : laws_numbers.f k 8 = some ((List.range 8).map fun j : Nat => (j : Int)) := by
  unfold laws_numbers.f
  exact numbers_l0 8 k 0 (by omega) (by omega)
theorem all_good : GoodM ((List.range 8).map fun j : Nat => (j : Int)) 8 := by decide
theorem all_enc : encB (indB 8 ((List.range 8).map fun j : Nat => (j : Int))) = 255 := by decide
theorem loM_cell {op : Nat → Bool} {i : Nat} (h : i < (loM op).length) : ∃ s, s < 256 ∧ isLeastO op s = true ∧ rd_L2 (loM op) (i : Int) = mb 8 0 s := by
  rw [rdL_at h]
  obtain ⟨s, hs, e⟩ := List.mem_map.1 (List.getElem_mem h)
  obtain ⟨h1, h2⟩ := List.mem_filter.1 hs
  exact ⟨s, List.mem_range.1 h1, h2, e.symm⟩
theorem loM_small (op : Nat → Bool) : (loM op).length ≤ 256 ∧ ∀ c ∈ loM op, c.length ≤ 12 := by
  constructor
  · unfold loM
    rw [List.length_map]
    have h1 := List.length_filter_le (isLeastO op) (List.range 256)
    rw [List.length_range] at h1
    exact h1
  · intro c hc
    obtain ⟨s, -, rfl⟩ := List.mem_map.1 hc
    have := mb_length 8 0 s
    omega
theorem loLaw_l1 (L : S26) (hL : OkLock L) (hf : fuM L ≤ 1000) (x : Nat) (hx : x < (loM (opM L)).length) : ∀ (d k i : Nat), i + d = (rd_L2 (loM (opM L)) (x : Int)).length → 10000 < k →
    laws_FnLeastOpeners.l1 (k + d + 1) (loM (opM L)) (x : Int) (i : Int) L.f0 L.f1 L.f2 = laws_FnLeastOpeners.l0 k (loM (opM L)) ((x + 1 : Nat) : Int) L.f0 L.f1 L.f2 := by
  obtain ⟨c1, c2⟩ := loM_small (opM L)
  obtain ⟨s, s1, s2, s3⟩ := loM_cell hx
  have hml := mb_length 8 0 s
  have hgood : GoodM (mb 8 0 s) 8 := mb_good (n := 8) s1
  unfold isLeastO at s2
  rw [Bool.and_eq_true, List.all_eq_true] at s2
  rw [s3]
  intro d
  induction d with
  | zero =>
    intro k i hi hk
    have hwin : opensM L (mb 8 0 s) = true := by
      unfold opensM
      rw [decide_eq_true hL, decide_eq_true hgood, enc_mb s1, s2.1]; rfl
    simp only [laws_FnLeastOpeners.l1]
    rw [if_pos (by omega), if_pos (by omega), s3, if_neg (by omega), implOpensF_spec _ _ _ (by omega) (by omega) (by omega), Option.bind_some, hwin, if_pos rfl, wrap_succ (by omega)]
  | succ d ih =>
    intro k i hi hk
    have hil : i < (mb 8 0 s).length := by omega
    have hlose : opensM L ((mb 8 0 s).take i ++ (mb 8 0 s).drop (i + 1)) = false := by
      have h1 := s2.2 _ (rd_mem hil)
      unfold opensM
      rw [enc_without s1 hil]
      simp at h1
      rw [h1]; simp
    have e : k + (d + 1) + 1 = (k + d + 1) + 1 := by omega
    rw [e]
    generalize hz : k + d + 1 = z
    simp only [laws_FnLeastOpeners.l1]
    subst hz
    rw [if_pos (by omega), if_pos (by omega), s3, if_pos (by omega), without_spec _ _ hil (by omega), Option.bind_some, implOpensF_spec _ _ _ (by simp; omega) (by omega) (by omega), Option.bind_some, hlose, if_neg (by decide), wrap_succ (by omega)]
    exact ih k (i + 1) (by omega) hk
theorem loLaw_l0 (L : S26) (hL : OkLock L) (hf : fuM L ≤ 1000) : ∀ (d k x : Nat), x + d = (loM (opM L)).length → 30 * d + 20000 < k →
    laws_FnLeastOpeners.l0 k (loM (opM L)) (x : Int) L.f0 L.f1 L.f2 = some true := by
  obtain ⟨c1, c2⟩ := loM_small (opM L)
  have hne : 0 < (loM (opM L)).length := by
    have h1 := (leastO_iff (opM L) ((List.range 8).map fun j : Nat => (j : Int)) all_good (fun s t h => opM_mono s t h _ L (Nat.le_refl _) hL.1)).1 (by rw [all_enc]; exact op_all _ L (Nat.le_refl _) hL.1)
    obtain ⟨c, hc, -⟩ := h1
    exact List.length_pos_of_mem hc
  intro d
  induction d with
  | zero =>
    intro k x hx hk
    obtain ⟨k, rfl, -⟩ := fuel (show 0 < k by omega)
    have hall : opensM L ((List.range 8).map fun j : Nat => (j : Int)) = true := by
      unfold opensM
      rw [decide_eq_true hL, decide_eq_true all_good, all_enc, op_all _ L (Nat.le_refl _) hL.1]; rfl
    simp only [laws_FnLeastOpeners.l0]
    rw [if_neg (by omega), if_pos (by omega), numbers_spec _ (by omega), Option.bind_some, implOpensF_spec _ _ _ (by simp) (by omega) (by omega), Option.bind_some, hall]
  | succ d ih =>
    intro k x hx hk
    obtain ⟨k, rfl, hk⟩ := fuel (show 30 * (d + 1) + 19999 < k by omega)
    have hxl : x < (loM (opM L)).length := by omega
    obtain ⟨s, s1, s2, s3⟩ := loM_cell hxl
    have hml := mb_length 8 0 s
    simp only [laws_FnLeastOpeners.l0]
    have a1 := loLaw_l1 L hL hf x hxl (rd_L2 (loM (opM L)) (x : Int)).length (k - (rd_L2 (loM (opM L)) (x : Int)).length - 1) 0 (by omega) (by rw [s3]; omega)
    rw [cast0, show k - (rd_L2 (loM (opM L)) (x : Int)).length - 1 + (rd_L2 (loM (opM L)) (x : Int)).length + 1 = k by rw [s3]; omega] at a1
    rw [if_pos (by omega), a1]
    exact ih _ (x + 1) (by omega) (by rw [s3]; omega)
theorem FnLeastOpeners : laws_FnLeastOpeners.Pure := by
  intro l _ _ hw
  refine ⟨3000000, ?_⟩
  unfold laws_FnLeastOpeners.f
  by_cases h0 : (l.length : Int) > 1048576
  · rw [if_pos h0]
  · rw [if_neg h0]
    obtain ⟨L, hd, h1⟩ := drawLO_spec 3000000 (by omega) l (reader_bytes hw)
    rw [hd, Option.bind_some]
    simp only
    rw [implLO_spec _ _ (by omega) (by omega), Option.bind_some, specLO_spec _ _ (by omega) (by omega), Option.bind_some]
    obtain ⟨c1, c2⟩ := loM_small (opM L)
    have hfacts : (if OkLock L then loM (opM L) else []).length ≤ 256 ∧ ∀ c ∈ (if OkLock L then loM (opM L) else []), c.length ≤ 20 := by
      by_cases h : OkLock L
      · rw [if_pos h]; exact ⟨c1, fun c hc => Nat.le_trans (c2 c hc) (by omega)⟩
      · rw [if_neg h]; simp
    obtain ⟨f1, f2⟩ := hfacts
    rw [eqLists_spec _ _ _ (by omega) f2 (by omega), Option.bind_some, decide_eq_true rfl, if_pos rfl, implValidLock_spec _ _ (by omega) (by omega), Option.bind_some]
    obtain ⟨k, hk⟩ : ∃ k, 3000000 = k + 1 := ⟨2999999, rfl⟩
    rw [hk]
    have hk2 : 2999998 < k := by omega
    clear hk
    simp only [laws_FnLeastOpeners.j0]
    by_cases h3 : OkLock L
    · rw [decide_eq_true h3, Bool.not_true, if_neg (by decide), if_pos h3]
      exact loLaw_l0 L h3 h1 (loM (opM L)).length k 0 (by omega) (by omega)
    · rw [decide_eq_false h3, Bool.not_false, if_pos rfl, specLO_spec _ _ (by omega) (by omega), Option.bind_some, eqLists_spec _ _ _ (by omega) f2 (by omega), Option.bind_some, decide_eq_true rfl]

end Go.Proofs.Ytlkcolomkhgjfaa.Pure
