/- The law FnExactReadMoney holds: the program's function answers as the reference does at every drawn input, and has the law's property; no condition. -/
import Derived.Test.YticjfhkbfnlcoaaDoorPFnExactReadMoneyx2
set_option linter.unusedVariables false
set_option linter.unusedSimpArgs false
namespace Go.Proofs.YticjfhkbfnlcoaaDoor.Pure
open Go.RowKit Go.Proofs.YticjfhkbfnlcoaaDoor.PFnExactReadMoney Go.Proofs.YticjfhkbfnlcoaaDoorW.PrintWords Go.Proofs.YticjfhkbfnlcoaaDoorW.PrintLast Go.Proofs.YticjfhkbfnlcoaaDoorW.PrintMore

/-! ### base -/
theorem fuel {k n : Nat} (h : n < k) : ∃ m, k = m + 1 ∧ n ≤ m := ⟨k - 1, by omega, by omega⟩
theorem wrap_id {x : Int} (h1 : -9223372036854775808 ≤ x) (h2 : x ≤ 9223372036854775807) : wrap64 x = x := by unfold wrap64; omega
theorem wrap_succ {i : Nat} (h : i < 4611686018427387904) : wrap64 ((i : Int) + 1) = ((i + 1 : Nat) : Int) := by unfold wrap64; omega
theorem wrap_succ' {i : Int} (h0 : 0 ≤ i) (h : i < 4611686018427387904) : wrap64 (i + 1) = i + 1 := by unfold wrap64; omega
theorem wrap_wrap (x : Int) : wrap64 (wrap64 x) = wrap64 x := by unfold wrap64; omega
theorem wrap_add_l (x y : Int) : wrap64 (wrap64 x + y) = wrap64 (x + y) := by unfold wrap64; omega
theorem wrap_add_r (x y : Int) : wrap64 (x + wrap64 y) = wrap64 (x + y) := by unfold wrap64; omega
theorem wrap_sub_l (x y : Int) : wrap64 (wrap64 x - y) = wrap64 (x - y) := by unfold wrap64; omega
theorem rd_get {xs : List Int} {i : Nat} (h : i < xs.length) : rd xs (i : Int) = xs[i] := by
  simp [rd, List.getD_eq_getElem?_getD, List.getElem?_eq_getElem h]
theorem drop_rd {xs : List Int} {i : Nat} (h : i < xs.length) : xs.drop i = rd xs (i : Int) :: xs.drop (i + 1) := by
  rw [rd_get h, List.drop_eq_getElem_cons h]
theorem drop_end {α : Type} {xs : List α} {i : Nat} (h : xs.length ≤ i) : xs.drop i = [] := List.drop_eq_nil_of_le h
theorem take_rd {xs : List Int} {i : Nat} (h : i < xs.length) : xs.take (i + 1) = xs.take i ++ [rd xs (i : Int)] := by
  rw [rd_get h, List.take_succ_eq_append_getElem h]
theorem rd_mem {xs : List Int} {i : Nat} (h : i < xs.length) : rd xs (i : Int) ∈ xs := by
  rw [rd_get h]; exact List.getElem_mem h
theorem rd_mem' {xs : List Int} {i : Int} (h0 : 0 ≤ i) (h : i < (xs.length : Int)) : rd xs i ∈ xs := by
  obtain ⟨j, rfl⟩ := Int.eq_ofNat_of_zero_le h0
  exact rd_mem (by omega)
theorem mem_rd {xs : List Int} {x : Int} (h : x ∈ xs) : ∃ i : Nat, i < xs.length ∧ rd xs (i : Int) = x := by
  obtain ⟨i, hi, he⟩ := List.getElem_of_mem h
  exact ⟨i, hi, by rw [rd_get hi, he]⟩
theorem ext_rd {xs ys : List Int} (hl : xs.length = ys.length) (h : ∀ i : Nat, i < xs.length → rd xs (i : Int) = rd ys (i : Int)) : xs = ys := by
  apply List.ext_getElem hl
  intro i h1 h2
  have := h i h1
  rwa [rd_get h1, rd_get h2] at this
theorem rd_set {xs : List Int} {i j : Nat} {v : Int} (hj : j < xs.length) : rd (xs.set i v) (j : Int) = if i = j then v else rd xs (j : Int) := by
  rw [rd_get (by simpa using hj), rd_get hj, List.getElem_set]
theorem rd_set_ne {xs : List Int} {i j : Nat} {v : Int} (h : i ≠ j) : rd (xs.set i v) (j : Int) = rd xs (j : Int) := by
  simp only [rd, List.getD_eq_getElem?_getD, Int.toNat_natCast, List.getElem?_set_ne h]
theorem rd_append_l {xs ys : List Int} {i : Nat} (h : i < xs.length) : rd (xs ++ ys) (i : Int) = rd xs (i : Int) := by
  rw [rd_get (by simp; omega), rd_get h, List.getElem_append_left h]
theorem rd_append_r {xs ys : List Int} {i : Nat} (h : xs.length ≤ i) (h2 : i < xs.length + ys.length) : rd (xs ++ ys) (i : Int) = rd ys ((i - xs.length : Nat) : Int) := by
  rw [rd_get (by simp; omega), rd_get (by omega), List.getElem_append_right h]
theorem rd_replicate {n i : Nat} {v : Int} (h : i < n) : rd (List.replicate n v) (i : Int) = v := by
  rw [rd_get (by simpa using h)]; simp
theorem rd_mapRange {n i : Nat} {f : Nat → Int} (h : i < n) : rd ((List.range n).map f) (i : Int) = f i := by
  rw [rd_get (by simpa using h)]; simp
theorem toNat_cast (i : Nat) : ((i : Int) : Int).toNat = i := by simp
theorem mx_max (a b : Int) : mx a b = max a b := by unfold mx; omega
theorem mn_min (a b : Int) : mn a b = min a b := by unfold mn; omega
theorem bits_xor {a b : Int} (ha : 0 ≤ a) (ha2 : a < 4611686018427387904) (hb : 0 ≤ b) (hb2 : b < 4611686018427387904) : 0 ≤ Go.bits .xor .i64 a b ∧ Go.bits .xor .i64 a b < 4611686018427387904 := by
  obtain ⟨a, rfl⟩ := Int.eq_ofNat_of_zero_le ha
  obtain ⟨b, rfl⟩ := Int.eq_ofNat_of_zero_le hb
  have h1 : a < 2 ^ 62 := by omega
  have h2 : b < 2 ^ 62 := by omega
  have h3 := Nat.xor_lt_two_pow h1 h2
  have e : Go.bits .xor .i64 (a : Int) (b : Int) = IntKind.i64.wrap (((BitVec.ofInt 64 (a : Int)) ^^^ (BitVec.ofInt 64 (b : Int))).toNat : Int) := rfl
  have ha' : (BitVec.ofInt 64 (a : Int)).toNat = a := by rw [BitVec.ofInt_natCast, BitVec.toNat_ofNat]; exact Nat.mod_eq_of_lt (by omega)
  have hb' : (BitVec.ofInt 64 (b : Int)).toNat = b := by rw [BitVec.ofInt_natCast, BitVec.toNat_ofNat]; exact Nat.mod_eq_of_lt (by omega)
  rw [e, BitVec.toNat_xor, ha', hb', IntKind.wrap_i64]
  omega
theorem cast0 : ((0 : Nat) : Int) = 0 := rfl
theorem w01 : wrap64 (0 + 1) = 1 := by unfold wrap64; omega
theorem w12 : wrap64 (1 + 1) = 2 := by unfold wrap64; omega
theorem w23 : wrap64 (2 + 1) = 3 := by unfold wrap64; omega
theorem w34 : wrap64 (3 + 1) = 4 := by unfold wrap64; omega
theorem w45 : wrap64 (4 + 1) = 5 := by unfold wrap64; omega

/-! ### money -/
def dig : Nat → List UInt8 → Option Nat
  | acc, [] => some acc
  | acc, c :: cs => if 48 ≤ c.toNat ∧ c.toNat ≤ 57 then dig (10 * acc + (c.toNat - 48)) cs else none
theorem dig_append : ∀ (xs ys : List UInt8) (a : Nat), dig a (xs ++ ys) = (dig a xs).bind fun v => dig v ys
  | [], ys, a => rfl
  | x :: xs, ys, a => by
    simp only [List.cons_append, dig]
    split
    · exact dig_append xs ys _
    · rfl
theorem dig_lt : ∀ (xs : List UInt8) (a v : Nat), dig a xs = some v → v < (a + 1) * 10 ^ xs.length
  | [], a, v, h => by simp only [dig] at h; rw [← Option.some.inj h]; simp
  | x :: xs, a, v, h => by
    simp only [dig] at h
    split at h
    · rename_i hx
      have h1 := dig_lt xs _ _ h
      rw [List.length_cons, Nat.pow_succ]
      refine Nat.lt_of_lt_of_le h1 ?_
      rw [Nat.mul_comm (10 ^ xs.length) 10, ← Nat.mul_assoc]
      exact Nat.mul_le_mul_right _ (by omega)
    · exact absurd h (by simp)
theorem dig_ge : ∀ (xs : List UInt8) (a v : Nat), dig a xs = some v → a * 10 ^ xs.length ≤ v
  | [], a, v, h => by simp only [dig] at h; rw [← Option.some.inj h]; simp
  | x :: xs, a, v, h => by
    simp only [dig] at h
    split at h
    · rename_i hx
      have h1 := dig_ge xs _ _ h
      rw [List.length_cons, Nat.pow_succ]
      refine Nat.le_trans ?_ h1
      rw [Nat.mul_comm (10 ^ xs.length) 10, ← Nat.mul_assoc]
      exact Nat.mul_le_mul_right _ (by omega)
    · exact absurd h (by simp)
theorem head_app {xs ys : List UInt8} (h : xs ≠ []) : (xs ++ ys).head? = xs.head? := by cases xs with | nil => exact absurd rfl h | cons x xs => rfl
theorem u8_of {c : UInt8} {d : Nat} (h : c.toNat = 48 + d) : UInt8.ofNat (48 + d) = c := by rw [← h]; simp
theorem u8_nat {d : Nat} (h : d < 200) : (UInt8.ofNat (48 + d)).toNat = 48 + d := by simp; omega
theorem dec_len_le : ∀ u : Nat, (Go.Lib.decDigits u).length ≤ u + 1 := by
  intro u
  induction u using Nat.strongRecOn with
  | _ u ih =>
    rw [Go.Lib.decDigits]
    split
    · simp
    · have := ih (u / 10) (by omega)
      simp only [List.length_append, List.length_singleton]
      omega
theorem dec_small {u : Nat} (h : u < 10) : Go.Lib.decDigits u = [UInt8.ofNat (48 + u)] := by rw [Go.Lib.decDigits, dif_pos h]
theorem dec_big {u : Nat} (h : ¬ u < 10) : Go.Lib.decDigits u = Go.Lib.decDigits (u / 10) ++ [UInt8.ofNat (48 + u % 10)] := by rw [Go.Lib.decDigits, dif_neg h]
theorem dec_ne : ∀ u : Nat, Go.Lib.decDigits u ≠ [] := by
  intro u
  by_cases h : u < 10
  · rw [dec_small h]; simp
  · rw [dec_big h]; simp
theorem dec_head : ∀ u : Nat, 10 ≤ u → (Go.Lib.decDigits u).head? ≠ some 48 := by
  intro u
  induction u using Nat.strongRecOn with
  | _ u ih =>
    intro h
    rw [dec_big (by omega), head_app (dec_ne _)]
    by_cases h1 : u / 10 < 10
    · rw [dec_small h1]
      intro h2
      have h3 := congrArg UInt8.toNat (Option.some.inj h2)
      rw [u8_nat (by omega)] at h3
      have : (48 : UInt8).toNat = 48 := rfl
      omega
    · exact ih (u / 10) (by omega) (by omega)
theorem dec_dig : ∀ u : Nat, dig 0 (Go.Lib.decDigits u) = some u := by
  intro u
  induction u using Nat.strongRecOn with
  | _ u ih =>
    by_cases h : u < 10
    · rw [dec_small h]
      simp only [dig, u8_nat (show u < 200 by omega)]
      rw [if_pos (by omega)]
      congr 1; omega
    · rw [dec_big h, dig_append, ih (u / 10) (by omega), Option.bind_some]
      simp only [dig, u8_nat (show u % 10 < 200 by omega)]
      rw [if_pos (by omega)]
      congr 1; omega
theorem dec_of_aux : ∀ (n : Nat) (T : List UInt8), T.length = n + 1 → ∀ u, dig 0 T = some u → (n = 0 ∨ T.head? ≠ some 48) → Go.Lib.decDigits u = T := by
  intro n
  induction n with
  | zero =>
    intro T hT u h _
    match T, hT with
    | [c], _ =>
      simp only [dig] at h
      split at h
      · rename_i hc
        have e : u = c.toNat - 48 := by have := Option.some.inj h; omega
        rw [dec_small (by omega), u8_of (c := c) (by omega)]
      · exact absurd h (by simp)
  | succ n ih =>
    intro T hT u h hh
    have hne : T ≠ [] := by intro e; rw [e] at hT; simp at hT
    obtain ⟨T', c, rfl⟩ : ∃ T' c, T = T' ++ [c] := ⟨T.dropLast, T.getLast hne, (List.dropLast_concat_getLast hne).symm⟩
    rw [List.length_append, List.length_singleton] at hT
    have hne' : T' ≠ [] := by intro e; rw [e] at hT; simp at hT
    rw [head_app hne'] at hh
    have hh' : T'.head? ≠ some 48 := by rcases hh with h1 | h1; · omega
                                        · exact h1
    rw [dig_append] at h
    cases hd : dig 0 T' with
    | none => rw [hd] at h; exact absurd h (by simp)
    | some u' =>
      rw [hd, Option.bind_some] at h
      simp only [dig] at h
      split at h
      · rename_i hc
        have e : u = 10 * u' + (c.toNat - 48) := (Option.some.inj h).symm
        have hi := ih T' (by omega) u' hd (Or.inr hh')
        have hu : 1 ≤ u' := by
          rcases Nat.eq_zero_or_pos u' with h0 | h0
          · subst h0
            rw [dec_small (by omega)] at hi
            rw [← hi] at hh'
            exact absurd rfl hh'
          · exact h0
        rw [dec_big (by omega), show u / 10 = u' by omega, hi, u8_of (c := c) (by omega)]
      · exact absurd h (by simp)
theorem dec_iff {T : List UInt8} {u : Nat} (hT : T ≠ []) (h : dig 0 T = some u) : Go.Lib.decDigits u = T ↔ (T.length = 1 ∨ T.head? ≠ some 48) := by
  constructor
  · intro e
    by_cases h1 : u < 10
    · left; rw [← e, dec_small h1]; rfl
    · right; rw [← e]; exact dec_head u (by omega)
  · intro h1
    have hl : 1 ≤ T.length := List.length_pos_iff.2 hT
    exact dec_of_aux (T.length - 1) T (by omega) u h (by rcases h1 with h1 | h1; · left; omega
                                                         · exact Or.inr h1)
def two (r : Nat) : List UInt8 := [UInt8.ofNat (48 + r / 10), UInt8.ofNat (48 + r % 10)]
def showL (v : Nat) : List UInt8 := if v > 1000000 then [] else Go.Lib.decDigits (v / 100) ++ [46] ++ two (v % 100)
theorem itoa_spec (m : Nat) (h : m ≤ 1000000) : strconv_Itoa_13.f (m : Int) = some ⟨(Go.Lib.decDigits m).toArray⟩ := by
  unfold strconv_Itoa_13.f Go.Lib.itoa
  rw [if_pos ⟨by omega, by omega⟩, if_neg (by omega), Int.toNat_natCast]
theorem ba_size (b : ByteArray) : b.size = b.data.toList.length := (Array.length_toList (xs := b.data)).symm
theorem ba_app (a b : ByteArray) : (a ++ b).data.toList = a.data.toList ++ b.data.toList := by rw [ByteArray.data_append, Array.toList_append]
theorem showM (k v : Nat) (hk : 0 < k) : ∃ b, impl_ShowMoney.f k (v : Int) = some b ∧ b.data.toList = showL v := by
  obtain ⟨k, rfl, -⟩ := fuel hk
  unfold impl_ShowMoney.f showL
  rw [if_neg (by omega)]
  simp only [impl_ShowMoney.j0]
  by_cases h : v > 1000000
  · rw [if_pos (by simp; omega), if_pos h]
    exact ⟨_, rfl, rfl⟩
  · have e1 : Int.tmod (v : Int) 100 = ((v % 100 : Nat) : Int) := by rw [Int.tmod_eq_emod_of_nonneg (by omega)]; omega
    have e2 : wrap64 (Int.tdiv (v : Int) 100) = ((v / 100 : Nat) : Int) := by rw [Int.tdiv_eq_ediv_of_nonneg (by omega), wrap_id (by omega) (by omega)]; omega
    have hl := dec_len_le (v / 100)
    rw [if_neg (by simp; omega), if_neg h, e1, e2, itoa_spec _ (by omega), Option.bind_some, itoa_spec _ (by omega)]
    by_cases h2 : v % 100 < 10
    · have s1 : (⟨(Go.Lib.decDigits (v % 100)).toArray⟩ : ByteArray).size = 1 := by rw [ba_size, dec_small h2]; rfl
      rw [if_pos (by rw [s1]; decide), if_pos (by rw [s1]; decide), Option.bind_some, if_pos (by rw [ba_size]; simp only [List.toList_toArray]; omega), if_pos (by rw [ba_size, ba_size, ba_app, ba_app, dec_small h2]; simp only [List.toList_toArray, List.length_append, List.length_cons, List.length_nil]; omega)]
      refine ⟨_, rfl, ?_⟩
      rw [ba_app, ba_app, ba_app, dec_small h2]
      simp only [two]
      rw [show v % 100 / 10 = 0 by omega, show v % 100 % 10 = v % 100 by omega]
      rfl
    · have e3 : Go.Lib.decDigits (v % 100) = two (v % 100) := by
        rw [dec_big h2, dec_small (by omega)]; rfl
      have s1 : (⟨(Go.Lib.decDigits (v % 100)).toArray⟩ : ByteArray).size = 2 := by rw [ba_size, e3]; rfl
      rw [if_neg (by rw [s1]; decide), Option.bind_some, if_pos (by rw [ba_size]; simp only [List.toList_toArray]; omega), if_pos (by rw [ba_size, ba_size, ba_app, e3]; simp only [List.toList_toArray, List.length_append, List.length_cons, List.length_nil, two]; omega)]
      refine ⟨_, rfl, ?_⟩
      rw [ba_app, ba_app, e3]
def remL (B : List UInt8) (i : Nat) : List UInt8 := if i ≤ B.length - 3 then (B.take (B.length - 3)).drop i ++ B.drop (B.length - 2) else B.drop i
theorem remL_skip {B : List UInt8} (h : 4 ≤ B.length) : remL B (B.length - 3) = remL B (B.length - 3 + 1) := by
  unfold remL
  rw [if_pos (Nat.le_refl _), if_neg (by omega), List.drop_eq_nil_of_le (by simp), List.nil_append]
  rw [show B.length - 3 + 1 = B.length - 2 by omega]
theorem remL_cons {B : List UInt8} {i : Nat} (h : 4 ≤ B.length) (hi : i < B.length) (hne : i ≠ B.length - 3) : remL B i = B[i] :: remL B (i + 1) := by
  unfold remL
  by_cases h1 : i ≤ B.length - 3
  · rw [if_pos h1, if_pos (by omega), List.drop_eq_getElem_cons (by simp; omega), List.getElem_take]; rfl
  · rw [if_neg h1, if_neg (by omega), List.drop_eq_getElem_cons hi]
theorem bt_get {s : ByteArray} {i : Nat} (h : i < s.data.toList.length) : bt s (i : Int) = ((s.data.toList[i].toNat : Nat) : Int) := by
  have h2 : i < s.size := by rw [ba_size]; exact h
  unfold bt
  simp only [Int.toNat_natCast]
  rw [dif_pos h2]
  rfl
theorem impl_l0 (s : ByteArray) (h4 : 4 ≤ s.data.toList.length) (h8 : s.data.toList.length ≤ 8) : ∀ (d k i acc : Nat), i + d = s.data.toList.length → d + 2 < k → acc < 10 ^ i →
    impl_ReadMoney.l0 k s (acc : Int) (s.size : Int) (i : Int) = match dig acc (remL s.data.toList i) with | none => some (-1) | some v => if showL v = s.data.toList then some (v : Int) else some (-1) := by
  have hsz := ba_size s
  intro d
  induction d with
  | zero =>
    intro k i acc hi hk ha
    obtain ⟨k, rfl, hk2⟩ := fuel (show 1 < k by omega)
    simp only [impl_ReadMoney.l0]
    obtain ⟨b, hb1, hb2⟩ := showM k acc (by omega)
    have e : remL s.data.toList i = [] := by
      unfold remL
      rw [if_neg (by omega), List.drop_eq_nil_of_le (by omega)]
    rw [if_neg (by omega), hb1, Option.bind_some, e]
    simp only [dig, ByteArray.toList_eq, hb2]
  | succ d ih =>
    intro k i acc hi hk ha
    obtain ⟨k, rfl, hk2⟩ := fuel (show d + 2 < k by omega)
    have hp : 10 ^ i ≤ 10 ^ 8 := Nat.pow_le_pow_right (by omega) (by omega)
    have hp2 : acc < 100000000 := Nat.lt_of_lt_of_le ha hp
    simp only [impl_ReadMoney.l0]
    rw [if_pos (by omega), wrap_id (x := (s.size : Int) - 3) (by omega) (by omega), wrap_succ (by omega)]
    by_cases h3 : i = s.data.toList.length - 3
    · rw [if_pos (by omega), ih k (i + 1) acc (by omega) (by omega) (Nat.lt_of_lt_of_le ha (Nat.pow_le_pow_right (by omega) (by omega)))]
      subst h3
      rw [remL_skip h4]
    · rw [if_neg (by omega), if_pos (by omega), if_pos (by omega), bt_get (by omega), remL_cons h4 (by omega) h3]
      simp only [dig]
      by_cases h5 : s.data.toList[i].toNat < 48
      · rw [if_pos (by omega), if_neg (by omega)]
      · rw [if_neg (by omega)]
        by_cases h6 : s.data.toList[i].toNat > 57
        · rw [if_pos (by omega), if_neg (by omega)]
        · rw [if_neg (by omega), if_pos (by omega), wrap_id (x := (acc : Int) * 10) (by omega) (by omega), wrap_id (by omega) (by omega)]
          have e : (acc : Int) * 10 + ((s.data.toList[i].toNat : Int) - 48) % 256 = ((10 * acc + (s.data.toList[i].toNat - 48) : Nat) : Int) := by omega
          rw [e]
          refine ih k (i + 1) _ (by omega) (by omega) ?_
          rw [Nat.pow_succ]
          generalize 10 ^ i = P at ha
          omega
theorem read_split (B : List UInt8) (h4 : 4 ≤ B.length) (hp : B[B.length - 3]'(by omega) = 46) : ∃ T p q, B = T ++ [46] ++ [p, q] ∧ T ≠ [] ∧ remL B 0 = T ++ [p, q] ∧ T.length = B.length - 3 ∧ T.head? = some (B[0]'(by omega)) := by
  have e1 : B.drop (B.length - 3) = 46 :: B.drop (B.length - 2) := by
    rw [List.drop_eq_getElem_cons (by omega), hp]
    congr 2; omega
  have e2 : B.drop (B.length - 2) = [B[B.length - 2]'(by omega), B[B.length - 1]'(by omega)] := by
    rw [List.drop_eq_getElem_cons (by omega), List.drop_eq_getElem_cons (by omega), List.drop_eq_nil_of_le (by omega)]
    congr 3; omega
  refine ⟨B.take (B.length - 3), B[B.length - 2]'(by omega), B[B.length - 1]'(by omega), ?_, ?_, ?_, by simp, ?_⟩
  · rw [← e2, List.append_assoc, List.singleton_append, ← e1, List.take_append_drop]
  · intro e; have := congrArg List.length e; simp at this; omega
  · unfold remL; rw [if_pos (by omega), List.drop_zero, e2]
  · rw [List.head?_take, if_neg (by omega), List.head?_eq_getElem?, List.getElem?_eq_getElem (by omega)]
theorem show_iff {B T : List UInt8} {p q : UInt8} {v : Nat} (hB : B = T ++ [46] ++ [p, q]) (hT : T ≠ []) (hv : dig 0 (T ++ [p, q]) = some v) : showL v = B ↔ (v ≤ 1000000 ∧ (T.length = 1 ∨ T.head? ≠ some 48)) := by
  rw [dig_append] at hv
  cases hd : dig 0 T with
  | none => rw [hd] at hv; exact absurd hv (by simp)
  | some u =>
    rw [hd, Option.bind_some] at hv
    simp only [dig] at hv
    split at hv
    · rename_i h1
      split at hv
      · rename_i h2
        have e := (Option.some.inj hv).symm
        have e1 : v / 100 = u := by omega
        have e2 : v % 100 = 10 * (p.toNat - 48) + (q.toNat - 48) := by omega
        have e3 : two (v % 100) = [p, q] := by
          unfold two
          rw [u8_of (c := p) (by omega), u8_of (c := q) (by omega)]
        unfold showL
        by_cases h : v > 1000000
        · rw [if_pos h]
          constructor
          · intro h3; rw [hB] at h3; simp at h3
          · intro h3; omega
        · rw [if_neg h, e1, e3, hB, ← dec_iff hT hd]
          constructor
          · intro h3
            exact ⟨by omega, List.append_cancel_right (List.append_cancel_right h3)⟩
          · intro h3; rw [h3.2]
      · exact absurd hv (by simp)
    · exact absurd hv (by simp)
def readI (B : List UInt8) : Int := match dig 0 (remL B 0) with | none => -1 | some v => if showL v = B then (v : Int) else -1
def impR (B : List UInt8) : Int := if h : 4 ≤ B.length ∧ B.length ≤ 8 then (if B[B.length - 3]'(by omega) = 46 then readI B else -1) else -1
theorem impl_read (k : Nat) (s : ByteArray) (hk : 100 < k) : impl_ReadMoney.f k s = some (impR s.data.toList) := by
  have hsz := ba_size s
  obtain ⟨k, rfl, hk2⟩ := fuel hk
  unfold impl_ReadMoney.f impR
  by_cases h1 : (s.size : Int) < 4
  · rw [if_pos h1, dif_neg (by omega)]; simp [impl_ReadMoney.j0]
  · rw [if_neg h1]
    by_cases h2 : (s.size : Int) > 8
    · rw [if_pos h2, dif_neg (by omega)]; simp [impl_ReadMoney.j0]
    · have hd : 4 ≤ s.data.toList.length ∧ s.data.toList.length ≤ 8 := ⟨by omega, by omega⟩
      have e : (s.size : Int) - 3 = ((s.data.toList.length - 3 : Nat) : Int) := by omega
      rw [if_neg h2, dif_pos hd, wrap_id (x := (s.size : Int) - 3) (by omega) (by omega), e, if_pos (by omega), if_pos (by omega), bt_get (by omega)]
      simp only [impl_ReadMoney.j0]
      by_cases h3 : s.data.toList[s.data.toList.length - 3]'(by omega) = 46
      · rw [if_pos h3, h3, if_neg (by decide)]
        have := impl_l0 s hd.1 hd.2 s.data.toList.length k 0 0 (by omega) (by omega) (by simp)
        simp only [Int.natCast_zero] at this
        rw [this]
        unfold readI
        split
        · rfl
        · split <;> rfl
      · have h4 : ((s.data.toList[s.data.toList.length - 3]'(by omega)).toNat : Int) ≠ 46 := by
          intro h5
          apply h3
          apply UInt8.toNat_inj.1
          have : (46 : UInt8).toNat = 46 := rfl
          omega
        rw [if_neg h3, if_pos (by simpa using h4)]

/-! ### the law -/
theorem spec_l0 (s : ByteArray) (h4 : 4 ≤ s.data.toList.length) (h8 : s.data.toList.length ≤ 10) : ∀ (d k i acc : Nat), i + d = s.data.toList.length → d + 2 < k → acc < 10 ^ i →
    spec_readMoney.l0 k s (acc : Int) (i : Int) = match dig acc (remL s.data.toList i) with | none => some (-1) | some v => if v > 1000000 then some (-1) else some (v : Int) := by
  have hsz := ba_size s
  intro d
  induction d with
  | zero =>
    intro k i acc hi hk ha
    obtain ⟨k, rfl, hk2⟩ := fuel (show 1 < k by omega)
    simp only [spec_readMoney.l0]
    have e : remL s.data.toList i = [] := by
      unfold remL
      rw [if_neg (by omega), List.drop_eq_nil_of_le (by omega)]
    rw [if_neg (by omega), e]
    simp only [dig]
    by_cases h : acc > 1000000
    · rw [if_pos h, if_pos (by omega)]
    · rw [if_neg h, if_neg (by omega)]
  | succ d ih =>
    intro k i acc hi hk ha
    obtain ⟨k, rfl, hk2⟩ := fuel (show d + 2 < k by omega)
    have hp : 10 ^ i ≤ 10 ^ 10 := Nat.pow_le_pow_right (by omega) (by omega)
    have hp2 : acc < 10000000000 := Nat.lt_of_lt_of_le ha hp
    simp only [spec_readMoney.l0]
    rw [if_pos (by omega), wrap_id (x := (s.size : Int) - 3) (by omega) (by omega), wrap_succ (by omega)]
    by_cases h3 : i = s.data.toList.length - 3
    · rw [if_pos (by omega), ih k (i + 1) acc (by omega) (by omega) (Nat.lt_of_lt_of_le ha (Nat.pow_le_pow_right (by omega) (by omega)))]
      subst h3
      rw [remL_skip h4]
    · rw [if_neg (by omega), if_pos (by omega), bt_get (by omega), remL_cons h4 (by omega) h3]
      simp only [dig]
      by_cases h5 : s.data.toList[i].toNat < 48
      · rw [if_pos (by omega), if_neg (by omega)]
      · rw [if_neg (by omega)]
        by_cases h6 : s.data.toList[i].toNat > 57
        · rw [if_pos (by omega), if_neg (by omega)]
        · rw [if_neg (by omega), if_pos (by omega), wrap_id (x := 10 * (acc : Int)) (by omega) (by omega), wrap_id (by omega) (by omega)]
          have e : 10 * (acc : Int) + ((s.data.toList[i].toNat : Int) - 48) % 256 = ((10 * acc + (s.data.toList[i].toNat - 48) : Nat) : Int) := by omega
          rw [e]
          refine ih k (i + 1) _ (by omega) (by omega) ?_
          rw [Nat.pow_succ]
          generalize 10 ^ i = P at ha
          omega
def readS (B : List UInt8) : Int := match dig 0 (remL B 0) with | none => -1 | some v => if v > 1000000 then -1 else (v : Int)
theorem u8_ne {c d : UInt8} (h : c ≠ d) : ((c.toNat : Nat) : Int) ≠ ((d.toNat : Nat) : Int) := by
  intro e
  exact h (UInt8.toNat_inj.1 (by omega))
def specR (B : List UInt8) : Int := if h : 4 ≤ B.length ∧ B.length ≤ 10 then (if B[B.length - 3]'(by omega) = 46 ∧ ¬ (B[0]'(by omega) = 48 ∧ 4 < B.length) then readS B else -1) else -1
theorem spec_read (k : Nat) (s : ByteArray) (hk : 100 < k) : spec_readMoney.f k s = some (specR s.data.toList) := by
  have hsz := ba_size s
  obtain ⟨k, rfl, hk2⟩ := fuel hk
  unfold spec_readMoney.f specR
  by_cases h1 : (s.size : Int) < 4
  · rw [if_pos h1, dif_neg (by omega)]; simp [spec_readMoney.j0]
  · rw [if_neg h1]
    by_cases h2 : (s.size : Int) > 10
    · rw [if_pos h2, dif_neg (by omega)]; simp [spec_readMoney.j0]
    · have hd : 4 ≤ s.data.toList.length ∧ s.data.toList.length ≤ 10 := ⟨by omega, by omega⟩
      have e : (s.size : Int) - 3 = ((s.data.toList.length - 3 : Nat) : Int) := by omega
      have hl : spec_readMoney.l0 k s 0 0 = some (readS s.data.toList) := by
        have := spec_l0 s hd.1 hd.2 s.data.toList.length k 0 0 (by omega) (by omega) (by simp)
        simp only [Int.natCast_zero] at this
        rw [this]
        unfold readS
        split
        · rfl
        · split <;> rfl
      rw [if_neg h2, dif_pos hd, wrap_id (x := (s.size : Int) - 3) (by omega) (by omega), e, if_pos (by omega), if_pos (by omega), bt_get (by omega)]
      simp only [spec_readMoney.j0]
      by_cases h3 : s.data.toList[s.data.toList.length - 3]'(by omega) = 46
      · have h0 := bt_get (s := s) (i := 0) (by omega)
        simp only [Int.natCast_zero] at h0
        rw [h3, if_pos (by decide), if_pos (by omega), h0]
        by_cases h4 : s.data.toList[0]'(by omega) = 48
        · rw [if_pos (by rw [h4]; rfl)]
          by_cases h5 : 4 < s.data.toList.length
          · rw [if_pos (by simp; omega), if_neg (by rintro ⟨-, h6⟩; exact h6 ⟨h4, h5⟩)]
          · rw [if_neg (by simp; omega), if_pos ⟨rfl, fun h6 => h5 h6.2⟩, hl]
        · have h4' : (((s.data.toList[0]'(by omega)).toNat : Nat) : Int) ≠ 48 := u8_ne h4
          rw [if_neg h4', if_neg (by simp), if_pos ⟨rfl, fun h6 => h4 h6.1⟩, hl]
      · have h3' : (((s.data.toList[s.data.toList.length - 3]'(by omega)).toNat : Nat) : Int) ≠ 46 := u8_ne h3
        rw [if_neg h3', if_pos trivial, if_neg (fun h6 => h3 h6.1)]
theorem same_list (B : List UInt8) : specR B = impR B := by
  unfold specR impR
  by_cases h4 : 4 ≤ B.length
  · by_cases h8 : B.length ≤ 8
    · rw [dif_pos ⟨h4, by omega⟩, dif_pos ⟨h4, h8⟩]
      by_cases h3 : B[B.length - 3]'(by omega) = 46
      · obtain ⟨T, p, q, e1, e2, e3, e4, e5⟩ := read_split B h4 h3
        rw [if_pos h3]
        unfold readI readS
        cases hv : dig 0 (remL B 0) with
        | none => simp
        | some v =>
          simp only []
          have hi := show_iff e1 e2 (by rw [← e3]; exact hv)
          by_cases h5 : B[0]'(by omega) = 48 ∧ 4 < B.length
          · rw [if_neg (by rintro ⟨-, h6⟩; exact h6 h5), if_neg]
            intro h6
            rcases (hi.1 h6).2 with h7 | h7
            · omega
            · rw [e5, h5.1] at h7; exact h7 rfl
          · rw [if_pos ⟨h3, h5⟩]
            by_cases h6 : v > 1000000
            · rw [if_pos h6, if_neg]
              intro h7
              have := (hi.1 h7).1
              omega
            · rw [if_neg h6, if_pos]
              refine hi.2 ⟨by omega, ?_⟩
              by_cases h7 : B[0]'(by omega) = 48
              · left
                have : ¬ 4 < B.length := fun h8 => h5 ⟨h7, h8⟩
                omega
              · right
                rw [e5]
                intro h8
                exact h7 (Option.some.inj h8)
      · rw [if_neg h3, if_neg (fun h => h3 h.1)]
    · rw [dif_neg (show ¬(4 ≤ B.length ∧ B.length ≤ 8) from fun h => h8 h.2)]
      by_cases h10 : B.length ≤ 10
      · rw [dif_pos ⟨h4, h10⟩]
        by_cases h3 : B[B.length - 3]'(by omega) = 46 ∧ ¬ (B[0]'(by omega) = 48 ∧ 4 < B.length)
        · rw [if_pos h3]
          have hne : B[0]'(by omega) ≠ 48 := fun h => h3.2 ⟨h, by omega⟩
          obtain ⟨T, p, q, e1, e2, e3, e4, e5⟩ := read_split B h4 h3.1
          unfold readS
          cases hv : dig 0 (remL B 0) with
          | none => rfl
          | some v =>
            simp only []
            rw [if_pos]
            obtain ⟨c, T', rfl⟩ : ∃ c T', T = c :: T' := by
              cases T with
              | nil => exact absurd rfl e2
              | cons c T' => exact ⟨c, T', rfl⟩
            simp only [List.head?_cons, Option.some.injEq] at e5
            rw [e3] at hv
            simp only [List.cons_append, dig] at hv
            split at hv
            · rename_i hc
              have hg := dig_ge _ _ _ hv
              have hcn : c.toNat ≠ 48 := fun h => hne (by rw [← e5]; exact UInt8.toNat_inj.1 h)
              have hlen : 7 ≤ (T' ++ [p, q]).length := by simp only [List.length_append, List.length_cons, List.length_nil] at e4 ⊢; omega
              have hp : 10 ^ 7 ≤ 10 ^ (T' ++ [p, q]).length := Nat.pow_le_pow_right (by omega) hlen
              have h1 : 1 * 10 ^ 7 ≤ (10 * 0 + (c.toNat - 48)) * 10 ^ (T' ++ [p, q]).length := Nat.mul_le_mul (by omega) hp
              have h2 := Nat.le_trans h1 hg
              have h5 : 1 * 10 ^ 7 = 10000000 := rfl
              omega
            · exact absurd hv (by simp)
        · rw [if_neg h3]
      · rw [dif_neg (fun h => h10 h.2)]
  · rw [dif_neg (fun h => h4 h.1), dif_neg (fun h => h4 h.1)]
theorem read_same (k : Nat) (s : ByteArray) (hk : 100 < k) : spec_readMoney.f k s = impl_ReadMoney.f k s := by
  rw [spec_read k s hk, impl_read k s hk, same_list]
theorem FnExactReadMoney : laws_FnExactReadMoney.Pure := by
  intro a0 h
  refine ⟨200, ?_⟩
  unfold laws_FnExactReadMoney.f
  by_cases h1 : (a0.size : Int) > 1048576
  · rw [if_pos h1]
  · rw [if_neg h1]
    unfold spec_ReadMoney.f
    rw [read_same 200 a0 (by omega)]
    have := impl_read 200 a0 (by omega)
    rw [this, Option.bind_some, Option.bind_some, Option.bind_some, if_pos rfl]

end Go.Proofs.YticjfhkbfnlcoaaDoor.Pure
