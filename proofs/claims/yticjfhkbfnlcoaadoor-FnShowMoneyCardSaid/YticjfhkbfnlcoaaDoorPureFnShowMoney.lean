/- The law FnShowMoney holds: the program's function answers as the reference does at every drawn input, and has the law's property; no condition. -/
import Derived.Test.YticjfhkbfnlcoaaDoorPFnShowMoneyx3
set_option linter.unusedVariables false
set_option linter.unusedSimpArgs false
namespace Go.Proofs.YticjfhkbfnlcoaaDoor.Pure
open Go.RowKit Go.Proofs.YticjfhkbfnlcoaaDoor.PFnShowMoney Go.Proofs.YticjfhkbfnlcoaaDoorW.PrintWords Go.Proofs.YticjfhkbfnlcoaaDoorW.PrintLast Go.Proofs.YticjfhkbfnlcoaaDoorW.PrintMore

/-! ### base -/
theorem fuel {k n : Nat} (h : n < k) : ∃ m, k = m + 1 ∧ n ≤ m := ⟨k - 1, by omega, by omega⟩
theorem wrap_id {x : Int} (h1 : -9223372036854775808 ≤ x) (h2 : x ≤ 9223372036854775807) : wrap64 x = x := by unfold wrap64; omega
theorem wrap_succ {i : Nat} (h : i < 4611686018427387904) : wrap64 ((i : Int) + 1) = ((i + 1 : Nat) : Int) := by unfold wrap64; omega
theorem wrap_succ' {i : Int} (h0 : 0 ≤ i) (h : i < 4611686018427387904) : wrap64 (i + 1) = i + 1 := by unfold wrap64; omega
theorem wrap_wrap (x : Int) : wrap64 (wrap64 x) = wrap64 x := by unfold wrap64; omega
theorem wrap_add_l (x y : Int) : wrap64 (wrap64 x + y) = wrap64 (x + y) := by unfold wrap64; omega
theorem wrap_add_r (x y : Int) : wrap64 (x + wrap64 y) = wrap64 (x + y) := by unfold wrap64; omega
theorem wrap_sub_l (x y : Int) : wrap64 (wrap64 x - y) = wrap64 (x - y) := by unfold wrap64; omega
theorem rd_get {xs : List Int} {i : Nat} (h : i < xs.length) : rd xs (i : Int) = xs[i] := by
  simp [rd, List.getD_eq_getElem?_getD, List.getElem?_eq_getElem h]
theorem drop_rd {xs : List Int} {i : Nat} (h : i < xs.length) : xs.drop i = rd xs (i : Int) :: xs.drop (i + 1) := by
  rw [rd_get h, List.drop_eq_getElem_cons h]
theorem drop_end {α : Type} {xs : List α} {i : Nat} (h : xs.length ≤ i) : xs.drop i = [] := List.drop_eq_nil_of_le h
theorem take_rd {xs : List Int} {i : Nat} (h : i < xs.length) : xs.take (i + 1) = xs.take i ++ [rd xs (i : Int)] := by
  rw [rd_get h, List.take_succ_eq_append_getElem h]
theorem rd_mem {xs : List Int} {i : Nat} (h : i < xs.length) : rd xs (i : Int) ∈ xs := by
  rw [rd_get h]; exact List.getElem_mem h
theorem rd_mem' {xs : List Int} {i : Int} (h0 : 0 ≤ i) (h : i < (xs.length : Int)) : rd xs i ∈ xs := by
  obtain ⟨j, rfl⟩ := Int.eq_ofNat_of_zero_le h0
  exact rd_mem (by omega)
theorem mem_rd {xs : List Int} {x : Int} (h : x ∈ xs) : ∃ i : Nat, i < xs.length ∧ rd xs (i : Int) = x := by
  obtain ⟨i, hi, he⟩ := List.getElem_of_mem h
  exact ⟨i, hi, by rw [rd_get hi, he]⟩
theorem ext_rd {xs ys : List Int} (hl : xs.length = ys.length) (h : ∀ i : Nat, i < xs.length → rd xs (i : Int) = rd ys (i : Int)) : xs = ys := by
  apply List.ext_getElem hl
  intro i h1 h2
  have := h i h1
  rwa [rd_get h1, rd_get h2] at this
theorem rd_set {xs : List Int} {i j : Nat} {v : Int} (hj : j < xs.length) : rd (xs.set i v) (j : Int) = if i = j then v else rd xs (j : Int) := by
  rw [rd_get (by simpa using hj), rd_get hj, List.getElem_set]
theorem rd_set_ne {xs : List Int} {i j : Nat} {v : Int} (h : i ≠ j) : rd (xs.set i v) (j : Int) = rd xs (j : Int) := by
  simp only [rd, List.getD_eq_getElem?_getD, Int.toNat_natCast, List.getElem?_set_ne h]
theorem rd_append_l {xs ys : List Int} {i : Nat} (h : i < xs.length) : rd (xs ++ ys) (i : Int) = rd xs (i : Int) := by
  rw [rd_get (by simp; omega), rd_get h, List.getElem_append_left h]
theorem rd_append_r {xs ys : List Int} {i : Nat} (h : xs.length ≤ i) (h2 : i < xs.length + ys.length) : rd (xs ++ ys) (i : Int) = rd ys ((i - xs.length : Nat) : Int) := by
  rw [rd_get (by simp; omega), rd_get (by omega), List.getElem_append_right h]
theorem rd_replicate {n i : Nat} {v : Int} (h : i < n) : rd (List.replicate n v) (i : Int) = v := by
  rw [rd_get (by simpa using h)]; simp
theorem rd_mapRange {n i : Nat} {f : Nat → Int} (h : i < n) : rd ((List.range n).map f) (i : Int) = f i := by
  rw [rd_get (by simpa using h)]; simp
theorem toNat_cast (i : Nat) : ((i : Int) : Int).toNat = i := by simp
theorem mx_max (a b : Int) : mx a b = max a b := by unfold mx; omega
theorem mn_min (a b : Int) : mn a b = min a b := by unfold mn; omega
theorem bits_xor {a b : Int} (ha : 0 ≤ a) (ha2 : a < 4611686018427387904) (hb : 0 ≤ b) (hb2 : b < 4611686018427387904) : 0 ≤ Go.bits .xor .i64 a b ∧ Go.bits .xor .i64 a b < 4611686018427387904 := by
  obtain ⟨a, rfl⟩ := Int.eq_ofNat_of_zero_le ha
  obtain ⟨b, rfl⟩ := Int.eq_ofNat_of_zero_le hb
  have h1 : a < 2 ^ 62 := by omega
  have h2 : b < 2 ^ 62 := by omega
  have h3 := Nat.xor_lt_two_pow h1 h2
  have e : Go.bits .xor .i64 (a : Int) (b : Int) = IntKind.i64.wrap (((BitVec.ofInt 64 (a : Int)) ^^^ (BitVec.ofInt 64 (b : Int))).toNat : Int) := rfl
  have ha' : (BitVec.ofInt 64 (a : Int)).toNat = a := by rw [BitVec.ofInt_natCast, BitVec.toNat_ofNat]; exact Nat.mod_eq_of_lt (by omega)
  have hb' : (BitVec.ofInt 64 (b : Int)).toNat = b := by rw [BitVec.ofInt_natCast, BitVec.toNat_ofNat]; exact Nat.mod_eq_of_lt (by omega)
  rw [e, BitVec.toNat_xor, ha', hb', IntKind.wrap_i64]
  omega
theorem cast0 : ((0 : Nat) : Int) = 0 := rfl
theorem w01 : wrap64 (0 + 1) = 1 := by unfold wrap64; omega
theorem w12 : wrap64 (1 + 1) = 2 := by unfold wrap64; omega
theorem w23 : wrap64 (2 + 1) = 3 := by unfold wrap64; omega
theorem w34 : wrap64 (3 + 1) = 4 := by unfold wrap64; omega
theorem w45 : wrap64 (4 + 1) = 5 := by unfold wrap64; omega

/-! ### money -/
def dig : Nat → List UInt8 → Option Nat
  | acc, [] => some acc
  | acc, c :: cs => if 48 ≤ c.toNat ∧ c.toNat ≤ 57 then dig (10 * acc + (c.toNat - 48)) cs else none
theorem dig_append : ∀ (xs ys : List UInt8) (a : Nat), dig a (xs ++ ys) = (dig a xs).bind fun v => dig v ys
  | [], ys, a => rfl
  | x :: xs, ys, a => by
    simp only [List.cons_append, dig]
    split
    · exact dig_append xs ys _
    · rfl
theorem dig_lt : ∀ (xs : List UInt8) (a v : Nat), dig a xs = some v → v < (a + 1) * 10 ^ xs.length
  | [], a, v, h => by simp only [dig] at h; rw [← Option.some.inj h]; simp
  | x :: xs, a, v, h => by
    simp only [dig] at h
    split at h
    · rename_i hx
      have h1 := dig_lt xs _ _ h
      rw [List.length_cons, Nat.pow_succ]
      refine Nat.lt_of_lt_of_le h1 ?_
      rw [Nat.mul_comm (10 ^ xs.length) 10, ← Nat.mul_assoc]
      exact Nat.mul_le_mul_right _ (by omega)
    · exact absurd h (by simp)
theorem dig_ge : ∀ (xs : List UInt8) (a v : Nat), dig a xs = some v → a * 10 ^ xs.length ≤ v
  | [], a, v, h => by simp only [dig] at h; rw [← Option.some.inj h]; simp
  | x :: xs, a, v, h => by
    simp only [dig] at h
    split at h
    · rename_i hx
      have h1 := dig_ge xs _ _ h
      rw [List.length_cons, Nat.pow_succ]
      refine Nat.le_trans ?_ h1
      rw [Nat.mul_comm (10 ^ xs.length) 10, ← Nat.mul_assoc]
      exact Nat.mul_le_mul_right _ (by omega)
    · exact absurd h (by simp)
theorem head_app {xs ys : List UInt8} (h : xs ≠ []) : (xs ++ ys).head? = xs.head? := by cases xs with | nil => exact absurd rfl h | cons x xs => rfl
theorem u8_of {c : UInt8} {d : Nat} (h : c.toNat = 48 + d) : UInt8.ofNat (48 + d) = c := by rw [← h]; simp
theorem u8_nat {d : Nat} (h : d < 200) : (UInt8.ofNat (48 + d)).toNat = 48 + d := by simp; omega
theorem dec_len_le : ∀ u : Nat, (Go.Lib.decDigits u).length ≤ u + 1 := by
  intro u
  induction u using Nat.strongRecOn with
  | _ u ih =>
    rw [Go.Lib.decDigits]
    split
    · simp
    · have := ih (u / 10) (by omega)
      simp only [List.length_append, List.length_singleton]
      omega
theorem dec_small {u : Nat} (h : u < 10) : Go.Lib.decDigits u = [UInt8.ofNat (48 + u)] := by rw [Go.Lib.decDigits, dif_pos h]
theorem dec_big {u : Nat} (h : ¬ u < 10) : Go.Lib.decDigits u = Go.Lib.decDigits (u / 10) ++ [UInt8.ofNat (48 + u % 10)] := by rw [Go.Lib.decDigits, dif_neg h]
theorem dec_ne : ∀ u : Nat, Go.Lib.decDigits u ≠ [] := by
  intro u
  by_cases h : u < 10
  · rw [dec_small h]; simp
  · rw [dec_big h]; simp
theorem dec_head : ∀ u : Nat, 10 ≤ u → (Go.Lib.decDigits u).head? ≠ some 48 := by
  intro u
  induction u using Nat.strongRecOn with
  | _ u ih =>
    intro h
    rw [dec_big (by omega), head_app (dec_ne _)]
    by_cases h1 : u / 10 < 10
    · rw [dec_small h1]
      intro h2
      have h3 := congrArg UInt8.toNat (Option.some.inj h2)
      rw [u8_nat (by omega)] at h3
      have : (48 : UInt8).toNat = 48 := rfl
      omega
    · exact ih (u / 10) (by omega) (by omega)
theorem dec_dig : ∀ u : Nat, dig 0 (Go.Lib.decDigits u) = some u := by
  intro u
  induction u using Nat.strongRecOn with
  | _ u ih =>
    by_cases h : u < 10
    · rw [dec_small h]
      simp only [dig, u8_nat (show u < 200 by omega)]
      rw [if_pos (by omega)]
      congr 1; omega
    · rw [dec_big h, dig_append, ih (u / 10) (by omega), Option.bind_some]
      simp only [dig, u8_nat (show u % 10 < 200 by omega)]
      rw [if_pos (by omega)]
      congr 1; omega
theorem dec_of_aux : ∀ (n : Nat) (T : List UInt8), T.length = n + 1 → ∀ u, dig 0 T = some u → (n = 0 ∨ T.head? ≠ some 48) → Go.Lib.decDigits u = T := by
  intro n
  induction n with
  | zero =>
    intro T hT u h _
    match T, hT with
    | [c], _ =>
      simp only [dig] at h
      split at h
      · rename_i hc
        have e : u = c.toNat - 48 := by have := Option.some.inj h; omega
        rw [dec_small (by omega), u8_of (c := c) (by omega)]
      · exact absurd h (by simp)
  | succ n ih =>
    intro T hT u h hh
    have hne : T ≠ [] := by intro e; rw [e] at hT; simp at hT
    obtain ⟨T', c, rfl⟩ : ∃ T' c, T = T' ++ [c] := ⟨T.dropLast, T.getLast hne, (List.dropLast_concat_getLast hne).symm⟩
    rw [List.length_append, List.length_singleton] at hT
    have hne' : T' ≠ [] := by intro e; rw [e] at hT; simp at hT
    rw [head_app hne'] at hh
    have hh' : T'.head? ≠ some 48 := by rcases hh with h1 | h1; · omega
                                        · exact h1
    rw [dig_append] at h
    cases hd : dig 0 T' with
    | none => rw [hd] at h; exact absurd h (by simp)
    | some u' =>
      rw [hd, Option.bind_some] at h
      simp only [dig] at h
      split at h
      · rename_i hc
        have e : u = 10 * u' + (c.toNat - 48) := (Option.some.inj h).symm
        have hi := ih T' (by omega) u' hd (Or.inr hh')
        have hu : 1 ≤ u' := by
          rcases Nat.eq_zero_or_pos u' with h0 | h0
          · subst h0
            rw [dec_small (by omega)] at hi
            rw [← hi] at hh'
            exact absurd rfl hh'
          · exact h0
        rw [dec_big (by omega), show u / 10 = u' by omega, hi, u8_of (c := c) (by omega)]
      · exact absurd h (by simp)
theorem dec_iff {T : List UInt8} {u : Nat} (hT : T ≠ []) (h : dig 0 T = some u) : Go.Lib.decDigits u = T ↔ (T.length = 1 ∨ T.head? ≠ some 48) := by
  constructor
  · intro e
    by_cases h1 : u < 10
    · left; rw [← e, dec_small h1]; rfl
    · right; rw [← e]; exact dec_head u (by omega)
  · intro h1
    have hl : 1 ≤ T.length := List.length_pos_iff.2 hT
    exact dec_of_aux (T.length - 1) T (by omega) u h (by rcases h1 with h1 | h1; · left; omega
                                                         · exact Or.inr h1)
def two (r : Nat) : List UInt8 := [UInt8.ofNat (48 + r / 10), UInt8.ofNat (48 + r % 10)]
def showL (v : Nat) : List UInt8 := if v > 1000000 then [] else Go.Lib.decDigits (v / 100) ++ [46] ++ two (v % 100)
theorem itoa_spec (m : Nat) (h : m ≤ 1000000) : strconv_Itoa_13.f (m : Int) = some ⟨(Go.Lib.decDigits m).toArray⟩ := by
  unfold strconv_Itoa_13.f Go.Lib.itoa
  rw [if_pos ⟨by omega, by omega⟩, if_neg (by omega), Int.toNat_natCast]
theorem ba_size (b : ByteArray) : b.size = b.data.toList.length := (Array.length_toList (xs := b.data)).symm
theorem ba_app (a b : ByteArray) : (a ++ b).data.toList = a.data.toList ++ b.data.toList := by rw [ByteArray.data_append, Array.toList_append]
theorem showM (k v : Nat) (hk : 0 < k) : ∃ b, impl_ShowMoney.f k (v : Int) = some b ∧ b.data.toList = showL v := by
  obtain ⟨k, rfl, -⟩ := fuel hk
  unfold impl_ShowMoney.f showL
  rw [if_neg (by omega)]
  simp only [impl_ShowMoney.j0]
  by_cases h : v > 1000000
  · rw [if_pos (by simp; omega), if_pos h]
    exact ⟨_, rfl, rfl⟩
  · have e1 : Int.tmod (v : Int) 100 = ((v % 100 : Nat) : Int) := by rw [Int.tmod_eq_emod_of_nonneg (by omega)]; omega
    have e2 : wrap64 (Int.tdiv (v : Int) 100) = ((v / 100 : Nat) : Int) := by rw [Int.tdiv_eq_ediv_of_nonneg (by omega), wrap_id (by omega) (by omega)]; omega
    have hl := dec_len_le (v / 100)
    rw [if_neg (by simp; omega), if_neg h, e1, e2, itoa_spec _ (by omega), Option.bind_some, itoa_spec _ (by omega)]
    by_cases h2 : v % 100 < 10
    · have s1 : (⟨(Go.Lib.decDigits (v % 100)).toArray⟩ : ByteArray).size = 1 := by rw [ba_size, dec_small h2]; rfl
      rw [if_pos (by rw [s1]; decide), if_pos (by rw [s1]; decide), Option.bind_some, if_pos (by rw [ba_size]; simp only [List.toList_toArray]; omega), if_pos (by rw [ba_size, ba_size, ba_app, ba_app, dec_small h2]; simp only [List.toList_toArray, List.length_append, List.length_cons, List.length_nil]; omega)]
      refine ⟨_, rfl, ?_⟩
      rw [ba_app, ba_app, ba_app, dec_small h2]
      simp only [two]
      rw [show v % 100 / 10 = 0 by omega, show v % 100 % 10 = v % 100 by omega]
      rfl
    · have e3 : Go.Lib.decDigits (v % 100) = two (v % 100) := by
        rw [dec_big h2, dec_small (by omega)]; rfl
      have s1 : (⟨(Go.Lib.decDigits (v % 100)).toArray⟩ : ByteArray).size = 2 := by rw [ba_size, e3]; rfl
      rw [if_neg (by rw [s1]; decide), Option.bind_some, if_pos (by rw [ba_size]; simp only [List.toList_toArray]; omega), if_pos (by rw [ba_size, ba_size, ba_app, e3]; simp only [List.toList_toArray, List.length_append, List.length_cons, List.length_nil, two]; omega)]
      refine ⟨_, rfl, ?_⟩
      rw [ba_app, ba_app, e3]
def remL (B : List UInt8) (i : Nat) : List UInt8 := if i ≤ B.length - 3 then (B.take (B.length - 3)).drop i ++ B.drop (B.length - 2) else B.drop i
theorem remL_skip {B : List UInt8} (h : 4 ≤ B.length) : remL B (B.length - 3) = remL B (B.length - 3 + 1) := by
  unfold remL
  rw [if_pos (Nat.le_refl _), if_neg (by omega), List.drop_eq_nil_of_le (by simp), List.nil_append]
  rw [show B.length - 3 + 1 = B.length - 2 by omega]
theorem remL_cons {B : List UInt8} {i : Nat} (h : 4 ≤ B.length) (hi : i < B.length) (hne : i ≠ B.length - 3) : remL B i = B[i] :: remL B (i + 1) := by
  unfold remL
  by_cases h1 : i ≤ B.length - 3
  · rw [if_pos h1, if_pos (by omega), List.drop_eq_getElem_cons (by simp; omega), List.getElem_take]; rfl
  · rw [if_neg h1, if_neg (by omega), List.drop_eq_getElem_cons hi]
theorem bt_get {s : ByteArray} {i : Nat} (h : i < s.data.toList.length) : bt s (i : Int) = ((s.data.toList[i].toNat : Nat) : Int) := by
  have h2 : i < s.size := by rw [ba_size]; exact h
  unfold bt
  simp only [Int.toNat_natCast]
  rw [dif_pos h2]
  rfl
theorem impl_l0 (s : ByteArray) (h4 : 4 ≤ s.data.toList.length) (h8 : s.data.toList.length ≤ 8) : ∀ (d k i acc : Nat), i + d = s.data.toList.length → d + 2 < k → acc < 10 ^ i →
    impl_ReadMoney.l0 k s (acc : Int) (s.size : Int) (i : Int) = match dig acc (remL s.data.toList i) with | none => some (-1) | some v => if showL v = s.data.toList then some (v : Int) else some (-1) := by
  have hsz := ba_size s
  intro d
  induction d with
  | zero =>
    intro k i acc hi hk ha
    obtain ⟨k, rfl, hk2⟩ := fuel (show 1 < k by omega)
    simp only [impl_ReadMoney.l0]
    obtain ⟨b, hb1, hb2⟩ := showM k acc (by omega)
    have e : remL s.data.toList i = [] := by
      unfold remL
      rw [if_neg (by omega), List.drop_eq_nil_of_le (by omega)]
    rw [if_neg (by omega), hb1, Option.bind_some, e]
    simp only [dig, ByteArray.toList_eq, hb2]
  | succ d ih =>
    intro k i acc hi hk ha
    obtain ⟨k, rfl, hk2⟩ := fuel (show d + 2 < k by omega)
    have hp : 10 ^ i ≤ 10 ^ 8 := Nat.pow_le_pow_right (by omega) (by omega)
    have hp2 : acc < 100000000 := Nat.lt_of_lt_of_le ha hp
    simp only [impl_ReadMoney.l0]
    rw [if_pos (by omega), wrap_id (x := (s.size : Int) - 3) (by omega) (by omega), wrap_succ (by omega)]
    by_cases h3 : i = s.data.toList.length - 3
    · rw [if_pos (by omega), ih k (i + 1) acc (by omega) (by omega) (Nat.lt_of_lt_of_le ha (Nat.pow_le_pow_right (by omega) (by omega)))]
      subst h3
      rw [remL_skip h4]
    · rw [if_neg (by omega), if_pos (by omega), if_pos (by omega), bt_get (by omega), remL_cons h4 (by omega) h3]
      simp only [dig]
      by_cases h5 : s.data.toList[i].toNat < 48
      · rw [if_pos (by omega), if_neg (by omega)]
      · rw [if_neg (by omega)]
        by_cases h6 : s.data.toList[i].toNat > 57
        · rw [if_pos (by omega), if_neg (by omega)]
        · rw [if_neg (by omega), if_pos (by omega), wrap_id (x := (acc : Int) * 10) (by omega) (by omega), wrap_id (by omega) (by omega)]
          have e : (acc : Int) * 10 + ((s.data.toList[i].toNat : Int) - 48) % 256 = ((10 * acc + (s.data.toList[i].toNat - 48) : Nat) : Int) := by omega
          rw [e]
          refine ih k (i + 1) _ (by omega) (by omega) ?_
          rw [Nat.pow_succ]
          generalize 10 ^ i = P at ha
          omega
theorem read_split (B : List UInt8) (h4 : 4 ≤ B.length) (hp : B[B.length - 3]'(by omega) = 46) : ∃ T p q, B = T ++ [46] ++ [p, q] ∧ T ≠ [] ∧ remL B 0 = T ++ [p, q] ∧ T.length = B.length - 3 ∧ T.head? = some (B[0]'(by omega)) := by
  have e1 : B.drop (B.length - 3) = 46 :: B.drop (B.length - 2) := by
    rw [List.drop_eq_getElem_cons (by omega), hp]
    congr 2; omega
  have e2 : B.drop (B.length - 2) = [B[B.length - 2]'(by omega), B[B.length - 1]'(by omega)] := by
    rw [List.drop_eq_getElem_cons (by omega), List.drop_eq_getElem_cons (by omega), List.drop_eq_nil_of_le (by omega)]
    congr 3; omega
  refine ⟨B.take (B.length - 3), B[B.length - 2]'(by omega), B[B.length - 1]'(by omega), ?_, ?_, ?_, by simp, ?_⟩
  · rw [← e2, List.append_assoc, List.singleton_append, ← e1, List.take_append_drop]
  · intro e; have := congrArg List.length e; simp at this; omega
  · unfold remL; rw [if_pos (by omega), List.drop_zero, e2]
  · rw [List.head?_take, if_neg (by omega), List.head?_eq_getElem?, List.getElem?_eq_getElem (by omega)]
theorem show_iff {B T : List UInt8} {p q : UInt8} {v : Nat} (hB : B = T ++ [46] ++ [p, q]) (hT : T ≠ []) (hv : dig 0 (T ++ [p, q]) = some v) : showL v = B ↔ (v ≤ 1000000 ∧ (T.length = 1 ∨ T.head? ≠ some 48)) := by
  rw [dig_append] at hv
  cases hd : dig 0 T with
  | none => rw [hd] at hv; exact absurd hv (by simp)
  | some u =>
    rw [hd, Option.bind_some] at hv
    simp only [dig] at hv
    split at hv
    · rename_i h1
      split at hv
      · rename_i h2
        have e := (Option.some.inj hv).symm
        have e1 : v / 100 = u := by omega
        have e2 : v % 100 = 10 * (p.toNat - 48) + (q.toNat - 48) := by omega
        have e3 : two (v % 100) = [p, q] := by
          unfold two
          rw [u8_of (c := p) (by omega), u8_of (c := q) (by omega)]
        unfold showL
        by_cases h : v > 1000000
        · rw [if_pos h]
          constructor
          · intro h3; rw [hB] at h3; simp at h3
          · intro h3; omega
        · rw [if_neg h, e1, e3, hB, ← dec_iff hT hd]
          constructor
          · intro h3
            exact ⟨by omega, List.append_cancel_right (List.append_cancel_right h3)⟩
          · intro h3; rw [h3.2]
      · exact absurd hv (by simp)
    · exact absurd hv (by simp)
def readI (B : List UInt8) : Int := match dig 0 (remL B 0) with | none => -1 | some v => if showL v = B then (v : Int) else -1
def impR (B : List UInt8) : Int := if h : 4 ≤ B.length ∧ B.length ≤ 8 then (if B[B.length - 3]'(by omega) = 46 then readI B else -1) else -1
theorem impl_read (k : Nat) (s : ByteArray) (hk : 100 < k) : impl_ReadMoney.f k s = some (impR s.data.toList) := by
  have hsz := ba_size s
  obtain ⟨k, rfl, hk2⟩ := fuel hk
  unfold impl_ReadMoney.f impR
  by_cases h1 : (s.size : Int) < 4
  · rw [if_pos h1, dif_neg (by omega)]; simp [impl_ReadMoney.j0]
  · rw [if_neg h1]
    by_cases h2 : (s.size : Int) > 8
    · rw [if_pos h2, dif_neg (by omega)]; simp [impl_ReadMoney.j0]
    · have hd : 4 ≤ s.data.toList.length ∧ s.data.toList.length ≤ 8 := ⟨by omega, by omega⟩
      have e : (s.size : Int) - 3 = ((s.data.toList.length - 3 : Nat) : Int) := by omega
      rw [if_neg h2, dif_pos hd, wrap_id (x := (s.size : Int) - 3) (by omega) (by omega), e, if_pos (by omega), if_pos (by omega), bt_get (by omega)]
      simp only [impl_ReadMoney.j0]
      by_cases h3 : s.data.toList[s.data.toList.length - 3]'(by omega) = 46
      · rw [if_pos h3, h3, if_neg (by decide)]
        have := impl_l0 s hd.1 hd.2 s.data.toList.length k 0 0 (by omega) (by omega) (by simp)
        simp only [Int.natCast_zero] at this
        rw [this]
        unfold readI
        split
        · rfl
        · split <;> rfl
      · have h4 : ((s.data.toList[s.data.toList.length - 3]'(by omega)).toNat : Int) ≠ 46 := by
          intro h5
          apply h3
          apply UInt8.toNat_inj.1
          have : (46 : UInt8).toNat = 46 := rfl
          omega
        rw [if_neg h3, if_pos (by simpa using h4)]

/-! ### reader -/
/-- A pick: a number below the bound (0 where there is none), one place on. -/
theorem pick_spec (k : Nat) (hk : 1 ≤ k) (b : List Int) (hb : ∀ x ∈ b, 0 ≤ x ∧ x ≤ 255) (hl : b.length ≤ 2000) (p : Int) (hp0 : 0 ≤ p) (hp : p ≤ 1000000) (n : Int) (hn : n ≤ 1000000000000) :
    ∃ v, spec_reader_pick.f k b p n = some (v, p + 1) ∧ 0 ≤ v ∧ (0 < n → v < n) ∧ (n ≤ 0 → v = 0) := by
  obtain ⟨k, rfl, -⟩ := fuel hk
  have hw : wrap64 (p + 1) = p + 1 := wrap_succ' hp0 (by omega)
  have hw2 : wrap64 (p + 1 - 1) = p := by rw [wrap_id (by omega) (by omega)]; omega
  unfold spec_reader_pick.f
  rw [hw]
  by_cases h1 : n < 1
  · rw [if_pos h1]
    exact ⟨0, by simp [spec_reader_pick.j0], by omega, by omega, fun _ => rfl⟩
  · rw [if_neg h1]
    by_cases h2 : b.length = 0
    · have e : ((b.length : Int) == 0) = true := by simp [h2]
      rw [e]
      exact ⟨0, by simp [spec_reader_pick.j0], by omega, fun _ => by omega, fun _ => rfl⟩
    · have e : ((b.length : Int) == 0) = false := by rw [beq_eq_false_iff_ne]; omega
      rw [e]
      simp only [spec_reader_pick.j0]
      rw [if_neg (by decide), hw2]
      have rdb : ∀ i : Int, 0 ≤ i → i < (b.length : Int) → 0 ≤ rd b i ∧ rd b i ≤ 255 := fun i h0 h => hb _ (rd_mem' h0 h)
      by_cases h3 : p < (b.length : Int)
      · rw [if_pos h3, if_pos hp0, if_neg (by omega)]
        have hr := rdb p hp0 h3
        rw [wrap_id (x := rd b p) (by omega) (by omega), Int.tmod_eq_emod_of_nonneg hr.1]
        exact ⟨_, rfl, Int.emod_nonneg _ (by omega), fun _ => Int.emod_lt_of_pos _ (by omega), fun h => by omega⟩
      · have hL : (0 : Int) < (b.length : Int) := by omega
        have m1 := Int.emod_nonneg p (b := (b.length : Int)) (by omega)
        have m2 := Int.emod_lt_of_pos p hL
        have w7 : wrap64 (wrap64 (p * 7) + 3) = p * 7 + 3 := by rw [wrap_add_l, wrap_id (by omega) (by omega)]
        have m3 := Int.emod_nonneg (p * 7 + 3) (b := (b.length : Int)) (by omega)
        have m4 := Int.emod_lt_of_pos (p * 7 + 3) hL
        rw [if_neg h3, if_neg (by omega)]
        rw [w7]
        rw [Int.tmod_eq_emod_of_nonneg hp0, Int.tmod_eq_emod_of_nonneg (by omega : (0 : Int) ≤ p * 7 + 3)]
        rw [if_pos m1, if_pos m2, if_pos m3, if_pos m4, if_neg (by omega)]
        have r1 := rdb _ m1 m2
        have r2 := rdb _ m3 m4
        have hq : 0 ≤ Int.tdiv p (b.length : Int) ∧ Int.tdiv p (b.length : Int) ≤ p := by
          rw [Int.tdiv_eq_ediv_of_nonneg hp0]
          exact ⟨Int.ediv_nonneg hp0 (by omega), Int.ediv_le_self _ hp0⟩
        generalize rd b (p % (b.length : Int)) = x at *
        generalize rd b ((p * 7 + 3) % (b.length : Int)) = y at *
        generalize Int.tdiv p (b.length : Int) = q at *
        have hx : wrap64 x = x := wrap_id (by omega) (by omega)
        have hy : wrap64 y = y := wrap_id (by omega) (by omega)
        have hqq : wrap64 q = q := wrap_id (by omega) (by omega)
        rw [hx, hy, hqq]
        have e1 : wrap64 (x * 131) = x * 131 := wrap_id (by omega) (by omega)
        have e2 : wrap64 (y * 1117) = y * 1117 := wrap_id (by omega) (by omega)
        have e3 : wrap64 (p * 29) = p * 29 := wrap_id (by omega) (by omega)
        have e4 : wrap64 (q * 53) = q * 53 := wrap_id (by omega) (by omega)
        rw [e1, e2, e3, e4]
        have e5 : wrap64 (x * 131 + y * 1117) = x * 131 + y * 1117 := wrap_id (by omega) (by omega)
        rw [e5]
        have e6 : wrap64 (x * 131 + y * 1117 + p * 29) = x * 131 + y * 1117 + p * 29 := wrap_id (by omega) (by omega)
        rw [e6]
        have e7 : wrap64 (x * 131 + y * 1117 + p * 29 + q * 53) = x * 131 + y * 1117 + p * 29 + q * 53 := wrap_id (by omega) (by omega)
        rw [e7]
        have hz : 0 ≤ x * 131 + y * 1117 + p * 29 + q * 53 ∧ x * 131 + y * 1117 + p * 29 + q * 53 ≤ 1000000000 := by omega
        generalize x * 131 + y * 1117 + p * 29 + q * 53 = z at *
        have hz64 : 0 ≤ Int.tdiv z 64 ∧ Int.tdiv z 64 ≤ z := by
          rw [Int.tdiv_eq_ediv_of_nonneg hz.1]; omega
        rw [wrap_id (x := Int.tdiv z 64) (by omega) (by omega)]
        have hxor := bits_xor (a := z) (b := Int.tdiv z 64) hz.1 (by omega) hz64.1 (by omega)
        rw [Int.tmod_eq_emod_of_nonneg hxor.1]
        exact ⟨_, rfl, Int.emod_nonneg _ (by omega), fun _ => Int.emod_lt_of_pos _ (by omega), fun h => by omega⟩
/-- One of some numbers. -/
theorem one_spec (k : Nat) (hk : 1 ≤ k) (b : List Int) (hb : ∀ x ∈ b, 0 ≤ x ∧ x ≤ 255) (hl : b.length ≤ 2000) (p : Int) (hp0 : 0 ≤ p) (hp : p ≤ 1000000) (l : List Int) (hn0 : l ≠ []) (hn : l.length ≤ 1000000) :
    ∃ v, spec_reader_one.f k b p l = some (v, p + 1) ∧ v ∈ l := by
  have h0 : 0 < l.length := List.length_pos_iff.2 hn0
  obtain ⟨v, hv, h1, h2, -⟩ := pick_spec k hk b hb hl p hp0 hp (l.length : Int) (by omega)
  unfold spec_reader_one.f
  rw [hv]
  simp only [Option.bind_some]
  rw [if_pos h1, if_pos (h2 (by omega))]
  exact ⟨_, rfl, rd_mem' h1 (h2 (by omega))⟩
theorem reader_bytes {l : List Int} (h : ∀ x ∈ l, (Lit.int .u8 x).wf = true) : ∀ x ∈ l, 0 ≤ x ∧ x ≤ 255 := by
  intro x hx
  have := h x hx
  simp [Lit.wf, IntKind.min, IntKind.max, IntKind.bits, IntKind.signed] at this
  omega
/-- A reader of some code: its bytes. -/
theorem newReader_spec (l : List Int) (h : ∀ x ∈ l, 0 ≤ x ∧ x ≤ 255) : ∃ b : List Int, spec_newReader.f l = some (b, 0) ∧ (∀ x ∈ b, 0 ≤ x ∧ x ≤ 255) ∧ b.length ≤ 2000 := by
  unfold spec_newReader.f
  by_cases h1 : (l.length : Int) > 2000
  · rw [if_pos h1, if_pos (by omega)]
    exact ⟨_, rfl, fun x hx => h x (List.mem_of_mem_take hx), by simp; omega⟩
  · rw [if_neg h1]
    exact ⟨_, rfl, h, by omega⟩

/-! ### listm -/
theorem pigeon : ∀ (n : Nat) (xs : List Int), xs.Nodup → (∀ x ∈ xs, 0 ≤ x ∧ x < (n : Int)) → xs.length ≤ n := by
  intro n
  induction n with
  | zero =>
    intro xs _ h
    cases xs with
    | nil => simp
    | cons x xs => have := h x (by simp); omega
  | succ n ih =>
    intro xs hn h
    by_cases hm : (n : Int) ∈ xs
    · have h1 := ih (xs.erase (n : Int)) (hn.erase _) (fun x hx => by
        have h2 := (hn.mem_erase_iff).1 hx
        have h3 := h x h2.2
        have h4 := h2.1
        omega)
      rw [List.length_erase_of_mem hm] at h1
      omega
    · have h1 := ih xs hn (fun x hx => by
        have h3 := h x hx
        have h4 : x ≠ (n : Int) := fun e => hm (e ▸ hx)
        omega)
      omega
/-- Fewer different members than there are: one is missing. -/
theorem one_missing : ∀ (n : Nat) (xs : List Int), xs.length < n → ∃ j : Nat, j < n ∧ (j : Int) ∉ xs := by
  intro n
  induction n with
  | zero => intro xs h; omega
  | succ n ih =>
    intro xs h
    by_cases hm : (n : Int) ∈ xs
    · obtain ⟨j, hj, hx⟩ := ih (xs.erase (n : Int)) (by rw [List.length_erase_of_mem hm]; have := List.length_pos_of_mem hm; omega)
      refine ⟨j, by omega, fun hmem => hx ?_⟩
      exact (List.mem_erase_of_ne (by omega)).2 hmem
    · exact ⟨n, by omega, hm⟩
/-- Members, one after the other, in range and not seen yet. -/
def memB (n : Int) : List Int → List Int → Bool
  | _, [] => true
  | seen, x :: rest => decide (0 ≤ x ∧ x < n) && (!decide (x ∈ seen) && memB n (seen ++ [x]) rest)
theorem memB_iff (n : Int) : ∀ (xs seen : List Int), memB n seen xs = true ↔ (∀ x ∈ xs, 0 ≤ x ∧ x < n ∧ x ∉ seen) ∧ xs.Nodup := by
  intro xs
  induction xs with
  | nil => intro seen; simp [memB]
  | cons a xs ih =>
    intro seen
    simp only [memB, Bool.and_eq_true, decide_eq_true_eq, Bool.not_eq_true', decide_eq_false_iff_not, ih, List.mem_cons, List.mem_append, List.not_mem_nil, or_false, List.nodup_cons]
    constructor
    · rintro ⟨⟨h1, h2⟩, h3, h4, h5⟩
      refine ⟨?_, fun ha => (h4 a ha).2.2 (Or.inr rfl), h5⟩
      rintro x (rfl | hx)
      · exact ⟨h1, h2, h3⟩
      · obtain ⟨a1, a2, a3⟩ := h4 x hx
        exact ⟨a1, a2, fun h => a3 (Or.inl h)⟩
    · rintro ⟨h1, h2, h3⟩
      obtain ⟨a1, a2, a3⟩ := h1 a (Or.inl rfl)
      refine ⟨⟨a1, a2⟩, a3, fun x hx => ?_, h3⟩
      obtain ⟨b1, b2, b3⟩ := h1 x (Or.inr hx)
      refine ⟨b1, b2, ?_⟩
      rintro (h | rfl)
      · exact b3 h
      · exact h2 hx
/-- Different members of a body. -/
def GoodM (xs : List Int) (n : Int) : Prop := xs.Nodup ∧ ∀ x ∈ xs, 0 ≤ x ∧ x < n
instance (xs : List Int) (n : Int) : Decidable (GoodM xs n) := inferInstanceAs (Decidable (_ ∧ _))
theorem memB_good (n : Int) (xs : List Int) : memB n [] xs = decide (GoodM xs n) := by
  rw [Bool.eq_iff_iff, memB_iff, decide_eq_true_eq]
  unfold GoodM
  constructor
  · rintro ⟨h, hn⟩
    exact ⟨hn, fun x hx => ⟨(h x hx).1, (h x hx).2.1⟩⟩
  · rintro ⟨hn, h⟩
    exact ⟨fun x hx => ⟨(h x hx).1, (h x hx).2, by simp⟩, hn⟩
theorem GoodM.le {xs : List Int} {n : Nat} (h : GoodM xs (n : Int)) : xs.length ≤ n := pigeon n xs h.1 h.2
/-- The first place of a number behind some. -/
def idxM : List Int → Int → Nat → Int
  | [], _, _ => -1
  | y :: ys, x, i => if y = x then (i : Int) else idxM ys x (i + 1)
theorem idxM_neg : ∀ (xs : List Int) (x : Int) (i : Nat), idxM xs x i < 0 ↔ x ∉ xs := by
  intro xs
  induction xs with
  | nil => intro x i; simp [idxM]
  | cons y ys ih =>
    intro x i
    simp only [idxM]
    by_cases e : y = x
    · rw [if_pos e]; simp [e]
    · rw [if_neg e, ih]
      have e' : ¬ x = y := fun h => e h.symm
      simp [e']
theorem idxM_nonneg (xs : List Int) (x : Int) (i : Nat) : 0 ≤ idxM xs x i ↔ x ∈ xs := by
  have := idxM_neg xs x i
  by_cases h : x ∈ xs
  · simp only [h, not_true, iff_false] at this
    simp [h]; omega
  · simp only [h, not_false_iff, iff_true] at this
    simp [h]; omega
theorem idxM_at : ∀ (xs : List Int) (x : Int) (i : Nat), x ∈ xs → ∃ j : Nat, idxM xs x i = ((i + j : Nat) : Int) ∧ j < xs.length ∧ rd xs (j : Int) = x ∧ ∀ q : Nat, q < j → rd xs (q : Int) ≠ x := by
  intro xs
  induction xs with
  | nil => intro x i h; simp at h
  | cons y ys ih =>
    intro x i h
    by_cases e : y = x
    · exact ⟨0, by simp [idxM, e], by simp, by simp [rd, e], fun q hq => by omega⟩
    · have hx : x ∈ ys := by
        rcases List.mem_cons.1 h with h | h
        · exact absurd h.symm e
        · exact h
      obtain ⟨j, h1, h2, h3, h4⟩ := ih x (i + 1) hx
      refine ⟨j + 1, by simp only [idxM, if_neg e, h1]; omega, by simp; omega, ?_, ?_⟩
      · rw [← h3, rd_get (by simp; omega), rd_get h2]; simp
      · intro q hq
        cases q with
        | zero => rw [rd_get (by simp)]; simpa using e
        | succ q => have := h4 q (by omega); rw [rd_get (by simp; omega)]; rw [rd_get (by omega)] at this; simpa using this
theorem sum_set : ∀ (xs : List Int) (i : Nat) (v : Int), i < xs.length → (xs.set i v).sum = xs.sum - rd xs (i : Int) + v := by
  intro xs
  induction xs with
  | nil => intro i v h; simp at h
  | cons x xs ih =>
    intro i v h
    cases i with
    | zero => simp [rd]; omega
    | succ i =>
      have h2 : i < xs.length := by simpa using h
      have := ih i v h2
      have e : rd (x :: xs) ((i + 1 : Nat) : Int) = rd xs (i : Int) := by rw [rd_get h, rd_get h2]; simp
      simp only [List.set_cons_succ, List.sum_cons, this, e]
      omega
theorem sum_replicate0 (n : Nat) : (List.replicate n (0 : Int)).sum = 0 := by
  induction n with
  | zero => rfl
  | succ n ih => simp [List.replicate_succ, ih]
theorem set_fill {α : Type} (A : List α) (d : Nat) (z v : α) : (A ++ List.replicate (d + 1) z).set A.length v = (A ++ [v]) ++ List.replicate d z := by
  rw [List.set_append_right _ _ (Nat.le_refl _)]
  simp [List.replicate_succ]
theorem set_fill' {α : Type} {A : List α} {i d : Nat} {z v : α} (h : A.length = i) : (A ++ List.replicate (d + 1) z).set i v = (A ++ [v]) ++ List.replicate d z := by
  subst h; exact set_fill A d z v
theorem sum_bound : ∀ (xs : List Int) (lo hi : Int), (∀ x ∈ xs, lo ≤ x ∧ x ≤ hi) → (xs.length : Int) * lo ≤ xs.sum ∧ xs.sum ≤ (xs.length : Int) * hi := by
  intro xs lo hi
  induction xs with
  | nil => intro _; simp
  | cons x xs ih =>
    intro h
    have h1 := ih (fun y hy => h y (by simp [hy]))
    have h2 := h x (by simp)
    have e1 : ((x :: xs).length : Int) * lo = (xs.length : Int) * lo + lo := by simp [Int.add_mul]
    have e2 : ((x :: xs).length : Int) * hi = (xs.length : Int) * hi + hi := by simp [Int.add_mul]
    rw [e1, e2, List.sum_cons]
    omega

/-! ### inrange -/
theorem inRange_spec (a lo up : Int) : spec_inRange.f a lo up = some (decide (lo ≤ a ∧ a ≤ up)) := by
  unfold spec_inRange.f
  by_cases h : lo ≤ a <;> simp [h]

/-! ### the law -/
theorem dec_len_pow : ∀ (d u : Nat), u < 10 ^ (d + 1) → (Go.Lib.decDigits u).length ≤ d + 1 := by
  intro d
  induction d with
  | zero => intro u h; rw [dec_small (by simpa using h)]; simp
  | succ d ih =>
    intro u h
    by_cases h1 : u < 10
    · rw [dec_small h1]; simp
    · rw [Nat.pow_succ] at h
      have := ih (u / 10) (by generalize 10 ^ (d + 1) = P at h ⊢; omega)
      rw [dec_big h1, List.length_append, List.length_singleton]
      omega
theorem one_digit (m : Nat) (h : m < 10) : ((⟨#[48, 49, 50, 51, 52, 53, 54, 55, 56, 57]⟩ : ByteArray).extract m (m + 1)).data.toList = [UInt8.ofNat (48 + m)] := by
  have hm : m = 0 ∨ m = 1 ∨ m = 2 ∨ m = 3 ∨ m = 4 ∨ m = 5 ∨ m = 6 ∨ m = 7 ∨ m = 8 ∨ m = 9 := by omega
  rcases hm with h | h | h | h | h | h | h | h | h | h <;> subst h <;> rfl
theorem number_small (k m : Nat) (h : m < 10) (hk : 0 < k) : ∃ b, spec_number.f k (m : Int) = some b ∧ b.data.toList = [UInt8.ofNat (48 + m)] := by
  obtain ⟨k, rfl, -⟩ := fuel hk
  simp only [spec_number.f]
  rw [if_pos (by omega), if_pos (by omega), wrap_succ (by omega), if_pos (by omega), if_pos (by omega), toNat_cast, toNat_cast]
  exact ⟨_, rfl, one_digit m h⟩
theorem number_spec : ∀ (d m k : Nat), m < 10 ^ (d + 1) → m ≤ 1000000 → d < k → ∃ b, spec_number.f k (m : Int) = some b ∧ b.data.toList = Go.Lib.decDigits m := by
  intro d
  induction d with
  | zero =>
    intro m k h _ hk
    rw [dec_small (by simpa using h)]
    exact number_small k m (by simpa using h) hk
  | succ d ih =>
    intro m k h hm hk
    by_cases h1 : m < 10
    · rw [dec_small h1]
      exact number_small k m h1 (by omega)
    · obtain ⟨k, rfl, hk2⟩ := fuel hk
      rw [Nat.pow_succ] at h
      obtain ⟨b, hb1, hb2⟩ := ih (m / 10) k (by generalize 10 ^ (d + 1) = P at h ⊢; omega) (by omega) (by omega)
      obtain ⟨c, hc1, hc2⟩ := number_small k (m % 10) (by omega) (by omega)
      have e1 : wrap64 (Int.tdiv (m : Int) 10) = ((m / 10 : Nat) : Int) := by rw [Int.tdiv_eq_ediv_of_nonneg (by omega), wrap_id (by omega) (by omega)]; omega
      have e2 : Int.tmod (m : Int) 10 = ((m % 10 : Nat) : Int) := by rw [Int.tmod_eq_emod_of_nonneg (by omega)]; omega
      have hl := dec_len_le (m / 10)
      simp only [spec_number.f]
      rw [if_neg (by omega), e1, hb1, Option.bind_some, e2, hc1, Option.bind_some, if_pos (by rw [ba_size, ba_size, hb2, hc2]; simp only [List.length_singleton]; omega)]
      exact ⟨_, rfl, by rw [ba_app, hb2, hc2, dec_big h1]⟩
/-- An amount's text; empty for other numbers. -/
def showI (n : Int) : List UInt8 := if 0 ≤ n then showL n.toNat else []
theorem implShow (k : Nat) (n : Int) (hk : 0 < k) : ∃ b, impl_ShowMoney.f k n = some b ∧ b.data.toList = showI n := by
  unfold showI
  by_cases h : 0 ≤ n
  · obtain ⟨m, rfl⟩ := Int.eq_ofNat_of_zero_le h
    rw [if_pos h, Int.toNat_natCast]
    exact showM k m hk
  · obtain ⟨k, rfl, -⟩ := fuel hk
    rw [if_neg h]
    unfold impl_ShowMoney.f
    rw [if_pos (by omega)]
    simp only [impl_ShowMoney.j0]
    rw [if_pos trivial]
    exact ⟨_, rfl, rfl⟩
theorem specShow (k : Nat) (n : Int) (hk : 20 < k) : ∃ b, spec_ShowMoney.f k n = some b ∧ b.data.toList = showI n := by
  unfold spec_ShowMoney.f spec_validAmount.f showI showL
  rw [inRange_spec, Option.bind_some, Option.bind_some]
  by_cases h : 0 ≤ n ∧ n ≤ 1000000
  · obtain ⟨m, rfl⟩ := Int.eq_ofNat_of_zero_le h.1
    have hm : m ≤ 1000000 := by omega
    obtain ⟨a, ha1, ha2⟩ := number_spec 6 (m / 100) k (by omega) (by omega) (by omega)
    obtain ⟨b, hb1, hb2⟩ := number_small k (m / 10 % 10) (by omega) (by omega)
    obtain ⟨c, hc1, hc2⟩ := number_small k (m % 10) (by omega) (by omega)
    have e1 : wrap64 (Int.tdiv (m : Int) 100) = ((m / 100 : Nat) : Int) := by rw [Int.tdiv_eq_ediv_of_nonneg (by omega), wrap_id (by omega) (by omega)]; omega
    have e2 : Int.tmod (wrap64 (Int.tdiv (m : Int) 10)) 10 = ((m / 10 % 10 : Nat) : Int) := by rw [Int.tdiv_eq_ediv_of_nonneg (by omega), wrap_id (by omega) (by omega), Int.tmod_eq_emod_of_nonneg (by omega)]; omega
    have e3 : Int.tmod (m : Int) 10 = ((m % 10 : Nat) : Int) := by rw [Int.tmod_eq_emod_of_nonneg (by omega)]; omega
    have hl := dec_len_le (m / 100)
    rw [decide_eq_true h, if_pos rfl, e1, ha1, Option.bind_some, if_pos (by rw [ba_size, ha2]; omega), e2, hb1, Option.bind_some, if_pos (by rw [ba_size, ba_size, ba_app, ha2, hb2]; simp only [List.length_append, List.length_cons, List.length_nil]; omega), e3, hc1, Option.bind_some, if_pos (by rw [ba_size, ba_size, ba_app, ba_app, ha2, hb2, hc2]; simp only [List.length_append, List.length_cons, List.length_nil]; omega), if_pos h.1, Int.toNat_natCast, if_neg (by omega)]
    refine ⟨_, rfl, ?_⟩
    rw [ba_app, ba_app, ba_app, ha2, hb2, hc2]
    simp only [two, List.append_assoc]
    rw [show m % 100 / 10 = m / 10 % 10 by omega, show m % 100 % 10 = m % 10 by omega]
    rfl
  · rw [decide_eq_false h, if_neg (by decide)]
    refine ⟨_, rfl, ?_⟩
    by_cases h2 : 0 ≤ n
    · rw [if_pos h2, if_pos (by omega)]
    · rw [if_neg h2]
theorem anAmount_spec (b : List Int) (hb : ∀ x ∈ b, 0 ≤ x ∧ x ≤ 255) (hl : b.length ≤ 2000) (k : Nat) (hk : 1 ≤ k) (p : Int) (hp0 : 0 ≤ p) (hp : p ≤ 900000) : ∃ v, spec_anAmount.f k b p = some v := by
  obtain ⟨v, h1, -⟩ := pick_spec k hk b hb hl p hp0 (by omega) 200 (by omega)
  obtain ⟨u, h2, -⟩ := pick_spec k hk b hb hl (p + 1) (by omega) (by omega) 250 (by omega)
  obtain ⟨x, h3, -⟩ := one_spec k hk b hb hl (p + 1 + 1) (by omega) (by omega) [1000, wrap64 (10 * v), u, 0, 12345, 1000000, 999999, (-1), 1000001, 25, 90909, 50] (by simp) (by simp)
  unfold spec_anAmount.f
  rw [h1, Option.bind_some]
  simp only []
  rw [h2, Option.bind_some]
  simp only []
  rw [h3, Option.bind_some]
  exact ⟨_, rfl⟩
theorem draw_spec (k : Nat) (hk : 1 ≤ k) (l : List Int) (hl : ∀ x ∈ l, 0 ≤ x ∧ x ≤ 255) : ∃ n, spec_DrawShowMoney.f k l = some n := by
  obtain ⟨b, h1, h2, h3⟩ := newReader_spec l hl
  obtain ⟨v, h4⟩ := anAmount_spec b h2 h3 k hk 0 (by omega) (by omega)
  unfold spec_DrawShowMoney.f
  rw [h1, Option.bind_some]
  simp only []
  rw [h4, Option.bind_some]
  exact ⟨_, rfl⟩
theorem read_back {m : Nat} (hm : m ≤ 1000000) : impR (showL m) = (m : Int) ∧ ∃ h : 4 ≤ (showL m).length, (showL m)[(showL m).length - 3]'(by omega) = 46 := by
  have e : showL m = Go.Lib.decDigits (m / 100) ++ [46] ++ two (m % 100) := by unfold showL; rw [if_neg (by omega)]
  have hne := dec_ne (m / 100)
  have h1 : 1 ≤ (Go.Lib.decDigits (m / 100)).length := List.length_pos_iff.2 hne
  have h2 := dec_len_pow 4 (m / 100) (by omega)
  have hl : (showL m).length = (Go.Lib.decDigits (m / 100)).length + 3 := by rw [e]; simp [two]
  have h46 : (showL m)[(showL m).length - 3]'(by omega) = 46 := by
    have q : (showL m)[(showL m).length - 3]? = some 46 := by
      rw [hl, e, List.append_assoc, List.getElem?_append_right (by omega), show (Go.Lib.decDigits (m / 100)).length + 3 - 3 - (Go.Lib.decDigits (m / 100)).length = 0 by omega]
      rfl
    rw [List.getElem?_eq_getElem (by omega)] at q
    exact Option.some.inj q
  refine ⟨?_, by omega, h46⟩
  unfold impR
  rw [dif_pos ⟨by omega, by omega⟩, if_pos h46]
  obtain ⟨T, p, q, e1, e2, e3, e4, e5⟩ := read_split (showL m) (by omega) h46
  have e6 : T = Go.Lib.decDigits (m / 100) ∧ [p, q] = two (m % 100) := by
    rw [e, List.append_assoc, List.append_assoc] at e1
    have := List.append_inj e1 (by omega)
    exact ⟨this.1.symm, by have := this.2; simp only [List.singleton_append, List.cons.injEq, true_and] at this; rw [this]⟩
  have hd : dig 0 (remL (showL m) 0) = some m := by
    rw [e3, e6.1, e6.2, dig_append, dec_dig, Option.bind_some]
    simp only [two, dig, u8_nat (show m % 100 / 10 < 200 by omega), u8_nat (show m % 100 % 10 < 200 by omega)]
    rw [if_pos (by omega), if_pos (by omega)]
    congr 1; omega
  unfold readI
  rw [hd]
  simp only []
  rw [if_pos trivial]
theorem FnShowMoney : laws_FnShowMoney.Pure := by
  intro l0 m0 _ hw
  refine ⟨1000, ?_⟩
  unfold laws_FnShowMoney.f
  by_cases h0 : (l0.length : Int) > 1048576
  · rw [if_pos h0]
  rw [if_neg h0]
  obtain ⟨n, hd⟩ := draw_spec 1000 (by omega) l0 (reader_bytes hw)
  obtain ⟨a, ha1, ha2⟩ := implShow 1000 n (by omega)
  obtain ⟨b, hb1, hb2⟩ := specShow 1000 n (by omega)
  obtain ⟨c, hc1, hc2⟩ := specShow 999 n (by omega)
  rw [hd, Option.bind_some, ha1, Option.bind_some, hb1, Option.bind_some, ByteArray.toList_eq, ByteArray.toList_eq, ha2, hb2, if_pos rfl]
  simp only [laws_FnShowMoney.j0]
  by_cases h1 : (showI n == ([] : List UInt8)) = true
  · rw [if_pos h1, hc1, Option.bind_some, ByteArray.toList_eq, ByteArray.toList_eq, ha2, hc2]
    simp
  · rw [if_neg h1]
    have hr : 0 ≤ n ∧ n ≤ 1000000 := by
      unfold showI showL at h1
      by_cases h2 : 0 ≤ n
      · rw [if_pos h2] at h1
        refine ⟨h2, ?_⟩
        by_cases h3 : n.toNat > 1000000
        · rw [if_pos h3] at h1; exact absurd rfl h1
        · omega
      · rw [if_neg h2] at h1; exact absurd rfl h1
    obtain ⟨m, rfl⟩ := Int.eq_ofNat_of_zero_le hr.1
    have hs : showI (m : Int) = showL m := by unfold showI; rw [if_pos hr.1, Int.toNat_natCast]
    rw [hs] at ha2
    obtain ⟨r1, r2, r3⟩ := read_back (show m ≤ 1000000 by omega)
    have hsz := ba_size a
    rw [ha2] at hsz
    have hrd := impl_read 999 a (by omega)
    rw [ha2, r1] at hrd
    have e : wrap64 ((a.size : Int) - 3) = (((showL m).length - 3 : Nat) : Int) := by
      have hl : (showL m).length ≤ 100000000 := by
        unfold showL
        have := dec_len_le (m / 100)
        split
        · simp
        · simp [two]; omega
      rw [wrap_id (by omega) (by omega)]; omega
    have hb := bt_get (s := a) (i := (showL m).length - 3) (by rw [ha2]; omega)
    rw [hrd, Option.bind_some, if_pos rfl, e, if_pos (by omega), if_pos (by omega), hb]
    have hx : a.data.toList[(showL m).length - 3]'(by rw [ha2]; omega) = 46 := by
      rw [← r3]
      congr 1
    rw [hx]
    rfl

end Go.Proofs.YticjfhkbfnlcoaaDoor.Pure
