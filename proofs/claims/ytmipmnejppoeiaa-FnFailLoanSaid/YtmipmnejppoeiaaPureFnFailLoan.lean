/- The law FnFailLoan holds: the program's function answers as the reference does at every drawn input, and has the law's property; no condition. -/
import Derived.Test.YtmipmnejppoeiaaPFnFailLoanx9
set_option linter.unusedVariables false
set_option linter.unusedSimpArgs false
namespace Go.Proofs.Ytmipmnejppoeiaa.Pure
open Go.RowKit Go.Proofs.Ytmipmnejppoeiaa.PFnFailLoan Go.Proofs.YtmipmnejppoeiaaW.PrintWords Go.Proofs.YtmipmnejppoeiaaW.PrintLast Go.Proofs.YtmipmnejppoeiaaW.PrintMore

/-! ### base -/
theorem fuel {k n : Nat} (h : n < k) : ∃ m, k = m + 1 ∧ n ≤ m := ⟨k - 1, by omega, by omega⟩
theorem wrap_id {x : Int} (h1 : -9223372036854775808 ≤ x) (h2 : x ≤ 9223372036854775807) : wrap64 x = x := by unfold wrap64; omega
theorem wrap_succ {i : Nat} (h : i < 4611686018427387904) : wrap64 ((i : Int) + 1) = ((i + 1 : Nat) : Int) := by unfold wrap64; omega
theorem wrap_succ' {i : Int} (h0 : 0 ≤ i) (h : i < 4611686018427387904) : wrap64 (i + 1) = i + 1 := by unfold wrap64; omega
theorem wrap_wrap (x : Int) : wrap64 (wrap64 x) = wrap64 x := by unfold wrap64; omega
theorem wrap_add_l (x y : Int) : wrap64 (wrap64 x + y) = wrap64 (x + y) := by unfold wrap64; omega
theorem wrap_add_r (x y : Int) : wrap64 (x + wrap64 y) = wrap64 (x + y) := by unfold wrap64; omega
theorem wrap_sub_l (x y : Int) : wrap64 (wrap64 x - y) = wrap64 (x - y) := by unfold wrap64; omega
theorem rd_get {xs : List Int} {i : Nat} (h : i < xs.length) : rd xs (i : Int) = xs[i] := by
  simp [rd, List.getD_eq_getElem?_getD, List.getElem?_eq_getElem h]
theorem drop_rd {xs : List Int} {i : Nat} (h : i < xs.length) : xs.drop i = rd xs (i : Int) :: xs.drop (i + 1) := by
  rw [rd_get h, List.drop_eq_getElem_cons h]
theorem drop_end {α : Type} {xs : List α} {i : Nat} (h : xs.length ≤ i) : xs.drop i = [] := List.drop_eq_nil_of_le h
theorem take_rd {xs : List Int} {i : Nat} (h : i < xs.length) : xs.take (i + 1) = xs.take i ++ [rd xs (i : Int)] := by
  rw [rd_get h, List.take_succ_eq_append_getElem h]
theorem rd_mem {xs : List Int} {i : Nat} (h : i < xs.length) : rd xs (i : Int) ∈ xs := by
  rw [rd_get h]; exact List.getElem_mem h
theorem rd_mem' {xs : List Int} {i : Int} (h0 : 0 ≤ i) (h : i < (xs.length : Int)) : rd xs i ∈ xs := by
  obtain ⟨j, rfl⟩ := Int.eq_ofNat_of_zero_le h0
  exact rd_mem (by omega)
theorem mem_rd {xs : List Int} {x : Int} (h : x ∈ xs) : ∃ i : Nat, i < xs.length ∧ rd xs (i : Int) = x := by
  obtain ⟨i, hi, he⟩ := List.getElem_of_mem h
  exact ⟨i, hi, by rw [rd_get hi, he]⟩
theorem ext_rd {xs ys : List Int} (hl : xs.length = ys.length) (h : ∀ i : Nat, i < xs.length → rd xs (i : Int) = rd ys (i : Int)) : xs = ys := by
  apply List.ext_getElem hl
  intro i h1 h2
  have := h i h1
  rwa [rd_get h1, rd_get h2] at this
theorem rd_set {xs : List Int} {i j : Nat} {v : Int} (hj : j < xs.length) : rd (xs.set i v) (j : Int) = if i = j then v else rd xs (j : Int) := by
  rw [rd_get (by simpa using hj), rd_get hj, List.getElem_set]
theorem rd_set_ne {xs : List Int} {i j : Nat} {v : Int} (h : i ≠ j) : rd (xs.set i v) (j : Int) = rd xs (j : Int) := by
  simp only [rd, List.getD_eq_getElem?_getD, Int.toNat_natCast, List.getElem?_set_ne h]
theorem rd_append_l {xs ys : List Int} {i : Nat} (h : i < xs.length) : rd (xs ++ ys) (i : Int) = rd xs (i : Int) := by
  rw [rd_get (by simp; omega), rd_get h, List.getElem_append_left h]
theorem rd_append_r {xs ys : List Int} {i : Nat} (h : xs.length ≤ i) (h2 : i < xs.length + ys.length) : rd (xs ++ ys) (i : Int) = rd ys ((i - xs.length : Nat) : Int) := by
  rw [rd_get (by simp; omega), rd_get (by omega), List.getElem_append_right h]
theorem rd_replicate {n i : Nat} {v : Int} (h : i < n) : rd (List.replicate n v) (i : Int) = v := by
  rw [rd_get (by simpa using h)]; simp
theorem rd_mapRange {n i : Nat} {f : Nat → Int} (h : i < n) : rd ((List.range n).map f) (i : Int) = f i := by
  rw [rd_get (by simpa using h)]; simp
theorem toNat_cast (i : Nat) : ((i : Int) : Int).toNat = i := by simp
theorem mx_max (a b : Int) : mx a b = max a b := by unfold mx; omega
theorem mn_min (a b : Int) : mn a b = min a b := by unfold mn; omega
theorem bits_xor {a b : Int} (ha : 0 ≤ a) (ha2 : a < 4611686018427387904) (hb : 0 ≤ b) (hb2 : b < 4611686018427387904) : 0 ≤ Go.bits .xor .i64 a b ∧ Go.bits .xor .i64 a b < 4611686018427387904 := by
  obtain ⟨a, rfl⟩ := Int.eq_ofNat_of_zero_le ha
  obtain ⟨b, rfl⟩ := Int.eq_ofNat_of_zero_le hb
  have h1 : a < 2 ^ 62 := by omega
  have h2 : b < 2 ^ 62 := by omega
  have h3 := Nat.xor_lt_two_pow h1 h2
  have e : Go.bits .xor .i64 (a : Int) (b : Int) = IntKind.i64.wrap (((BitVec.ofInt 64 (a : Int)) ^^^ (BitVec.ofInt 64 (b : Int))).toNat : Int) := rfl
  have ha' : (BitVec.ofInt 64 (a : Int)).toNat = a := by rw [BitVec.ofInt_natCast, BitVec.toNat_ofNat]; exact Nat.mod_eq_of_lt (by omega)
  have hb' : (BitVec.ofInt 64 (b : Int)).toNat = b := by rw [BitVec.ofInt_natCast, BitVec.toNat_ofNat]; exact Nat.mod_eq_of_lt (by omega)
  rw [e, BitVec.toNat_xor, ha', hb', IntKind.wrap_i64]
  omega
theorem cast0 : ((0 : Nat) : Int) = 0 := rfl
theorem w01 : wrap64 (0 + 1) = 1 := by unfold wrap64; omega
theorem w12 : wrap64 (1 + 1) = 2 := by unfold wrap64; omega
theorem w23 : wrap64 (2 + 1) = 3 := by unfold wrap64; omega
theorem w34 : wrap64 (3 + 1) = 4 := by unfold wrap64; omega
theorem w45 : wrap64 (4 + 1) = 5 := by unfold wrap64; omega

/-! ### reader -/
/-- A pick: a number below the bound (0 where there is none), one place on. -/
theorem pick_spec (k : Nat) (hk : 1 ≤ k) (b : List Int) (hb : ∀ x ∈ b, 0 ≤ x ∧ x ≤ 255) (hl : b.length ≤ 2000) (p : Int) (hp0 : 0 ≤ p) (hp : p ≤ 1000000) (n : Int) (hn : n ≤ 1000000000000) :
    ∃ v, spec_reader_pick.f k b p n = some (v, p + 1) ∧ 0 ≤ v ∧ (0 < n → v < n) ∧ (n ≤ 0 → v = 0) := by
  obtain ⟨k, rfl, -⟩ := fuel hk
  have hw : wrap64 (p + 1) = p + 1 := wrap_succ' hp0 (by omega)
  have hw2 : wrap64 (p + 1 - 1) = p := by rw [wrap_id (by omega) (by omega)]; omega
  unfold spec_reader_pick.f
  rw [hw]
  by_cases h1 : n < 1
  · rw [if_pos h1]
    exact ⟨0, by simp [spec_reader_pick.j0], by omega, by omega, fun _ => rfl⟩
  · rw [if_neg h1]
    by_cases h2 : b.length = 0
    · have e : ((b.length : Int) == 0) = true := by simp [h2]
      rw [e]
      exact ⟨0, by simp [spec_reader_pick.j0], by omega, fun _ => by omega, fun _ => rfl⟩
    · have e : ((b.length : Int) == 0) = false := by rw [beq_eq_false_iff_ne]; omega
      rw [e]
      simp only [spec_reader_pick.j0]
      rw [if_neg (by decide), hw2]
      have rdb : ∀ i : Int, 0 ≤ i → i < (b.length : Int) → 0 ≤ rd b i ∧ rd b i ≤ 255 := fun i h0 h => hb _ (rd_mem' h0 h)
      by_cases h3 : p < (b.length : Int)
      · rw [if_pos h3, if_pos hp0, if_neg (by omega)]
        have hr := rdb p hp0 h3
        rw [wrap_id (x := rd b p) (by omega) (by omega), Int.tmod_eq_emod_of_nonneg hr.1]
        exact ⟨_, rfl, Int.emod_nonneg _ (by omega), fun _ => Int.emod_lt_of_pos _ (by omega), fun h => by omega⟩
      · have hL : (0 : Int) < (b.length : Int) := by omega
        have m1 := Int.emod_nonneg p (b := (b.length : Int)) (by omega)
        have m2 := Int.emod_lt_of_pos p hL
        have w7 : wrap64 (wrap64 (p * 7) + 3) = p * 7 + 3 := by rw [wrap_add_l, wrap_id (by omega) (by omega)]
        have m3 := Int.emod_nonneg (p * 7 + 3) (b := (b.length : Int)) (by omega)
        have m4 := Int.emod_lt_of_pos (p * 7 + 3) hL
        rw [if_neg h3, if_neg (by omega)]
        rw [w7]
        rw [Int.tmod_eq_emod_of_nonneg hp0, Int.tmod_eq_emod_of_nonneg (by omega : (0 : Int) ≤ p * 7 + 3)]
        rw [if_pos m1, if_pos m2, if_pos m3, if_pos m4, if_neg (by omega)]
        have r1 := rdb _ m1 m2
        have r2 := rdb _ m3 m4
        have hq : 0 ≤ Int.tdiv p (b.length : Int) ∧ Int.tdiv p (b.length : Int) ≤ p := by
          rw [Int.tdiv_eq_ediv_of_nonneg hp0]
          exact ⟨Int.ediv_nonneg hp0 (by omega), Int.ediv_le_self _ hp0⟩
        generalize rd b (p % (b.length : Int)) = x at *
        generalize rd b ((p * 7 + 3) % (b.length : Int)) = y at *
        generalize Int.tdiv p (b.length : Int) = q at *
        have hx : wrap64 x = x := wrap_id (by omega) (by omega)
        have hy : wrap64 y = y := wrap_id (by omega) (by omega)
        have hqq : wrap64 q = q := wrap_id (by omega) (by omega)
        rw [hx, hy, hqq]
        have e1 : wrap64 (x * 131) = x * 131 := wrap_id (by omega) (by omega)
        have e2 : wrap64 (y * 1117) = y * 1117 := wrap_id (by omega) (by omega)
        have e3 : wrap64 (p * 29) = p * 29 := wrap_id (by omega) (by omega)
        have e4 : wrap64 (q * 53) = q * 53 := wrap_id (by omega) (by omega)
        rw [e1, e2, e3, e4]
        have e5 : wrap64 (x * 131 + y * 1117) = x * 131 + y * 1117 := wrap_id (by omega) (by omega)
        rw [e5]
        have e6 : wrap64 (x * 131 + y * 1117 + p * 29) = x * 131 + y * 1117 + p * 29 := wrap_id (by omega) (by omega)
        rw [e6]
        have e7 : wrap64 (x * 131 + y * 1117 + p * 29 + q * 53) = x * 131 + y * 1117 + p * 29 + q * 53 := wrap_id (by omega) (by omega)
        rw [e7]
        have hz : 0 ≤ x * 131 + y * 1117 + p * 29 + q * 53 ∧ x * 131 + y * 1117 + p * 29 + q * 53 ≤ 1000000000 := by omega
        generalize x * 131 + y * 1117 + p * 29 + q * 53 = z at *
        have hz64 : 0 ≤ Int.tdiv z 64 ∧ Int.tdiv z 64 ≤ z := by
          rw [Int.tdiv_eq_ediv_of_nonneg hz.1]; omega
        rw [wrap_id (x := Int.tdiv z 64) (by omega) (by omega)]
        have hxor := bits_xor (a := z) (b := Int.tdiv z 64) hz.1 (by omega) hz64.1 (by omega)
        rw [Int.tmod_eq_emod_of_nonneg hxor.1]
        exact ⟨_, rfl, Int.emod_nonneg _ (by omega), fun _ => Int.emod_lt_of_pos _ (by omega), fun h => by omega⟩
/-- One of some numbers. -/
theorem one_spec (k : Nat) (hk : 1 ≤ k) (b : List Int) (hb : ∀ x ∈ b, 0 ≤ x ∧ x ≤ 255) (hl : b.length ≤ 2000) (p : Int) (hp0 : 0 ≤ p) (hp : p ≤ 1000000) (l : List Int) (hn0 : l ≠ []) (hn : l.length ≤ 1000000) :
    ∃ v, spec_reader_one.f k b p l = some (v, p + 1) ∧ v ∈ l := by
  have h0 : 0 < l.length := List.length_pos_iff.2 hn0
  obtain ⟨v, hv, h1, h2, -⟩ := pick_spec k hk b hb hl p hp0 hp (l.length : Int) (by omega)
  unfold spec_reader_one.f
  rw [hv]
  simp only [Option.bind_some]
  rw [if_pos h1, if_pos (h2 (by omega))]
  exact ⟨_, rfl, rd_mem' h1 (h2 (by omega))⟩
theorem reader_bytes {l : List Int} (h : ∀ x ∈ l, (Lit.int .u8 x).wf = true) : ∀ x ∈ l, 0 ≤ x ∧ x ≤ 255 := by
  intro x hx
  have := h x hx
  simp [Lit.wf, IntKind.min, IntKind.max, IntKind.bits, IntKind.signed] at this
  omega
/-- A reader of some code: its bytes. -/
theorem newReader_spec (l : List Int) (h : ∀ x ∈ l, 0 ≤ x ∧ x ≤ 255) : ∃ b : List Int, spec_newReader.f l = some (b, 0) ∧ (∀ x ∈ b, 0 ≤ x ∧ x ≤ 255) ∧ b.length ≤ 2000 := by
  unfold spec_newReader.f
  by_cases h1 : (l.length : Int) > 2000
  · rw [if_pos h1, if_pos (by omega)]
    exact ⟨_, rfl, fun x hx => h x (List.mem_of_mem_take hx), by simp; omega⟩
  · rw [if_neg h1]
    exact ⟨_, rfl, h, by omega⟩

/-! ### copyints -/
theorem copyInts_spec (l : List Int) (hl : l.length ≤ 1000000) : spec_copyInts.f l = some l := by
  unfold spec_copyInts.f
  simp only [Option.bind_some]
  rw [if_pos (by simp; omega)]; simp

/-! ### drawloans -/
/-- A loan of few guards. -/
def SmallL (l : S56) : Prop := l.f2.length ≤ 40
def Small13 (l : S56) : Prop := l.f2.length ≤ 13
def SmallLs (ls : List S56) : Prop := ls.length ≤ 6 ∧ ∀ l ∈ ls, SmallL l
def SmallLs13 (ls : List S56) : Prop := ls.length ≤ 6 ∧ ∀ l ∈ ls, Small13 l
theorem SmallLs13.up {ls : List S56} (h : SmallLs13 ls) : SmallLs ls := ⟨h.1, fun l hl => by have := h.2 l hl; unfold Small13 at this; unfold SmallL; omega⟩
theorem someLoans_l1 (b : List Int) (hb : ∀ x ∈ b, 0 ≤ x ∧ x ≤ 255) (hl : b.length ≤ 2000) (m : Nat) (hm : 1 ≤ m) (hm2 : m ≤ 13) (bo am n : Int) (acc : List S56) (hacc : acc.length ≤ 100) (R : (List S56) × Int → Prop) (p0 B : Int) (hp0 : 0 ≤ p0) (hB : B ≤ 100000) (K : Nat)
    (cont : ∀ (l : S56) (p' : Int) (k' : Nat), Small13 l → p0 ≤ p' → p' ≤ B → K ≤ k' → ∃ r, spec_someLoans.l0 k' (m : Int) (acc ++ [l]) (wrap64 (n - 1)) b p' = some r ∧ R r) :
    ∀ (d k i : Nat) (g : List Int) (p : Int), i + d = m → g.length ≤ i → p0 ≤ p → p + d ≤ B → K + d + 1 < k → ∃ r, spec_someLoans.l1 k (m : Int) acc n (i : Int) b p bo am g = some r ∧ R r := by
  intro d
  induction d with
  | zero =>
    intro k i g p hi hg h0 h1 hk
    obtain ⟨k, rfl, hk⟩ := fuel hk
    simp only [spec_someLoans.l1]
    rw [if_neg (by omega)]
    by_cases h2 : (g.length : Int) = 0
    · rw [if_pos h2, if_neg (by omega), if_pos (by omega)]
      exact cont _ p k (by simp [Small13]) h0 (by omega) (by omega)
    · rw [if_neg h2, if_pos (by omega)]
      exact cont _ p k (by simp [Small13]; omega) h0 (by omega) (by omega)
  | succ d ih =>
    intro k i g p hi hg h0 h1 hk
    obtain ⟨k, rfl, hk⟩ := fuel hk
    simp only [spec_someLoans.l1]
    rw [if_pos (by omega), wrap_succ (by omega)]
    by_cases h2 : (i : Int) = bo
    · rw [if_pos h2]
      exact ih k (i + 1) g p (by omega) (by omega) h0 (by omega) (by omega)
    · rw [if_neg h2]
      obtain ⟨v, hv, -⟩ := pick_spec k (by omega) b hb hl p (by omega) (by omega) 3 (by omega)
      rw [hv]
      simp only [Option.bind_some]
      by_cases h3 : v = 0
      · rw [if_pos h3, if_pos (by omega)]
        exact ih k (i + 1) (g ++ [(i : Int)]) (p + 1) (by omega) (by simp; omega) (by omega) (by omega) (by omega)
      · rw [if_neg h3]
        exact ih k (i + 1) g (p + 1) (by omega) (by omega) (by omega) (by omega) (by omega)
theorem someLoans_l0 (b : List Int) (hb : ∀ x ∈ b, 0 ≤ x ∧ x ≤ 255) (hl : b.length ≤ 2000) (m : Nat) (hm : 1 ≤ m) (hm2 : m ≤ 13) : ∀ (c k : Nat) (acc : List S56) (p : Int), acc.length + c ≤ 6 → (∀ l ∈ acc, Small13 l) → 0 ≤ p → p + 20 * c ≤ 50000 → 20 * c + 1 < k →
    ∃ r, spec_someLoans.l0 k (m : Int) acc (c : Int) b p = some r ∧ SmallLs13 r.1 ∧ p ≤ r.2 ∧ r.2 ≤ p + 20 * c := by
  intro c
  induction c with
  | zero =>
    intro k acc p h1 h2 h3 h4 hk
    obtain ⟨k, rfl, hk⟩ := fuel hk
    simp only [spec_someLoans.l0]
    rw [if_neg (by omega)]
    exact ⟨_, rfl, ⟨by simpa using h1, h2⟩, by simp, by simp⟩
  | succ c ih =>
    intro k acc p h1 h2 h3 h4 hk
    obtain ⟨k, rfl, hk⟩ := fuel hk
    simp only [spec_someLoans.l0]
    rw [if_pos (by omega)]
    obtain ⟨v, hv, -⟩ := pick_spec k (by omega) b hb hl p h3 (by omega) (m : Int) (by omega)
    rw [hv]
    simp only [Option.bind_some]
    obtain ⟨u, hu, -⟩ := pick_spec k (by omega) b hb hl (p + 1) (by omega) (by omega) 200 (by omega)
    rw [hu]
    simp only [Option.bind_some]
    obtain ⟨z, hz, -⟩ := one_spec k (by omega) b hb hl (p + 1 + 1) (by omega) (by omega) [100, 50, wrap64 (1 + u), 33] (by simp) (by simp)
    rw [hz]
    simp only [Option.bind_some]
    have e : wrap64 (((c + 1 : Nat) : Int) - 1) = (c : Int) := by rw [wrap_id (by omega) (by omega)]; omega
    have := someLoans_l1 b hb hl m hm hm2 v z ((c + 1 : Nat) : Int) acc (by omega) (fun r => SmallLs13 r.1 ∧ p ≤ r.2 ∧ r.2 ≤ p + 20 * (c + 1 : Nat)) (p + 1 + 1 + 1) (p + 20) (by omega) (by omega) (20 * c + 2)
      (fun l p' k' hsl hp1 hp2 hk' => by
        rw [e]
        obtain ⟨r, hr, h5, h6, h7⟩ := ih k' (acc ++ [l]) p' (by simp; omega) (fun x hx => by
          rcases List.mem_append.1 hx with hx | hx
          · exact h2 x hx
          · simp at hx; rw [hx]; exact hsl) (by omega) (by omega) (by omega)
        exact ⟨r, hr, h5, by omega, by omega⟩) m k 0 [] (p + 1 + 1 + 1) (by omega) (by simp) (by omega) (by omega) (by omega)
    exact this
theorem someLoans_spec (b : List Int) (hb : ∀ x ∈ b, 0 ≤ x ∧ x ≤ 255) (hl : b.length ≤ 2000) (m : Int) (hm : m ≤ 13) (k : Nat) (hk : 200 < k) (p : Int) (h0 : 0 ≤ p) (h1 : p ≤ 1000) :
    ∃ r, spec_someLoans.f k b p m = some r ∧ SmallLs13 r.1 ∧ p ≤ r.2 ∧ r.2 ≤ p + 200 := by
  unfold spec_someLoans.f
  simp only [Option.bind_some]
  by_cases h2 : m < 2
  · rw [if_pos h2]
    exact ⟨_, rfl, ⟨by simp, by simp⟩, by simp, by simp; omega⟩
  · rw [if_neg h2]
    obtain ⟨z, hz, hm3⟩ := one_spec k (by omega) b hb hl p (by omega) (by omega) [3, 2, 4, 1, 0, 6] (by simp) (by simp)
    rw [hz]
    simp only [Option.bind_some]
    have hz2 : 0 ≤ z ∧ z ≤ 6 := by simp at hm3; omega
    obtain ⟨z, rfl⟩ := Int.eq_ofNat_of_zero_le hz2.1
    obtain ⟨m, rfl⟩ := Int.eq_ofNat_of_zero_le (show 0 ≤ m by omega)
    obtain ⟨r, hr, h5, h6, h7⟩ := someLoans_l0 b hb hl m (by omega) (by omega) z k [] (p + 1) (by simp; omega) (by simp) (by omega) (by omega) (by omega)
    exact ⟨r, hr, h5, by omega, by omega⟩
theorem small_set {ls : List S56} (h : SmallLs ls) (l : S56) (hl : SmallL l) (i : Nat) : SmallLs (ls.set i l) := by
  refine ⟨by simpa using h.1, fun x hx => ?_⟩
  rcases List.mem_or_eq_of_mem_set hx with h5 | h5
  · exact h.2 x h5
  · rw [h5]; exact hl
theorem anyLoans_spec (b : List Int) (hb : ∀ x ∈ b, 0 ≤ x ∧ x ≤ 255) (hl : b.length ≤ 2000) (k : Nat) (hk : 200 < k) (p : Int) (h0 : 0 ≤ p) (h1 : p ≤ 700) :
    ∃ r, spec_anyLoans.f k b p = some r ∧ SmallLs r.1 ∧ r.2.1 ≤ 13 ∧ 0 ≤ r.2.1 ∧ p ≤ r.2.2 ∧ r.2.2 ≤ p + 250 := by
  unfold spec_anyLoans.f
  obtain ⟨z, hz, hm⟩ := one_spec k (by omega) b hb hl p (by omega) (by omega) [4, 3, 5, 2, 1, 8] (by simp) (by simp)
  rw [hz]
  simp only [Option.bind_some]
  have hz2 : 1 ≤ z ∧ z ≤ 8 := by simp at hm; omega
  obtain ⟨r, hr, h5, h6, h7⟩ := someLoans_spec b hb hl z (by omega) k hk (p + 1) (by omega) (by omega)
  obtain ⟨ls, q⟩ := r
  simp only at h5 h6 h7
  have h13 := h5.2
  replace h5 := h5.up
  rw [hr]
  simp only [Option.bind_some]
  have hls := h5.1
  by_cases h2 : (ls.length : Int) > 0
  · rw [if_pos h2]
    have hf : Small13 (rd_T56 ls 0) := by
      have h3 : 0 < ls.length := by omega
      have e : rd_T56 ls 0 = ls[0] := by
        simp [rd_T56, List.getD_eq_getElem?_getD, List.getElem?_eq_getElem h3]
      rw [e]; exact h13 _ (List.getElem_mem h3)
    obtain ⟨v, hv, -⟩ := pick_spec k (by omega) b hb hl q (by omega) (by omega) 20 (by omega)
    rw [hv]
    simp only [Option.bind_some]
    by_cases h3 : v = 0
    · rw [if_pos h3]
      obtain ⟨u, hu, -⟩ := one_spec k (by omega) b hb hl (q + 1) (by omega) (by omega) [0, 100001] (by simp) (by simp)
      rw [hu]
      simp only [Option.bind_some]
      rw [if_pos (by omega)]
      exact ⟨_, rfl, small_set h5 _ (by unfold Small13 at hf; unfold SmallL; exact Nat.le_trans hf (by omega)) _, by simp; omega, by simp; omega, by simp; omega, by simp; omega⟩
    · rw [if_neg h3]
      by_cases h4 : v = 1
      · rw [if_pos h4, if_pos (by omega)]
        unfold Small13 at hf
        rw [copyInts_spec _ (by omega)]
        simp only [Option.bind_some]
        obtain ⟨u, hu, -⟩ := one_spec k (by omega) b hb hl (q + 1) (by omega) (by omega) [(rd_T56 ls 0).f0, z, (-1)] (by simp) (by simp)
        rw [hu]
        simp only [Option.bind_some]
        rw [if_pos (by omega)]
        exact ⟨_, rfl, small_set h5 _ (by simp [SmallL]; omega) _, by simp; omega, by simp; omega, by simp; omega, by simp; omega⟩
      · rw [if_neg h4]
        by_cases h6 : v = 2
        · rw [if_pos h6]
          obtain ⟨u, hu, hm4⟩ := one_spec k (by omega) b hb hl (q + 1) (by omega) (by omega) [0, 1, 13] (by simp) (by simp)
          rw [hu]
          simp only [Option.bind_some]
          have hu2 : 0 ≤ u ∧ u ≤ 13 := by simp at hm4; omega
          exact ⟨_, rfl, h5, hu2.2, hu2.1, by simp; omega, by simp; omega⟩
        · rw [if_neg h6]
          exact ⟨_, rfl, h5, by simp; omega, by simp; omega, by simp; omega, by simp; omega⟩
  · rw [if_neg h2]
    exact ⟨_, rfl, h5, by simp; omega, by simp; omega, by simp; omega, by simp; omega⟩
theorem stakesOf_l0 (b : List Int) (hb : ∀ x ∈ b, 0 ≤ x ∧ x ≤ 255) (hl : b.length ≤ 2000) (ls : List S56) (n : Nat) (hn : n ≤ 13) : ∀ (d k i : Nat) (acc : List Int) (p : Int), i + d = n → acc.length = i → d + 1 < k → 0 ≤ p → p + 2 * d ≤ 1000 →
    ∃ out q, spec_stakesOf.l0 k ls (n : Int) acc (i : Int) b p = some (out, ls, q) ∧ out.length = n ∧ p ≤ q ∧ q ≤ p + 2 * d + 2 := by
  intro d
  induction d with
  | zero =>
    intro k i acc p hi ha hk h0 h1
    obtain ⟨k, rfl, hk⟩ := fuel hk
    simp only [spec_stakesOf.l0]
    rw [if_neg (by omega)]
    by_cases h2 : (acc.length : Int) > 0
    · rw [if_pos h2]
      obtain ⟨v, hv, -⟩ := pick_spec k (by omega) b hb hl p h0 (by omega) 20 (by omega)
      rw [hv]
      simp only [Option.bind_some]
      by_cases h3 : v = 0
      · rw [if_pos h3]
        obtain ⟨u, hu, -⟩ := one_spec k (by omega) b hb hl (p + 1) (by omega) (by omega) [(-1), 100001] (by simp) (by simp)
        rw [hu]
        simp only [Option.bind_some]
        rw [if_pos h2]
        exact ⟨_, _, rfl, by simp; omega, by omega, by omega⟩
      · rw [if_neg h3]
        exact ⟨_, _, rfl, by omega, by omega, by omega⟩
    · rw [if_neg h2]
      exact ⟨_, _, rfl, by omega, by omega, by omega⟩
  | succ d ih =>
    intro k i acc p hi ha hk h0 h1
    obtain ⟨k, rfl, hk⟩ := fuel hk
    simp only [spec_stakesOf.l0]
    rw [if_pos (by omega), wrap_succ (by omega)]
    obtain ⟨v, hv, -⟩ := pick_spec k (by omega) b hb hl p h0 (by omega) 250 (by omega)
    rw [hv]
    simp only [Option.bind_some]
    obtain ⟨u, hu, -⟩ := one_spec k (by omega) b hb hl (p + 1) (by omega) (by omega) [200, 100, v, 0, 1000] (by simp) (by simp)
    rw [hu]
    simp only [Option.bind_some]
    rw [if_pos (by omega)]
    obtain ⟨out, q, h5, h6, h7, h8⟩ := ih k (i + 1) (acc ++ [u]) (p + 1 + 1) (by omega) (by simp; omega) (by omega) (by omega) (by omega)
    exact ⟨out, q, h5, h6, by omega, by omega⟩
theorem stakesOf_spec (b : List Int) (hb : ∀ x ∈ b, 0 ≤ x ∧ x ≤ 255) (hl : b.length ≤ 2000) (k : Nat) (hk : 200 < k) (p : Int) (h0 : 0 ≤ p) (h1 : p ≤ 700) :
    ∃ ss ls q, spec_stakesOf.f k b p = some (ss, ls, q) ∧ ss.length ≤ 13 ∧ SmallLs ls ∧ 0 ≤ q ∧ q ≤ 10000 := by
  unfold spec_stakesOf.f
  obtain ⟨r, hr, h2, h3, h4, h5, h6⟩ := anyLoans_spec b hb hl k hk p h0 h1
  obtain ⟨ls, n, q⟩ := r
  simp only at h2 h3 h4 h5 h6
  rw [hr]
  simp only [Option.bind_some]
  obtain ⟨n, rfl⟩ := Int.eq_ofNat_of_zero_le h4
  obtain ⟨out, q2, ho, hl2, hq1, hq2⟩ := stakesOf_l0 b hb hl ls n (by omega) n k 0 [] q (by omega) rfl (by omega) (by omega) (by omega)
  exact ⟨out, ls, q2, ho, by omega, h2, by omega, by omega⟩

/-! ### listm -/
theorem pigeon : ∀ (n : Nat) (xs : List Int), xs.Nodup → (∀ x ∈ xs, 0 ≤ x ∧ x < (n : Int)) → xs.length ≤ n := by
  intro n
  induction n with
  | zero =>
    intro xs _ h
    cases xs with
    | nil => simp
    | cons x xs => have := h x (by simp); omega
  | succ n ih =>
    intro xs hn h
    by_cases hm : (n : Int) ∈ xs
    · have h1 := ih (xs.erase (n : Int)) (hn.erase _) (fun x hx => by
        have h2 := (hn.mem_erase_iff).1 hx
        have h3 := h x h2.2
        have h4 := h2.1
        omega)
      rw [List.length_erase_of_mem hm] at h1
      omega
    · have h1 := ih xs hn (fun x hx => by
        have h3 := h x hx
        have h4 : x ≠ (n : Int) := fun e => hm (e ▸ hx)
        omega)
      omega
/-- Fewer different members than there are: one is missing. -/
theorem one_missing : ∀ (n : Nat) (xs : List Int), xs.length < n → ∃ j : Nat, j < n ∧ (j : Int) ∉ xs := by
  intro n
  induction n with
  | zero => intro xs h; omega
  | succ n ih =>
    intro xs h
    by_cases hm : (n : Int) ∈ xs
    · obtain ⟨j, hj, hx⟩ := ih (xs.erase (n : Int)) (by rw [List.length_erase_of_mem hm]; have := List.length_pos_of_mem hm; omega)
      refine ⟨j, by omega, fun hmem => hx ?_⟩
      exact (List.mem_erase_of_ne (by omega)).2 hmem
    · exact ⟨n, by omega, hm⟩
/-- Members, one after the other, in range and not seen yet. -/
def memB (n : Int) : List Int → List Int → Bool
  | _, [] => true
  | seen, x :: rest => decide (0 ≤ x ∧ x < n) && (!decide (x ∈ seen) && memB n (seen ++ [x]) rest)
theorem memB_iff (n : Int) : ∀ (xs seen : List Int), memB n seen xs = true ↔ (∀ x ∈ xs, 0 ≤ x ∧ x < n ∧ x ∉ seen) ∧ xs.Nodup := by
  intro xs
  induction xs with
  | nil => intro seen; simp [memB]
  | cons a xs ih =>
    intro seen
    simp only [memB, Bool.and_eq_true, decide_eq_true_eq, Bool.not_eq_true', decide_eq_false_iff_not, ih, List.mem_cons, List.mem_append, List.not_mem_nil, or_false, List.nodup_cons]
    constructor
    · rintro ⟨⟨h1, h2⟩, h3, h4, h5⟩
      refine ⟨?_, fun ha => (h4 a ha).2.2 (Or.inr rfl), h5⟩
      rintro x (rfl | hx)
      · exact ⟨h1, h2, h3⟩
      · obtain ⟨a1, a2, a3⟩ := h4 x hx
        exact ⟨a1, a2, fun h => a3 (Or.inl h)⟩
    · rintro ⟨h1, h2, h3⟩
      obtain ⟨a1, a2, a3⟩ := h1 a (Or.inl rfl)
      refine ⟨⟨a1, a2⟩, a3, fun x hx => ?_, h3⟩
      obtain ⟨b1, b2, b3⟩ := h1 x (Or.inr hx)
      refine ⟨b1, b2, ?_⟩
      rintro (h | rfl)
      · exact b3 h
      · exact h2 hx
/-- Different members of a body. -/
def GoodM (xs : List Int) (n : Int) : Prop := xs.Nodup ∧ ∀ x ∈ xs, 0 ≤ x ∧ x < n
instance (xs : List Int) (n : Int) : Decidable (GoodM xs n) := inferInstanceAs (Decidable (_ ∧ _))
theorem memB_good (n : Int) (xs : List Int) : memB n [] xs = decide (GoodM xs n) := by
  rw [Bool.eq_iff_iff, memB_iff, decide_eq_true_eq]
  unfold GoodM
  constructor
  · rintro ⟨h, hn⟩
    exact ⟨hn, fun x hx => ⟨(h x hx).1, (h x hx).2.1⟩⟩
  · rintro ⟨hn, h⟩
    exact ⟨fun x hx => ⟨(h x hx).1, (h x hx).2, by simp⟩, hn⟩
theorem GoodM.le {xs : List Int} {n : Nat} (h : GoodM xs (n : Int)) : xs.length ≤ n := pigeon n xs h.1 h.2
/-- The first place of a number behind some. -/
def idxM : List Int → Int → Nat → Int
  | [], _, _ => -1
  | y :: ys, x, i => if y = x then (i : Int) else idxM ys x (i + 1)
theorem idxM_neg : ∀ (xs : List Int) (x : Int) (i : Nat), idxM xs x i < 0 ↔ x ∉ xs := by
  intro xs
  induction xs with
  | nil => intro x i; simp [idxM]
  | cons y ys ih =>
    intro x i
    simp only [idxM]
    by_cases e : y = x
    · rw [if_pos e]; simp [e]
    · rw [if_neg e, ih]
      have e' : ¬ x = y := fun h => e h.symm
      simp [e']
theorem idxM_nonneg (xs : List Int) (x : Int) (i : Nat) : 0 ≤ idxM xs x i ↔ x ∈ xs := by
  have := idxM_neg xs x i
  by_cases h : x ∈ xs
  · simp only [h, not_true, iff_false] at this
    simp [h]; omega
  · simp only [h, not_false_iff, iff_true] at this
    simp [h]; omega
theorem idxM_at : ∀ (xs : List Int) (x : Int) (i : Nat), x ∈ xs → ∃ j : Nat, idxM xs x i = ((i + j : Nat) : Int) ∧ j < xs.length ∧ rd xs (j : Int) = x ∧ ∀ q : Nat, q < j → rd xs (q : Int) ≠ x := by
  intro xs
  induction xs with
  | nil => intro x i h; simp at h
  | cons y ys ih =>
    intro x i h
    by_cases e : y = x
    · exact ⟨0, by simp [idxM, e], by simp, by simp [rd, e], fun q hq => by omega⟩
    · have hx : x ∈ ys := by
        rcases List.mem_cons.1 h with h | h
        · exact absurd h.symm e
        · exact h
      obtain ⟨j, h1, h2, h3, h4⟩ := ih x (i + 1) hx
      refine ⟨j + 1, by simp only [idxM, if_neg e, h1]; omega, by simp; omega, ?_, ?_⟩
      · rw [← h3, rd_get (by simp; omega), rd_get h2]; simp
      · intro q hq
        cases q with
        | zero => rw [rd_get (by simp)]; simpa using e
        | succ q => have := h4 q (by omega); rw [rd_get (by simp; omega)]; rw [rd_get (by omega)] at this; simpa using this
theorem sum_set : ∀ (xs : List Int) (i : Nat) (v : Int), i < xs.length → (xs.set i v).sum = xs.sum - rd xs (i : Int) + v := by
  intro xs
  induction xs with
  | nil => intro i v h; simp at h
  | cons x xs ih =>
    intro i v h
    cases i with
    | zero => simp [rd]; omega
    | succ i =>
      have h2 : i < xs.length := by simpa using h
      have := ih i v h2
      have e : rd (x :: xs) ((i + 1 : Nat) : Int) = rd xs (i : Int) := by rw [rd_get h, rd_get h2]; simp
      simp only [List.set_cons_succ, List.sum_cons, this, e]
      omega
theorem sum_replicate0 (n : Nat) : (List.replicate n (0 : Int)).sum = 0 := by
  induction n with
  | zero => rfl
  | succ n ih => simp [List.replicate_succ, ih]
theorem set_fill {α : Type} (A : List α) (d : Nat) (z v : α) : (A ++ List.replicate (d + 1) z).set A.length v = (A ++ [v]) ++ List.replicate d z := by
  rw [List.set_append_right _ _ (Nat.le_refl _)]
  simp [List.replicate_succ]
theorem set_fill' {α : Type} {A : List α} {i d : Nat} {z v : α} (h : A.length = i) : (A ++ List.replicate (d + 1) z).set i v = (A ++ [v]) ++ List.replicate d z := by
  subst h; exact set_fill A d z v
theorem sum_bound : ∀ (xs : List Int) (lo hi : Int), (∀ x ∈ xs, lo ≤ x ∧ x ≤ hi) → (xs.length : Int) * lo ≤ xs.sum ∧ xs.sum ≤ (xs.length : Int) * hi := by
  intro xs lo hi
  induction xs with
  | nil => intro _; simp
  | cons x xs ih =>
    intro h
    have h1 := ih (fun y hy => h y (by simp [hy]))
    have h2 := h x (by simp)
    have e1 : ((x :: xs).length : Int) * lo = (xs.length : Int) * lo + lo := by simp [Int.add_mul]
    have e2 : ((x :: xs).length : Int) * hi = (xs.length : Int) * hi + hi := by simp [Int.add_mul]
    rw [e1, e2, List.sum_cons]
    omega

/-! ### different -/
theorem flags_set {fl : List Bool} {n : Int} {seen : List Int} {x : Int} (hl : (fl.length : Int) = n) (h : ∀ j : Int, 0 ≤ j → j < n → rdOf false fl j = decide (j ∈ seen)) (h0 : 0 ≤ x) (h1 : x < n) :
    ∀ j : Int, 0 ≤ j → j < n → rdOf false (fl.set x.toNat true) j = decide (j ∈ seen ++ [x]) := by
  intro j hj0 hj
  have := h j hj0 hj
  simp only [rdOf, List.getD_eq_getElem?_getD, List.getElem?_set] at this ⊢
  by_cases e : x = j
  · subst e
    rw [if_pos rfl, if_pos (by omega)]
    simp
  · rw [if_neg (by omega), this]
    have : ¬ j = x := fun h => e h.symm
    simp [this]
theorem different_l0 (xs : List Int) (n : Int) (hb : xs.length < 4611686018427387904) : ∀ (d k i : Nat) (fl : List Bool), (fl.length : Int) = n → (∀ j : Int, 0 ≤ j → j < n → rdOf false fl j = decide (j ∈ xs.take i)) → i + d = xs.length → d < k → impl_differentBelow.l0 k n fl xs (xs.length : Int) (i : Int) = some (memB n (xs.take i) (xs.drop i)) := by
  intro d
  induction d with
  | zero =>
    intro k i fl hl hf hi hk
    obtain ⟨k, rfl, -⟩ := fuel hk
    simp only [impl_differentBelow.l0]
    rw [if_neg (by omega), drop_end (by omega)]
    simp [memB]
  | succ d ih =>
    intro k i fl hl hf hi hk
    obtain ⟨k, rfl, hk⟩ := fuel hk
    simp only [impl_differentBelow.l0]
    rw [if_pos (by omega), if_pos (by omega), if_pos (by omega), wrap_succ (by omega), drop_rd (by omega)]
    simp only [memB]
    by_cases h1 : rd xs (i : Int) < 0
    · rw [if_pos h1, decide_eq_false (by omega)]; rfl
    · rw [if_neg h1]
      by_cases h2 : rd xs (i : Int) ≥ n
      · rw [if_pos h2, decide_eq_false (by omega)]; rfl
      · rw [if_neg h2, if_pos (by omega), if_pos (by omega), hf _ (by omega) (by omega), decide_eq_true (show 0 ≤ rd xs (i : Int) ∧ rd xs (i : Int) < n by omega)]
        by_cases h3 : rd xs (i : Int) ∈ xs.take i
        · rw [decide_eq_true h3, if_pos rfl]; rfl
        · rw [decide_eq_false h3, if_neg (by decide), ih k (i + 1) _ (by simpa using hl) (by rw [take_rd (by omega)]; exact flags_set hl hf (by omega) (by omega)) (by omega) (by omega), take_rd (by omega)]; rfl
theorem different_spec (k : Nat) (xs : List Int) (n : Int) (hn : 0 ≤ n) (hn2 : n ≤ 281474976710656) (hb : xs.length < 4611686018427387904) (hk : xs.length < k) : impl_differentBelow.f k xs n = some (decide (GoodM xs n)) := by
  unfold impl_differentBelow.f
  by_cases h : (xs.length : Int) > n
  · rw [if_pos h, decide_eq_false]
    intro hg
    obtain ⟨m, rfl⟩ := Int.eq_ofNat_of_zero_le hn
    have := hg.le
    omega
  · rw [if_neg h, if_pos hn, if_pos (by omega)]
    have := different_l0 xs n hb xs.length k 0 (List.replicate n.toNat false) (by simp; omega) (fun j h0 h1 => by simp [rdOf, List.getD_eq_getElem?_getD, List.getElem?_replicate]; split <;> rfl) (by omega) hk
    rw [← memB_good]
    simpa using this

/-! ### index -/
theorem index_l0 (xs : List Int) (x : Int) (hb : xs.length < 4611686018427387904) : ∀ (d k i : Nat), i + d = xs.length → d < k → slices_Index_int_int.l0 k xs x (xs.length : Int) (i : Int) = some (idxM (xs.drop i) x i) := by
  intro d
  induction d with
  | zero =>
    intro k i hi hk
    obtain ⟨k, rfl, -⟩ := fuel hk
    simp only [slices_Index_int_int.l0]
    rw [if_neg (by omega), drop_end (by omega)]
    simp [idxM]
  | succ d ih =>
    intro k i hi hk
    obtain ⟨k, rfl, hk⟩ := fuel hk
    simp only [slices_Index_int_int.l0]
    rw [if_pos (by omega), if_pos (by omega), if_pos (by omega), wrap_succ (by omega), drop_rd (by omega)]
    simp only [idxM]
    rw [ih k (i + 1) (by omega) (by omega)]
    by_cases e : x = rd xs (i : Int)
    · rw [if_pos e, if_pos e.symm]
    · rw [if_neg e, if_neg (fun h => e h.symm)]
theorem index_spec (k : Nat) (xs : List Int) (x : Int) (hb : xs.length < 4611686018427387904) (hk : xs.length < k) : slices_Index_int_int.f k xs x = some (idxM xs x 0) := by
  unfold slices_Index_int_int.f
  have := index_l0 xs x hb xs.length k 0 (by omega) hk
  simpa using this

/-! ### contains -/
theorem contains_spec (k : Nat) (xs : List Int) (x : Int) (hb : xs.length < 4611686018427387904) (hk : xs.length < k) : slices_Contains_int_int.f k xs x = some (decide (x ∈ xs)) := by
  unfold slices_Contains_int_int.f
  rw [index_spec k xs x hb hk]
  simp only [Option.bind_some]
  congr 1
  rw [decide_eq_decide]
  exact idxM_nonneg xs x 0

/-! ### loans -/
/-- A loan that is valid. -/
def OkLoan (l : S56) (n : Int) : Prop := 0 ≤ l.f0 ∧ l.f0 < n ∧ 1 ≤ l.f1 ∧ l.f1 ≤ 100000 ∧ 1 ≤ l.f2.length ∧ GoodM l.f2 n ∧ l.f0 ∉ l.f2
instance (l : S56) (n : Int) : Decidable (OkLoan l n) := inferInstanceAs (Decidable (_ ∧ _))
def OkLoans (list : List S56) (n : Int) : Prop := list.length ≤ 16 ∧ 1 ≤ n ∧ n ≤ 12 ∧ ∀ l ∈ list, OkLoan l n
instance (list : List S56) (n : Int) : Decidable (OkLoans list n) := inferInstanceAs (Decidable (_ ∧ _))
theorem rdT_at {xs : List S56} {i : Nat} (h : i < xs.length) : rd_T56 xs (i : Int) = xs[i] := by
  simp [rd_T56, List.getD_eq_getElem?_getD, List.getElem?_eq_getElem h]
theorem drop_rdT {xs : List S56} {i : Nat} (h : i < xs.length) : xs.drop i = rd_T56 xs (i : Int) :: xs.drop (i + 1) := by
  rw [rdT_at h, List.drop_eq_getElem_cons h]
theorem rdT_mem {xs : List S56} {i : Nat} (h : i < xs.length) : rd_T56 xs (i : Int) ∈ xs := by
  rw [rdT_at h]; exact List.getElem_mem h
theorem implValidLoans_l0 (list : List S56) (n : Int) (hn1 : 1 ≤ n) (hn2 : n ≤ 12) (hl : list.length ≤ 16) (hg : ∀ l ∈ list, l.f2.length ≤ 1048576) : ∀ (d k i : Nat), i + d = list.length → d + d + 1048600 < k →
    impl_ValidLoans.l0 k n list (list.length : Int) (i : Int) = some (decide (∀ l ∈ list.drop i, OkLoan l n)) := by
  intro d
  induction d with
  | zero =>
    intro k i hi hk
    obtain ⟨k, rfl, -⟩ := fuel (show 0 < k by omega)
    simp only [impl_ValidLoans.l0]
    rw [if_neg (by omega), drop_end (by omega)]
    simp
  | succ d ih =>
    intro k i hi hk
    obtain ⟨k, rfl, hk⟩ := fuel (show d + d + 1048601 < k by omega)
    obtain ⟨k, rfl, hk⟩ := fuel (show d + d + 1048600 < k by omega)
    simp only [impl_ValidLoans.l0, impl_ValidLoans.j2, if_true]
    rw [if_pos (by omega), if_pos (by omega), if_pos (by omega), drop_rdT (by omega)]
    have hgl := hg _ (rdT_mem (xs := list) (i := i) (by omega))
    generalize rd_T56 list (i : Int) = l at hgl ⊢
    simp only [List.forall_mem_cons]
    by_cases h1 : l.f0 < 0
    · rw [if_pos h1, decide_eq_false]; rintro ⟨h, -⟩; have := h.1; omega
    · rw [if_neg h1]
      by_cases h2 : l.f0 ≥ n
      · rw [if_pos h2, decide_eq_false]; rintro ⟨h, -⟩; have := h.2.1; omega
      · rw [if_neg h2]
        by_cases h3 : l.f1 < 1
        · rw [if_pos h3, decide_eq_false]; rintro ⟨h, -⟩; have := h.2.2.1; omega
        · rw [if_neg h3]
          by_cases h4 : l.f1 > 100000
          · rw [decide_eq_true h4, if_pos rfl, decide_eq_false]; rintro ⟨h, -⟩; have := h.2.2.2.1; omega
          · rw [decide_eq_false h4, if_neg (by decide)]
            by_cases h5 : (l.f2.length : Int) < 1
            · rw [if_pos h5, decide_eq_false]; rintro ⟨h, -⟩; have := h.2.2.2.2.1; omega
            · rw [if_neg h5, different_spec _ _ _ (by omega) (by omega) (by omega) (by omega)]
              simp only [Option.bind_some]
              by_cases h6 : GoodM l.f2 n
              · have hle : l.f2.length ≤ 12 := by
                  obtain ⟨m, rfl⟩ := Int.eq_ofNat_of_zero_le (show 0 ≤ n by omega)
                  have := h6.le
                  omega
                rw [decide_eq_true h6, if_pos rfl, contains_spec _ _ _ (by omega) (by omega)]
                simp only [Option.bind_some]
                by_cases h7 : l.f0 ∈ l.f2
                · rw [decide_eq_true h7, if_pos rfl, decide_eq_false]; rintro ⟨h, -⟩; exact h.2.2.2.2.2.2 h7
                · rw [decide_eq_false h7, if_neg (by decide), wrap_succ (by omega), ih k (i + 1) (by omega) (by omega)]
                  congr 1
                  rw [decide_eq_decide]
                  exact ⟨fun h => ⟨⟨by omega, by omega, by omega, by omega, by omega, h6, h7⟩, h⟩, fun h => h.2⟩
              · rw [decide_eq_false h6, if_neg (by decide), decide_eq_false]; rintro ⟨h, -⟩; exact h6 h.2.2.2.2.2.1
theorem implValidLoans_spec (k : Nat) (list : List S56) (n : Int) (hl : list.length ≤ 1048576) (hg : ∀ l ∈ list, l.f2.length ≤ 1048576) (hk : 1048700 < k) : impl_ValidLoans.f k list n = some (decide (OkLoans list n)) := by
  obtain ⟨k, rfl, hk⟩ := fuel hk
  unfold impl_ValidLoans.f
  simp only [impl_ValidLoans.j0, if_true]
  by_cases h1 : (list.length : Int) > 16
  · rw [if_pos h1, decide_eq_false]; rintro ⟨h, -⟩; omega
  · rw [if_neg h1]
    by_cases h2 : n < 1
    · rw [if_pos h2, decide_eq_false]; rintro ⟨-, h, -⟩; omega
    · rw [if_neg h2]
      by_cases h3 : n > 12
      · rw [decide_eq_true h3, if_pos rfl, decide_eq_false]; rintro ⟨-, -, h, -⟩; omega
      · rw [decide_eq_false h3, if_neg (by decide)]
        have := implValidLoans_l0 list n (by omega) (by omega) (by omega) hg list.length k 0 (by omega) (by omega)
        rw [show (0 : Int) = ((0 : Nat) : Int) from rfl, this]
        congr 1
        rw [decide_eq_decide, List.drop_zero]
        exact ⟨fun h => ⟨by omega, by omega, by omega, h⟩, fun h => h.2.2.2⟩

/-! ### ranges -/
theorem inRange_spec (a lo up : Int) : spec_inRange.f a lo up = some (decide (lo ≤ a ∧ a ≤ up)) := by
  unfold spec_inRange.f
  by_cases h : lo ≤ a <;> simp [h]
theorem allIn_l0 (xs : List Int) (lo up : Int) (hb : xs.length < 4611686018427387904) : ∀ (d k i : Nat), i + d = xs.length → d < k → spec_allIn.l0 k xs lo up (i : Int) = some ((xs.drop i).all fun x => decide (lo ≤ x ∧ x ≤ up)) := by
  intro d
  induction d with
  | zero =>
    intro k i hi hk
    obtain ⟨k, rfl, -⟩ := fuel hk
    simp only [spec_allIn.l0]
    rw [if_neg (by omega), drop_end (by omega)]
    simp
  | succ d ih =>
    intro k i hi hk
    obtain ⟨k, rfl, hk⟩ := fuel hk
    simp only [spec_allIn.l0]
    rw [if_pos (by omega), if_pos (by omega), inRange_spec, wrap_succ (by omega), drop_rd (by omega)]
    simp only [Option.bind_some, List.all_cons]
    rw [ih k (i + 1) (by omega) (by omega)]
    cases decide (lo ≤ rd xs (i : Int) ∧ rd xs (i : Int) ≤ up) <;> simp
theorem allIn_spec (k : Nat) (xs : List Int) (lo up : Int) (hb : xs.length < 4611686018427387904) (hk : xs.length < k) : spec_allIn.f k xs lo up = some (xs.all fun x => decide (lo ≤ x ∧ x ≤ up)) := by
  unfold spec_allIn.f
  have := allIn_l0 xs lo up hb xs.length k 0 (by omega) hk
  simpa using this

/-! ### within -/
theorem allWithin_l0 (xs : List Int) (lo up : Int) (hb : xs.length < 4611686018427387904) : ∀ (d k i : Nat), i + d = xs.length → d < k → impl_allWithin.l0 k lo up xs (xs.length : Int) (i : Int) = some ((xs.drop i).all fun x => decide (lo ≤ x ∧ x ≤ up)) := by
  intro d
  induction d with
  | zero =>
    intro k i hi hk
    obtain ⟨k, rfl, -⟩ := fuel hk
    simp only [impl_allWithin.l0]
    rw [if_neg (by omega), drop_end (by omega)]
    simp
  | succ d ih =>
    intro k i hi hk
    obtain ⟨k, rfl, hk⟩ := fuel hk
    simp only [impl_allWithin.l0]
    rw [if_pos (by omega), if_pos (by omega), if_pos (by omega), wrap_succ (by omega), drop_rd (by omega)]
    simp only [List.all_cons]
    rw [ih k (i + 1) (by omega) (by omega)]
    by_cases h1 : rd xs (i : Int) < lo
    · rw [if_pos h1, decide_eq_false (by omega)]; rfl
    · rw [if_neg h1]
      by_cases h2 : rd xs (i : Int) > up
      · rw [if_pos h2, decide_eq_false (by omega)]; rfl
      · rw [if_neg h2, decide_eq_true (by omega)]; rfl
theorem allWithin_spec (k : Nat) (xs : List Int) (lo up : Int) (hb : xs.length < 4611686018427387904) (hk : xs.length < k) : impl_allWithin.f k xs lo up = some (xs.all fun x => decide (lo ≤ x ∧ x ≤ up)) := by
  unfold impl_allWithin.f
  have := allWithin_l0 xs lo up hb xs.length k 0 (by omega) hk
  simpa using this

/-! ### stakes -/
def OkStakes (stakes : List Int) : Prop := 1 ≤ stakes.length ∧ stakes.length ≤ 12 ∧ ∀ x ∈ stakes, 0 ≤ x ∧ x ≤ 100000
instance (stakes : List Int) : Decidable (OkStakes stakes) := inferInstanceAs (Decidable (_ ∧ _))
theorem implStakes_spec (k : Nat) (stakes : List Int) (hk : 20 < k) : impl_validStakes.f k stakes = some (decide (OkStakes stakes)) := by
  unfold impl_validStakes.f
  by_cases h1 : (stakes.length : Int) ≥ 1
  · rw [if_pos h1]
    by_cases h2 : (stakes.length : Int) ≤ 12
    · rw [if_pos h2, allWithin_spec _ _ _ _ (by omega) (by omega)]
      simp only [Option.bind_some]
      congr 1
      rw [Bool.eq_iff_iff, List.all_eq_true, decide_eq_true_eq]
      exact ⟨fun h => ⟨by omega, by omega, fun x hx => by simpa using h x hx⟩, fun h x hx => by simpa using h.2.2 x hx⟩
    · rw [if_neg h2, decide_eq_false]; rintro ⟨-, h, -⟩; omega
  · rw [if_neg h1, decide_eq_false]; rintro ⟨h, -⟩; omega
theorem specStakes_spec (k : Nat) (stakes : List Int) (hk : 20 < k) : spec_validStakes.f k stakes = some (decide (OkStakes stakes)) := by
  unfold spec_validStakes.f
  rw [inRange_spec]
  simp only [Option.bind_some]
  by_cases h1 : 1 ≤ (stakes.length : Int) ∧ (stakes.length : Int) ≤ 12
  · rw [decide_eq_true h1, if_pos rfl, allIn_spec _ _ _ _ (by omega) (by omega)]
    simp only [Option.bind_some]
    congr 1
    rw [Bool.eq_iff_iff, List.all_eq_true, decide_eq_true_eq]
    exact ⟨fun h => ⟨by omega, by omega, fun x hx => by simpa using h x hx⟩, fun h x hx => by simpa using h.2.2 x hx⟩
  · rw [decide_eq_false h1, if_neg (by decide), decide_eq_false]; rintro ⟨h2, h3, -⟩; exact h1 ⟨by omega, by omega⟩

/-! ### split -/
def splitM (g : Int) (m : Nat) : List Int := (List.range m).map fun i : Nat => g / (m : Int) + if (i : Int) < g % (m : Int) then 1 else 0
theorem splitM_length (g : Int) (m : Nat) : (splitM g m).length = m := by simp [splitM]
theorem splitM_rd {g : Int} {m i : Nat} (h : i < m) : rd (splitM g m) (i : Int) = g / (m : Int) + if (i : Int) < g % (m : Int) then 1 else 0 := rd_mapRange h
theorem sum_steps (a r : Int) (hr : 0 ≤ r) : ∀ m : Nat, ((List.range m).map fun i : Nat => a + if (i : Int) < r then 1 else 0).sum = (m : Int) * a + min (m : Int) r := by
  intro m
  induction m with
  | zero => simp; omega
  | succ m ih =>
    rw [List.range_succ, List.map_append, List.sum_append, ih]
    have e : ((m + 1 : Nat) : Int) * a = (m : Int) * a + a := by push_cast; rw [Int.add_mul]; omega
    rw [e]
    simp only [List.map_cons, List.map_nil, List.sum_cons, List.sum_nil]
    split <;> omega
theorem splitM_sum {g : Int} {m : Nat} (hm : 0 < m) : (splitM g m).sum = g := by
  unfold splitM
  rw [sum_steps _ _ (Int.emod_nonneg _ (by omega))]
  have h1 := Int.emod_lt_of_pos g (b := (m : Int)) (by omega)
  have h2 := Int.mul_ediv_add_emod g (m : Int)
  rw [show min (m : Int) (g % (m : Int)) = g % (m : Int) by omega]
  omega
theorem splitM_bound {g : Int} {m : Nat} (hm : 0 < m) (hg : 0 ≤ g) : ∀ x ∈ splitM g m, 0 ≤ x ∧ x ≤ g := by
  intro x hx
  obtain ⟨i, hi, rfl⟩ := mem_rd hx
  rw [splitM_length] at hi
  rw [splitM_rd hi]
  have h0 := Int.ediv_nonneg hg (show (0 : Int) ≤ m by omega)
  have h2 := Int.mul_ediv_add_emod g (m : Int)
  have h3 : g / (m : Int) ≤ (m : Int) * (g / (m : Int)) := by
    have : (1 : Int) * (g / (m : Int)) ≤ (m : Int) * (g / (m : Int)) := Int.mul_le_mul_of_nonneg_right (by omega) h0
    omega
  have h4 := Int.emod_lt_of_pos g (b := (m : Int)) (by omega)
  have h5 := Int.emod_nonneg g (b := (m : Int)) (by omega)
  split <;> omega

/-! ### spliteven -/
theorem range_map_succ {f : Nat → Int} (i : Nat) : (List.range (i + 1)).map f = (List.range i).map f ++ [f i] := by
  rw [List.range_succ, List.map_append]; rfl
theorem split_val {g : Int} {m : Nat} (hg : 0 ≤ g) (hg2 : g ≤ 1000000) (hm : 0 < m) (hm2 : m ≤ 12) :
    wrap64 (Int.tdiv g (m : Int)) = g / (m : Int) ∧ Int.tmod g (m : Int) = g % (m : Int) ∧ 0 ≤ g / (m : Int) ∧ g / (m : Int) ≤ 1000000 := by
  have h1 := Int.ediv_nonneg hg (show (0 : Int) ≤ m by omega)
  have h2 : g / (m : Int) ≤ g := Int.ediv_le_self _ hg
  rw [Int.tdiv_eq_ediv_of_nonneg hg, Int.tmod_eq_emod_of_nonneg hg]
  exact ⟨wrap_id (by omega) (by omega), rfl, h1, by omega⟩
theorem implSplit_l0 (g : Int) (m : Nat) (hg : 0 ≤ g) (hg2 : g ≤ 1000000) (hm : 0 < m) (hm2 : m ≤ 12) : ∀ (d k i : Nat), i + d = m → d < k →
    impl_SplitEven.l0 k g (m : Int) (((List.range i).map fun j : Nat => g / (m : Int) + if (j : Int) < g % (m : Int) then 1 else 0) ++ List.replicate d 0) (m : Int) (i : Int) = some (splitM g m) := by
  obtain ⟨e1, e2, e3, e4⟩ := split_val hg hg2 hm hm2
  intro d
  induction d with
  | zero =>
    intro k i hi hk
    obtain ⟨k, rfl, -⟩ := fuel hk
    simp only [impl_SplitEven.l0]
    rw [if_neg (by omega)]
    obtain rfl : i = m := by omega
    simp [splitM]
  | succ d ih =>
    intro k i hi hk
    obtain ⟨k, rfl, hk⟩ := fuel hk
    simp only [impl_SplitEven.l0]
    rw [if_pos (by omega), if_neg (by omega), if_pos (by omega), if_pos (by simp; omega), e1, e2, toNat_cast, wrap_succ (by omega)]
    simp only [Option.bind_some]
    rw [set_fill' (by simp)]
    have hr : rd (List.map (fun j : Nat => g / (m : Int) + if (j : Int) < g % (m : Int) then 1 else 0) (List.range i) ++ [g / (m : Int)] ++ List.replicate d 0) (i : Int) = g / (m : Int) := by
      rw [rd_append_l (by simp), rd_append_r (by simp) (by simp)]
      simp [rd]
    have := ih k (i + 1) (by omega) (by omega)
    rw [range_map_succ] at this
    by_cases h : (i : Int) < g % (m : Int)
    · rw [if_pos h] at this
      rw [if_pos h, hr, wrap_id (by omega) (by omega), List.append_assoc, List.set_append_right _ _ (by simp)]
      simp only [List.length_map, List.length_range, Nat.sub_self, List.singleton_append, List.set_cons_zero]
      rw [← this, List.append_assoc]; rfl
    · rw [if_neg h, Int.add_zero] at this
      rw [if_neg h]
      exact this
theorem implSplit_spec (k : Nat) (hk : 14 < k) (g : Int) (m : Int) : impl_SplitEven.f k g m = some (if 0 ≤ g ∧ g ≤ 1000000 ∧ 1 ≤ m ∧ m ≤ 12 then splitM g m.toNat else []) := by
  obtain ⟨k, rfl, hk⟩ := fuel hk
  unfold impl_SplitEven.f
  simp only [impl_SplitEven.j0, if_true]
  by_cases h1 : g < 0
  · rw [if_pos h1, if_neg (by omega)]
  · rw [if_neg h1]
    by_cases h2 : g > 1000000
    · rw [if_pos h2, if_neg (by omega)]
    · rw [if_neg h2]
      by_cases h3 : m < 1
      · rw [if_pos h3, if_neg (by omega)]
      · rw [if_neg h3]
        by_cases h4 : m > 12
        · rw [decide_eq_true h4, if_pos rfl, if_neg (by omega)]
        · rw [decide_eq_false h4, if_neg (by decide), if_pos (by omega), if_pos (by omega), if_pos (by omega)]
          obtain ⟨m, rfl⟩ := Int.eq_ofNat_of_zero_le (show 0 ≤ m by omega)
          simp only [Option.bind_some, Int.toNat_natCast, List.length_replicate]
          have := implSplit_l0 g m (by omega) (by omega) (by omega) (by omega) m k 0 (by omega) (by omega)
          simpa using this
theorem specSplit_l0 (g : Int) (m : Nat) (hg : 0 ≤ g) (hg2 : g ≤ 1000000) (hm : 0 < m) (hm2 : m ≤ 12) : ∀ (d k i : Nat), i + d = m → d < k →
    spec_split.l0 k g (m : Int) ((List.range i).map fun j : Nat => g / (m : Int) + if (j : Int) < g % (m : Int) then 1 else 0) (i : Int) = some (splitM g m) := by
  obtain ⟨e1, e2, e3, e4⟩ := split_val hg hg2 hm hm2
  intro d
  induction d with
  | zero =>
    intro k i hi hk
    obtain ⟨k, rfl, -⟩ := fuel hk
    simp only [spec_split.l0]
    rw [if_neg (by omega)]
    obtain rfl : i = m := by omega
    simp [splitM]
  | succ d ih =>
    intro k i hi hk
    obtain ⟨k, rfl, hk⟩ := fuel hk
    simp only [spec_split.l0]
    rw [if_pos (by omega), if_neg (by omega), e1, e2, wrap_succ (by omega)]
    have := ih k (i + 1) (by omega) (by omega)
    rw [range_map_succ] at this
    by_cases h : (i : Int) < g % (m : Int)
    · rw [if_pos h] at this
      rw [if_pos h, if_pos (by simp; omega), wrap_id (x := g / (m : Int) + 1) (by omega) (by omega)]
      exact this
    · rw [if_neg h, Int.add_zero] at this
      rw [if_neg h, if_pos (by simp; omega)]
      exact this
theorem specSplit_spec (k : Nat) (g : Int) (m : Nat) (hg : 0 ≤ g) (hg2 : g ≤ 1000000) (hm : 0 < m) (hm2 : m ≤ 12) (hk : m < k) : spec_split.f k g (m : Int) = some (splitM g m) := by
  unfold spec_split.f
  have := specSplit_l0 g m hg hg2 hm hm2 m k 0 (by omega) hk
  simpa using this

/-! ### fail -/
/-- What is taken of the guards, and what is lost. -/
def failM : List Int → List Int → List Int → List Int × Int
  | xs, g :: gs, p :: ps =>
    let r := failM (xs.set g.toNat (rd xs g - min (rd xs g) p)) gs ps
    (r.1, (p - min (rd xs g) p) + r.2)
  | xs, _, _ => (xs, 0)
structure OkX (n : Nat) (xs : List Int) : Prop where
  len : xs.length = n
  val : ∀ x ∈ xs, 0 ≤ x ∧ x ≤ 100000
theorem OkX.at {n : Nat} {xs : List Int} (h : OkX n xs) {g : Int} (h0 : 0 ≤ g) (h1 : g < (n : Int)) : 0 ≤ rd xs g ∧ rd xs g ≤ 100000 := h.val _ (rd_mem' h0 (by rw [h.len]; exact h1))
theorem OkX.take {n : Nat} {xs : List Int} (h : OkX n xs) {g p : Int} (h0 : 0 ≤ g) (h1 : g < (n : Int)) (hp : 0 ≤ p) : OkX n (xs.set g.toNat (rd xs g - min (rd xs g) p)) := by
  have h2 := h.at h0 h1
  refine ⟨by simpa using h.len, fun x hx => ?_⟩
  rcases List.mem_or_eq_of_mem_set hx with h5 | h5
  · exact h.val x h5
  · rw [h5]; omega
theorem rd_set_int {xs : List Int} {g : Int} {j : Nat} {v : Int} (h0 : 0 ≤ g) (hj : j < xs.length) : rd (xs.set g.toNat v) (j : Int) = if g = (j : Int) then v else rd xs (j : Int) := by
  rw [rd_set hj]
  by_cases e : g = (j : Int)
  · rw [if_pos e, if_pos (by omega)]
  · rw [if_neg e, if_neg (by omega)]
theorem sum_set_int {xs : List Int} {g : Int} {v : Int} (h0 : 0 ≤ g) (h1 : g < (xs.length : Int)) : (xs.set g.toNat v).sum = xs.sum - rd xs g + v := by
  have := sum_set xs g.toNat v (by omega)
  rwa [Int.toNat_of_nonneg h0] at this
theorem failM_facts (n : Nat) : ∀ (gs ps xs : List Int), OkX n xs → gs.length = ps.length → (∀ g ∈ gs, 0 ≤ g ∧ g < (n : Int)) → (∀ p ∈ ps, 0 ≤ p) →
    OkX n (failM xs gs ps).1 ∧ 0 ≤ (failM xs gs ps).2 ∧ xs.sum - (failM xs gs ps).1.sum + (failM xs gs ps).2 = ps.sum ∧
    (∀ j : Nat, j < n → rd (failM xs gs ps).1 (j : Int) ≤ rd xs (j : Int) ∧ ((j : Int) ∉ gs → rd (failM xs gs ps).1 (j : Int) = rd xs (j : Int))) ∧ ((∀ p ∈ ps, p = 0) → (failM xs gs ps).2 = 0) := by
  intro gs
  induction gs with
  | nil =>
    intro ps xs h1 h2 h3 h4
    cases ps with
    | nil => simp only [failM]; exact ⟨h1, by simp, by simp, fun j _ => ⟨Int.le_refl _, fun _ => by trivial⟩, fun _ => by trivial⟩
    | cons p ps => simp at h2
  | cons g gs ih =>
    intro ps xs h1 h2 h3 h4
    cases ps with
    | nil => simp at h2
    | cons p ps =>
      have hg := h3 g (by simp)
      have hp := h4 p (by simp)
      have hx := h1.at hg.1 hg.2
      obtain ⟨a1, a2, a3, a4, a5⟩ := ih ps _ (h1.take hg.1 hg.2 hp) (by simpa using h2) (fun q hq => h3 q (by simp [hq])) (fun q hq => h4 q (by simp [hq]))
      simp only [failM]
      refine ⟨a1, by omega, ?_, fun j hj => ?_, fun hz => ?_⟩
      · rw [sum_set_int hg.1 (by rw [h1.len]; exact hg.2)] at a3
        rw [List.sum_cons]; omega
      · obtain ⟨b1, b2⟩ := a4 j hj
        rw [rd_set_int hg.1 (by rw [h1.len]; exact hj)] at b1 b2
        by_cases e : g = (j : Int)
        · rw [if_pos e] at b1
          refine ⟨by rw [← e] at b1 ⊢; omega, fun hn => absurd (by rw [e]; simp) hn⟩
        · rw [if_neg e] at b1 b2
          exact ⟨b1, fun hn => b2 (fun hm => hn (by simp [hm]))⟩
      · have e0 := hz p (by simp)
        rw [a5 (fun q hq => hz q (by simp [hq])), e0]
        omega
theorem takeFrom_spec {n : Nat} {xs : List Int} (h : OkX n xs) {g p : Int} (h0 : 0 ≤ g) (h1 : g < (n : Int)) (hp : 0 ≤ p) (hp2 : p ≤ 1000000) : impl_takeFrom.f xs g p = some (p - min (rd xs g) p, xs.set g.toNat (rd xs g - min (rd xs g) p)) := by
  have h2 := h.at h0 h1
  unfold impl_takeFrom.f
  rw [if_pos h0, if_pos (by rw [h.len]; exact h1), mn_min, wrap_id (by omega) (by omega), wrap_id (by omega) (by omega)]
theorem implFail_l0 (n : Nat) (gs ps : List Int) (b am : Int) (hl : gs.length = ps.length) (hn : ps.length ≤ 12) (hg : ∀ g ∈ gs, 0 ≤ g ∧ g < (n : Int)) (hp : ∀ p ∈ ps, 0 ≤ p ∧ p ≤ 100000) :
    ∀ (d k i : Nat) (xs un : List Int) (loss : Int), i + d = ps.length → un.length ≤ i → 0 ≤ loss → loss + (d : Int) * 100000 ≤ 1200000 → OkX n xs → d < k →
    ∃ un', impl_failOne.l0 k xs loss un ps (ps.length : Int) (i : Int) b am gs = some (loss + (failM xs (gs.drop i) (ps.drop i)).2, un', (failM xs (gs.drop i) (ps.drop i)).1) := by
  intro d
  induction d with
  | zero =>
    intro k i xs un loss hi hu h0 h1 hx hk
    obtain ⟨k, rfl, -⟩ := fuel hk
    simp only [impl_failOne.l0]
    rw [if_neg (by omega), drop_end (by omega), drop_end (by omega)]
    exact ⟨un, by simp [failM]⟩
  | succ d ih =>
    intro k i xs un loss hi hu h0 h1 hx hk
    obtain ⟨k, rfl, hk⟩ := fuel hk
    have hgi := hg _ (rd_mem (xs := gs) (i := i) (by omega))
    have hpi := hp _ (rd_mem (xs := ps) (i := i) (by omega))
    have hxi := hx.at hgi.1 hgi.2
    simp only [impl_failOne.l0]
    rw [if_pos (by omega), if_pos (by omega), if_pos (by omega), if_pos (by omega), takeFrom_spec hx hgi.1 hgi.2 hpi.1 (by omega), Option.bind_some, wrap_succ (by omega), drop_rd (xs := gs) (i := i) (by omega), drop_rd (xs := ps) (i := i) (by omega)]
    simp only [failM]
    by_cases h : rd ps (i : Int) - min (rd xs (rd gs (i : Int))) (rd ps (i : Int)) > 0
    · rw [if_pos h, if_pos (by omega), wrap_id (by omega) (by omega)]
      obtain ⟨un', hu'⟩ := ih k (i + 1) _ (un ++ [rd gs (i : Int)]) (loss + (rd ps (i : Int) - min (rd xs (rd gs (i : Int))) (rd ps (i : Int)))) (by omega) (by simp; omega) (by omega) (by omega) (hx.take hgi.1 hgi.2 hpi.1) (by omega)
      exact ⟨un', by rw [hu', Int.add_assoc]⟩
    · rw [if_neg h]
      obtain ⟨un', hu'⟩ := ih k (i + 1) _ un loss (by omega) (by omega) (by omega) (by omega) (hx.take hgi.1 hgi.2 hpi.1) (by omega)
      refine ⟨un', ?_⟩
      rw [hu']
      congr 2
      omega
/-- A loan that fails: the stakes after it, and what is lost. -/
def failLoanM (xs : List Int) (b am : Int) (gs : List Int) : List Int × Int :=
  failM (xs.set b.toNat (rd xs b - min (rd xs b) am)) gs (splitM (am - min (rd xs b) am) gs.length)
theorem parts_ok {left : Int} {m : Nat} (h0 : 0 ≤ left) (h1 : left ≤ 100000) (hm : 0 < m) : ∀ p ∈ splitM left m, 0 ≤ p ∧ p ≤ 100000 := by
  intro p hp
  have := splitM_bound hm h0 p hp
  omega
theorem implFailOne_spec (n : Nat) (xs : List Int) (hx : OkX n xs) (l : S56) (hl : OkLoan l (n : Int)) (hn : n ≤ 12) (k : Nat) (hk : 30 < k) : ∃ un, impl_failOne.f k xs l.f0 l.f1 l.f2 = some ((failLoanM xs l.f0 l.f1 l.f2).2, un, (failLoanM xs l.f0 l.f1 l.f2).1) := by
  obtain ⟨b0, b1, a0, a1, g1, gm, gn⟩ := hl
  have hgl := gm.le
  have hxb := hx.at b0 b1
  unfold impl_failOne.f failLoanM
  rw [takeFrom_spec hx b0 b1 (by omega) (by omega), Option.bind_some, implSplit_spec _ (by omega), if_pos ⟨by omega, by omega, by omega, by omega⟩, Option.bind_some, Int.toNat_natCast]
  have hpl : (splitM (l.f1 - min (rd xs l.f0) l.f1) l.f2.length).length = l.f2.length := splitM_length _ _
  obtain ⟨un, hu⟩ := implFail_l0 n l.f2 (splitM (l.f1 - min (rd xs l.f0) l.f1) l.f2.length) l.f0 l.f1 hpl.symm (by omega) gm.2 (parts_ok (by omega) (by omega) (by omega)) l.f2.length k 0 _ [] 0 (by omega) (by simp) (by omega) (by omega) (hx.take (p := l.f1) b0 b1 (by omega)) (by omega)
  refine ⟨un, ?_⟩
  rw [List.drop_zero, List.drop_zero] at hu
  simpa using hu
theorem specFail_l0 (n : Nat) (gs ps : List Int) (b am : Int) (hl : gs.length = ps.length) (hn : ps.length ≤ 12) (hg : ∀ g ∈ gs, 0 ≤ g ∧ g < (n : Int)) (hp : ∀ p ∈ ps, 0 ≤ p ∧ p ≤ 100000) :
    ∀ (d k i : Nat) (xs un : List Int) (loss : Int), i + d = ps.length → un.length ≤ i → 0 ≤ loss → loss + (d : Int) * 100000 ≤ 1200000 → OkX n xs → d < k →
    ∃ un', spec_fail.l0 k xs un ps loss (i : Int) b am gs = some ((failM xs (gs.drop i) (ps.drop i)).1, loss + (failM xs (gs.drop i) (ps.drop i)).2, un') := by
  intro d
  induction d with
  | zero =>
    intro k i xs un loss hi hu h0 h1 hx hk
    obtain ⟨k, rfl, -⟩ := fuel hk
    simp only [spec_fail.l0]
    rw [if_neg (by omega), drop_end (by omega), drop_end (by omega)]
    exact ⟨un, by simp [failM]⟩
  | succ d ih =>
    intro k i xs un loss hi hu h0 h1 hx hk
    obtain ⟨k, rfl, hk⟩ := fuel hk
    have hgi := hg _ (rd_mem (xs := gs) (i := i) (by omega))
    have hpi := hp _ (rd_mem (xs := ps) (i := i) (by omega))
    have hxi := hx.at hgi.1 hgi.2
    simp only [spec_fail.l0]
    rw [if_pos (by omega), if_pos (by omega), if_pos (by omega), if_pos hgi.1, if_pos (by rw [hx.len]; exact hgi.2), Option.bind_some, mn_min, wrap_succ (by omega), drop_rd (xs := gs) (i := i) (by omega), drop_rd (xs := ps) (i := i) (by omega)]
    rw [wrap_id (x := rd xs (rd gs (i : Int)) - min (rd xs (rd gs (i : Int))) (rd ps (i : Int))) (by omega) (by omega), wrap_id (x := loss + rd ps (i : Int)) (by omega) (by omega), wrap_id (x := loss + rd ps (i : Int) - min (rd xs (rd gs (i : Int))) (rd ps (i : Int))) (by omega) (by omega)]
    simp only [failM]
    have e : loss + rd ps (i : Int) - min (rd xs (rd gs (i : Int))) (rd ps (i : Int)) = loss + (rd ps (i : Int) - min (rd xs (rd gs (i : Int))) (rd ps (i : Int))) := by omega
    rw [e]
    by_cases h : min (rd xs (rd gs (i : Int))) (rd ps (i : Int)) < rd ps (i : Int)
    · rw [if_pos h, if_pos (by omega)]
      obtain ⟨un', hu'⟩ := ih k (i + 1) _ (un ++ [rd gs (i : Int)]) (loss + (rd ps (i : Int) - min (rd xs (rd gs (i : Int))) (rd ps (i : Int)))) (by omega) (by simp; omega) (by omega) (by omega) (hx.take hgi.1 hgi.2 hpi.1) (by omega)
      exact ⟨un', by rw [hu', Int.add_assoc]⟩
    · rw [if_neg h]
      obtain ⟨un', hu'⟩ := ih k (i + 1) _ un (loss + (rd ps (i : Int) - min (rd xs (rd gs (i : Int))) (rd ps (i : Int)))) (by omega) (by omega) (by omega) (by omega) (hx.take hgi.1 hgi.2 hpi.1) (by omega)
      exact ⟨un', by rw [hu', Int.add_assoc]⟩
theorem specFailOne_spec (n : Nat) (xs : List Int) (hx : OkX n xs) (l : S56) (hl : OkLoan l (n : Int)) (hn : n ≤ 12) (k : Nat) (hk : 30 < k) : ∃ un, spec_fail.f k xs l.f0 l.f1 l.f2 = some ((failLoanM xs l.f0 l.f1 l.f2).1, (failLoanM xs l.f0 l.f1 l.f2).2, un) := by
  obtain ⟨b0, b1, a0, a1, g1, gm, gn⟩ := hl
  have hgl := gm.le
  have hxb := hx.at b0 b1
  have hxl := hx.len
  unfold spec_fail.f failLoanM
  rw [copyInts_spec _ (by omega), Option.bind_some, if_pos b0, if_pos (by rw [hx.len]; exact b1), mn_min, wrap_id (x := l.f1 - min (rd xs l.f0) l.f1) (by omega) (by omega), wrap_id (x := rd xs l.f0 - min (rd xs l.f0) l.f1) (by omega) (by omega), specSplit_spec _ _ _ (by omega) (by omega) (by omega) (by omega) (by omega), Option.bind_some]
  have hpl : (splitM (l.f1 - min (rd xs l.f0) l.f1) l.f2.length).length = l.f2.length := splitM_length _ _
  obtain ⟨un, hu⟩ := specFail_l0 n l.f2 (splitM (l.f1 - min (rd xs l.f0) l.f1) l.f2.length) l.f0 l.f1 hpl.symm (by omega) gm.2 (parts_ok (by omega) (by omega) (by omega)) l.f2.length k 0 _ [] 0 (by omega) (by simp) (by omega) (by omega) (hx.take (p := l.f1) b0 b1 (by omega)) (by omega)
  refine ⟨un, ?_⟩
  rw [List.drop_zero, List.drop_zero] at hu
  simpa using hu
theorem failLoan_facts (n : Nat) (xs : List Int) (hx : OkX n xs) (l : S56) (hl : OkLoan l (n : Int)) (hn : n ≤ 12) :
    OkX n (failLoanM xs l.f0 l.f1 l.f2).1 ∧ 0 ≤ (failLoanM xs l.f0 l.f1 l.f2).2 ∧ xs.sum - (failLoanM xs l.f0 l.f1 l.f2).1.sum + (failLoanM xs l.f0 l.f1 l.f2).2 = l.f1 ∧
    (∀ j : Nat, j < n → rd (failLoanM xs l.f0 l.f1 l.f2).1 (j : Int) ≤ rd xs (j : Int) ∧ ((j : Int) ∉ l.f2 → (j : Int) ≠ l.f0 → rd (failLoanM xs l.f0 l.f1 l.f2).1 (j : Int) = rd xs (j : Int))) ∧ (l.f1 ≤ rd xs l.f0 → (failLoanM xs l.f0 l.f1 l.f2).2 = 0) := by
  obtain ⟨b0, b1, a0, a1, g1, gm, gn⟩ := hl
  have hxb := hx.at b0 b1
  have hxl := hx.len
  unfold failLoanM
  obtain ⟨c1, c2, c3, c4, c5⟩ := failM_facts n l.f2 (splitM (l.f1 - min (rd xs l.f0) l.f1) l.f2.length) _ (hx.take (p := l.f1) b0 b1 (by omega)) (by rw [splitM_length]) gm.2 (fun p hp => (parts_ok (by omega) (by omega) (by omega) p hp).1)
  rw [sum_set_int b0 (by omega), splitM_sum (by omega)] at c3
  refine ⟨c1, c2, by omega, fun j hj => ?_, fun hle => c5 (fun p hp => ?_)⟩
  · obtain ⟨d1, d2⟩ := c4 j hj
    rw [rd_set_int b0 (by omega)] at d1 d2
    by_cases e : l.f0 = (j : Int)
    · rw [if_pos e] at d1
      refine ⟨by rw [← e] at d1 ⊢; omega, fun _ hne => absurd e.symm hne⟩
    · rw [if_neg e] at d1 d2
      exact ⟨d1, fun hng _ => d2 hng⟩
  · have := splitM_bound (g := l.f1 - min (rd xs l.f0) l.f1) (m := l.f2.length) (by omega) (by omega) p hp
    omega

/-! ### place -/
theorem placeIn_l0 (xs : List Int) (x : Int) (hb : xs.length < 4611686018427387904) : ∀ (d k i : Nat), i + d = xs.length → d < k → spec_placeIn.l0 k xs x (i : Int) = some (idxM (xs.drop i) x i) := by
  intro d
  induction d with
  | zero =>
    intro k i hi hk
    obtain ⟨k, rfl, -⟩ := fuel hk
    simp only [spec_placeIn.l0]
    rw [if_neg (by omega), drop_end (by omega)]
    simp [idxM]
  | succ d ih =>
    intro k i hi hk
    obtain ⟨k, rfl, hk⟩ := fuel hk
    simp only [spec_placeIn.l0]
    rw [if_pos (by omega), if_pos (by omega), wrap_succ (by omega), drop_rd (by omega)]
    simp only [idxM]
    rw [ih k (i + 1) (by omega) (by omega)]
    split <;> rfl
theorem placeIn_spec (k : Nat) (xs : List Int) (x : Int) (hb : xs.length < 4611686018427387904) (hk : xs.length < k) : spec_placeIn.f k xs x = some (idxM xs x 0) := by
  unfold spec_placeIn.f
  have := placeIn_l0 xs x hb xs.length k 0 (by omega) hk
  simpa using this

/-! ### members -/
theorem validMembers_l0 (xs : List Int) (n : Int) (hb : xs.length < 4611686018427387904) : ∀ (d k i : Nat), i + d = xs.length → xs.length + d < k → spec_validMembers.l0 k xs n (i : Int) = some (memB (wrap64 (n - 1) + 1) (xs.take i) (xs.drop i)) := by
  intro d
  induction d with
  | zero =>
    intro k i hi hk
    obtain ⟨k, rfl, -⟩ := fuel hk
    simp only [spec_validMembers.l0]
    rw [if_neg (by omega), drop_end (by omega)]
    simp [memB]
  | succ d ih =>
    intro k i hi hk
    obtain ⟨k, rfl, hk⟩ := fuel hk
    simp only [spec_validMembers.l0]
    rw [if_pos (by omega), if_pos (by omega), inRange_spec, wrap_succ (i := i) (by omega), drop_rd (by omega), toNat_cast]
    rw [placeIn_spec _ _ _ (by simp; omega) (by simp; omega)]
    simp only [Option.bind_some]
    rw [if_pos (show (i : Int) ≤ (xs.length : Int) by omega), ih k (i + 1) (by omega) (by omega), take_rd (by omega)]
    simp only [memB]
    by_cases h1 : 0 ≤ rd xs (i : Int) ∧ rd xs (i : Int) < wrap64 (n - 1) + 1
    · rw [decide_eq_true h1, decide_eq_true (show 0 ≤ rd xs (i : Int) ∧ rd xs (i : Int) ≤ wrap64 (n - 1) by omega), if_pos rfl]
      have h2 := idxM_nonneg (xs.take i) (rd xs (i : Int)) 0
      by_cases h3 : rd xs (i : Int) ∈ xs.take i
      · rw [if_pos (h2.2 h3), decide_eq_true h3]; rfl
      · rw [if_neg (fun h => h3 (h2.1 h)), decide_eq_false h3]; rfl
    · rw [decide_eq_false h1, decide_eq_false (show ¬ (0 ≤ rd xs (i : Int) ∧ rd xs (i : Int) ≤ wrap64 (n - 1)) by omega), if_neg (by decide)]; rfl
theorem validMembers_any (k : Nat) (xs : List Int) (n : Int) (hb : xs.length < 4611686018427387904) (hk : xs.length + xs.length < k) : spec_validMembers.f k xs n = some (decide (GoodM xs (wrap64 (n - 1) + 1))) := by
  unfold spec_validMembers.f
  have := validMembers_l0 xs n hb xs.length k 0 (by omega) hk
  rw [← memB_good]
  simpa using this
theorem validMembers_spec (k : Nat) (xs : List Int) (n : Int) (hn : -4611686018427387904 ≤ n) (hn2 : n ≤ 4611686018427387904) (hb : xs.length < 4611686018427387904) (hk : xs.length + xs.length < k) : spec_validMembers.f k xs n = some (decide (GoodM xs n)) := by
  rw [validMembers_any k xs n hb hk, wrap_id (x := n - 1) (by omega) (by omega), Int.sub_add_cancel]

/-! ### loansspec -/
theorem specValidLoans_out (list : List S56) (n : Int) (hn : ¬ (1 ≤ n ∧ n ≤ 12)) (hl : list.length ≤ 1048576) (hg : ∀ l ∈ list, l.f2.length ≤ 1048576) : ∀ (d k i : Nat), i + d = list.length → d + 2097200 < k →
    spec_validLoans.l0 k list n (i : Int) = some false := by
  intro d
  induction d with
  | zero =>
    intro k i hi hk
    obtain ⟨k, rfl, -⟩ := fuel (show 0 < k by omega)
    simp only [spec_validLoans.l0]
    rw [if_neg (by omega), inRange_spec, decide_eq_false hn]
    simp
  | succ d ih =>
    intro k i hi hk
    obtain ⟨k, rfl, hk⟩ := fuel (show d + 2097200 < k by omega)
    simp only [spec_validLoans.l0]
    rw [if_pos (by omega), if_pos (by omega), inRange_spec, inRange_spec]
    have hgl := hg _ (rdT_mem (xs := list) (i := i) (by omega))
    generalize rd_T56 list (i : Int) = l at hgl ⊢
    rw [validMembers_any _ _ _ (by omega) (by omega), placeIn_spec _ _ _ (by omega) (by omega), wrap_succ (i := i) (by omega), ih k (i + 1) (by omega) (by omega)]
    simp only [Option.bind_some, ite_self]
theorem specValidLoans_l0 (list : List S56) (n : Int) (hn1 : 1 ≤ n) (hn2 : n ≤ 12) (hl : list.length ≤ 1048576) (hg : ∀ l ∈ list, l.f2.length ≤ 1048576) : ∀ (d k i : Nat), i + d = list.length → d + 2097200 < k →
    spec_validLoans.l0 k list n (i : Int) = some (decide (list.length ≤ 16 ∧ ∀ l ∈ list.drop i, OkLoan l n)) := by
  intro d
  induction d with
  | zero =>
    intro k i hi hk
    obtain ⟨k, rfl, -⟩ := fuel (show 0 < k by omega)
    simp only [spec_validLoans.l0]
    rw [if_neg (by omega), drop_end (by omega), inRange_spec, decide_eq_true (show 1 ≤ n ∧ n ≤ 12 from ⟨hn1, hn2⟩)]
    by_cases h : (list.length : Int) ≤ 16
    · rw [if_pos h, decide_eq_true]
      · rfl
      · exact ⟨by omega, by simp⟩
    · rw [if_neg h, decide_eq_false]; rintro ⟨h2, -⟩; omega
  | succ d ih =>
    intro k i hi hk
    obtain ⟨k, rfl, hk⟩ := fuel (show d + 2097200 < k by omega)
    simp only [spec_validLoans.l0]
    rw [if_pos (by omega), if_pos (by omega), inRange_spec, inRange_spec, drop_rdT (by omega)]
    have hgl := hg _ (rdT_mem (xs := list) (i := i) (by omega))
    generalize rd_T56 list (i : Int) = l at hgl ⊢
    rw [validMembers_spec _ _ _ (by omega) (by omega) (by omega) (by omega), placeIn_spec _ _ _ (by omega) (by omega), wrap_succ (i := i) (by omega), ih k (i + 1) (by omega) (by omega), wrap_id (x := n - 1) (by omega) (by omega)]
    simp only [Option.bind_some, List.forall_mem_cons]
    by_cases h1 : 0 ≤ l.f0 ∧ l.f0 ≤ n - 1
    · rw [decide_eq_true h1, if_pos rfl]
      by_cases h2 : 1 ≤ l.f1 ∧ l.f1 ≤ 100000
      · rw [decide_eq_true h2, if_pos rfl]
        by_cases h3 : (l.f2.length : Int) = 0
        · rw [if_pos h3, decide_eq_false]; rintro ⟨-, h, -⟩; have := h.2.2.2.2.1; omega
        · rw [if_neg h3]
          by_cases h4 : GoodM l.f2 n
          · rw [decide_eq_true h4, if_pos rfl]
            have hm := idxM_nonneg l.f2 l.f0 0
            by_cases h5 : l.f0 ∈ l.f2
            · rw [if_pos (hm.2 h5), decide_eq_false]; rintro ⟨-, h, -⟩; exact h.2.2.2.2.2.2 h5
            · rw [if_neg (fun h => h5 (hm.1 h))]
              congr 1
              rw [decide_eq_decide]
              exact ⟨fun h => ⟨h.1, ⟨by omega, by omega, by omega, by omega, by omega, h4, h5⟩, h.2⟩, fun h => ⟨h.1, h.2.2⟩⟩
          · rw [decide_eq_false h4, if_neg (by decide), decide_eq_false]; rintro ⟨-, h, -⟩; exact h4 h.2.2.2.2.2.1
      · rw [decide_eq_false h2, if_neg (by decide), decide_eq_false]; rintro ⟨-, h, -⟩; exact h2 ⟨h.2.2.1, h.2.2.2.1⟩
    · rw [decide_eq_false h1, if_neg (by decide), decide_eq_false]; rintro ⟨-, h, -⟩; exact h1 ⟨h.1, by have := h.2.1; omega⟩
theorem specValidLoans_spec (k : Nat) (list : List S56) (n : Int) (hl : list.length ≤ 1048576) (hg : ∀ l ∈ list, l.f2.length ≤ 1048576) (hk : 3145800 < k) : spec_validLoans.f k list n = some (decide (OkLoans list n)) := by
  unfold spec_validLoans.f
  by_cases h : 1 ≤ n ∧ n ≤ 12
  · have := specValidLoans_l0 list n h.1 h.2 hl hg list.length k 0 (by omega) (by omega)
    rw [show (0 : Int) = ((0 : Nat) : Int) from rfl, this]
    congr 1
    rw [decide_eq_decide, List.drop_zero]
    exact ⟨fun h2 => ⟨h2.1, h.1, h.2, h2.2⟩, fun h2 => ⟨h2.1, h2.2.2.2⟩⟩
  · have := specValidLoans_out list n h hl hg list.length k 0 (by omega) (by omega)
    rw [show (0 : Int) = ((0 : Nat) : Int) from rfl, this, decide_eq_false]
    rintro ⟨-, h1, h2, -⟩
    exact h ⟨h1, h2⟩

/-! ### common -/
theorem equalInts_l0 (a b : List Int) (hl : a.length = b.length) (hb : a.length < 4611686018427387904) : ∀ (d k i : Nat), i + d = a.length → d < k → laws_equalInts.l0 k a b (i : Int) = some (decide (a.drop i = b.drop i)) := by
  intro d
  induction d with
  | zero =>
    intro k i hi hk
    obtain ⟨k, rfl, -⟩ := fuel hk
    simp only [laws_equalInts.l0]
    rw [if_neg (by omega), drop_end (by omega), drop_end (by omega)]
    simp
  | succ d ih =>
    intro k i hi hk
    obtain ⟨k, rfl, hk⟩ := fuel hk
    simp only [laws_equalInts.l0]
    rw [if_pos (by omega), if_pos (by omega), if_pos (by omega), wrap_succ (by omega), drop_rd (xs := a) (i := i) (by omega), drop_rd (xs := b) (i := i) (by omega)]
    by_cases e : rd a (i : Int) = rd b (i : Int)
    · rw [if_pos e, ih k (i + 1) (by omega) (by omega), e]; simp
    · rw [if_neg e]; simp [e]
theorem equalInts_spec (k : Nat) (a b : List Int) (hb : a.length < 4611686018427387904) (hk : a.length < k) : laws_equalInts.f k a b = some (decide (a = b)) := by
  unfold laws_equalInts.f
  by_cases h : a.length = b.length
  · rw [if_pos (by omega)]
    have := equalInts_l0 a b h hb a.length k 0 (by omega) hk
    simpa using this
  · rw [if_neg (by omega)]
    have : a ≠ b := fun e => h (by rw [e])
    simp [this]

/-! ### total -/
theorem total_l0 (xs : List Int) (hb : xs.length < 4611686018427387904) : ∀ (d k i : Nat) (acc : Int), i + d = xs.length → d < k → wrap64 acc = acc → laws_total.l0 k xs acc (i : Int) = some (wrap64 (acc + (xs.drop i).sum)) := by
  intro d
  induction d with
  | zero =>
    intro k i acc hi hk ha
    obtain ⟨k, rfl, -⟩ := fuel hk
    simp only [laws_total.l0]
    rw [if_neg (by omega), drop_end (by omega)]
    simp [ha]
  | succ d ih =>
    intro k i acc hi hk ha
    obtain ⟨k, rfl, hk⟩ := fuel hk
    simp only [laws_total.l0]
    rw [if_pos (by omega), if_pos (by omega), wrap_succ (by omega), ih k (i + 1) _ (by omega) (by omega) (wrap_wrap _), wrap_add_l, drop_rd (i := i) (by omega), List.sum_cons, Int.add_assoc]
theorem total_spec (k : Nat) (xs : List Int) (hb : xs.length < 4611686018427387904) (hk : xs.length < k) : laws_total.f k xs = some (wrap64 xs.sum) := by
  unfold laws_total.f
  have := total_l0 xs hb xs.length k 0 0 (by omega) hk (wrap_id (by omega) (by omega))
  simpa using this

/-! ### the law -/
theorem OkStakes.okx {xs : List Int} (h : OkStakes xs) : OkX xs.length xs := ⟨rfl, h.2.2⟩
/-- The stakes after a loan has failed, and what is lost. -/
def failLM (ss : List Int) (ls : List S56) (i : Int) : List Int × Int :=
  if OkStakes ss ∧ OkLoans ls (ss.length : Int) ∧ 0 ≤ i ∧ i < (ls.length : Int) then failLoanM ss (rd_T56 ls i).f0 (rd_T56 ls i).f1 (rd_T56 ls i).f2 else ([], -1)
theorem failLM_neg {ss : List Int} {ls : List S56} {i : Int} (h : ¬ (OkStakes ss ∧ OkLoans ls (ss.length : Int) ∧ 0 ≤ i ∧ i < (ls.length : Int))) : failLM ss ls i = ([], -1) := if_neg h
theorem failLM_pos {ss : List Int} {ls : List S56} {i : Int} (h : OkStakes ss ∧ OkLoans ls (ss.length : Int) ∧ 0 ≤ i ∧ i < (ls.length : Int)) : failLM ss ls i = failLoanM ss (rd_T56 ls i).f0 (rd_T56 ls i).f1 (rd_T56 ls i).f2 := if_pos h
theorem loan_at {ls : List S56} {n i : Int} (h : OkLoans ls n) (h0 : 0 ≤ i) (h1 : i < (ls.length : Int)) : OkLoan (rd_T56 ls i) n := by
  obtain ⟨i, rfl⟩ := Int.eq_ofNat_of_zero_le h0
  exact h.2.2.2 _ (rdT_mem (by omega))
theorem clone_spec (l : List Int) (h : l.length ≤ 1000) : slices_Clone_int_int.f l = some l := by
  unfold slices_Clone_int_int.f
  simp
  omega
theorem implFailLoan_spec (k : Nat) (ss : List Int) (ls : List S56) (i : Int) (hl : ls.length ≤ 1048576) (hg : ∀ l ∈ ls, l.f2.length ≤ 1048576) (hk : 1048700 < k) : impl_FailLoan.f k ss ls i = some (failLM ss ls i) := by
  unfold impl_FailLoan.f
  rw [implStakes_spec k ss (by omega), Option.bind_some]
  obtain ⟨k, rfl, hk'⟩ := fuel hk
  simp only [impl_FailLoan.j0, if_true]
  by_cases h1 : OkStakes ss
  · rw [decide_eq_true h1, if_pos rfl, implValidLoans_spec _ ls _ hl hg (by omega), Option.bind_some]
    by_cases h2 : OkLoans ls (ss.length : Int)
    · rw [decide_eq_true h2, if_pos rfl]
      by_cases h3 : i < 0
      · rw [if_pos h3, failLM_neg (by omega)]
      · rw [if_neg h3]
        by_cases h4 : i ≥ (ls.length : Int)
        · rw [decide_eq_true h4, if_pos rfl, failLM_neg (by omega)]
        · have hn := h1.2.1
          have h5 := h2.1
          obtain ⟨un, hu⟩ := implFailOne_spec ss.length ss h1.okx _ (loan_at h2 (show 0 ≤ i by omega) (by omega)) hn k (by omega)
          rw [decide_eq_false h4, if_neg (by decide), clone_spec _ (by omega), Option.bind_some, if_pos (by omega), if_pos (by omega), hu, Option.bind_some, failLM_pos ⟨h1, h2, by omega, by omega⟩]
    · rw [decide_eq_false h2, if_neg (by decide), failLM_neg (fun h => h2 h.2.1)]
  · rw [decide_eq_false h1, if_neg (by decide), failLM_neg (fun h => h1 h.1)]
theorem specFailLoan_spec (k : Nat) (ss : List Int) (ls : List S56) (i : Int) (hl : ls.length ≤ 1048576) (hg : ∀ l ∈ ls, l.f2.length ≤ 1048576) (hk : 3145800 < k) : spec_FailLoan.f k ss ls i = some (failLM ss ls i) := by
  unfold spec_FailLoan.f
  rw [specStakes_spec k ss (by omega), Option.bind_some]
  by_cases h1 : OkStakes ss
  · rw [decide_eq_true h1, if_pos rfl, specValidLoans_spec _ ls _ hl hg (by omega), Option.bind_some]
    by_cases h2 : OkLoans ls (ss.length : Int)
    · rw [decide_eq_true h2, if_pos rfl, inRange_spec, Option.bind_some, wrap_id (by omega) (by omega)]
      by_cases h3 : 0 ≤ i ∧ i < (ls.length : Int)
      · have hn := h1.2.1
        obtain ⟨un, hu⟩ := specFailOne_spec ss.length ss h1.okx _ (loan_at h2 h3.1 h3.2) hn k (by omega)
        rw [decide_eq_true (show 0 ≤ i ∧ i ≤ (ls.length : Int) - 1 by omega), if_pos rfl, if_pos h3.1, if_pos h3.2, hu, Option.bind_some, failLM_pos ⟨h1, h2, h3⟩]
      · rw [decide_eq_false (show ¬ (0 ≤ i ∧ i ≤ (ls.length : Int) - 1) by omega), if_neg (by decide), failLM_neg (fun h => h3 h.2.2)]
    · rw [decide_eq_false h2, if_neg (by decide), failLM_neg (fun h => h2 h.2.1)]
  · rw [decide_eq_false h1, if_neg (by decide), failLM_neg (fun h => h1 h.1)]
theorem isIn_l0 (xs : List Int) (x : Int) (hb : xs.length < 4611686018427387904) : ∀ (d k i : Nat), i + d = xs.length → d < k → laws_isIn.l0 k xs x (i : Int) = some (decide (x ∈ xs.drop i)) := by
  intro d
  induction d with
  | zero =>
    intro k i hi hk
    obtain ⟨k, rfl, -⟩ := fuel hk
    simp only [laws_isIn.l0]
    rw [if_neg (by omega), drop_end (by omega)]
    simp
  | succ d ih =>
    intro k i hi hk
    obtain ⟨k, rfl, hk⟩ := fuel hk
    simp only [laws_isIn.l0]
    rw [if_pos (by omega), if_pos (by omega), drop_rd (by omega), wrap_succ (by omega), ih k (i + 1) (by omega) (by omega)]
    by_cases e : rd xs (i : Int) = x
    · rw [if_pos e, e]; simp
    · rw [if_neg e]
      have e' : ¬ x = rd xs (i : Int) := fun h => e h.symm
      simp [e']
theorem isIn_spec (k : Nat) (xs : List Int) (x : Int) (hb : xs.length < 4611686018427387904) (hk : xs.length < k) : laws_isIn.f k xs x = some (decide (x ∈ xs)) := by
  unfold laws_isIn.f
  have := isIn_l0 xs x hb xs.length k 0 (by omega) hk
  simpa using this
theorem drawFail_spec (k : Nat) (hk : 200 < k) (l : List Int) (hl : ∀ x ∈ l, 0 ≤ x ∧ x ≤ 255) : ∃ ss ls i, spec_DrawFailLoan.f k l = some (ss, ls, i) ∧ ss.length ≤ 13 ∧ SmallLs ls := by
  obtain ⟨b, h1, h2, h3⟩ := newReader_spec l hl
  obtain ⟨ss, ls, q, h4, h5, h6, q0, q1⟩ := stakesOf_spec b h2 h3 k hk 0 (by omega) (by omega)
  unfold spec_DrawFailLoan.f
  obtain ⟨v, hv, -⟩ := one_spec k (by omega) b h2 h3 q q0 (by omega) [0, 1, 2, (-1), 9] (by simp) (by simp)
  rw [h1, Option.bind_some, h4, Option.bind_some, hv, Option.bind_some]
  exact ⟨ss, ls, v, rfl, h5, h6⟩
theorem failLaw_l0 (ss : List Int) (ls : List S56) (i : Int) (h : OkStakes ss ∧ OkLoans ls (ss.length : Int) ∧ 0 ≤ i ∧ i < (ls.length : Int)) : ∀ (d k j : Nat), j + d = ss.length → d + 100 < k →
    laws_FnFailLoan.l0 k ss ls i (failLM ss ls i).1 (failLM ss ls i).2 (j : Int) = some true := by
  rw [failLM_pos h]
  have hl := loan_at h.2.1 h.2.2.1 h.2.2.2
  have hn := h.1.2.1
  obtain ⟨c1, c2, c3, c4, c5⟩ := failLoan_facts ss.length ss h.1.okx _ hl hn
  have hll := h.2.1.1
  generalize hle : rd_T56 ls i = l at *
  generalize hr : failLoanM ss l.f0 l.f1 l.f2 = r at *
  have hgl := hl.2.2.2.2.2.1.le
  have s1 := sum_bound ss 0 100000 h.1.2.2
  have s2 := sum_bound r.1 0 100000 c1.val
  have hrl := c1.len
  intro d
  induction d with
  | zero =>
    intro k j hj hk
    obtain ⟨k, rfl, hk⟩ := fuel hk
    simp only [laws_FnFailLoan.l0]
    have hb0 := hl.1
    have hb1 := hl.2.1
    have ham := hl.2.2.1
    have ham2 := hl.2.2.2.1
    rw [if_neg (by omega), total_spec _ _ (by omega) (by omega), Option.bind_some, total_spec _ _ (by omega) (by omega), Option.bind_some, if_pos h.2.2.1, if_pos h.2.2.2, wrap_id (x := ss.sum) (by omega) (by omega), wrap_id (x := r.1.sum) (by omega) (by omega), wrap_id (x := ss.sum - r.1.sum) (by omega) (by omega), wrap_id (x := ss.sum - r.1.sum + r.2) (by omega) (by omega), hle, if_pos c3, if_pos hb0, if_pos hb1]
    by_cases h6 : rd ss l.f0 < l.f1
    · rw [if_pos h6]
    · rw [if_neg h6, c5 (by omega)]; rfl
  | succ d ih =>
    intro k j hj hk
    obtain ⟨k, rfl, hk⟩ := fuel hk
    simp only [laws_FnFailLoan.l0]
    have := ih k (j + 1) (by omega) (by omega)
    obtain ⟨d1, d2⟩ := c4 j (by omega)
    rw [if_pos (by omega), if_pos (by omega), if_pos (by omega), if_neg (by omega), wrap_succ (by omega), this]
    by_cases h5 : rd r.1 (j : Int) < rd ss (j : Int)
    · rw [if_pos h5, if_pos h.2.2.1, if_pos h.2.2.2, hle]
      by_cases h6 : (j : Int) = l.f0
      · rw [if_pos h6]
      · rw [if_neg h6, isIn_spec _ _ _ (by omega) (by omega), Option.bind_some]
        by_cases h7 : (j : Int) ∈ l.f2
        · rw [decide_eq_true h7, if_pos rfl]
        · have := d2 h7 h6
          omega
    · rw [if_neg h5]
theorem FnFailLoan : laws_FnFailLoan.Pure := by
  intro l _ _ hw
  refine ⟨4000000, ?_⟩
  unfold laws_FnFailLoan.f
  by_cases h0 : (l.length : Int) > 1048576
  · rw [if_pos h0]
  · rw [if_neg h0]
    obtain ⟨ss, ls, i, hd, hs, hsm⟩ := drawFail_spec 4000000 (by omega) l (reader_bytes hw)
    rw [hd, Option.bind_some]
    have hll : ls.length ≤ 1048576 := Nat.le_trans hsm.1 (by omega)
    have hlg : ∀ l ∈ ls, l.f2.length ≤ 1048576 := fun l hl => Nat.le_trans (hsm.2 l hl) (by omega)
    simp only
    rw [implFailLoan_spec _ _ _ _ hll hlg (by omega), Option.bind_some, specFailLoan_spec _ _ _ _ hll hlg (by omega), Option.bind_some]
    have hlen : (failLM ss ls i).1.length ≤ 13 := by
      by_cases h3 : OkStakes ss ∧ OkLoans ls (ss.length : Int) ∧ 0 ≤ i ∧ i < (ls.length : Int)
      · rw [failLM_pos h3]
        have := (failLoan_facts ss.length ss h3.1.okx _ (loan_at h3.2.1 h3.2.2.1 h3.2.2.2) h3.1.2.1).1.len
        omega
      · rw [failLM_neg h3]; simp
    rw [equalInts_spec _ _ _ (by omega) (by omega), Option.bind_some, decide_eq_true rfl, if_pos rfl, if_pos rfl]
    obtain ⟨k, hk⟩ : ∃ k, 4000000 = k + 1 := ⟨3999999, rfl⟩
    rw [hk]
    have hk2 : 3999998 < k := by omega
    clear hk
    simp only [laws_FnFailLoan.j0]
    by_cases h3 : OkStakes ss ∧ OkLoans ls (ss.length : Int) ∧ 0 ≤ i ∧ i < (ls.length : Int)
    · have h4 := (failLoan_facts ss.length ss h3.1.okx _ (loan_at h3.2.1 h3.2.2.1 h3.2.2.2) h3.1.2.1).2.1
      have h5 := h3.1.2.1
      have := failLaw_l0 ss ls i h3 ss.length k 0 (by omega) (by omega)
      rw [decide_eq_false (by rw [failLM_pos h3]; omega), if_neg (by decide)]
      exact this
    · rw [equalInts_spec _ _ _ (by omega) (by omega), Option.bind_some, decide_eq_true rfl, if_pos rfl, failLM_neg h3]
      rfl

end Go.Proofs.Ytmipmnejppoeiaa.Pure
