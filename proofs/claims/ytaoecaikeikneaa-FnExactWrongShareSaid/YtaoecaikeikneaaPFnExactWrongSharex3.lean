-- Laid by this session's own program: the kit's print, turned at a few places. Lean checks it.
import Derived.Test.YtaoecaikeikneaaPFnExactWrongSharex0
import Derived.Test.YtaoecaikeikneaaPFnExactWrongSharex1
namespace Go.Proofs.Ytaoecaikeikneaa.PFnExactWrongShare
open Go.RowKit Go.Proofs.YtaoecaikeikneaaW.PrintWords Go.Proofs.YtaoecaikeikneaaW.PrintLast Go.Proofs.YtaoecaikeikneaaW.PrintMore
attribute [local go_sem] max2_int min2_int max_two min_two max_three min_three max_four min_four   -- for this text's walks alone
set_option linter.unusedVariables false
set_option linter.unusedSimpArgs false

/-! ### impl_validCoefs: function 54 -/
def impl_validCoefs.f (k : Nat) (l0 : List Int) : Option (Bool) := if (l0.length : Int) ≤ 8 then ((impl_allWithin.f k l0 0 250).bind fun t140 => (some t140)) else (some false)
theorem impl_validCoefs.mono : ∀ a0 k, LeO (impl_validCoefs.f k a0) (impl_validCoefs.f (k + 1) a0) := by
  intro a0 k
  unfold impl_validCoefs.f
  repeat' first
      | (with_reducible exact impl_allWithin.mono _ _ _ _)
      | (with_reducible exact LeO.refl _)
      | (with_reducible exact LeO.none _)
      | (with_reducible refine LeO.ite ?_ ?_)
      | (with_reducible refine LeO.bind ?_ (fun _ => ?_))
      | exact impl_allWithin.mono _ _ _ _
      | exact LeO.none _
      | refine LeO.ite ?_ ?_
      | refine LeO.bind ?_ (fun _ => ?_)
set_option maxHeartbeats 8000000 in
set_option maxRecDepth 100000 in
theorem impl_validCoefs.calls (k : Nat) (A0 : Option Addr) (c0 : Nat) (l0 : List Int) (r : Bool) (w : World) (hr0 : Kd.C (Kd.int .i64) w A0 l0.length l0) (hc0 : l0.length ≤ c0) (h : impl_validCoefs.f k l0 = some r) :
    Calls Try.prog 54 #[.slice A0 l0.length c0] w fun e w' => e = .returned (.bool r) ∧ Drawn0 w w' := by
  have HR0 := Aside0.mk hr0
  have HC0 := Aside0.mk hc0
  clear hr0 hc0
  have H : (if (l0.length : Int) ≤ 8 then ((impl_allWithin.f k l0 0 250).bind fun t140 => (some t140)) else (some false)) = some r := h
  clear h
  by_cases c2 : (l0.length : Int) ≤ 8
  · rw [if_pos c2] at H
    have c2b0 : decide ((l0.length : Int) ≤ 8) = true := decide_eq_true c2
    have c2b1 : decide (l0.length ≤ 8) = true := decide_eq_true (by omega)
    clear c2
    replace H := Option.bind_eq_some_iff.mp H
    obtain ⟨t140, A30, H⟩ := H
    replace H : (some t140) = some r := H
    have A3 := Aside0.mk A30
    clear A30
    obtain rfl := Option.some.inj H
    go_enter Try.func54, Try.ntmps54
    go_wp2_with (first | (go_at_call 55; (with_reducible refine (impl_allWithin.calls k _ _ l0 0 250 t140 _ ?side1 ?side2 A3.out).mono ?_); (case side1 => repeat (first | exact HR0.out | (with_reducible refine Kd.C_alloc ?_ _) | (with_reducible refine Kd.C_drewN ?_ _) | (with_reducible refine Kd.C_drew ?_))); (case side2 => exact HC0.out); rintro e w' ⟨rfl, ⟨nd, rfl⟩⟩))
    go_ret
    exact ⟨by first | rfl | (simp; done) | (simp [*]; done), by repeat (first | exact Drawn0.refl _ | apply Drawn0.step)⟩
  · rw [if_neg c2] at H
    have c2b0 : decide ((l0.length : Int) ≤ 8) = false := decide_eq_false c2
    have c2b1 : decide (l0.length ≤ 8) = false := decide_eq_false (by omega)
    clear c2
    obtain rfl := Option.some.inj H
    go_enter Try.func54, Try.ntmps54
    go_wp2
    go_ret
    exact ⟨by first | rfl | (simp; done) | (simp [*]; done), by repeat (first | exact Drawn0.refl _ | apply Drawn0.step)⟩

/-! ### slices_Backward_int_int: function 66 -/
/-- What the body of such a loop keeps: all cells outside of one block. -/
def KpB (vb : Nat) (X Y : World) : Prop := ∀ (a : Addr) (v : Value), a.block ≠ vb → X.cell? a = some v → Y.cell? a = some v
theorem KpB.t {vb : Nat} {X Y Z : World} (h : KpB vb X Y) (k : KpB vb Y Z) : KpB vb X Z := fun a v ha hc => k a v ha (h a v ha hc)
theorem KpB.b {vb : Nat} {w : World} (W : World) (l : Nat) (o o' : Obj) (_ : w.heap.size ≤ l) (h : W.heap[l]? = some o) (hc : o.isCells = false) (_ : o.isWalk = false) : KpB vb W (W.putObj l o') :=
  fun _ _ _ hv => cell_kept hv (grownBy_putObj' W l o') (fun r e => by cases e; exact ⟨o, h, hc⟩)
/-- What has come when k rounds are over: from the last one on. -/
def downTo (zs : List Int) (k : Nat) : List (Int × Int) := (List.range k).map fun j => (((zs.length - 1 - j : Nat) : Int), rd zs ((zs.length - 1 - j : Nat) : Int))
theorem downTo_succ (zs : List Int) (k : Nat) : downTo zs (k + 1) = downTo zs k ++ [(((zs.length - 1 - k : Nat) : Int), rd zs ((zs.length - 1 - k : Nat) : Int))] := by simp [downTo, List.range_succ]
theorem downTo_length (zs : List Int) (k : Nat) : (downTo zs k).length = k := by simp [downTo]
section
attribute [local go_sem] Oper.semAt_some
set_option maxRecDepth 100000 in
set_option maxHeartbeats 4000000 in
theorem backward1_in (F : Fence) (n : Nat) (h7 : F.fn 82) (hro : F.round = none) (hn : 1 ≤ n) (l Bs vb : Nat) (ad : Addr) (cap : Nat) (zs : List Int) (hreach : zs.length < 4611686018427387904) (hvb : Bs ≠ vb) (hab : ∀ j, (ad.add j).block ≠ vb) (J Jx : List (Int × Int) → World → Prop)
    (hY : ∀ pre x W, J pre W → pre.length < zs.length → YieldAt F (n - 1) Try.prog l #[.int .i64 x.1, .int .i64 x.2] W fun e W' =>
      (e = .returned (.bool true) ∧ J (pre ++ [x]) W' ∧ KpB vb W W') ∨ (e = .returned (.bool false) ∧ Jx (pre ++ [x]) W'))
    (W : World) (hBs : W.cell? ⟨Bs, 0, none⟩ = some (.slice (some ad) zs.length cap)) (hc : ∀ j : Nat, j < zs.length → W.cell? (ad.add j) = some (.int .i64 (rd zs (j : Int)))) (h0 : J [] W) :
    CallsIn F n Try.prog 82 #[.func (.yield l) #[] #[], .pointer (some ⟨Bs, 0, none⟩)] W fun e W' => (∃ v, e = .returned v) ∧
      ((∃ ys, ys = downTo zs zs.length ∧ J ys W') ∨ (∃ pre, True ∧ Jx pre W')) := by
  refine callsIn_of_wp Try.func82 rfl h7 ?_ hro
  simp only [Try.ntmps82, List.size_toArray, List.length_cons, List.length_nil, Nat.reduceAdd, Nat.reduceSub, Array.replicate_succ, Array.replicate_zero, List.push_toArray, List.append_toArray, List.nil_append, List.cons_append]
  gi_wp2
  gi_loopw [3] (fun i wr => ∃ t : Int, -1 ≤ t ∧ t < (zs.length : Int) ∧ i = .int .i64 t ∧ J (downTo zs (zs.length - (t + 1).toNat)) wr ∧ Aside0 (KpB vb W wr))
    (fun i _ => (intOf i + 1).toNat)
  case atStart => exact ⟨(zs.length : Int) - 1, by omega, by omega, rfl, by rw [show zs.length - ((zs.length : Int) - 1 + 1).toNat = 0 by omega]; exact h0, ⟨fun _ _ _ h => h⟩⟩
  case round =>
    obtain ⟨t, ht0, ht1, rfl, hJs, hnx⟩ := hrel
    by_cases hlt : 0 ≤ t
    · obtain ⟨m, rfl⟩ := Int.eq_ofNat_of_zero_le hlt
      have hbx : wr.cell? ⟨Bs, 0, none⟩ = some (.slice (some ad) zs.length cap) := hnx.out _ _ hvb hBs
      have hcx : wr.cell? (ad.add m) = some (.int .i64 (rd zs (m : Int))) := hnx.out _ _ (hab m) (hc m (by omega))
      obtain ⟨fn, tmps, assign, body, hy, hR⟩ := hY _ ((m : Int), rd zs (m : Int)) wr hJs (by rw [downTo_length]; omega)
      dsimp only at hy
      have hmm : m < zs.length := by omega
      have e1 : downTo zs (zs.length - ((m : Int) + 1).toNat) ++ [((m : Int), rd zs (m : Int))] = downTo zs (zs.length - (((m : Int) - 1) + 1).toNat) := by
        rw [show zs.length - (((m : Int) - 1) + 1).toNat = (zs.length - ((m : Int) + 1).toNat) + 1 by omega, downTo_succ]
        rw [show zs.length - 1 - (zs.length - ((m : Int) + 1).toNat) = m by omega]
      have E1 := Aside0.mk e1
      clear e1
      gi_wp2
      refine hR.mono ?_
      rintro e W3 (⟨rfl, hJ3, hk3⟩ | ⟨rfl, hJx3⟩)
      · gi_wp2
        go_roundw
        case rel => exact ⟨(m : Int) - 1, by omega, by omega, rfl, by rw [← E1.out]; exact hJ3, ⟨hnx.out.t hk3⟩⟩
        case measure => first | (simp [intOf]; omega) | (simp [intOf]; done)
      · gi_wp2
        refine bodyPost_ret (results_none rfl _ _ _) rfl ?_
        exact ⟨⟨_, rfl⟩, .inr ⟨_, trivial, hJx3⟩⟩
    · obtain rfl : t = -1 := by omega
      gi_wp2
      go_end0
      exact ⟨⟨_, rfl⟩, .inl (by simpa using hJs)⟩
set_option maxRecDepth 100000 in
set_option maxHeartbeats 4000000 in
theorem backward1_nil_in (F : Fence) (n : Nat) (h7 : F.fn 82) (hro : F.round = none) (l Bs : Nat) (A0 : Option Addr) (c : Nat) (J : List (Int × Int) → World → Prop) (W : World) (hBs : W.cell? ⟨Bs, 0, none⟩ = some (.slice A0 0 c)) (h0 : J [] W) :
    CallsIn F n Try.prog 82 #[.func (.yield l) #[] #[], .pointer (some ⟨Bs, 0, none⟩)] W fun e W' => (∃ v, e = .returned v) ∧ J [] W' := by
  refine callsIn_of_wp Try.func82 rfl h7 ?_ hro
  simp only [Try.ntmps82, List.size_toArray, List.length_cons, List.length_nil, Nat.reduceAdd, Nat.reduceSub, Array.replicate_succ, Array.replicate_zero, List.push_toArray, List.append_toArray, List.nil_append, List.cons_append]
  gi_wp2
  gi_loopw [3] (fun i wr => i = .int .i64 (-1) ∧ J [] wr) (fun _ _ => 0)
  case atStart => exact ⟨rfl, h0⟩
  case round =>
    obtain ⟨rfl, hJs⟩ := hrel
    gi_wp2
    go_end0
    exact ⟨⟨_, rfl⟩, hJs⟩
set_option maxHeartbeats 1000000 in
theorem backward_in (F : Fence) (n : Nat) (h5 : F.fn 66) (hro : F.round = none) (a : Option Addr) (len cap : Nat) (w : World) :
    CallsIn F n Try.prog 66 #[.slice a len cap] w fun e w' => e = .returned (.func (.func 82) #[] #[.pointer (some ⟨w.heap.size, 0, none⟩)]) ∧ w' = w.alloc (.cells #[.slice a len cap] 23) := by
  refine callsIn_of_wp Try.func66 rfl h5 ?_ hro
  simp only [Try.ntmps66, List.size_toArray, List.length_cons, List.length_nil, Nat.reduceAdd, Nat.reduceSub, Array.replicate_succ, Array.replicate_zero, List.push_toArray, List.append_toArray, List.nil_append, List.cons_append]
  gi_wp2
  go_ret
  exact ⟨rfl, rfl⟩
theorem backward_stops (F : Fence) (n : Nat) (h7 : F.fn 82) (hro : F.round = none) (hn : 1 ≤ n) (Bs vb : Nat) (A0 : Option Addr) (c : Nat) (zs : List Int) (hreach : zs.length < 4611686018427387904) (w : World) (hBs : Bs < w.heap.size) (hvb : Bs ≠ vb)
    (hc : w.cell? ⟨Bs, 0, none⟩ = some (.slice A0 zs.length c)) (hI : Kd.C (Kd.int .i64) w A0 zs.length zs) (hA : ∀ ad, A0 = some ad → 0 < zs.length → ad.block ≠ vb) :
    SeqStopsK F n Try.prog 82 #[.pointer (some ⟨Bs, 0, none⟩)] (fun x : Int × Int => #[Value.int .i64 x.1, Value.int .i64 x.2]) (KpB vb) (fun ys => ys = downTo zs zs.length) (fun _ => True) zs.length w := fun l J Jx W hW _ _ hY h0 => by
  have hc' := (hW.cell (p := ⟨Bs, 0, none⟩) hBs).trans hc
  rcases Nat.eq_zero_or_pos zs.length with hz | hz
  · rw [hz] at hc'
    refine (backward1_nil_in F n h7 hro l Bs A0 c J W hc' h0).mono fun e W' ⟨he, hj⟩ => ⟨he, .inl ⟨_, rfl, ?_⟩⟩
    rw [hz]
    exact hj
  · obtain ⟨ad, rfl, _⟩ := Kd.at_int hI 0 (by omega) (by omega)
    have hcs : ∀ j : Nat, j < zs.length → W.cell? (ad.add j) = some (.int .i64 (rd zs (j : Int))) := by
      intro j hj
      obtain ⟨ad', e, hcell⟩ := Kd.at_int hI (j : Int) (by omega) (by omega)
      cases e
      exact pw_cell_below hW (by simpa using hcell)
    have hab : ∀ j, (ad.add j).block ≠ vb := fun j => by rw [add_block]; exact hA ad rfl hz
    exact backward1_in F n h7 hro hn l Bs vb ad c zs hreach hvb hab J Jx hY W hc' hcs h0
end


/-! ### impl_PolyAt: function 28 -/
/-- Horner's way, as the machine reckons. -/
def hornW : List Int → Int → Int
  | [], _ => 0
  | c :: t, x => Int.tmod (wrap64 (wrap64 (hornW t x * x) + c)) 251
def impl_PolyAt.f (k : Nat) (l0 : List Int) (a1 : Int) : Option Int := (impl_validCoefs.f k l0).bind fun t => (if t = true then (if a1 < 0 then (some (-1)) else (if a1 > 250 then (some (-1)) else (if l0.length < 4611686018427387904 then some (hornW l0 a1) else none))) else (some (-1)))
theorem impl_PolyAt.mono : ∀ a0 a1 k, LeO (impl_PolyAt.f k a0 a1) (impl_PolyAt.f (k + 1) a0 a1) := by
  intro a0 a1 k
  unfold impl_PolyAt.f
  exact LeO.bind (impl_validCoefs.mono _ _) (fun _ => LeO.refl _)
theorem hornW_down (zs : List Int) (x : Int) : ∀ k : Nat, k ≤ zs.length → (downTo zs k).foldl (fun v p => Int.tmod (wrap64 (wrap64 (v * x) + p.2)) 251) 0 = hornW (zs.drop (zs.length - k)) x := by
  intro k
  induction k with
  | zero => intro _; simp [downTo, hornW]
  | succ k ih =>
    intro hk
    rw [downTo_succ, List.foldl_append, ih (by omega)]
    have e : zs.drop (zs.length - (k + 1)) = rd zs ((zs.length - 1 - k : Nat) : Int) :: zs.drop (zs.length - k) := by
      have h1 : zs.length - (k + 1) < zs.length := by omega
      rw [List.drop_eq_getElem_cons h1, show zs.length - (k + 1) + 1 = zs.length - k by omega]
      congr 1
      simp only [rd, List.getD_eq_getElem?_getD, Int.toNat_natCast, show zs.length - 1 - k = zs.length - (k + 1) by omega, List.getElem?_eq_getElem h1, Option.getD_some]
    rw [e]
    simp [hornW]

section
attribute [local go_sem] Oper.semAt_some
set_option maxRecDepth 100000 in
set_option maxHeartbeats 8000000 in
theorem impl_PolyAt.calls (k : Nat) (A0 : Option Addr) (c0 : Nat) (l0 : List Int) (a1 : Int) (r : Int) (w : World) (hr0 : Kd.C (Kd.int .i64) w A0 l0.length l0) (hc0 : l0.length ≤ c0) (h : impl_PolyAt.f k l0 a1 = some r) :
    Calls Try.prog 28 #[.slice A0 l0.length c0, .int .i64 a1] w fun e w' => e = .returned (.int .i64 r) ∧ Below w.heap.size w w' := by
  have HR0 := Aside0.mk hr0
  have HC0 := Aside0.mk hc0
  clear hr0 hc0
  unfold impl_PolyAt.f at h
  obtain ⟨t, hA1, H⟩ := Option.bind_eq_some_iff.mp h
  clear h
  have A1 := Aside0.mk hA1
  clear hA1
  replace H := Aside0.mk H
  have h := H.out
  clear H
  cases t with
  | false =>
    rw [if_neg (by decide)] at h
    obtain rfl := Option.some.inj h
    clear h
    go_enter Try.func28, Try.ntmps28
    go_wp2_with (go_at_call 54; (with_reducible refine (impl_validCoefs.calls k _ _ l0 false _ ?s1 ?s2 A1.out).mono ?_); (case s1 => exact Kd.C_alloc HR0.out _); (case s2 => exact HC0.out); rintro e w' ⟨rfl, ⟨nd, rfl⟩⟩)
    go_ret
    exact ⟨rfl, pw_below_drewN ((Below.refl _ _).alloc (Nat.le_refl _) _) _⟩
  | true =>
    rw [if_pos rfl] at h
    by_cases hlo : a1 < 0
    · rw [if_pos hlo] at h
      obtain rfl := Option.some.inj h
      clear h
      have hlo2 : decide (a1 < 0) = true := decide_eq_true hlo
      clear hlo
      go_enter Try.func28, Try.ntmps28
      go_wp2_with (go_at_call 54; (with_reducible refine (impl_validCoefs.calls k _ _ l0 true _ ?s1 ?s2 A1.out).mono ?_); (case s1 => exact Kd.C_alloc HR0.out _); (case s2 => exact HC0.out); rintro e w' ⟨rfl, ⟨nd, rfl⟩⟩)
      go_ret
      exact ⟨rfl, pw_below_drewN ((Below.refl _ _).alloc (Nat.le_refl _) _) _⟩
    · rw [if_neg hlo] at h
      have hlo2 : decide (a1 < 0) = false := decide_eq_false hlo
      clear hlo
      by_cases hup : a1 > 250
      · rw [if_pos hup] at h
        obtain rfl := Option.some.inj h
        clear h
        have hup2 : decide (250 < a1) = true := decide_eq_true hup
        clear hup
        go_enter Try.func28, Try.ntmps28
        go_wp2_with (go_at_call 54; (with_reducible refine (impl_validCoefs.calls k _ _ l0 true _ ?s1 ?s2 A1.out).mono ?_); (case s1 => exact Kd.C_alloc HR0.out _); (case s2 => exact HC0.out); rintro e w' ⟨rfl, ⟨nd, rfl⟩⟩)
        go_ret
        exact ⟨rfl, pw_below_drewN ((Below.refl _ _).alloc (Nat.le_refl _) _) _⟩
      · rw [if_neg hup] at h
        have hup2 : decide (250 < a1) = false := decide_eq_false hup
        clear hup
        by_cases hlen : l0.length < 4611686018427387904
        · rw [if_pos hlen] at h
          obtain rfl := Option.some.inj h
          clear h
          have HLEN := Aside0.mk hlen
          clear hlen
          refine (callsIn_wide (n := 3)).1 ?_
          refine callsIn_of_wp_marks Try.func28 rfl trivial ?_ rfl
          simp only [Try.ntmps28, List.size_toArray, List.length_cons, List.length_nil, Nat.reduceAdd, Nat.reduceSub, Array.replicate_succ, Array.replicate_zero, List.push_toArray, List.append_toArray, List.nil_append, List.cons_append]
          gi_wp2_with (first | (refine ⟨trivial, ?_⟩; gi_at_call 54; refine (callsIn_wide.2 (impl_validCoefs.calls k _ _ l0 true _ ?s1 ?s2 A1.out)).mono ?_; (case s1 => exact Kd.C_alloc HR0.out _); (case s2 => exact HC0.out); rintro e w' ⟨rfl, ⟨nd, rfl⟩⟩) | (refine ⟨trivial, ?_⟩; gi_at_call 66; refine (backward_in _ _ trivial rfl _ _ _ _).mono ?_; rintro e w' ⟨rfl, rfl⟩))
          have hs1 : ((((w.alloc (Obj.cells #[Value.int .i64 a1] 3)).drewN nd).alloc (Obj.cells #[Value.int .i64 0] 3))).heap.size = w.heap.size + 1 + 1 := by simp
          have bX := Boxed.new w 3 (.int .i64 a1)
          have bV := Boxed.new ((w.alloc (Obj.cells #[Value.int .i64 a1] 3)).drewN nd) 3 (.int .i64 0)
          have bN := Boxed.new ((((w.alloc (Obj.cells #[Value.int .i64 a1] 3)).drewN nd).alloc (Obj.cells #[Value.int .i64 0] 3))) 23 (.slice A0 l0.length c0)
          rw [hs1] at bN
          have hs2 : ((w.alloc (Obj.cells #[Value.int .i64 a1] 3)).drewN nd).heap.size = w.heap.size + 1 := by simp
          rw [hs2] at bV
          have bX2 : Boxed ((w.alloc (Obj.cells #[Value.int .i64 a1] 3)).drewN nd) w.heap.size 3 (.int .i64 a1) := bX
          have bX4 := (bX2.alloc (Obj.cells #[Value.int .i64 0] 3)).alloc (Obj.cells #[Value.slice A0 l0.length c0] 23)
          have bV4 := bV.alloc (Obj.cells #[Value.slice A0 l0.length c0] 23)
          have hB0 : Below w.heap.size w ((((w.alloc (Obj.cells #[Value.int .i64 a1] 3)).drewN nd).alloc (Obj.cells #[Value.int .i64 0] 3)).alloc (Obj.cells #[Value.slice A0 l0.length c0] 23)) :=
            ((pw_below_drewN ((Below.refl _ _).alloc (Nat.le_refl _) _) _).alloc (by simp) _).alloc (by simp; omega) _
          have hCW := Kd.C_alloc (Kd.C_alloc (Kd.C_drewN (Kd.C_alloc HR0.out (Obj.cells #[Value.int .i64 a1] 3)) nd) (Obj.cells #[Value.int .i64 0] 3)) (Obj.cells #[Value.slice A0 l0.length c0] 23)
          have hAb : ∀ ad, A0 = some ad → 0 < l0.length → ad.block ≠ w.heap.size + 1 := by
            intro ad e hpos
            obtain ⟨ad', e', hcell⟩ := Kd.at_int HR0.out 0 (by omega) (by omega)
            rw [e] at e'
            cases e'
            have := World.block_lt_of_cell? w _ hcell
            rw [add_block] at this
            omega
          have hdown := hornW_down l0 a1 l0.length (Nat.le_refl _)
          rw [Nat.sub_self, List.drop_zero] at hdown
          have HDOWN := Aside0.mk hdown
          clear hdown hs1 hs2
          obtain ⟨W0, hW0⟩ : ∃ W0, ((((w.alloc (Obj.cells #[Value.int .i64 a1] 3)).drewN nd).alloc (Obj.cells #[Value.int .i64 0] 3)).alloc (Obj.cells #[Value.slice A0 l0.length c0] 23)) = W0 := ⟨_, rfl⟩
          have hs4 : W0.heap.size = w.heap.size + 1 + 1 + 1 := by rw [← hW0]; simp
          rw [hW0] at bN bX4 bV4 hB0 hCW ⊢
          clear hW0 bX2 bX bV
          refine wpIn_rangeFunc_ownG rfl (by omega) (gf := 82) (lb := #[.pointer (some ⟨w.heap.size + 1 + 1, 0, none⟩)]) rfl trivial (enters_of Try.func82 (by kernel_rfl) rfl)
            (backward_stops Fence.wide (3 - 1) trivial rfl (by omega) (w.heap.size + 1 + 1) (w.heap.size + 1) A0 c0 l0 HLEN.out W0 (by omega) (by omega) bN.cell hCW hAb) KpB.t KpB.b (Below.refl _ _) (fun _ => rfl)
            (fun pre W => (W.cell? ⟨w.heap.size + 1, 0, none⟩ = some (.int .i64 (pre.foldl (fun v p => Int.tmod (wrap64 (wrap64 (v * a1) + p.2)) 251) 0)) ∧ W.frozen? ⟨w.heap.size + 1, 0, none⟩ = false ∧ W.cell? ⟨w.heap.size, 0, none⟩ = some (.int .i64 a1)) ∧ Below w.heap.size w W)
            (fun _ _ _ => False)
            (OwnFrom.and (Own.from (fun s A B row hs hg hr => ⟨cell_kept hs.1 hg hr, (frozen_kept hs.1 hg hr).trans hs.2.1, cell_kept hs.2.2 hg hr⟩) _) (ownFrom_below (Nat.le_refl _) (by omega)))
            (fun _ _ _ _ _ hs _ _ => hs)
            ⟨⟨bV4.cell, bV4.frozen, bX4.cell⟩, hB0⟩
            (fun x => { tmps := #[.slice A0 l0.length c0, .int .i64 a1, undef, .pointer (some ⟨w.heap.size, 0, none⟩), .int .i64 0, .pointer (some ⟨w.heap.size + 1, 0, none⟩), undef, .int .i64 x.2, .slice A0 l0.length c0, .bool true, .bool false, .bool false, .int .i64 a1, .bool false, .bool false, .bool false, .int .i64 a1, .bool false, .bool false, .slice A0 l0.length c0, .func (.func 82) #[] #[.pointer (some ⟨w.heap.size + 1 + 1, 0, none⟩)], .int .i64 x.1, .int .i64 x.2, undef, undef, undef, undef, undef, undef, undef], defers := [] }) ?assign ?body ?done ?stop
          case assign =>
            intro l x W K hK
            gi_wp2
            exact hK
          case body =>
            rintro l pre x W ⟨⟨hc, hf, hx⟩, hB⟩ _
            gi_wp2
            refine ⟨(KeepsOthers.setCell _ _ _).from _, fun a v ha hv => (World.cell?_of_block (Below.heap_setCell W _ _ a.block ha)).trans hv, ⟨?_, by rw [World.frozen?_setCell]; exact hf, ?_⟩, hB.setCell (p := ⟨w.heap.size + 1, 0, none⟩) (by simp) _⟩
            · rw [List.foldl_append]
              exact World.cell?_setCell_same' _ _ _ (by rw [hc]; rfl)
            · exact (World.cell?_of_block (Below.heap_setCell W _ _ w.heap.size (by simp))).trans hx
          case done =>
            rintro D ys W hD rfl ⟨⟨hc, hf, hx⟩, hB⟩ hK
            gi_wp2
            refine ⟨by simp, .inl ⟨_, _, rfl, run_takeDeferred hK, ?_⟩⟩
            exact ⟨_, results_tmp rfl _ _ _, by rw [HDOWN.out]; rfl, hB.trans (belowK_b (w := W0) (by omega) W D _ _ hD hK rfl rfl)⟩
          case stop =>
            rintro D c pre W _ _ h _
            exact h.elim
        · rw [if_neg hlen] at h
          cases h
end


/-! ### impl_InverseOf: function 79 -/
mutual
def impl_InverseOf.j0 : Nat → Int → Bool → Option (Int)
  | 0, _, _ => none
  | k + 1, x0, x9 => if x9 = true then (some (-1)) else (impl_InverseOf.l0 k x0 1)
def impl_InverseOf.l0 : Nat → Int → Int → Option (Int)
  | 0, _, _ => none
  | k + 1, x0, x3 => if (Int.tmod (wrap64 (x3 * x0)) 251) = 1 then (some x3) else (impl_InverseOf.l0 k x0 (wrap64 (x3 + 1)))
end
def impl_InverseOf.f (k : Nat) (a0 : Int) : Option (Int) := if a0 < 1 then (impl_InverseOf.j0 k a0 true) else (impl_InverseOf.j0 k a0 (decide (a0 > 250)))
theorem impl_InverseOf.mono_l : ∀ k, (∀ y0 y1, LeO (impl_InverseOf.j0 k y0 y1) (impl_InverseOf.j0 (k + 1) y0 y1)) ∧ (∀ y0 y1, LeO (impl_InverseOf.l0 k y0 y1) (impl_InverseOf.l0 (k + 1) y0 y1))
  | 0 => ⟨fun _ _ r h => by simp [impl_InverseOf.j0] at h, fun _ _ r h => by simp [impl_InverseOf.l0] at h⟩
  | k + 1 => by
    obtain ⟨ih0, ih1⟩ := impl_InverseOf.mono_l k
    refine ⟨?_, ?_⟩
    · intro y0 y1
      unfold impl_InverseOf.j0
      repeat' first
      | (with_reducible exact ih0 _ _)
      | (with_reducible exact ih1 _ _)
      | (with_reducible exact LeO.refl _)
      | (with_reducible exact LeO.none _)
      | (with_reducible refine LeO.ite ?_ ?_)
      | (with_reducible refine LeO.bind ?_ (fun _ => ?_))
      | exact ih0 _ _
      | exact ih1 _ _
      | exact LeO.none _
      | refine LeO.ite ?_ ?_
      | refine LeO.bind ?_ (fun _ => ?_)
    · intro y0 y1
      unfold impl_InverseOf.l0
      repeat' first
      | (with_reducible exact ih0 _ _)
      | (with_reducible exact ih1 _ _)
      | (with_reducible exact LeO.refl _)
      | (with_reducible exact LeO.none _)
      | (with_reducible refine LeO.ite ?_ ?_)
      | (with_reducible refine LeO.bind ?_ (fun _ => ?_))
      | exact ih0 _ _
      | exact ih1 _ _
      | exact LeO.none _
      | refine LeO.ite ?_ ?_
      | refine LeO.bind ?_ (fun _ => ?_)
theorem impl_InverseOf.mono : ∀ a0 k, LeO (impl_InverseOf.f k a0) (impl_InverseOf.f (k + 1) a0) := by
  intro a0 k
  obtain ⟨ih0, ih1⟩ := impl_InverseOf.mono_l k
  unfold impl_InverseOf.f
  repeat' first
      | (with_reducible exact ih0 _ _)
      | (with_reducible exact ih1 _ _)
      | (with_reducible exact LeO.refl _)
      | (with_reducible exact LeO.none _)
      | (with_reducible refine LeO.ite ?_ ?_)
      | (with_reducible refine LeO.bind ?_ (fun _ => ?_))
      | exact ih0 _ _
      | exact ih1 _ _
      | exact LeO.none _
      | refine LeO.ite ?_ ?_
      | refine LeO.bind ?_ (fun _ => ?_)
set_option maxHeartbeats 8000000 in
set_option maxRecDepth 100000 in
theorem impl_InverseOf.calls (k : Nat) (a0 : Int) (r : Int) (w : World) (h : impl_InverseOf.f k a0 = some r) :
    Calls Try.prog 79 #[.int .i64 a0] w fun e w' => e = .returned (.int .i64 r) ∧ Drawn0 w w' := by
  have H : (if a0 < 1 then (impl_InverseOf.j0 k a0 true) else (impl_InverseOf.j0 k a0 (decide (a0 > 250)))) = some r := h
  clear h
  have HC2 := Aside0.mk H
  clear H
  go_enter Try.func79, Try.ntmps79
  go_upto_region 1 with (fail)
  go_cut [9] (fun v9 wc => ∃ (kq : Nat) (x9_1 : Bool), v9 = .bool x9_1 ∧ Aside0 (impl_InverseOf.j0 kq a0 x9_1 = some r) ∧ Aside0 (kq ≤ k) ∧ Drawn0 w wc)
  case first =>
    have H := HC2.out
    clear HC2
    by_cases c3 : a0 < 1
    · rw [if_pos c3] at H
      have c3b0 : decide (a0 < 1) = true := decide_eq_true c3
      clear c3
      (first | rw [c3b0] | (simp only [i64_w, i32_w]; rw [c3b0]) | skip)
      have H' := Aside0.mk H
      clear H
      go_wp2
      go_meet
      case rel => exact ⟨_, (true), (by first | rfl | (simp; done) | (simp [*]; done)), H', ⟨by first | omega | exact Nat.le_refl _⟩, by repeat (first | exact Drawn0.refl _ | apply Drawn0.step)⟩
    · rw [if_neg c3] at H
      have c3b0 : decide (a0 < 1) = false := decide_eq_false c3
      clear c3
      (first | rw [c3b0] | (simp only [i64_w, i32_w]; rw [c3b0]) | skip)
      have H' := Aside0.mk H
      clear H
      go_wp2
      go_meet
      case rel => exact ⟨_, (decide (a0 > 250)), (by first | rfl | (simp; done) | (simp [*]; done)), H', ⟨by first | omega | exact Nat.le_refl _⟩, by repeat (first | exact Drawn0.refl _ | apply Drawn0.step)⟩
  case rest =>
    clear HC2
    try clear p2
    try clear c3
    try clear c3b0
    obtain ⟨kq, x9_1, rfl, HA, HJ1, ⟨mc1, rfl⟩⟩ := hcut
    cases kq with
    | zero => exact absurd HA.out (by simp [impl_InverseOf.j0])
    | succ kj1 =>
      have H := HA.out
      clear HA
      simp only [impl_InverseOf.j0] at H
      by_cases c4 : x9_1 = true
      · subst c4
        have H1 : (some (-1)) = some r := by rw [if_pos rfl] at H; exact H
        clear H
        have H := H1
        clear H1
        obtain rfl := Option.some.inj H
        go_wp2
        go_ret
        exact ⟨by first | rfl | (simp; done) | (simp [*]; done), by repeat (first | exact Drawn0.refl _ | apply Drawn0.step)⟩
      · replace c4 := Bool.eq_false_iff.mpr c4
        subst c4
        have H1 : (impl_InverseOf.l0 kj1 a0 1) = some r := by rw [if_neg (show ¬ (false = true) by decide)] at H; exact H
        clear H
        have H := H1
        clear H1
        have H' := Aside0.mk H
        clear H
        go_wp2
        go_loopg [3] kj1 (fun kq v3 w' => ∃ (x3_2 : Int), v3 = .int .i64 x3_2 ∧ Aside0 (impl_InverseOf.l0 kq a0 x3_2 = some r) ∧ Aside0 (kq ≤ kj1) ∧ Drawn0 w w')
        case atStart => exact ⟨(1), (by first | rfl | (simp; done) | (simp [*]; done)), H', ⟨Nat.le_refl _⟩, by repeat (first | exact Drawn0.refl _ | apply Drawn0.step)⟩
        case round =>
          clear H'
          try clear c1
          try clear p2
          try clear c3
          try clear c3b0
          try clear c4
          try clear p2
          obtain ⟨x3_2, rfl, HA, HK2, ⟨m2, rfl⟩⟩ := hrel
          cases gk with
          | zero => exact absurd HA.out (by simp [impl_InverseOf.l0])
          | succ k2 =>
            have H := HA.out
            clear HA
            simp only [impl_InverseOf.l0] at H
            by_cases c5 : (Int.tmod (wrap64 (x3_2 * a0)) 251) = 1
            · rw [if_pos c5] at H
              have c5b0 : ((Int.tmod (wrap64 (x3_2 * a0)) 251) == 1) = true := beq_iff_eq.mpr c5
              have c5b1 : ((Int.tmod (wrap64 (x3_2 * a0)) 251) != 1) = false := bne_eq_false_iff_eq.mpr c5
              clear c5
              obtain rfl := Option.some.inj H
              go_wp2
              go_ret
              exact ⟨by first | rfl | (simp; done) | (simp [*]; done), by repeat (first | exact Drawn0.refl _ | apply Drawn0.step)⟩
            · rw [if_neg c5] at H
              have c5b0 : ((Int.tmod (wrap64 (x3_2 * a0)) 251) == 1) = false := beq_eq_false_iff_ne.mpr c5
              have c5b1 : ((Int.tmod (wrap64 (x3_2 * a0)) 251) != 1) = true := bne_iff_ne.mpr c5
              have H' := Aside0.mk H
              clear H
              go_wp2
              go_roundg k2
              case measure => have := HJ1.out; have := HK2.out; omega
              case rel => exact ⟨(wrap64 (x3_2 + 1)), (by first | rfl | (simp; done) | (simp [*]; done)), H', ⟨by have := HJ1.out; have := HK2.out; omega⟩, by repeat (first | exact Drawn0.refl _ | apply Drawn0.step)⟩

end Go.Proofs.Ytaoecaikeikneaa.PFnExactWrongShare
