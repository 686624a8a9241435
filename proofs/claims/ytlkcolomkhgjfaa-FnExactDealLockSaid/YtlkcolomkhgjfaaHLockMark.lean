/- laws.markIntS, markLockS and markLock: only numbers are written over numbers, in blocks of P. Own work. -/
import Derived.Test.YtlkcolomkhgjfaaHLockShape
namespace Go.Proofs.Ytlkcolomkhgjfaa.PFnExactDealLock
open Go.RowKit Go.Proofs.YtlkcolomkhgjfaaW.PrintWords Go.Proofs.YtlkcolomkhgjfaaW.PrintLast Go.Proofs.YtlkcolomkhgjfaaW.PrintMore
attribute [local go_sem] max2_int min2_int max_two min_two max_three min_three max_four min_four
set_option linter.unusedVariables false
set_option linter.unusedSimpArgs false

def markI.l0 : Nat → Int → Int → Int → Option Int
  | 0, _, _, _ => none
  | k + 1, n, x1, x5 => if x5 < n then (if 0 ≤ x5 then markI.l0 k n (wrap64 (x1 + 1)) (wrap64 (x5 + 1)) else none) else some x1
def markI.f (k : Nat) (n : Nat) (a1 : Int) : Option Int := markI.l0 k (n : Int) a1 0
/-- RI, told for the walk: at a round. -/
theorem RI.at {w : World} {P : Nat → Prop} {base n cap g : Nat} (h : RI w base P (.slice (some ⟨g, 0, none⟩) n cap) n) : P g ∧ base ≤ g ∧ ∃ c, w.heap[g]? = some (.cells c 3 (0, 0)) ∧ ∀ j : Nat, j < n → OneInt c[j]? := by
  rcases h with ⟨h, _⟩ | ⟨g', cap', c, e, h1, h2, h3, h4⟩
  · cases h
  · injection e with e1 e2 e3
    injection e1 with e1
    injection e1 with e1
    subst e1
    exact ⟨h1, h2, c, h3, h4⟩
set_option maxHeartbeats 8000000 in
set_option maxRecDepth 100000 in
theorem markI.calls (k : Nat) (P : Nat → Prop) (v : Value) (n : Nat) (a1 : Int) (r : Int) (w0 w : World) (hB : Below w0.heap.size w0 w) (ho : RI w w0.heap.size P v n) (h : markI.f k n a1 = some r) :
    Calls Try.prog 25 #[v, .int .i64 a1] w fun e w' => e = .returned (.int .i64 r) ∧ Below w0.heap.size w0 w' ∧ Shp w w' P := by
  have HK := Aside0.mk (Shp.refl w P)
  have HB := Aside0.mk hB
  clear hB
  have H' := Aside0.mk (show markI.l0 k (n : Int) a1 0 = some r from h)
  clear h
  rcases id ho with ⟨rfl, rfl⟩ | ⟨g, cap, c0, rfl, -⟩
  · clear ho
    go_enter Try.func25, Try.ntmps25
    go_wp2
    go_loopg [1, 5] k (fun kq v1 v5 w' => v1 = .int .i64 a1 ∧ v5 = .int .i64 0 ∧ Aside0 (markI.l0 kq ((0 : Nat) : Int) a1 0 = some r) ∧ Aside0 (kq ≤ k) ∧ Aside0 (Shp w w' P) ∧ Aside0 (Below w0.heap.size w0 w'))
    case atStart => exact ⟨rfl, rfl, H', ⟨Nat.le_refl _⟩, ⟨by repeat (first | (with_reducible first | exact HK.out | apply Shp.alloc | apply Shp.drewN | apply Shp.drew) | exact HK.out)⟩, ⟨by repeat (first | (with_reducible first | exact HB.out | apply below_alloc | apply pw_below_drewN | apply below_drew1) | exact HB.out)⟩⟩
    case round =>
      clear H' HK HB
      obtain ⟨rfl, rfl, HA, HK1, HK, HB⟩ := hrel
      cases gk with
      | zero => exact absurd HA.out (by simp [markI.l0])
      | succ k1 =>
        have H := HA.out
        clear HA
        simp only [markI.l0] at H
        rw [if_neg (by omega)] at H
        obtain rfl := Option.some.inj H
        go_wp2
        go_ret
        exact ⟨by first | rfl | (simp; done) | (simp [*]; done), by repeat (first | (with_reducible first | exact HB.out | apply below_alloc | apply pw_below_drewN | apply below_drew1) | exact HB.out), by repeat (first | (with_reducible first | exact HK.out | apply Shp.alloc | apply Shp.drewN | apply Shp.drew) | exact HK.out)⟩
  · have HR := Aside0.mk ho
    have HP := Aside0.mk ho.at.1
    have GB := Aside0.mk ho.at.2.1
    clear ho
    go_enter Try.func25, Try.ntmps25
    go_wp2
    go_loopg [1, 5] k (fun kq v1 v5 w' => ∃ (x1_1 : Int) (x5_1 : Int), v1 = .int .i64 x1_1 ∧ v5 = .int .i64 x5_1 ∧ Aside0 (markI.l0 kq (n : Int) x1_1 x5_1 = some r) ∧ Aside0 (kq ≤ k) ∧ Aside0 (Shp w w' P) ∧ Aside0 (Below w0.heap.size w0 w'))
    case atStart => exact ⟨a1, 0, rfl, rfl, H', ⟨Nat.le_refl _⟩, ⟨by repeat (first | (with_reducible first | exact HK.out | apply Shp.alloc | apply Shp.drewN | apply Shp.drew) | exact HK.out)⟩, ⟨by repeat (first | (with_reducible first | exact HB.out | apply below_alloc | apply pw_below_drewN | apply below_drew1) | exact HB.out)⟩⟩
    case round =>
      clear H' HK HB
      obtain ⟨x1_1, x5_1, rfl, rfl, HA, HK1, HK, HB⟩ := hrel
      cases gk with
      | zero => exact absurd HA.out (by simp [markI.l0])
      | succ k1 =>
        have H := HA.out
        clear HA
        simp only [markI.l0] at H
        by_cases c3 : x5_1 < (n : Int)
        · rw [if_pos c3] at H
          have c3b0 : decide (x5_1 < (n : Int)) = true := decide_eq_true c3
          by_cases c4 : 0 ≤ x5_1
          · rw [if_pos c4] at H
            have c4b0 : decide (0 ≤ x5_1) = true := decide_eq_true c4
            have H' := Aside0.mk H
            clear H
            obtain ⟨cc, hcb0, hcj⟩ := (HR.out.shp HK.out).at.2.2
            obtain ⟨m, hm⟩ := hcj (x5_1 : Int).toNat (by omega)
            have HC := Aside0.mk hcb0
            have HM := Aside0.mk hm
            have hu0_ := (blk_cell hcb0 (x5_1 : Int).toNat).trans hm
            have hf0_ := blk_frozen hcb0 (x5_1 : Int).toNat
            clear c3 c4 hcb0 hcj hm
            have p5 := eq_true (of_decide_eq_true c4b0)
            have q5 := eq_true (of_decide_eq_true c3b0)
            go_wp2_with (first | ((with_reducible refine gate_store (t := 3) (p := 15) rfl ?_); refine store_event (t := 3) (p := 15) (v := ?vo1_) (w1 := (wr.setCell ⟨g, (x5_1 : Int).toNat, none⟩ (.int .i64 x1_1))) ?hg ?ho ?hn ?hr ?_; (case ho => rfl); (case hg => rfl); (case hn => rfl); (case hr => first | (go_simp; done) | (go_simp; rfl)); intro w1_ hw; have n1_ := Aside0.mk ((by rw [hw]; exact below_set (HB.out) GB.out : Below w0.heap.size w0 w1_)); have n2_ := Aside0.mk (show Shp w w1_ P from by rw [hw]; exact Shp.set HK.out HC.out HP.out m HM.out _); clear HB HK HC HM hw; have HB := n1_; have HK := n2_; clear n1_ n2_))
            go_roundg k1
            case measure => have := HK1.out; omega
            case rel => exact ⟨wrap64 (x1_1 + 1), (wrap64 (x5_1 + 1)), (by first | rfl | (simp; done) | (simp [*]; done)), (by first | rfl | (simp; done) | (simp [*]; done)), H', ⟨by have := HK1.out; omega⟩, ⟨by repeat (first | (with_reducible first | exact HK.out | apply Shp.alloc | apply Shp.drewN | apply Shp.drew) | exact HK.out)⟩, ⟨by repeat (first | (with_reducible first | exact HB.out | apply below_alloc | apply pw_below_drewN | apply below_drew1) | exact HB.out)⟩⟩
          · rw [if_neg c4] at H
            exact absurd H (by simp)
        · rw [if_neg c3] at H
          have c3b0 : decide (x5_1 < (n : Int)) = false := decide_eq_false c3
          clear c3
          obtain rfl := Option.some.inj H
          go_wp2
          go_ret
          exact ⟨by first | rfl | (simp; done) | (simp [*]; done), by repeat (first | (with_reducible first | exact HB.out | apply below_alloc | apply pw_below_drewN | apply below_drew1) | exact HB.out), by repeat (first | (with_reducible first | exact HK.out | apply Shp.alloc | apply Shp.drewN | apply Shp.drew) | exact HK.out)⟩
def markLS.l0 : Nat → List S26 → Int → Int → Option Int
  | 0, _, _, _ => none
  | k + 1, x0, x1, x5 => if x5 < (x0.length : Int) then (if 0 ≤ x5 then ((markI.f k (rd_T26 x0 x5).f1.length (wrap64 (x1 + 1))).bind fun t => (markLS.l0 k (rd_T26 x0 x5).f2 t 0).bind fun u => markLS.l0 k x0 u (wrap64 (x5 + 1))) else none) else some x1
def markLS.f (k : Nat) (l0 : List S26) (a1 : Int) : Option Int := markLS.l0 k l0 a1 0
theorem Shp.cellS {w W : World} {P : Nat → Prop} (h : Shp w W P) {g o : Nat} {A : Option Addr} {n d : Nat} (hc : w.cell? ⟨g, o, none⟩ = some (.slice A n d)) : W.cell? ⟨g, o, none⟩ = some (.slice A n d) := by
  rcases h.2 g (World.block_lt_of_cell? w _ hc) with h1 | ⟨_, c, c', e, h2, h3, h4, h5⟩
  · exact (World.cell?_of_block h1).trans hc
  · rw [blk_cell h2] at hc
    rw [blk_cell h3]
    rcases h5 o with q | ⟨⟨z, q⟩, _⟩
    · rw [q]; exact hc
    · rw [q] at hc; cases hc
/-- A row of locks that has an element, told for the walk. -/
theorem ShL.at {w : World} {P : Nat → Prop} {base m cap g : Nat} {xs : List S26} (h : ShL m w base P (.slice (some ⟨g, 0, none⟩) xs.length cap) xs) : P g ∧ base ≤ g ∧ ∃ c, w.heap[g]? = some (.cells c 26 (0, 0)) ∧ ∀ j x, xs[j]? = some x → OneInt c[j * 3]? ∧ (∃ u, c[j * 3 + 1]? = some u ∧ RI w base P u x.f1.length) ∧ ∃ u, c[j * 3 + 2]? = some u ∧ ShL (m - 1) w base P u x.f2 := by
  cases m with
  | zero => exact h.elim
  | succ m =>
    rcases h with ⟨h, _⟩ | ⟨g', cap', c, e, h1, h2, h3, h4⟩
    · cases h
    · injection e with e1 e2 e3
      injection e1 with e1
      injection e1 with e1
      subst e1
      exact ⟨h1, h2, c, h3, h4⟩
theorem rd_get {xs : List S26} {i : Int} (h1 : i < (xs.length : Int)) (h0 : 0 ≤ i) : xs[i.toNat]? = some (rd_T26 xs i) := by
  have h : i.toNat < xs.length := by omega
  simp [rd_T26, List.getD_eq_getElem?_getD, List.getElem?_eq_getElem h]
set_option maxHeartbeats 8000000 in
set_option maxRecDepth 100000 in
theorem markLS.calls : ∀ (k : Nat) (P : Nat → Prop) (m : Nat) (v : Value) (l0 : List S26) (a1 : Int) (r : Int) (w0 w : World) (hB : Below w0.heap.size w0 w) (ho : ShL m w w0.heap.size P v l0) (h : markLS.f k l0 a1 = some r),
    Calls Try.prog 51 #[v, .int .i64 a1] w fun e w' => e = .returned (.int .i64 r) ∧ Below w0.heap.size w0 w' ∧ Shp w w' P := by
  intro k
  induction k using Nat.strongRecOn with
  | _ k IH_ =>
  intro P m v l0 a1 r w0 w hB ho h
  have IH := Aside0.mk IH_
  clear IH_
  have hu26 := Try.underlying26
  have HK := Aside0.mk (Shp.refl w P)
  have HB := Aside0.mk hB
  clear hB
  have H' := Aside0.mk (show markLS.l0 k l0 a1 0 = some r from h)
  clear h
  have ho2 := ho
  cases m with
  | zero => exact ho.elim
  | succ m =>
  rcases ho with ⟨rfl, rfl⟩ | ⟨g, cap, c0, rfl, -⟩
  · clear ho2
    go_enter Try.func51, Try.ntmps51
    go_wp2
    go_loopg [1, 5] k (fun kq v1 v5 w' => v1 = .int .i64 a1 ∧ v5 = .int .i64 0 ∧ Aside0 (markLS.l0 kq [] a1 0 = some r) ∧ Aside0 (kq ≤ k) ∧ Aside0 (Shp w w' P) ∧ Aside0 (Below w0.heap.size w0 w'))
    case atStart => exact ⟨rfl, rfl, H', ⟨Nat.le_refl _⟩, ⟨by repeat (first | (with_reducible first | exact HK.out | apply Shp.alloc | apply Shp.drewN | apply Shp.drew) | exact HK.out)⟩, ⟨by repeat (first | (with_reducible first | exact HB.out | apply below_alloc | apply pw_below_drewN | apply below_drew1) | exact HB.out)⟩⟩
    case round =>
      clear H' HK HB
      obtain ⟨rfl, rfl, HA, HK1, HK, HB⟩ := hrel
      cases gk with
      | zero => exact absurd HA.out (by simp [markLS.l0])
      | succ k1 =>
        have H := HA.out
        clear HA
        simp only [markLS.l0] at H
        rw [if_neg (by simp)] at H
        obtain rfl := Option.some.inj H
        go_wp2
        go_ret
        exact ⟨by first | rfl | (simp; done) | (simp [*]; done), by repeat (first | (with_reducible first | exact HB.out | apply below_alloc | apply pw_below_drewN | apply below_drew1) | exact HB.out), by repeat (first | (with_reducible first | exact HK.out | apply Shp.alloc | apply Shp.drewN | apply Shp.drew) | exact HK.out)⟩
  · have HR := Aside0.mk ho2
    have HP := Aside0.mk ho2.at.1
    have GB := Aside0.mk ho2.at.2.1
    clear ho2
    go_enter Try.func51, Try.ntmps51
    go_wp2
    go_loopg [1, 5] k (fun kq v1 v5 w' => ∃ (x1_1 : Int) (x5_1 : Int), v1 = .int .i64 x1_1 ∧ v5 = .int .i64 x5_1 ∧ Aside0 (markLS.l0 kq l0 x1_1 x5_1 = some r) ∧ Aside0 (kq ≤ k) ∧ Aside0 (Shp w w' P) ∧ Aside0 (Below w0.heap.size w0 w'))
    case atStart => exact ⟨a1, 0, rfl, rfl, H', ⟨Nat.le_refl _⟩, ⟨by repeat (first | (with_reducible first | exact HK.out | apply Shp.alloc | apply Shp.drewN | apply Shp.drew) | exact HK.out)⟩, ⟨by repeat (first | (with_reducible first | exact HB.out | apply below_alloc | apply pw_below_drewN | apply below_drew1) | exact HB.out)⟩⟩
    case round =>
      clear H' HK HB
      obtain ⟨x1_1, x5_1, rfl, rfl, HA, HK1, HK, HB⟩ := hrel
      cases gk with
      | zero => exact absurd HA.out (by simp [markLS.l0])
      | succ k1 =>
        have H := HA.out
        clear HA
        simp only [markLS.l0] at H
        by_cases c3 : x5_1 < (l0.length : Int)
        · rw [if_pos c3] at H
          have c3b0 : decide (x5_1 < (l0.length : Int)) = true := decide_eq_true c3
          by_cases c4 : 0 ≤ x5_1
          · rw [if_pos c4] at H
            have c4b0 : decide (0 ≤ x5_1) = true := decide_eq_true c4
            replace H := Option.bind_eq_some_iff.mp H
            obtain ⟨t1, A1_, H⟩ := H
            replace H := Option.bind_eq_some_iff.mp H
            obtain ⟨t2, A2_, H⟩ := H
            have A1 := Aside0.mk A1_
            have A2 := Aside0.mk (show markLS.f k1 (rd_T26 l0 x5_1).f2 t1 = some t2 from A2_)
            have H' := Aside0.mk H
            clear H A1_ A2_
            obtain ⟨cc, hcb0, hcj⟩ := (HR.out.shp (m + 1) HK.out).at.2.2
            obtain ⟨⟨mm, hm⟩, ⟨u1, hu1, hr1⟩, u2, hu2, hr2⟩ := hcj (x5_1 : Int).toNat _ (rd_get c3 c4)
            obtain ⟨B1, d1, rfl⟩ := hr1.slice
            obtain ⟨B2, d2, rfl⟩ := hr2.slice
            obtain ⟨n1, hn1⟩ : ∃ n1, n1 = (rd_T26 l0 x5_1).f1.length := ⟨_, rfl⟩
            obtain ⟨n2, hn2⟩ : ∃ n2, n2 = (rd_T26 l0 x5_1).f2.length := ⟨_, rfl⟩
            have HC := Aside0.mk hcb0
            have HM := Aside0.mk hm
            have R1 := Aside0.mk hr1
            have R2 := Aside0.mk hr2
            have HX1 := Aside0.mk ((blk_cell hcb0 ((x5_1 : Int).toNat * 3 + 1)).trans hu1)
            have HX2 := Aside0.mk ((blk_cell hcb0 ((x5_1 : Int).toNat * 3 + 2)).trans hu2)
            have hu0_ := (blk_cell hcb0 ((x5_1 : Int).toNat * 3)).trans hm
            have hf0_ := blk_frozen hcb0 ((x5_1 : Int).toNat * 3)
            clear c3 c4 hcb0 hcj hm hu1 hu2 hr1 hr2
            have p5 := eq_true (of_decide_eq_true c4b0)
            have q5 := eq_true (of_decide_eq_true c3b0)
            go_wp2_with (first | ((with_reducible refine gate_store (t := 3) (p := 16) rfl ?_); refine store_event (t := 3) (p := 16) (v := ?vo1_) (w1 := (wr.setCell ⟨g, (x5_1 : Int).toNat * 3, none⟩ (.int .i64 x1_1))) ?hg ?ho ?hn ?hr ?_; (case ho => rfl); (case hg => rfl); (case hn => rfl); (case hr => first | (go_simp; done) | (go_simp; rfl)); intro w1_ hw; have n1_ := Aside0.mk ((by rw [hw]; exact below_set (HB.out) GB.out : Below w0.heap.size w0 w1_)); have n2_ := Aside0.mk (show Shp w w1_ P from by rw [hw]; exact Shp.set HK.out HC.out HP.out mm HM.out _); have s_ : Shp wr w1_ P := (by rw [hw]; exact Shp.set (Shp.refl wr P) HC.out HP.out mm HM.out _); have hx1_ : w1_.cell? ⟨g, (x5_1 : Int).toNat * 3 + 1, none⟩ = some (.slice B1 (rd_T26 l0 x5_1).f1.length d1) := (Shp.cellS s_ HX1.out); have X2_ := Aside0.mk (Shp.cellS s_ HX2.out); have R1_ := Aside0.mk (R1.out.shp s_); have R2_ := Aside0.mk (R2.out.shp _ s_); clear HB HK HM HC hw R1 R2 HX1 HX2 hu0_ hf0_ s_; have R1 := R1_; have R2 := R2_; have HX2 := X2_; clear R1_ R2_ X2_; have HB := n1_; have HK := n2_; clear n1_ n2_) | ((with_reducible refine gate_callee (f := 25) rfl ?_); refine goesL_ (some 25) rfl rfl Try.func25 (by kernel_rfl) rfl #[.slice B1 (rd_T26 l0 x5_1).f1.length d1, .int .i64 (wrap64 (x1_1 + 1))] rfl (by (try simp only [List.map_toArray, List.map_cons, List.map_nil]); first | done | rfl) ?_; (refine (markI.calls k1 P _ _ _ t1 w0 _ HB.out R1.out A1.out).mono ?_); rintro e w2_ ⟨rfl, hb, hs⟩; refine ⟨_, rfl, ?_⟩; have n0_ := Aside0.mk hb; have R2_ := Aside0.mk (R2.out.shp _ hs); have hx2_ := Shp.cellS hs HX2.out; have n1_ := Aside0.mk (Shp.then_ (by repeat (first | (with_reducible first | exact HK.out | apply Shp.alloc | apply Shp.drewN | apply Shp.drew) | exact HK.out)) hs); clear HB HK hb hs; have HB := n0_; have HK := n1_; clear n0_ n1_; clear R2 HX2 R1; have R2 := R2_; clear R2_) | ((with_reducible refine gate_callee (f := 51) rfl ?_); refine goesL_ (some 32) rfl rfl Try.func51 (by kernel_rfl) rfl #[.slice B2 (rd_T26 l0 x5_1).f2.length d2, .int .i64 t1] rfl (by (try simp only [List.map_toArray, List.map_cons, List.map_nil]); first | done | rfl) ?_; (refine (IH.out k1 (by have := HK1.out; omega) P _ _ _ _ t2 w0 _ HB.out R2.out A2.out).mono ?_); rintro e w3_ ⟨rfl, hb, hs⟩; refine ⟨_, rfl, ?_⟩; have n0_ := Aside0.mk hb; have n1_ := Aside0.mk (Shp.then_ (by repeat (first | (with_reducible first | exact HK.out | apply Shp.alloc | apply Shp.drewN | apply Shp.drew) | exact HK.out)) hs); clear HB HK hb hs; have HB := n0_; have HK := n1_; clear n0_ n1_; skip))
            go_roundg k1
            case measure => have := HK1.out; omega
            case rel => exact ⟨t2, (wrap64 (x5_1 + 1)), (by first | rfl | (simp; done) | (simp [*]; done)), (by first | rfl | (simp; done) | (simp [*]; done)), H', ⟨by have := HK1.out; omega⟩, ⟨by repeat (first | (with_reducible first | exact HK.out | apply Shp.alloc | apply Shp.drewN | apply Shp.drew) | exact HK.out)⟩, ⟨by repeat (first | (with_reducible first | exact HB.out | apply below_alloc | apply pw_below_drewN | apply below_drew1) | exact HB.out)⟩⟩
          · rw [if_neg c4] at H
            exact absurd H (by simp)
        · rw [if_neg c3] at H
          have c3b0 : decide (x5_1 < (l0.length : Int)) = false := decide_eq_false c3
          clear c3
          obtain rfl := Option.some.inj H
          go_wp2
          go_ret
          exact ⟨by first | rfl | (simp; done) | (simp [*]; done), by repeat (first | (with_reducible first | exact HB.out | apply below_alloc | apply pw_below_drewN | apply below_drew1) | exact HB.out), by repeat (first | (with_reducible first | exact HK.out | apply Shp.alloc | apply Shp.drewN | apply Shp.drew) | exact HK.out)⟩
def markL.f (k : Nat) (n1 : Nat) (l2 : List S26) (a1 : Int) : Option Int := (markI.f k n1 a1).bind fun t => markLS.f k l2 t
set_option maxHeartbeats 8000000 in
set_option maxRecDepth 100000 in
theorem markL.calls (k : Nat) (P : Nat → Prop) (m : Nat) (a0 : Int) (v1 v2 : Value) (n1 : Nat) (l2 : List S26) (a1 : Int) (r : Int) (w0 w : World) (hB : Below w0.heap.size w0 w) (ho1 : RI w w0.heap.size P v1 n1) (ho2 : ShL m w w0.heap.size P v2 l2) (h : markL.f k n1 l2 a1 = some r) :
    Calls Try.prog 24 #[.agg #[.int .i64 a0, v1, v2], .int .i64 a1] w fun e w' => e = .returned (.int .i64 r) ∧ Below w0.heap.size w0 w' ∧ Shp w w' P := by
  have hu26 := Try.underlying26
  obtain ⟨B1, d1, rfl⟩ := ho1.slice
  obtain ⟨B2, d2, rfl⟩ := ho2.slice
  have R1 := Aside0.mk ho1
  have R2 := Aside0.mk ho2
  clear ho1 ho2
  have HK := Aside0.mk (Shp.refl w P)
  have HB := Aside0.mk hB
  clear hB
  obtain ⟨t1, A1_, A2_⟩ := Option.bind_eq_some_iff.mp (show (markI.f k n1 a1).bind (fun t => markLS.f k l2 t) = some r from h)
  have A1 := Aside0.mk A1_
  have A2 := Aside0.mk A2_
  clear A1_ A2_ h
  go_enter Try.func24, Try.ntmps24
  go_wp2_with (first | ((with_reducible refine gate_dst (N := 2) rfl ?_); refine box_event ?hg (N := 2) ?hd (cs := #[.int .i64 a0, .slice B1 n1 d1, .slice B2 l2.length d2]) (t := 26) ?hr ?_; (case hd => rfl); (case hg => rfl); (case hr => first | (go_simp; done) | (go_simp; rfl)); intro gb hg w5 hbox hb; have hb2_ := (Shp.of_below hb P); have n0_ := Aside0.mk (below_then (by repeat (first | (with_reducible first | exact HB.out | apply below_alloc | apply pw_below_drewN | apply below_drew1) | exact HB.out)) (HB.out.size) hb); have n1_ := Aside0.mk (Shp.then_ (by repeat (first | (with_reducible first | exact HK.out | apply Shp.alloc | apply Shp.drewN | apply Shp.drew) | exact HK.out)) hb2_); have R1_ := Aside0.mk (R1.out.shp n1_.out); have R2_ := Aside0.mk (R2.out.shp _ n1_.out); clear HB HK R1 R2; have HB := n0_; have HK := n1_; have R1 := R1_; have R2 := R2_; clear n0_ n1_ R1_ R2_; have hcz_1 : w5.cell? ⟨gb, 1, none⟩ = some (.slice B1 n1 d1) := (blk_cell hbox 1).trans rfl; have HX2 := Aside0.mk (show w5.cell? ⟨gb, 2, none⟩ = some (.slice B2 l2.length d2) from (blk_cell hbox 2).trans rfl); clear hb hb2_ hbox hg) | ((with_reducible refine gate_callee (f := 25) rfl ?_); refine goesL_ (some 8) rfl rfl Try.func25 (by kernel_rfl) rfl #[.slice B1 n1 d1, .int .i64 a1] rfl (by (try simp only [List.map_toArray, List.map_cons, List.map_nil]); first | done | rfl) ?_; (refine (markI.calls k P _ _ _ t1 w0 _ HB.out R1.out A1.out).mono ?_); rintro e w6 ⟨rfl, hb, hs⟩; refine ⟨_, rfl, ?_⟩; have n0_ := Aside0.mk hb; have n1_ := Aside0.mk (Shp.then_ (by repeat (first | (with_reducible first | exact HK.out | apply Shp.alloc | apply Shp.drewN | apply Shp.drew) | exact HK.out)) hs); have R2_ := Aside0.mk (R2.out.shp _ hs); have hcz_2 := Shp.cellS hs HX2.out; clear HB HK R1 R2 HX2 hb hs; have HB := n0_; have HK := n1_; have R2 := R2_; clear n0_ n1_ R2_) | ((with_reducible refine gate_callee (f := 51) rfl ?_); refine goesL_ (some 12) rfl rfl Try.func51 (by kernel_rfl) rfl #[.slice B2 l2.length d2, .int .i64 t1] rfl (by (try simp only [List.map_toArray, List.map_cons, List.map_nil]); first | done | rfl) ?_; (refine (markLS.calls k P _ _ _ _ r w0 _ HB.out R2.out A2.out).mono ?_); rintro e w7 ⟨rfl, hb, hs⟩; refine ⟨_, rfl, ?_⟩; have n0_ := Aside0.mk hb; have n1_ := Aside0.mk (Shp.then_ (by repeat (first | (with_reducible first | exact HK.out | apply Shp.alloc | apply Shp.drewN | apply Shp.drew) | exact HK.out)) hs); clear HB HK hb hs; have HB := n0_; have HK := n1_; clear n0_ n1_))
  go_ret
  exact ⟨by first | rfl | (simp; done) | (simp [*]; done), by repeat (first | (with_reducible first | exact HB.out | apply below_alloc | apply pw_below_drewN | apply below_drew1) | exact HB.out), by repeat (first | (with_reducible first | exact HK.out | apply Shp.alloc | apply Shp.drewN | apply Shp.drew) | exact HK.out)⟩
end Go.Proofs.Ytlkcolomkhgjfaa.PFnExactDealLock
