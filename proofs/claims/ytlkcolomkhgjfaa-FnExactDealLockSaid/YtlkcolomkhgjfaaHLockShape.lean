/- The shape of a row of locks: where its rows lie and how long they are, whatever numbers they hold; writing numbers over numbers keeps it. Own work. -/
import Derived.Test.YtlkcolomkhgjfaaPFnExactDealLockx5
namespace Go.Proofs.Ytlkcolomkhgjfaa.PFnExactDealLock
open Go.RowKit Go.Proofs.YtlkcolomkhgjfaaW.PrintWords Go.Proofs.YtlkcolomkhgjfaaW.PrintLast Go.Proofs.YtlkcolomkhgjfaaW.PrintMore
set_option linter.unusedVariables false
set_option linter.unusedSimpArgs false

def OneInt (u : Option Value) : Prop := ∃ m : Int, u = some (.int .i64 m)
/-- Only numbers were written, over numbers, in blocks of P. -/
def Shp (w W : World) (P : Nat → Prop) : Prop :=
  w.heap.size ≤ W.heap.size ∧ ∀ i, i < w.heap.size → W.heap[i]? = w.heap[i]? ∨
    (P i ∧ ∃ c c' e, w.heap[i]? = some (.cells c e (0, 0)) ∧ W.heap[i]? = some (.cells c' e (0, 0)) ∧ c'.size = c.size ∧ ∀ j : Nat, c'[j]? = c[j]? ∨ (OneInt c[j]? ∧ OneInt c'[j]?))
theorem Shp.refl (w : World) (P : Nat → Prop) : Shp w w P := ⟨Nat.le_refl _, fun _ _ => .inl rfl⟩
theorem Shp.kept {w W : World} {P : Nat → Prop} (h : Shp w W P) : Kept w W P := ⟨h.1, fun i hi hn => (h.2 i hi).elim id (fun q => absurd q.1 hn)⟩
theorem Shp.then_ {w W W2 : World} {P : Nat → Prop} (h : Shp w W P) (k : Shp W W2 P) : Shp w W2 P := by
  refine ⟨Nat.le_trans h.1 k.1, fun i hi => ?_⟩
  rcases k.2 i (Nat.lt_of_lt_of_le hi h.1) with k1 | ⟨k1, c1, c2, e2, k2, k3, k4, k5⟩
  · rcases h.2 i hi with h1 | ⟨h1, c, c', e, h2, h3, h4, h5⟩
    · exact .inl (k1.trans h1)
    · exact .inr ⟨h1, c, c', e, h2, k1.trans h3, h4, h5⟩
  · rcases h.2 i hi with h1 | ⟨h1, c, c', e, h2, h3, h4, h5⟩
    · exact .inr ⟨k1, c1, c2, e2, h1.symm.trans k2, k3, k4, k5⟩
    · rw [h3] at k2
      injection k2 with k2
      injection k2 with k2 k6
      subst k2 k6
      refine .inr ⟨h1, c, c2, e, h2, k3, k4.trans h4, fun j => ?_⟩
      rcases k5 j with q | ⟨q1, q2⟩
      · rcases h5 j with p | ⟨p1, p2⟩
        · exact .inl (q.trans p)
        · exact .inr ⟨p1, by rw [q]; exact p2⟩
      · rcases h5 j with p | ⟨p1, p2⟩
        · exact .inr ⟨by rw [← p]; exact q1, q2⟩
        · exact .inr ⟨p1, q2⟩
theorem Shp.of_below {w W : World} (h : Below w.heap.size w W) (P : Nat → Prop) : Shp w W P := ⟨h.size, fun i hi => .inl (h.block i hi)⟩
theorem Shp.alloc {w W : World} {P : Nat → Prop} (h : Shp w W P) (o : Obj) : Shp w (W.alloc o) P := h.then_ (Shp.of_below (below_alloc (Below.refl _ _) o) P)
theorem Shp.drew {w W : World} {P : Nat → Prop} (h : Shp w W P) : Shp w W.drew P := h
theorem Shp.drewN {w W : World} {P : Nat → Prop} (h : Shp w W P) (m : Nat) : Shp w (W.drewN m) P := h
theorem Shp.set {w W : World} {P : Nat → Prop} (h : Shp w W P) {g o : Nat} {c : Array Value} {e : Nat} (hg : W.heap[g]? = some (.cells c e (0, 0))) (hP : P g) (m : Int) (hm : c[o]? = some (.int .i64 m)) (m' : Int) : Shp w (W.setCell ⟨g, o, none⟩ (.int .i64 m')) P := by
  refine h.then_ ⟨by simp [World.setCell], fun i hi => ?_⟩
  by_cases hi2 : i = g
  · subst hi2
    refine .inr ⟨hP, c, _, e, hg, blk_set hg o _, by simp, fun j => ?_⟩
    by_cases hj : o = j
    · subst hj
      refine .inr ⟨⟨m, hm⟩, m', ?_⟩
      have : o < c.size := (Array.getElem?_eq_some_iff.1 hm).1
      simp [Array.getElem?_setIfInBounds, this]
    · exact .inl (by rw [Array.getElem?_setIfInBounds_ne hj])
  · exact .inl (Below.heap_setCell W ⟨g, o, none⟩ _ i hi2)
/-- A block of a row is such a block afterwards. -/
theorem Shp.block {w W : World} {P : Nat → Prop} (h : Shp w W P) {g : Nat} {c : Array Value} {e : Nat} (hg : w.heap[g]? = some (.cells c e (0, 0))) : ∃ c', W.heap[g]? = some (.cells c' e (0, 0)) ∧ c'.size = c.size ∧ ∀ j : Nat, c'[j]? = c[j]? ∨ (OneInt c[j]? ∧ OneInt c'[j]?) := by
  rcases h.2 g (blk_lt hg) with h1 | ⟨_, c1, c', e', h2, h3, h4, h5⟩
  · exact ⟨c, h1.trans hg, rfl, fun _ => .inl rfl⟩
  · rw [hg] at h2
    injection h2 with h2
    injection h2 with h2 h6
    subst h2 h6
    exact ⟨c', h3, h4, h5⟩

/-- A row of n numbers of the call's own. -/
def RI (w : World) (base : Nat) (P : Nat → Prop) (v : Value) (n : Nat) : Prop :=
  (v = .slice none 0 0 ∧ n = 0) ∨ ∃ g cap c, v = .slice (some ⟨g, 0, none⟩) n cap ∧ P g ∧ base ≤ g ∧ w.heap[g]? = some (.cells c 3 (0, 0)) ∧ ∀ j : Nat, j < n → OneInt c[j]?
/-- A row of locks of the call's own, by its shape. -/
def ShL : Nat → World → Nat → (Nat → Prop) → Value → List S26 → Prop
  | 0, _, _, _, _, _ => False
  | n + 1, w, base, P, v, xs => (v = .slice none 0 0 ∧ xs = []) ∨ ∃ g cap c, v = .slice (some ⟨g, 0, none⟩) xs.length cap ∧ P g ∧ base ≤ g ∧ w.heap[g]? = some (.cells c 26 (0, 0)) ∧
      ∀ j x, xs[j]? = some x → OneInt c[j * 3]? ∧ (∃ u, c[j * 3 + 1]? = some u ∧ RI w base P u x.f1.length) ∧ ∃ u, c[j * 3 + 2]? = some u ∧ ShL n w base P u x.f2

theorem RI.shp {w W : World} {P Q : Nat → Prop} {base n : Nat} {v : Value} (h : RI w base P v n) (hs : Shp w W Q) : RI W base P v n := by
  rcases h with h | ⟨g, cap, c, rfl, h1, h2, h3, h4⟩
  · exact .inl h
  · obtain ⟨c', k1, k2, k3⟩ := hs.block h3
    refine .inr ⟨g, cap, c', rfl, h1, h2, k1, fun j hj => ?_⟩
    rcases k3 j with q | ⟨_, q⟩
    · rw [q]; exact h4 j hj
    · exact q
theorem RI.slice {w : World} {P : Nat → Prop} {base n : Nat} {v : Value} (h : RI w base P v n) : ∃ A c, v = .slice A n c := by
  rcases h with ⟨rfl, rfl⟩ | ⟨g, cap, c, rfl, _⟩
  · exact ⟨_, _, rfl⟩
  · exact ⟨_, _, rfl⟩
theorem ShL.slice {m : Nat} {w : World} {P : Nat → Prop} {base : Nat} {v : Value} {xs : List S26} (h : ShL m w base P v xs) : ∃ A c, v = .slice A xs.length c := by
  cases m with
  | zero => exact h.elim
  | succ m =>
    rcases h with ⟨rfl, rfl⟩ | ⟨g, cap, c, rfl, _⟩
    · exact ⟨_, _, rfl⟩
    · exact ⟨_, _, rfl⟩
theorem ShL.shp {P Q : Nat → Prop} : ∀ (m : Nat) {w W : World} {base : Nat} {v : Value} {xs : List S26} (h : ShL m w base P v xs) (hs : Shp w W Q), ShL m W base P v xs
  | 0, _, _, _, _, _, h, _ => h.elim
  | m + 1, w, W, base, v, xs, h, hs => by
    rcases h with h | ⟨g, cap, c, rfl, h1, h2, h3, h4⟩
    · exact .inl h
    · obtain ⟨c', k1, k2, k3⟩ := hs.block h3
      refine .inr ⟨g, cap, c', rfl, h1, h2, k1, fun j x hj => ?_⟩
      obtain ⟨a1, ⟨u1, a2, a3⟩, u2, a4, a5⟩ := h4 j x hj
      refine ⟨?_, ⟨u1, ?_, a3.shp hs⟩, u2, ?_, ShL.shp m a5 hs⟩
      · rcases k3 (j * 3) with q | ⟨_, q⟩
        · rw [q]; exact a1
        · exact q
      · rcases k3 (j * 3 + 1) with q | ⟨⟨z, q⟩, _⟩
        · rw [q]; exact a2
        · rw [a2] at q
          obtain ⟨A, cc, rfl⟩ := a3.slice
          simp at q
      · rcases k3 (j * 3 + 2) with q | ⟨⟨z, q⟩, _⟩
        · rw [q]; exact a4
        · rw [a4] at q
          obtain ⟨A, cc, rfl⟩ := a5.slice
          simp at q

/-! what a row of the call's own says of its shape -/
theorem RI.of_R {w : World} {base : Nat} {ok P : Nat → Prop} {v : Value} {xs : List Int} (h : (Kd.int .i64).R 3 w base ok v xs) (hP : ∀ k, ok k → P k) : RI w base P v xs.length := by
  obtain ⟨h0, inner, ho, hr⟩ := h
  have hsz : (Kd.int .i64).sz = 1 := rfl
  rw [hsz] at ho hr
  rcases ho.2 with h1 | ⟨g, cap, cur, rfl, hbg, hg, hn, hm, hc, ht⟩
  · exact .inl h1
  · refine .inr ⟨g, cap, cur, rfl, hP g (h0 g rfl), hbg, hg, fun j hj => ?_⟩
    obtain ⟨x, hx⟩ : ∃ x, xs[j]? = some x := ⟨xs[j], List.getElem?_eq_getElem hj⟩
    have h2 : (inner.drop (j * 1)).take 1 = [.int .i64 x] := hr.2 j x hx
    have h3 : inner[j]? = some (.int .i64 x) := by
      have : ((inner.drop (j * 1)).take 1)[0]? = some (.int .i64 x) := by rw [h2]; rfl
      simpa [List.getElem?_take, List.getElem?_drop] using this
    refine ⟨x, ?_⟩
    rw [← ht, Nat.mul_one, List.getElem?_take] at h3
    rw [if_pos hj] at h3
    simpa using h3
theorem ShL.of_upto : ∀ (n : Nat) {w : World} {base : Nat} {ok P : Nat → Prop} {v : Value} {xs : List S26} (h : (Kd.upto F26 3 [3, 26] n).R 26 w base ok v xs) (hP : ∀ k, ok k → P k), ShL (n + 1) w base P v xs := by
  intro n
  induction n with
  | zero =>
    intro w base ok P v xs h hP
    obtain ⟨h0, inner, ho, hr⟩ := h
    have hsz : (Kd.upto F26 3 [3, 26] 0).sz = 3 := sz26 0
    rw [hsz] at ho hr
    have hnil : ∀ j x, ¬ xs[j]? = some x := fun j x hx => (hr.2 j x hx).elim
    rcases ho.2 with ⟨h1, h2⟩ | ⟨g, cap, cur, rfl, hbg, hg, hn, hm, hc, ht⟩
    · exact .inl ⟨h1, List.length_eq_zero_iff.1 h2⟩
    · exact .inr ⟨g, cap, cur, rfl, hP g (h0 g rfl), hbg, hg, fun j x hx => absurd hx (hnil j x)⟩
  | succ n ih =>
    intro w base ok P v xs h hP
    obtain ⟨h0, inner, ho, hr⟩ := h
    have hsz : (Kd.upto F26 3 [3, 26] (n + 1)).sz = 3 := sz26 (n + 1)
    rw [hsz] at ho hr
    rcases ho.2 with ⟨h1, h2⟩ | ⟨g, cap, cur, rfl, hbg, hg, hn, hm, hc, ht⟩
    · exact .inl ⟨h1, List.length_eq_zero_iff.1 h2⟩
    · refine .inr ⟨g, cap, cur, rfl, hP g (h0 g rfl), hbg, hg, fun j x hx => ?_⟩
      have hj : j < xs.length := (List.getElem?_eq_some_iff.1 hx).1
      obtain ⟨_, _, e1, rfl, ⟨_, _, rfl, ⟨v1, rfl, g1⟩, ⟨v2, rfl, g2⟩⟩⟩ := hr.2 j x hx
      have cell : ∀ (i : Nat) (u : Value), i < 3 → ([Value.int .i64 x.f0] ++ ([v1] ++ [v2]))[i]? = some u → cur[j * 3 + i]? = some u := by
        intro i u hi hu
        have h3 : ((inner.drop (j * 3)).take 3)[i]? = some u := by rw [e1]; exact hu
        rw [List.getElem?_take, if_pos hi, List.getElem?_drop, ← ht, List.getElem?_take, if_pos (by omega)] at h3
        simpa using h3
      exact ⟨⟨x.f0, cell 0 _ (by omega) rfl⟩, ⟨v1, cell 1 _ (by omega) rfl, RI.of_R g1 (fun k hk => hP k hk.1)⟩, v2, cell 2 _ (by omega) rfl, ih g2 (fun k hk => hP k hk.1)⟩
theorem ShL.of_R {w : World} {base : Nat} {ok P : Nat → Prop} {v : Value} {xs : List S26} (h : k26.R 26 w base ok v xs) (hP : ∀ k, ok k → P k) : ∃ n, ShL n w base P v xs := by
  obtain ⟨n, q⟩ := Kd.fix_R_back mono26 h
  exact ⟨n + 1, ShL.of_upto n q hP⟩
end Go.Proofs.Ytlkcolomkhgjfaa.PFnExactDealLock
