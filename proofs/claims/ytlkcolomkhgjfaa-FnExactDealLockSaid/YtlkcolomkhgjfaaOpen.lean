/- What a row's argument leads to, told as the printed contracts want it: by kinds. Own work. Ytlkcolomkhgjfaa: the seat's name. -/
import Derived.Test.YtlkcolomkhgjfaaWWords
import Derived.ChangeArms
import Derived.ChangeSlices
namespace Go.Proofs.YtlkcolomkhgjfaaO
open Go Go.Proofs.YtlkcolomkhgjfaaW.PrintWords
/-- What lies at a type is of a kind, and has a property. -/
structure KOpen {α : Type} (P : Program) (w : World) (d : Kd α) (t : TypeId) (Q : α → Prop) : Prop where
  go : ∀ {H : Type} {enc : TypeId × Value → H} {base : Nat} {spare : Nat → Bool} {held : Bool} {fuel : Nat} {cs : List Value} {x : DataW H × List MemPlace}, DataW.trod enc P w base spare held fuel t cs = some x → ∃ v, d.K w v cs ∧ Q v
theorem KOpen.int {P : Program} {w : World} {t : TypeId} {k : IntKind} (he : P.underlying t = some (.int k)) : KOpen P w (Kd.int k) t (fun n => (Lit.int k n).wf = true) := by
  constructor
  intro H enc base spare held fuel cs x h
  obtain ⟨m, rfl, -, hw⟩ := DataW.trod_int he h
  exact ⟨m, rfl, hw⟩
theorem cells_get {w : World} {base : Nat} {a : Addr} {n : Nat} {c : List Value} (h : w.cells? base a n = some c) : c.length = n ∧ ∀ i u, c[i]? = some u → w.cell? (a.add i) = some u := by
  obtain ⟨-, h1, h2⟩ := World.cells?_some h
  refine ⟨h1, fun i u hi => ?_⟩
  have hl : i < c.length := (List.getElem?_eq_some_iff.1 hi).1
  rw [h2 i (by omega), hi]
theorem KOpen.slice {α : Type} {P : Program} {w : World} {t e e' : TypeId} {d : Kd α} {Q : α → Prop} (ht : P.underlying t = some (.slice e)) (hz : P.cellsOf e = d.sz) (h : KOpen P w d e Q) :
    KOpen P w (Kd.slice e' d) t (fun xs => xs.length ≤ maxLen ∧ ∀ x ∈ xs, Q x) := by
  constructor
  intro H enc base spare held fuel cs x hx
  rcases DataW.trod_slice ht hx with ⟨rfl, -⟩ | ⟨a, len, cap, elems, rest, n, -, rfl, -, -, hl, hm, hlen, hel, -, -⟩
  · exact ⟨[], ⟨none, 0, rfl, Nat.le_refl _, ⟨rfl, by simp, fun hn => absurd hn (by simp)⟩⟩, by simp, by simp⟩
  · have each : ∀ i, i < len → ∃ (v : α) (c : List Value), c.length = d.sz ∧ d.K w v c ∧ Q v ∧ ∀ j u, c[j]? = some u → w.cell? (a.add (i * d.sz + j)) = some u := by
      intro i hi
      have h1 := hel i hi
      have h2 : (elems[i]?) = some elems[i] := List.getElem?_eq_getElem (by omega)
      rw [h2, Option.bind_eq_some_iff] at h1
      obtain ⟨c, hc, hy⟩ := h1
      obtain ⟨v, hv, hq⟩ := h.go hy
      rw [hz] at hc
      obtain ⟨c1, c2⟩ := cells_get hc
      exact ⟨v, c, c1, hv, hq, fun j u hj => by have := c2 j u hj; rwa [Addr.add_add] at this⟩
    have hxl : (List.ofFn fun i : Fin len => Classical.choose (each i.1 i.2)).length = len := by simp
    have hat : ∀ j p, (List.ofFn fun i : Fin len => Classical.choose (each i.1 i.2))[j]? = some p → ∃ c : List Value, c.length = d.sz ∧ d.K w p c ∧ Q p ∧ ∀ i u, c[i]? = some u → w.cell? (a.add (j * d.sz + i)) = some u := by
      intro j p hj
      rw [List.getElem?_ofFn] at hj
      split at hj
      · rename_i hjl
        obtain rfl := Option.some.inj hj
        exact Classical.choose_spec (each j hjl)
      · cases hj
    generalize (List.ofFn fun i : Fin len => Classical.choose (each i.1 i.2)) = xs at hxl hat
    subst hxl
    have hbig : maxLen ≤ 9223372036854775807 := by decide
    refine ⟨xs, ⟨some a, cap, rfl, hl, ⟨rfl, by omega, fun _ => ⟨a, rfl, fun j p hj => ?_⟩⟩⟩, ⟨by omega, fun x hx2 => ?_⟩⟩
    · obtain ⟨c, h1, h2, -, h4⟩ := hat j p hj
      exact ⟨c, h1, h2, h4⟩
    · obtain ⟨j, hj⟩ := List.getElem?_of_mem hx2
      obtain ⟨c, -, -, h3, -⟩ := hat j x hj
      exact h3
theorem KOpen.iso {α β : Type} {P : Program} {w : World} {t : TypeId} {d : Kd α} {f : β → α} {Q : α → Prop} (g : α → β) (hg : ∀ a, f (g a) = a) (h : KOpen P w d t Q) : KOpen P w (Kd.iso d f) t (fun b => Q (f b)) := by
  constructor
  intro H enc base spare held fuel cs x hx
  obtain ⟨v, h1, h2⟩ := h.go hx
  exact ⟨g v, show d.K w (f (g v)) cs by rw [hg]; exact h1, show Q (f (g v)) by rw [hg]; exact h2⟩
/-- The fields of a struct from one on. -/
structure FOpen {α : Type} (P : Program) (w : World) (d : Kd α) (fs : List Field) (off : Nat) (Q : α → Prop) : Prop where
  go : ∀ {H : Type} {enc : TypeId × Value → H} {base : Nat} {spare : Nat → Bool} {held : Bool} {n : Nat} {cs : List Value} (xs : List (DataW H × List MemPlace)), cs.length = off + d.sz → xs.length = fs.length →
    (∀ (i : Nat) (f : Field), fs[i]? = some f → DataW.trod enc P w base spare held n f.type ((cs.drop f.offset).take (P.cellsOf f.type)) = xs[i]?) → ∃ v, d.K w v (cs.drop off) ∧ Q v
theorem FOpen.one {α : Type} {P : Program} {w : World} {d : Kd α} {f : Field} {off : Nat} {Q : α → Prop} (ho : f.offset = off) (hc : P.cellsOf f.type = d.sz) (h : KOpen P w d f.type Q) : FOpen P w d [f] off Q := by
  constructor
  intro H enc base spare held n cs xs hl hx hf
  have h0 := hf 0 f rfl
  have hx1 : xs.length = 1 := hx
  rw [List.getElem?_eq_getElem (by omega), ho, hc, List.take_of_length_le (by simp; omega)] at h0
  exact h.go h0
theorem FOpen.cons {α β : Type} {P : Program} {w : World} {a : Kd α} {b : Kd β} {f : Field} {fs : List Field} {off : Nat} {Qa : α → Prop} {Qb : β → Prop} (ho : f.offset = off) (hc : P.cellsOf f.type = a.sz) (ha : KOpen P w a f.type Qa) (hb : FOpen P w b fs (off + a.sz) Qb) :
    FOpen P w (Kd.pair a b) (f :: fs) off (fun v => Qa v.1 ∧ Qb v.2) := by
  constructor
  intro H enc base spare held n cs xs hl hx hf
  have hl2 : cs.length = off + (a.sz + b.sz) := hl
  cases xs with
  | nil => simp at hx
  | cons x xs =>
    have h0 := hf 0 f rfl
    rw [List.getElem?_cons_zero, ho, hc] at h0
    obtain ⟨v0, k0, q0⟩ := ha.go h0
    obtain ⟨v1, k1, q1⟩ := hb.go (cs := cs) xs (by omega) (by simpa using hx) (fun i g hg => by simpa using hf (i + 1) g (by simpa using hg))
    refine ⟨(v0, v1), ⟨_, _, ?_, k0, k1⟩, q0, q1⟩
    rw [← List.drop_drop, List.take_append_drop]
theorem KOpen.struct {α : Type} {P : Program} {w : World} {t : TypeId} {d : Kd α} {fs : List Field} {Q : α → Prop} (hs : P.underlying t = some (.struct fs.toArray)) (hC : P.cellsOf t = d.sz) (h : FOpen P w d fs 0 Q) : KOpen P w d t Q := by
  constructor
  intro H enc base spare held fuel cs x hx
  obtain ⟨xs, n, -, -, hl, hxl, hf⟩ := DataW.trod_struct hs hx
  have := h.go xs (by omega) (by simpa using hxl) (fun i f hi => hf i f (by simpa using hi))
  rwa [List.drop_zero] at this
end Go.Proofs.YtlkcolomkhgjfaaO
