/- (*dealer).deal: what it computes, and its walk. Own work. -/
import Derived.Test.YtlkcolomkhgjfaaHLockMark
namespace Go.Proofs.Ytlkcolomkhgjfaa.PFnExactDealLock
open Go.RowKit Go.Proofs.YtlkcolomkhgjfaaW.PrintWords Go.Proofs.YtlkcolomkhgjfaaW.PrintLast Go.Proofs.YtlkcolomkhgjfaaW.PrintMore
attribute [local go_sem] max2_int min2_int max_two min_two max_three min_three max_four min_four
set_option linter.unusedVariables false
set_option linter.unusedSimpArgs false

def deal.l0 : Nat → Int → Int → Int → List Int → Int → Option (List Int)
  | 0, _, _, _, _, _ => none
  | k + 1, s, n, need, c, x => if x < need then (if c.length < 17592186044416 then deal.l0 k s n need (c ++ [(Int.tmod (wrap64 ((wrap64 ((wrap64 ((wrap64 (s * s)) * (wrap64 (n + 1)))) + (wrap64 (97 * x)))) + (wrap64 (31 * n)))) 251)]) (wrap64 (x + 1)) else none) else some c
def deal.l1 : Nat → List Int → Int → List Int → Int → Option (List Int)
  | 0, _, _, _, _ => none
  | k + 1, c, nm, v, i => if i < nm then ((impl_PolyAt.f k c (wrap64 (i + 1))).bind fun t => if v.length < 17592186044416 then deal.l1 k c nm (v ++ [t]) (wrap64 (i + 1)) else none) else some v
def deal.l2 : Nat → Int → List Int → Int → List S26 → Int → List Int → Int → Option (Int × List Int)
  | 0, _, _, _, _, _, _, _ => none
  | k + 1, s, c, nm, kids, lo, v, i => if i < (kids.length : Int) then (if 0 ≤ i then ((impl_PolyAt.f k c (wrap64 ((wrap64 (nm + i)) + 1))).bind fun t =>
      (deal.l0 k s lo (rd_T26 kids i).f0 [t] 1).bind fun c2 => (deal.l1 k c2 ((rd_T26 kids i).f1.length : Int) v 0).bind fun v2 =>
      (deal.l2 k s c2 ((rd_T26 kids i).f1.length : Int) (rd_T26 kids i).f2 (wrap64 (lo + 1)) v2 0).bind fun q => deal.l2 k s c nm kids q.1 q.2 (wrap64 (i + 1))) else none) else some (lo, v)
def deal.f (k : Nat) (s : Int) (lo : Int) (v : List Int) (need : Int) (mem : List Int) (kids : List S26) (sec : Int) : Option (Int × List Int) :=
  (deal.l0 k s lo need [sec] 1).bind fun c => (deal.l1 k c (mem.length : Int) v 0).bind fun v2 => deal.l2 k s c (mem.length : Int) kids (wrap64 (lo + 1)) v2 0

theorem ht65 : ∀ q, q ∈ 3 :: (Kd.int .i64).E → q ≠ 65 := fun q hq => by
  have : q ∈ [3] := hq
  rw [List.mem_singleton.1 this]; decide
theorem int_ok {w : World} {base : Nat} {ok ok' : Nat → Prop} {v : Value} {xs : List Int} (h : Kd.R (Kd.int .i64) 3 w base ok v xs) (hk : ∀ k, v.ownBlock = some k → ok' k) : Kd.R (Kd.int .i64) 3 w base ok' v xs := ⟨hk, h.2⟩
theorem R_own_lt {w : World} {base : Nat} {ok : Nat → Prop} {v : Value} {xs : List Int} (h : Kd.R (Kd.int .i64) 3 w base ok v xs) : ∀ k, v.ownBlock = some k → k < w.heap.size := by
  obtain ⟨_, inner, ho, _⟩ := h
  exact fun k hk => own_lt ho k hk
theorem hat_new {v1 v : Value} {n m : Nat} (hat : v1.ownBlock = v.ownBlock ∨ ∃ b, v1.ownBlock = some b ∧ m ≤ b) (hn : ∀ k, v.ownBlock = some k → n ≤ k) (hm : n ≤ m) : ∀ k, v1.ownBlock = some k → n ≤ k := by
  rcases hat with h | ⟨b, h, hb⟩
  · rw [h]; exact hn
  · intro k hk
    rw [h] at hk
    injection hk with hk
    omega
theorem hat_apart {v1 v u : Value} {m : Nat} (hat : v1.ownBlock = v.ownBlock ∨ ∃ b, v1.ownBlock = some b ∧ m ≤ b) (hn : ∀ k, v.ownBlock = some k → some k ≠ u.ownBlock) (hu : ∀ k, u.ownBlock = some k → k < m) : ∀ k, v1.ownBlock = some k → some k ≠ u.ownBlock := by
  rcases hat with h | ⟨b, h, hb⟩
  · rw [h]; exact hn
  · intro k hk e
    rw [h] at hk
    injection hk with hk
    have := hu k e.symm
    omega
theorem hat_from {v1 v : Value} {P : Nat → Prop} {n m : Nat} (hat : v1.ownBlock = v.ownBlock ∨ ∃ b, v1.ownBlock = some b ∧ m ≤ b) (hn : ∀ k, v.ownBlock = some k → P k ∨ n ≤ k) (hm : n ≤ m) : ∀ k, v1.ownBlock = some k → P k ∨ n ≤ k := by
  rcases hat with h | ⟨b, h, hb⟩
  · rw [h]; exact hn
  · intro k hk
    rw [h] at hk
    injection hk with hk
    exact .inr (by omega)
theorem hat_away {v1 v u : Value} {m : Nat} (hat : v1.ownBlock = v.ownBlock ∨ ∃ b, v1.ownBlock = some b ∧ m ≤ b) (hn : ∀ k, u.ownBlock = some k → some k ≠ v.ownBlock) (hu : ∀ k, u.ownBlock = some k → k < m) : ∀ k, u.ownBlock = some k → some k ≠ v1.ownBlock := by
  rcases hat with h | ⟨b, h, hb⟩
  · rw [h]; exact hn
  · intro k hk e
    rw [h] at e
    injection e with e
    have := hu k hk
    omega
theorem kept_size {w W : World} {S : Nat → Prop} (h : Kept w W S) : w.heap.size ≤ W.heap.size := h.1
theorem ht26 : ∀ q, q ∈ 3 :: (Kd.int .i64).E → q ≠ 26 := fun q hq => by
  have : q ∈ [3] := hq
  rw [List.mem_singleton.1 this]; decide

set_option maxHeartbeats 8000000 in
set_option maxRecDepth 100000 in
theorem deal.calls : ∀ (k : Nat) (g : Nat) (s lo : Int) (v : Value) (vals : List Int) (need : Int) (A1 : Option Addr) (c1 : Nat) (mem : List Int) (A2 : Option Addr) (c2 : Nat) (kids : List S26) (sec : Int) (lo' : Int) (vals' : List Int) (w0 w : World) (hB : Below w0.heap.size w0 w) (hg : w0.heap.size ≤ g) (hbox : w.heap[g]? = some (.cells #[.int .i64 s, .int .i64 lo, v] 65 (0, 0))) (hv : (Kd.int .i64).R 3 w w0.heap.size (fun _ => True) v vals)
    (hr1 : (Kd.int .i64).C w0 A1 mem.length mem) (hc1 : mem.length ≤ c1) (hr2 : k26.C w0 A2 kids.length kids) (hc2 : kids.length ≤ c2) (h : deal.f k s lo vals need mem kids sec = some (lo', vals')),
    Calls Try.prog 49 #[.pointer (some ⟨g, 0, none⟩), .agg #[.int .i64 need, .slice A1 mem.length c1, .slice A2 kids.length c2], .int .i64 sec] w fun e w' => e = .returned (.tuple #[]) ∧ ∃ v', w'.heap[g]? = some (.cells #[.int .i64 s, .int .i64 lo', v'] 65 (0, 0)) ∧ (Kd.int .i64).R 3 w' w0.heap.size (fun _ => True) v' vals' ∧ (∀ k_, v'.ownBlock = some k_ → some k_ = v.ownBlock ∨ w.heap.size ≤ k_) ∧ Below w0.heap.size w0 w' ∧ Kept w w' (fun k_ => k_ = g ∨ some k_ = v.ownBlock) := by
  intro k
  induction k using Nat.strongRecOn with
  | _ k IH_ =>
  intro g s lo v vals need A1 c1 mem A2 c2 kids sec lo' vals' w0 w hB hg hbox hv hr1 hc1 hr2 hc2 h
  have IH := Aside0.mk IH_
  clear IH_
  have hu26 := Try.underlying26
  have hu65 := Try.underlying65
  have HK := Aside0.mk (Kept.refl w (fun k_ => k_ = g ∨ some k_ = v.ownBlock))
  have HB := Aside0.mk hB
  have GE := Aside0.mk hg
  have GW := Aside0.mk (blk_lt hbox)
  have HG := Aside0.mk hbox
  have HV := Aside0.mk hv
  have HR1 := Aside0.mk hr1
  have HR2 := Aside0.mk hr2
  have HC1 := Aside0.mk hc1
  have HC2 := Aside0.mk hc2
  have HS0 := Aside0.mk hB.size
  clear hB hg hv hr1 hr2 hc1 hc2
  obtain ⟨cf, B1_, h⟩ := Option.bind_eq_some_iff.mp (show (deal.l0 k s lo need [sec] 1).bind (fun c => (deal.l1 k c (mem.length : Int) vals 0).bind fun v2 => deal.l2 k s c (mem.length : Int) kids (wrap64 (lo + 1)) v2 0) = some (lo', vals') from h)
  obtain ⟨vm, B2_, B3_⟩ := Option.bind_eq_some_iff.mp h
  have B1 := Aside0.mk B1_
  have B2 := Aside0.mk B2_
  have B3 := Aside0.mk B3_
  clear h B1_ B2_ B3_
  obtain ⟨Av, cv, rfl⟩ := Kd.R_slice HV.out
  have hcz_1 := (blk_cell hbox 1).trans rfl
  have hfz_1 := blk_frozen hbox 1
  clear hbox
  go_enter Try.func49, Try.ntmps49
  go_wp2_with (first | ((with_reducible refine gate_dst (N := 4) rfl ?_); refine box_event ?hg (N := 4) ?hd (cs := #[.int .i64 need, .slice A1 mem.length c1, .slice A2 kids.length c2]) (t := 26) ?hr ?_; (case hd => rfl); (case hg => rfl); (case hr => first | (go_simp; done) | (go_simp; rfl)); intro gl hgl w5 hbox hb; have n0_ := Aside0.mk (below_then (by repeat (first | (with_reducible first | exact HB.out | apply below_alloc | apply pw_below_drewN | apply below_drew1) | exact HB.out)) (Nat.le_trans HS0.out (kept_size (by repeat (first | (with_reducible first | exact HK.out | apply Kept.alloc | apply Kept.drewN | apply Kept.drew) | exact HK.out)))) hb); have n1_ := Aside0.mk (Kept.below (by repeat (first | (with_reducible first | exact HK.out | apply Kept.alloc | apply Kept.drewN | apply Kept.drew) | exact HK.out)) hb); have n2_ := Aside0.mk (blk_below HG.out hb); have n3_ := Aside0.mk (Kd.R_below HV.out hb); have HL := Aside0.mk hbox; have GL := Aside0.mk (show w.heap.size ≤ gl from by rw [hgl]; exact (kept_size (by repeat (first | (with_reducible first | exact HK.out | apply Kept.alloc | apply Kept.drewN | apply Kept.drew) | exact HK.out)))); have NL := Aside0.mk (show g ≠ gl from by have := GW.out; have := GL.out; omega); clear HB HK HG HV; have HB := n0_; have HK := n1_; have HG := n2_; have HV := n3_; clear n0_ n1_ n2_ n3_; clear hb hbox hgl; have hcz_1b := (blk_cell HG.out 1).trans rfl; have hfz_1b := blk_frozen HG.out 1) | ((with_reducible refine gate_store (t := 3) (p := 22) rfl ?_); refine store_event (t := 3) (p := 22) (v := ?vo1_) (w1 := (w5.setCell ⟨g, 1, none⟩ (.int .i64 (wrap64 (lo + 1))))) ?hg ?ho ?hn ?hr ?_; (case ho => rfl); (case hg => rfl); (case hn => rfl); (case hr => first | (go_simp; done) | (go_simp; rfl)); intro w6 hw; have n0_ := Aside0.mk ((by rw [hw]; exact below_set (HB.out) GE.out : Below w0.heap.size w0 w6)); have n1_ := Aside0.mk (show Kept w w6 (fun k_ => k_ = g ∨ some k_ = (Value.slice Av vals.length cv).ownBlock) from by rw [hw]; exact Kept.setCell HK.out (p := ⟨g, 1, none⟩) (.inl (.inl rfl)) _); have n2_ := Aside0.mk (show w6.heap[g]? = some (.cells #[.int .i64 s, .int .i64 (wrap64 (lo + 1)), .slice Av vals.length cv] 65 (0, 0)) from by rw [hw]; exact blk_put HG.out 1 _ rfl); have n3_ := Aside0.mk (show w6.heap[gl]? = some (.cells #[.int .i64 need, .slice A1 mem.length c1, .slice A2 kids.length c2] 26 (0, 0)) from by rw [hw]; exact blk_far HL.out NL.out.symm _); have n4_ := Aside0.mk (show Kd.R (Kd.int .i64) 3 w6 w0.heap.size (fun _ => True) (.slice Av vals.length cv) vals from by rw [hw]; exact Kd.R_set HV.out HG.out ht65 1 _); clear HB HK HG HL HV hw; have HB := n0_; have HK := n1_; have HG := n2_; have HL := n3_; have HV := n4_; clear n0_ n1_ n2_ n3_ n4_) | ((with_reducible refine gate_dst (N := 24) rfl ?_); refine Kd.R_lit (Kd.int .i64) _ 3 ?hg (N := 24) ?hd (xs := ([sec] : List Int)) (inner := [.int .i64 sec]) (ok := fun _ => True) (okp := fun _ => True) ?hr ?hp (fun _ hk => hk) trivial (Below.refl _ _) (Nat.le_refl _) (by simp) ?_; (case hd => rfl); (case hg => rfl); (case hr => first | (go_simp; done) | (go_simp; rfl)); (case hp => exact (Reps.one (show Kd.M (Kd.int .i64) _ _ _ sec [.int .i64 sec] from rfl) (Reps.none _ _))); intro vc w7 hc_ hb hg_ hnew_; clear hg_; have n0_ := Aside0.mk (below_then (by repeat (first | (with_reducible first | exact HB.out | apply below_alloc | apply pw_below_drewN | apply below_drew1) | exact HB.out)) (Nat.le_trans HS0.out (kept_size (by repeat (first | (with_reducible first | exact HK.out | apply Kept.alloc | apply Kept.drewN | apply Kept.drew) | exact HK.out)))) hb); have n1_ := Aside0.mk (Kept.below (by repeat (first | (with_reducible first | exact HK.out | apply Kept.alloc | apply Kept.drewN | apply Kept.drew) | exact HK.out)) hb); have n2_ := Aside0.mk (blk_below HG.out hb); have n3_ := Aside0.mk (Kd.R_below HV.out hb); have n4_ := Aside0.mk (blk_below HL.out hb); have HC := Aside0.mk (Kd.R_lower hc_ (Nat.le_trans HS0.out (kept_size (by repeat (first | (with_reducible first | exact HK.out | apply Kept.alloc | apply Kept.drewN | apply Kept.drew) | exact HK.out))))); have HN := Aside0.mk (show ∀ k_, vc.ownBlock = some k_ → w.heap.size ≤ k_ from by obtain ⟨b_, e_, l_⟩ := hnew_; intro k_ hk_; rw [e_] at hk_; injection hk_ with hk_; subst hk_; exact Nat.le_trans (kept_size (by repeat (first | (with_reducible first | exact HK.out | apply Kept.alloc | apply Kept.drewN | apply Kept.drew) | exact HK.out))) l_); have HA := Aside0.mk (show ∀ k_, vc.ownBlock = some k_ → some k_ ≠ (Value.slice Av vals.length cv).ownBlock from by obtain ⟨b_, e_, l_⟩ := hnew_; intro k_ hk_ h2_; rw [e_] at hk_; injection hk_ with hk_; subst hk_; have := Kd.R_lt HV.out; exact absurd (own_lt (Kd.R_own HV.out).choose_spec _ h2_.symm) (by omega)); clear HB HK HG HV HL hb hc_ hnew_; have HB := n0_; have HK := n1_; have HG := n2_; have HV := n3_; have HL := n4_; clear n0_ n1_ n2_ n3_ n4_))
  go_loopg [7, 8] k (fun kq v7 v8 w' => ∃ (c : List Int) (x : Int), v8 = .int .i64 x ∧ Aside0 (deal.l0 kq s lo need c x = some cf) ∧ Aside0 (kq ≤ k) ∧ Aside0 (Kd.R (Kd.int .i64) 3 w' w0.heap.size (fun _ => True) v7 c) ∧ Aside0 (∀ k_, v7.ownBlock = some k_ → w.heap.size ≤ k_) ∧ Aside0 (∀ k_, v7.ownBlock = some k_ → some k_ ≠ (Value.slice Av vals.length cv).ownBlock) ∧ Aside0 (w'.heap[g]? = some (.cells #[.int .i64 s, .int .i64 (wrap64 (lo + 1)), (.slice Av vals.length cv)] 65 (0, 0))) ∧ Aside0 (w'.heap[gl]? = some (.cells #[.int .i64 need, .slice A1 mem.length c1, .slice A2 kids.length c2] 26 (0, 0))) ∧ Aside0 (Kd.R (Kd.int .i64) 3 w' w0.heap.size (fun _ => True) (.slice Av vals.length cv) vals) ∧ Aside0 (Kept w w' (fun k_ => k_ = g ∨ some k_ = (Value.slice Av vals.length cv).ownBlock)) ∧ Aside0 (Below w0.heap.size w0 w'))
  case atStart => exact ⟨[sec], 1, rfl, B1, ⟨Nat.le_refl _⟩, ⟨(by (with_reducible repeat (first | apply Kd.R_alloc | apply Kd.R_drewN | apply Kd.R_drew)); exact HC.out)⟩, HN, HA, ⟨(by (with_reducible repeat (first | refine blk_drewN ?_ _ | refine blk_drew ?_ | refine blk_alloc ?_ _)); exact HG.out)⟩, ⟨(by (with_reducible repeat (first | refine blk_drewN ?_ _ | refine blk_drew ?_ | refine blk_alloc ?_ _)); exact HL.out)⟩, ⟨(by (with_reducible repeat (first | apply Kd.R_alloc | apply Kd.R_drewN | apply Kd.R_drew)); exact HV.out)⟩, ⟨by repeat (first | (with_reducible first | exact HK.out | apply Kept.alloc | apply Kept.drewN | apply Kept.drew) | exact HK.out)⟩, ⟨by repeat (first | (with_reducible first | exact HB.out | apply below_alloc | apply pw_below_drewN | apply below_drew1) | exact HB.out)⟩⟩
  case round =>
    clear B1 HC HN HA HG HL HV HK HB
    try clear hcz_1
    try clear hcz_1b
    try clear hfz_1
    try clear hfz_1b
    obtain ⟨c, x, rfl, HX, HK1, HC, HN, HA, HG, HL, HV, HK, HB⟩ := hrel
    cases gk with
    | zero => exact absurd HX.out (by simp [deal.l0])
    | succ k1 =>
      have H := HX.out
      clear HX
      simp only [deal.l0] at H
      have hzl : wr.cell? ⟨gl, 0, none⟩ = some (.int .i64 need) := (blk_cell HL.out 0).trans rfl
      have hzf := blk_frozen HL.out 0
      by_cases c8 : x < need
      · rw [if_pos c8] at H
        have c8b0 : decide (x < need) = true := decide_eq_true c8
        clear c8
        by_cases c9 : c.length < 17592186044416
        · rw [if_pos c9] at H
          have LM := Aside0.mk c9
          clear c9
          obtain ⟨y, hy⟩ : ∃ y : List Int, y = c ++ [(Int.tmod (wrap64 ((wrap64 ((wrap64 ((wrap64 (s * s)) * (wrap64 (lo + 1)))) + (wrap64 (97 * x)))) + (wrap64 (31 * lo)))) 251)] := ⟨_, rfl⟩
          rw [← hy] at H
          have Ny := Aside0.mk hy
          have H' := Aside0.mk H
          clear H hy
          have hzg : wr.cell? ⟨g, 0, none⟩ = some (.int .i64 s) := (blk_cell HG.out 0).trans rfl
          have hzgf := blk_frozen HG.out 0
          try go_wp2
          have n0_ := Aside0.mk (blk_drew HG.out)
          have n1_ := Aside0.mk (blk_drew HL.out)
          have n2_ := Aside0.mk (Kd.R_drew HV.out)
          have n3_ := Aside0.mk (Kd.R_drew HC.out)
          have n4_ := Aside0.mk (below_drew1 HB.out)
          have n5_ := Aside0.mk (Kept.drew HK.out)
          clear HG HL HV HC HB HK
          have HG := n0_
          have HL := n1_
          have HV := n2_
          have HC := n3_
          have HB := n4_
          have HK := n5_
          clear n0_ n1_ n2_ n3_ n4_ n5_
          refine start_ (n := 23) (S := fun w' => w'.cell? ⟨g, 0, none⟩ = some (.int .i64 s)) (ds := []) #[false, false, false, false, false, false, false, false, false, false, false, false, false, false, false, false, false, false, false, false, false, false, false] (by kernel_rfl) rfl rfl ((blk_cell HG.out 0).trans rfl) (fun hHeld => ?_)
          generalize wr.drew = wd at HG HL HV HC HB HK hHeld ⊢
          refine pure_ (i := 0) (N := some 31) (v := ?_) (a' := ?_) #[true, false, false, false, false, false, false, false, false, false, false, false, false, false, false, false, false, false, false, false, false, false, false] rfl rfl (by kernel_rfl) (fun _ _ _ h => h) (Or.inl ⟨by rfl, ?_⟩) ?_ ?_
          rotate_left
          · intro w'
            go_simp
            with_reducible rfl
          rotate_left
          · simp only [Act.put, List.setIfInBounds_toArray, List.set_cons_zero, List.set_cons_succ, i64_w, i32_w]
            rfl
          refine pure_ (i := 1) (N := some 32) (v := ?_) (a' := ?_) #[true, true, false, false, false, false, false, false, false, false, false, false, false, false, false, false, false, false, false, false, false, false, false] rfl rfl (by kernel_rfl) (fun _ _ _ h => h) (Or.inl ⟨by rfl, ?_⟩) ?_ ?_
          rotate_left
          · intro w'
            go_simp
            with_reducible rfl
          rotate_left
          · simp only [Act.put, List.setIfInBounds_toArray, List.set_cons_zero, List.set_cons_succ, i64_w, i32_w]
            rfl
          refine pure_ (i := 2) (N := some 33) (v := ?_) (a' := ?_) #[true, true, true, false, false, false, false, false, false, false, false, false, false, false, false, false, false, false, false, false, false, false, false] rfl rfl (by kernel_rfl) (fun _ _ _ h => h) (Or.inl ⟨by rfl, ?_⟩) ?_ ?_
          rotate_left
          · intro w'
            go_simp
            with_reducible rfl
          rotate_left
          · simp only [Act.put, List.setIfInBounds_toArray, List.set_cons_zero, List.set_cons_succ, i64_w, i32_w]
            rfl
          refine pure_ (i := 3) (N := some 34) (v := ?_) (a' := ?_) #[true, true, true, true, false, false, false, false, false, false, false, false, false, false, false, false, false, false, false, false, false, false, false] rfl rfl (by kernel_rfl) (fun _ _ _ h => h) (Or.inl ⟨by rfl, ?_⟩) ?_ ?_
          rotate_left
          · intro w'
            go_simp
            with_reducible rfl
          rotate_left
          · simp only [Act.put, List.setIfInBounds_toArray, List.set_cons_zero, List.set_cons_succ, i64_w, i32_w]
            rfl
          refine pure_ (i := 5) (N := some 36) (v := ?_) (a' := ?_) #[true, true, true, true, false, true, false, false, false, false, false, false, false, false, false, false, false, false, false, false, false, false, false] rfl rfl (by kernel_rfl) (fun _ _ _ h => h) (Or.inl ⟨by rfl, ?_⟩) ?_ ?_
          rotate_left
          · intro w'
            go_simp
            with_reducible rfl
          rotate_left
          · simp only [Act.put, List.setIfInBounds_toArray, List.set_cons_zero, List.set_cons_succ, i64_w, i32_w]
            rfl
          refine pure_ (i := 6) (N := some 37) (v := ?_) (a' := ?_) #[true, true, true, true, false, true, true, false, false, false, false, false, false, false, false, false, false, false, false, false, false, false, false] rfl rfl (by kernel_rfl) (fun _ _ _ h => h) (Or.inl ⟨by rfl, ?_⟩) ?_ ?_
          rotate_left
          · intro w'
            go_simp
            with_reducible rfl
          rotate_left
          · simp only [Act.put, List.setIfInBounds_toArray, List.set_cons_zero, List.set_cons_succ, i64_w, i32_w]
            rfl
          refine pure_ (i := 7) (N := some 38) (v := ?_) (a' := ?_) #[true, true, true, true, false, true, true, true, false, false, false, false, false, false, false, false, false, false, false, false, false, false, false] rfl rfl (by kernel_rfl) (fun _ _ _ h => h) (Or.inl ⟨by rfl, ?_⟩) ?_ ?_
          rotate_left
          · intro w'
            go_simp
            with_reducible rfl
          rotate_left
          · simp only [Act.put, List.setIfInBounds_toArray, List.set_cons_zero, List.set_cons_succ, i64_w, i32_w]
            rfl
          refine pure_ (i := 10) (N := some 41) (v := ?_) (a' := ?_) #[true, true, true, true, false, true, true, true, false, false, true, false, false, false, false, false, false, false, false, false, false, false, false] rfl rfl (by kernel_rfl) (fun _ _ _ h => h) (Or.inl ⟨by rfl, ?_⟩) ?_ ?_
          rotate_left
          · intro w'
            go_simp
            with_reducible rfl
          rotate_left
          · simp only [Act.put, List.setIfInBounds_toArray, List.set_cons_zero, List.set_cons_succ, i64_w, i32_w]
            rfl
          refine pure_ (i := 11) (N := some 42) (v := ?_) (a' := ?_) #[true, true, true, true, false, true, true, true, false, false, true, true, false, false, false, false, false, false, false, false, false, false, false] rfl rfl (by kernel_rfl) (fun _ _ _ h => h) (Or.inl ⟨by rfl, ?_⟩) ?_ ?_
          rotate_left
          · intro w'
            go_simp
            with_reducible rfl
          rotate_left
          · simp only [Act.put, List.setIfInBounds_toArray, List.set_cons_zero, List.set_cons_succ, i64_w, i32_w]
            rfl
          refine pure_ (i := 13) (N := some 44) (v := ?_) (a' := ?_) #[true, true, true, true, false, true, true, true, false, false, true, true, false, true, false, false, false, false, false, false, false, false, false] rfl rfl (by kernel_rfl) (fun _ _ _ h => h) (Or.inl ⟨by rfl, ?_⟩) ?_ ?_
          rotate_left
          · intro w'
            go_simp
            with_reducible rfl
          rotate_left
          · simp only [Act.put, List.setIfInBounds_toArray, List.set_cons_zero, List.set_cons_succ, i64_w, i32_w]
            rfl
          refine pure_ (i := 14) (N := some 45) (v := ?_) (a' := ?_) #[true, true, true, true, false, true, true, true, false, false, true, true, false, true, true, false, false, false, false, false, false, false, false] rfl rfl (by kernel_rfl) (fun _ _ _ h => h) (Or.inl ⟨by rfl, ?_⟩) ?_ ?_
          rotate_left
          · intro w'
            go_simp
            with_reducible rfl
          rotate_left
          · simp only [Act.put, List.setIfInBounds_toArray, List.set_cons_zero, List.set_cons_succ, i64_w, i32_w]
            rfl
          refine pure_ (i := 16) (N := some 47) (v := ?_) (a' := ?_) #[true, true, true, true, false, true, true, true, false, false, true, true, false, true, true, false, true, false, false, false, false, false, false] rfl rfl (by kernel_rfl) (fun _ _ _ h => h) (Or.inl ⟨by rfl, ?_⟩) ?_ ?_
          rotate_left
          · intro w'
            go_simp
            with_reducible rfl
          rotate_left
          · simp only [Act.put, List.setIfInBounds_toArray, List.set_cons_zero, List.set_cons_succ, i64_w, i32_w]
            rfl
          refine pure_ (i := 17) (N := some 48) (v := ?_) (a' := ?_) #[true, true, true, true, false, true, true, true, false, false, true, true, false, true, true, false, true, true, false, false, false, false, false] rfl rfl (by kernel_rfl) (fun _ _ _ h => h) (Or.inl ⟨by rfl, ?_⟩) ?_ ?_
          rotate_left
          · intro w'
            go_simp
            with_reducible rfl
          rotate_left
          · simp only [Act.put, List.setIfInBounds_toArray, List.set_cons_zero, List.set_cons_succ, i64_w, i32_w]
            rfl
          refine take_ (i := 4) (N := some 35) (v := ?_) (a' := ?_) #[true, true, true, true, true, true, true, true, false, false, true, true, false, true, true, false, true, true, false, false, false, false, false] rfl rfl (by kernel_rfl) (fun _ _ _ h => h) (Or.inl ⟨by rfl, ?_⟩) hHeld ?_ ?_
          rotate_left
          · intro w' s0
            go_simp
            with_reducible rfl
          rotate_left
          · simp only [Act.put, List.setIfInBounds_toArray, List.set_cons_zero, List.set_cons_succ, i64_w, i32_w]
            rfl
          refine take_ (i := 8) (N := some 39) (v := ?_) (a' := ?_) #[true, true, true, true, true, true, true, true, true, false, true, true, false, true, true, false, true, true, false, false, false, false, false] rfl rfl (by kernel_rfl) (fun _ _ _ h => h) (Or.inl ⟨by rfl, ?_⟩) hHeld ?_ ?_
          rotate_left
          · intro w' s0
            go_simp
            with_reducible rfl
          rotate_left
          · simp only [Act.put, List.setIfInBounds_toArray, List.set_cons_zero, List.set_cons_succ, i64_w, i32_w]
            rfl
          refine pure_ (i := 9) (N := some 40) (v := ?_) (a' := ?_) #[true, true, true, true, true, true, true, true, true, true, true, true, false, true, true, false, true, true, false, false, false, false, false] rfl rfl (by kernel_rfl) (fun _ _ _ h => h) (Or.inl ⟨by rfl, ?_⟩) ?_ ?_
          rotate_left
          · intro w'
            go_simp
            with_reducible rfl
          rotate_left
          · simp only [Act.put, List.setIfInBounds_toArray, List.set_cons_zero, List.set_cons_succ, i64_w, i32_w]
            rfl
          refine pure_ (i := 12) (N := some 43) (v := ?_) (a' := ?_) #[true, true, true, true, true, true, true, true, true, true, true, true, true, true, true, false, true, true, false, false, false, false, false] rfl rfl (by kernel_rfl) (fun _ _ _ h => h) (Or.inl ⟨by rfl, ?_⟩) ?_ ?_
          rotate_left
          · intro w'
            go_simp
            with_reducible rfl
          rotate_left
          · simp only [Act.put, List.setIfInBounds_toArray, List.set_cons_zero, List.set_cons_succ, i64_w, i32_w]
            rfl
          refine pure_ (i := 15) (N := some 46) (v := ?_) (a' := ?_) #[true, true, true, true, true, true, true, true, true, true, true, true, true, true, true, true, true, true, false, false, false, false, false] rfl rfl (by kernel_rfl) (fun _ _ _ h => h) (Or.inl ⟨by rfl, ?_⟩) ?_ ?_
          rotate_left
          · intro w'
            go_simp
            with_reducible rfl
          rotate_left
          · simp only [Act.put, List.setIfInBounds_toArray, List.set_cons_zero, List.set_cons_succ, i64_w, i32_w]
            rfl
          refine pure_ (i := 18) (N := some 49) (v := ?_) (a' := ?_) #[true, true, true, true, true, true, true, true, true, true, true, true, true, true, true, true, true, true, true, false, false, false, false] rfl rfl (by kernel_rfl) (fun _ _ _ h => h) (Or.inl ⟨by rfl, ?_⟩) ?_ ?_
          rotate_left
          · intro w'
            go_simp
            with_reducible rfl
          rotate_left
          · simp only [Act.put, List.setIfInBounds_toArray, List.set_cons_zero, List.set_cons_succ, i64_w, i32_w]
            rfl
          refine pure_ (i := 19) (N := some 50) (v := ?_) (a' := ?_) #[true, true, true, true, true, true, true, true, true, true, true, true, true, true, true, true, true, true, true, true, false, false, false] rfl rfl (by kernel_rfl) (fun _ _ _ h => h) (Or.inl ⟨by rfl, ?_⟩) ?_ ?_
          rotate_left
          · intro w'
            go_simp
            with_reducible rfl
          rotate_left
          · simp only [Act.put, List.setIfInBounds_toArray, List.set_cons_zero, List.set_cons_succ, i64_w, i32_w]
            rfl
          refine one_ (i := 20) (N := some 51) #[true, true, true, true, true, true, true, true, true, true, true, true, true, true, true, true, true, true, true, true, true, false, false] rfl rfl (by kernel_rfl) (by decide) (fun K hK => ?_)
          refine value_ (w1 := ?_) (v := ?_) (by rfl) rfl ?_ ?_
          rotate_left 2
          · go_simp
            constructor
            · rfl
            · rfl
          refine hK.out _ _ ((blk_cell (blk_alloc HG.out _) 0).trans rfl) (fun hHeld => ?_)
          clear hK K
          refine norm_ (a' := ?_) ?_ ?_
          rotate_left
          · show Act.put _ (some 51) _ = _
            simp only [Act.put, List.setIfInBounds_toArray, List.set_cons_zero, List.set_cons_succ, i64_w, i32_w]
            rfl
          refine one_ (i := 21) (N := some 52) #[true, true, true, true, true, true, true, true, true, true, true, true, true, true, true, true, true, true, true, true, true, true, false] rfl rfl (by kernel_rfl) (by decide) (fun K hK => ?_)
          refine Kd.R_append_step (Kd.int .i64) (w0 := w0) w0.heap.size (by rfl) (.tmp 31) (.tmp 51) 23 3 (.int .i64 0) 8 rfl Try.underlying23 info3 rfl (by decide) (by omega) u7 c (Int.tmod (wrap64 ((wrap64 ((wrap64 ((wrap64 (s * s)) * (wrap64 (lo + 1)))) + (wrap64 (97 * x)))) + (wrap64 (31 * lo)))) 251) [.int .i64 (Int.tmod (wrap64 ((wrap64 ((wrap64 ((wrap64 (s * s)) * (wrap64 (lo + 1)))) + (wrap64 (97 * x)))) + (wrap64 (31 * lo)))) 251)] (fun _ => True) (fun _ => False) rfl rfl ?aP (fun _ hk => hk.elim) ?aF ?aO ?aB ?aS ?aL ?_
          (case aP => exact rfl)
          (case aB => exact HB.out)
          (case aF => exact (fun _ _ => trivial))
          (case aO => exact HC.out)
          (case aS => exact (Nat.le_trans HS0.out (kept_size HK.out)))
          (case aL => have := LM.out; omega)
          intro v1 w8 ho hb hg hat
          rw [← Ny.out] at ho
          have n0_ := Aside0.mk (blk_grown HG.out hg (Kd.R_ne HC.out HG.out (by decide)))
          have n1_ := Aside0.mk (blk_grown HL.out hg (Kd.R_ne HC.out HL.out (by decide)))
          have n2_ := Aside0.mk (int_ok (Kd.R_grown (int_ok HV.out (ok' := fun k_ => (Value.slice Av vals.length cv).ownBlock = some k_) (fun _ h_ => h_)) hg (fun k_ h_ e_ => HA.out k_ e_.symm h_.symm)) (ok' := fun _ => True) (fun _ _ => trivial))
          have n3_ := Aside0.mk (Kept.of_grown hg HK.out (fun k_ h_ => .inr (HN.out k_ h_)))
          have n4_ := Aside0.mk (hat_new hat HN.out (kept_size HK.out))
          have n5_ := Aside0.mk (hat_apart hat HA.out (R_own_lt HV.out))
          have n6_ := Aside0.mk hb
          have n7_ := Aside0.mk ho
          clear HG HL HV HK HN HA HB HC hb hg hat ho
          have HG := n0_
          have HL := n1_
          have HV := n2_
          have HK := n3_
          have HN := n4_
          have HA := n5_
          have HB := n6_
          have HC := n7_
          clear n0_ n1_ n2_ n3_ n4_ n5_ n6_ n7_
          refine hK.out _ _ ((blk_cell HG.out 0).trans rfl) (fun hHeld => ?_)
          clear hK K
          refine norm_ (a' := ?_) ?_ ?_
          rotate_left
          · show Act.put _ (some 52) _ = _
            simp only [Act.put, List.setIfInBounds_toArray, List.set_cons_zero, List.set_cons_succ, i64_w, i32_w]
            rfl
          refine pure_ (i := 22) (N := some 7) (v := ?_) (a' := ?_) #[true, true, true, true, true, true, true, true, true, true, true, true, true, true, true, true, true, true, true, true, true, true, true] rfl rfl (by kernel_rfl) (fun _ _ _ h => h) (Or.inl ⟨by rfl, ?_⟩) ?_ ?_
          rotate_left
          · intro w'
            go_simp
            with_reducible rfl
          rotate_left
          · simp only [Act.put, List.setIfInBounds_toArray, List.set_cons_zero, List.set_cons_succ, i64_w, i32_w]
            rfl
          refine done_ (by kernel_rfl) ?_
          try go_wp2
          go_roundg k1
          case measure => have := HK1.out; omega
          case rel => exact ⟨y, wrap64 (x + 1), (by first | rfl | (simp; done) | (simp [*]; done)), H', ⟨by have := HK1.out; omega⟩, ⟨(by (with_reducible repeat (first | apply Kd.R_alloc | apply Kd.R_drewN | apply Kd.R_drew)); exact HC.out)⟩, HN, HA, ⟨(by (with_reducible repeat (first | refine blk_drewN ?_ _ | refine blk_drew ?_ | refine blk_alloc ?_ _)); exact HG.out)⟩, ⟨(by (with_reducible repeat (first | refine blk_drewN ?_ _ | refine blk_drew ?_ | refine blk_alloc ?_ _)); exact HL.out)⟩, ⟨(by (with_reducible repeat (first | apply Kd.R_alloc | apply Kd.R_drewN | apply Kd.R_drew)); exact HV.out)⟩, ⟨by repeat (first | (with_reducible first | exact HK.out | apply Kept.alloc | apply Kept.drewN | apply Kept.drew) | exact HK.out)⟩, ⟨by repeat (first | (with_reducible first | exact HB.out | apply below_alloc | apply pw_below_drewN | apply below_drew1) | exact HB.out)⟩⟩
        · rw [if_neg c9] at H
          exact absurd H (by simp)
      · rw [if_neg c8] at H
        have c8b0 : decide (x < need) = false := decide_eq_false c8
        clear c8
        obtain rfl := Option.some.inj H
        clear H
        obtain ⟨Ac, cc, rfl⟩ := Kd.R_slice HC.out
        have hzm : wr.cell? ⟨gl, 1, none⟩ = some (.slice A1 mem.length c1) := (blk_cell HL.out 1).trans rfl
        have hzmf := blk_frozen HL.out 1
        have HF : Aside0 (∀ k_, (Value.slice Av vals.length cv).ownBlock = some k_ → some k_ = (Value.slice Av vals.length cv).ownBlock ∨ w.heap.size ≤ k_) := ⟨fun _ h_ => .inl h_.symm⟩
        try go_wp2
        go_loopg [56] k (fun kq v56 w' => ∃ (vals2 : List Int) (i : Int) (vv : Value), v56 = .int .i64 i ∧ Aside0 (deal.l1 kq c (mem.length : Int) vals2 i = some vm) ∧ Aside0 (kq ≤ k) ∧ Aside0 (Kd.R (Kd.int .i64) 3 w' w0.heap.size (fun _ => True) vv vals2) ∧ Aside0 (∀ k_, vv.ownBlock = some k_ → some k_ = (Value.slice Av vals.length cv).ownBlock ∨ w.heap.size ≤ k_) ∧ Aside0 (∀ k_, (Value.slice Ac c.length cc).ownBlock = some k_ → some k_ ≠ vv.ownBlock) ∧ Aside0 (w'.heap[g]? = some (.cells #[.int .i64 s, .int .i64 (wrap64 (lo + 1)), vv] 65 (0, 0))) ∧ Aside0 (w'.heap[gl]? = some (.cells #[.int .i64 need, .slice A1 mem.length c1, .slice A2 kids.length c2] 26 (0, 0))) ∧ Aside0 (Kd.R (Kd.int .i64) 3 w' w0.heap.size (fun _ => True) (.slice Ac c.length cc) c) ∧ Aside0 (Kept w w' (fun k_ => k_ = g ∨ some k_ = (Value.slice Av vals.length cv).ownBlock)) ∧ Aside0 (Below w0.heap.size w0 w'))
        case atStart => exact ⟨vals, 0, _, rfl, B2, ⟨Nat.le_refl _⟩, ⟨(by (with_reducible repeat (first | apply Kd.R_alloc | apply Kd.R_drewN | apply Kd.R_drew)); exact HV.out)⟩, HF, HA, ⟨(by (with_reducible repeat (first | refine blk_drewN ?_ _ | refine blk_drew ?_ | refine blk_alloc ?_ _)); exact HG.out)⟩, ⟨(by (with_reducible repeat (first | refine blk_drewN ?_ _ | refine blk_drew ?_ | refine blk_alloc ?_ _)); exact HL.out)⟩, ⟨(by (with_reducible repeat (first | apply Kd.R_alloc | apply Kd.R_drewN | apply Kd.R_drew)); exact HC.out)⟩, ⟨by repeat (first | (with_reducible first | exact HK.out | apply Kept.alloc | apply Kept.drewN | apply Kept.drew) | exact HK.out)⟩, ⟨by repeat (first | (with_reducible first | exact HB.out | apply below_alloc | apply pw_below_drewN | apply below_drew1) | exact HB.out)⟩⟩
        case round =>
          clear B2 HC HA HG HL HV HK HB HF HN
          try clear hzl
          try clear hzf
          try clear hzm
          try clear hzmf
          obtain ⟨vals2, i, vv, rfl, HX, HK1, HV, HF, HA, HG, HL, HC, HK, HB⟩ := hrel
          cases gk with
          | zero => exact absurd HX.out (by simp [deal.l1])
          | succ k2 =>
            have H := HX.out
            clear HX
            simp only [deal.l1] at H
            by_cases c8 : i < (mem.length : Int)
            · rw [if_pos c8] at H
              have c8b0 : decide (i < (mem.length : Int)) = true := decide_eq_true c8
              clear c8
              obtain ⟨t, hPA, H⟩ := Option.bind_eq_some_iff.mp H
              have HPA := Aside0.mk hPA
              clear hPA
              by_cases c9 : vals2.length < 17592186044416
              · rw [if_pos c9] at H
                have LM := Aside0.mk c9
                clear c9
                obtain ⟨y, hy⟩ : ∃ y : List Int, y = vals2 ++ [t] := ⟨_, rfl⟩
                rw [← hy] at H
                have Ny := Aside0.mk hy
                have H' := Aside0.mk H
                clear H hy
                try go_wp2
                have n0_ := Aside0.mk (blk_drew HG.out)
                have n1_ := Aside0.mk (blk_drew HL.out)
                have n2_ := Aside0.mk (Kd.R_drew HV.out)
                have n3_ := Aside0.mk (Kd.R_drew HC.out)
                have n4_ := Aside0.mk (below_drew1 HB.out)
                have n5_ := Aside0.mk (Kept.drew HK.out)
                clear HG HL HV HC HB HK
                have HG := n0_
                have HL := n1_
                have HV := n2_
                have HC := n3_
                have HB := n4_
                have HK := n5_
                clear n0_ n1_ n2_ n3_ n4_ n5_
                refine start_ (n := 14) (S := fun w' => w'.cell? ⟨g, 2, none⟩ = some vv) (ds := [13]) #[false, false, false, false, false, false, false, false, false, false, false, false, false, false] (by kernel_rfl) rfl rfl ((blk_cell HG.out 2).trans rfl) (fun hHeld => ?_)
                generalize wr.drew = wd at HG HL HV HC HB HK hHeld ⊢
                refine pure_ (i := 0) (N := some 59) (v := ?_) (a' := ?_) #[true, false, false, false, false, false, false, false, false, false, false, false, false, false] rfl rfl (by kernel_rfl) (fun _ _ _ h => h) (Or.inl ⟨by rfl, ?_⟩) ?_ ?_
                rotate_left
                · intro w'
                  go_simp
                  with_reducible rfl
                rotate_left
                · simp only [Act.put, List.setIfInBounds_toArray, List.set_cons_zero, List.set_cons_succ, i64_w, i32_w]
                  rfl
                refine pure_ (i := 1) (N := some 60) (v := ?_) (a' := ?_) #[true, true, false, false, false, false, false, false, false, false, false, false, false, false] rfl rfl (by kernel_rfl) (fun _ _ _ h => h) (Or.inl ⟨by rfl, ?_⟩) ?_ ?_
                rotate_left
                · intro w'
                  go_simp
                  with_reducible rfl
                rotate_left
                · simp only [Act.put, List.setIfInBounds_toArray, List.set_cons_zero, List.set_cons_succ, i64_w, i32_w]
                  rfl
                refine pure_ (i := 2) (N := some 61) (v := ?_) (a' := ?_) #[true, true, true, false, false, false, false, false, false, false, false, false, false, false] rfl rfl (by kernel_rfl) (fun _ _ _ h => h) (Or.inl ⟨by rfl, ?_⟩) ?_ ?_
                rotate_left
                · intro w'
                  go_simp
                  with_reducible rfl
                rotate_left
                · simp only [Act.put, List.setIfInBounds_toArray, List.set_cons_zero, List.set_cons_succ, i64_w, i32_w]
                  rfl
                refine pure_ (i := 3) (N := some 62) (v := ?_) (a' := ?_) #[true, true, true, true, false, false, false, false, false, false, false, false, false, false] rfl rfl (by kernel_rfl) (fun _ _ _ h => h) (Or.inl ⟨by rfl, ?_⟩) ?_ ?_
                rotate_left
                · intro w'
                  go_simp
                  with_reducible rfl
                rotate_left
                · simp only [Act.put, List.setIfInBounds_toArray, List.set_cons_zero, List.set_cons_succ, i64_w, i32_w]
                  rfl
                refine pure_ (i := 5) (N := some 64) (v := ?_) (a' := ?_) #[true, true, true, true, false, true, false, false, false, false, false, false, false, false] rfl rfl (by kernel_rfl) (fun _ _ _ h => h) (Or.inl ⟨by rfl, ?_⟩) ?_ ?_
                rotate_left
                · intro w'
                  go_simp
                  with_reducible rfl
                rotate_left
                · simp only [Act.put, List.setIfInBounds_toArray, List.set_cons_zero, List.set_cons_succ, i64_w, i32_w]
                  rfl
                refine pure_ (i := 6) (N := some 65) (v := ?_) (a' := ?_) #[true, true, true, true, false, true, true, false, false, false, false, false, false, false] rfl rfl (by kernel_rfl) (fun _ _ _ h => h) (Or.inl ⟨by rfl, ?_⟩) ?_ ?_
                rotate_left
                · intro w'
                  go_simp
                  with_reducible rfl
                rotate_left
                · simp only [Act.put, List.setIfInBounds_toArray, List.set_cons_zero, List.set_cons_succ, i64_w, i32_w]
                  rfl
                refine pure_ (i := 7) (N := some 66) (v := ?_) (a' := ?_) #[true, true, true, true, false, true, true, true, false, false, false, false, false, false] rfl rfl (by kernel_rfl) (fun _ _ _ h => h) (Or.inl ⟨by rfl, ?_⟩) ?_ ?_
                rotate_left
                · intro w'
                  go_simp
                  with_reducible rfl
                rotate_left
                · simp only [Act.put, List.setIfInBounds_toArray, List.set_cons_zero, List.set_cons_succ, i64_w, i32_w]
                  rfl
                refine take_ (i := 4) (N := some 63) (v := ?_) (a' := ?_) #[true, true, true, true, true, true, true, true, false, false, false, false, false, false] rfl rfl (by kernel_rfl) (fun _ _ _ h => h) (Or.inl ⟨by rfl, ?_⟩) hHeld ?_ ?_
                rotate_left
                · intro w' s0
                  go_simp
                  with_reducible rfl
                rotate_left
                · simp only [Act.put, List.setIfInBounds_toArray, List.set_cons_zero, List.set_cons_succ, i64_w, i32_w]
                  rfl
                refine one_ (i := 8) (N := some 67) #[true, true, true, true, true, true, true, true, true, false, false, false, false, false] rfl rfl (by kernel_rfl) (by decide) (fun K hK => ?_)
                refine goes_ Try.func59 (by kernel_rfl) rfl #[.slice Ac c.length cc, .int .i64 (wrap64 (i + 1))] (by rfl) rfl rfl (by (try simp only [List.map_toArray, List.map_cons, List.map_nil]); first | done | rfl) ?_
                with_reducible refine (impl_PolyAt.calls k2 _ _ c (wrap64 (i + 1)) t _ ?side1 ?side2 HPA.out).mono ?_
                (case side1 => exact (Kd.R_reads' HC.out).2.2)
                (case side2 => exact (Kd.R_reads' HC.out).2.1)
                rintro e w3 ⟨rfl, hb⟩
                refine ⟨_, rfl, ?_⟩
                have n0_ := Aside0.mk (blk_below HG.out hb)
                have n1_ := Aside0.mk (blk_below HL.out hb)
                have n2_ := Aside0.mk (Kd.R_below HV.out hb)
                have n3_ := Aside0.mk (Kd.R_below HC.out hb)
                have n4_ := Aside0.mk (below_then HB.out (Nat.le_trans HS0.out (kept_size HK.out)) hb)
                have n5_ := Aside0.mk (Kept.below HK.out hb)
                clear HG HL HV HC HB HK hb
                have HG := n0_
                have HL := n1_
                have HV := n2_
                have HC := n3_
                have HB := n4_
                have HK := n5_
                clear n0_ n1_ n2_ n3_ n4_ n5_
                refine hK.out _ _ ((blk_cell HG.out 2).trans rfl) (fun hHeld => ?_)
                clear hK K
                refine norm_ (a' := ?_) ?_ ?_
                rotate_left
                · show Act.put _ (some 67) _ = _
                  simp only [Act.put, List.setIfInBounds_toArray, List.set_cons_zero, List.set_cons_succ, i64_w, i32_w]
                  rfl
                refine one_ (i := 9) (N := some 68) #[true, true, true, true, true, true, true, true, true, true, false, false, false, false] rfl rfl (by kernel_rfl) (by decide) (fun K hK => ?_)
                refine value_ (w1 := ?_) (v := ?_) (by rfl) rfl ?_ ?_
                rotate_left 2
                · go_simp
                  constructor
                  · rfl
                  · rfl
                refine hK.out _ _ ((blk_cell (blk_alloc HG.out _) 2).trans rfl) (fun hHeld => ?_)
                clear hK K
                refine norm_ (a' := ?_) ?_ ?_
                rotate_left
                · show Act.put _ (some 68) _ = _
                  simp only [Act.put, List.setIfInBounds_toArray, List.set_cons_zero, List.set_cons_succ, i64_w, i32_w]
                  rfl
                refine one_ (i := 10) (N := some 69) #[true, true, true, true, true, true, true, true, true, true, true, false, false, false] rfl rfl (by kernel_rfl) (by decide) (fun K hK => ?_)
                refine Kd.R_append_step (Kd.int .i64) (w0 := w0) w0.heap.size (by rfl) (.tmp 63) (.tmp 68) 23 3 (.int .i64 0) 8 rfl Try.underlying23 info3 rfl (by decide) (by omega) vv vals2 t [.int .i64 t] (fun _ => True) (fun _ => False) rfl rfl ?aP (fun _ hk => hk.elim) ?aF ?aO ?aB ?aS ?aL ?_
                (case aP => exact rfl)
                (case aB => exact HB.out)
                (case aF => exact (fun _ _ => trivial))
                (case aO => exact HV.out)
                (case aS => exact (Nat.le_trans HS0.out (kept_size HK.out)))
                (case aL => have := LM.out; omega)
                intro v1 w8 ho hb hg hat
                rw [← Ny.out] at ho
                have n0_ := Aside0.mk (blk_grown HG.out hg (Kd.R_ne HV.out HG.out (by decide)))
                have n1_ := Aside0.mk (blk_grown HL.out hg (Kd.R_ne HV.out HL.out (by decide)))
                have n2_ := Aside0.mk (int_ok (Kd.R_grown (int_ok HC.out (ok' := fun k_ => (Value.slice Ac c.length cc).ownBlock = some k_) (fun _ h_ => h_)) hg (fun k_ h_ e_ => HA.out k_ h_ e_)) (ok' := fun _ => True) (fun _ _ => trivial))
                have n3_ := Aside0.mk (hat_away hat HA.out (R_own_lt HC.out))
                have n4_ := Aside0.mk (hat_from hat HF.out (kept_size HK.out))
                have n5_ := Aside0.mk (Kept.of_grown hg HK.out (fun k_ h_ => (HF.out k_ h_).elim (fun q_ => .inl (.inr q_)) .inr))
                have n6_ := Aside0.mk (hb)
                have n7_ := Aside0.mk (ho)
                clear HG HL HC HA HF HK HB HV hb hg hat ho
                have HG := n0_
                have HL := n1_
                have HC := n2_
                have HA := n3_
                have HF := n4_
                have HK := n5_
                have HB := n6_
                have HV := n7_
                clear n0_ n1_ n2_ n3_ n4_ n5_ n6_ n7_
                refine hK.out _ _ ((blk_cell HG.out 2).trans rfl) (fun hHeld => ?_)
                clear hK K
                refine norm_ (a' := ?_) ?_ ?_
                rotate_left
                · show Act.put _ (some 69) _ = _
                  simp only [Act.put, List.setIfInBounds_toArray, List.set_cons_zero, List.set_cons_succ, i64_w, i32_w]
                  rfl
                refine pure_ (i := 11) (N := some 70) (v := ?_) (a' := ?_) #[true, true, true, true, true, true, true, true, true, true, true, true, false, false] rfl rfl (by kernel_rfl) (fun _ _ _ h => h) (Or.inl ⟨by rfl, ?_⟩) ?_ ?_
                rotate_left
                · intro w'
                  go_simp
                  with_reducible rfl
                rotate_left
                · simp only [Act.put, List.setIfInBounds_toArray, List.set_cons_zero, List.set_cons_succ, i64_w, i32_w]
                  rfl
                refine pure_ (i := 12) (N := some 71) (v := ?_) (a' := ?_) #[true, true, true, true, true, true, true, true, true, true, true, true, true, false] rfl rfl (by kernel_rfl) (fun _ _ _ h => h) (Or.inl ⟨by rfl, ?_⟩) ?_ ?_
                rotate_left
                · intro w'
                  go_simp
                  with_reducible rfl
                rotate_left
                · simp only [Act.put, List.setIfInBounds_toArray, List.set_cons_zero, List.set_cons_succ, i64_w, i32_w]
                  rfl
                refine last_ (i := 13) (N := none) #[true, true, true, true, true, true, true, true, true, true, true, true, true, true] rfl rfl (by kernel_rfl) (by decide) (fun K hK => ?_)
                obtain ⟨An, cn, rfl⟩ := Kd.R_slice HV.out
                have hzs := blk_frozen HG.out 2
                refine skip_ (w1 := ?_) (by rfl) rfl ?_ ?_
                rotate_left
                · go_simp
                  rfl
                have n0_ := Aside0.mk (show (w8.setCell ⟨g, 2, none⟩ (.slice An y.length cn)).heap[gl]? = some (.cells #[.int .i64 need, .slice A1 mem.length c1, .slice A2 kids.length c2] 26 (0, 0)) from blk_far HL.out NL.out.symm _)
                have n1_ := Aside0.mk (show Kd.R (Kd.int .i64) 3 (w8.setCell ⟨g, 2, none⟩ (.slice An y.length cn)) w0.heap.size (fun _ => True) (.slice Ac c.length cc) c from Kd.R_set HC.out HG.out ht65 2 _)
                have n2_ := Aside0.mk (show Kd.R (Kd.int .i64) 3 (w8.setCell ⟨g, 2, none⟩ (.slice An y.length cn)) w0.heap.size (fun _ => True) (.slice An y.length cn) y from Kd.R_set HV.out HG.out ht65 2 _)
                have n3_ := Aside0.mk (show Below w0.heap.size w0 (w8.setCell ⟨g, 2, none⟩ (.slice An y.length cn)) from below_set HB.out GE.out)
                have n4_ := Aside0.mk (show Kept w (w8.setCell ⟨g, 2, none⟩ (.slice An y.length cn)) (fun k_ => k_ = g ∨ some k_ = (Value.slice Av vals.length cv).ownBlock) from Kept.setCell HK.out (p := ⟨g, 2, none⟩) (.inl (.inl rfl)) _)
                have n5_ := Aside0.mk (show (w8.setCell ⟨g, 2, none⟩ (.slice An y.length cn)).heap[g]? = some (.cells #[.int .i64 s, .int .i64 (wrap64 (lo + 1)), (.slice An y.length cn)] 65 (0, 0)) from blk_put HG.out 2 _ rfl)
                clear HL HC HV HB HK HG 
                have HL := n0_
                have HC := n1_
                have HV := n2_
                have HB := n3_
                have HK := n4_
                have HG := n5_
                clear n0_ n1_ n2_ n3_ n4_ n5_
                refine hK.out _ _ ?_
                clear hK K
                refine done_ (by kernel_rfl) ?_
                try go_wp2
                go_roundg k2
                case measure => have := HK1.out; omega
                case rel => exact ⟨y, wrap64 (i + 1), (.slice An y.length cn), (by first | rfl | (simp; done) | (simp [*]; done)), H', ⟨by have := HK1.out; omega⟩, ⟨(by (with_reducible repeat (first | apply Kd.R_alloc | apply Kd.R_drewN | apply Kd.R_drew)); exact HV.out)⟩, HF, HA, ⟨(by (with_reducible repeat (first | refine blk_drewN ?_ _ | refine blk_drew ?_ | refine blk_alloc ?_ _)); exact HG.out)⟩, ⟨(by (with_reducible repeat (first | refine blk_drewN ?_ _ | refine blk_drew ?_ | refine blk_alloc ?_ _)); exact HL.out)⟩, ⟨(by (with_reducible repeat (first | apply Kd.R_alloc | apply Kd.R_drewN | apply Kd.R_drew)); exact HC.out)⟩, ⟨by repeat (first | (with_reducible first | exact HK.out | apply Kept.alloc | apply Kept.drewN | apply Kept.drew) | exact HK.out)⟩, ⟨by repeat (first | (with_reducible first | exact HB.out | apply below_alloc | apply pw_below_drewN | apply below_drew1) | exact HB.out)⟩⟩
              · rw [if_neg c9] at H
                exact absurd H (by simp)
            · rw [if_neg c8] at H
              have c8b0 : decide (i < (mem.length : Int)) = false := decide_eq_false c8
              clear c8
              obtain rfl := Option.some.inj H
              clear H
              have hzk : wr.cell? ⟨gl, 2, none⟩ = some (.slice A2 kids.length c2) := (blk_cell HL.out 2).trans rfl
              have hzkf := blk_frozen HL.out 2
              try go_wp2
              go_loopg [76] k (fun kq v76 w' => ∃ (lo3 : Int) (vals3 : List Int) (i : Int) (vv : Value), v76 = .int .i64 i ∧ Aside0 (deal.l2 kq s c (mem.length : Int) kids lo3 vals3 i = some (lo', vals')) ∧ Aside0 (kq ≤ k) ∧ Aside0 (Kd.R (Kd.int .i64) 3 w' w0.heap.size (fun _ => True) vv vals3) ∧ Aside0 (∀ k_, vv.ownBlock = some k_ → some k_ = (Value.slice Av vals.length cv).ownBlock ∨ w.heap.size ≤ k_) ∧ Aside0 (∀ k_, (Value.slice Ac c.length cc).ownBlock = some k_ → some k_ ≠ vv.ownBlock) ∧ Aside0 (w'.heap[g]? = some (.cells #[.int .i64 s, .int .i64 lo3, vv] 65 (0, 0))) ∧ Aside0 (w'.heap[gl]? = some (.cells #[.int .i64 need, .slice A1 mem.length c1, .slice A2 kids.length c2] 26 (0, 0))) ∧ Aside0 (Kd.R (Kd.int .i64) 3 w' w0.heap.size (fun _ => True) (.slice Ac c.length cc) c) ∧ Aside0 (Kept w w' (fun k_ => k_ = g ∨ some k_ = (Value.slice Av vals.length cv).ownBlock)) ∧ Aside0 (Below w0.heap.size w0 w'))
              case atStart => exact ⟨(wrap64 (lo + 1)), vals2, 0, vv, rfl, B3, ⟨Nat.le_refl _⟩, ⟨(by (with_reducible repeat (first | apply Kd.R_alloc | apply Kd.R_drewN | apply Kd.R_drew)); exact HV.out)⟩, HF, HA, ⟨(by (with_reducible repeat (first | refine blk_drewN ?_ _ | refine blk_drew ?_ | refine blk_alloc ?_ _)); exact HG.out)⟩, ⟨(by (with_reducible repeat (first | refine blk_drewN ?_ _ | refine blk_drew ?_ | refine blk_alloc ?_ _)); exact HL.out)⟩, ⟨(by (with_reducible repeat (first | apply Kd.R_alloc | apply Kd.R_drewN | apply Kd.R_drew)); exact HC.out)⟩, ⟨by repeat (first | (with_reducible first | exact HK.out | apply Kept.alloc | apply Kept.drewN | apply Kept.drew) | exact HK.out)⟩, ⟨by repeat (first | (with_reducible first | exact HB.out | apply below_alloc | apply pw_below_drewN | apply below_drew1) | exact HB.out)⟩⟩
              case round =>
                clear B3 HC HA HG HL HV HK HB HF
                try clear hzk
                try clear hzkf
                obtain ⟨lo3, vals3, i, vv, rfl, HX, HK1, HV, HF, HA, HG, HL, HC, HK, HB⟩ := hrel
                cases gk with
                | zero => exact absurd HX.out (by simp [deal.l2])
                | succ k3 =>
                  have H := HX.out
                  clear HX
                  simp only [deal.l2] at H
                  by_cases c8 : i < (kids.length : Int)
                  · rw [if_pos c8] at H
                    have c8b0 : decide (i < (kids.length : Int)) = true := decide_eq_true c8
                    by_cases c9 : 0 ≤ i
                    · rw [if_pos c9] at H
                      have c9b0 : decide (0 ≤ i) = true := decide_eq_true c9
                      obtain ⟨t, hPA, H⟩ := Option.bind_eq_some_iff.mp H
                      obtain ⟨d3, hD1, H⟩ := Option.bind_eq_some_iff.mp H
                      obtain ⟨d4, hD2, H⟩ := Option.bind_eq_some_iff.mp H
                      obtain ⟨q, hD3, H⟩ := Option.bind_eq_some_iff.mp H
                      have HD := Aside0.mk (show deal.f k3 s lo3 vals3 (rd_T26 kids i).f0 (rd_T26 kids i).f1 (rd_T26 kids i).f2 t = some (q.1, q.2) from by unfold deal.f; rw [hD1, Option.bind_some, hD2, Option.bind_some, hD3])
                      have HPA := Aside0.mk hPA
                      have H' := Aside0.mk H
                      clear hPA hD1 hD2 hD3 H
                      obtain ⟨ad, E1, e1, E2, e2, e0, hx0, hx1, hx2, hl1, hi1, hl2, hi2⟩ := at_T26 HR2.out i c9 c8
                      cases e0
                      replace hx0 := (HB.out.cell (World.block_lt_of_cell? w0 _ hx0)).trans hx0
                      replace hx1 := (HB.out.cell (World.block_lt_of_cell? w0 _ hx1)).trans hx1
                      replace hx2 := (HB.out.cell (World.block_lt_of_cell? w0 _ hx2)).trans hx2
                      have HI1 := Aside0.mk hi1
                      have HI2 := Aside0.mk hi2
                      have HM1 := Aside0.mk hl1
                      have HM2 := Aside0.mk hl2
                      clear hi1 hi2 hl1 hl2
                      replace c9 := eq_true c9
                      replace c8 := eq_true c8
                      go_wp2_with (first | ((with_reducible refine gate_dst (N := 11) rfl ?_); refine box_event ?hg (N := 11) ?hd (cs := #[.int .i64 0, .slice none 0 0, .slice none 0 0]) (t := 26) ?hr ?_; (case hd => rfl); (case hg => rfl); (case hr => first | (go_simp; done) | (go_simp; rfl)); intro gk hgk w10 hbox hb; have HKb := Aside0.mk hbox; have HBb := Aside0.mk hb; have GK := Aside0.mk (show wr.heap.size ≤ gk from by rw [hgk]; exact Nat.le_refl _); clear hbox hb hgk; have hcz0 : w10.cell? ⟨gk, 0, none⟩ = some (.int .i64 0) := (blk_cell HKb.out 0).trans rfl; have hcz1 : w10.cell? ⟨gk, 1, none⟩ = some (.slice none 0 0) := (blk_cell HKb.out 1).trans rfl; have hcz2 : w10.cell? ⟨gk, 2, none⟩ = some (.slice none 0 0) := (blk_cell HKb.out 2).trans rfl; have hfz0 := blk_frozen HKb.out 0; have hfz1 := blk_frozen HKb.out 1; have hfz2 := blk_frozen HKb.out 2))
                      have hKX : Aside0 ((((w10.setCell ⟨gk, 0, none⟩ (.int .i64 (rd_T26 kids i).f0)).setCell ⟨gk, 1, none⟩ (.slice E1 (rd_T26 kids i).f1.length e1)).setCell ⟨gk, 2, none⟩ (.slice E2 (rd_T26 kids i).f2.length e2)).heap[gk]? = some (.cells #[(.int .i64 (rd_T26 kids i).f0), (.slice E1 (rd_T26 kids i).f1.length e1), (.slice E2 (rd_T26 kids i).f2.length e2)] 26 (0, 0))) := ⟨blk_put (blk_put (blk_put HKb.out 0 _ rfl) 1 _ rfl) 2 _ rfl⟩
                      have hBX : Aside0 (Below wr.heap.size wr (((w10.setCell ⟨gk, 0, none⟩ (.int .i64 (rd_T26 kids i).f0)).setCell ⟨gk, 1, none⟩ (.slice E1 (rd_T26 kids i).f1.length e1)).setCell ⟨gk, 2, none⟩ (.slice E2 (rd_T26 kids i).f2.length e2))) := ⟨below_set (below_set (below_set HBb.out GK.out) GK.out) GK.out⟩
                      clear HKb HBb hcz0 hcz1 hcz2 hfz0 hfz1 hfz2 hx0 hx1 hx2
                      have HKb := hKX
                      clear hKX
                      generalize (((w10.setCell ⟨gk, 0, none⟩ (.int .i64 (rd_T26 kids i).f0)).setCell ⟨gk, 1, none⟩ (.slice E1 (rd_T26 kids i).f1.length e1)).setCell ⟨gk, 2, none⟩ (.slice E2 (rd_T26 kids i).f2.length e2)) = w11 at HKb hBX ⊢
                      have n0_ := Aside0.mk (blk_below HG.out hBX.out)
                      have n1_ := Aside0.mk (blk_below HL.out hBX.out)
                      have n2_ := Aside0.mk (Kd.R_below HV.out hBX.out)
                      have n3_ := Aside0.mk (Kd.R_below HC.out hBX.out)
                      have n4_ := Aside0.mk (below_then HB.out (Nat.le_trans HS0.out (kept_size HK.out)) hBX.out)
                      have n5_ := Aside0.mk (Kept.below HK.out hBX.out)
                      clear HG HL HV HC HB HK hBX
                      have HG := n0_
                      have HL := n1_
                      have HV := n2_
                      have HC := n3_
                      have HB := n4_
                      have HK := n5_
                      clear n0_ n1_ n2_ n3_ n4_ n5_
                      have n0_ := Aside0.mk (blk_drew HKb.out)
                      clear HKb
                      have HKb := n0_
                      clear n0_
                      have n0_ := Aside0.mk (blk_drew HG.out)
                      have n1_ := Aside0.mk (blk_drew HL.out)
                      have n2_ := Aside0.mk (Kd.R_drew HV.out)
                      have n3_ := Aside0.mk (Kd.R_drew HC.out)
                      have n4_ := Aside0.mk (below_drew1 HB.out)
                      have n5_ := Aside0.mk (Kept.drew HK.out)
                      clear HG HL HV HC HB HK
                      have HG := n0_
                      have HL := n1_
                      have HV := n2_
                      have HC := n3_
                      have HB := n4_
                      have HK := n5_
                      clear n0_ n1_ n2_ n3_ n4_ n5_
                      refine start_ (n := 11) (S := fun w' => w'.cell? ⟨gk, 0, none⟩ = some (.int .i64 (rd_T26 kids i).f0) ∧ w'.cell? ⟨gk, 1, none⟩ = some (.slice E1 (rd_T26 kids i).f1.length e1) ∧ w'.cell? ⟨gk, 2, none⟩ = some (.slice E2 (rd_T26 kids i).f2.length e2) ∧ w'.cell? ⟨gl, 1, none⟩ = some (.slice A1 mem.length c1)) (ds := [10]) #[false, false, false, false, false, false, false, false, false, false, false] (by kernel_rfl) rfl rfl ⟨(blk_cell HKb.out 0).trans rfl, (blk_cell HKb.out 1).trans rfl, (blk_cell HKb.out 2).trans rfl, (blk_cell HL.out 1).trans rfl⟩ (fun hHeld => ?_)
                      generalize w11.drew = wd at HG HL HV HC HB HK HKb hHeld ⊢
                      refine pure_ (i := 0) (N := some 81) (v := ?_) (a' := ?_) #[true, false, false, false, false, false, false, false, false, false, false] rfl rfl (by kernel_rfl) (fun _ _ _ h => h) (Or.inl ⟨by rfl, ?_⟩) ?_ ?_
                      rotate_left
                      · intro w'
                        go_simp
                        with_reducible rfl
                      rotate_left
                      · simp only [Act.put, List.setIfInBounds_toArray, List.set_cons_zero, List.set_cons_succ, i64_w, i32_w]
                        rfl
                      refine pure_ (i := 2) (N := some 83) (v := ?_) (a' := ?_) #[true, false, true, false, false, false, false, false, false, false, false] rfl rfl (by kernel_rfl) (fun _ _ _ h => h) (Or.inl ⟨by rfl, ?_⟩) ?_ ?_
                      rotate_left
                      · intro w'
                        go_simp
                        with_reducible rfl
                      rotate_left
                      · simp only [Act.put, List.setIfInBounds_toArray, List.set_cons_zero, List.set_cons_succ, i64_w, i32_w]
                        rfl
                      refine pure_ (i := 3) (N := some 84) (v := ?_) (a' := ?_) #[true, false, true, true, false, false, false, false, false, false, false] rfl rfl (by kernel_rfl) (fun _ _ _ h => h) (Or.inl ⟨by rfl, ?_⟩) ?_ ?_
                      rotate_left
                      · intro w'
                        go_simp
                        with_reducible rfl
                      rotate_left
                      · simp only [Act.put, List.setIfInBounds_toArray, List.set_cons_zero, List.set_cons_succ, i64_w, i32_w]
                        rfl
                      refine pure_ (i := 6) (N := some 87) (v := ?_) (a' := ?_) #[true, false, true, true, false, false, true, false, false, false, false] rfl rfl (by kernel_rfl) (fun _ _ _ h => h) (Or.inl ⟨by rfl, ?_⟩) ?_ ?_
                      rotate_left
                      · intro w'
                        go_simp
                        with_reducible rfl
                      rotate_left
                      · simp only [Act.put, List.setIfInBounds_toArray, List.set_cons_zero, List.set_cons_succ, i64_w, i32_w]
                        rfl
                      refine take_ (i := 1) (N := some 82) (v := ?_) (a' := ?_) #[true, true, true, true, false, false, true, false, false, false, false] rfl rfl (by kernel_rfl) (fun _ _ _ h => h) (Or.inl ⟨by rfl, ?_⟩) hHeld ?_ ?_
                      rotate_left
                      · rintro w' ⟨s0, s1, s2, s3⟩
                        go_simp
                        with_reducible rfl
                      rotate_left
                      · simp only [Act.put, List.setIfInBounds_toArray, List.set_cons_zero, List.set_cons_succ, i64_w, i32_w]
                        rfl
                      refine take_ (i := 4) (N := some 85) (v := ?_) (a' := ?_) #[true, true, true, true, true, false, true, false, false, false, false] rfl rfl (by kernel_rfl) (fun _ _ _ h => h) (Or.inl ⟨by rfl, ?_⟩) hHeld ?_ ?_
                      rotate_left
                      · rintro w' ⟨s0, s1, s2, s3⟩
                        go_simp
                        with_reducible rfl
                      rotate_left
                      · simp only [Act.put, List.setIfInBounds_toArray, List.set_cons_zero, List.set_cons_succ, i64_w, i32_w]
                        rfl
                      refine pure_ (i := 5) (N := some 86) (v := ?_) (a' := ?_) #[true, true, true, true, true, true, true, false, false, false, false] rfl rfl (by kernel_rfl) (fun _ _ _ h => h) (Or.inl ⟨by rfl, ?_⟩) ?_ ?_
                      rotate_left
                      · intro w'
                        go_simp
                        with_reducible rfl
                      rotate_left
                      · simp only [Act.put, List.setIfInBounds_toArray, List.set_cons_zero, List.set_cons_succ, i64_w, i32_w]
                        rfl
                      refine pure_ (i := 7) (N := some 88) (v := ?_) (a' := ?_) #[true, true, true, true, true, true, true, true, false, false, false] rfl rfl (by kernel_rfl) (fun _ _ _ h => h) (Or.inl ⟨by rfl, ?_⟩) ?_ ?_
                      rotate_left
                      · intro w'
                        go_simp
                        with_reducible rfl
                      rotate_left
                      · simp only [Act.put, List.setIfInBounds_toArray, List.set_cons_zero, List.set_cons_succ, i64_w, i32_w]
                        rfl
                      refine pure_ (i := 8) (N := some 89) (v := ?_) (a' := ?_) #[true, true, true, true, true, true, true, true, true, false, false] rfl rfl (by kernel_rfl) (fun _ _ _ h => h) (Or.inl ⟨by rfl, ?_⟩) ?_ ?_
                      rotate_left
                      · intro w'
                        go_simp
                        with_reducible rfl
                      rotate_left
                      · simp only [Act.put, List.setIfInBounds_toArray, List.set_cons_zero, List.set_cons_succ, i64_w, i32_w]
                        rfl
                      refine one_ (i := 9) (N := some 90) #[true, true, true, true, true, true, true, true, true, true, false] rfl rfl (by kernel_rfl) (by decide) (fun K hK => ?_)
                      refine goes_ Try.func59 (by kernel_rfl) rfl #[.slice Ac c.length cc, .int .i64 (wrap64 ((wrap64 ((mem.length : Int) + i)) + 1))] (by rfl) rfl rfl (by (try simp only [List.map_toArray, List.map_cons, List.map_nil]); first | done | rfl) ?_
                      with_reducible refine (impl_PolyAt.calls k3 _ _ c (wrap64 ((wrap64 ((mem.length : Int) + i)) + 1)) t _ ?side1 ?side2 HPA.out).mono ?_
                      (case side1 => exact (Kd.R_reads' HC.out).2.2)
                      (case side2 => exact (Kd.R_reads' HC.out).2.1)
                      rintro e w3 ⟨rfl, hb⟩
                      refine ⟨_, rfl, ?_⟩
                      have n0_ := Aside0.mk (blk_below HG.out hb)
                      have n1_ := Aside0.mk (blk_below HL.out hb)
                      have n2_ := Aside0.mk (Kd.R_below HV.out hb)
                      have n3_ := Aside0.mk (Kd.R_below HC.out hb)
                      have n4_ := Aside0.mk (below_then HB.out (Nat.le_trans HS0.out (kept_size HK.out)) hb)
                      have n5_ := Aside0.mk (Kept.below HK.out hb)
                      have n6_ := Aside0.mk (blk_below HKb.out hb)
                      clear HG HL HV HC HB HK HKb hb
                      have HG := n0_
                      have HL := n1_
                      have HV := n2_
                      have HC := n3_
                      have HB := n4_
                      have HK := n5_
                      have HKb := n6_
                      clear n0_ n1_ n2_ n3_ n4_ n5_ n6_
                      refine hK.out _ _ ⟨(blk_cell HKb.out 0).trans rfl, (blk_cell HKb.out 1).trans rfl, (blk_cell HKb.out 2).trans rfl, (blk_cell HL.out 1).trans rfl⟩ (fun hHeld => ?_)
                      clear hK K
                      refine norm_ (a' := ?_) ?_ ?_
                      rotate_left
                      · show Act.put _ (some 90) _ = _
                        simp only [Act.put, List.setIfInBounds_toArray, List.set_cons_zero, List.set_cons_succ, i64_w, i32_w]
                        rfl
                      refine last_ (i := 10) (N := some 91) #[true, true, true, true, true, true, true, true, true, true, true] rfl rfl (by kernel_rfl) (by decide) (fun K hK => ?_)
                      refine goes_ Try.func49 (by kernel_rfl) rfl #[.pointer (some ⟨g, 0, none⟩), .agg #[(.int .i64 (rd_T26 kids i).f0), (.slice E1 (rd_T26 kids i).f1.length e1), (.slice E2 (rd_T26 kids i).f2.length e2)], .int .i64 t] (by rfl) rfl rfl (by (try simp only [List.map_toArray, List.map_cons, List.map_nil]); first | done | rfl) ?_
                      with_reducible refine (IH.out k3 (by have := HK1.out; omega) g s lo3 vv vals3 (rd_T26 kids i).f0 E1 e1 (rd_T26 kids i).f1 E2 e2 (rd_T26 kids i).f2 t q.1 q.2 w0 _ HB.out GE.out HG.out HV.out HI1.out HM1.out HI2.out HM2.out HD.out).mono ?_
                      rintro e w4 ⟨rfl, v2, g1, g2, g3, g4, g5⟩
                      refine ⟨_, rfl, ?_⟩
                      have n0_ := Aside0.mk (blk_kept HL.out g5 (fun h_ => h_.elim (fun q_ => NL.out q_.symm) (fun q_ => Kd.R_ne HV.out HL.out (by decide) q_)))
                      have n1_ := Aside0.mk (int_ok (Kd.R_kept (int_ok HC.out (ok' := fun k_ => (Value.slice Ac c.length cc).ownBlock = some k_) (fun _ h_ => h_)) g5 (fun k_ h_ s_ => s_.elim (fun q_ => Kd.R_ne HC.out HG.out (by decide) (by rw [← q_]; exact h_.symm)) (fun q_ => HA.out k_ h_ q_))) (ok' := fun _ => True) (fun _ _ => trivial))
                      have n2_ := Aside0.mk (Kept.then_ HK.out g5 (fun k_ s_ => s_.elim (fun q_ => .inl (.inl q_)) (fun q_ => (HF.out k_ q_.symm).elim (fun r_ => .inl (.inr r_)) .inr)))
                      have n3_ := Aside0.mk (show ∀ k_, v2.ownBlock = some k_ → some k_ = (Value.slice Av vals.length cv).ownBlock ∨ w.heap.size ≤ k_ from fun k_ h_ => (g3 k_ h_).elim (fun r_ => HF.out k_ r_.symm) (fun r_ => .inr (Nat.le_trans (kept_size HK.out) r_)))
                      have n4_ := Aside0.mk (show ∀ k_, (Value.slice Ac c.length cc).ownBlock = some k_ → some k_ ≠ v2.ownBlock from fun k_ h_ e_ => (g3 k_ e_.symm).elim (fun r_ => HA.out k_ h_ r_) (fun r_ => absurd (R_own_lt HC.out k_ h_) (by omega)))
                      have n5_ := Aside0.mk (g4)
                      have n6_ := Aside0.mk (g2)
                      have n7_ := Aside0.mk (g1)
                      clear HL HC HK HF HA HB HV HG g3 g5 HKb
                      have HL := n0_
                      have HC := n1_
                      have HK := n2_
                      have HF := n3_
                      have HA := n4_
                      have HB := n5_
                      have HV := n6_
                      have HG := n7_
                      clear n0_ n1_ n2_ n3_ n4_ n5_ n6_ n7_
                      refine hK.out _ _ ?_
                      clear hK K
                      refine norm_ (a' := ?_) ?_ ?_
                      rotate_left
                      · show Act.put _ (some 91) _ = _
                        simp only [Act.put, List.setIfInBounds_toArray, List.set_cons_zero, List.set_cons_succ, i64_w, i32_w]
                        rfl
                      refine done_ (by kernel_rfl) ?_
                      try go_wp2
                      go_roundg k3
                      case measure => have := HK1.out; omega
                      case rel => exact ⟨q.1, q.2, wrap64 (i + 1), v2, (by first | rfl | (simp; done) | (simp [*]; done)), H', ⟨by have := HK1.out; omega⟩, ⟨(by (with_reducible repeat (first | apply Kd.R_alloc | apply Kd.R_drewN | apply Kd.R_drew)); exact HV.out)⟩, HF, HA, ⟨(by (with_reducible repeat (first | refine blk_drewN ?_ _ | refine blk_drew ?_ | refine blk_alloc ?_ _)); exact HG.out)⟩, ⟨(by (with_reducible repeat (first | refine blk_drewN ?_ _ | refine blk_drew ?_ | refine blk_alloc ?_ _)); exact HL.out)⟩, ⟨(by (with_reducible repeat (first | apply Kd.R_alloc | apply Kd.R_drewN | apply Kd.R_drew)); exact HC.out)⟩, ⟨by repeat (first | (with_reducible first | exact HK.out | apply Kept.alloc | apply Kept.drewN | apply Kept.drew) | exact HK.out)⟩, ⟨by repeat (first | (with_reducible first | exact HB.out | apply below_alloc | apply pw_below_drewN | apply below_drew1) | exact HB.out)⟩⟩
                    · rw [if_neg c9] at H
                      exact absurd H (by simp)
                  · rw [if_neg c8] at H
                    have c8b0 : decide (i < (kids.length : Int)) = false := decide_eq_false c8
                    clear c8
                    obtain ⟨rfl, rfl⟩ := Prod.mk.inj (Option.some.inj H)
                    clear H
                    go_wp2
                    go_end0
                    exact ⟨rfl, vv, ⟨HG.out, HV.out, HF.out, by repeat (first | (with_reducible first | exact HB.out | apply below_alloc | apply pw_below_drewN | apply below_drew1) | exact HB.out), by repeat (first | (with_reducible first | exact HK.out | apply Kept.alloc | apply Kept.drewN | apply Kept.drew) | exact HK.out)⟩⟩
end Go.Proofs.Ytlkcolomkhgjfaa.PFnExactDealLock
