/- Go functions of this seat as plain Lean functions, each with a proof that its call comes to just what that function says, wherever that function says anything: written by a program of this session. -/
import Derived.Test.YtnmmhfpekeeedaaPBx0
import Derived.Test.YtnmmhfpekeeedaaPBx4
import Derived.Test.YtnmmhfpekeeedaaPBx5
import Derived.Test.YtnmmhfpekeeedaaPBx7
namespace Go.Proofs.Ytnmmhfpekeeedaa.PB
open Go.RowKit Go.Proofs.YtnmmhfpekeeedaaW.PrintWords Go.Proofs.YtnmmhfpekeeedaaW.PrintLast Go.Proofs.YtnmmhfpekeeedaaW.PrintMore
attribute [local go_sem] max2_int min2_int max_two min_two max_three min_three max_four min_four   -- for this text's walks alone
set_option linter.unusedVariables false
set_option linter.unusedSimpArgs false

attribute [local go_sem] isSome_setCell idx140_1
/-! ### regimenref29_Is: function 17 -/
def regimenref29_Is.j0 : Nat → Int → Int → Bool → Bool → Int → Bool → Option (Bool)
  | 0, _, _, _, _, _, _ => none
  | k + 1, x0, x1, x25, x328000, x328001, x328002 => if x25 = true then (some false) else ((regimenref29_Gap.f k x1 x328000 x328001 x328002).bind fun bt328 => (if bt328.2 = true then ((regimenref07_Apart.f k x0 x1).bind fun t330 => ((regimenref02_Size.f bt328.1).bind fun t333 => ((regimenref02_Cmp.f k t330 t333).bind fun t336 => (some (decide (t336 > 0)))))) else (some false)))
def regimenref29_Is.f (k : Nat) (a0 : Int) (a1 : Int) (a2_0 : Bool) (a2_1 : Int) (a2_2 : Bool) : Option (Bool) := if a2_0 = true then (if a0 ≤ a1 then (regimenref29_Is.j0 k a0 a1 true a2_0 a2_1 a2_2) else (regimenref29_Is.j0 k a0 a1 false a2_0 a2_1 a2_2)) else (regimenref29_Is.j0 k a0 a1 (decide (a0 ≥ a1)) a2_0 a2_1 a2_2)
theorem regimenref29_Is.mono_l : ∀ k, (∀ y0 y1 y2 y3 y4 y5, LeO (regimenref29_Is.j0 k y0 y1 y2 y3 y4 y5) (regimenref29_Is.j0 (k + 1) y0 y1 y2 y3 y4 y5))
  | 0 => fun _ _ _ _ _ _ r h => by simp [regimenref29_Is.j0] at h
  | k + 1 => by
    have ih0 := regimenref29_Is.mono_l k
    · intro y0 y1 y2 y3 y4 y5
      unfold regimenref29_Is.j0
      repeat' first
      | (with_reducible exact ih0 _ _ _ _ _ _)
      | (with_reducible exact regimenref02_Cmp.mono _ _ _)
      | (with_reducible exact regimenref07_Apart.mono _ _ _)
      | (with_reducible exact regimenref29_Gap.mono _ _ _ _ _)
      | (with_reducible exact LeO.refl _)
      | (with_reducible exact LeO.none _)
      | (with_reducible refine LeO.ite ?_ ?_)
      | (with_reducible refine LeO.bind ?_ (fun _ => ?_))
      | exact ih0 _ _ _ _ _ _
      | exact regimenref02_Cmp.mono _ _ _
      | exact regimenref07_Apart.mono _ _ _
      | exact regimenref29_Gap.mono _ _ _ _ _
      | exact LeO.none _
      | refine LeO.ite ?_ ?_
      | refine LeO.bind ?_ (fun _ => ?_)
theorem regimenref29_Is.mono : ∀ a0 a1 a2 a3 a4 k, LeO (regimenref29_Is.f k a0 a1 a2 a3 a4) (regimenref29_Is.f (k + 1) a0 a1 a2 a3 a4) := by
  intro a0 a1 a2 a3 a4 k
  have ih0 := regimenref29_Is.mono_l k
  unfold regimenref29_Is.f
  repeat' first
      | (with_reducible exact ih0 _ _ _ _ _ _)
      | (with_reducible exact regimenref02_Cmp.mono _ _ _)
      | (with_reducible exact regimenref07_Apart.mono _ _ _)
      | (with_reducible exact regimenref29_Gap.mono _ _ _ _ _)
      | (with_reducible exact LeO.refl _)
      | (with_reducible exact LeO.none _)
      | (with_reducible refine LeO.ite ?_ ?_)
      | (with_reducible refine LeO.bind ?_ (fun _ => ?_))
      | exact ih0 _ _ _ _ _ _
      | exact regimenref02_Cmp.mono _ _ _
      | exact regimenref07_Apart.mono _ _ _
      | exact regimenref29_Gap.mono _ _ _ _ _
      | exact LeO.none _
      | refine LeO.ite ?_ ?_
      | refine LeO.bind ?_ (fun _ => ?_)
set_option maxHeartbeats 8000000 in
set_option maxRecDepth 100000 in
theorem regimenref29_Is.calls (k : Nat) (a0 : Int) (a1 : Int) (a2_0 : Bool) (a2_1 : Int) (a2_2 : Bool) (r : Bool) (w : World) (h : regimenref29_Is.f k a0 a1 a2_0 a2_1 a2_2 = some r) :
    Calls Try.prog 17 #[.int .i64 a0, .int .i64 a1, .agg #[.bool a2_0, .int .i64 a2_1, .bool a2_2]] w fun e w' => e = .returned (.bool r) ∧ Below w.heap.size w w' := by
  have hu38 := Try.underlying38
  have HB := Aside0.mk (Below.refl w.heap.size w)
  have H : (if a2_0 = true then (if a0 ≤ a1 then (regimenref29_Is.j0 k a0 a1 true a2_0 a2_1 a2_2) else (regimenref29_Is.j0 k a0 a1 false a2_0 a2_1 a2_2)) else (regimenref29_Is.j0 k a0 a1 (decide (a0 ≥ a1)) a2_0 a2_1 a2_2)) = some r := h
  clear h
  have HC4 := Aside0.mk H
  clear H
  go_enter Try.func17, Try.ntmps17
  go_upto_region 1 with (first | ((with_reducible refine gate_dst (N := 5) rfl ?_); refine box_event ?hg (N := 5) ?hd (cs := #[.bool a2_0, .int .i64 a2_1, .bool a2_2]) (t := 38) ?hr ?_; (case hd => rfl); (case hg => rfl); (case hr => first | (go_simp; done) | (go_simp; rfl)); intro gb327 hg w5 hbox hb; have n0_ := Aside0.mk (below_step (by repeat (first | (with_reducible first | exact HB.out | apply below_alloc | apply pw_below_drewN | apply below_drew1) | exact HB.out)) hb); have n1_ := Aside0.mk (hbox); have n2_ := Aside0.mk ((by rw [hg]; exact (below_size (by repeat (first | (with_reducible first | exact HB.out | apply below_alloc | apply pw_below_drewN | apply below_drew1) | exact HB.out))) : w.heap.size ≤ gb327)); have n3_ := Aside0.mk ((by rw [hg]; exact (below_size (by repeat (first | (with_reducible first | exact HB.out | apply below_alloc | apply pw_below_drewN | apply below_drew1) | exact HB.out))) : w.heap.size ≤ gb327)); clear HB; have HB := n0_; have BK327 := n1_; have GW327 := n2_; have GE327 := n3_; clear n0_ n1_ n2_ n3_; clear hb hbox hg))
  (try simp only [Act.put, List.setIfInBounds_toArray, List.set_cons_zero, List.set_cons_succ])
  go_cut [25] (fun v25 wc => ∃ (kq : Nat) (x25_3 : Bool), v25 = .bool x25_3 ∧ Aside0 (regimenref29_Is.j0 kq a0 a1 x25_3 a2_0 a2_1 a2_2 = some r) ∧ Aside0 (kq ≤ k) ∧ Aside0 (wc.heap[gb327]? = some (.cells #[.bool a2_0, .int .i64 a2_1, .bool a2_2] 38 (0, 0))) ∧ Aside0 (Below w.heap.size w wc))
  case first =>
    have H := HC4.out
    clear HC4
    by_cases c6 : a2_0 = true
    · subst c6
      have H1 : (if a0 ≤ a1 then (regimenref29_Is.j0 k a0 a1 true true a2_1 a2_2) else (regimenref29_Is.j0 k a0 a1 false true a2_1 a2_2)) = some r := by rw [if_pos rfl] at H; exact H
      clear H
      have H := H1
      clear H1
      by_cases c7 : a0 ≤ a1
      · rw [if_pos c7] at H
        have c7b0 : decide (a0 ≤ a1) = true := decide_eq_true c7
        clear c7
        (first | rw [c7b0] | rw [c7b1] | (simp only [i64_w, i32_w]; rw [c7b0]) | skip)
        have H' := Aside0.mk H
        clear H
        have hcz8_0 : w5.cell? ⟨gb327, 0, none⟩ = some (.bool true) := (blk_cell BK327.out 0).trans rfl
        have hcz8_1 : w5.cell? ⟨gb327, 1, none⟩ = some (.int .i64 a2_1) := (blk_cell BK327.out 1).trans rfl
        have hcz8_2 : w5.cell? ⟨gb327, 2, none⟩ = some (.bool a2_2) := (blk_cell BK327.out 2).trans rfl
        have hfz8_0 := blk_frozen BK327.out 0
        have hfz8_1 := blk_frozen BK327.out 1
        have hfz8_2 := blk_frozen BK327.out 2
        go_wp2
        go_meet
        case rel => exact ⟨_, (true), (by first | rfl | (simp; done) | (simp [*]; done)), H', ⟨by first | omega | exact Nat.le_refl _⟩, ⟨by (with_reducible repeat (first | refine blk_drewN ?_ _ | refine blk_drew ?_ | refine blk_alloc ?_ _)); exact BK327.out⟩, ⟨by repeat (first | (with_reducible first | exact HB.out | apply below_alloc | apply pw_below_drewN | apply below_drew1 | refine below_set ?_ GE327.out) | exact HB.out)⟩⟩
      · rw [if_neg c7] at H
        have c7b0 : decide (a0 ≤ a1) = false := decide_eq_false c7
        clear c7
        (first | rw [c7b0] | rw [c7b1] | (simp only [i64_w, i32_w]; rw [c7b0]) | skip)
        have H' := Aside0.mk H
        clear H
        have hcz9_0 : w5.cell? ⟨gb327, 0, none⟩ = some (.bool true) := (blk_cell BK327.out 0).trans rfl
        have hcz9_1 : w5.cell? ⟨gb327, 1, none⟩ = some (.int .i64 a2_1) := (blk_cell BK327.out 1).trans rfl
        have hcz9_2 : w5.cell? ⟨gb327, 2, none⟩ = some (.bool a2_2) := (blk_cell BK327.out 2).trans rfl
        have hfz9_0 := blk_frozen BK327.out 0
        have hfz9_1 := blk_frozen BK327.out 1
        have hfz9_2 := blk_frozen BK327.out 2
        go_wp2
        go_meet
        case rel => exact ⟨_, (false), (by first | rfl | (simp; done) | (simp [*]; done)), H', ⟨by first | omega | exact Nat.le_refl _⟩, ⟨by (with_reducible repeat (first | refine blk_drewN ?_ _ | refine blk_drew ?_ | refine blk_alloc ?_ _)); exact BK327.out⟩, ⟨by repeat (first | (with_reducible first | exact HB.out | apply below_alloc | apply pw_below_drewN | apply below_drew1 | refine below_set ?_ GE327.out) | exact HB.out)⟩⟩
    · replace c6 := Bool.eq_false_iff.mpr c6
      subst c6
      have H1 : (regimenref29_Is.j0 k a0 a1 (decide (a0 ≥ a1)) false a2_1 a2_2) = some r := by rw [if_neg (show ¬ (false = true) by decide)] at H; exact H
      clear H
      have H := H1
      clear H1
      have H' := Aside0.mk H
      clear H
      have hcz10_0 : w5.cell? ⟨gb327, 0, none⟩ = some (.bool false) := (blk_cell BK327.out 0).trans rfl
      have hcz10_1 : w5.cell? ⟨gb327, 1, none⟩ = some (.int .i64 a2_1) := (blk_cell BK327.out 1).trans rfl
      have hcz10_2 : w5.cell? ⟨gb327, 2, none⟩ = some (.bool a2_2) := (blk_cell BK327.out 2).trans rfl
      have hfz10_0 := blk_frozen BK327.out 0
      have hfz10_1 := blk_frozen BK327.out 1
      have hfz10_2 := blk_frozen BK327.out 2
      go_wp2
      go_meet
      case rel => exact ⟨_, (decide (a0 ≥ a1)), (by first | rfl | (simp; done) | (simp [*]; done)), H', ⟨by first | omega | exact Nat.le_refl _⟩, ⟨by (with_reducible repeat (first | refine blk_drewN ?_ _ | refine blk_drew ?_ | refine blk_alloc ?_ _)); exact BK327.out⟩, ⟨by repeat (first | (with_reducible first | exact HB.out | apply below_alloc | apply pw_below_drewN | apply below_drew1 | refine below_set ?_ GE327.out) | exact HB.out)⟩⟩
  case rest =>
    clear HC4
    try clear c1
    try clear p2
    try clear c6
    try clear c7
    try clear c7b0
    try clear c7b1
    try clear hcz10_0
    try clear hcz10_1
    try clear hcz10_2
    try clear hcz8_0
    try clear hcz8_1
    try clear hcz8_2
    try clear hcz9_0
    try clear hcz9_1
    try clear hcz9_2
    try clear hfz10_0
    try clear hfz10_1
    try clear hfz10_2
    try clear hfz8_0
    try clear hfz8_1
    try clear hfz8_2
    try clear hfz9_0
    try clear hfz9_1
    try clear hfz9_2
    obtain ⟨kq, x25_3, rfl, HA, HJ3, BK327, HB⟩ := hcut
    cases kq with
    | zero => exact absurd HA.out (by simp [regimenref29_Is.j0])
    | succ kj3 =>
      have H := HA.out
      clear HA
      simp only [regimenref29_Is.j0] at H
      by_cases c11 : x25_3 = true
      · subst c11
        have H1 : (some false) = some r := by rw [if_pos rfl] at H; exact H
        clear H
        have H := H1
        clear H1
        obtain rfl := Option.some.inj H
        go_wp2
        go_ret
        exact ⟨by first | rfl | (simp [errW_none, errW_some] <;> rfl) | (simp [*, errW_none, errW_some] <;> rfl), by repeat (first | (with_reducible first | exact HB.out | apply below_alloc | apply pw_below_drewN | apply below_drew1 | refine below_set ?_ GE327.out) | exact HB.out)⟩
      · replace c11 := Bool.eq_false_iff.mpr c11
        subst c11
        have H1 : ((regimenref29_Gap.f kj3 a1 a2_0 a2_1 a2_2).bind fun bt328 => (if bt328.2 = true then ((regimenref07_Apart.f kj3 a0 a1).bind fun t330 => ((regimenref02_Size.f bt328.1).bind fun t333 => ((regimenref02_Cmp.f kj3 t330 t333).bind fun t336 => (some (decide (t336 > 0)))))) else (some false))) = some r := by rw [if_neg (show ¬ (false = true) by decide)] at H; exact H
        clear H
        have H := H1
        clear H1
        replace H := Option.bind_eq_some_iff.mp H
        obtain ⟨⟨t328, t329⟩, A120, H⟩ := H
        replace H : (if t329 = true then ((regimenref07_Apart.f kj3 a0 a1).bind fun t330 => ((regimenref02_Size.f t328).bind fun t333 => ((regimenref02_Cmp.f kj3 t330 t333).bind fun t336 => (some (decide (t336 > 0)))))) else (some false)) = some r := H
        have A12 := Aside0.mk A120
        clear A120
        by_cases c13 : t329 = true
        · subst c13
          have H1 : ((regimenref07_Apart.f kj3 a0 a1).bind fun t330 => ((regimenref02_Size.f t328).bind fun t333 => ((regimenref02_Cmp.f kj3 t330 t333).bind fun t336 => (some (decide (t336 > 0)))))) = some r := by rw [if_pos rfl] at H; exact H
          clear H
          have H := H1
          clear H1
          replace H := Option.bind_eq_some_iff.mp H
          obtain ⟨t330, A140, H⟩ := H
          replace H : ((regimenref02_Size.f t328).bind fun t333 => ((regimenref02_Cmp.f kj3 t330 t333).bind fun t336 => (some (decide (t336 > 0))))) = some r := H
          have A14 := Aside0.mk A140
          clear A140
          replace H := Option.bind_eq_some_iff.mp H
          obtain ⟨t333, A150, H⟩ := H
          replace H : ((regimenref02_Cmp.f kj3 t330 t333).bind fun t336 => (some (decide (t336 > 0)))) = some r := H
          have A15 := Aside0.mk A150
          clear A150
          replace H := Option.bind_eq_some_iff.mp H
          obtain ⟨t336, A160, H⟩ := H
          replace H : (some (decide (t336 > 0))) = some r := H
          have A16 := Aside0.mk A160
          clear A160
          obtain rfl := Option.some.inj H
          have hcz17_0 : wc.cell? ⟨gb327, 0, none⟩ = some (.bool a2_0) := (blk_cell BK327.out 0).trans rfl
          have hcz17_1 : wc.cell? ⟨gb327, 1, none⟩ = some (.int .i64 a2_1) := (blk_cell BK327.out 1).trans rfl
          have hcz17_2 : wc.cell? ⟨gb327, 2, none⟩ = some (.bool a2_2) := (blk_cell BK327.out 2).trans rfl
          have hfz17_0 := blk_frozen BK327.out 0
          have hfz17_1 := blk_frozen BK327.out 1
          have hfz17_2 := blk_frozen BK327.out 2
          go_wp2_with (first | ((with_reducible refine gate_callee (f := 50) rfl ?_); refine goesL_ (some 29) rfl rfl Try.func50 (by kernel_rfl) rfl #[.int .i64 a1, .agg #[.bool a2_0, .int .i64 a2_1, .bool a2_2]] rfl (by (try simp only [List.map_toArray, List.map_cons, List.map_nil]); first | done | rfl | (simp only [List.length_drop, List.length_take]; rfl)) ?_; (with_reducible refine (regimenref29_Gap.calls kj3 a1 a2_0 a2_1 a2_2 t328 true _ A12.out).mono ?_); rintro e w18 ⟨rfl, hb⟩; refine ⟨_, rfl, ?_⟩; have n0_ := Aside0.mk (blk_below (g := gb327) (o := .cells #[.bool a2_0, .int .i64 a2_1, .bool a2_2] 38 (0, 0)) (by (with_reducible repeat (first | refine blk_drewN ?_ _ | refine blk_drew ?_ | refine blk_alloc ?_ _)); exact BK327.out) hb); have n1_ := Aside0.mk (below_step (by repeat (first | (with_reducible first | exact HB.out | apply below_alloc | apply pw_below_drewN | apply below_drew1 | refine below_set ?_ GE327.out) | exact HB.out)) hb); clear BK327; clear HB; have BK327 := n0_; have HB := n1_; clear n0_ n1_; (try clear hb); (try clear hb2); (try clear hk); (try clear hi)) | (go_at_call 52; (with_reducible refine (regimenref07_Apart.calls kj3 a0 a1 t330 _ A14.out).mono ?_); rintro e w19 ⟨v331, rfl, ho0, hb⟩; have n0_ := Aside0.mk (Kd.R_lower ho0 (below_size (by repeat (first | (with_reducible first | exact HB.out | apply below_alloc | apply pw_below_drewN | apply below_drew1 | refine below_set ?_ GE327.out) | exact HB.out)))); have n1_ := Aside0.mk (blk_below (g := gb327) (o := .cells #[.bool a2_0, .int .i64 a2_1, .bool a2_2] 38 (0, 0)) (by (with_reducible repeat (first | refine blk_drewN ?_ _ | refine blk_drew ?_ | refine blk_alloc ?_ _)); exact BK327.out) hb); have n2_ := Aside0.mk (below_step (by repeat (first | (with_reducible first | exact HB.out | apply below_alloc | apply pw_below_drewN | apply below_drew1 | refine below_set ?_ GE327.out) | exact HB.out)) hb); clear BK327; clear HB; have HO332 := n0_; have BK327 := n1_; have HB := n2_; clear n0_ n1_ n2_; (try clear hb); (try clear hb2); (try clear hk); (try clear hi); (try clear ho0)) | (go_at_call 53; (with_reducible refine (regimenref02_Size.calls t328 t333 _ A15.out).mono ?_); rintro e w20 ⟨v334, rfl, ho0, hb⟩; have n0_ := Aside0.mk (Kd.R_elder' (by (with_reducible repeat (first | apply Kd.R_alloc | apply Kd.R_drewN | apply Kd.R_drew)); exact HO332.out) (Kd.R_base ho0) hb); have n1_ := Aside0.mk (Kd.R_lower (Kd.R_new' ho0 (Kd.R_lt (by (with_reducible repeat (first | apply Kd.R_alloc | apply Kd.R_drewN | apply Kd.R_drew)); exact HO332.out))) (below_size (by repeat (first | (with_reducible first | exact HB.out | apply below_alloc | apply pw_below_drewN | apply below_drew1 | refine below_set ?_ GE327.out) | exact HB.out)))); have n2_ := Aside0.mk (blk_below (g := gb327) (o := .cells #[.bool a2_0, .int .i64 a2_1, .bool a2_2] 38 (0, 0)) (by (with_reducible repeat (first | refine blk_drewN ?_ _ | refine blk_drew ?_ | refine blk_alloc ?_ _)); exact BK327.out) hb); have n3_ := Aside0.mk (below_step (by repeat (first | (with_reducible first | exact HB.out | apply below_alloc | apply pw_below_drewN | apply below_drew1 | refine below_set ?_ GE327.out) | exact HB.out)) hb); clear HO332; clear BK327; clear HB; have HO332 := n0_; have HO335 := n1_; have BK327 := n2_; have HB := n3_; clear n0_ n1_ n2_ n3_; (try clear hb); (try clear hb2); (try clear hk); (try clear hi); (try clear ho0); obtain ⟨Ao21, co21, eo21⟩ := Kd.R_slice HO332.out; subst eo21; obtain ⟨Ao22, co22, eo22⟩ := Kd.R_slice HO335.out; subst eo22) | (go_at_call 51; (with_reducible refine (regimenref02_Cmp.calls kj3 _ _ t330 _ _ t333 t336 _ ?side1 ?side2 ?side3 ?side4 A16.out).mono ?_); (case side1 => repeat (first | exact (Kd.R_reads' HO332.out).2.2 | (with_reducible refine Kd.C_alloc ?_ _) | (with_reducible refine Kd.C_drewN ?_ _) | (with_reducible refine Kd.C_drew ?_))); (case side2 => exact (Kd.R_reads' HO332.out).2.1); (case side3 => repeat (first | exact (Kd.R_reads' HO335.out).2.2 | (with_reducible refine Kd.C_alloc ?_ _) | (with_reducible refine Kd.C_drewN ?_ _) | (with_reducible refine Kd.C_drew ?_))); (case side4 => exact (Kd.R_reads' HO335.out).2.1); rintro e w' ⟨rfl, ⟨nd, rfl⟩⟩))
          go_ret
          exact ⟨by first | rfl | (simp [errW_none, errW_some] <;> rfl) | (simp [*, errW_none, errW_some] <;> rfl), by repeat (first | (with_reducible first | exact HB.out | apply below_alloc | apply pw_below_drewN | apply below_drew1 | refine below_set ?_ GE327.out) | exact HB.out)⟩
        · replace c13 := Bool.eq_false_iff.mpr c13
          subst c13
          have H1 : (some false) = some r := by rw [if_neg (show ¬ (false = true) by decide)] at H; exact H
          clear H
          have H := H1
          clear H1
          obtain rfl := Option.some.inj H
          have hcz23_0 : wc.cell? ⟨gb327, 0, none⟩ = some (.bool a2_0) := (blk_cell BK327.out 0).trans rfl
          have hcz23_1 : wc.cell? ⟨gb327, 1, none⟩ = some (.int .i64 a2_1) := (blk_cell BK327.out 1).trans rfl
          have hcz23_2 : wc.cell? ⟨gb327, 2, none⟩ = some (.bool a2_2) := (blk_cell BK327.out 2).trans rfl
          have hfz23_0 := blk_frozen BK327.out 0
          have hfz23_1 := blk_frozen BK327.out 1
          have hfz23_2 := blk_frozen BK327.out 2
          go_wp2_with (first | ((with_reducible refine gate_callee (f := 50) rfl ?_); refine goesL_ (some 29) rfl rfl Try.func50 (by kernel_rfl) rfl #[.int .i64 a1, .agg #[.bool a2_0, .int .i64 a2_1, .bool a2_2]] rfl (by (try simp only [List.map_toArray, List.map_cons, List.map_nil]); first | done | rfl | (simp only [List.length_drop, List.length_take]; rfl)) ?_; (with_reducible refine (regimenref29_Gap.calls kj3 a1 a2_0 a2_1 a2_2 t328 false _ A12.out).mono ?_); rintro e w24 ⟨rfl, hb⟩; refine ⟨_, rfl, ?_⟩; have n0_ := Aside0.mk (blk_below (g := gb327) (o := .cells #[.bool a2_0, .int .i64 a2_1, .bool a2_2] 38 (0, 0)) (by (with_reducible repeat (first | refine blk_drewN ?_ _ | refine blk_drew ?_ | refine blk_alloc ?_ _)); exact BK327.out) hb); have n1_ := Aside0.mk (below_step (by repeat (first | (with_reducible first | exact HB.out | apply below_alloc | apply pw_below_drewN | apply below_drew1 | refine below_set ?_ GE327.out) | exact HB.out)) hb); clear BK327; clear HB; have BK327 := n0_; have HB := n1_; clear n0_ n1_; (try clear hb); (try clear hb2); (try clear hk); (try clear hi)))
          go_ret
          exact ⟨by first | rfl | (simp [errW_none, errW_some] <;> rfl) | (simp [*, errW_none, errW_some] <;> rfl), by repeat (first | (with_reducible first | exact HB.out | apply below_alloc | apply pw_below_drewN | apply below_drew1 | refine below_set ?_ GE327.out) | exact HB.out)⟩

end Go.Proofs.Ytnmmhfpekeeedaa.PB
