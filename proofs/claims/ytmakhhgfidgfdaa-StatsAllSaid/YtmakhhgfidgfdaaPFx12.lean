/- Go functions of this seat as plain Lean functions, each with a proof that its call comes to just what that function says, wherever that function says anything: written by a program of this session. -/
import Derived.Test.YtmakhhgfidgfdaaPFx0
import Derived.Test.YtmakhhgfidgfdaaPFx1
import Derived.Test.YtmakhhgfidgfdaaPFx5
import Derived.Test.YtmakhhgfidgfdaaPFx9
import Derived.Test.YtmakhhgfidgfdaaPFx10
namespace Go.Proofs.Ytmakhhgfidgfdaa.PF
open Go.RowKit Go.Proofs.YtmakhhgfidgfdaaW.PrintWords Go.Proofs.YtmakhhgfidgfdaaW.PrintLast Go.Proofs.YtmakhhgfidgfdaaW.PrintMore
attribute [local go_sem] max2_int min2_int max_two min_two max_three min_three max_four min_four   -- for this text's walks alone
set_option linter.unusedVariables false
set_option linter.unusedSimpArgs false

attribute [local go_sem] idx63_1
attribute [local go_sem high] eqA58
/-! ### regimenlaw49_StatsAll: function 14 -/
mutual
def regimenlaw49_StatsAll.l0 : Nat → List (S89) → Int → Int → Option (Bool)
  | 0, _, _, _ => none
  | k + 1, x0, x1, x5 => if x5 < (x0.length : Int) then (if 0 ≤ x5 then (if (((rd_T89 x0 x5).f2).length : Int) > 30 then ((regimenlaw49_awake.f k).bind fun t420 => (some t420)) else (regimenlaw49_StatsAll.l0 k x0 x1 (wrap64 (x5 + 1)))) else (none)) else ((stats_All.f k x0).bind fun t421 => ((stats_Column.f k x0 x1).bind fun t424 => ((regimenref49_Column.f k x0 x1).bind fun t427 => ((regimenref01_Same.f k t424 t427).bind fun t430 => (if t430 = true then (if (x0.length : Int) = 0 then (if (t421.length : Int) = 0 then ((regimenlaw49_awake.f k).bind fun t431 => (some t431)) else (none)) else (if 0 < (x0.length : Int) then (if (t421.length : Int) = (((rd_T89 x0 0).f2).length : Int) then (regimenlaw49_StatsAll.l1 k x0 t421 0) else (none)) else (none))) else (none))))))
def regimenlaw49_StatsAll.l1 : Nat → List (S89) → List (S58) → Int → Option (Bool)
  | 0, _, _, _ => none
  | k + 1, x0, x6, x7 => if x7 < (x6.length : Int) then (if 0 ≤ x7 then ((regimenref49_Column.f k x0 x7).bind fun t435 => ((regimenref49_Of.f k t435).bind fun bt438 => (if (!(((rd_T58 x6 x7).f0) == bt438.1) || (!(((rd_T58 x6 x7).f1) == bt438.2.1) || (!(((rd_T58 x6 x7).f2) == bt438.2.2.1) || (!(((rd_T58 x6 x7).f3) == bt438.2.2.2.1) || (!(((rd_T58 x6 x7).f4) == bt438.2.2.2.2)))))) = true then (none) else (regimenlaw49_StatsAll.l1 k x0 x6 (wrap64 (x7 + 1)))))) else (none)) else ((regimenlaw49_awake.f k).bind fun t433 => (some t433))
end
def regimenlaw49_StatsAll.f (k : Nat) (l0 : List (S89)) (a1 : Int) : Option (Bool) := if (l0.length : Int) > 30 then ((regimenlaw49_awake.f k).bind fun t418 => (some t418)) else (regimenlaw49_StatsAll.l0 k l0 a1 0)
theorem regimenlaw49_StatsAll.mono_l : ∀ k, (∀ y0 y1 y2, LeO (regimenlaw49_StatsAll.l0 k y0 y1 y2) (regimenlaw49_StatsAll.l0 (k + 1) y0 y1 y2)) ∧ (∀ y0 y1 y2, LeO (regimenlaw49_StatsAll.l1 k y0 y1 y2) (regimenlaw49_StatsAll.l1 (k + 1) y0 y1 y2))
  | 0 => ⟨fun _ _ _ r h => by simp [regimenlaw49_StatsAll.l0] at h, fun _ _ _ r h => by simp [regimenlaw49_StatsAll.l1] at h⟩
  | k + 1 => by
    obtain ⟨ih0, ih1⟩ := regimenlaw49_StatsAll.mono_l k
    refine ⟨?_, ?_⟩
    · intro y0 y1 y2
      unfold regimenlaw49_StatsAll.l0
      repeat' first
      | (with_reducible exact ih0 _ _ _)
      | (with_reducible exact ih1 _ _ _)
      | (with_reducible exact regimenlaw49_awake.mono _)
      | (with_reducible exact regimenref01_Same.mono _ _ _)
      | (with_reducible exact regimenref49_Column.mono _ _ _)
      | (with_reducible exact regimenref49_Of.mono _ _)
      | (with_reducible exact stats_All.mono _ _)
      | (with_reducible exact stats_Column.mono _ _ _)
      | (with_reducible exact LeO.refl _)
      | (with_reducible exact LeO.none _)
      | (with_reducible refine LeO.ite ?_ ?_)
      | (with_reducible refine LeO.bind ?_ (fun _ => ?_))
      | exact ih0 _ _ _
      | exact ih1 _ _ _
      | exact regimenlaw49_awake.mono _
      | exact regimenref01_Same.mono _ _ _
      | exact regimenref49_Column.mono _ _ _
      | exact regimenref49_Of.mono _ _
      | exact stats_All.mono _ _
      | exact stats_Column.mono _ _ _
      | exact LeO.none _
      | refine LeO.ite ?_ ?_
      | refine LeO.bind ?_ (fun _ => ?_)
    · intro y0 y1 y2
      unfold regimenlaw49_StatsAll.l1
      repeat' first
      | (with_reducible exact ih0 _ _ _)
      | (with_reducible exact ih1 _ _ _)
      | (with_reducible exact regimenlaw49_awake.mono _)
      | (with_reducible exact regimenref01_Same.mono _ _ _)
      | (with_reducible exact regimenref49_Column.mono _ _ _)
      | (with_reducible exact regimenref49_Of.mono _ _)
      | (with_reducible exact stats_All.mono _ _)
      | (with_reducible exact stats_Column.mono _ _ _)
      | (with_reducible exact LeO.refl _)
      | (with_reducible exact LeO.none _)
      | (with_reducible refine LeO.ite ?_ ?_)
      | (with_reducible refine LeO.bind ?_ (fun _ => ?_))
      | exact ih0 _ _ _
      | exact ih1 _ _ _
      | exact regimenlaw49_awake.mono _
      | exact regimenref01_Same.mono _ _ _
      | exact regimenref49_Column.mono _ _ _
      | exact regimenref49_Of.mono _ _
      | exact stats_All.mono _ _
      | exact stats_Column.mono _ _ _
      | exact LeO.none _
      | refine LeO.ite ?_ ?_
      | refine LeO.bind ?_ (fun _ => ?_)
theorem regimenlaw49_StatsAll.mono : ∀ a0 a1 k, LeO (regimenlaw49_StatsAll.f k a0 a1) (regimenlaw49_StatsAll.f (k + 1) a0 a1) := by
  intro a0 a1 k
  obtain ⟨ih0, ih1⟩ := regimenlaw49_StatsAll.mono_l k
  unfold regimenlaw49_StatsAll.f
  repeat' first
      | (with_reducible exact ih0 _ _ _)
      | (with_reducible exact ih1 _ _ _)
      | (with_reducible exact regimenlaw49_awake.mono _)
      | (with_reducible exact regimenref01_Same.mono _ _ _)
      | (with_reducible exact regimenref49_Column.mono _ _ _)
      | (with_reducible exact regimenref49_Of.mono _ _)
      | (with_reducible exact stats_All.mono _ _)
      | (with_reducible exact stats_Column.mono _ _ _)
      | (with_reducible exact LeO.refl _)
      | (with_reducible exact LeO.none _)
      | (with_reducible refine LeO.ite ?_ ?_)
      | (with_reducible refine LeO.bind ?_ (fun _ => ?_))
      | exact ih0 _ _ _
      | exact ih1 _ _ _
      | exact regimenlaw49_awake.mono _
      | exact regimenref01_Same.mono _ _ _
      | exact regimenref49_Column.mono _ _ _
      | exact regimenref49_Of.mono _ _
      | exact stats_All.mono _ _
      | exact stats_Column.mono _ _ _
      | exact LeO.none _
      | refine LeO.ite ?_ ?_
      | refine LeO.bind ?_ (fun _ => ?_)
def regimenlaw49_StatsAll.T18 : Bool × List (List Nat × List Nat) := (true, [([], []), ([], []), ([0, 1], [0, 1]), ([2], [2]), ([], []), ([], []), ([4, 5], [4, 5]), ([6, 6], [6]), ([3, 7], [3, 7])])
def regimenlaw49_StatsAll.B18 : List Nat := [0, 0, 3, 7, 0, 0, 48, 112, 255]
theorem regimenlaw49_StatsAll.tab18 : rtab .any (opsOf Try.f14 18) = regimenlaw49_StatsAll.T18 := by kernel_rfl
theorem regimenlaw49_StatsAll.bits18 : waitsOk regimenlaw49_StatsAll.T18.2 regimenlaw49_StatsAll.B18 = true := by kernel_rfl
set_option maxHeartbeats 8000000 in
set_option maxRecDepth 100000 in
theorem regimenlaw49_StatsAll.calls (k : Nat) (A0 : Option Addr) (c0 : Nat) (l0 : List (S89)) (a1 : Int) (r : Bool) (w : World) (hr0 : Kd.C k89 w A0 l0.length l0) (hc0 : l0.length ≤ c0) (h : regimenlaw49_StatsAll.f k l0 a1 = some r) :
    Calls Try.prog 14 #[.slice A0 l0.length c0, .int .i64 a1] w fun e w' => e = .returned (.bool r) ∧ Below w.heap.size w w' := by
  have hu58 := Try.underlying58
  have HR0 := Aside0.mk hr0
  have HC0 := Aside0.mk hc0
  clear hr0 hc0
  have HB := Aside0.mk (Below.refl w.heap.size w)
  have H : (if (l0.length : Int) > 30 then ((regimenlaw49_awake.f k).bind fun t418 => (some t418)) else (regimenlaw49_StatsAll.l0 k l0 a1 0)) = some r := h
  clear h
  by_cases c3 : (l0.length : Int) > 30
  · rw [if_pos c3] at H
    have c3b0 : decide (30 < (l0.length : Int)) = true := decide_eq_true c3
    have c3b1 : decide (30 < l0.length) = true := decide_eq_true (by omega)
    clear c3
    replace H := Option.bind_eq_some_iff.mp H
    obtain ⟨t418, A40, H⟩ := H
    replace H : (some t418) = some r := H
    have A4 := Aside0.mk A40
    clear A40
    obtain rfl := Option.some.inj H
    go_enter Try.func14, Try.ntmps14
    go_wp2_with (first | ((with_reducible refine gate_callee (f := 38) rfl ?_); refine goesL_ (some 11) rfl rfl Try.func38 (by kernel_rfl) rfl #[] rfl (by (try simp only [List.map_toArray, List.map_cons, List.map_nil]); first | done | rfl | (simp only [List.length_drop, List.length_take]; rfl)) ?_; (with_reducible refine (regimenlaw49_awake.calls k  t418 _ A4.out).mono ?_); rintro e w5 ⟨rfl, hb⟩; refine ⟨_, rfl, ?_⟩; have n0_ := Aside0.mk (below_step (by repeat (first | (with_reducible first | exact HB.out | apply below_alloc | apply pw_below_drewN | apply below_drew1) | exact HB.out)) hb); clear HB; have HB := n0_; clear n0_; (try clear hb); (try clear hb2); (try clear hk); (try clear hi)))
    go_ret
    exact ⟨by first | rfl | (simp [errW_none, errW_some] <;> rfl) | (simp [*, errW_none, errW_some] <;> rfl), by repeat (first | (with_reducible first | exact HB.out | apply below_alloc | apply pw_below_drewN | apply below_drew1) | exact HB.out)⟩
  · rw [if_neg c3] at H
    have c3b0 : decide (30 < (l0.length : Int)) = false := decide_eq_false c3
    have c3b1 : decide (30 < l0.length) = false := decide_eq_false (by omega)
    clear c3
    have H' := Aside0.mk H
    clear H
    go_enter Try.func14, Try.ntmps14
    go_wp2
    go_loopg [5] k (fun kq v5 w' => ∃ (x5_1 : Int), v5 = .int .i64 x5_1 ∧ Aside0 (regimenlaw49_StatsAll.l0 kq l0 a1 x5_1 = some r) ∧ Aside0 (kq ≤ k) ∧ Aside0 (Below w.heap.size w w'))
    case atStart => exact ⟨(0), (by first | rfl | (simp; done) | (simp [*]; done)), H', ⟨Nat.le_refl _⟩, ⟨by repeat (first | (with_reducible first | exact HB.out | apply below_alloc | apply pw_below_drewN | apply below_drew1) | exact HB.out)⟩⟩
    case round =>
      clear H'
      try clear c1
      try clear p2
      try clear c3
      try clear c3b0
      try clear c3b1
      obtain ⟨x5_1, rfl, HA, HK1, HB⟩ := hrel
      cases gk with
      | zero => exact absurd HA.out (by simp [regimenlaw49_StatsAll.l0])
      | succ k1 =>
        have H := HA.out
        clear HA
        simp only [regimenlaw49_StatsAll.l0] at H
        by_cases c6 : x5_1 < (l0.length : Int)
        · rw [if_pos c6] at H
          have c6b0 : decide (x5_1 < (l0.length : Int)) = true := decide_eq_true c6
          clear c6
          by_cases c7 : 0 ≤ x5_1
          · rw [if_pos c7] at H
            have c7b0 : decide (0 ≤ x5_1) = true := decide_eq_true c7
            clear c7
            by_cases c8 : (((rd_T89 l0 x5_1).f2).length : Int) > 30
            · rw [if_pos c8] at H
              have c8b0 : decide (30 < (((rd_T89 l0 x5_1).f2).length : Int)) = true := decide_eq_true c8
              have c8b1 : decide (30 < ((rd_T89 l0 x5_1).f2).length) = true := decide_eq_true (by omega)
              clear c8
              replace H := Option.bind_eq_some_iff.mp H
              obtain ⟨t420, A90, H⟩ := H
              replace H : (some t420) = some r := H
              have A9 := Aside0.mk A90
              clear A90
              obtain rfl := Option.some.inj H
              have p419 : 0 ≤ (x5_1 : Int) := of_decide_eq_true (by first | (with_reducible assumption) | assumption)
              have q419 : x5_1 < (l0.length : Int) := of_decide_eq_true (by first | (with_reducible assumption) | assumption)
              obtain ⟨ad419, A419_2, c419_2, A419_3, c419_3, A419_4, c419_4, e419, hx419_0, hx419_1, hx419_2, hx419_3, hx419_4, hx419_5, hl419_2, hi419_2, hl419_3, hi419_3, hl419_4, hi419_4⟩ := at_T89 HR0.out x5_1 p419 q419
              cases e419
              replace hx419_0 := (HB.out.cell (World.block_lt_of_cell? w _ hx419_0)).trans hx419_0
              replace hx419_1 := (HB.out.cell (World.block_lt_of_cell? w _ hx419_1)).trans hx419_1
              replace hx419_2 := (HB.out.cell (World.block_lt_of_cell? w _ hx419_2)).trans hx419_2
              replace hx419_3 := (HB.out.cell (World.block_lt_of_cell? w _ hx419_3)).trans hx419_3
              replace hx419_4 := (HB.out.cell (World.block_lt_of_cell? w _ hx419_4)).trans hx419_4
              replace hx419_5 := (HB.out.cell (World.block_lt_of_cell? w _ hx419_5)).trans hx419_5
              have HR419_2 := Aside0.mk hi419_2
              have HC419_2 := Aside0.mk hl419_2
              clear hi419_2 hl419_2
              have HR419_3 := Aside0.mk hi419_3
              have HC419_3 := Aside0.mk hl419_3
              clear hi419_3 hl419_3
              have HR419_4 := Aside0.mk hi419_4
              have HC419_4 := Aside0.mk hl419_4
              clear hi419_4 hl419_4
              replace p419 := eq_true p419
              replace q419 := eq_true q419
              go_wp2_with (first | ((with_reducible refine gate_callee (f := 38) rfl ?_); refine goesL_ (some 25) rfl rfl Try.func38 (by kernel_rfl) rfl #[] rfl (by (try simp only [List.map_toArray, List.map_cons, List.map_nil]); first | done | rfl | (simp only [List.length_drop, List.length_take]; rfl)) ?_; (with_reducible refine (regimenlaw49_awake.calls k1  t420 _ A9.out).mono ?_); rintro e w10 ⟨rfl, hb⟩; refine ⟨_, rfl, ?_⟩; have n0_ := Aside0.mk (below_step (by repeat (first | (with_reducible first | exact HB.out | apply below_alloc | apply pw_below_drewN | apply below_drew1) | exact HB.out)) hb); clear HB; have HB := n0_; clear n0_; (try clear hb); (try clear hb2); (try clear hk); (try clear hi)))
              go_ret
              exact ⟨by first | rfl | (simp [errW_none, errW_some] <;> rfl) | (simp [*, errW_none, errW_some] <;> rfl), by repeat (first | (with_reducible first | exact HB.out | apply below_alloc | apply pw_below_drewN | apply below_drew1) | exact HB.out)⟩
            · rw [if_neg c8] at H
              have c8b0 : decide (30 < (((rd_T89 l0 x5_1).f2).length : Int)) = false := decide_eq_false c8
              have c8b1 : decide (30 < ((rd_T89 l0 x5_1).f2).length) = false := decide_eq_false (by omega)
              clear c8
              have H' := Aside0.mk H
              clear H
              have p419 : 0 ≤ (x5_1 : Int) := of_decide_eq_true (by first | (with_reducible assumption) | assumption)
              have q419 : x5_1 < (l0.length : Int) := of_decide_eq_true (by first | (with_reducible assumption) | assumption)
              obtain ⟨ad419, A419_2, c419_2, A419_3, c419_3, A419_4, c419_4, e419, hx419_0, hx419_1, hx419_2, hx419_3, hx419_4, hx419_5, hl419_2, hi419_2, hl419_3, hi419_3, hl419_4, hi419_4⟩ := at_T89 HR0.out x5_1 p419 q419
              cases e419
              replace hx419_0 := (HB.out.cell (World.block_lt_of_cell? w _ hx419_0)).trans hx419_0
              replace hx419_1 := (HB.out.cell (World.block_lt_of_cell? w _ hx419_1)).trans hx419_1
              replace hx419_2 := (HB.out.cell (World.block_lt_of_cell? w _ hx419_2)).trans hx419_2
              replace hx419_3 := (HB.out.cell (World.block_lt_of_cell? w _ hx419_3)).trans hx419_3
              replace hx419_4 := (HB.out.cell (World.block_lt_of_cell? w _ hx419_4)).trans hx419_4
              replace hx419_5 := (HB.out.cell (World.block_lt_of_cell? w _ hx419_5)).trans hx419_5
              have HR419_2 := Aside0.mk hi419_2
              have HC419_2 := Aside0.mk hl419_2
              clear hi419_2 hl419_2
              have HR419_3 := Aside0.mk hi419_3
              have HC419_3 := Aside0.mk hl419_3
              clear hi419_3 hl419_3
              have HR419_4 := Aside0.mk hi419_4
              have HC419_4 := Aside0.mk hl419_4
              clear hi419_4 hl419_4
              replace p419 := eq_true p419
              replace q419 := eq_true q419
              go_wp2
              go_roundg k1
              case measure => have := HK1.out; omega
              case rel => exact ⟨(wrap64 (x5_1 + 1)), (by first | rfl | (simp; done) | (simp [*]; done)), H', ⟨by have := HK1.out; omega⟩, ⟨by repeat (first | (with_reducible first | exact HB.out | apply below_alloc | apply pw_below_drewN | apply below_drew1) | exact HB.out)⟩⟩
          · rw [if_neg c7] at H
            exact absurd H (by simp)
        · rw [if_neg c6] at H
          have c6b0 : decide (x5_1 < (l0.length : Int)) = false := decide_eq_false c6
          clear c6
          replace H := Option.bind_eq_some_iff.mp H
          obtain ⟨t421, A110, H⟩ := H
          replace H : ((stats_Column.f k1 l0 a1).bind fun t424 => ((regimenref49_Column.f k1 l0 a1).bind fun t427 => ((regimenref01_Same.f k1 t424 t427).bind fun t430 => (if t430 = true then (if (l0.length : Int) = 0 then (if (t421.length : Int) = 0 then ((regimenlaw49_awake.f k1).bind fun t431 => (some t431)) else (none)) else (if 0 < (l0.length : Int) then (if (t421.length : Int) = (((rd_T89 l0 0).f2).length : Int) then (regimenlaw49_StatsAll.l1 k1 l0 t421 0) else (none)) else (none))) else (none))))) = some r := H
          have A11 := Aside0.mk A110
          clear A110
          replace H := Option.bind_eq_some_iff.mp H
          obtain ⟨t424, A120, H⟩ := H
          replace H : ((regimenref49_Column.f k1 l0 a1).bind fun t427 => ((regimenref01_Same.f k1 t424 t427).bind fun t430 => (if t430 = true then (if (l0.length : Int) = 0 then (if (t421.length : Int) = 0 then ((regimenlaw49_awake.f k1).bind fun t431 => (some t431)) else (none)) else (if 0 < (l0.length : Int) then (if (t421.length : Int) = (((rd_T89 l0 0).f2).length : Int) then (regimenlaw49_StatsAll.l1 k1 l0 t421 0) else (none)) else (none))) else (none)))) = some r := H
          have A12 := Aside0.mk A120
          clear A120
          replace H := Option.bind_eq_some_iff.mp H
          obtain ⟨t427, A130, H⟩ := H
          replace H : ((regimenref01_Same.f k1 t424 t427).bind fun t430 => (if t430 = true then (if (l0.length : Int) = 0 then (if (t421.length : Int) = 0 then ((regimenlaw49_awake.f k1).bind fun t431 => (some t431)) else (none)) else (if 0 < (l0.length : Int) then (if (t421.length : Int) = (((rd_T89 l0 0).f2).length : Int) then (regimenlaw49_StatsAll.l1 k1 l0 t421 0) else (none)) else (none))) else (none))) = some r := H
          have A13 := Aside0.mk A130
          clear A130
          replace H := Option.bind_eq_some_iff.mp H
          obtain ⟨t430, A140, H⟩ := H
          replace H : (if t430 = true then (if (l0.length : Int) = 0 then (if (t421.length : Int) = 0 then ((regimenlaw49_awake.f k1).bind fun t431 => (some t431)) else (none)) else (if 0 < (l0.length : Int) then (if (t421.length : Int) = (((rd_T89 l0 0).f2).length : Int) then (regimenlaw49_StatsAll.l1 k1 l0 t421 0) else (none)) else (none))) else (none)) = some r := H
          have A14 := Aside0.mk A140
          clear A140
          by_cases c15 : t430 = true
          · subst c15
            have H1 : (if (l0.length : Int) = 0 then (if (t421.length : Int) = 0 then ((regimenlaw49_awake.f k1).bind fun t431 => (some t431)) else (none)) else (if 0 < (l0.length : Int) then (if (t421.length : Int) = (((rd_T89 l0 0).f2).length : Int) then (regimenlaw49_StatsAll.l1 k1 l0 t421 0) else (none)) else (none))) = some r := by rw [if_pos rfl] at H; exact H
            clear H
            have H := H1
            clear H1
            by_cases c16 : (l0.length : Int) = 0
            · rw [if_pos c16] at H
              have c16b0 : ((l0.length : Int) == 0) = true := beq_iff_eq.mpr c16
              have c16b1 : ((l0.length : Int) != 0) = false := bne_eq_false_iff_eq.mpr c16
              clear c16
              by_cases c17 : (t421.length : Int) = 0
              · rw [if_pos c17] at H
                have c17b0 : ((t421.length : Int) == 0) = true := beq_iff_eq.mpr c17
                have c17b1 : ((t421.length : Int) != 0) = false := bne_eq_false_iff_eq.mpr c17
                clear c17
                replace H := Option.bind_eq_some_iff.mp H
                obtain ⟨t431, A180, H⟩ := H
                replace H : (some t431) = some r := H
                have A18 := Aside0.mk A180
                clear A180
                obtain rfl := Option.some.inj H
                go_wp2_with (first | ((with_reducible refine gate_callee (f := 52) rfl ?_); refine goesL_ (some 27) rfl rfl Try.func52 (by kernel_rfl) rfl #[.slice A0 l0.length c0] rfl (by (try simp only [List.map_toArray, List.map_cons, List.map_nil]); first | done | rfl | (simp only [List.length_drop, List.length_take]; rfl)) ?_; (with_reducible refine (stats_All.calls k1 _ _ l0 t421 _ ?side1 ?side2 A11.out).mono ?_); (case side1 => repeat (first | exact (Kd.C_below HR0.out HB.out) | (with_reducible refine Kd.C_alloc ?_ _) | (with_reducible refine Kd.C_drewN ?_ _) | (with_reducible refine Kd.C_drew ?_))); (case side2 => exact HC0.out); rintro e w19 ⟨v422, rfl, ho0, hb⟩; refine ⟨_, rfl, ?_⟩; have n0_ := Aside0.mk (Kd.R_lower ho0 (below_size (by repeat (first | (with_reducible first | exact HB.out | apply below_alloc | apply pw_below_drewN | apply below_drew1) | exact HB.out)))); have n1_ := Aside0.mk (below_step (by repeat (first | (with_reducible first | exact HB.out | apply below_alloc | apply pw_below_drewN | apply below_drew1) | exact HB.out)) hb); clear HB; have HO423 := n0_; have HB := n1_; clear n0_ n1_; (try clear hb); (try clear hb2); (try clear hk); (try clear hi); (try clear ho0)) | ((with_reducible refine gate_callee (f := 53) rfl ?_); refine goesL_ (some 30) rfl rfl Try.func53 (by kernel_rfl) rfl #[.slice A0 l0.length c0, .int .i64 a1] rfl (by (try simp only [List.map_toArray, List.map_cons, List.map_nil]); first | done | rfl | (simp only [List.length_drop, List.length_take]; rfl)) ?_; (with_reducible refine (stats_Column.calls k1 _ _ l0 a1 t424 _ ?side1 ?side2 A12.out).mono ?_); (case side1 => repeat (first | exact (Kd.C_below HR0.out HB.out) | (with_reducible refine Kd.C_alloc ?_ _) | (with_reducible refine Kd.C_drewN ?_ _) | (with_reducible refine Kd.C_drew ?_))); (case side2 => exact HC0.out); rintro e w20 ⟨v425, rfl, ho0, hb⟩; refine ⟨_, rfl, ?_⟩; have n0_ := Aside0.mk (Kd.R_below (by (with_reducible repeat (first | apply Kd.R_alloc | apply Kd.R_drewN | apply Kd.R_drew)); exact HO423.out) hb); have n1_ := Aside0.mk (Kd.R_lower ho0 (below_size (by repeat (first | (with_reducible first | exact HB.out | apply below_alloc | apply pw_below_drewN | apply below_drew1) | exact HB.out)))); have n2_ := Aside0.mk (below_step (by repeat (first | (with_reducible first | exact HB.out | apply below_alloc | apply pw_below_drewN | apply below_drew1) | exact HB.out)) hb); clear HO423; clear HB; have HO423 := n0_; have HO426 := n1_; have HB := n2_; clear n0_ n1_ n2_; (try clear hb); (try clear hb2); (try clear hk); (try clear hi); (try clear ho0)) | ((with_reducible refine gate_callee (f := 54) rfl ?_); refine goesL_ (some 33) rfl rfl Try.func54 (by kernel_rfl) rfl #[.slice A0 l0.length c0, .int .i64 a1] rfl (by (try simp only [List.map_toArray, List.map_cons, List.map_nil]); first | done | rfl | (simp only [List.length_drop, List.length_take]; rfl)) ?_; (with_reducible refine (regimenref49_Column.calls k1 _ _ l0 a1 t427 _ ?side1 ?side2 A13.out).mono ?_); (case side1 => repeat (first | exact (Kd.C_below HR0.out HB.out) | (with_reducible refine Kd.C_alloc ?_ _) | (with_reducible refine Kd.C_drewN ?_ _) | (with_reducible refine Kd.C_drew ?_))); (case side2 => exact HC0.out); rintro e w21 ⟨v428, rfl, ho0, hb⟩; refine ⟨_, rfl, ?_⟩; have n0_ := Aside0.mk (Kd.R_below (by (with_reducible repeat (first | apply Kd.R_alloc | apply Kd.R_drewN | apply Kd.R_drew)); exact HO423.out) hb); have n1_ := Aside0.mk (Kd.R_elder' (by (with_reducible repeat (first | apply Kd.R_alloc | apply Kd.R_drewN | apply Kd.R_drew)); exact HO426.out) (Kd.R_base ho0) hb); have n2_ := Aside0.mk (Kd.R_lower (Kd.R_new' ho0 (Kd.R_lt (by (with_reducible repeat (first | apply Kd.R_alloc | apply Kd.R_drewN | apply Kd.R_drew)); exact HO426.out))) (below_size (by repeat (first | (with_reducible first | exact HB.out | apply below_alloc | apply pw_below_drewN | apply below_drew1) | exact HB.out)))); have n3_ := Aside0.mk (below_step (by repeat (first | (with_reducible first | exact HB.out | apply below_alloc | apply pw_below_drewN | apply below_drew1) | exact HB.out)) hb); clear HO423; clear HO426; clear HB; have HO423 := n0_; have HO426 := n1_; have HO429 := n2_; have HB := n3_; clear n0_ n1_ n2_ n3_; (try clear hb); (try clear hb2); (try clear hk); (try clear hi); (try clear ho0); obtain ⟨Ao22, co22, eo22⟩ := Kd.R_slice HO426.out; subst eo22; obtain ⟨Ao23, co23, eo23⟩ := Kd.R_slice HO429.out; subst eo23) | ((with_reducible refine gate_callee (f := 22) rfl ?_); refine goesL_ (some 34) rfl rfl Try.func22 (by kernel_rfl) rfl #[.slice Ao22 t424.length co22, .slice Ao23 t427.length co23] rfl (by (try simp only [List.map_toArray, List.map_cons, List.map_nil]); first | done | rfl | (simp only [List.length_drop, List.length_take]; rfl)) ?_; (with_reducible refine (regimenref01_Same.calls k1 _ _ t424 _ _ t427 true _ ?side1 ?side2 ?side3 ?side4 A14.out).mono ?_); (case side1 => repeat (first | exact (Kd.R_reads' HO426.out).2.2 | (with_reducible refine Kd.C_alloc ?_ _) | (with_reducible refine Kd.C_drewN ?_ _) | (with_reducible refine Kd.C_drew ?_))); (case side2 => exact (Kd.R_reads' HO426.out).2.1); (case side3 => repeat (first | exact (Kd.R_reads' HO429.out).2.2 | (with_reducible refine Kd.C_alloc ?_ _) | (with_reducible refine Kd.C_drewN ?_ _) | (with_reducible refine Kd.C_drew ?_))); (case side4 => exact (Kd.R_reads' HO429.out).2.1); rintro e w' ⟨rfl, ⟨nd, rfl⟩⟩; refine ⟨_, rfl, ?_⟩; obtain ⟨Ao24, co24, eo24⟩ := Kd.R_slice HO423.out; subst eo24) | (go_at_call 38; (with_reducible refine (regimenlaw49_awake.calls k1  t431 _ A18.out).mono ?_); rintro e w25 ⟨rfl, hb⟩; have n0_ := Aside0.mk (Kd.R_below (by (with_reducible repeat (first | apply Kd.R_alloc | apply Kd.R_drewN | apply Kd.R_drew)); exact HO423.out) hb); have n1_ := Aside0.mk (Kd.R_below (by (with_reducible repeat (first | apply Kd.R_alloc | apply Kd.R_drewN | apply Kd.R_drew)); exact HO426.out) hb); have n2_ := Aside0.mk (Kd.R_below (by (with_reducible repeat (first | apply Kd.R_alloc | apply Kd.R_drewN | apply Kd.R_drew)); exact HO429.out) hb); have n3_ := Aside0.mk (below_step (by repeat (first | (with_reducible first | exact HB.out | apply below_alloc | apply pw_below_drewN | apply below_drew1) | exact HB.out)) hb); clear HO423; clear HO426; clear HO429; clear HB; have HO423 := n0_; have HO426 := n1_; have HO429 := n2_; have HB := n3_; clear n0_ n1_ n2_ n3_; (try clear hb); (try clear hb2); (try clear hk); (try clear hi)))
                go_ret
                exact ⟨by first | rfl | (simp [errW_none, errW_some] <;> rfl) | (simp [*, errW_none, errW_some] <;> rfl), by repeat (first | (with_reducible first | exact HB.out | apply below_alloc | apply pw_below_drewN | apply below_drew1) | exact HB.out)⟩
              · rw [if_neg c17] at H
                exact absurd H (by simp)
            · rw [if_neg c16] at H
              have c16b0 : ((l0.length : Int) == 0) = false := beq_eq_false_iff_ne.mpr c16
              have c16b1 : ((l0.length : Int) != 0) = true := bne_iff_ne.mpr c16
              have c16b2 : ¬ (l0 = []) := fun h_ => c16 (by rw [h_]; rfl)
              by_cases c26 : 0 < (l0.length : Int)
              · rw [if_pos c26] at H
                have c26b0 : decide (0 < (l0.length : Int)) = true := decide_eq_true c26
                have c26b1 : decide (0 < l0.length) = true := decide_eq_true (by omega)
                clear c26
                by_cases c27 : (t421.length : Int) = (((rd_T89 l0 0).f2).length : Int)
                · rw [if_pos c27] at H
                  have c27b0 : ((t421.length : Int) == (((rd_T89 l0 0).f2).length : Int)) = true := beq_iff_eq.mpr c27
                  have c27b1 : ((t421.length : Int) != (((rd_T89 l0 0).f2).length : Int)) = false := bne_eq_false_iff_eq.mpr c27
                  have c27b2 : (t421.length == ((rd_T89 l0 0).f2).length) = true := by first | simpa using c27 | (simp at c27 ⊢; omega)
                  clear c27
                  have H' := Aside0.mk H
                  clear H
                  go_wp2_with (first | ((with_reducible refine gate_callee (f := 52) rfl ?_); refine goesL_ (some 27) rfl rfl Try.func52 (by kernel_rfl) rfl #[.slice A0 l0.length c0] rfl (by (try simp only [List.map_toArray, List.map_cons, List.map_nil]); first | done | rfl | (simp only [List.length_drop, List.length_take]; rfl)) ?_; (with_reducible refine (stats_All.calls k1 _ _ l0 t421 _ ?side1 ?side2 A11.out).mono ?_); (case side1 => repeat (first | exact (Kd.C_below HR0.out HB.out) | (with_reducible refine Kd.C_alloc ?_ _) | (with_reducible refine Kd.C_drewN ?_ _) | (with_reducible refine Kd.C_drew ?_))); (case side2 => exact HC0.out); rintro e w28 ⟨v422, rfl, ho0, hb⟩; refine ⟨_, rfl, ?_⟩; have n0_ := Aside0.mk (Kd.R_lower ho0 (below_size (by repeat (first | (with_reducible first | exact HB.out | apply below_alloc | apply pw_below_drewN | apply below_drew1) | exact HB.out)))); have n1_ := Aside0.mk (below_step (by repeat (first | (with_reducible first | exact HB.out | apply below_alloc | apply pw_below_drewN | apply below_drew1) | exact HB.out)) hb); clear HB; have HO423 := n0_; have HB := n1_; clear n0_ n1_; (try clear hb); (try clear hb2); (try clear hk); (try clear hi); (try clear ho0)) | ((with_reducible refine gate_callee (f := 53) rfl ?_); refine goesL_ (some 30) rfl rfl Try.func53 (by kernel_rfl) rfl #[.slice A0 l0.length c0, .int .i64 a1] rfl (by (try simp only [List.map_toArray, List.map_cons, List.map_nil]); first | done | rfl | (simp only [List.length_drop, List.length_take]; rfl)) ?_; (with_reducible refine (stats_Column.calls k1 _ _ l0 a1 t424 _ ?side1 ?side2 A12.out).mono ?_); (case side1 => repeat (first | exact (Kd.C_below HR0.out HB.out) | (with_reducible refine Kd.C_alloc ?_ _) | (with_reducible refine Kd.C_drewN ?_ _) | (with_reducible refine Kd.C_drew ?_))); (case side2 => exact HC0.out); rintro e w29 ⟨v425, rfl, ho0, hb⟩; refine ⟨_, rfl, ?_⟩; have n0_ := Aside0.mk (Kd.R_below (by (with_reducible repeat (first | apply Kd.R_alloc | apply Kd.R_drewN | apply Kd.R_drew)); exact HO423.out) hb); have n1_ := Aside0.mk (Kd.R_lower ho0 (below_size (by repeat (first | (with_reducible first | exact HB.out | apply below_alloc | apply pw_below_drewN | apply below_drew1) | exact HB.out)))); have n2_ := Aside0.mk (below_step (by repeat (first | (with_reducible first | exact HB.out | apply below_alloc | apply pw_below_drewN | apply below_drew1) | exact HB.out)) hb); clear HO423; clear HB; have HO423 := n0_; have HO426 := n1_; have HB := n2_; clear n0_ n1_ n2_; (try clear hb); (try clear hb2); (try clear hk); (try clear hi); (try clear ho0)) | ((with_reducible refine gate_callee (f := 54) rfl ?_); refine goesL_ (some 33) rfl rfl Try.func54 (by kernel_rfl) rfl #[.slice A0 l0.length c0, .int .i64 a1] rfl (by (try simp only [List.map_toArray, List.map_cons, List.map_nil]); first | done | rfl | (simp only [List.length_drop, List.length_take]; rfl)) ?_; (with_reducible refine (regimenref49_Column.calls k1 _ _ l0 a1 t427 _ ?side1 ?side2 A13.out).mono ?_); (case side1 => repeat (first | exact (Kd.C_below HR0.out HB.out) | (with_reducible refine Kd.C_alloc ?_ _) | (with_reducible refine Kd.C_drewN ?_ _) | (with_reducible refine Kd.C_drew ?_))); (case side2 => exact HC0.out); rintro e w30 ⟨v428, rfl, ho0, hb⟩; refine ⟨_, rfl, ?_⟩; have n0_ := Aside0.mk (Kd.R_below (by (with_reducible repeat (first | apply Kd.R_alloc | apply Kd.R_drewN | apply Kd.R_drew)); exact HO423.out) hb); have n1_ := Aside0.mk (Kd.R_elder' (by (with_reducible repeat (first | apply Kd.R_alloc | apply Kd.R_drewN | apply Kd.R_drew)); exact HO426.out) (Kd.R_base ho0) hb); have n2_ := Aside0.mk (Kd.R_lower (Kd.R_new' ho0 (Kd.R_lt (by (with_reducible repeat (first | apply Kd.R_alloc | apply Kd.R_drewN | apply Kd.R_drew)); exact HO426.out))) (below_size (by repeat (first | (with_reducible first | exact HB.out | apply below_alloc | apply pw_below_drewN | apply below_drew1) | exact HB.out)))); have n3_ := Aside0.mk (below_step (by repeat (first | (with_reducible first | exact HB.out | apply below_alloc | apply pw_below_drewN | apply below_drew1) | exact HB.out)) hb); clear HO423; clear HO426; clear HB; have HO423 := n0_; have HO426 := n1_; have HO429 := n2_; have HB := n3_; clear n0_ n1_ n2_ n3_; (try clear hb); (try clear hb2); (try clear hk); (try clear hi); (try clear ho0); obtain ⟨Ao31, co31, eo31⟩ := Kd.R_slice HO426.out; subst eo31; obtain ⟨Ao32, co32, eo32⟩ := Kd.R_slice HO429.out; subst eo32) | ((with_reducible refine gate_callee (f := 22) rfl ?_); refine goesL_ (some 34) rfl rfl Try.func22 (by kernel_rfl) rfl #[.slice Ao31 t424.length co31, .slice Ao32 t427.length co32] rfl (by (try simp only [List.map_toArray, List.map_cons, List.map_nil]); first | done | rfl | (simp only [List.length_drop, List.length_take]; rfl)) ?_; (with_reducible refine (regimenref01_Same.calls k1 _ _ t424 _ _ t427 true _ ?side1 ?side2 ?side3 ?side4 A14.out).mono ?_); (case side1 => repeat (first | exact (Kd.R_reads' HO426.out).2.2 | (with_reducible refine Kd.C_alloc ?_ _) | (with_reducible refine Kd.C_drewN ?_ _) | (with_reducible refine Kd.C_drew ?_))); (case side2 => exact (Kd.R_reads' HO426.out).2.1); (case side3 => repeat (first | exact (Kd.R_reads' HO429.out).2.2 | (with_reducible refine Kd.C_alloc ?_ _) | (with_reducible refine Kd.C_drewN ?_ _) | (with_reducible refine Kd.C_drew ?_))); (case side4 => exact (Kd.R_reads' HO429.out).2.1); rintro e w' ⟨rfl, ⟨nd, rfl⟩⟩; refine ⟨_, rfl, ?_⟩; obtain ⟨Ao33, co33, eo33⟩ := Kd.R_slice HO423.out; subst eo33; have p432 : 0 ≤ (0 : Int) := (by omega); have q432 : 0 < (l0.length : Int) := of_decide_eq_true (by first | (with_reducible assumption) | assumption); obtain ⟨ad432, A432_2, c432_2, A432_3, c432_3, A432_4, c432_4, e432, hx432_0, hx432_1, hx432_2, hx432_3, hx432_4, hx432_5, hl432_2, hi432_2, hl432_3, hi432_3, hl432_4, hi432_4⟩ := at_T89 HR0.out 0 p432 q432; cases e432; have qi432 : (0 < l0.length) = True := eq_true (by omega); (try rw [show ((0 : Int)).toNat = 0 from rfl] at hx432_0); (try rw [show 0 * 6 = 0 from rfl] at hx432_0); (try rw [Addr.add_zero'] at hx432_0); (try rw [show ((0 : Int)).toNat = 0 from rfl] at hx432_1); (try rw [show 0 * 6 = 0 from rfl] at hx432_1); (try rw [Addr.add_zero'] at hx432_1); (try rw [show ((0 : Int)).toNat = 0 from rfl] at hx432_2); (try rw [show 0 * 6 = 0 from rfl] at hx432_2); (try rw [Addr.add_zero'] at hx432_2); (try rw [show ((0 : Int)).toNat = 0 from rfl] at hx432_3); (try rw [show 0 * 6 = 0 from rfl] at hx432_3); (try rw [Addr.add_zero'] at hx432_3); (try rw [show ((0 : Int)).toNat = 0 from rfl] at hx432_4); (try rw [show 0 * 6 = 0 from rfl] at hx432_4); (try rw [Addr.add_zero'] at hx432_4); (try rw [show ((0 : Int)).toNat = 0 from rfl] at hx432_5); (try rw [show 0 * 6 = 0 from rfl] at hx432_5); (try rw [Addr.add_zero'] at hx432_5); replace hx432_0 := (HB.out.cell (World.block_lt_of_cell? w _ hx432_0)).trans hx432_0; replace hx432_1 := (HB.out.cell (World.block_lt_of_cell? w _ hx432_1)).trans hx432_1; replace hx432_2 := (HB.out.cell (World.block_lt_of_cell? w _ hx432_2)).trans hx432_2; replace hx432_3 := (HB.out.cell (World.block_lt_of_cell? w _ hx432_3)).trans hx432_3; replace hx432_4 := (HB.out.cell (World.block_lt_of_cell? w _ hx432_4)).trans hx432_4; replace hx432_5 := (HB.out.cell (World.block_lt_of_cell? w _ hx432_5)).trans hx432_5; have HR432_2 := Aside0.mk hi432_2; have HC432_2 := Aside0.mk hl432_2; clear hi432_2 hl432_2; have HR432_3 := Aside0.mk hi432_3; have HC432_3 := Aside0.mk hl432_3; clear hi432_3 hl432_3; have HR432_4 := Aside0.mk hi432_4; have HC432_4 := Aside0.mk hl432_4; clear hi432_4 hl432_4; replace p432 := eq_true p432; replace q432 := eq_true q432))
                  go_loopg [7] k1 (fun kq v7 w' => ∃ (x7_2 : Int), v7 = .int .i64 x7_2 ∧ Aside0 (regimenlaw49_StatsAll.l1 kq l0 t421 x7_2 = some r) ∧ Aside0 (kq ≤ k1) ∧ Aside0 (Kd.R k58 58 w' w.heap.size (fun _ => True) (.slice Ao33 t421.length co33) t421) ∧ Aside0 (Below w.heap.size w w'))
                  case atStart => exact ⟨(0), (by first | rfl | (simp; done) | (simp [*]; done)), H', ⟨Nat.le_refl _⟩, ⟨by (with_reducible repeat (first | apply Kd.R_alloc | apply Kd.R_drewN | apply Kd.R_drew)); exact HO423.out⟩, ⟨by repeat (first | (with_reducible first | exact HB.out | apply below_alloc | apply pw_below_drewN | apply below_drew1) | exact HB.out)⟩⟩
                  case round =>
                    clear H'
                    try clear c1
                    try clear c2
                    try clear p2
                    try clear c3
                    try clear c3b0
                    try clear c3b1
                    try clear c4
                    try clear p4
                    try clear q4
                    try clear hx4
                    try clear qi4
                    try clear c5
                    try clear c6
                    try clear c6b0
                    try clear p6
                    try clear c7
                    try clear c7b0
                    try clear c8
                    try clear c8b0
                    try clear c8b1
                    try clear c14
                    try clear c15
                    try clear c16
                    try clear c16b0
                    try clear c16b1
                    try clear c16b2
                    try clear c17
                    try clear c17b0
                    try clear c17b1
                    try clear c22
                    try clear c26
                    try clear c26b0
                    try clear c26b1
                    try clear c27
                    try clear c27b0
                    try clear c27b1
                    try clear c27b2
                    try clear hx419_0
                    try clear hx419_1
                    try clear hx419_2
                    try clear hx419_3
                    try clear hx419_4
                    try clear hx419_5
                    try clear hx432_0
                    try clear hx432_1
                    try clear hx432_2
                    try clear hx432_3
                    try clear hx432_4
                    try clear hx432_5
                    try clear p2
                    try clear p419
                    try clear p432
                    try clear q419
                    try clear q432
                    obtain ⟨x7_2, rfl, HA, HK2, HO_6, HB⟩ := hrel
                    cases gk with
                    | zero => exact absurd HA.out (by simp [regimenlaw49_StatsAll.l1])
                    | succ k2 =>
                      have H := HA.out
                      clear HA
                      simp only [regimenlaw49_StatsAll.l1] at H
                      by_cases c34 : x7_2 < (t421.length : Int)
                      · rw [if_pos c34] at H
                        have c34b0 : decide (x7_2 < (t421.length : Int)) = true := decide_eq_true c34
                        clear c34
                        by_cases c35 : 0 ≤ x7_2
                        · rw [if_pos c35] at H
                          have c35b0 : decide (0 ≤ x7_2) = true := decide_eq_true c35
                          clear c35
                          replace H := Option.bind_eq_some_iff.mp H
                          obtain ⟨t435, A360, H⟩ := H
                          replace H : ((regimenref49_Of.f k2 t435).bind fun bt438 => (if (!(((rd_T58 t421 x7_2).f0) == bt438.1) || (!(((rd_T58 t421 x7_2).f1) == bt438.2.1) || (!(((rd_T58 t421 x7_2).f2) == bt438.2.2.1) || (!(((rd_T58 t421 x7_2).f3) == bt438.2.2.2.1) || (!(((rd_T58 t421 x7_2).f4) == bt438.2.2.2.2)))))) = true then (none) else (regimenlaw49_StatsAll.l1 k2 l0 t421 (wrap64 (x7_2 + 1))))) = some r := H
                          have A36 := Aside0.mk A360
                          clear A360
                          replace H := Option.bind_eq_some_iff.mp H
                          obtain ⟨⟨t438, t439, t440, t441, t442⟩, A370, H⟩ := H
                          replace H : (if (!(((rd_T58 t421 x7_2).f0) == t438) || (!(((rd_T58 t421 x7_2).f1) == t439) || (!(((rd_T58 t421 x7_2).f2) == t440) || (!(((rd_T58 t421 x7_2).f3) == t441) || (!(((rd_T58 t421 x7_2).f4) == t442)))))) = true then (none) else (regimenlaw49_StatsAll.l1 k2 l0 t421 (wrap64 (x7_2 + 1)))) = some r := H
                          have A37 := Aside0.mk A370
                          clear A370
                          by_cases c38 : (!(((rd_T58 t421 x7_2).f0) == t438) || (!(((rd_T58 t421 x7_2).f1) == t439) || (!(((rd_T58 t421 x7_2).f2) == t440) || (!(((rd_T58 t421 x7_2).f3) == t441) || (!(((rd_T58 t421 x7_2).f4) == t442)))))) = true
                          · rw [if_pos c38] at H
                            exact absurd H (by simp)
                          · rw [if_neg c38] at H
                            have c38b0 : (!(((rd_T58 t421 x7_2).f0) == t438) || (!(((rd_T58 t421 x7_2).f1) == t439) || (!(((rd_T58 t421 x7_2).f2) == t440) || (!(((rd_T58 t421 x7_2).f3) == t441) || (!(((rd_T58 t421 x7_2).f4) == t442)))))) = false := by simpa using c38
                            clear c38
                            have H' := Aside0.mk H
                            clear H
                            try go_wp2
                            have n0_ := Aside0.mk (Kd.R_drew HO_6.out)
                            have n1_ := Aside0.mk (below_drew1 HB.out)
                            clear HO_6
                            clear HB
                            have HO_6 := n0_
                            have HB := n1_
                            clear n0_ n1_
                            have p434 : 0 ≤ (x7_2 : Int) := of_decide_eq_true (by first | (with_reducible assumption) | assumption)
                            have q434 : x7_2 < (t421.length : Int) := of_decide_eq_true (by first | (with_reducible assumption) | assumption)
                            obtain ⟨ad434, e434, hx434_0, hx434_1, hx434_2, hx434_3, hx434_4⟩ := at_T58 (Kd.R_reads' HO_6.out).2.2 x7_2 p434 q434
                            cases e434
                            replace p434 := eq_true p434
                            replace q434 := eq_true q434
                            refine start_ (n := 9) (S := fun w' => w'.cell? (ad434.add ((x7_2).toNat * 5)) = some (.int .i64 ((rd_T58 t421 x7_2).f0)) ∧ w'.cell? ⟨(ad434.add ((x7_2).toNat * 5)).block, (ad434.add ((x7_2).toNat * 5)).off + 1, none⟩ = some (.int .i64 ((rd_T58 t421 x7_2).f1)) ∧ w'.cell? ⟨(ad434.add ((x7_2).toNat * 5)).block, (ad434.add ((x7_2).toNat * 5)).off + 2, none⟩ = some (.int .i64 ((rd_T58 t421 x7_2).f2)) ∧ w'.cell? ⟨(ad434.add ((x7_2).toNat * 5)).block, (ad434.add ((x7_2).toNat * 5)).off + 3, none⟩ = some (.int .i64 ((rd_T58 t421 x7_2).f3)) ∧ w'.cell? ⟨(ad434.add ((x7_2).toNat * 5)).block, (ad434.add ((x7_2).toNat * 5)).off + 4, none⟩ = some (.int .i64 ((rd_T58 t421 x7_2).f4))) (ds := []) #[false, false, false, false, false, false, false, false, false] (by kernel_rfl) rfl rfl ⟨hx434_0, hx434_1, hx434_2, hx434_3, hx434_4⟩ (fun hHeld => ?_); refine with_tabW regimenlaw49_StatsAll.tab18 regimenlaw49_StatsAll.bits18 (fun HT_ HW_ => ?_)
                            generalize wr.drew = w39 at HO_6 HB hx434_0 hx434_1 hx434_2 hx434_3 hx434_4 hHeld ⊢
                            refine pure_ (i := 0) (N := some 59) (v := ?_) (a' := ?_) #[true, false, false, false, false, false, false, false, false] rfl rfl (any_of HT_.out (by kernel_rfl)) (fun _ _ _ h => h) (Or.inl ⟨by rfl, ?_⟩) ?_ ?_
                            rotate_left
                            · intro w'
                              go_simp
                              with_reducible rfl
                            rotate_left
                            · simp only [Act.put, List.setIfInBounds_toArray, List.set_cons_zero, List.set_cons_succ, i64_w, i32_w]
                              rfl
                            refine pure_ (i := 1) (N := some 60) (v := ?_) (a' := ?_) #[true, true, false, false, false, false, false, false, false] rfl rfl (any_of HT_.out (by kernel_rfl)) (fun _ _ _ h => h) (Or.inl ⟨by rfl, ?_⟩) ?_ ?_
                            rotate_left
                            · intro w'
                              go_simp
                              with_reducible rfl
                            rotate_left
                            · simp only [Act.put, List.setIfInBounds_toArray, List.set_cons_zero, List.set_cons_succ, i64_w, i32_w]
                              rfl
                            refine pure_ (i := 2) (N := some 61) (v := ?_) (a' := ?_) #[true, true, true, false, false, false, false, false, false] rfl rfl (any_of HT_.out (by kernel_rfl)) (fun _ _ _ h => h) (Or.inl ⟨by rfl, ?_⟩) ?_ ?_
                            rotate_left
                            · intro w'
                              go_simp
                              with_reducible rfl
                            rotate_left
                            · simp only [Act.put, List.setIfInBounds_toArray, List.set_cons_zero, List.set_cons_succ, i64_w, i32_w]
                              rfl
                            refine pure_ (i := 4) (N := some 63) (v := ?_) (a' := ?_) #[true, true, true, false, true, false, false, false, false] rfl rfl (any_of HT_.out (by kernel_rfl)) (fun _ _ _ h => h) (Or.inl ⟨by rfl, ?_⟩) ?_ ?_
                            rotate_left
                            · intro w'
                              go_simp
                              with_reducible rfl
                            rotate_left
                            · simp only [Act.put, List.setIfInBounds_toArray, List.set_cons_zero, List.set_cons_succ, i64_w, i32_w]
                              rfl
                            refine pure_ (i := 5) (N := some 64) (v := ?_) (a' := ?_) #[true, true, true, false, true, true, false, false, false] rfl rfl (any_of HT_.out (by kernel_rfl)) (fun _ _ _ h => h) (Or.inl ⟨by rfl, ?_⟩) ?_ ?_
                            rotate_left
                            · intro w'
                              go_simp
                              with_reducible rfl
                            rotate_left
                            · simp only [Act.put, List.setIfInBounds_toArray, List.set_cons_zero, List.set_cons_succ, i64_w, i32_w]
                              rfl
                            refine take_ (i := 3) (N := some 62) (v := ?_) (a' := ?_) #[true, true, true, true, true, true, false, false, false] rfl rfl (take_ofW HT_.out HW_.out (by kernel_rfl)) (fun _ _ _ h => h) (Or.inl ⟨by rfl, ?_⟩) hHeld ?_ ?_
                            rotate_left
                            · rintro w' ⟨s0, s1, s2, s3, s4⟩
                              go_simp
                              with_reducible rfl
                            rotate_left
                            · simp only [Act.put, List.setIfInBounds_toArray, List.set_cons_zero, List.set_cons_succ, i64_w, i32_w]
                              rfl
                            refine one_ (i := 6) (N := some 65) #[true, true, true, true, true, true, true, false, false] rfl rfl (one_of HT_.out (by kernel_rfl)) (by decide) (fun K hK => ?_)
                            refine goes_ Try.func54 (by kernel_rfl) rfl #[.slice (some ad432) l0.length c0, .int .i64 x7_2] (by rfl) rfl rfl (by (try simp only [List.map_toArray, List.map_cons, List.map_nil]); first | done | rfl | (simp only [List.length_drop, List.length_take]; rfl)) ?_
                            with_reducible refine (regimenref49_Column.calls k2 _ _ l0 x7_2 t435 _ ?side1 ?side2 A36.out).mono ?_
                            (case side1 => repeat (first | exact (Kd.C_below HR0.out HB.out) | (with_reducible refine Kd.C_alloc ?_ _) | (with_reducible refine Kd.C_drewN ?_ _) | (with_reducible refine Kd.C_drew ?_)))
                            (case side2 => exact HC0.out)
                            rintro e w40 ⟨v436, rfl, ho0, hb⟩
                            have HS0_ := (hb.cell (World.block_lt_of_cell? _ _ (hHeld.1))).trans (hHeld.1)
                            have HS1_ := (hb.cell (World.block_lt_of_cell? _ _ (hHeld.2.1))).trans (hHeld.2.1)
                            have HS2_ := (hb.cell (World.block_lt_of_cell? _ _ (hHeld.2.2.1))).trans (hHeld.2.2.1)
                            have HS3_ := (hb.cell (World.block_lt_of_cell? _ _ (hHeld.2.2.2.1))).trans (hHeld.2.2.2.1)
                            have HS4_ := (hb.cell (World.block_lt_of_cell? _ _ (hHeld.2.2.2.2))).trans (hHeld.2.2.2.2)
                            refine ⟨_, rfl, ?_⟩
                            have n0_ := Aside0.mk (Kd.R_below (by (with_reducible repeat (first | apply Kd.R_alloc | apply Kd.R_drewN | apply Kd.R_drew)); exact HO_6.out) hb)
                            have n1_ := Aside0.mk (Kd.R_lower ho0 (below_size (by repeat (first | (with_reducible first | exact HB.out | apply below_alloc | apply pw_below_drewN | apply below_drew1) | exact HB.out))))
                            have n2_ := Aside0.mk (below_step (by repeat (first | (with_reducible first | exact HB.out | apply below_alloc | apply pw_below_drewN | apply below_drew1) | exact HB.out)) hb)
                            clear HO_6
                            clear HB
                            have HO_6 := n0_
                            have HO437 := n1_
                            have HB := n2_
                            clear n0_ n1_ n2_
                            (try clear hb)
                            (try clear hb2)
                            (try clear hk)
                            (try clear hi)
                            (try clear ho0)
                            obtain ⟨Ao41, co41, eo41⟩ := Kd.R_slice HO437.out
                            (first | subst eo41 | (injection eo41 with f1_ f2_ f3_; have f4_ := f1_.symm; have f5_ := f3_.symm; clear f1_ f2_ f3_; subst f4_; subst f5_))
                            refine hK.out _ _ ⟨HS0_, HS1_, HS2_, HS3_, HS4_⟩ (fun hHeld => ?_)
                            clear hK K
                            refine norm_ (a' := ?_) ?_ ?_
                            rotate_left
                            · show Act.put _ (some 65) _ = _
                              simp only [Act.put, List.setIfInBounds_toArray, List.set_cons_zero, List.set_cons_succ, i64_w, i32_w]
                              rfl
                            refine one_ (i := 7) (N := some 66) #[true, true, true, true, true, true, true, true, false] rfl rfl (one_of HT_.out (by kernel_rfl)) (by decide) (fun K hK => ?_)
                            refine goes_ Try.func43 (by kernel_rfl) rfl #[.slice Ao41 t435.length co41] (by rfl) rfl rfl (by (try simp only [List.map_toArray, List.map_cons, List.map_nil]); first | done | rfl | (simp only [List.length_drop, List.length_take]; rfl)) ?_
                            with_reducible refine (regimenref49_Of.calls k2 _ _ t435 t438 t439 t440 t441 t442 _ ?side1 ?side2 A37.out).mono ?_
                            (case side1 => repeat (first | exact (Kd.R_reads' HO437.out).2.2 | (with_reducible refine Kd.C_alloc ?_ _) | (with_reducible refine Kd.C_drewN ?_ _) | (with_reducible refine Kd.C_drew ?_)))
                            (case side2 => exact (Kd.R_reads' HO437.out).2.1)
                            rintro e w42 ⟨rfl, hb⟩
                            have HS0_ := (hb.cell (World.block_lt_of_cell? _ _ (hHeld.1))).trans (hHeld.1)
                            have HS1_ := (hb.cell (World.block_lt_of_cell? _ _ (hHeld.2.1))).trans (hHeld.2.1)
                            have HS2_ := (hb.cell (World.block_lt_of_cell? _ _ (hHeld.2.2.1))).trans (hHeld.2.2.1)
                            have HS3_ := (hb.cell (World.block_lt_of_cell? _ _ (hHeld.2.2.2.1))).trans (hHeld.2.2.2.1)
                            have HS4_ := (hb.cell (World.block_lt_of_cell? _ _ (hHeld.2.2.2.2))).trans (hHeld.2.2.2.2)
                            refine ⟨_, rfl, ?_⟩
                            have n0_ := Aside0.mk (Kd.R_below (by (with_reducible repeat (first | apply Kd.R_alloc | apply Kd.R_drewN | apply Kd.R_drew)); exact HO_6.out) hb)
                            have n1_ := Aside0.mk (Kd.R_below (by (with_reducible repeat (first | apply Kd.R_alloc | apply Kd.R_drewN | apply Kd.R_drew)); exact HO437.out) hb)
                            have n2_ := Aside0.mk (below_step (by repeat (first | (with_reducible first | exact HB.out | apply below_alloc | apply pw_below_drewN | apply below_drew1) | exact HB.out)) hb)
                            clear HO_6
                            clear HO437
                            clear HB
                            have HO_6 := n0_
                            have HO437 := n1_
                            have HB := n2_
                            clear n0_ n1_ n2_
                            (try clear hb)
                            (try clear hb2)
                            (try clear hk)
                            (try clear hi)
                            refine hK.out _ _ ⟨HS0_, HS1_, HS2_, HS3_, HS4_⟩ (fun hHeld => ?_)
                            clear hK K
                            refine norm_ (a' := ?_) ?_ ?_
                            rotate_left
                            · show Act.put _ (some 66) _ = _
                              simp only [Act.put, List.setIfInBounds_toArray, List.set_cons_zero, List.set_cons_succ, i64_w, i32_w]
                              rfl
                            refine pure_ (i := 8) (N := some 67) (v := ?_) (a' := ?_) #[true, true, true, true, true, true, true, true, true] rfl rfl (any_of HT_.out (by kernel_rfl)) (fun _ _ _ h => h) (Or.inl ⟨by rfl, ?_⟩) ?_ ?_
                            rotate_left
                            · intro w'
                              go_simp
                              with_reducible rfl
                            rotate_left
                            · simp only [Act.put, List.setIfInBounds_toArray, List.set_cons_zero, List.set_cons_succ, i64_w, i32_w]
                              rfl
                            refine done_ (done_of HT_.out (by kernel_rfl)) ?_
                            try go_wp2
                            go_roundg k2
                            case measure => have := HK1.out; have := HK2.out; omega
                            case rel => exact ⟨(wrap64 (x7_2 + 1)), (by first | rfl | (simp; done) | (simp [*]; done)), H', ⟨by have := HK1.out; have := HK2.out; omega⟩, ⟨by (with_reducible repeat (first | apply Kd.R_alloc | apply Kd.R_drewN | apply Kd.R_drew)); exact HO_6.out⟩, ⟨by repeat (first | (with_reducible first | exact HB.out | apply below_alloc | apply pw_below_drewN | apply below_drew1) | exact HB.out)⟩⟩
                        · rw [if_neg c35] at H
                          exact absurd H (by simp)
                      · rw [if_neg c34] at H
                        have c34b0 : decide (x7_2 < (t421.length : Int)) = false := decide_eq_false c34
                        clear c34
                        replace H := Option.bind_eq_some_iff.mp H
                        obtain ⟨t433, A430, H⟩ := H
                        replace H : (some t433) = some r := H
                        have A43 := Aside0.mk A430
                        clear A430
                        obtain rfl := Option.some.inj H
                        go_wp2_with (first | ((with_reducible refine gate_callee (f := 38) rfl ?_); refine goesL_ (some 68) rfl rfl Try.func38 (by kernel_rfl) rfl #[] rfl (by (try simp only [List.map_toArray, List.map_cons, List.map_nil]); first | done | rfl | (simp only [List.length_drop, List.length_take]; rfl)) ?_; (with_reducible refine (regimenlaw49_awake.calls k2  t433 _ A43.out).mono ?_); rintro e w44 ⟨rfl, hb⟩; refine ⟨_, rfl, ?_⟩; have n0_ := Aside0.mk (Kd.R_below (by (with_reducible repeat (first | apply Kd.R_alloc | apply Kd.R_drewN | apply Kd.R_drew)); exact HO_6.out) hb); have n1_ := Aside0.mk (below_step (by repeat (first | (with_reducible first | exact HB.out | apply below_alloc | apply pw_below_drewN | apply below_drew1) | exact HB.out)) hb); clear HO_6; clear HB; have HO_6 := n0_; have HB := n1_; clear n0_ n1_; (try clear hb); (try clear hb2); (try clear hk); (try clear hi)))
                        go_ret
                        exact ⟨by first | rfl | (simp [errW_none, errW_some] <;> rfl) | (simp [*, errW_none, errW_some] <;> rfl), by repeat (first | (with_reducible first | exact HB.out | apply below_alloc | apply pw_below_drewN | apply below_drew1) | exact HB.out)⟩
                · rw [if_neg c27] at H
                  exact absurd H (by simp)
              · rw [if_neg c26] at H
                exact absurd H (by simp)
          · replace c15 := Bool.eq_false_iff.mpr c15
            subst c15
            have H1 : (none) = some r := by rw [if_neg (show ¬ (false = true) by decide)] at H; exact H
            clear H
            have H := H1
            clear H1
            exact absurd H (by simp)

/-- THE ONE PURE STATEMENT of regimenlaw49_StatsAll: yours. -/
def regimenlaw49_StatsAll.Pure : Prop := ∀ (l0 : List (S89)) (a1 : Int), (l0.length ≤ maxLen ∧ l0.length * 96 ≤ 140737488351232 ∧ ∀ x, x ∈ l0 → ((Lit.int .i64 x.f0).wf = true) ∧ (((Lit.int .i64 x.f1).wf = true) ∧ ((x.f2.length ≤ maxLen ∧ x.f2.length * 8 ≤ 140737488351232 ∧ ∀ y_, y_ ∈ x.f2 → (Lit.int .i64 y_).wf = true) ∧ ((x.f3.length ≤ maxLen ∧ x.f3.length * 1 ≤ 140737488351232 ∧ ∀ y_, y_ ∈ x.f3 → True) ∧ ((x.f4.length ≤ maxLen ∧ x.f4.length * 24 ≤ 140737488351232 ∧ ∀ y_, y_ ∈ x.f4 → ((Lit.int .i64 y_.f0).wf = true) ∧ (((Lit.int .i64 y_.f1).wf = true) ∧ ((Lit.int .i64 y_.f2).wf = true))) ∧ ((Lit.int .i64 x.f5).wf = true)))))) → ((Lit.int .i64 a1).wf = true) → ∃ k, regimenlaw49_StatsAll.f k l0 a1 = some true
theorem regimenlaw49_StatsAll.walk (P : regimenlaw49_StatsAll.Pure) (A0 : Option Addr) (c0 : Nat) (l0 : List (S89)) (a1 : Int) (w : World) (hr0 : Kd.C k89 w A0 l0.length l0) (hc0 : l0.length ≤ c0) (w0 : l0.length ≤ maxLen ∧ l0.length * 96 ≤ 140737488351232 ∧ ∀ x, x ∈ l0 → ((Lit.int .i64 x.f0).wf = true) ∧ (((Lit.int .i64 x.f1).wf = true) ∧ ((x.f2.length ≤ maxLen ∧ x.f2.length * 8 ≤ 140737488351232 ∧ ∀ y_, y_ ∈ x.f2 → (Lit.int .i64 y_).wf = true) ∧ ((x.f3.length ≤ maxLen ∧ x.f3.length * 1 ≤ 140737488351232 ∧ ∀ y_, y_ ∈ x.f3 → True) ∧ ((x.f4.length ≤ maxLen ∧ x.f4.length * 24 ≤ 140737488351232 ∧ ∀ y_, y_ ∈ x.f4 → ((Lit.int .i64 y_.f0).wf = true) ∧ (((Lit.int .i64 y_.f1).wf = true) ∧ ((Lit.int .i64 y_.f2).wf = true))) ∧ ((Lit.int .i64 x.f5).wf = true)))))) (w1 : (Lit.int .i64 a1).wf = true) :
    Calls Try.prog 14 #[.slice A0 l0.length c0, .int .i64 a1] w fun e w' => e = .returned (.bool true) ∧ Below w.heap.size w w' := by
  obtain ⟨k, h⟩ := P l0 a1 w0 w1
  refine (regimenlaw49_StatsAll.calls k _ _ l0 a1 true w hr0 hc0 h).mono ?_
  rintro e w' ⟨rfl, hd⟩
  exact ⟨rfl, hd⟩

end Go.Proofs.Ytmakhhgfidgfdaa.PF
