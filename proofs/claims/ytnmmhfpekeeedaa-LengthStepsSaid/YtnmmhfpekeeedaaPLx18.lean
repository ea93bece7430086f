/- Go functions of this seat as plain Lean functions, each with a proof that its call comes to just what that function says, wherever that function says anything: written by a program of this session. -/
import Derived.Test.YtnmmhfpekeeedaaPLx0
import Derived.Test.YtnmmhfpekeeedaaPLx8
import Derived.Test.YtnmmhfpekeeedaaPLx9
import Derived.Test.YtnmmhfpekeeedaaPLx11
import Derived.Test.YtnmmhfpekeeedaaPLx15
namespace Go.Proofs.Ytnmmhfpekeeedaa.PL
open Go.RowKit Go.Proofs.YtnmmhfpekeeedaaW.PrintWords Go.Proofs.YtnmmhfpekeeedaaW.PrintLast Go.Proofs.YtnmmhfpekeeedaaW.PrintMore
attribute [local go_sem] max2_int min2_int max_two min_two max_three min_three max_four min_four   -- for this text's walks alone
set_option linter.unusedVariables false
set_option linter.unusedSimpArgs false

attribute [local go_sem] isSome_setCell
/-! ### regimenlaw14_LengthSteps: function 10 -/
mutual
def regimenlaw14_LengthSteps.j0 : Nat → Int → Int → Int → Int → Int → Bool → Bool → Int → Int → Option (Bool)
  | 0, _, _, _, _, _, _, _, _, _ => none
  | k + 1, x1, x2, x7, x8, x9, x10, x37, x711000, x711001 => if x37 = true then (none) else (if x10 = true then (if x1 < 0 then (regimenlaw14_LengthSteps.j1 k x1 x2 x7 x8 x9 true x711000 x711001) else (if x1 > 1048576 then (regimenlaw14_LengthSteps.j1 k x1 x2 x7 x8 x9 true x711000 x711001) else (if x2 < 0 then (regimenlaw14_LengthSteps.j1 k x1 x2 x7 x8 x9 true x711000 x711001) else (regimenlaw14_LengthSteps.j1 k x1 x2 x7 x8 x9 (decide (x2 > 1048576)) x711000 x711001)))) else (regimenlaw14_LengthSteps.j1 k x1 x2 x7 x8 x9 true x711000 x711001))
def regimenlaw14_LengthSteps.j1 : Nat → Int → Int → Int → Int → Int → Bool → Int → Int → Option (Bool)
  | 0, _, _, _, _, _, _, _, _ => none
  | k + 1, x1, x2, x7, x8, x9, x55, x711000, x711001 => if x55 = true then (if x7 = 0 then (if x8 = 1 then (if x9 = 0 then ((regimenlaw14_awake.f k).bind fun t717 => (some t717)) else (none)) else (none)) else (none)) else ((regimenref14_Steps.f k x711000 x711001 x1 x2).bind fun bt718 => (if x7 = bt718.1 then (if x8 = bt718.2 then ((regimenref14_Within.f k x711000 x711001 x1 x2).bind fun t720 => (if x9 = t720 then ((regimenlaw14_awake.f k).bind fun t721 => (some t721)) else (none))) else (none)) else (none)))
end
def regimenlaw14_LengthSteps.f (k : Nat) (a0_0 : Int) (a0_1 : Int) (a1 : Int) (a2 : Int) : Option (Bool) := (length_Steps.f k a0_0 a0_1 a1 a2).bind fun bt711 => ((length_Within.f k a0_0 a0_1 a1 a2).bind fun t713 => ((regimenref14_May.f a0_0 a0_1).bind fun t714 => ((length_Check.f k a0_0 a0_1).bind fun t715 => (if ((t715 == 0) != t714) = true then (regimenlaw14_LengthSteps.j0 k a1 a2 bt711.1 bt711.2 t713 t714 true a0_0 a0_1) else ((length_Check.f k a0_0 a0_1).bind fun t716 => (regimenlaw14_LengthSteps.j0 k a1 a2 bt711.1 bt711.2 t713 t714 ((t716 == 1) == t714) a0_0 a0_1))))))
theorem regimenlaw14_LengthSteps.mono_l : ∀ k, (∀ y0 y1 y2 y3 y4 y5 y6 y7 y8, LeO (regimenlaw14_LengthSteps.j0 k y0 y1 y2 y3 y4 y5 y6 y7 y8) (regimenlaw14_LengthSteps.j0 (k + 1) y0 y1 y2 y3 y4 y5 y6 y7 y8)) ∧ (∀ y0 y1 y2 y3 y4 y5 y6 y7, LeO (regimenlaw14_LengthSteps.j1 k y0 y1 y2 y3 y4 y5 y6 y7) (regimenlaw14_LengthSteps.j1 (k + 1) y0 y1 y2 y3 y4 y5 y6 y7))
  | 0 => ⟨fun _ _ _ _ _ _ _ _ _ r h => by simp [regimenlaw14_LengthSteps.j0] at h, fun _ _ _ _ _ _ _ _ r h => by simp [regimenlaw14_LengthSteps.j1] at h⟩
  | k + 1 => by
    obtain ⟨ih0, ih1⟩ := regimenlaw14_LengthSteps.mono_l k
    refine ⟨?_, ?_⟩
    · intro y0 y1 y2 y3 y4 y5 y6 y7 y8
      unfold regimenlaw14_LengthSteps.j0
      repeat' first
      | (with_reducible exact ih0 _ _ _ _ _ _ _ _ _)
      | (with_reducible exact ih1 _ _ _ _ _ _ _ _)
      | (with_reducible exact length_Check.mono _ _ _)
      | (with_reducible exact length_Steps.mono _ _ _ _ _)
      | (with_reducible exact length_Within.mono _ _ _ _ _)
      | (with_reducible exact regimenlaw14_awake.mono _)
      | (with_reducible exact regimenref14_Steps.mono _ _ _ _ _)
      | (with_reducible exact regimenref14_Within.mono _ _ _ _ _)
      | (with_reducible exact LeO.refl _)
      | (with_reducible exact LeO.none _)
      | (with_reducible refine LeO.ite ?_ ?_)
      | (with_reducible refine LeO.bind ?_ (fun _ => ?_))
      | exact ih0 _ _ _ _ _ _ _ _ _
      | exact ih1 _ _ _ _ _ _ _ _
      | exact length_Check.mono _ _ _
      | exact length_Steps.mono _ _ _ _ _
      | exact length_Within.mono _ _ _ _ _
      | exact regimenlaw14_awake.mono _
      | exact regimenref14_Steps.mono _ _ _ _ _
      | exact regimenref14_Within.mono _ _ _ _ _
      | exact LeO.none _
      | refine LeO.ite ?_ ?_
      | refine LeO.bind ?_ (fun _ => ?_)
    · intro y0 y1 y2 y3 y4 y5 y6 y7
      unfold regimenlaw14_LengthSteps.j1
      repeat' first
      | (with_reducible exact ih0 _ _ _ _ _ _ _ _ _)
      | (with_reducible exact ih1 _ _ _ _ _ _ _ _)
      | (with_reducible exact length_Check.mono _ _ _)
      | (with_reducible exact length_Steps.mono _ _ _ _ _)
      | (with_reducible exact length_Within.mono _ _ _ _ _)
      | (with_reducible exact regimenlaw14_awake.mono _)
      | (with_reducible exact regimenref14_Steps.mono _ _ _ _ _)
      | (with_reducible exact regimenref14_Within.mono _ _ _ _ _)
      | (with_reducible exact LeO.refl _)
      | (with_reducible exact LeO.none _)
      | (with_reducible refine LeO.ite ?_ ?_)
      | (with_reducible refine LeO.bind ?_ (fun _ => ?_))
      | exact ih0 _ _ _ _ _ _ _ _ _
      | exact ih1 _ _ _ _ _ _ _ _
      | exact length_Check.mono _ _ _
      | exact length_Steps.mono _ _ _ _ _
      | exact length_Within.mono _ _ _ _ _
      | exact regimenlaw14_awake.mono _
      | exact regimenref14_Steps.mono _ _ _ _ _
      | exact regimenref14_Within.mono _ _ _ _ _
      | exact LeO.none _
      | refine LeO.ite ?_ ?_
      | refine LeO.bind ?_ (fun _ => ?_)
theorem regimenlaw14_LengthSteps.mono : ∀ a0 a1 a2 a3 k, LeO (regimenlaw14_LengthSteps.f k a0 a1 a2 a3) (regimenlaw14_LengthSteps.f (k + 1) a0 a1 a2 a3) := by
  intro a0 a1 a2 a3 k
  obtain ⟨ih0, ih1⟩ := regimenlaw14_LengthSteps.mono_l k
  unfold regimenlaw14_LengthSteps.f
  repeat' first
      | (with_reducible exact ih0 _ _ _ _ _ _ _ _ _)
      | (with_reducible exact ih1 _ _ _ _ _ _ _ _)
      | (with_reducible exact length_Check.mono _ _ _)
      | (with_reducible exact length_Steps.mono _ _ _ _ _)
      | (with_reducible exact length_Within.mono _ _ _ _ _)
      | (with_reducible exact regimenlaw14_awake.mono _)
      | (with_reducible exact regimenref14_Steps.mono _ _ _ _ _)
      | (with_reducible exact regimenref14_Within.mono _ _ _ _ _)
      | (with_reducible exact LeO.refl _)
      | (with_reducible exact LeO.none _)
      | (with_reducible refine LeO.ite ?_ ?_)
      | (with_reducible refine LeO.bind ?_ (fun _ => ?_))
      | exact ih0 _ _ _ _ _ _ _ _ _
      | exact ih1 _ _ _ _ _ _ _ _
      | exact length_Check.mono _ _ _
      | exact length_Steps.mono _ _ _ _ _
      | exact length_Within.mono _ _ _ _ _
      | exact regimenlaw14_awake.mono _
      | exact regimenref14_Steps.mono _ _ _ _ _
      | exact regimenref14_Within.mono _ _ _ _ _
      | exact LeO.none _
      | refine LeO.ite ?_ ?_
      | refine LeO.bind ?_ (fun _ => ?_)
set_option maxHeartbeats 8000000 in
set_option maxRecDepth 100000 in
theorem regimenlaw14_LengthSteps.calls (k : Nat) (a0_0 : Int) (a0_1 : Int) (a1 : Int) (a2 : Int) (r : Bool) (w : World) (h : regimenlaw14_LengthSteps.f k a0_0 a0_1 a1 a2 = some r) :
    Calls Try.prog 10 #[.agg #[.int .i64 a0_0, .int .i64 a0_1], .int .i64 a1, .int .i64 a2] w fun e w' => e = .returned (.bool r) ∧ Below w.heap.size w w' := by
  have hu60 := Try.underlying60
  have HB := Aside0.mk (Below.refl w.heap.size w)
  have H : ((length_Steps.f k a0_0 a0_1 a1 a2).bind fun bt711 => ((length_Within.f k a0_0 a0_1 a1 a2).bind fun t713 => ((regimenref14_May.f a0_0 a0_1).bind fun t714 => ((length_Check.f k a0_0 a0_1).bind fun t715 => (if ((t715 == 0) != t714) = true then (regimenlaw14_LengthSteps.j0 k a1 a2 bt711.1 bt711.2 t713 t714 true a0_0 a0_1) else ((length_Check.f k a0_0 a0_1).bind fun t716 => (regimenlaw14_LengthSteps.j0 k a1 a2 bt711.1 bt711.2 t713 t714 ((t716 == 1) == t714) a0_0 a0_1))))))) = some r := h
  clear h
  replace H := Option.bind_eq_some_iff.mp H
  obtain ⟨⟨t711, t712⟩, A40, H⟩ := H
  replace H : ((length_Within.f k a0_0 a0_1 a1 a2).bind fun t713 => ((regimenref14_May.f a0_0 a0_1).bind fun t714 => ((length_Check.f k a0_0 a0_1).bind fun t715 => (if ((t715 == 0) != t714) = true then (regimenlaw14_LengthSteps.j0 k a1 a2 t711 t712 t713 t714 true a0_0 a0_1) else ((length_Check.f k a0_0 a0_1).bind fun t716 => (regimenlaw14_LengthSteps.j0 k a1 a2 t711 t712 t713 t714 ((t716 == 1) == t714) a0_0 a0_1)))))) = some r := H
  have A4 := Aside0.mk A40
  clear A40
  replace H := Option.bind_eq_some_iff.mp H
  obtain ⟨t713, A50, H⟩ := H
  replace H : ((regimenref14_May.f a0_0 a0_1).bind fun t714 => ((length_Check.f k a0_0 a0_1).bind fun t715 => (if ((t715 == 0) != t714) = true then (regimenlaw14_LengthSteps.j0 k a1 a2 t711 t712 t713 t714 true a0_0 a0_1) else ((length_Check.f k a0_0 a0_1).bind fun t716 => (regimenlaw14_LengthSteps.j0 k a1 a2 t711 t712 t713 t714 ((t716 == 1) == t714) a0_0 a0_1))))) = some r := H
  have A5 := Aside0.mk A50
  clear A50
  replace H := Option.bind_eq_some_iff.mp H
  obtain ⟨t714, A60, H⟩ := H
  replace H : ((length_Check.f k a0_0 a0_1).bind fun t715 => (if ((t715 == 0) != t714) = true then (regimenlaw14_LengthSteps.j0 k a1 a2 t711 t712 t713 t714 true a0_0 a0_1) else ((length_Check.f k a0_0 a0_1).bind fun t716 => (regimenlaw14_LengthSteps.j0 k a1 a2 t711 t712 t713 t714 ((t716 == 1) == t714) a0_0 a0_1)))) = some r := H
  have A6 := Aside0.mk A60
  clear A60
  have HC7 := Aside0.mk H
  clear H
  go_enter Try.func10, Try.ntmps10
  go_upto_region 4 with (first | ((with_reducible refine gate_dst (N := 3) rfl ?_); refine box_event ?hg (N := 3) ?hd (cs := #[.int .i64 a0_0, .int .i64 a0_1]) (t := 60) ?hr ?_; (case hd => rfl); (case hg => rfl); (case hr => first | (go_simp; done) | (go_simp; rfl)); intro gb710 hg w8 hbox hb; have n0_ := Aside0.mk (below_step (by repeat (first | (with_reducible first | exact HB.out | apply below_alloc | apply pw_below_drewN | apply below_drew1) | exact HB.out)) hb); have n1_ := Aside0.mk (hbox); have n2_ := Aside0.mk ((by rw [hg]; exact (below_size (by repeat (first | (with_reducible first | exact HB.out | apply below_alloc | apply pw_below_drewN | apply below_drew1) | exact HB.out))) : w.heap.size ≤ gb710)); have n3_ := Aside0.mk ((by rw [hg]; exact (below_size (by repeat (first | (with_reducible first | exact HB.out | apply below_alloc | apply pw_below_drewN | apply below_drew1) | exact HB.out))) : w.heap.size ≤ gb710)); clear HB; have HB := n0_; have BK710 := n1_; have GW710 := n2_; have GE710 := n3_; clear n0_ n1_ n2_ n3_; clear hb hbox hg; have hcz9_0 : w8.cell? ⟨gb710, 0, none⟩ = some (.int .i64 a0_0) := (blk_cell BK710.out 0).trans rfl; have hcz9_1 : w8.cell? ⟨gb710, 1, none⟩ = some (.int .i64 a0_1) := (blk_cell BK710.out 1).trans rfl; have hfz9_0 := blk_frozen BK710.out 0; have hfz9_1 := blk_frozen BK710.out 1) | ((with_reducible refine gate_callee (f := 37) rfl ?_); refine goesL_ (some 17) rfl rfl Try.func37 (by kernel_rfl) rfl #[.agg #[.int .i64 a0_0, .int .i64 a0_1], .int .i64 a1, .int .i64 a2] rfl (by (try simp only [List.map_toArray, List.map_cons, List.map_nil]); first | done | rfl | (simp only [List.length_drop, List.length_take]; rfl)) ?_; (with_reducible refine (length_Steps.calls k a0_0 a0_1 a1 a2 t711 t712 _ A4.out).mono ?_); rintro e w10 ⟨rfl, hb⟩; refine ⟨_, rfl, ?_⟩; have n0_ := Aside0.mk (blk_below (g := gb710) (o := .cells #[.int .i64 a0_0, .int .i64 a0_1] 60 (0, 0)) (by (with_reducible repeat (first | refine blk_drewN ?_ _ | refine blk_drew ?_ | refine blk_alloc ?_ _)); exact BK710.out) hb); have n1_ := Aside0.mk (below_step (by repeat (first | (with_reducible first | exact HB.out | apply below_alloc | apply pw_below_drewN | apply below_drew1 | refine below_set ?_ GE710.out) | exact HB.out)) hb); clear BK710; clear HB; have BK710 := n0_; have HB := n1_; clear n0_ n1_; (try clear hb); (try clear hb2); (try clear hk); (try clear hi); have hcz11_0 : w10.cell? ⟨gb710, 0, none⟩ = some (.int .i64 a0_0) := (blk_cell BK710.out 0).trans rfl; have hcz11_1 : w10.cell? ⟨gb710, 1, none⟩ = some (.int .i64 a0_1) := (blk_cell BK710.out 1).trans rfl; have hfz11_0 := blk_frozen BK710.out 0; have hfz11_1 := blk_frozen BK710.out 1) | ((with_reducible refine gate_callee (f := 38) rfl ?_); refine goesL_ (some 23) rfl rfl Try.func38 (by kernel_rfl) rfl #[.agg #[.int .i64 a0_0, .int .i64 a0_1], .int .i64 a1, .int .i64 a2] rfl (by (try simp only [List.map_toArray, List.map_cons, List.map_nil]); first | done | rfl | (simp only [List.length_drop, List.length_take]; rfl)) ?_; (with_reducible refine (length_Within.calls k a0_0 a0_1 a1 a2 t713 _ A5.out).mono ?_); rintro e w12 ⟨rfl, hb⟩; refine ⟨_, rfl, ?_⟩; have n0_ := Aside0.mk (blk_below (g := gb710) (o := .cells #[.int .i64 a0_0, .int .i64 a0_1] 60 (0, 0)) (by (with_reducible repeat (first | refine blk_drewN ?_ _ | refine blk_drew ?_ | refine blk_alloc ?_ _)); exact BK710.out) hb); have n1_ := Aside0.mk (below_step (by repeat (first | (with_reducible first | exact HB.out | apply below_alloc | apply pw_below_drewN | apply below_drew1 | refine below_set ?_ GE710.out) | exact HB.out)) hb); clear BK710; clear HB; have BK710 := n0_; have HB := n1_; clear n0_ n1_; (try clear hb); (try clear hb2); (try clear hk); (try clear hi); have hcz13_0 : w12.cell? ⟨gb710, 0, none⟩ = some (.int .i64 a0_0) := (blk_cell BK710.out 0).trans rfl; have hcz13_1 : w12.cell? ⟨gb710, 1, none⟩ = some (.int .i64 a0_1) := (blk_cell BK710.out 1).trans rfl; have hfz13_0 := blk_frozen BK710.out 0; have hfz13_1 := blk_frozen BK710.out 1) | ((with_reducible refine gate_callee (f := 30) rfl ?_); refine goesL_ (some 25) rfl rfl Try.func30 (by kernel_rfl) rfl #[.agg #[.int .i64 a0_0, .int .i64 a0_1]] rfl (by (try simp only [List.map_toArray, List.map_cons, List.map_nil]); first | done | rfl | (simp only [List.length_drop, List.length_take]; rfl)) ?_; (with_reducible refine (regimenref14_May.calls a0_0 a0_1 t714 _ A6.out).mono ?_); rintro e w14 ⟨rfl, hb⟩; refine ⟨_, rfl, ?_⟩; have n0_ := Aside0.mk (blk_below (g := gb710) (o := .cells #[.int .i64 a0_0, .int .i64 a0_1] 60 (0, 0)) (by (with_reducible repeat (first | refine blk_drewN ?_ _ | refine blk_drew ?_ | refine blk_alloc ?_ _)); exact BK710.out) hb); have n1_ := Aside0.mk (below_step (by repeat (first | (with_reducible first | exact HB.out | apply below_alloc | apply pw_below_drewN | apply below_drew1 | refine below_set ?_ GE710.out) | exact HB.out)) hb); clear BK710; clear HB; have BK710 := n0_; have HB := n1_; clear n0_ n1_; (try clear hb); (try clear hb2); (try clear hk); (try clear hi)))
  (try simp only [Act.put, List.setIfInBounds_toArray, List.set_cons_zero, List.set_cons_succ])
  go_cut [37] (fun v37 wc => ∃ (kq : Nat) (x37_6 : Bool), v37 = .bool x37_6 ∧ Aside0 (regimenlaw14_LengthSteps.j0 kq a1 a2 t711 t712 t713 t714 x37_6 a0_0 a0_1 = some r) ∧ Aside0 (kq ≤ k) ∧ Aside0 (wc.heap[gb710]? = some (.cells #[.int .i64 a0_0, .int .i64 a0_1] 60 (0, 0))) ∧ Aside0 (Below w.heap.size w wc))
  case first =>
    have H := HC7.out
    clear HC7
    replace H := Option.bind_eq_some_iff.mp H
    obtain ⟨t715, A150, H⟩ := H
    replace H : (if ((t715 == 0) != t714) = true then (regimenlaw14_LengthSteps.j0 k a1 a2 t711 t712 t713 t714 true a0_0 a0_1) else ((length_Check.f k a0_0 a0_1).bind fun t716 => (regimenlaw14_LengthSteps.j0 k a1 a2 t711 t712 t713 t714 ((t716 == 1) == t714) a0_0 a0_1))) = some r := H
    have A15 := Aside0.mk A150
    clear A150
    by_cases c16 : ((t715 == 0) != t714) = true
    · rw [if_pos c16] at H
      have c16b0 : ((t715 == 0) != t714) = true := c16
      (try (have c16b1 : decide ((t715 == 0) = t714) = false := by simpa using c16))
      (try (have c16b2 : ((t715 == 0) == t714) = false := by simpa using c16))
      (try (have c16b3 : ¬ ((t715 == 0) = t714) := by simpa using c16))
      clear c16
      (first | rw [c16b0] | rw [c16b1] | (simp only [i64_w, i32_w]; rw [c16b0]) | skip)
      have H' := Aside0.mk H
      clear H
      have hcz17_0 : w14.cell? ⟨gb710, 0, none⟩ = some (.int .i64 a0_0) := (blk_cell BK710.out 0).trans rfl
      have hcz17_1 : w14.cell? ⟨gb710, 1, none⟩ = some (.int .i64 a0_1) := (blk_cell BK710.out 1).trans rfl
      have hfz17_0 := blk_frozen BK710.out 0
      have hfz17_1 := blk_frozen BK710.out 1
      go_wp2_with (first | ((with_reducible refine gate_callee (f := 39) rfl ?_); refine goesL_ (some 27) rfl rfl Try.func39 (by kernel_rfl) rfl #[.agg #[.int .i64 a0_0, .int .i64 a0_1]] rfl (by (try simp only [List.map_toArray, List.map_cons, List.map_nil]); first | done | rfl | (simp only [List.length_drop, List.length_take]; rfl)) ?_; (with_reducible refine (length_Check.calls k a0_0 a0_1 t715 _ A15.out).mono ?_); rintro e w18 ⟨rfl, hb⟩; refine ⟨_, rfl, ?_⟩; have n0_ := Aside0.mk (blk_below (g := gb710) (o := .cells #[.int .i64 a0_0, .int .i64 a0_1] 60 (0, 0)) (by (with_reducible repeat (first | refine blk_drewN ?_ _ | refine blk_drew ?_ | refine blk_alloc ?_ _)); exact BK710.out) hb); have n1_ := Aside0.mk (below_step (by repeat (first | (with_reducible first | exact HB.out | apply below_alloc | apply pw_below_drewN | apply below_drew1 | refine below_set ?_ GE710.out) | exact HB.out)) hb); clear BK710; clear HB; have BK710 := n0_; have HB := n1_; clear n0_ n1_; (try clear hb); (try clear hb2); (try clear hk); (try clear hi)))
      go_meet
      case rel => exact ⟨_, (true), (by first | rfl | (simp; done) | (simp [*]; done)), H', ⟨by first | omega | exact Nat.le_refl _⟩, ⟨by (with_reducible repeat (first | refine blk_drewN ?_ _ | refine blk_drew ?_ | refine blk_alloc ?_ _)); exact BK710.out⟩, ⟨by repeat (first | (with_reducible first | exact HB.out | apply below_alloc | apply pw_below_drewN | apply below_drew1 | refine below_set ?_ GE710.out) | exact HB.out)⟩⟩
    · rw [if_neg c16] at H
      have c16b0 : ((t715 == 0) != t714) = false := by simpa using c16
      (try (have c16b1 : decide ((t715 == 0) = t714) = true := by simpa using c16))
      (try (have c16b2 : ((t715 == 0) == t714) = true := by simpa using c16))
      clear c16
      (first | rw [c16b0] | rw [c16b1] | (simp only [i64_w, i32_w]; rw [c16b0]) | skip)
      replace H := Option.bind_eq_some_iff.mp H
      obtain ⟨t716, A190, H⟩ := H
      replace H : (regimenlaw14_LengthSteps.j0 k a1 a2 t711 t712 t713 t714 ((t716 == 1) == t714) a0_0 a0_1) = some r := H
      have A19 := Aside0.mk A190
      clear A190
      have H' := Aside0.mk H
      clear H
      have hcz20_0 : w14.cell? ⟨gb710, 0, none⟩ = some (.int .i64 a0_0) := (blk_cell BK710.out 0).trans rfl
      have hcz20_1 : w14.cell? ⟨gb710, 1, none⟩ = some (.int .i64 a0_1) := (blk_cell BK710.out 1).trans rfl
      have hfz20_0 := blk_frozen BK710.out 0
      have hfz20_1 := blk_frozen BK710.out 1
      go_wp2_with (first | ((with_reducible refine gate_callee (f := 39) rfl ?_); refine goesL_ (some 27) rfl rfl Try.func39 (by kernel_rfl) rfl #[.agg #[.int .i64 a0_0, .int .i64 a0_1]] rfl (by (try simp only [List.map_toArray, List.map_cons, List.map_nil]); first | done | rfl | (simp only [List.length_drop, List.length_take]; rfl)) ?_; (with_reducible refine (length_Check.calls k a0_0 a0_1 t715 _ A15.out).mono ?_); rintro e w21 ⟨rfl, hb⟩; refine ⟨_, rfl, ?_⟩; have n0_ := Aside0.mk (blk_below (g := gb710) (o := .cells #[.int .i64 a0_0, .int .i64 a0_1] 60 (0, 0)) (by (with_reducible repeat (first | refine blk_drewN ?_ _ | refine blk_drew ?_ | refine blk_alloc ?_ _)); exact BK710.out) hb); have n1_ := Aside0.mk (below_step (by repeat (first | (with_reducible first | exact HB.out | apply below_alloc | apply pw_below_drewN | apply below_drew1 | refine below_set ?_ GE710.out) | exact HB.out)) hb); clear BK710; clear HB; have BK710 := n0_; have HB := n1_; clear n0_ n1_; (try clear hb); (try clear hb2); (try clear hk); (try clear hi); have hcz22_0 : w21.cell? ⟨gb710, 0, none⟩ = some (.int .i64 a0_0) := (blk_cell BK710.out 0).trans rfl; have hcz22_1 : w21.cell? ⟨gb710, 1, none⟩ = some (.int .i64 a0_1) := (blk_cell BK710.out 1).trans rfl; have hfz22_0 := blk_frozen BK710.out 0; have hfz22_1 := blk_frozen BK710.out 1) | (go_at_call 39; (with_reducible refine (length_Check.calls k a0_0 a0_1 t716 _ A19.out).mono ?_); rintro e w23 ⟨rfl, hb⟩; have n0_ := Aside0.mk (blk_below (g := gb710) (o := .cells #[.int .i64 a0_0, .int .i64 a0_1] 60 (0, 0)) (by (with_reducible repeat (first | refine blk_drewN ?_ _ | refine blk_drew ?_ | refine blk_alloc ?_ _)); exact BK710.out) hb); have n1_ := Aside0.mk (below_step (by repeat (first | (with_reducible first | exact HB.out | apply below_alloc | apply pw_below_drewN | apply below_drew1 | refine below_set ?_ GE710.out) | exact HB.out)) hb); clear BK710; clear HB; have BK710 := n0_; have HB := n1_; clear n0_ n1_; (try clear hb); (try clear hb2); (try clear hk); (try clear hi)))
      go_meet
      case rel => exact ⟨_, (((t716 == 1) == t714)), (by first | rfl | (simp; done) | (simp [*]; done)), H', ⟨by first | omega | exact Nat.le_refl _⟩, ⟨by (with_reducible repeat (first | refine blk_drewN ?_ _ | refine blk_drew ?_ | refine blk_alloc ?_ _)); exact BK710.out⟩, ⟨by repeat (first | (with_reducible first | exact HB.out | apply below_alloc | apply pw_below_drewN | apply below_drew1 | refine below_set ?_ GE710.out) | exact HB.out)⟩⟩
  case rest =>
    clear HC7
    try clear c1
    try clear p2
    try clear c3
    try clear c10
    try clear c16
    try clear c16b0
    try clear c16b1
    try clear c16b2
    try clear hcz11_0
    try clear hcz11_1
    try clear hcz13_0
    try clear hcz13_1
    try clear hcz17_0
    try clear hcz17_1
    try clear hcz20_0
    try clear hcz20_1
    try clear hcz22_0
    try clear hcz22_1
    try clear hcz9_0
    try clear hcz9_1
    try clear hfz11_0
    try clear hfz11_1
    try clear hfz13_0
    try clear hfz13_1
    try clear hfz17_0
    try clear hfz17_1
    try clear hfz20_0
    try clear hfz20_1
    try clear hfz22_0
    try clear hfz22_1
    try clear hfz9_0
    try clear hfz9_1
    obtain ⟨kq, x37_6, rfl, HA, HJ6, BK710, HB⟩ := hcut
    cases kq with
    | zero => exact absurd HA.out (by simp [regimenlaw14_LengthSteps.j0])
    | succ kj6 =>
      have H := HA.out
      clear HA
      simp only [regimenlaw14_LengthSteps.j0] at H
      by_cases c24 : x37_6 = true
      · subst c24
        have H1 : (none) = some r := by rw [if_pos rfl] at H; exact H
        clear H
        have H := H1
        clear H1
        exact absurd H (by simp)
      · replace c24 := Bool.eq_false_iff.mpr c24
        subst c24
        have H1 : (if t714 = true then (if a1 < 0 then (regimenlaw14_LengthSteps.j1 kj6 a1 a2 t711 t712 t713 true a0_0 a0_1) else (if a1 > 1048576 then (regimenlaw14_LengthSteps.j1 kj6 a1 a2 t711 t712 t713 true a0_0 a0_1) else (if a2 < 0 then (regimenlaw14_LengthSteps.j1 kj6 a1 a2 t711 t712 t713 true a0_0 a0_1) else (regimenlaw14_LengthSteps.j1 kj6 a1 a2 t711 t712 t713 (decide (a2 > 1048576)) a0_0 a0_1)))) else (regimenlaw14_LengthSteps.j1 kj6 a1 a2 t711 t712 t713 true a0_0 a0_1)) = some r := by rw [if_neg (show ¬ (false = true) by decide)] at H; exact H
        clear H
        have H := H1
        clear H1
        have HC25 := Aside0.mk H
        clear H
        go_upto_region 6 with (fail)
        go_cut [55] (fun v55 wc => ∃ (kq : Nat) (x55_24 : Bool), v55 = .bool x55_24 ∧ Aside0 (regimenlaw14_LengthSteps.j1 kq a1 a2 t711 t712 t713 x55_24 a0_0 a0_1 = some r) ∧ Aside0 (kq ≤ kj6) ∧ Aside0 (wc.heap[gb710]? = some (.cells #[.int .i64 a0_0, .int .i64 a0_1] 60 (0, 0))) ∧ Aside0 (Below w.heap.size w wc))
        case first =>
          have H := HC25.out
          clear HC25
          by_cases c26 : t714 = true
          · subst c26
            have H1 : (if a1 < 0 then (regimenlaw14_LengthSteps.j1 kj6 a1 a2 t711 t712 t713 true a0_0 a0_1) else (if a1 > 1048576 then (regimenlaw14_LengthSteps.j1 kj6 a1 a2 t711 t712 t713 true a0_0 a0_1) else (if a2 < 0 then (regimenlaw14_LengthSteps.j1 kj6 a1 a2 t711 t712 t713 true a0_0 a0_1) else (regimenlaw14_LengthSteps.j1 kj6 a1 a2 t711 t712 t713 (decide (a2 > 1048576)) a0_0 a0_1)))) = some r := by rw [if_pos rfl] at H; exact H
            clear H
            have H := H1
            clear H1
            by_cases c27 : a1 < 0
            · rw [if_pos c27] at H
              have c27b0 : decide (a1 < 0) = true := decide_eq_true c27
              clear c27
              (first | rw [c27b0] | rw [c27b1] | (simp only [i64_w, i32_w]; rw [c27b0]) | skip)
              have H' := Aside0.mk H
              clear H
              go_wp2
              go_meet
              case rel => exact ⟨_, (true), (by first | rfl | (simp; done) | (simp [*]; done)), H', ⟨by have := HJ6.out; first | omega | exact Nat.le_refl _⟩, ⟨by (with_reducible repeat (first | refine blk_drewN ?_ _ | refine blk_drew ?_ | refine blk_alloc ?_ _)); exact BK710.out⟩, ⟨by repeat (first | (with_reducible first | exact HB.out | apply below_alloc | apply pw_below_drewN | apply below_drew1 | refine below_set ?_ GE710.out) | exact HB.out)⟩⟩
            · rw [if_neg c27] at H
              have c27b0 : decide (a1 < 0) = false := decide_eq_false c27
              clear c27
              (first | rw [c27b0] | rw [c27b1] | (simp only [i64_w, i32_w]; rw [c27b0]) | skip)
              by_cases c28 : a1 > 1048576
              · rw [if_pos c28] at H
                have c28b0 : decide (1048576 < a1) = true := decide_eq_true c28
                clear c28
                have H' := Aside0.mk H
                clear H
                go_wp2
                go_meet
                case rel => exact ⟨_, (true), (by first | rfl | (simp; done) | (simp [*]; done)), H', ⟨by have := HJ6.out; first | omega | exact Nat.le_refl _⟩, ⟨by (with_reducible repeat (first | refine blk_drewN ?_ _ | refine blk_drew ?_ | refine blk_alloc ?_ _)); exact BK710.out⟩, ⟨by repeat (first | (with_reducible first | exact HB.out | apply below_alloc | apply pw_below_drewN | apply below_drew1 | refine below_set ?_ GE710.out) | exact HB.out)⟩⟩
              · rw [if_neg c28] at H
                have c28b0 : decide (1048576 < a1) = false := decide_eq_false c28
                clear c28
                by_cases c29 : a2 < 0
                · rw [if_pos c29] at H
                  have c29b0 : decide (a2 < 0) = true := decide_eq_true c29
                  clear c29
                  have H' := Aside0.mk H
                  clear H
                  go_wp2
                  go_meet
                  case rel => exact ⟨_, (true), (by first | rfl | (simp; done) | (simp [*]; done)), H', ⟨by have := HJ6.out; first | omega | exact Nat.le_refl _⟩, ⟨by (with_reducible repeat (first | refine blk_drewN ?_ _ | refine blk_drew ?_ | refine blk_alloc ?_ _)); exact BK710.out⟩, ⟨by repeat (first | (with_reducible first | exact HB.out | apply below_alloc | apply pw_below_drewN | apply below_drew1 | refine below_set ?_ GE710.out) | exact HB.out)⟩⟩
                · rw [if_neg c29] at H
                  have c29b0 : decide (a2 < 0) = false := decide_eq_false c29
                  clear c29
                  have H' := Aside0.mk H
                  clear H
                  go_wp2
                  go_meet
                  case rel => exact ⟨_, (decide (a2 > 1048576)), (by first | rfl | (simp; done) | (simp [*]; done)), H', ⟨by have := HJ6.out; first | omega | exact Nat.le_refl _⟩, ⟨by (with_reducible repeat (first | refine blk_drewN ?_ _ | refine blk_drew ?_ | refine blk_alloc ?_ _)); exact BK710.out⟩, ⟨by repeat (first | (with_reducible first | exact HB.out | apply below_alloc | apply pw_below_drewN | apply below_drew1 | refine below_set ?_ GE710.out) | exact HB.out)⟩⟩
          · replace c26 := Bool.eq_false_iff.mpr c26
            subst c26
            have H1 : (regimenlaw14_LengthSteps.j1 kj6 a1 a2 t711 t712 t713 true a0_0 a0_1) = some r := by rw [if_neg (show ¬ (false = true) by decide)] at H; exact H
            clear H
            have H := H1
            clear H1
            have H' := Aside0.mk H
            clear H
            go_wp2
            go_meet
            case rel => exact ⟨_, (true), (by first | rfl | (simp; done) | (simp [*]; done)), H', ⟨by have := HJ6.out; first | omega | exact Nat.le_refl _⟩, ⟨by (with_reducible repeat (first | refine blk_drewN ?_ _ | refine blk_drew ?_ | refine blk_alloc ?_ _)); exact BK710.out⟩, ⟨by repeat (first | (with_reducible first | exact HB.out | apply below_alloc | apply pw_below_drewN | apply below_drew1 | refine below_set ?_ GE710.out) | exact HB.out)⟩⟩
        case rest =>
          clear HC25
          try clear c1
          try clear c2
          try clear p2
          try clear c3
          try clear c10
          try clear c16
          try clear c16b0
          try clear c16b1
          try clear c16b2
          try clear c24
          try clear c26
          try clear c27
          try clear c27b0
          try clear c27b1
          try clear c28
          try clear c28b0
          try clear c29
          try clear c29b0
          try clear hcz11_0
          try clear hcz11_1
          try clear hcz13_0
          try clear hcz13_1
          try clear hcz17_0
          try clear hcz17_1
          try clear hcz20_0
          try clear hcz20_1
          try clear hcz22_0
          try clear hcz22_1
          try clear hcz9_0
          try clear hcz9_1
          try clear hfz11_0
          try clear hfz11_1
          try clear hfz13_0
          try clear hfz13_1
          try clear hfz17_0
          try clear hfz17_1
          try clear hfz20_0
          try clear hfz20_1
          try clear hfz22_0
          try clear hfz22_1
          try clear hfz9_0
          try clear hfz9_1
          try clear p2
          obtain ⟨kq, x55_24, rfl, HA, HJ24, BK710, HB⟩ := hcut
          cases kq with
          | zero => exact absurd HA.out (by simp [regimenlaw14_LengthSteps.j1])
          | succ kj24 =>
            have H := HA.out
            clear HA
            simp only [regimenlaw14_LengthSteps.j1] at H
            by_cases c30 : x55_24 = true
            · subst c30
              have H1 : (if t711 = 0 then (if t712 = 1 then (if t713 = 0 then ((regimenlaw14_awake.f kj24).bind fun t717 => (some t717)) else (none)) else (none)) else (none)) = some r := by rw [if_pos rfl] at H; exact H
              clear H
              have H := H1
              clear H1
              by_cases c31 : t711 = 0
              · rw [if_pos c31] at H
                have c31b0 : (t711 == 0) = true := beq_iff_eq.mpr c31
                have c31b1 : (t711 != 0) = false := bne_eq_false_iff_eq.mpr c31
                clear c31
                by_cases c32 : t712 = 1
                · rw [if_pos c32] at H
                  have c32b0 : (t712 == 1) = true := beq_iff_eq.mpr c32
                  have c32b1 : (t712 != 1) = false := bne_eq_false_iff_eq.mpr c32
                  clear c32
                  by_cases c33 : t713 = 0
                  · rw [if_pos c33] at H
                    have c33b0 : (t713 == 0) = true := beq_iff_eq.mpr c33
                    have c33b1 : (t713 != 0) = false := bne_eq_false_iff_eq.mpr c33
                    clear c33
                    replace H := Option.bind_eq_some_iff.mp H
                    obtain ⟨t717, A340, H⟩ := H
                    replace H : (some t717) = some r := H
                    have A34 := Aside0.mk A340
                    clear A340
                    obtain rfl := Option.some.inj H
                    go_wp2_with (first | (go_at_call 31; (with_reducible refine (regimenlaw14_awake.calls kj24  t717 _ A34.out).mono ?_); rintro e w35 ⟨rfl, hb⟩; have n0_ := Aside0.mk (blk_below (g := gb710) (o := .cells #[.int .i64 a0_0, .int .i64 a0_1] 60 (0, 0)) (by (with_reducible repeat (first | refine blk_drewN ?_ _ | refine blk_drew ?_ | refine blk_alloc ?_ _)); exact BK710.out) hb); have n1_ := Aside0.mk (below_step (by repeat (first | (with_reducible first | exact HB.out | apply below_alloc | apply pw_below_drewN | apply below_drew1 | refine below_set ?_ GE710.out) | exact HB.out)) hb); clear BK710; clear HB; have BK710 := n0_; have HB := n1_; clear n0_ n1_; (try clear hb); (try clear hb2); (try clear hk); (try clear hi)))
                    go_ret
                    exact ⟨by first | rfl | (simp [errW_none, errW_some] <;> rfl) | (simp [*, errW_none, errW_some] <;> rfl), by repeat (first | (with_reducible first | exact HB.out | apply below_alloc | apply pw_below_drewN | apply below_drew1 | refine below_set ?_ GE710.out) | exact HB.out)⟩
                  · rw [if_neg c33] at H
                    exact absurd H (by simp)
                · rw [if_neg c32] at H
                  exact absurd H (by simp)
              · rw [if_neg c31] at H
                exact absurd H (by simp)
            · replace c30 := Bool.eq_false_iff.mpr c30
              subst c30
              have H1 : ((regimenref14_Steps.f kj24 a0_0 a0_1 a1 a2).bind fun bt718 => (if t711 = bt718.1 then (if t712 = bt718.2 then ((regimenref14_Within.f kj24 a0_0 a0_1 a1 a2).bind fun t720 => (if t713 = t720 then ((regimenlaw14_awake.f kj24).bind fun t721 => (some t721)) else (none))) else (none)) else (none))) = some r := by rw [if_neg (show ¬ (false = true) by decide)] at H; exact H
              clear H
              have H := H1
              clear H1
              replace H := Option.bind_eq_some_iff.mp H
              obtain ⟨⟨t718, t719⟩, A360, H⟩ := H
              replace H : (if t711 = t718 then (if t712 = t719 then ((regimenref14_Within.f kj24 a0_0 a0_1 a1 a2).bind fun t720 => (if t713 = t720 then ((regimenlaw14_awake.f kj24).bind fun t721 => (some t721)) else (none))) else (none)) else (none)) = some r := H
              have A36 := Aside0.mk A360
              clear A360
              by_cases c37 : t711 = t718
              · rw [if_pos c37] at H
                have c37b0 : (t711 == t718) = true := beq_iff_eq.mpr c37
                have c37b1 : (t711 != t718) = false := bne_eq_false_iff_eq.mpr c37
                clear c37
                by_cases c38 : t712 = t719
                · rw [if_pos c38] at H
                  have c38b0 : (t712 == t719) = true := beq_iff_eq.mpr c38
                  have c38b1 : (t712 != t719) = false := bne_eq_false_iff_eq.mpr c38
                  clear c38
                  replace H := Option.bind_eq_some_iff.mp H
                  obtain ⟨t720, A390, H⟩ := H
                  replace H : (if t713 = t720 then ((regimenlaw14_awake.f kj24).bind fun t721 => (some t721)) else (none)) = some r := H
                  have A39 := Aside0.mk A390
                  clear A390
                  by_cases c40 : t713 = t720
                  · rw [if_pos c40] at H
                    have c40b0 : (t713 == t720) = true := beq_iff_eq.mpr c40
                    have c40b1 : (t713 != t720) = false := bne_eq_false_iff_eq.mpr c40
                    clear c40
                    replace H := Option.bind_eq_some_iff.mp H
                    obtain ⟨t721, A410, H⟩ := H
                    replace H : (some t721) = some r := H
                    have A41 := Aside0.mk A410
                    clear A410
                    obtain rfl := Option.some.inj H
                    have hcz42_0 : wc.cell? ⟨gb710, 0, none⟩ = some (.int .i64 a0_0) := (blk_cell BK710.out 0).trans rfl
                    have hcz42_1 : wc.cell? ⟨gb710, 1, none⟩ = some (.int .i64 a0_1) := (blk_cell BK710.out 1).trans rfl
                    have hfz42_0 := blk_frozen BK710.out 0
                    have hfz42_1 := blk_frozen BK710.out 1
                    go_wp2_with (first | ((with_reducible refine gate_callee (f := 40) rfl ?_); refine goesL_ (some 73) rfl rfl Try.func40 (by kernel_rfl) rfl #[.agg #[.int .i64 a0_0, .int .i64 a0_1], .int .i64 a1, .int .i64 a2] rfl (by (try simp only [List.map_toArray, List.map_cons, List.map_nil]); first | done | rfl | (simp only [List.length_drop, List.length_take]; rfl)) ?_; (with_reducible refine (regimenref14_Steps.calls kj24 a0_0 a0_1 a1 a2 t718 t719 _ A36.out).mono ?_); rintro e w43 ⟨rfl, hb⟩; refine ⟨_, rfl, ?_⟩; have n0_ := Aside0.mk (blk_below (g := gb710) (o := .cells #[.int .i64 a0_0, .int .i64 a0_1] 60 (0, 0)) (by (with_reducible repeat (first | refine blk_drewN ?_ _ | refine blk_drew ?_ | refine blk_alloc ?_ _)); exact BK710.out) hb); have n1_ := Aside0.mk (below_step (by repeat (first | (with_reducible first | exact HB.out | apply below_alloc | apply pw_below_drewN | apply below_drew1 | refine below_set ?_ GE710.out) | exact HB.out)) hb); clear BK710; clear HB; have BK710 := n0_; have HB := n1_; clear n0_ n1_; (try clear hb); (try clear hb2); (try clear hk); (try clear hi); have hcz44_0 : w43.cell? ⟨gb710, 0, none⟩ = some (.int .i64 a0_0) := (blk_cell BK710.out 0).trans rfl; have hcz44_1 : w43.cell? ⟨gb710, 1, none⟩ = some (.int .i64 a0_1) := (blk_cell BK710.out 1).trans rfl; have hfz44_0 := blk_frozen BK710.out 0; have hfz44_1 := blk_frozen BK710.out 1) | (go_at_call 41; (with_reducible refine (regimenref14_Within.calls kj24 a0_0 a0_1 a1 a2 t720 _ A39.out).mono ?_); rintro e w45 ⟨rfl, hb⟩; have n0_ := Aside0.mk (blk_below (g := gb710) (o := .cells #[.int .i64 a0_0, .int .i64 a0_1] 60 (0, 0)) (by (with_reducible repeat (first | refine blk_drewN ?_ _ | refine blk_drew ?_ | refine blk_alloc ?_ _)); exact BK710.out) hb); have n1_ := Aside0.mk (below_step (by repeat (first | (with_reducible first | exact HB.out | apply below_alloc | apply pw_below_drewN | apply below_drew1 | refine below_set ?_ GE710.out) | exact HB.out)) hb); clear BK710; clear HB; have BK710 := n0_; have HB := n1_; clear n0_ n1_; (try clear hb); (try clear hb2); (try clear hk); (try clear hi)) | (go_at_call 31; (with_reducible refine (regimenlaw14_awake.calls kj24  t721 _ A41.out).mono ?_); rintro e w46 ⟨rfl, hb⟩; have n0_ := Aside0.mk (blk_below (g := gb710) (o := .cells #[.int .i64 a0_0, .int .i64 a0_1] 60 (0, 0)) (by (with_reducible repeat (first | refine blk_drewN ?_ _ | refine blk_drew ?_ | refine blk_alloc ?_ _)); exact BK710.out) hb); have n1_ := Aside0.mk (below_step (by repeat (first | (with_reducible first | exact HB.out | apply below_alloc | apply pw_below_drewN | apply below_drew1 | refine below_set ?_ GE710.out) | exact HB.out)) hb); clear BK710; clear HB; have BK710 := n0_; have HB := n1_; clear n0_ n1_; (try clear hb); (try clear hb2); (try clear hk); (try clear hi)))
                    go_ret
                    exact ⟨by first | rfl | (simp [errW_none, errW_some] <;> rfl) | (simp [*, errW_none, errW_some] <;> rfl), by repeat (first | (with_reducible first | exact HB.out | apply below_alloc | apply pw_below_drewN | apply below_drew1 | refine below_set ?_ GE710.out) | exact HB.out)⟩
                  · rw [if_neg c40] at H
                    exact absurd H (by simp)
                · rw [if_neg c38] at H
                  exact absurd H (by simp)
              · rw [if_neg c37] at H
                exact absurd H (by simp)

/-- THE ONE PURE STATEMENT of regimenlaw14_LengthSteps: yours. -/
def regimenlaw14_LengthSteps.Pure : Prop := ∀ (a0_0 : Int) (a0_1 : Int) (a1 : Int) (a2 : Int), ((Lit.int .i64 a0_0).wf = true) → ((Lit.int .i64 a0_1).wf = true) → ((Lit.int .i64 a1).wf = true) → ((Lit.int .i64 a2).wf = true) → ∃ k, regimenlaw14_LengthSteps.f k a0_0 a0_1 a1 a2 = some true
theorem regimenlaw14_LengthSteps.walk (P : regimenlaw14_LengthSteps.Pure) (a0_0 : Int) (a0_1 : Int) (a1 : Int) (a2 : Int) (w : World) (w0_0 : (Lit.int .i64 a0_0).wf = true) (w0_1 : (Lit.int .i64 a0_1).wf = true) (w1 : (Lit.int .i64 a1).wf = true) (w2 : (Lit.int .i64 a2).wf = true) :
    Calls Try.prog 10 #[.agg #[.int .i64 a0_0, .int .i64 a0_1], .int .i64 a1, .int .i64 a2] w fun e w' => e = .returned (.bool true) ∧ Below w.heap.size w w' := by
  obtain ⟨k, h⟩ := P a0_0 a0_1 a1 a2 w0_0 w0_1 w1 w2
  refine (regimenlaw14_LengthSteps.calls k a0_0 a0_1 a1 a2 true w h).mono ?_
  rintro e w' ⟨rfl, hd⟩
  exact ⟨rfl, hd⟩

end Go.Proofs.Ytnmmhfpekeeedaa.PL
