/- Go functions of this seat as plain Lean functions, each with a proof that its call comes to just what that function says, wherever that function says anything: written by a program of this session. -/
import Derived.Test.YtmakhhgfidgfdaaPBx0
import Derived.Test.YtmakhhgfidgfdaaPBx1
import Derived.Test.YtmakhhgfidgfdaaPBx3
import Derived.Test.YtmakhhgfidgfdaaPBx6
import Derived.Test.YtmakhhgfidgfdaaPBx11
namespace Go.Proofs.Ytmakhhgfidgfdaa.PB
open Go.RowKit Go.Proofs.YtmakhhgfidgfdaaW.PrintWords Go.Proofs.YtmakhhgfidgfdaaW.PrintLast Go.Proofs.YtmakhhgfidgfdaaW.PrintMore
attribute [local go_sem] max2_int min2_int max_two min_two max_three min_three max_four min_four   -- for this text's walks alone
set_option linter.unusedVariables false
set_option linter.unusedSimpArgs false

attribute [local go_sem] idx63_1
attribute [local go_sem high] eqA51
/-! ### regimenlaw30_EarlyStops: function 8 -/
mutual
def regimenlaw30_EarlyStops.j0 : Nat → List Int → Int → Bool → Bool → Int → Bool → Option (Bool)
  | 0, _, _, _, _, _, _ => none
  | k + 1, x0, x1, x16, x370000, x370001, x370002 => if x16 = true then ((regimenlaw30_awake.f k).bind fun t370 => (some t370)) else ((early_Stops.f k x0 x1 x370000 x370001 x370002).bind fun t371 => ((regimenref30_Stops.f k x0 x1 x370000 x370001 x370002).bind fun t372 => (if t371 = t372 then (regimenlaw30_EarlyStops.l0 k x0 x1 t371 0 x370000 x370001 x370002 false 0 0) else (none))))
def regimenlaw30_EarlyStops.l0 : Nat → List Int → Int → Int → Int → Bool → Int → Bool → Bool → Int → Int → Option (Bool)
  | 0, _, _, _, _, _, _, _, _, _, _ => none
  | k + 1, x0, x1, x7, x9, x370000, x370001, x370002, x374000, x374001, x374002 => if x9 < (x0.length : Int) then (if 0 ≤ x9 then ((regimenref30_Take.f k x374000 x374001 x374002 (rd x0 x9) x370000 x370001 x370002).bind fun bt379 => (if x7 ≥ 0 then (if x9 < x7 then ((early_Out.f bt379.1 bt379.2.1 bt379.2.2 x1).bind fun t382 => (if t382 = true then (none) else (if x9 = x7 then ((early_Out.f bt379.1 bt379.2.1 bt379.2.2 x1).bind fun t383 => (if t383 = true then (regimenlaw30_EarlyStops.l0 k x0 x1 x7 (wrap64 (x9 + 1)) x370000 x370001 x370002 bt379.1 bt379.2.1 bt379.2.2) else (none))) else (regimenlaw30_EarlyStops.l0 k x0 x1 x7 (wrap64 (x9 + 1)) x370000 x370001 x370002 bt379.1 bt379.2.1 bt379.2.2)))) else (if x9 = x7 then ((early_Out.f bt379.1 bt379.2.1 bt379.2.2 x1).bind fun t384 => (if t384 = true then (regimenlaw30_EarlyStops.l0 k x0 x1 x7 (wrap64 (x9 + 1)) x370000 x370001 x370002 bt379.1 bt379.2.1 bt379.2.2) else (none))) else (regimenlaw30_EarlyStops.l0 k x0 x1 x7 (wrap64 (x9 + 1)) x370000 x370001 x370002 bt379.1 bt379.2.1 bt379.2.2))) else (if x9 = x7 then ((early_Out.f bt379.1 bt379.2.1 bt379.2.2 x1).bind fun t385 => (if t385 = true then (regimenlaw30_EarlyStops.l0 k x0 x1 x7 (wrap64 (x9 + 1)) x370000 x370001 x370002 bt379.1 bt379.2.1 bt379.2.2) else (none))) else (regimenlaw30_EarlyStops.l0 k x0 x1 x7 (wrap64 (x9 + 1)) x370000 x370001 x370002 bt379.1 bt379.2.1 bt379.2.2)))) else (none)) else ((early_All.f k x0 x370000 x370001 x370002).bind fun bt374 => (if (bt374.1 == x374000 && (bt374.2.1 == x374001 && (bt374.2.2 == x374002))) = true then ((regimenlaw30_awake.f k).bind fun t377 => (some t377)) else (none)))
end
def regimenlaw30_EarlyStops.f (k : Nat) (l0 : List Int) (a1 : Int) (a2_0 : Bool) (a2_1 : Int) (a2_2 : Bool) : Option (Bool) := if (l0.length : Int) > 60 then (regimenlaw30_EarlyStops.j0 k l0 a1 true a2_0 a2_1 a2_2) else (regimenlaw30_EarlyStops.j0 k l0 a1 (decide (a1 > 1099511627776)) a2_0 a2_1 a2_2)
theorem regimenlaw30_EarlyStops.mono_l : ∀ k, (∀ y0 y1 y2 y3 y4 y5, LeO (regimenlaw30_EarlyStops.j0 k y0 y1 y2 y3 y4 y5) (regimenlaw30_EarlyStops.j0 (k + 1) y0 y1 y2 y3 y4 y5)) ∧ (∀ y0 y1 y2 y3 y4 y5 y6 y7 y8 y9, LeO (regimenlaw30_EarlyStops.l0 k y0 y1 y2 y3 y4 y5 y6 y7 y8 y9) (regimenlaw30_EarlyStops.l0 (k + 1) y0 y1 y2 y3 y4 y5 y6 y7 y8 y9))
  | 0 => ⟨fun _ _ _ _ _ _ r h => by simp [regimenlaw30_EarlyStops.j0] at h, fun _ _ _ _ _ _ _ _ _ _ r h => by simp [regimenlaw30_EarlyStops.l0] at h⟩
  | k + 1 => by
    obtain ⟨ih0, ih1⟩ := regimenlaw30_EarlyStops.mono_l k
    refine ⟨?_, ?_⟩
    · intro y0 y1 y2 y3 y4 y5
      unfold regimenlaw30_EarlyStops.j0
      repeat' first
      | (with_reducible exact ih0 _ _ _ _ _ _)
      | (with_reducible exact ih1 _ _ _ _ _ _ _ _ _ _)
      | (with_reducible exact early_All.mono _ _ _ _ _)
      | (with_reducible exact early_Stops.mono _ _ _ _ _ _)
      | (with_reducible exact regimenlaw30_awake.mono _)
      | (with_reducible exact regimenref30_Stops.mono _ _ _ _ _ _)
      | (with_reducible exact regimenref30_Take.mono _ _ _ _ _ _ _ _)
      | (with_reducible exact LeO.refl _)
      | (with_reducible exact LeO.none _)
      | (with_reducible refine LeO.ite ?_ ?_)
      | (with_reducible refine LeO.bind ?_ (fun _ => ?_))
      | exact ih0 _ _ _ _ _ _
      | exact ih1 _ _ _ _ _ _ _ _ _ _
      | exact early_All.mono _ _ _ _ _
      | exact early_Stops.mono _ _ _ _ _ _
      | exact regimenlaw30_awake.mono _
      | exact regimenref30_Stops.mono _ _ _ _ _ _
      | exact regimenref30_Take.mono _ _ _ _ _ _ _ _
      | exact LeO.none _
      | refine LeO.ite ?_ ?_
      | refine LeO.bind ?_ (fun _ => ?_)
    · intro y0 y1 y2 y3 y4 y5 y6 y7 y8 y9
      unfold regimenlaw30_EarlyStops.l0
      repeat' first
      | (with_reducible exact ih0 _ _ _ _ _ _)
      | (with_reducible exact ih1 _ _ _ _ _ _ _ _ _ _)
      | (with_reducible exact early_All.mono _ _ _ _ _)
      | (with_reducible exact early_Stops.mono _ _ _ _ _ _)
      | (with_reducible exact regimenlaw30_awake.mono _)
      | (with_reducible exact regimenref30_Stops.mono _ _ _ _ _ _)
      | (with_reducible exact regimenref30_Take.mono _ _ _ _ _ _ _ _)
      | (with_reducible exact LeO.refl _)
      | (with_reducible exact LeO.none _)
      | (with_reducible refine LeO.ite ?_ ?_)
      | (with_reducible refine LeO.bind ?_ (fun _ => ?_))
      | exact ih0 _ _ _ _ _ _
      | exact ih1 _ _ _ _ _ _ _ _ _ _
      | exact early_All.mono _ _ _ _ _
      | exact early_Stops.mono _ _ _ _ _ _
      | exact regimenlaw30_awake.mono _
      | exact regimenref30_Stops.mono _ _ _ _ _ _
      | exact regimenref30_Take.mono _ _ _ _ _ _ _ _
      | exact LeO.none _
      | refine LeO.ite ?_ ?_
      | refine LeO.bind ?_ (fun _ => ?_)
theorem regimenlaw30_EarlyStops.mono : ∀ a0 a1 a2 a3 a4 k, LeO (regimenlaw30_EarlyStops.f k a0 a1 a2 a3 a4) (regimenlaw30_EarlyStops.f (k + 1) a0 a1 a2 a3 a4) := by
  intro a0 a1 a2 a3 a4 k
  obtain ⟨ih0, ih1⟩ := regimenlaw30_EarlyStops.mono_l k
  unfold regimenlaw30_EarlyStops.f
  repeat' first
      | (with_reducible exact ih0 _ _ _ _ _ _)
      | (with_reducible exact ih1 _ _ _ _ _ _ _ _ _ _)
      | (with_reducible exact early_All.mono _ _ _ _ _)
      | (with_reducible exact early_Stops.mono _ _ _ _ _ _)
      | (with_reducible exact regimenlaw30_awake.mono _)
      | (with_reducible exact regimenref30_Stops.mono _ _ _ _ _ _)
      | (with_reducible exact regimenref30_Take.mono _ _ _ _ _ _ _ _)
      | (with_reducible exact LeO.refl _)
      | (with_reducible exact LeO.none _)
      | (with_reducible refine LeO.ite ?_ ?_)
      | (with_reducible refine LeO.bind ?_ (fun _ => ?_))
      | exact ih0 _ _ _ _ _ _
      | exact ih1 _ _ _ _ _ _ _ _ _ _
      | exact early_All.mono _ _ _ _ _
      | exact early_Stops.mono _ _ _ _ _ _
      | exact regimenlaw30_awake.mono _
      | exact regimenref30_Stops.mono _ _ _ _ _ _
      | exact regimenref30_Take.mono _ _ _ _ _ _ _ _
      | exact LeO.none _
      | refine LeO.ite ?_ ?_
      | refine LeO.bind ?_ (fun _ => ?_)
def regimenlaw30_EarlyStops.T10 : Bool × List (List Nat × List Nat) := (true, [([], []), ([], []), ([], []), ([1, 2], [1, 2]), ([3], [3]), ([], []), ([0, 4, 5], [0, 4, 5]), ([6, 6, 0, 1, 2, 3, 4, 5, 6], [6])])
def regimenlaw30_EarlyStops.B10 : List Nat := [0, 0, 0, 6, 14, 0, 63, 127]
theorem regimenlaw30_EarlyStops.tab10 : rtab .any (opsOf Try.f8 10) = regimenlaw30_EarlyStops.T10 := by kernel_rfl
theorem regimenlaw30_EarlyStops.bits10 : waitsOk regimenlaw30_EarlyStops.T10.2 regimenlaw30_EarlyStops.B10 = true := by kernel_rfl
def regimenlaw30_EarlyStops.T13 : Bool × List (List Nat × List Nat) := (true, [([], []), ([], []), ([0, 1], [0, 1]), ([], []), ([2, 3], [2, 3]), ([4, 2], [4]), ([5, 5], [5]), ([5, 6], [5, 6]), ([7, 6, 0, 1, 2, 3, 4, 5, 6, 7], [7])])
def regimenlaw30_EarlyStops.B13 : List Nat := [0, 0, 3, 0, 15, 31, 63, 127, 255]
theorem regimenlaw30_EarlyStops.tab13 : rtab .any (opsOf Try.f8 13) = regimenlaw30_EarlyStops.T13 := by kernel_rfl
theorem regimenlaw30_EarlyStops.bits13 : waitsOk regimenlaw30_EarlyStops.T13.2 regimenlaw30_EarlyStops.B13 = true := by kernel_rfl
set_option maxHeartbeats 8000000 in
set_option maxRecDepth 100000 in
theorem regimenlaw30_EarlyStops.calls (k : Nat) (A0 : Option Addr) (c0 : Nat) (l0 : List Int) (a1 : Int) (a2_0 : Bool) (a2_1 : Int) (a2_2 : Bool) (r : Bool) (w : World) (hr0 : Kd.C (Kd.int .i64) w A0 l0.length l0) (hc0 : l0.length ≤ c0) (h : regimenlaw30_EarlyStops.f k l0 a1 a2_0 a2_1 a2_2 = some r) :
    Calls Try.prog 8 #[.slice A0 l0.length c0, .int .i64 a1, .agg #[.bool a2_0, .int .i64 a2_1, .bool a2_2]] w fun e w' => e = .returned (.bool r) ∧ Below w.heap.size w w' := by
  have hu44 := Try.underlying44
  have hu51 := Try.underlying51
  have HR0 := Aside0.mk hr0
  have HC0 := Aside0.mk hc0
  clear hr0 hc0
  have HB := Aside0.mk (Below.refl w.heap.size w)
  have H : (if (l0.length : Int) > 60 then (regimenlaw30_EarlyStops.j0 k l0 a1 true a2_0 a2_1 a2_2) else (regimenlaw30_EarlyStops.j0 k l0 a1 (decide (a1 > 1099511627776)) a2_0 a2_1 a2_2)) = some r := h
  clear h
  have HC4 := Aside0.mk H
  clear H
  go_enter Try.func8, Try.ntmps8
  go_upto_region 1 with (first | ((with_reducible refine gate_dst (N := 5) rfl ?_); refine box_event ?hg (N := 5) ?hd (cs := #[.bool a2_0, .int .i64 a2_1, .bool a2_2]) (t := 44) ?hr ?_; (case hd => rfl); (case hg => rfl); (case hr => first | (go_simp; done) | (go_simp; rfl)); intro gb369 hg w5 hbox hb; have n0_ := Aside0.mk (below_step (by repeat (first | (with_reducible first | exact HB.out | apply below_alloc | apply pw_below_drewN | apply below_drew1) | exact HB.out)) hb); have n1_ := Aside0.mk (hbox); have n2_ := Aside0.mk ((by rw [hg]; exact (below_size (by repeat (first | (with_reducible first | exact HB.out | apply below_alloc | apply pw_below_drewN | apply below_drew1) | exact HB.out))) : w.heap.size ≤ gb369)); have n3_ := Aside0.mk ((by rw [hg]; exact (below_size (by repeat (first | (with_reducible first | exact HB.out | apply below_alloc | apply pw_below_drewN | apply below_drew1) | exact HB.out))) : w.heap.size ≤ gb369)); clear HB; have HB := n0_; have BK369 := n1_; have GW369 := n2_; have GE369 := n3_; clear n0_ n1_ n2_ n3_; clear hb hbox hg))
  (try simp only [Act.put, List.setIfInBounds_toArray, List.set_cons_zero, List.set_cons_succ])
  go_cut [16] (fun v16 wc => ∃ (kq : Nat) (x16_3 : Bool), v16 = .bool x16_3 ∧ Aside0 (regimenlaw30_EarlyStops.j0 kq l0 a1 x16_3 a2_0 a2_1 a2_2 = some r) ∧ Aside0 (kq ≤ k) ∧ Aside0 (wc.heap[gb369]? = some (.cells #[.bool a2_0, .int .i64 a2_1, .bool a2_2] 44 (0, 0))) ∧ Aside0 (Below w.heap.size w wc))
  case first =>
    have H := HC4.out
    clear HC4
    by_cases c6 : (l0.length : Int) > 60
    · rw [if_pos c6] at H
      have c6b0 : decide (60 < (l0.length : Int)) = true := decide_eq_true c6
      have c6b1 : decide (60 < l0.length) = true := decide_eq_true (by omega)
      clear c6
      (first | rw [c6b0] | rw [c6b1] | (simp only [i64_w, i32_w]; rw [c6b0]) | skip)
      have H' := Aside0.mk H
      clear H
      go_wp2
      go_meet
      case rel => exact ⟨_, (true), (by first | rfl | (simp; done) | (simp [*]; done)), H', ⟨by first | omega | exact Nat.le_refl _⟩, ⟨by (with_reducible repeat (first | refine blk_drewN ?_ _ | refine blk_drew ?_ | refine blk_alloc ?_ _)); exact BK369.out⟩, ⟨by repeat (first | (with_reducible first | exact HB.out | apply below_alloc | apply pw_below_drewN | apply below_drew1 | refine below_set ?_ GE369.out) | exact HB.out)⟩⟩
    · rw [if_neg c6] at H
      have c6b0 : decide (60 < (l0.length : Int)) = false := decide_eq_false c6
      have c6b1 : decide (60 < l0.length) = false := decide_eq_false (by omega)
      clear c6
      (first | rw [c6b0] | rw [c6b1] | (simp only [i64_w, i32_w]; rw [c6b0]) | skip)
      have H' := Aside0.mk H
      clear H
      go_wp2
      go_meet
      case rel => exact ⟨_, (decide (a1 > 1099511627776)), (by first | rfl | (simp; done) | (simp [*]; done)), H', ⟨by first | omega | exact Nat.le_refl _⟩, ⟨by (with_reducible repeat (first | refine blk_drewN ?_ _ | refine blk_drew ?_ | refine blk_alloc ?_ _)); exact BK369.out⟩, ⟨by repeat (first | (with_reducible first | exact HB.out | apply below_alloc | apply pw_below_drewN | apply below_drew1 | refine below_set ?_ GE369.out) | exact HB.out)⟩⟩
  case rest =>
    clear HC4
    try clear p2
    try clear c6
    try clear c6b0
    try clear c6b1
    obtain ⟨kq, x16_3, rfl, HA, HJ3, BK369, HB⟩ := hcut
    cases kq with
    | zero => exact absurd HA.out (by simp [regimenlaw30_EarlyStops.j0])
    | succ kj3 =>
      have H := HA.out
      clear HA
      simp only [regimenlaw30_EarlyStops.j0] at H
      by_cases c7 : x16_3 = true
      · subst c7
        have H1 : ((regimenlaw30_awake.f kj3).bind fun t370 => (some t370)) = some r := by rw [if_pos rfl] at H; exact H
        clear H
        have H := H1
        clear H1
        replace H := Option.bind_eq_some_iff.mp H
        obtain ⟨t370, A80, H⟩ := H
        replace H : (some t370) = some r := H
        have A8 := Aside0.mk A80
        clear A80
        obtain rfl := Option.some.inj H
        go_wp2_with (first | ((with_reducible refine gate_callee (f := 32) rfl ?_); refine goesL_ (some 17) rfl rfl Try.func32 (by kernel_rfl) rfl #[] rfl (by (try simp only [List.map_toArray, List.map_cons, List.map_nil]); first | done | rfl | (simp only [List.length_drop, List.length_take]; rfl)) ?_; (with_reducible refine (regimenlaw30_awake.calls kj3  t370 _ A8.out).mono ?_); rintro e w9 ⟨rfl, hb⟩; refine ⟨_, rfl, ?_⟩; have n0_ := Aside0.mk (blk_below (g := gb369) (o := .cells #[.bool a2_0, .int .i64 a2_1, .bool a2_2] 44 (0, 0)) (by (with_reducible repeat (first | refine blk_drewN ?_ _ | refine blk_drew ?_ | refine blk_alloc ?_ _)); exact BK369.out) hb); have n1_ := Aside0.mk (below_step (by repeat (first | (with_reducible first | exact HB.out | apply below_alloc | apply pw_below_drewN | apply below_drew1 | refine below_set ?_ GE369.out) | exact HB.out)) hb); clear BK369; clear HB; have BK369 := n0_; have HB := n1_; clear n0_ n1_; (try clear hb); (try clear hb2); (try clear hk); (try clear hi)))
        go_ret
        exact ⟨by first | rfl | (simp [errW_none, errW_some] <;> rfl) | (simp [*, errW_none, errW_some] <;> rfl), by repeat (first | (with_reducible first | exact HB.out | apply below_alloc | apply pw_below_drewN | apply below_drew1 | refine below_set ?_ GE369.out) | exact HB.out)⟩
      · replace c7 := Bool.eq_false_iff.mpr c7
        subst c7
        have H1 : ((early_Stops.f kj3 l0 a1 a2_0 a2_1 a2_2).bind fun t371 => ((regimenref30_Stops.f kj3 l0 a1 a2_0 a2_1 a2_2).bind fun t372 => (if t371 = t372 then (regimenlaw30_EarlyStops.l0 kj3 l0 a1 t371 0 a2_0 a2_1 a2_2 false 0 0) else (none)))) = some r := by rw [if_neg (show ¬ (false = true) by decide)] at H; exact H
        clear H
        have H := H1
        clear H1
        replace H := Option.bind_eq_some_iff.mp H
        obtain ⟨t371, A100, H⟩ := H
        replace H : ((regimenref30_Stops.f kj3 l0 a1 a2_0 a2_1 a2_2).bind fun t372 => (if t371 = t372 then (regimenlaw30_EarlyStops.l0 kj3 l0 a1 t371 0 a2_0 a2_1 a2_2 false 0 0) else (none))) = some r := H
        have A10 := Aside0.mk A100
        clear A100
        replace H := Option.bind_eq_some_iff.mp H
        obtain ⟨t372, A110, H⟩ := H
        replace H : (if t371 = t372 then (regimenlaw30_EarlyStops.l0 kj3 l0 a1 t371 0 a2_0 a2_1 a2_2 false 0 0) else (none)) = some r := H
        have A11 := Aside0.mk A110
        clear A110
        by_cases c12 : t371 = t372
        · rw [if_pos c12] at H
          have c12b0 : (t371 == t372) = true := beq_iff_eq.mpr c12
          have c12b1 : (t371 != t372) = false := bne_eq_false_iff_eq.mpr c12
          clear c12
          have H' := Aside0.mk H
          clear H
          have hcz13_0 : wc.cell? ⟨gb369, 0, none⟩ = some (.bool a2_0) := (blk_cell BK369.out 0).trans rfl
          have hcz13_1 : wc.cell? ⟨gb369, 1, none⟩ = some (.int .i64 a2_1) := (blk_cell BK369.out 1).trans rfl
          have hcz13_2 : wc.cell? ⟨gb369, 2, none⟩ = some (.bool a2_2) := (blk_cell BK369.out 2).trans rfl
          have hfz13_0 := blk_frozen BK369.out 0
          have hfz13_1 := blk_frozen BK369.out 1
          have hfz13_2 := blk_frozen BK369.out 2
          go_wp2_with (first | ((with_reducible refine gate_callee (f := 33) rfl ?_); refine goesL_ (some 21) rfl rfl Try.func33 (by kernel_rfl) rfl #[.slice A0 l0.length c0, .int .i64 a1, .agg #[.bool a2_0, .int .i64 a2_1, .bool a2_2]] rfl (by (try simp only [List.map_toArray, List.map_cons, List.map_nil]); first | done | rfl | (simp only [List.length_drop, List.length_take]; rfl)) ?_; (with_reducible refine (early_Stops.calls kj3 _ _ l0 a1 a2_0 a2_1 a2_2 t371 _ ?side1 ?side2 A10.out).mono ?_); (case side1 => repeat (first | exact (Kd.C_below HR0.out HB.out) | (with_reducible refine Kd.C_alloc ?_ _) | (with_reducible refine Kd.C_drewN ?_ _) | (with_reducible refine Kd.C_drew ?_))); (case side2 => exact HC0.out); rintro e w14 ⟨rfl, hb⟩; refine ⟨_, rfl, ?_⟩; have n0_ := Aside0.mk (blk_below (g := gb369) (o := .cells #[.bool a2_0, .int .i64 a2_1, .bool a2_2] 44 (0, 0)) (by (with_reducible repeat (first | refine blk_drewN ?_ _ | refine blk_drew ?_ | refine blk_alloc ?_ _)); exact BK369.out) hb); have n1_ := Aside0.mk (below_step (by repeat (first | (with_reducible first | exact HB.out | apply below_alloc | apply pw_below_drewN | apply below_drew1 | refine below_set ?_ GE369.out) | exact HB.out)) hb); clear BK369; clear HB; have BK369 := n0_; have HB := n1_; clear n0_ n1_; (try clear hb); (try clear hb2); (try clear hk); (try clear hi); have hcz15_0 : w14.cell? ⟨gb369, 0, none⟩ = some (.bool a2_0) := (blk_cell BK369.out 0).trans rfl; have hcz15_1 : w14.cell? ⟨gb369, 1, none⟩ = some (.int .i64 a2_1) := (blk_cell BK369.out 1).trans rfl; have hcz15_2 : w14.cell? ⟨gb369, 2, none⟩ = some (.bool a2_2) := (blk_cell BK369.out 2).trans rfl; have hfz15_0 := blk_frozen BK369.out 0; have hfz15_1 := blk_frozen BK369.out 1; have hfz15_2 := blk_frozen BK369.out 2) | ((with_reducible refine gate_callee (f := 34) rfl ?_); refine goesL_ (some 26) rfl rfl Try.func34 (by kernel_rfl) rfl #[.slice A0 l0.length c0, .int .i64 a1, .agg #[.bool a2_0, .int .i64 a2_1, .bool a2_2]] rfl (by (try simp only [List.map_toArray, List.map_cons, List.map_nil]); first | done | rfl | (simp only [List.length_drop, List.length_take]; rfl)) ?_; (with_reducible refine (regimenref30_Stops.calls kj3 _ _ l0 a1 a2_0 a2_1 a2_2 t372 _ ?side1 ?side2 A11.out).mono ?_); (case side1 => repeat (first | exact (Kd.C_below HR0.out HB.out) | (with_reducible refine Kd.C_alloc ?_ _) | (with_reducible refine Kd.C_drewN ?_ _) | (with_reducible refine Kd.C_drew ?_))); (case side2 => exact HC0.out); rintro e w16 ⟨rfl, hb⟩; refine ⟨_, rfl, ?_⟩; have n0_ := Aside0.mk (blk_below (g := gb369) (o := .cells #[.bool a2_0, .int .i64 a2_1, .bool a2_2] 44 (0, 0)) (by (with_reducible repeat (first | refine blk_drewN ?_ _ | refine blk_drew ?_ | refine blk_alloc ?_ _)); exact BK369.out) hb); have n1_ := Aside0.mk (below_step (by repeat (first | (with_reducible first | exact HB.out | apply below_alloc | apply pw_below_drewN | apply below_drew1 | refine below_set ?_ GE369.out) | exact HB.out)) hb); clear BK369; clear HB; have BK369 := n0_; have HB := n1_; clear n0_ n1_; (try clear hb); (try clear hb2); (try clear hk); (try clear hi)) | ((with_reducible refine gate_dst (N := 8) rfl ?_); refine box_event ?hg (N := 8) ?hd (cs := #[.bool false, .int .i64 0, .int .i64 0]) (t := 51) ?hr ?_; (case hd => rfl); (case hg => rfl); (case hr => first | (go_simp; done) | (go_simp; rfl)); intro gb373 hg w17 hbox hb; have n0_ := Aside0.mk (blk_below (g := gb369) (o := .cells #[.bool a2_0, .int .i64 a2_1, .bool a2_2] 44 (0, 0)) (by (with_reducible repeat (first | refine blk_drewN ?_ _ | refine blk_drew ?_ | refine blk_alloc ?_ _)); exact BK369.out) hb); have n1_ := Aside0.mk (below_step (by repeat (first | (with_reducible first | exact HB.out | apply below_alloc | apply pw_below_drewN | apply below_drew1 | refine below_set ?_ GE369.out) | exact HB.out)) hb); have n2_ := Aside0.mk (hbox); have n3_ := Aside0.mk ((by rw [hg]; exact (below_size (by repeat (first | (with_reducible first | exact HB.out | apply below_alloc | apply pw_below_drewN | apply below_drew1 | refine below_set ?_ GE369.out) | exact HB.out))) : w.heap.size ≤ gb373)); have n4_ := Aside0.mk ((by rw [hg]; exact (below_size (by repeat (first | (with_reducible first | exact HB.out | apply below_alloc | apply pw_below_drewN | apply below_drew1 | refine below_set ?_ GE369.out) | exact HB.out))) : w.heap.size ≤ gb373)); have n5_ := Aside0.mk ((by rw [hg]; exact Nat.ne_of_lt (blk_lt (g := gb369) (o := .cells #[.bool a2_0, .int .i64 a2_1, .bool a2_2] 44 (0, 0)) (by (with_reducible repeat (first | refine blk_drewN ?_ _ | refine blk_drew ?_ | refine blk_alloc ?_ _)); exact BK369.out)) : gb369 ≠ gb373)); have n6_ := Aside0.mk ((by rw [hg]; exact Nat.ne_of_gt (blk_lt (g := gb369) (o := .cells #[.bool a2_0, .int .i64 a2_1, .bool a2_2] 44 (0, 0)) (by (with_reducible repeat (first | refine blk_drewN ?_ _ | refine blk_drew ?_ | refine blk_alloc ?_ _)); exact BK369.out)) : gb373 ≠ gb369)); clear BK369; clear HB; have BK369 := n0_; have HB := n1_; have BK373 := n2_; have GW373 := n3_; have GE373 := n4_; have NB369_373 := n5_; have NB373_369 := n6_; clear n0_ n1_ n2_ n3_ n4_ n5_ n6_; clear hb hbox hg; have hnb18 := NB373_369.out; have hnc18 := NB369_373.out; have hcz19_0 : w17.cell? ⟨gb373, 0, none⟩ = some (.bool false) := (blk_cell BK373.out 0).trans rfl; have hcz19_1 : w17.cell? ⟨gb373, 1, none⟩ = some (.int .i64 0) := (blk_cell BK373.out 1).trans rfl; have hcz19_2 : w17.cell? ⟨gb373, 2, none⟩ = some (.int .i64 0) := (blk_cell BK373.out 2).trans rfl; have hfz19_0 := blk_frozen BK373.out 0; have hfz19_1 := blk_frozen BK373.out 1; have hfz19_2 := blk_frozen BK373.out 2))
          go_loopg [9] kj3 (fun kq v9 w' => ∃ (x9_2 : Int) (x374000_2 : Bool) (x374001_2 : Int) (x374002_2 : Int), v9 = .int .i64 x9_2 ∧ Aside0 (regimenlaw30_EarlyStops.l0 kq l0 a1 t371 x9_2 a2_0 a2_1 a2_2 x374000_2 x374001_2 x374002_2 = some r) ∧ Aside0 (kq ≤ kj3) ∧ Aside0 (w'.heap[gb369]? = some (.cells #[.bool a2_0, .int .i64 a2_1, .bool a2_2] 44 (0, 0))) ∧ Aside0 (w'.heap[gb373]? = some (.cells #[.bool x374000_2, .int .i64 x374001_2, .int .i64 x374002_2] 51 (0, 0))) ∧ Aside0 (Below w.heap.size w w'))
          case atStart => exact ⟨(0), (false), (0), (0), (by first | rfl | (simp; done) | (simp [*]; done)), H', ⟨Nat.le_refl _⟩, ⟨by (with_reducible repeat (first | refine blk_drewN ?_ _ | refine blk_drew ?_ | refine blk_alloc ?_ _)); refine blk_far ?_ NB369_373.out _; (with_reducible repeat (first | refine blk_drewN ?_ _ | refine blk_drew ?_ | refine blk_alloc ?_ _)); refine blk_far ?_ NB369_373.out _; (with_reducible repeat (first | refine blk_drewN ?_ _ | refine blk_drew ?_ | refine blk_alloc ?_ _)); refine blk_far ?_ NB369_373.out _; (with_reducible repeat (first | refine blk_drewN ?_ _ | refine blk_drew ?_ | refine blk_alloc ?_ _)); exact BK369.out⟩, ⟨by (with_reducible repeat (first | refine blk_drewN ?_ _ | refine blk_drew ?_ | refine blk_alloc ?_ _)); refine blk_put (cs := #[.bool false, .int .i64 0, .int .i64 0]) ?_ 2 _ rfl; (with_reducible repeat (first | refine blk_drewN ?_ _ | refine blk_drew ?_ | refine blk_alloc ?_ _)); refine blk_put (cs := #[.bool false, .int .i64 0, .int .i64 0]) ?_ 1 _ rfl; (with_reducible repeat (first | refine blk_drewN ?_ _ | refine blk_drew ?_ | refine blk_alloc ?_ _)); refine blk_put (cs := #[.bool false, .int .i64 0, .int .i64 0]) ?_ 0 _ rfl; (with_reducible repeat (first | refine blk_drewN ?_ _ | refine blk_drew ?_ | refine blk_alloc ?_ _)); exact BK373.out⟩, ⟨by repeat (first | (with_reducible first | exact HB.out | apply below_alloc | apply pw_below_drewN | apply below_drew1 | refine below_set ?_ GE369.out | refine below_set ?_ GE373.out) | exact HB.out)⟩⟩
          case round =>
            clear H'
            try clear c1
            try clear p2
            try clear c3
            try clear c6
            try clear c6b0
            try clear c6b1
            try clear c7
            try clear c8
            try clear c12
            try clear c12b0
            try clear c12b1
            try clear c18
            try clear hcz13_0
            try clear hcz13_1
            try clear hcz13_2
            try clear hcz15_0
            try clear hcz15_1
            try clear hcz15_2
            try clear hcz19_0
            try clear hcz19_1
            try clear hcz19_2
            try clear hfz13_0
            try clear hfz13_1
            try clear hfz13_2
            try clear hfz15_0
            try clear hfz15_1
            try clear hfz15_2
            try clear hfz19_0
            try clear hfz19_1
            try clear hfz19_2
            try clear p2
            obtain ⟨x9_2, x374000_2, x374001_2, x374002_2, rfl, HA, HK2, BK369, BK373, HB⟩ := hrel
            cases gk with
            | zero => exact absurd HA.out (by simp [regimenlaw30_EarlyStops.l0])
            | succ k2 =>
              have H := HA.out
              clear HA
              simp only [regimenlaw30_EarlyStops.l0] at H
              by_cases c20 : x9_2 < (l0.length : Int)
              · rw [if_pos c20] at H
                have c20b0 : decide (x9_2 < (l0.length : Int)) = true := decide_eq_true c20
                clear c20
                by_cases c21 : 0 ≤ x9_2
                · rw [if_pos c21] at H
                  have c21b0 : decide (0 ≤ x9_2) = true := decide_eq_true c21
                  clear c21
                  replace H := Option.bind_eq_some_iff.mp H
                  obtain ⟨⟨t379, t380, t381⟩, A220, H⟩ := H
                  replace H : (if t371 ≥ 0 then (if x9_2 < t371 then ((early_Out.f t379 t380 t381 a1).bind fun t382 => (if t382 = true then (none) else (if x9_2 = t371 then ((early_Out.f t379 t380 t381 a1).bind fun t383 => (if t383 = true then (regimenlaw30_EarlyStops.l0 k2 l0 a1 t371 (wrap64 (x9_2 + 1)) a2_0 a2_1 a2_2 t379 t380 t381) else (none))) else (regimenlaw30_EarlyStops.l0 k2 l0 a1 t371 (wrap64 (x9_2 + 1)) a2_0 a2_1 a2_2 t379 t380 t381)))) else (if x9_2 = t371 then ((early_Out.f t379 t380 t381 a1).bind fun t384 => (if t384 = true then (regimenlaw30_EarlyStops.l0 k2 l0 a1 t371 (wrap64 (x9_2 + 1)) a2_0 a2_1 a2_2 t379 t380 t381) else (none))) else (regimenlaw30_EarlyStops.l0 k2 l0 a1 t371 (wrap64 (x9_2 + 1)) a2_0 a2_1 a2_2 t379 t380 t381))) else (if x9_2 = t371 then ((early_Out.f t379 t380 t381 a1).bind fun t385 => (if t385 = true then (regimenlaw30_EarlyStops.l0 k2 l0 a1 t371 (wrap64 (x9_2 + 1)) a2_0 a2_1 a2_2 t379 t380 t381) else (none))) else (regimenlaw30_EarlyStops.l0 k2 l0 a1 t371 (wrap64 (x9_2 + 1)) a2_0 a2_1 a2_2 t379 t380 t381))) = some r := H
                  have A22 := Aside0.mk A220
                  clear A220
                  by_cases c23 : t371 ≥ 0
                  · rw [if_pos c23] at H
                    have c23b0 : decide (0 ≤ t371) = true := decide_eq_true c23
                    clear c23
                    by_cases c24 : x9_2 < t371
                    · rw [if_pos c24] at H
                      have c24b0 : decide (x9_2 < t371) = true := decide_eq_true c24
                      clear c24
                      replace H := Option.bind_eq_some_iff.mp H
                      obtain ⟨t382, A250, H⟩ := H
                      replace H : (if t382 = true then (none) else (if x9_2 = t371 then ((early_Out.f t379 t380 t381 a1).bind fun t383 => (if t383 = true then (regimenlaw30_EarlyStops.l0 k2 l0 a1 t371 (wrap64 (x9_2 + 1)) a2_0 a2_1 a2_2 t379 t380 t381) else (none))) else (regimenlaw30_EarlyStops.l0 k2 l0 a1 t371 (wrap64 (x9_2 + 1)) a2_0 a2_1 a2_2 t379 t380 t381))) = some r := H
                      have A25 := Aside0.mk A250
                      clear A250
                      by_cases c26 : t382 = true
                      · subst c26
                        have H1 : (none) = some r := by rw [if_pos rfl] at H; exact H
                        clear H
                        have H := H1
                        clear H1
                        exact absurd H (by simp)
                      · replace c26 := Bool.eq_false_iff.mpr c26
                        subst c26
                        have H1 : (if x9_2 = t371 then ((early_Out.f t379 t380 t381 a1).bind fun t383 => (if t383 = true then (regimenlaw30_EarlyStops.l0 k2 l0 a1 t371 (wrap64 (x9_2 + 1)) a2_0 a2_1 a2_2 t379 t380 t381) else (none))) else (regimenlaw30_EarlyStops.l0 k2 l0 a1 t371 (wrap64 (x9_2 + 1)) a2_0 a2_1 a2_2 t379 t380 t381)) = some r := by rw [if_neg (show ¬ (false = true) by decide)] at H; exact H
                        clear H
                        have H := H1
                        clear H1
                        by_cases c27 : x9_2 = t371
                        · rw [if_pos c27] at H
                          have c27b0 : (x9_2 == t371) = true := beq_iff_eq.mpr c27
                          have c27b1 : (x9_2 != t371) = false := bne_eq_false_iff_eq.mpr c27
                          clear c27
                          replace H := Option.bind_eq_some_iff.mp H
                          obtain ⟨t383, A280, H⟩ := H
                          replace H : (if t383 = true then (regimenlaw30_EarlyStops.l0 k2 l0 a1 t371 (wrap64 (x9_2 + 1)) a2_0 a2_1 a2_2 t379 t380 t381) else (none)) = some r := H
                          have A28 := Aside0.mk A280
                          clear A280
                          by_cases c29 : t383 = true
                          · subst c29
                            have H1 : (regimenlaw30_EarlyStops.l0 k2 l0 a1 t371 (wrap64 (x9_2 + 1)) a2_0 a2_1 a2_2 t379 t380 t381) = some r := by rw [if_pos rfl] at H; exact H
                            clear H
                            have H := H1
                            clear H1
                            have H' := Aside0.mk H
                            clear H
                            try go_wp2
                            have n0_ := Aside0.mk (blk_drew BK369.out)
                            have n1_ := Aside0.mk (blk_drew BK373.out)
                            have n2_ := Aside0.mk (below_drew1 HB.out)
                            clear BK369
                            clear BK373
                            clear HB
                            have BK369 := n0_
                            have BK373 := n1_
                            have HB := n2_
                            clear n0_ n1_ n2_
                            have p378 : 0 ≤ (x9_2 : Int) := of_decide_eq_true (by first | (with_reducible assumption) | assumption)
                            have q378 : x9_2 < (l0.length : Int) := of_decide_eq_true (by first | (with_reducible assumption) | assumption)
                            obtain ⟨ad378, e378, hx378_0⟩ := Kd.at_int HR0.out x9_2 p378 q378
                            have hw378_0 := hx378_0
                            cases e378
                            replace hx378_0 := (HB.out.cell (World.block_lt_of_cell? w _ hx378_0)).trans hx378_0
                            replace p378 := eq_true p378
                            replace q378 := eq_true q378
                            refine start_ (n := 8) (S := fun w' => w'.cell? ⟨gb373, 0, none⟩ = some (.bool x374000_2) ∧ w'.cell? ⟨gb373, 1, none⟩ = some (.int .i64 x374001_2) ∧ w'.cell? ⟨gb373, 2, none⟩ = some (.int .i64 x374002_2) ∧ w'.cell? ⟨gb369, 0, none⟩ = some (.bool a2_0) ∧ w'.cell? ⟨gb369, 1, none⟩ = some (.int .i64 a2_1) ∧ w'.cell? ⟨gb369, 2, none⟩ = some (.bool a2_2) ∧ w'.cell? (ad378.add (x9_2).toNat) = some (.int .i64 (rd l0 x9_2))) (ds := [7]) #[false, false, false, false, false, false, false, false] (by kernel_rfl) rfl rfl ⟨(blk_cell BK373.out 0).trans rfl, (blk_cell BK373.out 1).trans rfl, (blk_cell BK373.out 2).trans rfl, (blk_cell BK369.out 0).trans rfl, (blk_cell BK369.out 1).trans rfl, (blk_cell BK369.out 2).trans rfl, ((HB.out.cell (World.block_lt_of_cell? w _ hw378_0)).trans hw378_0)⟩ (fun hHeld => ?_); refine with_tabW regimenlaw30_EarlyStops.tab10 regimenlaw30_EarlyStops.bits10 (fun HT_ HW_ => ?_)
                            generalize wr.drew = w30 at BK369 BK373 HB hx378_0 hHeld ⊢
                            refine pure_ (i := 1) (N := some 36) (v := ?_) (a' := ?_) #[false, true, false, false, false, false, false, false] rfl rfl (any_of HT_.out (by kernel_rfl)) (fun _ _ _ h => h) (Or.inl ⟨by rfl, ?_⟩) ?_ ?_
                            rotate_left
                            · intro w'
                              go_simp
                              with_reducible rfl
                            rotate_left
                            · simp only [Act.put, List.setIfInBounds_toArray, List.set_cons_zero, List.set_cons_succ, i64_w, i32_w]
                              rfl
                            refine pure_ (i := 2) (N := some 37) (v := ?_) (a' := ?_) #[false, true, true, false, false, false, false, false] rfl rfl (any_of HT_.out (by kernel_rfl)) (fun _ _ _ h => h) (Or.inl ⟨by rfl, ?_⟩) ?_ ?_
                            rotate_left
                            · intro w'
                              go_simp
                              with_reducible rfl
                            rotate_left
                            · simp only [Act.put, List.setIfInBounds_toArray, List.set_cons_zero, List.set_cons_succ, i64_w, i32_w]
                              rfl
                            refine pure_ (i := 3) (N := some 38) (v := ?_) (a' := ?_) #[false, true, true, true, false, false, false, false] rfl rfl (any_of HT_.out (by kernel_rfl)) (fun _ _ _ h => h) (Or.inl ⟨by rfl, ?_⟩) ?_ ?_
                            rotate_left
                            · intro w'
                              go_simp
                              with_reducible rfl
                            rotate_left
                            · simp only [Act.put, List.setIfInBounds_toArray, List.set_cons_zero, List.set_cons_succ, i64_w, i32_w]
                              rfl
                            refine take_ (i := 0) (N := some 35) (v := ?_) (a' := ?_) #[true, true, true, true, false, false, false, false] rfl rfl (take_ofW HT_.out HW_.out (by kernel_rfl)) (fun _ _ _ h => h) (Or.inl ⟨by rfl, ?_⟩) hHeld ?_ ?_
                            rotate_left
                            · rintro w' ⟨s0, s1, s2, s3, s4, s5, s6⟩
                              go_simp
                              with_reducible rfl
                            rotate_left
                            · simp only [Act.put, List.setIfInBounds_toArray, List.set_cons_zero, List.set_cons_succ, i64_w, i32_w]
                              rfl
                            refine take_ (i := 4) (N := some 39) (v := ?_) (a' := ?_) #[true, true, true, true, true, false, false, false] rfl rfl (take_ofW HT_.out HW_.out (by kernel_rfl)) (fun _ _ _ h => h) (Or.inl ⟨by rfl, ?_⟩) hHeld ?_ ?_
                            rotate_left
                            · rintro w' ⟨s0, s1, s2, s3, s4, s5, s6⟩
                              go_simp
                              with_reducible rfl
                            rotate_left
                            · simp only [Act.put, List.setIfInBounds_toArray, List.set_cons_zero, List.set_cons_succ, i64_w, i32_w]
                              rfl
                            refine take_ (i := 5) (N := some 40) (v := ?_) (a' := ?_) #[true, true, true, true, true, true, false, false] rfl rfl (take_ofW HT_.out HW_.out (by kernel_rfl)) (fun _ _ _ h => h) (Or.inl ⟨by rfl, ?_⟩) hHeld ?_ ?_
                            rotate_left
                            · rintro w' ⟨s0, s1, s2, s3, s4, s5, s6⟩
                              go_simp
                              with_reducible rfl
                            rotate_left
                            · simp only [Act.put, List.setIfInBounds_toArray, List.set_cons_zero, List.set_cons_succ, i64_w, i32_w]
                              rfl
                            refine one_ (i := 6) (N := some 41) #[true, true, true, true, true, true, true, false] rfl rfl (one_of HT_.out (by kernel_rfl)) (by decide) (fun K hK => ?_)
                            refine goes_ Try.func35 (by kernel_rfl) rfl #[.agg #[.bool x374000_2, .int .i64 x374001_2, .int .i64 x374002_2], .int .i64 (rd l0 x9_2), .agg #[.bool a2_0, .int .i64 a2_1, .bool a2_2]] (by rfl) rfl rfl (by (try simp only [List.map_toArray, List.map_cons, List.map_nil]); first | done | rfl | (simp only [List.length_drop, List.length_take]; rfl)) ?_
                            with_reducible refine (regimenref30_Take.calls k2 x374000_2 x374001_2 x374002_2 (rd l0 x9_2) a2_0 a2_1 a2_2 t379 t380 t381 _ A22.out).mono ?_
                            rintro e w31 ⟨rfl, hb⟩
                            refine ⟨_, rfl, ?_⟩
                            have n0_ := Aside0.mk (blk_below (g := gb369) (o := .cells #[.bool a2_0, .int .i64 a2_1, .bool a2_2] 44 (0, 0)) (by (with_reducible repeat (first | refine blk_drewN ?_ _ | refine blk_drew ?_ | refine blk_alloc ?_ _)); exact BK369.out) hb)
                            have n1_ := Aside0.mk (blk_below (g := gb373) (o := .cells #[.bool x374000_2, .int .i64 x374001_2, .int .i64 x374002_2] 51 (0, 0)) (by (with_reducible repeat (first | refine blk_drewN ?_ _ | refine blk_drew ?_ | refine blk_alloc ?_ _)); exact BK373.out) hb)
                            have n2_ := Aside0.mk (below_step (by repeat (first | (with_reducible first | exact HB.out | apply below_alloc | apply pw_below_drewN | apply below_drew1 | refine below_set ?_ GE369.out | refine below_set ?_ GE373.out) | exact HB.out)) hb)
                            clear BK369
                            clear BK373
                            clear HB
                            have BK369 := n0_
                            have BK373 := n1_
                            have HB := n2_
                            clear n0_ n1_ n2_
                            (try clear hb)
                            (try clear hb2)
                            (try clear hk)
                            (try clear hi)
                            refine hK.out _ _ ⟨(blk_cell BK373.out 0).trans rfl, (blk_cell BK373.out 1).trans rfl, (blk_cell BK373.out 2).trans rfl, (blk_cell BK369.out 0).trans rfl, (blk_cell BK369.out 1).trans rfl, (blk_cell BK369.out 2).trans rfl, ((HB.out.cell (World.block_lt_of_cell? w _ hw378_0)).trans hw378_0)⟩ (fun hHeld => ?_)
                            clear hK K
                            refine norm_ (a' := ?_) ?_ ?_
                            rotate_left
                            · show Act.put _ (some 41) _ = _
                              simp only [Act.put, List.setIfInBounds_toArray, List.set_cons_zero, List.set_cons_succ, i64_w, i32_w]
                              rfl
                            refine last_ (i := 7) (N := none) #[true, true, true, true, true, true, true, true] rfl rfl (one_of HT_.out (by kernel_rfl)) (by decide) (fun K hK => ?_)
                            have hs32 : w31.cell? ⟨gb373, 0, none⟩ = some (.bool x374000_2) := (blk_cell BK373.out 0).trans rfl
                            have hfs32 := blk_frozen BK373.out 0
                            have hns32_0 := NB369_373.out
                            have hms32_0 := NB373_369.out
                            have hs33 : w31.cell? ⟨gb373, 1, none⟩ = some (.int .i64 x374001_2) := (blk_cell BK373.out 1).trans rfl
                            have hfs33 := blk_frozen BK373.out 1
                            have hns33_0 := NB369_373.out
                            have hms33_0 := NB373_369.out
                            have hs34 : w31.cell? ⟨gb373, 2, none⟩ = some (.int .i64 x374002_2) := (blk_cell BK373.out 2).trans rfl
                            have hfs34 := blk_frozen BK373.out 2
                            have hns34_0 := NB369_373.out
                            have hms34_0 := NB373_369.out
                            refine skip_ (w1 := ?_) (by rfl) rfl ?_ ?_
                            rotate_left
                            · go_simp
                              rfl
                            refine hK.out _ _ ?_
                            clear hK K
                            refine done_ (done_of HT_.out (by kernel_rfl)) ?_
                            have hnb35 := NB373_369.out
                            have hnc35 := NB369_373.out
                            have hcz36_0 : w31.cell? ⟨gb373, 0, none⟩ = some (.bool x374000_2) := (blk_cell BK373.out 0).trans rfl
                            have hcz36_1 : w31.cell? ⟨gb373, 1, none⟩ = some (.int .i64 x374001_2) := (blk_cell BK373.out 1).trans rfl
                            have hcz36_2 : w31.cell? ⟨gb373, 2, none⟩ = some (.int .i64 x374002_2) := (blk_cell BK373.out 2).trans rfl
                            have hfz36_0 := blk_frozen BK373.out 0
                            have hfz36_1 := blk_frozen BK373.out 1
                            have hfz36_2 := blk_frozen BK373.out 2
                            try go_wp2_with (first | (go_at_call 36; (with_reducible refine (early_Out.calls t379 t380 t381 a1 false _ A25.out).mono ?_); rintro e w37 ⟨rfl, hb⟩; have n0_ := Aside0.mk (blk_below (g := gb369) (o := .cells #[.bool a2_0, .int .i64 a2_1, .bool a2_2] 44 (0, 0)) (by (with_reducible repeat (first | refine blk_drewN ?_ _ | refine blk_drew ?_ | refine blk_alloc ?_ _)); refine blk_far ?_ NB369_373.out _; (with_reducible repeat (first | refine blk_drewN ?_ _ | refine blk_drew ?_ | refine blk_alloc ?_ _)); refine blk_far ?_ NB369_373.out _; (with_reducible repeat (first | refine blk_drewN ?_ _ | refine blk_drew ?_ | refine blk_alloc ?_ _)); refine blk_far ?_ NB369_373.out _; (with_reducible repeat (first | refine blk_drewN ?_ _ | refine blk_drew ?_ | refine blk_alloc ?_ _)); exact BK369.out) hb); have n1_ := Aside0.mk (blk_below (g := gb373) (o := .cells #[.bool t379, .int .i64 t380, .int .i64 t381] 51 (0, 0)) (by (with_reducible repeat (first | refine blk_drewN ?_ _ | refine blk_drew ?_ | refine blk_alloc ?_ _)); refine blk_put (cs := #[.bool t379, .int .i64 t380, .int .i64 x374002_2]) ?_ 2 _ rfl; (with_reducible repeat (first | refine blk_drewN ?_ _ | refine blk_drew ?_ | refine blk_alloc ?_ _)); refine blk_put (cs := #[.bool t379, .int .i64 x374001_2, .int .i64 x374002_2]) ?_ 1 _ rfl; (with_reducible repeat (first | refine blk_drewN ?_ _ | refine blk_drew ?_ | refine blk_alloc ?_ _)); refine blk_put (cs := #[.bool x374000_2, .int .i64 x374001_2, .int .i64 x374002_2]) ?_ 0 _ rfl; (with_reducible repeat (first | refine blk_drewN ?_ _ | refine blk_drew ?_ | refine blk_alloc ?_ _)); exact BK373.out) hb); have n2_ := Aside0.mk (below_step (by repeat (first | (with_reducible first | exact HB.out | apply below_alloc | apply pw_below_drewN | apply below_drew1 | refine below_set ?_ GE369.out | refine below_set ?_ GE373.out) | exact HB.out)) hb); clear BK369; clear BK373; clear HB; have BK369 := n0_; have BK373 := n1_; have HB := n2_; clear n0_ n1_ n2_; (try clear hb); (try clear hb2); (try clear hk); (try clear hi); have hcz38_0 : w37.cell? ⟨gb373, 0, none⟩ = some (.bool t379) := (blk_cell BK373.out 0).trans rfl; have hcz38_1 : w37.cell? ⟨gb373, 1, none⟩ = some (.int .i64 t380) := (blk_cell BK373.out 1).trans rfl; have hcz38_2 : w37.cell? ⟨gb373, 2, none⟩ = some (.int .i64 t381) := (blk_cell BK373.out 2).trans rfl; have hfz38_0 := blk_frozen BK373.out 0; have hfz38_1 := blk_frozen BK373.out 1; have hfz38_2 := blk_frozen BK373.out 2) | (go_at_call 36; (with_reducible refine (early_Out.calls t379 t380 t381 a1 true _ A28.out).mono ?_); rintro e w39 ⟨rfl, hb⟩; have n0_ := Aside0.mk (blk_below (g := gb369) (o := .cells #[.bool a2_0, .int .i64 a2_1, .bool a2_2] 44 (0, 0)) (by (with_reducible repeat (first | refine blk_drewN ?_ _ | refine blk_drew ?_ | refine blk_alloc ?_ _)); exact BK369.out) hb); have n1_ := Aside0.mk (blk_below (g := gb373) (o := .cells #[.bool t379, .int .i64 t380, .int .i64 t381] 51 (0, 0)) (by (with_reducible repeat (first | refine blk_drewN ?_ _ | refine blk_drew ?_ | refine blk_alloc ?_ _)); exact BK373.out) hb); have n2_ := Aside0.mk (below_step (by repeat (first | (with_reducible first | exact HB.out | apply below_alloc | apply pw_below_drewN | apply below_drew1 | refine below_set ?_ GE369.out | refine below_set ?_ GE373.out) | exact HB.out)) hb); clear BK369; clear BK373; clear HB; have BK369 := n0_; have BK373 := n1_; have HB := n2_; clear n0_ n1_ n2_; (try clear hb); (try clear hb2); (try clear hk); (try clear hi)))
                            go_roundg k2
                            case measure => have := HJ3.out; have := HK2.out; omega
                            case rel => exact ⟨(wrap64 (x9_2 + 1)), (t379), (t380), (t381), (by first | rfl | (simp; done) | (simp [*]; done)), H', ⟨by have := HJ3.out; have := HK2.out; omega⟩, ⟨by (with_reducible repeat (first | refine blk_drewN ?_ _ | refine blk_drew ?_ | refine blk_alloc ?_ _)); exact BK369.out⟩, ⟨by (with_reducible repeat (first | refine blk_drewN ?_ _ | refine blk_drew ?_ | refine blk_alloc ?_ _)); exact BK373.out⟩, ⟨by repeat (first | (with_reducible first | exact HB.out | apply below_alloc | apply pw_below_drewN | apply below_drew1 | refine below_set ?_ GE369.out | refine below_set ?_ GE373.out) | exact HB.out)⟩⟩
                          · replace c29 := Bool.eq_false_iff.mpr c29
                            subst c29
                            have H1 : (none) = some r := by rw [if_neg (show ¬ (false = true) by decide)] at H; exact H
                            clear H
                            have H := H1
                            clear H1
                            exact absurd H (by simp)
                        · rw [if_neg c27] at H
                          have c27b0 : (x9_2 == t371) = false := beq_eq_false_iff_ne.mpr c27
                          have c27b1 : (x9_2 != t371) = true := bne_iff_ne.mpr c27
                          have H' := Aside0.mk H
                          clear H
                          try go_wp2
                          have n0_ := Aside0.mk (blk_drew BK369.out)
                          have n1_ := Aside0.mk (blk_drew BK373.out)
                          have n2_ := Aside0.mk (below_drew1 HB.out)
                          clear BK369
                          clear BK373
                          clear HB
                          have BK369 := n0_
                          have BK373 := n1_
                          have HB := n2_
                          clear n0_ n1_ n2_
                          have p378 : 0 ≤ (x9_2 : Int) := of_decide_eq_true (by first | (with_reducible assumption) | assumption)
                          have q378 : x9_2 < (l0.length : Int) := of_decide_eq_true (by first | (with_reducible assumption) | assumption)
                          obtain ⟨ad378, e378, hx378_0⟩ := Kd.at_int HR0.out x9_2 p378 q378
                          have hw378_0 := hx378_0
                          cases e378
                          replace hx378_0 := (HB.out.cell (World.block_lt_of_cell? w _ hx378_0)).trans hx378_0
                          replace p378 := eq_true p378
                          replace q378 := eq_true q378
                          refine start_ (n := 8) (S := fun w' => w'.cell? ⟨gb373, 0, none⟩ = some (.bool x374000_2) ∧ w'.cell? ⟨gb373, 1, none⟩ = some (.int .i64 x374001_2) ∧ w'.cell? ⟨gb373, 2, none⟩ = some (.int .i64 x374002_2) ∧ w'.cell? ⟨gb369, 0, none⟩ = some (.bool a2_0) ∧ w'.cell? ⟨gb369, 1, none⟩ = some (.int .i64 a2_1) ∧ w'.cell? ⟨gb369, 2, none⟩ = some (.bool a2_2) ∧ w'.cell? (ad378.add (x9_2).toNat) = some (.int .i64 (rd l0 x9_2))) (ds := [7]) #[false, false, false, false, false, false, false, false] (by kernel_rfl) rfl rfl ⟨(blk_cell BK373.out 0).trans rfl, (blk_cell BK373.out 1).trans rfl, (blk_cell BK373.out 2).trans rfl, (blk_cell BK369.out 0).trans rfl, (blk_cell BK369.out 1).trans rfl, (blk_cell BK369.out 2).trans rfl, ((HB.out.cell (World.block_lt_of_cell? w _ hw378_0)).trans hw378_0)⟩ (fun hHeld => ?_); refine with_tabW regimenlaw30_EarlyStops.tab10 regimenlaw30_EarlyStops.bits10 (fun HT_ HW_ => ?_)
                          generalize wr.drew = w40 at BK369 BK373 HB hx378_0 hHeld ⊢
                          refine pure_ (i := 1) (N := some 36) (v := ?_) (a' := ?_) #[false, true, false, false, false, false, false, false] rfl rfl (any_of HT_.out (by kernel_rfl)) (fun _ _ _ h => h) (Or.inl ⟨by rfl, ?_⟩) ?_ ?_
                          rotate_left
                          · intro w'
                            go_simp
                            with_reducible rfl
                          rotate_left
                          · simp only [Act.put, List.setIfInBounds_toArray, List.set_cons_zero, List.set_cons_succ, i64_w, i32_w]
                            rfl
                          refine pure_ (i := 2) (N := some 37) (v := ?_) (a' := ?_) #[false, true, true, false, false, false, false, false] rfl rfl (any_of HT_.out (by kernel_rfl)) (fun _ _ _ h => h) (Or.inl ⟨by rfl, ?_⟩) ?_ ?_
                          rotate_left
                          · intro w'
                            go_simp
                            with_reducible rfl
                          rotate_left
                          · simp only [Act.put, List.setIfInBounds_toArray, List.set_cons_zero, List.set_cons_succ, i64_w, i32_w]
                            rfl
                          refine pure_ (i := 3) (N := some 38) (v := ?_) (a' := ?_) #[false, true, true, true, false, false, false, false] rfl rfl (any_of HT_.out (by kernel_rfl)) (fun _ _ _ h => h) (Or.inl ⟨by rfl, ?_⟩) ?_ ?_
                          rotate_left
                          · intro w'
                            go_simp
                            with_reducible rfl
                          rotate_left
                          · simp only [Act.put, List.setIfInBounds_toArray, List.set_cons_zero, List.set_cons_succ, i64_w, i32_w]
                            rfl
                          refine take_ (i := 0) (N := some 35) (v := ?_) (a' := ?_) #[true, true, true, true, false, false, false, false] rfl rfl (take_ofW HT_.out HW_.out (by kernel_rfl)) (fun _ _ _ h => h) (Or.inl ⟨by rfl, ?_⟩) hHeld ?_ ?_
                          rotate_left
                          · rintro w' ⟨s0, s1, s2, s3, s4, s5, s6⟩
                            go_simp
                            with_reducible rfl
                          rotate_left
                          · simp only [Act.put, List.setIfInBounds_toArray, List.set_cons_zero, List.set_cons_succ, i64_w, i32_w]
                            rfl
                          refine take_ (i := 4) (N := some 39) (v := ?_) (a' := ?_) #[true, true, true, true, true, false, false, false] rfl rfl (take_ofW HT_.out HW_.out (by kernel_rfl)) (fun _ _ _ h => h) (Or.inl ⟨by rfl, ?_⟩) hHeld ?_ ?_
                          rotate_left
                          · rintro w' ⟨s0, s1, s2, s3, s4, s5, s6⟩
                            go_simp
                            with_reducible rfl
                          rotate_left
                          · simp only [Act.put, List.setIfInBounds_toArray, List.set_cons_zero, List.set_cons_succ, i64_w, i32_w]
                            rfl
                          refine take_ (i := 5) (N := some 40) (v := ?_) (a' := ?_) #[true, true, true, true, true, true, false, false] rfl rfl (take_ofW HT_.out HW_.out (by kernel_rfl)) (fun _ _ _ h => h) (Or.inl ⟨by rfl, ?_⟩) hHeld ?_ ?_
                          rotate_left
                          · rintro w' ⟨s0, s1, s2, s3, s4, s5, s6⟩
                            go_simp
                            with_reducible rfl
                          rotate_left
                          · simp only [Act.put, List.setIfInBounds_toArray, List.set_cons_zero, List.set_cons_succ, i64_w, i32_w]
                            rfl
                          refine one_ (i := 6) (N := some 41) #[true, true, true, true, true, true, true, false] rfl rfl (one_of HT_.out (by kernel_rfl)) (by decide) (fun K hK => ?_)
                          refine goes_ Try.func35 (by kernel_rfl) rfl #[.agg #[.bool x374000_2, .int .i64 x374001_2, .int .i64 x374002_2], .int .i64 (rd l0 x9_2), .agg #[.bool a2_0, .int .i64 a2_1, .bool a2_2]] (by rfl) rfl rfl (by (try simp only [List.map_toArray, List.map_cons, List.map_nil]); first | done | rfl | (simp only [List.length_drop, List.length_take]; rfl)) ?_
                          with_reducible refine (regimenref30_Take.calls k2 x374000_2 x374001_2 x374002_2 (rd l0 x9_2) a2_0 a2_1 a2_2 t379 t380 t381 _ A22.out).mono ?_
                          rintro e w41 ⟨rfl, hb⟩
                          refine ⟨_, rfl, ?_⟩
                          have n0_ := Aside0.mk (blk_below (g := gb369) (o := .cells #[.bool a2_0, .int .i64 a2_1, .bool a2_2] 44 (0, 0)) (by (with_reducible repeat (first | refine blk_drewN ?_ _ | refine blk_drew ?_ | refine blk_alloc ?_ _)); exact BK369.out) hb)
                          have n1_ := Aside0.mk (blk_below (g := gb373) (o := .cells #[.bool x374000_2, .int .i64 x374001_2, .int .i64 x374002_2] 51 (0, 0)) (by (with_reducible repeat (first | refine blk_drewN ?_ _ | refine blk_drew ?_ | refine blk_alloc ?_ _)); exact BK373.out) hb)
                          have n2_ := Aside0.mk (below_step (by repeat (first | (with_reducible first | exact HB.out | apply below_alloc | apply pw_below_drewN | apply below_drew1 | refine below_set ?_ GE369.out | refine below_set ?_ GE373.out) | exact HB.out)) hb)
                          clear BK369
                          clear BK373
                          clear HB
                          have BK369 := n0_
                          have BK373 := n1_
                          have HB := n2_
                          clear n0_ n1_ n2_
                          (try clear hb)
                          (try clear hb2)
                          (try clear hk)
                          (try clear hi)
                          refine hK.out _ _ ⟨(blk_cell BK373.out 0).trans rfl, (blk_cell BK373.out 1).trans rfl, (blk_cell BK373.out 2).trans rfl, (blk_cell BK369.out 0).trans rfl, (blk_cell BK369.out 1).trans rfl, (blk_cell BK369.out 2).trans rfl, ((HB.out.cell (World.block_lt_of_cell? w _ hw378_0)).trans hw378_0)⟩ (fun hHeld => ?_)
                          clear hK K
                          refine norm_ (a' := ?_) ?_ ?_
                          rotate_left
                          · show Act.put _ (some 41) _ = _
                            simp only [Act.put, List.setIfInBounds_toArray, List.set_cons_zero, List.set_cons_succ, i64_w, i32_w]
                            rfl
                          refine last_ (i := 7) (N := none) #[true, true, true, true, true, true, true, true] rfl rfl (one_of HT_.out (by kernel_rfl)) (by decide) (fun K hK => ?_)
                          have hs42 : w41.cell? ⟨gb373, 0, none⟩ = some (.bool x374000_2) := (blk_cell BK373.out 0).trans rfl
                          have hfs42 := blk_frozen BK373.out 0
                          have hns42_0 := NB369_373.out
                          have hms42_0 := NB373_369.out
                          have hs43 : w41.cell? ⟨gb373, 1, none⟩ = some (.int .i64 x374001_2) := (blk_cell BK373.out 1).trans rfl
                          have hfs43 := blk_frozen BK373.out 1
                          have hns43_0 := NB369_373.out
                          have hms43_0 := NB373_369.out
                          have hs44 : w41.cell? ⟨gb373, 2, none⟩ = some (.int .i64 x374002_2) := (blk_cell BK373.out 2).trans rfl
                          have hfs44 := blk_frozen BK373.out 2
                          have hns44_0 := NB369_373.out
                          have hms44_0 := NB373_369.out
                          refine skip_ (w1 := ?_) (by rfl) rfl ?_ ?_
                          rotate_left
                          · go_simp
                            rfl
                          refine hK.out _ _ ?_
                          clear hK K
                          refine done_ (done_of HT_.out (by kernel_rfl)) ?_
                          have hnb45 := NB373_369.out
                          have hnc45 := NB369_373.out
                          have hcz46_0 : w41.cell? ⟨gb373, 0, none⟩ = some (.bool x374000_2) := (blk_cell BK373.out 0).trans rfl
                          have hcz46_1 : w41.cell? ⟨gb373, 1, none⟩ = some (.int .i64 x374001_2) := (blk_cell BK373.out 1).trans rfl
                          have hcz46_2 : w41.cell? ⟨gb373, 2, none⟩ = some (.int .i64 x374002_2) := (blk_cell BK373.out 2).trans rfl
                          have hfz46_0 := blk_frozen BK373.out 0
                          have hfz46_1 := blk_frozen BK373.out 1
                          have hfz46_2 := blk_frozen BK373.out 2
                          try go_wp2_with (first | (go_at_call 36; (with_reducible refine (early_Out.calls t379 t380 t381 a1 false _ A25.out).mono ?_); rintro e w47 ⟨rfl, hb⟩; have n0_ := Aside0.mk (blk_below (g := gb369) (o := .cells #[.bool a2_0, .int .i64 a2_1, .bool a2_2] 44 (0, 0)) (by (with_reducible repeat (first | refine blk_drewN ?_ _ | refine blk_drew ?_ | refine blk_alloc ?_ _)); refine blk_far ?_ NB369_373.out _; (with_reducible repeat (first | refine blk_drewN ?_ _ | refine blk_drew ?_ | refine blk_alloc ?_ _)); refine blk_far ?_ NB369_373.out _; (with_reducible repeat (first | refine blk_drewN ?_ _ | refine blk_drew ?_ | refine blk_alloc ?_ _)); refine blk_far ?_ NB369_373.out _; (with_reducible repeat (first | refine blk_drewN ?_ _ | refine blk_drew ?_ | refine blk_alloc ?_ _)); exact BK369.out) hb); have n1_ := Aside0.mk (blk_below (g := gb373) (o := .cells #[.bool t379, .int .i64 t380, .int .i64 t381] 51 (0, 0)) (by (with_reducible repeat (first | refine blk_drewN ?_ _ | refine blk_drew ?_ | refine blk_alloc ?_ _)); refine blk_put (cs := #[.bool t379, .int .i64 t380, .int .i64 x374002_2]) ?_ 2 _ rfl; (with_reducible repeat (first | refine blk_drewN ?_ _ | refine blk_drew ?_ | refine blk_alloc ?_ _)); refine blk_put (cs := #[.bool t379, .int .i64 x374001_2, .int .i64 x374002_2]) ?_ 1 _ rfl; (with_reducible repeat (first | refine blk_drewN ?_ _ | refine blk_drew ?_ | refine blk_alloc ?_ _)); refine blk_put (cs := #[.bool x374000_2, .int .i64 x374001_2, .int .i64 x374002_2]) ?_ 0 _ rfl; (with_reducible repeat (first | refine blk_drewN ?_ _ | refine blk_drew ?_ | refine blk_alloc ?_ _)); exact BK373.out) hb); have n2_ := Aside0.mk (below_step (by repeat (first | (with_reducible first | exact HB.out | apply below_alloc | apply pw_below_drewN | apply below_drew1 | refine below_set ?_ GE369.out | refine below_set ?_ GE373.out) | exact HB.out)) hb); clear BK369; clear BK373; clear HB; have BK369 := n0_; have BK373 := n1_; have HB := n2_; clear n0_ n1_ n2_; (try clear hb); (try clear hb2); (try clear hk); (try clear hi)))
                          go_roundg k2
                          case measure => have := HJ3.out; have := HK2.out; omega
                          case rel => exact ⟨(wrap64 (x9_2 + 1)), (t379), (t380), (t381), (by first | rfl | (simp; done) | (simp [*]; done)), H', ⟨by have := HJ3.out; have := HK2.out; omega⟩, ⟨by (with_reducible repeat (first | refine blk_drewN ?_ _ | refine blk_drew ?_ | refine blk_alloc ?_ _)); exact BK369.out⟩, ⟨by (with_reducible repeat (first | refine blk_drewN ?_ _ | refine blk_drew ?_ | refine blk_alloc ?_ _)); exact BK373.out⟩, ⟨by repeat (first | (with_reducible first | exact HB.out | apply below_alloc | apply pw_below_drewN | apply below_drew1 | refine below_set ?_ GE369.out | refine below_set ?_ GE373.out) | exact HB.out)⟩⟩
                    · rw [if_neg c24] at H
                      have c24b0 : decide (x9_2 < t371) = false := decide_eq_false c24
                      clear c24
                      by_cases c48 : x9_2 = t371
                      · rw [if_pos c48] at H
                        have c48b0 : (x9_2 == t371) = true := beq_iff_eq.mpr c48
                        have c48b1 : (x9_2 != t371) = false := bne_eq_false_iff_eq.mpr c48
                        clear c48
                        replace H := Option.bind_eq_some_iff.mp H
                        obtain ⟨t384, A490, H⟩ := H
                        replace H : (if t384 = true then (regimenlaw30_EarlyStops.l0 k2 l0 a1 t371 (wrap64 (x9_2 + 1)) a2_0 a2_1 a2_2 t379 t380 t381) else (none)) = some r := H
                        have A49 := Aside0.mk A490
                        clear A490
                        by_cases c50 : t384 = true
                        · subst c50
                          have H1 : (regimenlaw30_EarlyStops.l0 k2 l0 a1 t371 (wrap64 (x9_2 + 1)) a2_0 a2_1 a2_2 t379 t380 t381) = some r := by rw [if_pos rfl] at H; exact H
                          clear H
                          have H := H1
                          clear H1
                          have H' := Aside0.mk H
                          clear H
                          try go_wp2
                          have n0_ := Aside0.mk (blk_drew BK369.out)
                          have n1_ := Aside0.mk (blk_drew BK373.out)
                          have n2_ := Aside0.mk (below_drew1 HB.out)
                          clear BK369
                          clear BK373
                          clear HB
                          have BK369 := n0_
                          have BK373 := n1_
                          have HB := n2_
                          clear n0_ n1_ n2_
                          have p378 : 0 ≤ (x9_2 : Int) := of_decide_eq_true (by first | (with_reducible assumption) | assumption)
                          have q378 : x9_2 < (l0.length : Int) := of_decide_eq_true (by first | (with_reducible assumption) | assumption)
                          obtain ⟨ad378, e378, hx378_0⟩ := Kd.at_int HR0.out x9_2 p378 q378
                          have hw378_0 := hx378_0
                          cases e378
                          replace hx378_0 := (HB.out.cell (World.block_lt_of_cell? w _ hx378_0)).trans hx378_0
                          replace p378 := eq_true p378
                          replace q378 := eq_true q378
                          refine start_ (n := 8) (S := fun w' => w'.cell? ⟨gb373, 0, none⟩ = some (.bool x374000_2) ∧ w'.cell? ⟨gb373, 1, none⟩ = some (.int .i64 x374001_2) ∧ w'.cell? ⟨gb373, 2, none⟩ = some (.int .i64 x374002_2) ∧ w'.cell? ⟨gb369, 0, none⟩ = some (.bool a2_0) ∧ w'.cell? ⟨gb369, 1, none⟩ = some (.int .i64 a2_1) ∧ w'.cell? ⟨gb369, 2, none⟩ = some (.bool a2_2) ∧ w'.cell? (ad378.add (x9_2).toNat) = some (.int .i64 (rd l0 x9_2))) (ds := [7]) #[false, false, false, false, false, false, false, false] (by kernel_rfl) rfl rfl ⟨(blk_cell BK373.out 0).trans rfl, (blk_cell BK373.out 1).trans rfl, (blk_cell BK373.out 2).trans rfl, (blk_cell BK369.out 0).trans rfl, (blk_cell BK369.out 1).trans rfl, (blk_cell BK369.out 2).trans rfl, ((HB.out.cell (World.block_lt_of_cell? w _ hw378_0)).trans hw378_0)⟩ (fun hHeld => ?_); refine with_tabW regimenlaw30_EarlyStops.tab10 regimenlaw30_EarlyStops.bits10 (fun HT_ HW_ => ?_)
                          generalize wr.drew = w51 at BK369 BK373 HB hx378_0 hHeld ⊢
                          refine pure_ (i := 1) (N := some 36) (v := ?_) (a' := ?_) #[false, true, false, false, false, false, false, false] rfl rfl (any_of HT_.out (by kernel_rfl)) (fun _ _ _ h => h) (Or.inl ⟨by rfl, ?_⟩) ?_ ?_
                          rotate_left
                          · intro w'
                            go_simp
                            with_reducible rfl
                          rotate_left
                          · simp only [Act.put, List.setIfInBounds_toArray, List.set_cons_zero, List.set_cons_succ, i64_w, i32_w]
                            rfl
                          refine pure_ (i := 2) (N := some 37) (v := ?_) (a' := ?_) #[false, true, true, false, false, false, false, false] rfl rfl (any_of HT_.out (by kernel_rfl)) (fun _ _ _ h => h) (Or.inl ⟨by rfl, ?_⟩) ?_ ?_
                          rotate_left
                          · intro w'
                            go_simp
                            with_reducible rfl
                          rotate_left
                          · simp only [Act.put, List.setIfInBounds_toArray, List.set_cons_zero, List.set_cons_succ, i64_w, i32_w]
                            rfl
                          refine pure_ (i := 3) (N := some 38) (v := ?_) (a' := ?_) #[false, true, true, true, false, false, false, false] rfl rfl (any_of HT_.out (by kernel_rfl)) (fun _ _ _ h => h) (Or.inl ⟨by rfl, ?_⟩) ?_ ?_
                          rotate_left
                          · intro w'
                            go_simp
                            with_reducible rfl
                          rotate_left
                          · simp only [Act.put, List.setIfInBounds_toArray, List.set_cons_zero, List.set_cons_succ, i64_w, i32_w]
                            rfl
                          refine take_ (i := 0) (N := some 35) (v := ?_) (a' := ?_) #[true, true, true, true, false, false, false, false] rfl rfl (take_ofW HT_.out HW_.out (by kernel_rfl)) (fun _ _ _ h => h) (Or.inl ⟨by rfl, ?_⟩) hHeld ?_ ?_
                          rotate_left
                          · rintro w' ⟨s0, s1, s2, s3, s4, s5, s6⟩
                            go_simp
                            with_reducible rfl
                          rotate_left
                          · simp only [Act.put, List.setIfInBounds_toArray, List.set_cons_zero, List.set_cons_succ, i64_w, i32_w]
                            rfl
                          refine take_ (i := 4) (N := some 39) (v := ?_) (a' := ?_) #[true, true, true, true, true, false, false, false] rfl rfl (take_ofW HT_.out HW_.out (by kernel_rfl)) (fun _ _ _ h => h) (Or.inl ⟨by rfl, ?_⟩) hHeld ?_ ?_
                          rotate_left
                          · rintro w' ⟨s0, s1, s2, s3, s4, s5, s6⟩
                            go_simp
                            with_reducible rfl
                          rotate_left
                          · simp only [Act.put, List.setIfInBounds_toArray, List.set_cons_zero, List.set_cons_succ, i64_w, i32_w]
                            rfl
                          refine take_ (i := 5) (N := some 40) (v := ?_) (a' := ?_) #[true, true, true, true, true, true, false, false] rfl rfl (take_ofW HT_.out HW_.out (by kernel_rfl)) (fun _ _ _ h => h) (Or.inl ⟨by rfl, ?_⟩) hHeld ?_ ?_
                          rotate_left
                          · rintro w' ⟨s0, s1, s2, s3, s4, s5, s6⟩
                            go_simp
                            with_reducible rfl
                          rotate_left
                          · simp only [Act.put, List.setIfInBounds_toArray, List.set_cons_zero, List.set_cons_succ, i64_w, i32_w]
                            rfl
                          refine one_ (i := 6) (N := some 41) #[true, true, true, true, true, true, true, false] rfl rfl (one_of HT_.out (by kernel_rfl)) (by decide) (fun K hK => ?_)
                          refine goes_ Try.func35 (by kernel_rfl) rfl #[.agg #[.bool x374000_2, .int .i64 x374001_2, .int .i64 x374002_2], .int .i64 (rd l0 x9_2), .agg #[.bool a2_0, .int .i64 a2_1, .bool a2_2]] (by rfl) rfl rfl (by (try simp only [List.map_toArray, List.map_cons, List.map_nil]); first | done | rfl | (simp only [List.length_drop, List.length_take]; rfl)) ?_
                          with_reducible refine (regimenref30_Take.calls k2 x374000_2 x374001_2 x374002_2 (rd l0 x9_2) a2_0 a2_1 a2_2 t379 t380 t381 _ A22.out).mono ?_
                          rintro e w52 ⟨rfl, hb⟩
                          refine ⟨_, rfl, ?_⟩
                          have n0_ := Aside0.mk (blk_below (g := gb369) (o := .cells #[.bool a2_0, .int .i64 a2_1, .bool a2_2] 44 (0, 0)) (by (with_reducible repeat (first | refine blk_drewN ?_ _ | refine blk_drew ?_ | refine blk_alloc ?_ _)); exact BK369.out) hb)
                          have n1_ := Aside0.mk (blk_below (g := gb373) (o := .cells #[.bool x374000_2, .int .i64 x374001_2, .int .i64 x374002_2] 51 (0, 0)) (by (with_reducible repeat (first | refine blk_drewN ?_ _ | refine blk_drew ?_ | refine blk_alloc ?_ _)); exact BK373.out) hb)
                          have n2_ := Aside0.mk (below_step (by repeat (first | (with_reducible first | exact HB.out | apply below_alloc | apply pw_below_drewN | apply below_drew1 | refine below_set ?_ GE369.out | refine below_set ?_ GE373.out) | exact HB.out)) hb)
                          clear BK369
                          clear BK373
                          clear HB
                          have BK369 := n0_
                          have BK373 := n1_
                          have HB := n2_
                          clear n0_ n1_ n2_
                          (try clear hb)
                          (try clear hb2)
                          (try clear hk)
                          (try clear hi)
                          refine hK.out _ _ ⟨(blk_cell BK373.out 0).trans rfl, (blk_cell BK373.out 1).trans rfl, (blk_cell BK373.out 2).trans rfl, (blk_cell BK369.out 0).trans rfl, (blk_cell BK369.out 1).trans rfl, (blk_cell BK369.out 2).trans rfl, ((HB.out.cell (World.block_lt_of_cell? w _ hw378_0)).trans hw378_0)⟩ (fun hHeld => ?_)
                          clear hK K
                          refine norm_ (a' := ?_) ?_ ?_
                          rotate_left
                          · show Act.put _ (some 41) _ = _
                            simp only [Act.put, List.setIfInBounds_toArray, List.set_cons_zero, List.set_cons_succ, i64_w, i32_w]
                            rfl
                          refine last_ (i := 7) (N := none) #[true, true, true, true, true, true, true, true] rfl rfl (one_of HT_.out (by kernel_rfl)) (by decide) (fun K hK => ?_)
                          have hs53 : w52.cell? ⟨gb373, 0, none⟩ = some (.bool x374000_2) := (blk_cell BK373.out 0).trans rfl
                          have hfs53 := blk_frozen BK373.out 0
                          have hns53_0 := NB369_373.out
                          have hms53_0 := NB373_369.out
                          have hs54 : w52.cell? ⟨gb373, 1, none⟩ = some (.int .i64 x374001_2) := (blk_cell BK373.out 1).trans rfl
                          have hfs54 := blk_frozen BK373.out 1
                          have hns54_0 := NB369_373.out
                          have hms54_0 := NB373_369.out
                          have hs55 : w52.cell? ⟨gb373, 2, none⟩ = some (.int .i64 x374002_2) := (blk_cell BK373.out 2).trans rfl
                          have hfs55 := blk_frozen BK373.out 2
                          have hns55_0 := NB369_373.out
                          have hms55_0 := NB373_369.out
                          refine skip_ (w1 := ?_) (by rfl) rfl ?_ ?_
                          rotate_left
                          · go_simp
                            rfl
                          refine hK.out _ _ ?_
                          clear hK K
                          refine done_ (done_of HT_.out (by kernel_rfl)) ?_
                          have hnb56 := NB373_369.out
                          have hnc56 := NB369_373.out
                          have hcz57_0 : w52.cell? ⟨gb373, 0, none⟩ = some (.bool x374000_2) := (blk_cell BK373.out 0).trans rfl
                          have hcz57_1 : w52.cell? ⟨gb373, 1, none⟩ = some (.int .i64 x374001_2) := (blk_cell BK373.out 1).trans rfl
                          have hcz57_2 : w52.cell? ⟨gb373, 2, none⟩ = some (.int .i64 x374002_2) := (blk_cell BK373.out 2).trans rfl
                          have hfz57_0 := blk_frozen BK373.out 0
                          have hfz57_1 := blk_frozen BK373.out 1
                          have hfz57_2 := blk_frozen BK373.out 2
                          try go_wp2_with (first | (go_at_call 36; (with_reducible refine (early_Out.calls t379 t380 t381 a1 true _ A49.out).mono ?_); rintro e w58 ⟨rfl, hb⟩; have n0_ := Aside0.mk (blk_below (g := gb369) (o := .cells #[.bool a2_0, .int .i64 a2_1, .bool a2_2] 44 (0, 0)) (by (with_reducible repeat (first | refine blk_drewN ?_ _ | refine blk_drew ?_ | refine blk_alloc ?_ _)); refine blk_far ?_ NB369_373.out _; (with_reducible repeat (first | refine blk_drewN ?_ _ | refine blk_drew ?_ | refine blk_alloc ?_ _)); refine blk_far ?_ NB369_373.out _; (with_reducible repeat (first | refine blk_drewN ?_ _ | refine blk_drew ?_ | refine blk_alloc ?_ _)); refine blk_far ?_ NB369_373.out _; (with_reducible repeat (first | refine blk_drewN ?_ _ | refine blk_drew ?_ | refine blk_alloc ?_ _)); exact BK369.out) hb); have n1_ := Aside0.mk (blk_below (g := gb373) (o := .cells #[.bool t379, .int .i64 t380, .int .i64 t381] 51 (0, 0)) (by (with_reducible repeat (first | refine blk_drewN ?_ _ | refine blk_drew ?_ | refine blk_alloc ?_ _)); refine blk_put (cs := #[.bool t379, .int .i64 t380, .int .i64 x374002_2]) ?_ 2 _ rfl; (with_reducible repeat (first | refine blk_drewN ?_ _ | refine blk_drew ?_ | refine blk_alloc ?_ _)); refine blk_put (cs := #[.bool t379, .int .i64 x374001_2, .int .i64 x374002_2]) ?_ 1 _ rfl; (with_reducible repeat (first | refine blk_drewN ?_ _ | refine blk_drew ?_ | refine blk_alloc ?_ _)); refine blk_put (cs := #[.bool x374000_2, .int .i64 x374001_2, .int .i64 x374002_2]) ?_ 0 _ rfl; (with_reducible repeat (first | refine blk_drewN ?_ _ | refine blk_drew ?_ | refine blk_alloc ?_ _)); exact BK373.out) hb); have n2_ := Aside0.mk (below_step (by repeat (first | (with_reducible first | exact HB.out | apply below_alloc | apply pw_below_drewN | apply below_drew1 | refine below_set ?_ GE369.out | refine below_set ?_ GE373.out) | exact HB.out)) hb); clear BK369; clear BK373; clear HB; have BK369 := n0_; have BK373 := n1_; have HB := n2_; clear n0_ n1_ n2_; (try clear hb); (try clear hb2); (try clear hk); (try clear hi)))
                          go_roundg k2
                          case measure => have := HJ3.out; have := HK2.out; omega
                          case rel => exact ⟨(wrap64 (x9_2 + 1)), (t379), (t380), (t381), (by first | rfl | (simp; done) | (simp [*]; done)), H', ⟨by have := HJ3.out; have := HK2.out; omega⟩, ⟨by (with_reducible repeat (first | refine blk_drewN ?_ _ | refine blk_drew ?_ | refine blk_alloc ?_ _)); exact BK369.out⟩, ⟨by (with_reducible repeat (first | refine blk_drewN ?_ _ | refine blk_drew ?_ | refine blk_alloc ?_ _)); exact BK373.out⟩, ⟨by repeat (first | (with_reducible first | exact HB.out | apply below_alloc | apply pw_below_drewN | apply below_drew1 | refine below_set ?_ GE369.out | refine below_set ?_ GE373.out) | exact HB.out)⟩⟩
                        · replace c50 := Bool.eq_false_iff.mpr c50
                          subst c50
                          have H1 : (none) = some r := by rw [if_neg (show ¬ (false = true) by decide)] at H; exact H
                          clear H
                          have H := H1
                          clear H1
                          exact absurd H (by simp)
                      · rw [if_neg c48] at H
                        have c48b0 : (x9_2 == t371) = false := beq_eq_false_iff_ne.mpr c48
                        have c48b1 : (x9_2 != t371) = true := bne_iff_ne.mpr c48
                        have H' := Aside0.mk H
                        clear H
                        try go_wp2
                        have n0_ := Aside0.mk (blk_drew BK369.out)
                        have n1_ := Aside0.mk (blk_drew BK373.out)
                        have n2_ := Aside0.mk (below_drew1 HB.out)
                        clear BK369
                        clear BK373
                        clear HB
                        have BK369 := n0_
                        have BK373 := n1_
                        have HB := n2_
                        clear n0_ n1_ n2_
                        have p378 : 0 ≤ (x9_2 : Int) := of_decide_eq_true (by first | (with_reducible assumption) | assumption)
                        have q378 : x9_2 < (l0.length : Int) := of_decide_eq_true (by first | (with_reducible assumption) | assumption)
                        obtain ⟨ad378, e378, hx378_0⟩ := Kd.at_int HR0.out x9_2 p378 q378
                        have hw378_0 := hx378_0
                        cases e378
                        replace hx378_0 := (HB.out.cell (World.block_lt_of_cell? w _ hx378_0)).trans hx378_0
                        replace p378 := eq_true p378
                        replace q378 := eq_true q378
                        refine start_ (n := 8) (S := fun w' => w'.cell? ⟨gb373, 0, none⟩ = some (.bool x374000_2) ∧ w'.cell? ⟨gb373, 1, none⟩ = some (.int .i64 x374001_2) ∧ w'.cell? ⟨gb373, 2, none⟩ = some (.int .i64 x374002_2) ∧ w'.cell? ⟨gb369, 0, none⟩ = some (.bool a2_0) ∧ w'.cell? ⟨gb369, 1, none⟩ = some (.int .i64 a2_1) ∧ w'.cell? ⟨gb369, 2, none⟩ = some (.bool a2_2) ∧ w'.cell? (ad378.add (x9_2).toNat) = some (.int .i64 (rd l0 x9_2))) (ds := [7]) #[false, false, false, false, false, false, false, false] (by kernel_rfl) rfl rfl ⟨(blk_cell BK373.out 0).trans rfl, (blk_cell BK373.out 1).trans rfl, (blk_cell BK373.out 2).trans rfl, (blk_cell BK369.out 0).trans rfl, (blk_cell BK369.out 1).trans rfl, (blk_cell BK369.out 2).trans rfl, ((HB.out.cell (World.block_lt_of_cell? w _ hw378_0)).trans hw378_0)⟩ (fun hHeld => ?_); refine with_tabW regimenlaw30_EarlyStops.tab10 regimenlaw30_EarlyStops.bits10 (fun HT_ HW_ => ?_)
                        generalize wr.drew = w59 at BK369 BK373 HB hx378_0 hHeld ⊢
                        refine pure_ (i := 1) (N := some 36) (v := ?_) (a' := ?_) #[false, true, false, false, false, false, false, false] rfl rfl (any_of HT_.out (by kernel_rfl)) (fun _ _ _ h => h) (Or.inl ⟨by rfl, ?_⟩) ?_ ?_
                        rotate_left
                        · intro w'
                          go_simp
                          with_reducible rfl
                        rotate_left
                        · simp only [Act.put, List.setIfInBounds_toArray, List.set_cons_zero, List.set_cons_succ, i64_w, i32_w]
                          rfl
                        refine pure_ (i := 2) (N := some 37) (v := ?_) (a' := ?_) #[false, true, true, false, false, false, false, false] rfl rfl (any_of HT_.out (by kernel_rfl)) (fun _ _ _ h => h) (Or.inl ⟨by rfl, ?_⟩) ?_ ?_
                        rotate_left
                        · intro w'
                          go_simp
                          with_reducible rfl
                        rotate_left
                        · simp only [Act.put, List.setIfInBounds_toArray, List.set_cons_zero, List.set_cons_succ, i64_w, i32_w]
                          rfl
                        refine pure_ (i := 3) (N := some 38) (v := ?_) (a' := ?_) #[false, true, true, true, false, false, false, false] rfl rfl (any_of HT_.out (by kernel_rfl)) (fun _ _ _ h => h) (Or.inl ⟨by rfl, ?_⟩) ?_ ?_
                        rotate_left
                        · intro w'
                          go_simp
                          with_reducible rfl
                        rotate_left
                        · simp only [Act.put, List.setIfInBounds_toArray, List.set_cons_zero, List.set_cons_succ, i64_w, i32_w]
                          rfl
                        refine take_ (i := 0) (N := some 35) (v := ?_) (a' := ?_) #[true, true, true, true, false, false, false, false] rfl rfl (take_ofW HT_.out HW_.out (by kernel_rfl)) (fun _ _ _ h => h) (Or.inl ⟨by rfl, ?_⟩) hHeld ?_ ?_
                        rotate_left
                        · rintro w' ⟨s0, s1, s2, s3, s4, s5, s6⟩
                          go_simp
                          with_reducible rfl
                        rotate_left
                        · simp only [Act.put, List.setIfInBounds_toArray, List.set_cons_zero, List.set_cons_succ, i64_w, i32_w]
                          rfl
                        refine take_ (i := 4) (N := some 39) (v := ?_) (a' := ?_) #[true, true, true, true, true, false, false, false] rfl rfl (take_ofW HT_.out HW_.out (by kernel_rfl)) (fun _ _ _ h => h) (Or.inl ⟨by rfl, ?_⟩) hHeld ?_ ?_
                        rotate_left
                        · rintro w' ⟨s0, s1, s2, s3, s4, s5, s6⟩
                          go_simp
                          with_reducible rfl
                        rotate_left
                        · simp only [Act.put, List.setIfInBounds_toArray, List.set_cons_zero, List.set_cons_succ, i64_w, i32_w]
                          rfl
                        refine take_ (i := 5) (N := some 40) (v := ?_) (a' := ?_) #[true, true, true, true, true, true, false, false] rfl rfl (take_ofW HT_.out HW_.out (by kernel_rfl)) (fun _ _ _ h => h) (Or.inl ⟨by rfl, ?_⟩) hHeld ?_ ?_
                        rotate_left
                        · rintro w' ⟨s0, s1, s2, s3, s4, s5, s6⟩
                          go_simp
                          with_reducible rfl
                        rotate_left
                        · simp only [Act.put, List.setIfInBounds_toArray, List.set_cons_zero, List.set_cons_succ, i64_w, i32_w]
                          rfl
                        refine one_ (i := 6) (N := some 41) #[true, true, true, true, true, true, true, false] rfl rfl (one_of HT_.out (by kernel_rfl)) (by decide) (fun K hK => ?_)
                        refine goes_ Try.func35 (by kernel_rfl) rfl #[.agg #[.bool x374000_2, .int .i64 x374001_2, .int .i64 x374002_2], .int .i64 (rd l0 x9_2), .agg #[.bool a2_0, .int .i64 a2_1, .bool a2_2]] (by rfl) rfl rfl (by (try simp only [List.map_toArray, List.map_cons, List.map_nil]); first | done | rfl | (simp only [List.length_drop, List.length_take]; rfl)) ?_
                        with_reducible refine (regimenref30_Take.calls k2 x374000_2 x374001_2 x374002_2 (rd l0 x9_2) a2_0 a2_1 a2_2 t379 t380 t381 _ A22.out).mono ?_
                        rintro e w60 ⟨rfl, hb⟩
                        refine ⟨_, rfl, ?_⟩
                        have n0_ := Aside0.mk (blk_below (g := gb369) (o := .cells #[.bool a2_0, .int .i64 a2_1, .bool a2_2] 44 (0, 0)) (by (with_reducible repeat (first | refine blk_drewN ?_ _ | refine blk_drew ?_ | refine blk_alloc ?_ _)); exact BK369.out) hb)
                        have n1_ := Aside0.mk (blk_below (g := gb373) (o := .cells #[.bool x374000_2, .int .i64 x374001_2, .int .i64 x374002_2] 51 (0, 0)) (by (with_reducible repeat (first | refine blk_drewN ?_ _ | refine blk_drew ?_ | refine blk_alloc ?_ _)); exact BK373.out) hb)
                        have n2_ := Aside0.mk (below_step (by repeat (first | (with_reducible first | exact HB.out | apply below_alloc | apply pw_below_drewN | apply below_drew1 | refine below_set ?_ GE369.out | refine below_set ?_ GE373.out) | exact HB.out)) hb)
                        clear BK369
                        clear BK373
                        clear HB
                        have BK369 := n0_
                        have BK373 := n1_
                        have HB := n2_
                        clear n0_ n1_ n2_
                        (try clear hb)
                        (try clear hb2)
                        (try clear hk)
                        (try clear hi)
                        refine hK.out _ _ ⟨(blk_cell BK373.out 0).trans rfl, (blk_cell BK373.out 1).trans rfl, (blk_cell BK373.out 2).trans rfl, (blk_cell BK369.out 0).trans rfl, (blk_cell BK369.out 1).trans rfl, (blk_cell BK369.out 2).trans rfl, ((HB.out.cell (World.block_lt_of_cell? w _ hw378_0)).trans hw378_0)⟩ (fun hHeld => ?_)
                        clear hK K
                        refine norm_ (a' := ?_) ?_ ?_
                        rotate_left
                        · show Act.put _ (some 41) _ = _
                          simp only [Act.put, List.setIfInBounds_toArray, List.set_cons_zero, List.set_cons_succ, i64_w, i32_w]
                          rfl
                        refine last_ (i := 7) (N := none) #[true, true, true, true, true, true, true, true] rfl rfl (one_of HT_.out (by kernel_rfl)) (by decide) (fun K hK => ?_)
                        have hs61 : w60.cell? ⟨gb373, 0, none⟩ = some (.bool x374000_2) := (blk_cell BK373.out 0).trans rfl
                        have hfs61 := blk_frozen BK373.out 0
                        have hns61_0 := NB369_373.out
                        have hms61_0 := NB373_369.out
                        have hs62 : w60.cell? ⟨gb373, 1, none⟩ = some (.int .i64 x374001_2) := (blk_cell BK373.out 1).trans rfl
                        have hfs62 := blk_frozen BK373.out 1
                        have hns62_0 := NB369_373.out
                        have hms62_0 := NB373_369.out
                        have hs63 : w60.cell? ⟨gb373, 2, none⟩ = some (.int .i64 x374002_2) := (blk_cell BK373.out 2).trans rfl
                        have hfs63 := blk_frozen BK373.out 2
                        have hns63_0 := NB369_373.out
                        have hms63_0 := NB373_369.out
                        refine skip_ (w1 := ?_) (by rfl) rfl ?_ ?_
                        rotate_left
                        · go_simp
                          rfl
                        refine hK.out _ _ ?_
                        clear hK K
                        refine done_ (done_of HT_.out (by kernel_rfl)) ?_
                        try go_wp2
                        go_roundg k2
                        case measure => have := HJ3.out; have := HK2.out; omega
                        case rel => exact ⟨(wrap64 (x9_2 + 1)), (t379), (t380), (t381), (by first | rfl | (simp; done) | (simp [*]; done)), H', ⟨by have := HJ3.out; have := HK2.out; omega⟩, ⟨by (with_reducible repeat (first | refine blk_drewN ?_ _ | refine blk_drew ?_ | refine blk_alloc ?_ _)); refine blk_far ?_ NB369_373.out _; (with_reducible repeat (first | refine blk_drewN ?_ _ | refine blk_drew ?_ | refine blk_alloc ?_ _)); refine blk_far ?_ NB369_373.out _; (with_reducible repeat (first | refine blk_drewN ?_ _ | refine blk_drew ?_ | refine blk_alloc ?_ _)); refine blk_far ?_ NB369_373.out _; (with_reducible repeat (first | refine blk_drewN ?_ _ | refine blk_drew ?_ | refine blk_alloc ?_ _)); exact BK369.out⟩, ⟨by (with_reducible repeat (first | refine blk_drewN ?_ _ | refine blk_drew ?_ | refine blk_alloc ?_ _)); refine blk_put (cs := #[.bool t379, .int .i64 t380, .int .i64 x374002_2]) ?_ 2 _ rfl; (with_reducible repeat (first | refine blk_drewN ?_ _ | refine blk_drew ?_ | refine blk_alloc ?_ _)); refine blk_put (cs := #[.bool t379, .int .i64 x374001_2, .int .i64 x374002_2]) ?_ 1 _ rfl; (with_reducible repeat (first | refine blk_drewN ?_ _ | refine blk_drew ?_ | refine blk_alloc ?_ _)); refine blk_put (cs := #[.bool x374000_2, .int .i64 x374001_2, .int .i64 x374002_2]) ?_ 0 _ rfl; (with_reducible repeat (first | refine blk_drewN ?_ _ | refine blk_drew ?_ | refine blk_alloc ?_ _)); exact BK373.out⟩, ⟨by repeat (first | (with_reducible first | exact HB.out | apply below_alloc | apply pw_below_drewN | apply below_drew1 | refine below_set ?_ GE369.out | refine below_set ?_ GE373.out) | exact HB.out)⟩⟩
                  · rw [if_neg c23] at H
                    have c23b0 : decide (0 ≤ t371) = false := decide_eq_false c23
                    clear c23
                    by_cases c64 : x9_2 = t371
                    · rw [if_pos c64] at H
                      have c64b0 : (x9_2 == t371) = true := beq_iff_eq.mpr c64
                      have c64b1 : (x9_2 != t371) = false := bne_eq_false_iff_eq.mpr c64
                      clear c64
                      replace H := Option.bind_eq_some_iff.mp H
                      obtain ⟨t385, A650, H⟩ := H
                      replace H : (if t385 = true then (regimenlaw30_EarlyStops.l0 k2 l0 a1 t371 (wrap64 (x9_2 + 1)) a2_0 a2_1 a2_2 t379 t380 t381) else (none)) = some r := H
                      have A65 := Aside0.mk A650
                      clear A650
                      by_cases c66 : t385 = true
                      · subst c66
                        have H1 : (regimenlaw30_EarlyStops.l0 k2 l0 a1 t371 (wrap64 (x9_2 + 1)) a2_0 a2_1 a2_2 t379 t380 t381) = some r := by rw [if_pos rfl] at H; exact H
                        clear H
                        have H := H1
                        clear H1
                        have H' := Aside0.mk H
                        clear H
                        try go_wp2
                        have n0_ := Aside0.mk (blk_drew BK369.out)
                        have n1_ := Aside0.mk (blk_drew BK373.out)
                        have n2_ := Aside0.mk (below_drew1 HB.out)
                        clear BK369
                        clear BK373
                        clear HB
                        have BK369 := n0_
                        have BK373 := n1_
                        have HB := n2_
                        clear n0_ n1_ n2_
                        have p378 : 0 ≤ (x9_2 : Int) := of_decide_eq_true (by first | (with_reducible assumption) | assumption)
                        have q378 : x9_2 < (l0.length : Int) := of_decide_eq_true (by first | (with_reducible assumption) | assumption)
                        obtain ⟨ad378, e378, hx378_0⟩ := Kd.at_int HR0.out x9_2 p378 q378
                        have hw378_0 := hx378_0
                        cases e378
                        replace hx378_0 := (HB.out.cell (World.block_lt_of_cell? w _ hx378_0)).trans hx378_0
                        replace p378 := eq_true p378
                        replace q378 := eq_true q378
                        refine start_ (n := 8) (S := fun w' => w'.cell? ⟨gb373, 0, none⟩ = some (.bool x374000_2) ∧ w'.cell? ⟨gb373, 1, none⟩ = some (.int .i64 x374001_2) ∧ w'.cell? ⟨gb373, 2, none⟩ = some (.int .i64 x374002_2) ∧ w'.cell? ⟨gb369, 0, none⟩ = some (.bool a2_0) ∧ w'.cell? ⟨gb369, 1, none⟩ = some (.int .i64 a2_1) ∧ w'.cell? ⟨gb369, 2, none⟩ = some (.bool a2_2) ∧ w'.cell? (ad378.add (x9_2).toNat) = some (.int .i64 (rd l0 x9_2))) (ds := [7]) #[false, false, false, false, false, false, false, false] (by kernel_rfl) rfl rfl ⟨(blk_cell BK373.out 0).trans rfl, (blk_cell BK373.out 1).trans rfl, (blk_cell BK373.out 2).trans rfl, (blk_cell BK369.out 0).trans rfl, (blk_cell BK369.out 1).trans rfl, (blk_cell BK369.out 2).trans rfl, ((HB.out.cell (World.block_lt_of_cell? w _ hw378_0)).trans hw378_0)⟩ (fun hHeld => ?_); refine with_tabW regimenlaw30_EarlyStops.tab10 regimenlaw30_EarlyStops.bits10 (fun HT_ HW_ => ?_)
                        generalize wr.drew = w67 at BK369 BK373 HB hx378_0 hHeld ⊢
                        refine pure_ (i := 1) (N := some 36) (v := ?_) (a' := ?_) #[false, true, false, false, false, false, false, false] rfl rfl (any_of HT_.out (by kernel_rfl)) (fun _ _ _ h => h) (Or.inl ⟨by rfl, ?_⟩) ?_ ?_
                        rotate_left
                        · intro w'
                          go_simp
                          with_reducible rfl
                        rotate_left
                        · simp only [Act.put, List.setIfInBounds_toArray, List.set_cons_zero, List.set_cons_succ, i64_w, i32_w]
                          rfl
                        refine pure_ (i := 2) (N := some 37) (v := ?_) (a' := ?_) #[false, true, true, false, false, false, false, false] rfl rfl (any_of HT_.out (by kernel_rfl)) (fun _ _ _ h => h) (Or.inl ⟨by rfl, ?_⟩) ?_ ?_
                        rotate_left
                        · intro w'
                          go_simp
                          with_reducible rfl
                        rotate_left
                        · simp only [Act.put, List.setIfInBounds_toArray, List.set_cons_zero, List.set_cons_succ, i64_w, i32_w]
                          rfl
                        refine pure_ (i := 3) (N := some 38) (v := ?_) (a' := ?_) #[false, true, true, true, false, false, false, false] rfl rfl (any_of HT_.out (by kernel_rfl)) (fun _ _ _ h => h) (Or.inl ⟨by rfl, ?_⟩) ?_ ?_
                        rotate_left
                        · intro w'
                          go_simp
                          with_reducible rfl
                        rotate_left
                        · simp only [Act.put, List.setIfInBounds_toArray, List.set_cons_zero, List.set_cons_succ, i64_w, i32_w]
                          rfl
                        refine take_ (i := 0) (N := some 35) (v := ?_) (a' := ?_) #[true, true, true, true, false, false, false, false] rfl rfl (take_ofW HT_.out HW_.out (by kernel_rfl)) (fun _ _ _ h => h) (Or.inl ⟨by rfl, ?_⟩) hHeld ?_ ?_
                        rotate_left
                        · rintro w' ⟨s0, s1, s2, s3, s4, s5, s6⟩
                          go_simp
                          with_reducible rfl
                        rotate_left
                        · simp only [Act.put, List.setIfInBounds_toArray, List.set_cons_zero, List.set_cons_succ, i64_w, i32_w]
                          rfl
                        refine take_ (i := 4) (N := some 39) (v := ?_) (a' := ?_) #[true, true, true, true, true, false, false, false] rfl rfl (take_ofW HT_.out HW_.out (by kernel_rfl)) (fun _ _ _ h => h) (Or.inl ⟨by rfl, ?_⟩) hHeld ?_ ?_
                        rotate_left
                        · rintro w' ⟨s0, s1, s2, s3, s4, s5, s6⟩
                          go_simp
                          with_reducible rfl
                        rotate_left
                        · simp only [Act.put, List.setIfInBounds_toArray, List.set_cons_zero, List.set_cons_succ, i64_w, i32_w]
                          rfl
                        refine take_ (i := 5) (N := some 40) (v := ?_) (a' := ?_) #[true, true, true, true, true, true, false, false] rfl rfl (take_ofW HT_.out HW_.out (by kernel_rfl)) (fun _ _ _ h => h) (Or.inl ⟨by rfl, ?_⟩) hHeld ?_ ?_
                        rotate_left
                        · rintro w' ⟨s0, s1, s2, s3, s4, s5, s6⟩
                          go_simp
                          with_reducible rfl
                        rotate_left
                        · simp only [Act.put, List.setIfInBounds_toArray, List.set_cons_zero, List.set_cons_succ, i64_w, i32_w]
                          rfl
                        refine one_ (i := 6) (N := some 41) #[true, true, true, true, true, true, true, false] rfl rfl (one_of HT_.out (by kernel_rfl)) (by decide) (fun K hK => ?_)
                        refine goes_ Try.func35 (by kernel_rfl) rfl #[.agg #[.bool x374000_2, .int .i64 x374001_2, .int .i64 x374002_2], .int .i64 (rd l0 x9_2), .agg #[.bool a2_0, .int .i64 a2_1, .bool a2_2]] (by rfl) rfl rfl (by (try simp only [List.map_toArray, List.map_cons, List.map_nil]); first | done | rfl | (simp only [List.length_drop, List.length_take]; rfl)) ?_
                        with_reducible refine (regimenref30_Take.calls k2 x374000_2 x374001_2 x374002_2 (rd l0 x9_2) a2_0 a2_1 a2_2 t379 t380 t381 _ A22.out).mono ?_
                        rintro e w68 ⟨rfl, hb⟩
                        refine ⟨_, rfl, ?_⟩
                        have n0_ := Aside0.mk (blk_below (g := gb369) (o := .cells #[.bool a2_0, .int .i64 a2_1, .bool a2_2] 44 (0, 0)) (by (with_reducible repeat (first | refine blk_drewN ?_ _ | refine blk_drew ?_ | refine blk_alloc ?_ _)); exact BK369.out) hb)
                        have n1_ := Aside0.mk (blk_below (g := gb373) (o := .cells #[.bool x374000_2, .int .i64 x374001_2, .int .i64 x374002_2] 51 (0, 0)) (by (with_reducible repeat (first | refine blk_drewN ?_ _ | refine blk_drew ?_ | refine blk_alloc ?_ _)); exact BK373.out) hb)
                        have n2_ := Aside0.mk (below_step (by repeat (first | (with_reducible first | exact HB.out | apply below_alloc | apply pw_below_drewN | apply below_drew1 | refine below_set ?_ GE369.out | refine below_set ?_ GE373.out) | exact HB.out)) hb)
                        clear BK369
                        clear BK373
                        clear HB
                        have BK369 := n0_
                        have BK373 := n1_
                        have HB := n2_
                        clear n0_ n1_ n2_
                        (try clear hb)
                        (try clear hb2)
                        (try clear hk)
                        (try clear hi)
                        refine hK.out _ _ ⟨(blk_cell BK373.out 0).trans rfl, (blk_cell BK373.out 1).trans rfl, (blk_cell BK373.out 2).trans rfl, (blk_cell BK369.out 0).trans rfl, (blk_cell BK369.out 1).trans rfl, (blk_cell BK369.out 2).trans rfl, ((HB.out.cell (World.block_lt_of_cell? w _ hw378_0)).trans hw378_0)⟩ (fun hHeld => ?_)
                        clear hK K
                        refine norm_ (a' := ?_) ?_ ?_
                        rotate_left
                        · show Act.put _ (some 41) _ = _
                          simp only [Act.put, List.setIfInBounds_toArray, List.set_cons_zero, List.set_cons_succ, i64_w, i32_w]
                          rfl
                        refine last_ (i := 7) (N := none) #[true, true, true, true, true, true, true, true] rfl rfl (one_of HT_.out (by kernel_rfl)) (by decide) (fun K hK => ?_)
                        have hs69 : w68.cell? ⟨gb373, 0, none⟩ = some (.bool x374000_2) := (blk_cell BK373.out 0).trans rfl
                        have hfs69 := blk_frozen BK373.out 0
                        have hns69_0 := NB369_373.out
                        have hms69_0 := NB373_369.out
                        have hs70 : w68.cell? ⟨gb373, 1, none⟩ = some (.int .i64 x374001_2) := (blk_cell BK373.out 1).trans rfl
                        have hfs70 := blk_frozen BK373.out 1
                        have hns70_0 := NB369_373.out
                        have hms70_0 := NB373_369.out
                        have hs71 : w68.cell? ⟨gb373, 2, none⟩ = some (.int .i64 x374002_2) := (blk_cell BK373.out 2).trans rfl
                        have hfs71 := blk_frozen BK373.out 2
                        have hns71_0 := NB369_373.out
                        have hms71_0 := NB373_369.out
                        refine skip_ (w1 := ?_) (by rfl) rfl ?_ ?_
                        rotate_left
                        · go_simp
                          rfl
                        refine hK.out _ _ ?_
                        clear hK K
                        refine done_ (done_of HT_.out (by kernel_rfl)) ?_
                        have hnb72 := NB373_369.out
                        have hnc72 := NB369_373.out
                        have hcz73_0 : w68.cell? ⟨gb373, 0, none⟩ = some (.bool x374000_2) := (blk_cell BK373.out 0).trans rfl
                        have hcz73_1 : w68.cell? ⟨gb373, 1, none⟩ = some (.int .i64 x374001_2) := (blk_cell BK373.out 1).trans rfl
                        have hcz73_2 : w68.cell? ⟨gb373, 2, none⟩ = some (.int .i64 x374002_2) := (blk_cell BK373.out 2).trans rfl
                        have hfz73_0 := blk_frozen BK373.out 0
                        have hfz73_1 := blk_frozen BK373.out 1
                        have hfz73_2 := blk_frozen BK373.out 2
                        try go_wp2_with (first | (go_at_call 36; (with_reducible refine (early_Out.calls t379 t380 t381 a1 true _ A65.out).mono ?_); rintro e w74 ⟨rfl, hb⟩; have n0_ := Aside0.mk (blk_below (g := gb369) (o := .cells #[.bool a2_0, .int .i64 a2_1, .bool a2_2] 44 (0, 0)) (by (with_reducible repeat (first | refine blk_drewN ?_ _ | refine blk_drew ?_ | refine blk_alloc ?_ _)); refine blk_far ?_ NB369_373.out _; (with_reducible repeat (first | refine blk_drewN ?_ _ | refine blk_drew ?_ | refine blk_alloc ?_ _)); refine blk_far ?_ NB369_373.out _; (with_reducible repeat (first | refine blk_drewN ?_ _ | refine blk_drew ?_ | refine blk_alloc ?_ _)); refine blk_far ?_ NB369_373.out _; (with_reducible repeat (first | refine blk_drewN ?_ _ | refine blk_drew ?_ | refine blk_alloc ?_ _)); exact BK369.out) hb); have n1_ := Aside0.mk (blk_below (g := gb373) (o := .cells #[.bool t379, .int .i64 t380, .int .i64 t381] 51 (0, 0)) (by (with_reducible repeat (first | refine blk_drewN ?_ _ | refine blk_drew ?_ | refine blk_alloc ?_ _)); refine blk_put (cs := #[.bool t379, .int .i64 t380, .int .i64 x374002_2]) ?_ 2 _ rfl; (with_reducible repeat (first | refine blk_drewN ?_ _ | refine blk_drew ?_ | refine blk_alloc ?_ _)); refine blk_put (cs := #[.bool t379, .int .i64 x374001_2, .int .i64 x374002_2]) ?_ 1 _ rfl; (with_reducible repeat (first | refine blk_drewN ?_ _ | refine blk_drew ?_ | refine blk_alloc ?_ _)); refine blk_put (cs := #[.bool x374000_2, .int .i64 x374001_2, .int .i64 x374002_2]) ?_ 0 _ rfl; (with_reducible repeat (first | refine blk_drewN ?_ _ | refine blk_drew ?_ | refine blk_alloc ?_ _)); exact BK373.out) hb); have n2_ := Aside0.mk (below_step (by repeat (first | (with_reducible first | exact HB.out | apply below_alloc | apply pw_below_drewN | apply below_drew1 | refine below_set ?_ GE369.out | refine below_set ?_ GE373.out) | exact HB.out)) hb); clear BK369; clear BK373; clear HB; have BK369 := n0_; have BK373 := n1_; have HB := n2_; clear n0_ n1_ n2_; (try clear hb); (try clear hb2); (try clear hk); (try clear hi)))
                        go_roundg k2
                        case measure => have := HJ3.out; have := HK2.out; omega
                        case rel => exact ⟨(wrap64 (x9_2 + 1)), (t379), (t380), (t381), (by first | rfl | (simp; done) | (simp [*]; done)), H', ⟨by have := HJ3.out; have := HK2.out; omega⟩, ⟨by (with_reducible repeat (first | refine blk_drewN ?_ _ | refine blk_drew ?_ | refine blk_alloc ?_ _)); exact BK369.out⟩, ⟨by (with_reducible repeat (first | refine blk_drewN ?_ _ | refine blk_drew ?_ | refine blk_alloc ?_ _)); exact BK373.out⟩, ⟨by repeat (first | (with_reducible first | exact HB.out | apply below_alloc | apply pw_below_drewN | apply below_drew1 | refine below_set ?_ GE369.out | refine below_set ?_ GE373.out) | exact HB.out)⟩⟩
                      · replace c66 := Bool.eq_false_iff.mpr c66
                        subst c66
                        have H1 : (none) = some r := by rw [if_neg (show ¬ (false = true) by decide)] at H; exact H
                        clear H
                        have H := H1
                        clear H1
                        exact absurd H (by simp)
                    · rw [if_neg c64] at H
                      have c64b0 : (x9_2 == t371) = false := beq_eq_false_iff_ne.mpr c64
                      have c64b1 : (x9_2 != t371) = true := bne_iff_ne.mpr c64
                      have H' := Aside0.mk H
                      clear H
                      try go_wp2
                      have n0_ := Aside0.mk (blk_drew BK369.out)
                      have n1_ := Aside0.mk (blk_drew BK373.out)
                      have n2_ := Aside0.mk (below_drew1 HB.out)
                      clear BK369
                      clear BK373
                      clear HB
                      have BK369 := n0_
                      have BK373 := n1_
                      have HB := n2_
                      clear n0_ n1_ n2_
                      have p378 : 0 ≤ (x9_2 : Int) := of_decide_eq_true (by first | (with_reducible assumption) | assumption)
                      have q378 : x9_2 < (l0.length : Int) := of_decide_eq_true (by first | (with_reducible assumption) | assumption)
                      obtain ⟨ad378, e378, hx378_0⟩ := Kd.at_int HR0.out x9_2 p378 q378
                      have hw378_0 := hx378_0
                      cases e378
                      replace hx378_0 := (HB.out.cell (World.block_lt_of_cell? w _ hx378_0)).trans hx378_0
                      replace p378 := eq_true p378
                      replace q378 := eq_true q378
                      refine start_ (n := 8) (S := fun w' => w'.cell? ⟨gb373, 0, none⟩ = some (.bool x374000_2) ∧ w'.cell? ⟨gb373, 1, none⟩ = some (.int .i64 x374001_2) ∧ w'.cell? ⟨gb373, 2, none⟩ = some (.int .i64 x374002_2) ∧ w'.cell? ⟨gb369, 0, none⟩ = some (.bool a2_0) ∧ w'.cell? ⟨gb369, 1, none⟩ = some (.int .i64 a2_1) ∧ w'.cell? ⟨gb369, 2, none⟩ = some (.bool a2_2) ∧ w'.cell? (ad378.add (x9_2).toNat) = some (.int .i64 (rd l0 x9_2))) (ds := [7]) #[false, false, false, false, false, false, false, false] (by kernel_rfl) rfl rfl ⟨(blk_cell BK373.out 0).trans rfl, (blk_cell BK373.out 1).trans rfl, (blk_cell BK373.out 2).trans rfl, (blk_cell BK369.out 0).trans rfl, (blk_cell BK369.out 1).trans rfl, (blk_cell BK369.out 2).trans rfl, ((HB.out.cell (World.block_lt_of_cell? w _ hw378_0)).trans hw378_0)⟩ (fun hHeld => ?_); refine with_tabW regimenlaw30_EarlyStops.tab10 regimenlaw30_EarlyStops.bits10 (fun HT_ HW_ => ?_)
                      generalize wr.drew = w75 at BK369 BK373 HB hx378_0 hHeld ⊢
                      refine pure_ (i := 1) (N := some 36) (v := ?_) (a' := ?_) #[false, true, false, false, false, false, false, false] rfl rfl (any_of HT_.out (by kernel_rfl)) (fun _ _ _ h => h) (Or.inl ⟨by rfl, ?_⟩) ?_ ?_
                      rotate_left
                      · intro w'
                        go_simp
                        with_reducible rfl
                      rotate_left
                      · simp only [Act.put, List.setIfInBounds_toArray, List.set_cons_zero, List.set_cons_succ, i64_w, i32_w]
                        rfl
                      refine pure_ (i := 2) (N := some 37) (v := ?_) (a' := ?_) #[false, true, true, false, false, false, false, false] rfl rfl (any_of HT_.out (by kernel_rfl)) (fun _ _ _ h => h) (Or.inl ⟨by rfl, ?_⟩) ?_ ?_
                      rotate_left
                      · intro w'
                        go_simp
                        with_reducible rfl
                      rotate_left
                      · simp only [Act.put, List.setIfInBounds_toArray, List.set_cons_zero, List.set_cons_succ, i64_w, i32_w]
                        rfl
                      refine pure_ (i := 3) (N := some 38) (v := ?_) (a' := ?_) #[false, true, true, true, false, false, false, false] rfl rfl (any_of HT_.out (by kernel_rfl)) (fun _ _ _ h => h) (Or.inl ⟨by rfl, ?_⟩) ?_ ?_
                      rotate_left
                      · intro w'
                        go_simp
                        with_reducible rfl
                      rotate_left
                      · simp only [Act.put, List.setIfInBounds_toArray, List.set_cons_zero, List.set_cons_succ, i64_w, i32_w]
                        rfl
                      refine take_ (i := 0) (N := some 35) (v := ?_) (a' := ?_) #[true, true, true, true, false, false, false, false] rfl rfl (take_ofW HT_.out HW_.out (by kernel_rfl)) (fun _ _ _ h => h) (Or.inl ⟨by rfl, ?_⟩) hHeld ?_ ?_
                      rotate_left
                      · rintro w' ⟨s0, s1, s2, s3, s4, s5, s6⟩
                        go_simp
                        with_reducible rfl
                      rotate_left
                      · simp only [Act.put, List.setIfInBounds_toArray, List.set_cons_zero, List.set_cons_succ, i64_w, i32_w]
                        rfl
                      refine take_ (i := 4) (N := some 39) (v := ?_) (a' := ?_) #[true, true, true, true, true, false, false, false] rfl rfl (take_ofW HT_.out HW_.out (by kernel_rfl)) (fun _ _ _ h => h) (Or.inl ⟨by rfl, ?_⟩) hHeld ?_ ?_
                      rotate_left
                      · rintro w' ⟨s0, s1, s2, s3, s4, s5, s6⟩
                        go_simp
                        with_reducible rfl
                      rotate_left
                      · simp only [Act.put, List.setIfInBounds_toArray, List.set_cons_zero, List.set_cons_succ, i64_w, i32_w]
                        rfl
                      refine take_ (i := 5) (N := some 40) (v := ?_) (a' := ?_) #[true, true, true, true, true, true, false, false] rfl rfl (take_ofW HT_.out HW_.out (by kernel_rfl)) (fun _ _ _ h => h) (Or.inl ⟨by rfl, ?_⟩) hHeld ?_ ?_
                      rotate_left
                      · rintro w' ⟨s0, s1, s2, s3, s4, s5, s6⟩
                        go_simp
                        with_reducible rfl
                      rotate_left
                      · simp only [Act.put, List.setIfInBounds_toArray, List.set_cons_zero, List.set_cons_succ, i64_w, i32_w]
                        rfl
                      refine one_ (i := 6) (N := some 41) #[true, true, true, true, true, true, true, false] rfl rfl (one_of HT_.out (by kernel_rfl)) (by decide) (fun K hK => ?_)
                      refine goes_ Try.func35 (by kernel_rfl) rfl #[.agg #[.bool x374000_2, .int .i64 x374001_2, .int .i64 x374002_2], .int .i64 (rd l0 x9_2), .agg #[.bool a2_0, .int .i64 a2_1, .bool a2_2]] (by rfl) rfl rfl (by (try simp only [List.map_toArray, List.map_cons, List.map_nil]); first | done | rfl | (simp only [List.length_drop, List.length_take]; rfl)) ?_
                      with_reducible refine (regimenref30_Take.calls k2 x374000_2 x374001_2 x374002_2 (rd l0 x9_2) a2_0 a2_1 a2_2 t379 t380 t381 _ A22.out).mono ?_
                      rintro e w76 ⟨rfl, hb⟩
                      refine ⟨_, rfl, ?_⟩
                      have n0_ := Aside0.mk (blk_below (g := gb369) (o := .cells #[.bool a2_0, .int .i64 a2_1, .bool a2_2] 44 (0, 0)) (by (with_reducible repeat (first | refine blk_drewN ?_ _ | refine blk_drew ?_ | refine blk_alloc ?_ _)); exact BK369.out) hb)
                      have n1_ := Aside0.mk (blk_below (g := gb373) (o := .cells #[.bool x374000_2, .int .i64 x374001_2, .int .i64 x374002_2] 51 (0, 0)) (by (with_reducible repeat (first | refine blk_drewN ?_ _ | refine blk_drew ?_ | refine blk_alloc ?_ _)); exact BK373.out) hb)
                      have n2_ := Aside0.mk (below_step (by repeat (first | (with_reducible first | exact HB.out | apply below_alloc | apply pw_below_drewN | apply below_drew1 | refine below_set ?_ GE369.out | refine below_set ?_ GE373.out) | exact HB.out)) hb)
                      clear BK369
                      clear BK373
                      clear HB
                      have BK369 := n0_
                      have BK373 := n1_
                      have HB := n2_
                      clear n0_ n1_ n2_
                      (try clear hb)
                      (try clear hb2)
                      (try clear hk)
                      (try clear hi)
                      refine hK.out _ _ ⟨(blk_cell BK373.out 0).trans rfl, (blk_cell BK373.out 1).trans rfl, (blk_cell BK373.out 2).trans rfl, (blk_cell BK369.out 0).trans rfl, (blk_cell BK369.out 1).trans rfl, (blk_cell BK369.out 2).trans rfl, ((HB.out.cell (World.block_lt_of_cell? w _ hw378_0)).trans hw378_0)⟩ (fun hHeld => ?_)
                      clear hK K
                      refine norm_ (a' := ?_) ?_ ?_
                      rotate_left
                      · show Act.put _ (some 41) _ = _
                        simp only [Act.put, List.setIfInBounds_toArray, List.set_cons_zero, List.set_cons_succ, i64_w, i32_w]
                        rfl
                      refine last_ (i := 7) (N := none) #[true, true, true, true, true, true, true, true] rfl rfl (one_of HT_.out (by kernel_rfl)) (by decide) (fun K hK => ?_)
                      have hs77 : w76.cell? ⟨gb373, 0, none⟩ = some (.bool x374000_2) := (blk_cell BK373.out 0).trans rfl
                      have hfs77 := blk_frozen BK373.out 0
                      have hns77_0 := NB369_373.out
                      have hms77_0 := NB373_369.out
                      have hs78 : w76.cell? ⟨gb373, 1, none⟩ = some (.int .i64 x374001_2) := (blk_cell BK373.out 1).trans rfl
                      have hfs78 := blk_frozen BK373.out 1
                      have hns78_0 := NB369_373.out
                      have hms78_0 := NB373_369.out
                      have hs79 : w76.cell? ⟨gb373, 2, none⟩ = some (.int .i64 x374002_2) := (blk_cell BK373.out 2).trans rfl
                      have hfs79 := blk_frozen BK373.out 2
                      have hns79_0 := NB369_373.out
                      have hms79_0 := NB373_369.out
                      refine skip_ (w1 := ?_) (by rfl) rfl ?_ ?_
                      rotate_left
                      · go_simp
                        rfl
                      refine hK.out _ _ ?_
                      clear hK K
                      refine done_ (done_of HT_.out (by kernel_rfl)) ?_
                      try go_wp2
                      go_roundg k2
                      case measure => have := HJ3.out; have := HK2.out; omega
                      case rel => exact ⟨(wrap64 (x9_2 + 1)), (t379), (t380), (t381), (by first | rfl | (simp; done) | (simp [*]; done)), H', ⟨by have := HJ3.out; have := HK2.out; omega⟩, ⟨by (with_reducible repeat (first | refine blk_drewN ?_ _ | refine blk_drew ?_ | refine blk_alloc ?_ _)); refine blk_far ?_ NB369_373.out _; (with_reducible repeat (first | refine blk_drewN ?_ _ | refine blk_drew ?_ | refine blk_alloc ?_ _)); refine blk_far ?_ NB369_373.out _; (with_reducible repeat (first | refine blk_drewN ?_ _ | refine blk_drew ?_ | refine blk_alloc ?_ _)); refine blk_far ?_ NB369_373.out _; (with_reducible repeat (first | refine blk_drewN ?_ _ | refine blk_drew ?_ | refine blk_alloc ?_ _)); exact BK369.out⟩, ⟨by (with_reducible repeat (first | refine blk_drewN ?_ _ | refine blk_drew ?_ | refine blk_alloc ?_ _)); refine blk_put (cs := #[.bool t379, .int .i64 t380, .int .i64 x374002_2]) ?_ 2 _ rfl; (with_reducible repeat (first | refine blk_drewN ?_ _ | refine blk_drew ?_ | refine blk_alloc ?_ _)); refine blk_put (cs := #[.bool t379, .int .i64 x374001_2, .int .i64 x374002_2]) ?_ 1 _ rfl; (with_reducible repeat (first | refine blk_drewN ?_ _ | refine blk_drew ?_ | refine blk_alloc ?_ _)); refine blk_put (cs := #[.bool x374000_2, .int .i64 x374001_2, .int .i64 x374002_2]) ?_ 0 _ rfl; (with_reducible repeat (first | refine blk_drewN ?_ _ | refine blk_drew ?_ | refine blk_alloc ?_ _)); exact BK373.out⟩, ⟨by repeat (first | (with_reducible first | exact HB.out | apply below_alloc | apply pw_below_drewN | apply below_drew1 | refine below_set ?_ GE369.out | refine below_set ?_ GE373.out) | exact HB.out)⟩⟩
                · rw [if_neg c21] at H
                  exact absurd H (by simp)
              · rw [if_neg c20] at H
                have c20b0 : decide (x9_2 < (l0.length : Int)) = false := decide_eq_false c20
                clear c20
                replace H := Option.bind_eq_some_iff.mp H
                obtain ⟨⟨t374, t375, t376⟩, A800, H⟩ := H
                replace H : (if (t374 == x374000_2 && (t375 == x374001_2 && (t376 == x374002_2))) = true then ((regimenlaw30_awake.f k2).bind fun t377 => (some t377)) else (none)) = some r := H
                have A80 := Aside0.mk A800
                clear A800
                by_cases c81 : (t374 == x374000_2 && (t375 == x374001_2 && (t376 == x374002_2))) = true
                · rw [if_pos c81] at H
                  have c81b0 : (t374 == x374000_2 && (t375 == x374001_2 && (t376 == x374002_2))) = true := c81
                  (try (have c81b1 : decide (t374 = x374000_2 && (t375 == x374001_2 && (t376 == x374002_2))) = true := by simpa using c81))
                  (try (have c81b2 : (t374 == x374000_2 && (t375 == x374001_2 && (t376 == x374002_2))) = true := by simpa using c81))
                  clear c81
                  replace H := Option.bind_eq_some_iff.mp H
                  obtain ⟨t377, A820, H⟩ := H
                  replace H : (some t377) = some r := H
                  have A82 := Aside0.mk A820
                  clear A820
                  obtain rfl := Option.some.inj H
                  try go_wp2
                  have n0_ := Aside0.mk (blk_drew BK369.out)
                  have n1_ := Aside0.mk (blk_drew BK373.out)
                  have n2_ := Aside0.mk (below_drew1 HB.out)
                  clear BK369
                  clear BK373
                  clear HB
                  have BK369 := n0_
                  have BK373 := n1_
                  have HB := n2_
                  clear n0_ n1_ n2_
                  refine start_ (n := 9) (S := fun w' => w'.cell? ⟨gb369, 0, none⟩ = some (.bool a2_0) ∧ w'.cell? ⟨gb369, 1, none⟩ = some (.int .i64 a2_1) ∧ w'.cell? ⟨gb369, 2, none⟩ = some (.bool a2_2) ∧ w'.cell? ⟨gb373, 0, none⟩ = some (.bool x374000_2) ∧ w'.cell? ⟨gb373, 1, none⟩ = some (.int .i64 x374001_2) ∧ w'.cell? ⟨gb373, 2, none⟩ = some (.int .i64 x374002_2)) (ds := []) #[false, false, false, false, false, false, false, false, false] (by kernel_rfl) rfl rfl ⟨(blk_cell BK369.out 0).trans rfl, (blk_cell BK369.out 1).trans rfl, (blk_cell BK369.out 2).trans rfl, (blk_cell BK373.out 0).trans rfl, (blk_cell BK373.out 1).trans rfl, (blk_cell BK373.out 2).trans rfl⟩ (fun hHeld => ?_); refine with_tabW regimenlaw30_EarlyStops.tab13 regimenlaw30_EarlyStops.bits13 (fun HT_ HW_ => ?_)
                  generalize wr.drew = w83 at BK369 BK373 HB hHeld ⊢
                  refine pure_ (i := 0) (N := some 65) (v := ?_) (a' := ?_) #[true, false, false, false, false, false, false, false, false] rfl rfl (any_of HT_.out (by kernel_rfl)) (fun _ _ _ h => h) (Or.inl ⟨by rfl, ?_⟩) ?_ ?_
                  rotate_left
                  · intro w'
                    go_simp
                    with_reducible rfl
                  rotate_left
                  · simp only [Act.put, List.setIfInBounds_toArray, List.set_cons_zero, List.set_cons_succ, i64_w, i32_w]
                    rfl
                  refine take_ (i := 1) (N := some 66) (v := ?_) (a' := ?_) #[true, true, false, false, false, false, false, false, false] rfl rfl (take_ofW HT_.out HW_.out (by kernel_rfl)) (fun _ _ _ h => h) (Or.inl ⟨by rfl, ?_⟩) hHeld ?_ ?_
                  rotate_left
                  · rintro w' ⟨s0, s1, s2, s3, s4, s5⟩
                    go_simp
                    with_reducible rfl
                  rotate_left
                  · simp only [Act.put, List.setIfInBounds_toArray, List.set_cons_zero, List.set_cons_succ, i64_w, i32_w]
                    rfl
                  refine take_ (i := 3) (N := some 68) (v := ?_) (a' := ?_) #[true, true, false, true, false, false, false, false, false] rfl rfl (take_ofW HT_.out HW_.out (by kernel_rfl)) (fun _ _ _ h => h) (Or.inl ⟨by rfl, ?_⟩) hHeld ?_ ?_
                  rotate_left
                  · rintro w' ⟨s0, s1, s2, s3, s4, s5⟩
                    go_simp
                    with_reducible rfl
                  rotate_left
                  · simp only [Act.put, List.setIfInBounds_toArray, List.set_cons_zero, List.set_cons_succ, i64_w, i32_w]
                    rfl
                  refine one_ (i := 2) (N := some 67) #[true, true, true, true, false, false, false, false, false] rfl rfl (one_of HT_.out (by kernel_rfl)) (by decide) (fun K hK => ?_)
                  refine goes_ Try.func37 (by kernel_rfl) rfl #[.slice A0 l0.length c0, .agg #[.bool a2_0, .int .i64 a2_1, .bool a2_2]] (by rfl) rfl rfl (by (try simp only [List.map_toArray, List.map_cons, List.map_nil]); first | done | rfl | (simp only [List.length_drop, List.length_take]; rfl)) ?_
                  with_reducible refine (early_All.calls k2 _ _ l0 a2_0 a2_1 a2_2 t374 t375 t376 _ ?side1 ?side2 A80.out).mono ?_
                  (case side1 => repeat (first | exact (Kd.C_below HR0.out HB.out) | (with_reducible refine Kd.C_alloc ?_ _) | (with_reducible refine Kd.C_drewN ?_ _) | (with_reducible refine Kd.C_drew ?_)))
                  (case side2 => exact HC0.out)
                  rintro e w84 ⟨rfl, hb⟩
                  refine ⟨_, rfl, ?_⟩
                  have n0_ := Aside0.mk (blk_below (g := gb369) (o := .cells #[.bool a2_0, .int .i64 a2_1, .bool a2_2] 44 (0, 0)) (by (with_reducible repeat (first | refine blk_drewN ?_ _ | refine blk_drew ?_ | refine blk_alloc ?_ _)); exact BK369.out) hb)
                  have n1_ := Aside0.mk (blk_below (g := gb373) (o := .cells #[.bool x374000_2, .int .i64 x374001_2, .int .i64 x374002_2] 51 (0, 0)) (by (with_reducible repeat (first | refine blk_drewN ?_ _ | refine blk_drew ?_ | refine blk_alloc ?_ _)); exact BK373.out) hb)
                  have n2_ := Aside0.mk (below_step (by repeat (first | (with_reducible first | exact HB.out | apply below_alloc | apply pw_below_drewN | apply below_drew1 | refine below_set ?_ GE369.out | refine below_set ?_ GE373.out) | exact HB.out)) hb)
                  clear BK369
                  clear BK373
                  clear HB
                  have BK369 := n0_
                  have BK373 := n1_
                  have HB := n2_
                  clear n0_ n1_ n2_
                  (try clear hb)
                  (try clear hb2)
                  (try clear hk)
                  (try clear hi)
                  refine hK.out _ _ ⟨(blk_cell BK369.out 0).trans rfl, (blk_cell BK369.out 1).trans rfl, (blk_cell BK369.out 2).trans rfl, (blk_cell BK373.out 0).trans rfl, (blk_cell BK373.out 1).trans rfl, (blk_cell BK373.out 2).trans rfl⟩ (fun hHeld => ?_)
                  clear hK K
                  refine norm_ (a' := ?_) ?_ ?_
                  rotate_left
                  · show Act.put _ (some 67) _ = _
                    simp only [Act.put, List.setIfInBounds_toArray, List.set_cons_zero, List.set_cons_succ, i64_w, i32_w]
                    rfl
                  refine pure_ (i := 4) (N := some 69) (v := ?_) (a' := ?_) #[true, true, true, true, true, false, false, false, false] rfl rfl (any_of HT_.out (by kernel_rfl)) (fun _ _ _ h => h) (Or.inl ⟨by rfl, ?_⟩) ?_ ?_
                  rotate_left
                  · intro w'
                    go_simp
                    with_reducible rfl
                  rotate_left
                  · simp only [Act.put, List.setIfInBounds_toArray, List.set_cons_zero, List.set_cons_succ, i64_w, i32_w]
                    rfl
                  refine pure_ (i := 5) (N := some 70) (v := ?_) (a' := ?_) #[true, true, true, true, true, true, false, false, false] rfl rfl (any_of HT_.out (by kernel_rfl)) (fun _ _ _ h => h) (Or.inl ⟨by rfl, ?_⟩) ?_ ?_
                  rotate_left
                  · intro w'
                    go_simp
                    with_reducible rfl
                  rotate_left
                  · simp only [Act.put, List.setIfInBounds_toArray, List.set_cons_zero, List.set_cons_succ, i64_w, i32_w]
                    rfl
                  refine one_ (i := 6) (N := some 71) #[true, true, true, true, true, true, true, false, false] rfl rfl (one_of HT_.out (by kernel_rfl)) (by decide) (fun K hK => ?_)
                  refine goes_ Try.func32 (by kernel_rfl) rfl #[] (by rfl) rfl rfl (by (try simp only [List.map_toArray, List.map_cons, List.map_nil]); first | done | rfl | (simp only [List.length_drop, List.length_take]; rfl)) ?_
                  with_reducible refine (regimenlaw30_awake.calls k2  t377 _ A82.out).mono ?_
                  rintro e w85 ⟨rfl, hb⟩
                  refine ⟨_, rfl, ?_⟩
                  have n0_ := Aside0.mk (blk_below (g := gb369) (o := .cells #[.bool a2_0, .int .i64 a2_1, .bool a2_2] 44 (0, 0)) (by (with_reducible repeat (first | refine blk_drewN ?_ _ | refine blk_drew ?_ | refine blk_alloc ?_ _)); exact BK369.out) hb)
                  have n1_ := Aside0.mk (blk_below (g := gb373) (o := .cells #[.bool x374000_2, .int .i64 x374001_2, .int .i64 x374002_2] 51 (0, 0)) (by (with_reducible repeat (first | refine blk_drewN ?_ _ | refine blk_drew ?_ | refine blk_alloc ?_ _)); exact BK373.out) hb)
                  have n2_ := Aside0.mk (below_step (by repeat (first | (with_reducible first | exact HB.out | apply below_alloc | apply pw_below_drewN | apply below_drew1 | refine below_set ?_ GE369.out | refine below_set ?_ GE373.out) | exact HB.out)) hb)
                  clear BK369
                  clear BK373
                  clear HB
                  have BK369 := n0_
                  have BK373 := n1_
                  have HB := n2_
                  clear n0_ n1_ n2_
                  (try clear hb)
                  (try clear hb2)
                  (try clear hk)
                  (try clear hi)
                  refine hK.out _ _ ⟨(blk_cell BK369.out 0).trans rfl, (blk_cell BK369.out 1).trans rfl, (blk_cell BK369.out 2).trans rfl, (blk_cell BK373.out 0).trans rfl, (blk_cell BK373.out 1).trans rfl, (blk_cell BK373.out 2).trans rfl⟩ (fun hHeld => ?_)
                  clear hK K
                  refine norm_ (a' := ?_) ?_ ?_
                  rotate_left
                  · show Act.put _ (some 71) _ = _
                    simp only [Act.put, List.setIfInBounds_toArray, List.set_cons_zero, List.set_cons_succ, i64_w, i32_w]
                    rfl
                  refine pure_ (i := 7) (N := some 72) (v := ?_) (a' := ?_) #[true, true, true, true, true, true, true, true, false] rfl rfl (any_of HT_.out (by kernel_rfl)) (fun _ _ _ h => h) (Or.inl ⟨by rfl, ?_⟩) ?_ ?_
                  rotate_left
                  · intro w'
                    go_simp
                    with_reducible rfl
                  rotate_left
                  · simp only [Act.put, List.setIfInBounds_toArray, List.set_cons_zero, List.set_cons_succ, i64_w, i32_w]
                    rfl
                  refine pure_ (i := 8) (N := some 6) (v := ?_) (a' := ?_) #[true, true, true, true, true, true, true, true, true] rfl rfl (any_of HT_.out (by kernel_rfl)) (fun _ _ _ h => h) (Or.inl ⟨by rfl, ?_⟩) ?_ ?_
                  rotate_left
                  · intro w'
                    go_simp
                    with_reducible rfl
                  rotate_left
                  · simp only [Act.put, List.setIfInBounds_toArray, List.set_cons_zero, List.set_cons_succ, i64_w, i32_w]
                    rfl
                  refine done_ (done_of HT_.out (by kernel_rfl)) ?_
                  try go_wp2
                  go_ret
                  exact ⟨by first | rfl | (simp [errW_none, errW_some] <;> rfl) | (simp [*, errW_none, errW_some] <;> rfl), by repeat (first | (with_reducible first | exact HB.out | apply below_alloc | apply pw_below_drewN | apply below_drew1 | refine below_set ?_ GE369.out | refine below_set ?_ GE373.out) | exact HB.out)⟩
                · rw [if_neg c81] at H
                  have c81b0 : (t374 == x374000_2 && (t375 == x374001_2 && (t376 == x374002_2))) = false := by simpa using c81
                  (try (have c81b1 : decide (t374 = x374000_2 && (t375 == x374001_2 && (t376 == x374002_2))) = false := by simpa using c81))
                  (try (have c81b2 : (t374 == x374000_2 && (t375 == x374001_2 && (t376 == x374002_2))) = false := by simpa using c81))
                  (try (have c81b3 : ¬ (t374 = x374000_2 && (t375 == x374001_2 && (t376 == x374002_2))) := by simpa using c81))
                  clear c81
                  exact absurd H (by simp)
        · rw [if_neg c12] at H
          exact absurd H (by simp)

/-- THE ONE PURE STATEMENT of regimenlaw30_EarlyStops: yours. -/
def regimenlaw30_EarlyStops.Pure : Prop := ∀ (l0 : List Int) (a1 : Int) (a2_0 : Bool) (a2_1 : Int) (a2_2 : Bool), (l0.length ≤ maxLen ∧ l0.length * 8 ≤ 140737488351232 ∧ ∀ x, x ∈ l0 → (Lit.int .i64 x).wf = true) → ((Lit.int .i64 a1).wf = true) → ((Lit.int .i64 a2_1).wf = true) → ∃ k, regimenlaw30_EarlyStops.f k l0 a1 a2_0 a2_1 a2_2 = some true
theorem regimenlaw30_EarlyStops.walk (P : regimenlaw30_EarlyStops.Pure) (A0 : Option Addr) (c0 : Nat) (l0 : List Int) (a1 : Int) (a2_0 : Bool) (a2_1 : Int) (a2_2 : Bool) (w : World) (hr0 : Kd.C (Kd.int .i64) w A0 l0.length l0) (hc0 : l0.length ≤ c0) (w0 : l0.length ≤ maxLen ∧ l0.length * 8 ≤ 140737488351232 ∧ ∀ x, x ∈ l0 → (Lit.int .i64 x).wf = true) (w1 : (Lit.int .i64 a1).wf = true)  (w2_1 : (Lit.int .i64 a2_1).wf = true)  :
    Calls Try.prog 8 #[.slice A0 l0.length c0, .int .i64 a1, .agg #[.bool a2_0, .int .i64 a2_1, .bool a2_2]] w fun e w' => e = .returned (.bool true) ∧ Below w.heap.size w w' := by
  obtain ⟨k, h⟩ := P l0 a1 a2_0 a2_1 a2_2 w0 w1 w2_1
  refine (regimenlaw30_EarlyStops.calls k _ _ l0 a1 a2_0 a2_1 a2_2 true w hr0 hc0 h).mono ?_
  rintro e w' ⟨rfl, hd⟩
  exact ⟨rfl, hd⟩

end Go.Proofs.Ytmakhhgfidgfdaa.PB
