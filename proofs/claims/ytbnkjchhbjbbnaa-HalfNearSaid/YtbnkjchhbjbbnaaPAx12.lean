/- Go functions of this seat as plain Lean functions, each with a proof that its call comes to just what that function says, wherever that function says anything: written by a program of this session. -/
import Derived.Test.YtbnkjchhbjbbnaaPAx0
import Derived.Test.YtbnkjchhbjbbnaaPAx6
import Derived.Test.YtbnkjchhbjbbnaaPAx7
namespace Go.Proofs.Ytbnkjchhbjbbnaa.PA
open Go.RowKit Go.Proofs.YtbnkjchhbjbbnaaW.PrintWords Go.Proofs.YtbnkjchhbjbbnaaW.PrintLast Go.Proofs.YtbnkjchhbjbbnaaW.PrintMore
attribute [local go_sem] max2_int min2_int max_two min_two max_three min_three max_four min_four   -- for this text's walks alone
set_option linter.unusedVariables false
set_option linter.unusedSimpArgs false

attribute [local go_sem] idx24_1
/-! ### regimenlaw03_HalfNear: function 13 -/
mutual
def regimenlaw03_HalfNear.j0 : Nat → Int → Bool → Int → Int → Option (Bool)
  | 0, _, _, _, _ => none
  | k + 1, x2, x36, x454000, x454001 => if x36 = true then (some false) else (regimenlaw03_HalfNear.l0 k x2 1 0 x454000 x454001)
def regimenlaw03_HalfNear.l0 : Nat → Int → Int → Int → Int → Int → Option (Bool)
  | 0, _, _, _, _, _ => none
  | k + 1, x2, x11, x12, x454000, x454001 => if x12 < x2 then (if x12 < 63 then (regimenlaw03_HalfNear.l0 k x2 (IntKind.u64.wrap (2 * x11)) (wrap64 (x12 + 1)) x454000 x454001) else ((half_Shift.f k x454000 x454001 x2).bind fun bt458 => ((regimenref03_Near.f k x454000 x454001 x11).bind fun bt460 => (if bt458.1 = bt460.1 then (if bt458.2 = bt460.2 then ((regimenlaw03_awake.f k).bind fun t462 => (some t462)) else (some false)) else (some false))))) else ((half_Shift.f k x454000 x454001 x2).bind fun bt463 => ((regimenref03_Near.f k x454000 x454001 x11).bind fun bt465 => (if bt463.1 = bt465.1 then (if bt463.2 = bt465.2 then ((regimenlaw03_awake.f k).bind fun t467 => (some t467)) else (some false)) else (some false))))
end
def regimenlaw03_HalfNear.f (k : Nat) (a0_0 : Int) (a0_1 : Int) (a1 : Int) (a2 : Int) : Option (Bool) := (half_Near.f k a0_0 a0_1 a1).bind fun bt454 => ((regimenref03_Near.f k a0_0 a0_1 a1).bind fun bt456 => (if bt454.1 = bt456.1 then (regimenlaw03_HalfNear.j0 k a2 (bt454.2 != bt456.2) a0_0 a0_1) else (regimenlaw03_HalfNear.j0 k a2 true a0_0 a0_1)))
theorem regimenlaw03_HalfNear.mono_l : ∀ k, (∀ y0 y1 y2 y3, LeO (regimenlaw03_HalfNear.j0 k y0 y1 y2 y3) (regimenlaw03_HalfNear.j0 (k + 1) y0 y1 y2 y3)) ∧ (∀ y0 y1 y2 y3 y4, LeO (regimenlaw03_HalfNear.l0 k y0 y1 y2 y3 y4) (regimenlaw03_HalfNear.l0 (k + 1) y0 y1 y2 y3 y4))
  | 0 => ⟨fun _ _ _ _ r h => by simp [regimenlaw03_HalfNear.j0] at h, fun _ _ _ _ _ r h => by simp [regimenlaw03_HalfNear.l0] at h⟩
  | k + 1 => by
    obtain ⟨ih0, ih1⟩ := regimenlaw03_HalfNear.mono_l k
    refine ⟨?_, ?_⟩
    · intro y0 y1 y2 y3
      unfold regimenlaw03_HalfNear.j0
      repeat' first
      | (with_reducible exact ih0 _ _ _ _)
      | (with_reducible exact ih1 _ _ _ _ _)
      | (with_reducible exact half_Near.mono _ _ _ _)
      | (with_reducible exact half_Shift.mono _ _ _ _)
      | (with_reducible exact regimenlaw03_awake.mono _)
      | (with_reducible exact regimenref03_Near.mono _ _ _ _)
      | (with_reducible exact LeO.refl _)
      | (with_reducible exact LeO.none _)
      | (with_reducible refine LeO.ite ?_ ?_)
      | (with_reducible refine LeO.bind ?_ (fun _ => ?_))
      | exact ih0 _ _ _ _
      | exact ih1 _ _ _ _ _
      | exact half_Near.mono _ _ _ _
      | exact half_Shift.mono _ _ _ _
      | exact regimenlaw03_awake.mono _
      | exact regimenref03_Near.mono _ _ _ _
      | exact LeO.none _
      | refine LeO.ite ?_ ?_
      | refine LeO.bind ?_ (fun _ => ?_)
    · intro y0 y1 y2 y3 y4
      unfold regimenlaw03_HalfNear.l0
      repeat' first
      | (with_reducible exact ih0 _ _ _ _)
      | (with_reducible exact ih1 _ _ _ _ _)
      | (with_reducible exact half_Near.mono _ _ _ _)
      | (with_reducible exact half_Shift.mono _ _ _ _)
      | (with_reducible exact regimenlaw03_awake.mono _)
      | (with_reducible exact regimenref03_Near.mono _ _ _ _)
      | (with_reducible exact LeO.refl _)
      | (with_reducible exact LeO.none _)
      | (with_reducible refine LeO.ite ?_ ?_)
      | (with_reducible refine LeO.bind ?_ (fun _ => ?_))
      | exact ih0 _ _ _ _
      | exact ih1 _ _ _ _ _
      | exact half_Near.mono _ _ _ _
      | exact half_Shift.mono _ _ _ _
      | exact regimenlaw03_awake.mono _
      | exact regimenref03_Near.mono _ _ _ _
      | exact LeO.none _
      | refine LeO.ite ?_ ?_
      | refine LeO.bind ?_ (fun _ => ?_)
theorem regimenlaw03_HalfNear.mono : ∀ a0 a1 a2 a3 k, LeO (regimenlaw03_HalfNear.f k a0 a1 a2 a3) (regimenlaw03_HalfNear.f (k + 1) a0 a1 a2 a3) := by
  intro a0 a1 a2 a3 k
  obtain ⟨ih0, ih1⟩ := regimenlaw03_HalfNear.mono_l k
  unfold regimenlaw03_HalfNear.f
  repeat' first
      | (with_reducible exact ih0 _ _ _ _)
      | (with_reducible exact ih1 _ _ _ _ _)
      | (with_reducible exact half_Near.mono _ _ _ _)
      | (with_reducible exact half_Shift.mono _ _ _ _)
      | (with_reducible exact regimenlaw03_awake.mono _)
      | (with_reducible exact regimenref03_Near.mono _ _ _ _)
      | (with_reducible exact LeO.refl _)
      | (with_reducible exact LeO.none _)
      | (with_reducible refine LeO.ite ?_ ?_)
      | (with_reducible refine LeO.bind ?_ (fun _ => ?_))
      | exact ih0 _ _ _ _
      | exact ih1 _ _ _ _ _
      | exact half_Near.mono _ _ _ _
      | exact half_Shift.mono _ _ _ _
      | exact regimenlaw03_awake.mono _
      | exact regimenref03_Near.mono _ _ _ _
      | exact LeO.none _
      | refine LeO.ite ?_ ?_
      | refine LeO.bind ?_ (fun _ => ?_)
set_option maxHeartbeats 8000000 in
set_option maxRecDepth 100000 in
theorem regimenlaw03_HalfNear.calls (k : Nat) (a0_0 : Int) (a0_1 : Int) (a1 : Int) (a2 : Int) (r : Bool) (w : World) (h : regimenlaw03_HalfNear.f k a0_0 a0_1 a1 a2 = some r) :
    Calls Try.prog 13 #[.agg #[.int .u64 a0_0, .int .u64 a0_1], .int .u64 a1, .int .i64 a2] w fun e w' => e = .returned (.bool r) ∧ Below w.heap.size w w' := by
  have hu24 := Try.underlying24
  have HB := Aside0.mk (Below.refl w.heap.size w)
  have H : ((half_Near.f k a0_0 a0_1 a1).bind fun bt454 => ((regimenref03_Near.f k a0_0 a0_1 a1).bind fun bt456 => (if bt454.1 = bt456.1 then (regimenlaw03_HalfNear.j0 k a2 (bt454.2 != bt456.2) a0_0 a0_1) else (regimenlaw03_HalfNear.j0 k a2 true a0_0 a0_1)))) = some r := h
  clear h
  replace H := Option.bind_eq_some_iff.mp H
  obtain ⟨⟨t454, t455⟩, A40, H⟩ := H
  replace H : ((regimenref03_Near.f k a0_0 a0_1 a1).bind fun bt456 => (if t454 = bt456.1 then (regimenlaw03_HalfNear.j0 k a2 (t455 != bt456.2) a0_0 a0_1) else (regimenlaw03_HalfNear.j0 k a2 true a0_0 a0_1))) = some r := H
  have A4 := Aside0.mk A40
  clear A40
  replace H := Option.bind_eq_some_iff.mp H
  obtain ⟨⟨t456, t457⟩, A50, H⟩ := H
  replace H : (if t454 = t456 then (regimenlaw03_HalfNear.j0 k a2 (t455 != t457) a0_0 a0_1) else (regimenlaw03_HalfNear.j0 k a2 true a0_0 a0_1)) = some r := H
  have A5 := Aside0.mk A50
  clear A50
  have HC6 := Aside0.mk H
  clear H
  go_enter Try.func13, Try.ntmps13
  go_upto_region 3 with (first | ((with_reducible refine gate_dst (N := 3) rfl ?_); refine box_event ?hg (N := 3) ?hd (cs := #[.int .u64 a0_0, .int .u64 a0_1]) (t := 24) ?hr ?_; (case hd => rfl); (case hg => rfl); (case hr => first | (go_simp; done) | (go_simp; rfl)); intro gb453 hg w7 hbox hb; have n0_ := Aside0.mk (below_step (by repeat (first | (with_reducible first | exact HB.out | apply below_alloc | apply pw_below_drewN | apply below_drew1) | exact HB.out)) hb); have n1_ := Aside0.mk (hbox); have n2_ := Aside0.mk ((by rw [hg]; exact (below_size (by repeat (first | (with_reducible first | exact HB.out | apply below_alloc | apply pw_below_drewN | apply below_drew1) | exact HB.out))) : w.heap.size ≤ gb453)); have n3_ := Aside0.mk ((by rw [hg]; exact (below_size (by repeat (first | (with_reducible first | exact HB.out | apply below_alloc | apply pw_below_drewN | apply below_drew1) | exact HB.out))) : w.heap.size ≤ gb453)); clear HB; have HB := n0_; have BK453 := n1_; have GW453 := n2_; have GE453 := n3_; clear n0_ n1_ n2_ n3_; clear hb hbox hg; have hcz8_0 : w7.cell? ⟨gb453, 0, none⟩ = some (.int .u64 a0_0) := (blk_cell BK453.out 0).trans rfl; have hcz8_1 : w7.cell? ⟨gb453, 1, none⟩ = some (.int .u64 a0_1) := (blk_cell BK453.out 1).trans rfl; have hfz8_0 := blk_frozen BK453.out 0; have hfz8_1 := blk_frozen BK453.out 1) | ((with_reducible refine gate_callee (f := 46) rfl ?_); refine goesL_ (some 20) rfl rfl Try.func46 (by kernel_rfl) rfl #[.agg #[.int .u64 a0_0, .int .u64 a0_1], .int .u64 a1] rfl (by (try simp only [List.map_toArray, List.map_cons, List.map_nil]); first | done | rfl | (simp only [List.length_drop, List.length_take]; rfl)) ?_; (with_reducible refine (half_Near.calls k a0_0 a0_1 a1 t454 t455 _ A4.out).mono ?_); rintro e w9 ⟨rfl, hb⟩; refine ⟨_, rfl, ?_⟩; have n0_ := Aside0.mk (blk_below (g := gb453) (o := .cells #[.int .u64 a0_0, .int .u64 a0_1] 24 (0, 0)) (by (with_reducible repeat (first | refine blk_drewN ?_ _ | refine blk_drew ?_ | refine blk_alloc ?_ _)); exact BK453.out) hb); have n1_ := Aside0.mk (below_step (by repeat (first | (with_reducible first | exact HB.out | apply below_alloc | apply pw_below_drewN | apply below_drew1 | refine below_set ?_ GE453.out) | exact HB.out)) hb); clear BK453; clear HB; have BK453 := n0_; have HB := n1_; clear n0_ n1_; (try clear hb); (try clear hb2); (try clear hk); (try clear hi); have hcz10_0 : w9.cell? ⟨gb453, 0, none⟩ = some (.int .u64 a0_0) := (blk_cell BK453.out 0).trans rfl; have hcz10_1 : w9.cell? ⟨gb453, 1, none⟩ = some (.int .u64 a0_1) := (blk_cell BK453.out 1).trans rfl; have hfz10_0 := blk_frozen BK453.out 0; have hfz10_1 := blk_frozen BK453.out 1) | ((with_reducible refine gate_callee (f := 47) rfl ?_); refine goesL_ (some 26) rfl rfl Try.func47 (by kernel_rfl) rfl #[.agg #[.int .u64 a0_0, .int .u64 a0_1], .int .u64 a1] rfl (by (try simp only [List.map_toArray, List.map_cons, List.map_nil]); first | done | rfl | (simp only [List.length_drop, List.length_take]; rfl)) ?_; (with_reducible refine (regimenref03_Near.calls k a0_0 a0_1 a1 t456 t457 _ A5.out).mono ?_); rintro e w11 ⟨rfl, hb⟩; refine ⟨_, rfl, ?_⟩; have n0_ := Aside0.mk (blk_below (g := gb453) (o := .cells #[.int .u64 a0_0, .int .u64 a0_1] 24 (0, 0)) (by (with_reducible repeat (first | refine blk_drewN ?_ _ | refine blk_drew ?_ | refine blk_alloc ?_ _)); exact BK453.out) hb); have n1_ := Aside0.mk (below_step (by repeat (first | (with_reducible first | exact HB.out | apply below_alloc | apply pw_below_drewN | apply below_drew1 | refine below_set ?_ GE453.out) | exact HB.out)) hb); clear BK453; clear HB; have BK453 := n0_; have HB := n1_; clear n0_ n1_; (try clear hb); (try clear hb2); (try clear hk); (try clear hi)))
  (try simp only [Act.put, List.setIfInBounds_toArray, List.set_cons_zero, List.set_cons_succ])
  go_cut [36] (fun v36 wc => ∃ (kq : Nat) (x36_5 : Bool), v36 = .bool x36_5 ∧ Aside0 (regimenlaw03_HalfNear.j0 kq a2 x36_5 a0_0 a0_1 = some r) ∧ Aside0 (kq ≤ k) ∧ Aside0 (wc.heap[gb453]? = some (.cells #[.int .u64 a0_0, .int .u64 a0_1] 24 (0, 0))) ∧ Aside0 (Below w.heap.size w wc))
  case first =>
    have H := HC6.out
    clear HC6
    by_cases c12 : t454 = t456
    · rw [if_pos c12] at H
      have c12b0 : (t454 == t456) = true := beq_iff_eq.mpr c12
      have c12b1 : (t454 != t456) = false := bne_eq_false_iff_eq.mpr c12
      clear c12
      (first | rw [c12b0] | rw [c12b1] | (simp only [i64_w, i32_w]; rw [c12b0]) | skip)
      have H' := Aside0.mk H
      clear H
      go_wp2
      go_meet
      case rel => exact ⟨_, ((t455 != t457)), (by first | rfl | (simp; done) | (simp [*]; done)), H', ⟨by first | omega | exact Nat.le_refl _⟩, ⟨by (with_reducible repeat (first | refine blk_drewN ?_ _ | refine blk_drew ?_ | refine blk_alloc ?_ _)); exact BK453.out⟩, ⟨by repeat (first | (with_reducible first | exact HB.out | apply below_alloc | apply pw_below_drewN | apply below_drew1 | refine below_set ?_ GE453.out) | exact HB.out)⟩⟩
    · rw [if_neg c12] at H
      have c12b0 : (t454 == t456) = false := beq_eq_false_iff_ne.mpr c12
      have c12b1 : (t454 != t456) = true := bne_iff_ne.mpr c12
      (first | rw [c12b0] | rw [c12b1] | (simp only [i64_w, i32_w]; rw [c12b0]) | skip)
      have H' := Aside0.mk H
      clear H
      go_wp2
      go_meet
      case rel => exact ⟨_, (true), (by first | rfl | (simp; done) | (simp [*]; done)), H', ⟨by first | omega | exact Nat.le_refl _⟩, ⟨by (with_reducible repeat (first | refine blk_drewN ?_ _ | refine blk_drew ?_ | refine blk_alloc ?_ _)); exact BK453.out⟩, ⟨by repeat (first | (with_reducible first | exact HB.out | apply below_alloc | apply pw_below_drewN | apply below_drew1 | refine below_set ?_ GE453.out) | exact HB.out)⟩⟩
  case rest =>
    clear HC6
    try clear c1
    try clear p2
    try clear c4
    try clear c12
    try clear c12b0
    try clear c12b1
    try clear hcz10_0
    try clear hcz10_1
    try clear hcz8_0
    try clear hcz8_1
    try clear hfz10_0
    try clear hfz10_1
    try clear hfz8_0
    try clear hfz8_1
    obtain ⟨kq, x36_5, rfl, HA, HJ5, BK453, HB⟩ := hcut
    cases kq with
    | zero => exact absurd HA.out (by simp [regimenlaw03_HalfNear.j0])
    | succ kj5 =>
      have H := HA.out
      clear HA
      simp only [regimenlaw03_HalfNear.j0] at H
      by_cases c13 : x36_5 = true
      · subst c13
        have H1 : (some false) = some r := by rw [if_pos rfl] at H; exact H
        clear H
        have H := H1
        clear H1
        obtain rfl := Option.some.inj H
        go_wp2
        go_ret
        exact ⟨by first | rfl | (simp [errW_none, errW_some] <;> rfl) | (simp [*, errW_none, errW_some] <;> rfl), by repeat (first | (with_reducible first | exact HB.out | apply below_alloc | apply pw_below_drewN | apply below_drew1 | refine below_set ?_ GE453.out) | exact HB.out)⟩
      · replace c13 := Bool.eq_false_iff.mpr c13
        subst c13
        have H1 : (regimenlaw03_HalfNear.l0 kj5 a2 1 0 a0_0 a0_1) = some r := by rw [if_neg (show ¬ (false = true) by decide)] at H; exact H
        clear H
        have H := H1
        clear H1
        have H' := Aside0.mk H
        clear H
        go_wp2
        go_loopg [11, 12] kj5 (fun kq v11 v12 w' => ∃ (x11_2 : Int) (x12_2 : Int), v11 = .int .u64 x11_2 ∧ v12 = .int .i64 x12_2 ∧ Aside0 (regimenlaw03_HalfNear.l0 kq a2 x11_2 x12_2 a0_0 a0_1 = some r) ∧ Aside0 (kq ≤ kj5) ∧ Aside0 (w'.heap[gb453]? = some (.cells #[.int .u64 a0_0, .int .u64 a0_1] 24 (0, 0))) ∧ Aside0 (Below w.heap.size w w'))
        case atStart => exact ⟨(1), (0), (by first | rfl | (simp; done) | (simp [*]; done)), (by first | rfl | (simp; done) | (simp [*]; done)), H', ⟨Nat.le_refl _⟩, ⟨by (with_reducible repeat (first | refine blk_drewN ?_ _ | refine blk_drew ?_ | refine blk_alloc ?_ _)); exact BK453.out⟩, ⟨by repeat (first | (with_reducible first | exact HB.out | apply below_alloc | apply pw_below_drewN | apply below_drew1 | refine below_set ?_ GE453.out) | exact HB.out)⟩⟩
        case round =>
          clear H'
          try clear c1
          try clear p2
          try clear c4
          try clear c12
          try clear c12b0
          try clear c12b1
          try clear c13
          try clear hcz10_0
          try clear hcz10_1
          try clear hcz8_0
          try clear hcz8_1
          try clear hfz10_0
          try clear hfz10_1
          try clear hfz8_0
          try clear hfz8_1
          try clear p2
          obtain ⟨x11_2, x12_2, rfl, rfl, HA, HK2, BK453, HB⟩ := hrel
          cases gk with
          | zero => exact absurd HA.out (by simp [regimenlaw03_HalfNear.l0])
          | succ k2 =>
            have H := HA.out
            clear HA
            simp only [regimenlaw03_HalfNear.l0] at H
            by_cases c14 : x12_2 < a2
            · rw [if_pos c14] at H
              have c14b0 : decide (x12_2 < a2) = true := decide_eq_true c14
              clear c14
              by_cases c15 : x12_2 < 63
              · rw [if_pos c15] at H
                have c15b0 : decide (x12_2 < 63) = true := decide_eq_true c15
                clear c15
                have H' := Aside0.mk H
                clear H
                go_wp2
                go_roundg k2
                case measure => have := HJ5.out; have := HK2.out; omega
                case rel => exact ⟨(IntKind.u64.wrap (2 * x11_2)), (wrap64 (x12_2 + 1)), (by first | rfl | (simp; done) | (simp [*]; done)), (by first | rfl | (simp; done) | (simp [*]; done)), H', ⟨by have := HJ5.out; have := HK2.out; omega⟩, ⟨by (with_reducible repeat (first | refine blk_drewN ?_ _ | refine blk_drew ?_ | refine blk_alloc ?_ _)); exact BK453.out⟩, ⟨by repeat (first | (with_reducible first | exact HB.out | apply below_alloc | apply pw_below_drewN | apply below_drew1 | refine below_set ?_ GE453.out) | exact HB.out)⟩⟩
              · rw [if_neg c15] at H
                have c15b0 : decide (x12_2 < 63) = false := decide_eq_false c15
                clear c15
                replace H := Option.bind_eq_some_iff.mp H
                obtain ⟨⟨t458, t459⟩, A160, H⟩ := H
                replace H : ((regimenref03_Near.f k2 a0_0 a0_1 x11_2).bind fun bt460 => (if t458 = bt460.1 then (if t459 = bt460.2 then ((regimenlaw03_awake.f k2).bind fun t462 => (some t462)) else (some false)) else (some false))) = some r := H
                have A16 := Aside0.mk A160
                clear A160
                replace H := Option.bind_eq_some_iff.mp H
                obtain ⟨⟨t460, t461⟩, A170, H⟩ := H
                replace H : (if t458 = t460 then (if t459 = t461 then ((regimenlaw03_awake.f k2).bind fun t462 => (some t462)) else (some false)) else (some false)) = some r := H
                have A17 := Aside0.mk A170
                clear A170
                by_cases c18 : t458 = t460
                · rw [if_pos c18] at H
                  have c18b0 : (t458 == t460) = true := beq_iff_eq.mpr c18
                  have c18b1 : (t458 != t460) = false := bne_eq_false_iff_eq.mpr c18
                  clear c18
                  by_cases c19 : t459 = t461
                  · rw [if_pos c19] at H
                    have c19b0 : (t459 == t461) = true := beq_iff_eq.mpr c19
                    have c19b1 : (t459 != t461) = false := bne_eq_false_iff_eq.mpr c19
                    clear c19
                    replace H := Option.bind_eq_some_iff.mp H
                    obtain ⟨t462, A200, H⟩ := H
                    replace H : (some t462) = some r := H
                    have A20 := Aside0.mk A200
                    clear A200
                    obtain rfl := Option.some.inj H
                    have hcz21_0 : wr.cell? ⟨gb453, 0, none⟩ = some (.int .u64 a0_0) := (blk_cell BK453.out 0).trans rfl
                    have hcz21_1 : wr.cell? ⟨gb453, 1, none⟩ = some (.int .u64 a0_1) := (blk_cell BK453.out 1).trans rfl
                    have hfz21_0 := blk_frozen BK453.out 0
                    have hfz21_1 := blk_frozen BK453.out 1
                    go_wp2_with (first | ((with_reducible refine gate_callee (f := 48) rfl ?_); refine goesL_ (some 51) rfl rfl Try.func48 (by kernel_rfl) rfl #[.agg #[.int .u64 a0_0, .int .u64 a0_1], .int .i64 a2] rfl (by (try simp only [List.map_toArray, List.map_cons, List.map_nil]); first | done | rfl | (simp only [List.length_drop, List.length_take]; rfl)) ?_; (with_reducible refine (half_Shift.calls k2 a0_0 a0_1 a2 t458 t459 _ A16.out).mono ?_); rintro e w22 ⟨rfl, hb⟩; refine ⟨_, rfl, ?_⟩; have n0_ := Aside0.mk (blk_below (g := gb453) (o := .cells #[.int .u64 a0_0, .int .u64 a0_1] 24 (0, 0)) (by (with_reducible repeat (first | refine blk_drewN ?_ _ | refine blk_drew ?_ | refine blk_alloc ?_ _)); exact BK453.out) hb); have n1_ := Aside0.mk (below_step (by repeat (first | (with_reducible first | exact HB.out | apply below_alloc | apply pw_below_drewN | apply below_drew1 | refine below_set ?_ GE453.out) | exact HB.out)) hb); clear BK453; clear HB; have BK453 := n0_; have HB := n1_; clear n0_ n1_; (try clear hb); (try clear hb2); (try clear hk); (try clear hi); have hcz23_0 : w22.cell? ⟨gb453, 0, none⟩ = some (.int .u64 a0_0) := (blk_cell BK453.out 0).trans rfl; have hcz23_1 : w22.cell? ⟨gb453, 1, none⟩ = some (.int .u64 a0_1) := (blk_cell BK453.out 1).trans rfl; have hfz23_0 := blk_frozen BK453.out 0; have hfz23_1 := blk_frozen BK453.out 1) | ((with_reducible refine gate_callee (f := 47) rfl ?_); refine goesL_ (some 57) rfl rfl Try.func47 (by kernel_rfl) rfl #[.agg #[.int .u64 a0_0, .int .u64 a0_1], .int .u64 x11_2] rfl (by (try simp only [List.map_toArray, List.map_cons, List.map_nil]); first | done | rfl | (simp only [List.length_drop, List.length_take]; rfl)) ?_; (with_reducible refine (regimenref03_Near.calls k2 a0_0 a0_1 x11_2 t460 t461 _ A17.out).mono ?_); rintro e w24 ⟨rfl, hb⟩; refine ⟨_, rfl, ?_⟩; have n0_ := Aside0.mk (blk_below (g := gb453) (o := .cells #[.int .u64 a0_0, .int .u64 a0_1] 24 (0, 0)) (by (with_reducible repeat (first | refine blk_drewN ?_ _ | refine blk_drew ?_ | refine blk_alloc ?_ _)); exact BK453.out) hb); have n1_ := Aside0.mk (below_step (by repeat (first | (with_reducible first | exact HB.out | apply below_alloc | apply pw_below_drewN | apply below_drew1 | refine below_set ?_ GE453.out) | exact HB.out)) hb); clear BK453; clear HB; have BK453 := n0_; have HB := n1_; clear n0_ n1_; (try clear hb); (try clear hb2); (try clear hk); (try clear hi)) | (go_at_call 45; (with_reducible refine (regimenlaw03_awake.calls k2  t462 _ A20.out).mono ?_); rintro e w25 ⟨rfl, hb⟩; have n0_ := Aside0.mk (blk_below (g := gb453) (o := .cells #[.int .u64 a0_0, .int .u64 a0_1] 24 (0, 0)) (by (with_reducible repeat (first | refine blk_drewN ?_ _ | refine blk_drew ?_ | refine blk_alloc ?_ _)); exact BK453.out) hb); have n1_ := Aside0.mk (below_step (by repeat (first | (with_reducible first | exact HB.out | apply below_alloc | apply pw_below_drewN | apply below_drew1 | refine below_set ?_ GE453.out) | exact HB.out)) hb); clear BK453; clear HB; have BK453 := n0_; have HB := n1_; clear n0_ n1_; (try clear hb); (try clear hb2); (try clear hk); (try clear hi)))
                    go_ret
                    exact ⟨by first | rfl | (simp [errW_none, errW_some] <;> rfl) | (simp [*, errW_none, errW_some] <;> rfl), by repeat (first | (with_reducible first | exact HB.out | apply below_alloc | apply pw_below_drewN | apply below_drew1 | refine below_set ?_ GE453.out) | exact HB.out)⟩
                  · rw [if_neg c19] at H
                    have c19b0 : (t459 == t461) = false := beq_eq_false_iff_ne.mpr c19
                    have c19b1 : (t459 != t461) = true := bne_iff_ne.mpr c19
                    obtain rfl := Option.some.inj H
                    have hcz26_0 : wr.cell? ⟨gb453, 0, none⟩ = some (.int .u64 a0_0) := (blk_cell BK453.out 0).trans rfl
                    have hcz26_1 : wr.cell? ⟨gb453, 1, none⟩ = some (.int .u64 a0_1) := (blk_cell BK453.out 1).trans rfl
                    have hfz26_0 := blk_frozen BK453.out 0
                    have hfz26_1 := blk_frozen BK453.out 1
                    go_wp2_with (first | ((with_reducible refine gate_callee (f := 48) rfl ?_); refine goesL_ (some 51) rfl rfl Try.func48 (by kernel_rfl) rfl #[.agg #[.int .u64 a0_0, .int .u64 a0_1], .int .i64 a2] rfl (by (try simp only [List.map_toArray, List.map_cons, List.map_nil]); first | done | rfl | (simp only [List.length_drop, List.length_take]; rfl)) ?_; (with_reducible refine (half_Shift.calls k2 a0_0 a0_1 a2 t458 t459 _ A16.out).mono ?_); rintro e w27 ⟨rfl, hb⟩; refine ⟨_, rfl, ?_⟩; have n0_ := Aside0.mk (blk_below (g := gb453) (o := .cells #[.int .u64 a0_0, .int .u64 a0_1] 24 (0, 0)) (by (with_reducible repeat (first | refine blk_drewN ?_ _ | refine blk_drew ?_ | refine blk_alloc ?_ _)); exact BK453.out) hb); have n1_ := Aside0.mk (below_step (by repeat (first | (with_reducible first | exact HB.out | apply below_alloc | apply pw_below_drewN | apply below_drew1 | refine below_set ?_ GE453.out) | exact HB.out)) hb); clear BK453; clear HB; have BK453 := n0_; have HB := n1_; clear n0_ n1_; (try clear hb); (try clear hb2); (try clear hk); (try clear hi); have hcz28_0 : w27.cell? ⟨gb453, 0, none⟩ = some (.int .u64 a0_0) := (blk_cell BK453.out 0).trans rfl; have hcz28_1 : w27.cell? ⟨gb453, 1, none⟩ = some (.int .u64 a0_1) := (blk_cell BK453.out 1).trans rfl; have hfz28_0 := blk_frozen BK453.out 0; have hfz28_1 := blk_frozen BK453.out 1) | ((with_reducible refine gate_callee (f := 47) rfl ?_); refine goesL_ (some 57) rfl rfl Try.func47 (by kernel_rfl) rfl #[.agg #[.int .u64 a0_0, .int .u64 a0_1], .int .u64 x11_2] rfl (by (try simp only [List.map_toArray, List.map_cons, List.map_nil]); first | done | rfl | (simp only [List.length_drop, List.length_take]; rfl)) ?_; (with_reducible refine (regimenref03_Near.calls k2 a0_0 a0_1 x11_2 t460 t461 _ A17.out).mono ?_); rintro e w29 ⟨rfl, hb⟩; refine ⟨_, rfl, ?_⟩; have n0_ := Aside0.mk (blk_below (g := gb453) (o := .cells #[.int .u64 a0_0, .int .u64 a0_1] 24 (0, 0)) (by (with_reducible repeat (first | refine blk_drewN ?_ _ | refine blk_drew ?_ | refine blk_alloc ?_ _)); exact BK453.out) hb); have n1_ := Aside0.mk (below_step (by repeat (first | (with_reducible first | exact HB.out | apply below_alloc | apply pw_below_drewN | apply below_drew1 | refine below_set ?_ GE453.out) | exact HB.out)) hb); clear BK453; clear HB; have BK453 := n0_; have HB := n1_; clear n0_ n1_; (try clear hb); (try clear hb2); (try clear hk); (try clear hi)))
                    go_ret
                    exact ⟨by first | rfl | (simp [errW_none, errW_some] <;> rfl) | (simp [*, errW_none, errW_some] <;> rfl), by repeat (first | (with_reducible first | exact HB.out | apply below_alloc | apply pw_below_drewN | apply below_drew1 | refine below_set ?_ GE453.out) | exact HB.out)⟩
                · rw [if_neg c18] at H
                  have c18b0 : (t458 == t460) = false := beq_eq_false_iff_ne.mpr c18
                  have c18b1 : (t458 != t460) = true := bne_iff_ne.mpr c18
                  obtain rfl := Option.some.inj H
                  have hcz30_0 : wr.cell? ⟨gb453, 0, none⟩ = some (.int .u64 a0_0) := (blk_cell BK453.out 0).trans rfl
                  have hcz30_1 : wr.cell? ⟨gb453, 1, none⟩ = some (.int .u64 a0_1) := (blk_cell BK453.out 1).trans rfl
                  have hfz30_0 := blk_frozen BK453.out 0
                  have hfz30_1 := blk_frozen BK453.out 1
                  go_wp2_with (first | ((with_reducible refine gate_callee (f := 48) rfl ?_); refine goesL_ (some 51) rfl rfl Try.func48 (by kernel_rfl) rfl #[.agg #[.int .u64 a0_0, .int .u64 a0_1], .int .i64 a2] rfl (by (try simp only [List.map_toArray, List.map_cons, List.map_nil]); first | done | rfl | (simp only [List.length_drop, List.length_take]; rfl)) ?_; (with_reducible refine (half_Shift.calls k2 a0_0 a0_1 a2 t458 t459 _ A16.out).mono ?_); rintro e w31 ⟨rfl, hb⟩; refine ⟨_, rfl, ?_⟩; have n0_ := Aside0.mk (blk_below (g := gb453) (o := .cells #[.int .u64 a0_0, .int .u64 a0_1] 24 (0, 0)) (by (with_reducible repeat (first | refine blk_drewN ?_ _ | refine blk_drew ?_ | refine blk_alloc ?_ _)); exact BK453.out) hb); have n1_ := Aside0.mk (below_step (by repeat (first | (with_reducible first | exact HB.out | apply below_alloc | apply pw_below_drewN | apply below_drew1 | refine below_set ?_ GE453.out) | exact HB.out)) hb); clear BK453; clear HB; have BK453 := n0_; have HB := n1_; clear n0_ n1_; (try clear hb); (try clear hb2); (try clear hk); (try clear hi); have hcz32_0 : w31.cell? ⟨gb453, 0, none⟩ = some (.int .u64 a0_0) := (blk_cell BK453.out 0).trans rfl; have hcz32_1 : w31.cell? ⟨gb453, 1, none⟩ = some (.int .u64 a0_1) := (blk_cell BK453.out 1).trans rfl; have hfz32_0 := blk_frozen BK453.out 0; have hfz32_1 := blk_frozen BK453.out 1) | ((with_reducible refine gate_callee (f := 47) rfl ?_); refine goesL_ (some 57) rfl rfl Try.func47 (by kernel_rfl) rfl #[.agg #[.int .u64 a0_0, .int .u64 a0_1], .int .u64 x11_2] rfl (by (try simp only [List.map_toArray, List.map_cons, List.map_nil]); first | done | rfl | (simp only [List.length_drop, List.length_take]; rfl)) ?_; (with_reducible refine (regimenref03_Near.calls k2 a0_0 a0_1 x11_2 t460 t461 _ A17.out).mono ?_); rintro e w33 ⟨rfl, hb⟩; refine ⟨_, rfl, ?_⟩; have n0_ := Aside0.mk (blk_below (g := gb453) (o := .cells #[.int .u64 a0_0, .int .u64 a0_1] 24 (0, 0)) (by (with_reducible repeat (first | refine blk_drewN ?_ _ | refine blk_drew ?_ | refine blk_alloc ?_ _)); exact BK453.out) hb); have n1_ := Aside0.mk (below_step (by repeat (first | (with_reducible first | exact HB.out | apply below_alloc | apply pw_below_drewN | apply below_drew1 | refine below_set ?_ GE453.out) | exact HB.out)) hb); clear BK453; clear HB; have BK453 := n0_; have HB := n1_; clear n0_ n1_; (try clear hb); (try clear hb2); (try clear hk); (try clear hi)))
                  go_ret
                  exact ⟨by first | rfl | (simp [errW_none, errW_some] <;> rfl) | (simp [*, errW_none, errW_some] <;> rfl), by repeat (first | (with_reducible first | exact HB.out | apply below_alloc | apply pw_below_drewN | apply below_drew1 | refine below_set ?_ GE453.out) | exact HB.out)⟩
            · rw [if_neg c14] at H
              have c14b0 : decide (x12_2 < a2) = false := decide_eq_false c14
              clear c14
              replace H := Option.bind_eq_some_iff.mp H
              obtain ⟨⟨t463, t464⟩, A340, H⟩ := H
              replace H : ((regimenref03_Near.f k2 a0_0 a0_1 x11_2).bind fun bt465 => (if t463 = bt465.1 then (if t464 = bt465.2 then ((regimenlaw03_awake.f k2).bind fun t467 => (some t467)) else (some false)) else (some false))) = some r := H
              have A34 := Aside0.mk A340
              clear A340
              replace H := Option.bind_eq_some_iff.mp H
              obtain ⟨⟨t465, t466⟩, A350, H⟩ := H
              replace H : (if t463 = t465 then (if t464 = t466 then ((regimenlaw03_awake.f k2).bind fun t467 => (some t467)) else (some false)) else (some false)) = some r := H
              have A35 := Aside0.mk A350
              clear A350
              by_cases c36 : t463 = t465
              · rw [if_pos c36] at H
                have c36b0 : (t463 == t465) = true := beq_iff_eq.mpr c36
                have c36b1 : (t463 != t465) = false := bne_eq_false_iff_eq.mpr c36
                clear c36
                by_cases c37 : t464 = t466
                · rw [if_pos c37] at H
                  have c37b0 : (t464 == t466) = true := beq_iff_eq.mpr c37
                  have c37b1 : (t464 != t466) = false := bne_eq_false_iff_eq.mpr c37
                  clear c37
                  replace H := Option.bind_eq_some_iff.mp H
                  obtain ⟨t467, A380, H⟩ := H
                  replace H : (some t467) = some r := H
                  have A38 := Aside0.mk A380
                  clear A380
                  obtain rfl := Option.some.inj H
                  have hcz39_0 : wr.cell? ⟨gb453, 0, none⟩ = some (.int .u64 a0_0) := (blk_cell BK453.out 0).trans rfl
                  have hcz39_1 : wr.cell? ⟨gb453, 1, none⟩ = some (.int .u64 a0_1) := (blk_cell BK453.out 1).trans rfl
                  have hfz39_0 := blk_frozen BK453.out 0
                  have hfz39_1 := blk_frozen BK453.out 1
                  go_wp2_with (first | ((with_reducible refine gate_callee (f := 48) rfl ?_); refine goesL_ (some 51) rfl rfl Try.func48 (by kernel_rfl) rfl #[.agg #[.int .u64 a0_0, .int .u64 a0_1], .int .i64 a2] rfl (by (try simp only [List.map_toArray, List.map_cons, List.map_nil]); first | done | rfl | (simp only [List.length_drop, List.length_take]; rfl)) ?_; (with_reducible refine (half_Shift.calls k2 a0_0 a0_1 a2 t463 t464 _ A34.out).mono ?_); rintro e w40 ⟨rfl, hb⟩; refine ⟨_, rfl, ?_⟩; have n0_ := Aside0.mk (blk_below (g := gb453) (o := .cells #[.int .u64 a0_0, .int .u64 a0_1] 24 (0, 0)) (by (with_reducible repeat (first | refine blk_drewN ?_ _ | refine blk_drew ?_ | refine blk_alloc ?_ _)); exact BK453.out) hb); have n1_ := Aside0.mk (below_step (by repeat (first | (with_reducible first | exact HB.out | apply below_alloc | apply pw_below_drewN | apply below_drew1 | refine below_set ?_ GE453.out) | exact HB.out)) hb); clear BK453; clear HB; have BK453 := n0_; have HB := n1_; clear n0_ n1_; (try clear hb); (try clear hb2); (try clear hk); (try clear hi); have hcz41_0 : w40.cell? ⟨gb453, 0, none⟩ = some (.int .u64 a0_0) := (blk_cell BK453.out 0).trans rfl; have hcz41_1 : w40.cell? ⟨gb453, 1, none⟩ = some (.int .u64 a0_1) := (blk_cell BK453.out 1).trans rfl; have hfz41_0 := blk_frozen BK453.out 0; have hfz41_1 := blk_frozen BK453.out 1) | ((with_reducible refine gate_callee (f := 47) rfl ?_); refine goesL_ (some 57) rfl rfl Try.func47 (by kernel_rfl) rfl #[.agg #[.int .u64 a0_0, .int .u64 a0_1], .int .u64 x11_2] rfl (by (try simp only [List.map_toArray, List.map_cons, List.map_nil]); first | done | rfl | (simp only [List.length_drop, List.length_take]; rfl)) ?_; (with_reducible refine (regimenref03_Near.calls k2 a0_0 a0_1 x11_2 t465 t466 _ A35.out).mono ?_); rintro e w42 ⟨rfl, hb⟩; refine ⟨_, rfl, ?_⟩; have n0_ := Aside0.mk (blk_below (g := gb453) (o := .cells #[.int .u64 a0_0, .int .u64 a0_1] 24 (0, 0)) (by (with_reducible repeat (first | refine blk_drewN ?_ _ | refine blk_drew ?_ | refine blk_alloc ?_ _)); exact BK453.out) hb); have n1_ := Aside0.mk (below_step (by repeat (first | (with_reducible first | exact HB.out | apply below_alloc | apply pw_below_drewN | apply below_drew1 | refine below_set ?_ GE453.out) | exact HB.out)) hb); clear BK453; clear HB; have BK453 := n0_; have HB := n1_; clear n0_ n1_; (try clear hb); (try clear hb2); (try clear hk); (try clear hi)) | (go_at_call 45; (with_reducible refine (regimenlaw03_awake.calls k2  t467 _ A38.out).mono ?_); rintro e w43 ⟨rfl, hb⟩; have n0_ := Aside0.mk (blk_below (g := gb453) (o := .cells #[.int .u64 a0_0, .int .u64 a0_1] 24 (0, 0)) (by (with_reducible repeat (first | refine blk_drewN ?_ _ | refine blk_drew ?_ | refine blk_alloc ?_ _)); exact BK453.out) hb); have n1_ := Aside0.mk (below_step (by repeat (first | (with_reducible first | exact HB.out | apply below_alloc | apply pw_below_drewN | apply below_drew1 | refine below_set ?_ GE453.out) | exact HB.out)) hb); clear BK453; clear HB; have BK453 := n0_; have HB := n1_; clear n0_ n1_; (try clear hb); (try clear hb2); (try clear hk); (try clear hi)))
                  go_ret
                  exact ⟨by first | rfl | (simp [errW_none, errW_some] <;> rfl) | (simp [*, errW_none, errW_some] <;> rfl), by repeat (first | (with_reducible first | exact HB.out | apply below_alloc | apply pw_below_drewN | apply below_drew1 | refine below_set ?_ GE453.out) | exact HB.out)⟩
                · rw [if_neg c37] at H
                  have c37b0 : (t464 == t466) = false := beq_eq_false_iff_ne.mpr c37
                  have c37b1 : (t464 != t466) = true := bne_iff_ne.mpr c37
                  obtain rfl := Option.some.inj H
                  have hcz44_0 : wr.cell? ⟨gb453, 0, none⟩ = some (.int .u64 a0_0) := (blk_cell BK453.out 0).trans rfl
                  have hcz44_1 : wr.cell? ⟨gb453, 1, none⟩ = some (.int .u64 a0_1) := (blk_cell BK453.out 1).trans rfl
                  have hfz44_0 := blk_frozen BK453.out 0
                  have hfz44_1 := blk_frozen BK453.out 1
                  go_wp2_with (first | ((with_reducible refine gate_callee (f := 48) rfl ?_); refine goesL_ (some 51) rfl rfl Try.func48 (by kernel_rfl) rfl #[.agg #[.int .u64 a0_0, .int .u64 a0_1], .int .i64 a2] rfl (by (try simp only [List.map_toArray, List.map_cons, List.map_nil]); first | done | rfl | (simp only [List.length_drop, List.length_take]; rfl)) ?_; (with_reducible refine (half_Shift.calls k2 a0_0 a0_1 a2 t463 t464 _ A34.out).mono ?_); rintro e w45 ⟨rfl, hb⟩; refine ⟨_, rfl, ?_⟩; have n0_ := Aside0.mk (blk_below (g := gb453) (o := .cells #[.int .u64 a0_0, .int .u64 a0_1] 24 (0, 0)) (by (with_reducible repeat (first | refine blk_drewN ?_ _ | refine blk_drew ?_ | refine blk_alloc ?_ _)); exact BK453.out) hb); have n1_ := Aside0.mk (below_step (by repeat (first | (with_reducible first | exact HB.out | apply below_alloc | apply pw_below_drewN | apply below_drew1 | refine below_set ?_ GE453.out) | exact HB.out)) hb); clear BK453; clear HB; have BK453 := n0_; have HB := n1_; clear n0_ n1_; (try clear hb); (try clear hb2); (try clear hk); (try clear hi); have hcz46_0 : w45.cell? ⟨gb453, 0, none⟩ = some (.int .u64 a0_0) := (blk_cell BK453.out 0).trans rfl; have hcz46_1 : w45.cell? ⟨gb453, 1, none⟩ = some (.int .u64 a0_1) := (blk_cell BK453.out 1).trans rfl; have hfz46_0 := blk_frozen BK453.out 0; have hfz46_1 := blk_frozen BK453.out 1) | ((with_reducible refine gate_callee (f := 47) rfl ?_); refine goesL_ (some 57) rfl rfl Try.func47 (by kernel_rfl) rfl #[.agg #[.int .u64 a0_0, .int .u64 a0_1], .int .u64 x11_2] rfl (by (try simp only [List.map_toArray, List.map_cons, List.map_nil]); first | done | rfl | (simp only [List.length_drop, List.length_take]; rfl)) ?_; (with_reducible refine (regimenref03_Near.calls k2 a0_0 a0_1 x11_2 t465 t466 _ A35.out).mono ?_); rintro e w47 ⟨rfl, hb⟩; refine ⟨_, rfl, ?_⟩; have n0_ := Aside0.mk (blk_below (g := gb453) (o := .cells #[.int .u64 a0_0, .int .u64 a0_1] 24 (0, 0)) (by (with_reducible repeat (first | refine blk_drewN ?_ _ | refine blk_drew ?_ | refine blk_alloc ?_ _)); exact BK453.out) hb); have n1_ := Aside0.mk (below_step (by repeat (first | (with_reducible first | exact HB.out | apply below_alloc | apply pw_below_drewN | apply below_drew1 | refine below_set ?_ GE453.out) | exact HB.out)) hb); clear BK453; clear HB; have BK453 := n0_; have HB := n1_; clear n0_ n1_; (try clear hb); (try clear hb2); (try clear hk); (try clear hi)))
                  go_ret
                  exact ⟨by first | rfl | (simp [errW_none, errW_some] <;> rfl) | (simp [*, errW_none, errW_some] <;> rfl), by repeat (first | (with_reducible first | exact HB.out | apply below_alloc | apply pw_below_drewN | apply below_drew1 | refine below_set ?_ GE453.out) | exact HB.out)⟩
              · rw [if_neg c36] at H
                have c36b0 : (t463 == t465) = false := beq_eq_false_iff_ne.mpr c36
                have c36b1 : (t463 != t465) = true := bne_iff_ne.mpr c36
                obtain rfl := Option.some.inj H
                have hcz48_0 : wr.cell? ⟨gb453, 0, none⟩ = some (.int .u64 a0_0) := (blk_cell BK453.out 0).trans rfl
                have hcz48_1 : wr.cell? ⟨gb453, 1, none⟩ = some (.int .u64 a0_1) := (blk_cell BK453.out 1).trans rfl
                have hfz48_0 := blk_frozen BK453.out 0
                have hfz48_1 := blk_frozen BK453.out 1
                go_wp2_with (first | ((with_reducible refine gate_callee (f := 48) rfl ?_); refine goesL_ (some 51) rfl rfl Try.func48 (by kernel_rfl) rfl #[.agg #[.int .u64 a0_0, .int .u64 a0_1], .int .i64 a2] rfl (by (try simp only [List.map_toArray, List.map_cons, List.map_nil]); first | done | rfl | (simp only [List.length_drop, List.length_take]; rfl)) ?_; (with_reducible refine (half_Shift.calls k2 a0_0 a0_1 a2 t463 t464 _ A34.out).mono ?_); rintro e w49 ⟨rfl, hb⟩; refine ⟨_, rfl, ?_⟩; have n0_ := Aside0.mk (blk_below (g := gb453) (o := .cells #[.int .u64 a0_0, .int .u64 a0_1] 24 (0, 0)) (by (with_reducible repeat (first | refine blk_drewN ?_ _ | refine blk_drew ?_ | refine blk_alloc ?_ _)); exact BK453.out) hb); have n1_ := Aside0.mk (below_step (by repeat (first | (with_reducible first | exact HB.out | apply below_alloc | apply pw_below_drewN | apply below_drew1 | refine below_set ?_ GE453.out) | exact HB.out)) hb); clear BK453; clear HB; have BK453 := n0_; have HB := n1_; clear n0_ n1_; (try clear hb); (try clear hb2); (try clear hk); (try clear hi); have hcz50_0 : w49.cell? ⟨gb453, 0, none⟩ = some (.int .u64 a0_0) := (blk_cell BK453.out 0).trans rfl; have hcz50_1 : w49.cell? ⟨gb453, 1, none⟩ = some (.int .u64 a0_1) := (blk_cell BK453.out 1).trans rfl; have hfz50_0 := blk_frozen BK453.out 0; have hfz50_1 := blk_frozen BK453.out 1) | ((with_reducible refine gate_callee (f := 47) rfl ?_); refine goesL_ (some 57) rfl rfl Try.func47 (by kernel_rfl) rfl #[.agg #[.int .u64 a0_0, .int .u64 a0_1], .int .u64 x11_2] rfl (by (try simp only [List.map_toArray, List.map_cons, List.map_nil]); first | done | rfl | (simp only [List.length_drop, List.length_take]; rfl)) ?_; (with_reducible refine (regimenref03_Near.calls k2 a0_0 a0_1 x11_2 t465 t466 _ A35.out).mono ?_); rintro e w51 ⟨rfl, hb⟩; refine ⟨_, rfl, ?_⟩; have n0_ := Aside0.mk (blk_below (g := gb453) (o := .cells #[.int .u64 a0_0, .int .u64 a0_1] 24 (0, 0)) (by (with_reducible repeat (first | refine blk_drewN ?_ _ | refine blk_drew ?_ | refine blk_alloc ?_ _)); exact BK453.out) hb); have n1_ := Aside0.mk (below_step (by repeat (first | (with_reducible first | exact HB.out | apply below_alloc | apply pw_below_drewN | apply below_drew1 | refine below_set ?_ GE453.out) | exact HB.out)) hb); clear BK453; clear HB; have BK453 := n0_; have HB := n1_; clear n0_ n1_; (try clear hb); (try clear hb2); (try clear hk); (try clear hi)))
                go_ret
                exact ⟨by first | rfl | (simp [errW_none, errW_some] <;> rfl) | (simp [*, errW_none, errW_some] <;> rfl), by repeat (first | (with_reducible first | exact HB.out | apply below_alloc | apply pw_below_drewN | apply below_drew1 | refine below_set ?_ GE453.out) | exact HB.out)⟩

/-- THE ONE PURE STATEMENT of regimenlaw03_HalfNear: yours. -/
def regimenlaw03_HalfNear.Pure : Prop := ∀ (a0_0 : Int) (a0_1 : Int) (a1 : Int) (a2 : Int), ((Lit.int .u64 a0_0).wf = true) → ((Lit.int .u64 a0_1).wf = true) → ((Lit.int .u64 a1).wf = true) → ((Lit.int .i64 a2).wf = true) → ∃ k, regimenlaw03_HalfNear.f k a0_0 a0_1 a1 a2 = some true
theorem regimenlaw03_HalfNear.walk (P : regimenlaw03_HalfNear.Pure) (a0_0 : Int) (a0_1 : Int) (a1 : Int) (a2 : Int) (w : World) (w0_0 : (Lit.int .u64 a0_0).wf = true) (w0_1 : (Lit.int .u64 a0_1).wf = true) (w1 : (Lit.int .u64 a1).wf = true) (w2 : (Lit.int .i64 a2).wf = true) :
    Calls Try.prog 13 #[.agg #[.int .u64 a0_0, .int .u64 a0_1], .int .u64 a1, .int .i64 a2] w fun e w' => e = .returned (.bool true) ∧ Below w.heap.size w w' := by
  obtain ⟨k, h⟩ := P a0_0 a0_1 a1 a2 w0_0 w0_1 w1 w2
  refine (regimenlaw03_HalfNear.calls k a0_0 a0_1 a1 a2 true w h).mono ?_
  rintro e w' ⟨rfl, hd⟩
  exact ⟨rfl, hd⟩

end Go.Proofs.Ytbnkjchhbjbbnaa.PA
