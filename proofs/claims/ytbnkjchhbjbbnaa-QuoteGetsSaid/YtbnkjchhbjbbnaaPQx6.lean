/- Go functions of this seat as plain Lean functions, each with a proof that its call comes to just what that function says, wherever that function says anything: written by a program of this session. -/
import Derived.Test.YtbnkjchhbjbbnaaPQx0
import Derived.Test.YtbnkjchhbjbbnaaPQx2
import Derived.Test.YtbnkjchhbjbbnaaPQx4
namespace Go.Proofs.Ytbnkjchhbjbbnaa.PQ
open Go.RowKit Go.Proofs.YtbnkjchhbjbbnaaW.PrintWords Go.Proofs.YtbnkjchhbjbbnaaW.PrintLast Go.Proofs.YtbnkjchhbjbbnaaW.PrintMore
attribute [local go_sem] max2_int min2_int max_two min_two max_three min_three max_four min_four   -- for this text's walks alone
set_option linter.unusedVariables false
set_option linter.unusedSimpArgs false

attribute [local go_sem] isSome_setCell
/-! ### regimenlaw11_QuoteGets: function 10 -/
mutual
def regimenlaw11_QuoteGets.j0 : Nat → ByteArray → ByteArray → Int → ByteArray → Int → Bool → Option (Bool)
  | 0, _, _, _, _, _, _ => none
  | k + 1, x0, x3, x4, x7, x8, x36 => if x36 = true then (none) else (if x8 = 0 then (regimenlaw11_QuoteGets.j1 k x3 x4 x7 true) else (regimenlaw11_QuoteGets.j1 k x3 x4 x7 (decide (x8 < (x0.size : Int)))))
def regimenlaw11_QuoteGets.j1 : Nat → ByteArray → Int → ByteArray → Bool → Option (Bool)
  | 0, _, _, _, _ => none
  | k + 1, x3, x4, x7, x44 => if x44 = true then (if x3.toList = ([] : List UInt8) then (if x4 = 2 then ((regimenlaw11_awake.f k).bind fun t202 => (some t202)) else (none)) else (none)) else (if x3.toList = x7.toList then (if x4 = 0 then ((regimenlaw11_awake.f k).bind fun t203 => (some t203)) else (none)) else (none))
end
def regimenlaw11_QuoteGets.f (k : Nat) (a0 : ByteArray) : Option (Bool) := if (a0.size : Int) > 500 then ((regimenlaw11_awake.f k).bind fun t195 => (some t195)) else ((quote_Get.f k a0).bind fun bt196 => ((quote_Span.f k a0).bind fun bt198 => ((regimenref11_Read.f k a0).bind fun bt200 => (if bt198.1 = bt200.2 then (regimenlaw11_QuoteGets.j0 k a0 bt196.1 bt196.2 bt200.1 bt200.2 (bt198.2 != (decide (bt200.2 > 0)))) else (regimenlaw11_QuoteGets.j0 k a0 bt196.1 bt196.2 bt200.1 bt200.2 true)))))
theorem regimenlaw11_QuoteGets.mono_l : ∀ k, (∀ y0 y1 y2 y3 y4 y5, LeO (regimenlaw11_QuoteGets.j0 k y0 y1 y2 y3 y4 y5) (regimenlaw11_QuoteGets.j0 (k + 1) y0 y1 y2 y3 y4 y5)) ∧ (∀ y0 y1 y2 y3, LeO (regimenlaw11_QuoteGets.j1 k y0 y1 y2 y3) (regimenlaw11_QuoteGets.j1 (k + 1) y0 y1 y2 y3))
  | 0 => ⟨fun _ _ _ _ _ _ r h => by simp [regimenlaw11_QuoteGets.j0] at h, fun _ _ _ _ r h => by simp [regimenlaw11_QuoteGets.j1] at h⟩
  | k + 1 => by
    obtain ⟨ih0, ih1⟩ := regimenlaw11_QuoteGets.mono_l k
    refine ⟨?_, ?_⟩
    · intro y0 y1 y2 y3 y4 y5
      unfold regimenlaw11_QuoteGets.j0
      repeat' first
      | (with_reducible exact ih0 _ _ _ _ _ _)
      | (with_reducible exact ih1 _ _ _ _)
      | (with_reducible exact quote_Get.mono _ _)
      | (with_reducible exact quote_Span.mono _ _)
      | (with_reducible exact regimenlaw11_awake.mono _)
      | (with_reducible exact regimenref11_Read.mono _ _)
      | (with_reducible exact LeO.refl _)
      | (with_reducible exact LeO.none _)
      | (with_reducible refine LeO.ite ?_ ?_)
      | (with_reducible refine LeO.bind ?_ (fun _ => ?_))
      | exact ih0 _ _ _ _ _ _
      | exact ih1 _ _ _ _
      | exact quote_Get.mono _ _
      | exact quote_Span.mono _ _
      | exact regimenlaw11_awake.mono _
      | exact regimenref11_Read.mono _ _
      | exact LeO.none _
      | refine LeO.ite ?_ ?_
      | refine LeO.bind ?_ (fun _ => ?_)
    · intro y0 y1 y2 y3
      unfold regimenlaw11_QuoteGets.j1
      repeat' first
      | (with_reducible exact ih0 _ _ _ _ _ _)
      | (with_reducible exact ih1 _ _ _ _)
      | (with_reducible exact quote_Get.mono _ _)
      | (with_reducible exact quote_Span.mono _ _)
      | (with_reducible exact regimenlaw11_awake.mono _)
      | (with_reducible exact regimenref11_Read.mono _ _)
      | (with_reducible exact LeO.refl _)
      | (with_reducible exact LeO.none _)
      | (with_reducible refine LeO.ite ?_ ?_)
      | (with_reducible refine LeO.bind ?_ (fun _ => ?_))
      | exact ih0 _ _ _ _ _ _
      | exact ih1 _ _ _ _
      | exact quote_Get.mono _ _
      | exact quote_Span.mono _ _
      | exact regimenlaw11_awake.mono _
      | exact regimenref11_Read.mono _ _
      | exact LeO.none _
      | refine LeO.ite ?_ ?_
      | refine LeO.bind ?_ (fun _ => ?_)
theorem regimenlaw11_QuoteGets.mono : ∀ a0 k, LeO (regimenlaw11_QuoteGets.f k a0) (regimenlaw11_QuoteGets.f (k + 1) a0) := by
  intro a0 k
  obtain ⟨ih0, ih1⟩ := regimenlaw11_QuoteGets.mono_l k
  unfold regimenlaw11_QuoteGets.f
  repeat' first
      | (with_reducible exact ih0 _ _ _ _ _ _)
      | (with_reducible exact ih1 _ _ _ _)
      | (with_reducible exact quote_Get.mono _ _)
      | (with_reducible exact quote_Span.mono _ _)
      | (with_reducible exact regimenlaw11_awake.mono _)
      | (with_reducible exact regimenref11_Read.mono _ _)
      | (with_reducible exact LeO.refl _)
      | (with_reducible exact LeO.none _)
      | (with_reducible refine LeO.ite ?_ ?_)
      | (with_reducible refine LeO.bind ?_ (fun _ => ?_))
      | exact ih0 _ _ _ _ _ _
      | exact ih1 _ _ _ _
      | exact quote_Get.mono _ _
      | exact quote_Span.mono _ _
      | exact regimenlaw11_awake.mono _
      | exact regimenref11_Read.mono _ _
      | exact LeO.none _
      | refine LeO.ite ?_ ?_
      | refine LeO.bind ?_ (fun _ => ?_)
set_option maxHeartbeats 8000000 in
set_option maxRecDepth 100000 in
theorem regimenlaw11_QuoteGets.calls (k : Nat) (a0 : ByteArray) (r : Bool) (w : World) (h : regimenlaw11_QuoteGets.f k a0 = some r) :
    Calls Try.prog 10 #[.string a0] w fun e w' => e = .returned (.bool r) ∧ Below w.heap.size w w' := by
  have HB := Aside0.mk (Below.refl w.heap.size w)
  have H : (if (a0.size : Int) > 500 then ((regimenlaw11_awake.f k).bind fun t195 => (some t195)) else ((quote_Get.f k a0).bind fun bt196 => ((quote_Span.f k a0).bind fun bt198 => ((regimenref11_Read.f k a0).bind fun bt200 => (if bt198.1 = bt200.2 then (regimenlaw11_QuoteGets.j0 k a0 bt196.1 bt196.2 bt200.1 bt200.2 (bt198.2 != (decide (bt200.2 > 0)))) else (regimenlaw11_QuoteGets.j0 k a0 bt196.1 bt196.2 bt200.1 bt200.2 true)))))) = some r := h
  clear h
  by_cases c2 : (a0.size : Int) > 500
  · rw [if_pos c2] at H
    have c2b0 : decide (500 < (a0.size : Int)) = true := decide_eq_true c2
    have c2b1 : decide (500 < a0.size) = true := decide_eq_true (by omega)
    clear c2
    replace H := Option.bind_eq_some_iff.mp H
    obtain ⟨t195, A30, H⟩ := H
    replace H : (some t195) = some r := H
    have A3 := Aside0.mk A30
    clear A30
    obtain rfl := Option.some.inj H
    go_enter Try.func10, Try.ntmps10
    go_wp2_with (first | ((with_reducible refine gate_callee (f := 38) rfl ?_); refine goesL_ (some 12) rfl rfl Try.func38 (by kernel_rfl) rfl #[] rfl (by (try simp only [List.map_toArray, List.map_cons, List.map_nil]); first | done | rfl | (simp only [List.length_drop, List.length_take]; rfl)) ?_; (with_reducible refine (regimenlaw11_awake.calls k  t195 _ A3.out).mono ?_); rintro e w4 ⟨rfl, hb⟩; refine ⟨_, rfl, ?_⟩; have n0_ := Aside0.mk (below_step (by repeat (first | (with_reducible first | exact HB.out | apply below_alloc | apply pw_below_drewN | apply below_drew1) | exact HB.out)) hb); clear HB; have HB := n0_; clear n0_; (try clear hb); (try clear hb2); (try clear hk); (try clear hi)))
    go_ret
    exact ⟨by first | rfl | (simp [errW_none, errW_some] <;> rfl) | (simp [*, errW_none, errW_some] <;> rfl), by repeat (first | (with_reducible first | exact HB.out | apply below_alloc | apply pw_below_drewN | apply below_drew1) | exact HB.out)⟩
  · rw [if_neg c2] at H
    have c2b0 : decide (500 < (a0.size : Int)) = false := decide_eq_false c2
    have c2b1 : decide (500 < a0.size) = false := decide_eq_false (by omega)
    clear c2
    replace H := Option.bind_eq_some_iff.mp H
    obtain ⟨⟨t196, t197⟩, A50, H⟩ := H
    replace H : ((quote_Span.f k a0).bind fun bt198 => ((regimenref11_Read.f k a0).bind fun bt200 => (if bt198.1 = bt200.2 then (regimenlaw11_QuoteGets.j0 k a0 t196 t197 bt200.1 bt200.2 (bt198.2 != (decide (bt200.2 > 0)))) else (regimenlaw11_QuoteGets.j0 k a0 t196 t197 bt200.1 bt200.2 true)))) = some r := H
    have A5 := Aside0.mk A50
    clear A50
    replace H := Option.bind_eq_some_iff.mp H
    obtain ⟨⟨t198, t199⟩, A60, H⟩ := H
    replace H : ((regimenref11_Read.f k a0).bind fun bt200 => (if t198 = bt200.2 then (regimenlaw11_QuoteGets.j0 k a0 t196 t197 bt200.1 bt200.2 (t199 != (decide (bt200.2 > 0)))) else (regimenlaw11_QuoteGets.j0 k a0 t196 t197 bt200.1 bt200.2 true))) = some r := H
    have A6 := Aside0.mk A60
    clear A60
    replace H := Option.bind_eq_some_iff.mp H
    obtain ⟨⟨t200, t201⟩, A70, H⟩ := H
    replace H : (if t198 = t201 then (regimenlaw11_QuoteGets.j0 k a0 t196 t197 t200 t201 (t199 != (decide (t201 > 0)))) else (regimenlaw11_QuoteGets.j0 k a0 t196 t197 t200 t201 true)) = some r := H
    have A7 := Aside0.mk A70
    clear A70
    have HC8 := Aside0.mk H
    clear H
    go_enter Try.func10, Try.ntmps10
    go_upto_region 6 with (first | ((with_reducible refine gate_callee (f := 40) rfl ?_); refine goesL_ (some 15) rfl rfl Try.func40 (by kernel_rfl) rfl #[.string a0] rfl (by (try simp only [List.map_toArray, List.map_cons, List.map_nil]); first | done | rfl | (simp only [List.length_drop, List.length_take]; rfl)) ?_; (with_reducible refine (quote_Get.calls k a0 t196 t197 _ A5.out).mono ?_); rintro e w9 ⟨rfl, hb⟩; refine ⟨_, rfl, ?_⟩; have n0_ := Aside0.mk (below_step (by repeat (first | (with_reducible first | exact HB.out | apply below_alloc | apply pw_below_drewN | apply below_drew1) | exact HB.out)) hb); clear HB; have HB := n0_; clear n0_; (try clear hb); (try clear hb2); (try clear hk); (try clear hi)) | ((with_reducible refine gate_callee (f := 41) rfl ?_); refine goesL_ (some 20) rfl rfl Try.func41 (by kernel_rfl) rfl #[.string a0] rfl (by (try simp only [List.map_toArray, List.map_cons, List.map_nil]); first | done | rfl | (simp only [List.length_drop, List.length_take]; rfl)) ?_; (with_reducible refine (quote_Span.calls k a0 t198 t199 _ A6.out).mono ?_); rintro e w10 ⟨rfl, hb⟩; refine ⟨_, rfl, ?_⟩; have n0_ := Aside0.mk (below_step (by repeat (first | (with_reducible first | exact HB.out | apply below_alloc | apply pw_below_drewN | apply below_drew1) | exact HB.out)) hb); clear HB; have HB := n0_; clear n0_; (try clear hb); (try clear hb2); (try clear hk); (try clear hi)) | ((with_reducible refine gate_callee (f := 43) rfl ?_); refine goesL_ (some 25) rfl rfl Try.func43 (by kernel_rfl) rfl #[.string a0] rfl (by (try simp only [List.map_toArray, List.map_cons, List.map_nil]); first | done | rfl | (simp only [List.length_drop, List.length_take]; rfl)) ?_; (with_reducible refine (regimenref11_Read.calls k a0 t200 t201 _ A7.out).mono ?_); rintro e w11 ⟨rfl, hb⟩; refine ⟨_, rfl, ?_⟩; have n0_ := Aside0.mk (below_step (by repeat (first | (with_reducible first | exact HB.out | apply below_alloc | apply pw_below_drewN | apply below_drew1) | exact HB.out)) hb); clear HB; have HB := n0_; clear n0_; (try clear hb); (try clear hb2); (try clear hk); (try clear hi)))
    (try simp only [Act.put, List.setIfInBounds_toArray, List.set_cons_zero, List.set_cons_succ])
    go_cut [36] (fun v36 wc => ∃ (kq : Nat) (x36_7 : Bool), v36 = .bool x36_7 ∧ Aside0 (regimenlaw11_QuoteGets.j0 kq a0 t196 t197 t200 t201 x36_7 = some r) ∧ Aside0 (kq ≤ k) ∧ Aside0 (Below w.heap.size w wc))
    case first =>
      have H := HC8.out
      clear HC8
      by_cases c12 : t198 = t201
      · rw [if_pos c12] at H
        have c12b0 : (t198 == t201) = true := beq_iff_eq.mpr c12
        have c12b1 : (t198 != t201) = false := bne_eq_false_iff_eq.mpr c12
        clear c12
        (first | rw [c12b0] | rw [c12b1] | (simp only [i64_w, i32_w]; rw [c12b0]) | skip)
        have H' := Aside0.mk H
        clear H
        go_wp2
        go_meet
        case rel => exact ⟨_, ((t199 != (decide (t201 > 0)))), (by first | rfl | (simp; done) | (simp [*]; done)), H', ⟨by first | omega | exact Nat.le_refl _⟩, ⟨by repeat (first | (with_reducible first | exact HB.out | apply below_alloc | apply pw_below_drewN | apply below_drew1) | exact HB.out)⟩⟩
      · rw [if_neg c12] at H
        have c12b0 : (t198 == t201) = false := beq_eq_false_iff_ne.mpr c12
        have c12b1 : (t198 != t201) = true := bne_iff_ne.mpr c12
        (first | rw [c12b0] | rw [c12b1] | (simp only [i64_w, i32_w]; rw [c12b0]) | skip)
        have H' := Aside0.mk H
        clear H
        go_wp2
        go_meet
        case rel => exact ⟨_, (true), (by first | rfl | (simp; done) | (simp [*]; done)), H', ⟨by first | omega | exact Nat.le_refl _⟩, ⟨by repeat (first | (with_reducible first | exact HB.out | apply below_alloc | apply pw_below_drewN | apply below_drew1) | exact HB.out)⟩⟩
    case rest =>
      clear HC8
      try clear c1
      try clear c2
      try clear c2b0
      try clear c2b1
      try clear p2
      try clear c3
      try clear c4
      try clear c10
      try clear c12
      try clear c12b0
      try clear c12b1
      obtain ⟨kq, x36_7, rfl, HA, HJ7, HB⟩ := hcut
      cases kq with
      | zero => exact absurd HA.out (by simp [regimenlaw11_QuoteGets.j0])
      | succ kj7 =>
        have H := HA.out
        clear HA
        simp only [regimenlaw11_QuoteGets.j0] at H
        by_cases c13 : x36_7 = true
        · subst c13
          have H1 : (none) = some r := by rw [if_pos rfl] at H; exact H
          clear H
          have H := H1
          clear H1
          exact absurd H (by simp)
        · replace c13 := Bool.eq_false_iff.mpr c13
          subst c13
          have H1 : (if t201 = 0 then (regimenlaw11_QuoteGets.j1 kj7 t196 t197 t200 true) else (regimenlaw11_QuoteGets.j1 kj7 t196 t197 t200 (decide (t201 < (a0.size : Int))))) = some r := by rw [if_neg (show ¬ (false = true) by decide)] at H; exact H
          clear H
          have H := H1
          clear H1
          have HC14 := Aside0.mk H
          clear H
          go_upto_region 8 with (fail)
          go_cut [44] (fun v44 wc => ∃ (kq : Nat) (x44_13 : Bool), v44 = .bool x44_13 ∧ Aside0 (regimenlaw11_QuoteGets.j1 kq t196 t197 t200 x44_13 = some r) ∧ Aside0 (kq ≤ kj7) ∧ Aside0 (Below w.heap.size w wc))
          case first =>
            have H := HC14.out
            clear HC14
            by_cases c15 : t201 = 0
            · rw [if_pos c15] at H
              have c15b0 : (t201 == 0) = true := beq_iff_eq.mpr c15
              have c15b1 : (t201 != 0) = false := bne_eq_false_iff_eq.mpr c15
              clear c15
              (first | rw [c15b0] | rw [c15b1] | (simp only [i64_w, i32_w]; rw [c15b0]) | skip)
              have H' := Aside0.mk H
              clear H
              go_wp2
              go_meet
              case rel => exact ⟨_, (true), (by first | rfl | (simp; done) | (simp [*]; done)), H', ⟨by have := HJ7.out; first | omega | exact Nat.le_refl _⟩, ⟨by repeat (first | (with_reducible first | exact HB.out | apply below_alloc | apply pw_below_drewN | apply below_drew1) | exact HB.out)⟩⟩
            · rw [if_neg c15] at H
              have c15b0 : (t201 == 0) = false := beq_eq_false_iff_ne.mpr c15
              have c15b1 : (t201 != 0) = true := bne_iff_ne.mpr c15
              (first | rw [c15b0] | rw [c15b1] | (simp only [i64_w, i32_w]; rw [c15b0]) | skip)
              have H' := Aside0.mk H
              clear H
              go_wp2
              go_meet
              case rel => exact ⟨_, (decide (t201 < (a0.size : Int))), (by first | rfl | (simp; done) | (simp [*]; done)), H', ⟨by have := HJ7.out; first | omega | exact Nat.le_refl _⟩, ⟨by repeat (first | (with_reducible first | exact HB.out | apply below_alloc | apply pw_below_drewN | apply below_drew1) | exact HB.out)⟩⟩
          case rest =>
            clear HC14
            try clear c1
            try clear c2
            try clear c2b0
            try clear c2b1
            try clear p2
            try clear c3
            try clear c4
            try clear c10
            try clear c12
            try clear c12b0
            try clear c12b1
            try clear c13
            try clear c15
            try clear c15b0
            try clear c15b1
            try clear p2
            obtain ⟨kq, x44_13, rfl, HA, HJ13, HB⟩ := hcut
            cases kq with
            | zero => exact absurd HA.out (by simp [regimenlaw11_QuoteGets.j1])
            | succ kj13 =>
              have H := HA.out
              clear HA
              simp only [regimenlaw11_QuoteGets.j1] at H
              by_cases c16 : x44_13 = true
              · subst c16
                have H1 : (if t196.toList = ([] : List UInt8) then (if t197 = 2 then ((regimenlaw11_awake.f kj13).bind fun t202 => (some t202)) else (none)) else (none)) = some r := by rw [if_pos rfl] at H; exact H
                clear H
                have H := H1
                clear H1
                by_cases c17 : t196.toList = ([] : List UInt8)
                · rw [if_pos c17] at H
                  have c17b0 : (t196.toList == ([] : List UInt8)) = true := beq_iff_eq.mpr c17
                  have c17b1 : (t196.toList != ([] : List UInt8)) = false := bne_eq_false_iff_eq.mpr c17
                  clear c17
                  by_cases c18 : t197 = 2
                  · rw [if_pos c18] at H
                    have c18b0 : (t197 == 2) = true := beq_iff_eq.mpr c18
                    have c18b1 : (t197 != 2) = false := bne_eq_false_iff_eq.mpr c18
                    clear c18
                    replace H := Option.bind_eq_some_iff.mp H
                    obtain ⟨t202, A190, H⟩ := H
                    replace H : (some t202) = some r := H
                    have A19 := Aside0.mk A190
                    clear A190
                    obtain rfl := Option.some.inj H
                    go_wp2_with (first | (go_at_call 38; (with_reducible refine (regimenlaw11_awake.calls kj13  t202 _ A19.out).mono ?_); rintro e w20 ⟨rfl, hb⟩; have n0_ := Aside0.mk (below_step (by repeat (first | (with_reducible first | exact HB.out | apply below_alloc | apply pw_below_drewN | apply below_drew1) | exact HB.out)) hb); clear HB; have HB := n0_; clear n0_; (try clear hb); (try clear hb2); (try clear hk); (try clear hi)))
                    go_ret
                    exact ⟨by first | rfl | (simp [errW_none, errW_some] <;> rfl) | (simp [*, errW_none, errW_some] <;> rfl), by repeat (first | (with_reducible first | exact HB.out | apply below_alloc | apply pw_below_drewN | apply below_drew1) | exact HB.out)⟩
                  · rw [if_neg c18] at H
                    exact absurd H (by simp)
                · rw [if_neg c17] at H
                  exact absurd H (by simp)
              · replace c16 := Bool.eq_false_iff.mpr c16
                subst c16
                have H1 : (if t196.toList = t200.toList then (if t197 = 0 then ((regimenlaw11_awake.f kj13).bind fun t203 => (some t203)) else (none)) else (none)) = some r := by rw [if_neg (show ¬ (false = true) by decide)] at H; exact H
                clear H
                have H := H1
                clear H1
                by_cases c21 : t196.toList = t200.toList
                · rw [if_pos c21] at H
                  have c21b0 : (t196.toList == t200.toList) = true := beq_iff_eq.mpr c21
                  have c21b1 : (t196.toList != t200.toList) = false := bne_eq_false_iff_eq.mpr c21
                  clear c21
                  by_cases c22 : t197 = 0
                  · rw [if_pos c22] at H
                    have c22b0 : (t197 == 0) = true := beq_iff_eq.mpr c22
                    have c22b1 : (t197 != 0) = false := bne_eq_false_iff_eq.mpr c22
                    clear c22
                    replace H := Option.bind_eq_some_iff.mp H
                    obtain ⟨t203, A230, H⟩ := H
                    replace H : (some t203) = some r := H
                    have A23 := Aside0.mk A230
                    clear A230
                    obtain rfl := Option.some.inj H
                    go_wp2_with (first | (go_at_call 38; (with_reducible refine (regimenlaw11_awake.calls kj13  t203 _ A23.out).mono ?_); rintro e w24 ⟨rfl, hb⟩; have n0_ := Aside0.mk (below_step (by repeat (first | (with_reducible first | exact HB.out | apply below_alloc | apply pw_below_drewN | apply below_drew1) | exact HB.out)) hb); clear HB; have HB := n0_; clear n0_; (try clear hb); (try clear hb2); (try clear hk); (try clear hi)))
                    go_ret
                    exact ⟨by first | rfl | (simp [errW_none, errW_some] <;> rfl) | (simp [*, errW_none, errW_some] <;> rfl), by repeat (first | (with_reducible first | exact HB.out | apply below_alloc | apply pw_below_drewN | apply below_drew1) | exact HB.out)⟩
                  · rw [if_neg c22] at H
                    exact absurd H (by simp)
                · rw [if_neg c21] at H
                  exact absurd H (by simp)

/-- THE ONE PURE STATEMENT of regimenlaw11_QuoteGets: yours. -/
def regimenlaw11_QuoteGets.Pure : Prop := ∀ (a0 : ByteArray), (a0.size ≤ 140737488351232) → ∃ k, regimenlaw11_QuoteGets.f k a0 = some true
theorem regimenlaw11_QuoteGets.walk (P : regimenlaw11_QuoteGets.Pure) (a0 : ByteArray) (w : World) (w0 : a0.size ≤ 140737488351232) :
    Calls Try.prog 10 #[.string a0] w fun e w' => e = .returned (.bool true) ∧ Below w.heap.size w w' := by
  obtain ⟨k, h⟩ := P a0 w0
  refine (regimenlaw11_QuoteGets.calls k a0 true w h).mono ?_
  rintro e w' ⟨rfl, hd⟩
  exact ⟨rfl, hd⟩

end Go.Proofs.Ytbnkjchhbjbbnaa.PQ
