/- Go functions of this seat as plain Lean functions, each with a proof that its call comes to just what that function says, wherever that function says anything: written by a program of this session. -/
import Derived.Test.YtjnpfbdmkakebaaPAx0
import Derived.Test.YtjnpfbdmkakebaaPAx4
import Derived.Test.YtjnpfbdmkakebaaPAx7
namespace Go.Proofs.Ytjnpfbdmkakebaa.PA
open Go.RowKit Go.Proofs.YtjnpfbdmkakebaaW.PrintWords Go.Proofs.YtjnpfbdmkakebaaW.PrintLast Go.Proofs.YtjnpfbdmkakebaaW.PrintMore
attribute [local go_sem] max2_int min2_int max_two min_two max_three min_three max_four min_four   -- for this text's walks alone
set_option linter.unusedVariables false
set_option linter.unusedSimpArgs false

attribute [local go_sem] idx46_1
/-! ### regimenlaw07_LerpShares: function 3 -/
mutual
def regimenlaw07_LerpShares.j0 : Nat → Int → Int → Int → Int → Bool → Option (Bool)
  | 0, _, _, _, _, _ => none
  | k + 1, x0, x1, x5, x6, x29 => if x29 = true then (if x5 = 0 then (if x6 = 1 then ((regimenlaw07_awake.f k).bind fun t282 => (some t282)) else (some false)) else (some false)) else (if x6 = 0 then ((regimenref07_Share.f k x0 x1).bind fun t283 => (if x5 = t283 then (if x5 < 0 then (regimenlaw07_LerpShares.j1 k x0 x1 x5 true) else (if x5 > 4294967296 then (regimenlaw07_LerpShares.j1 k x0 x1 x5 true) else (if x0 = 0 then (if x5 = 0 then (if x1 > 1 then (if x0 = (wrap64 (x1 - 1)) then (regimenlaw07_LerpShares.j1 k x0 x1 x5 (x5 != 4294967296)) else (regimenlaw07_LerpShares.j1 k x0 x1 x5 false)) else (regimenlaw07_LerpShares.j1 k x0 x1 x5 false)) else (regimenlaw07_LerpShares.j1 k x0 x1 x5 true)) else (if x1 > 1 then (if x0 = (wrap64 (x1 - 1)) then (regimenlaw07_LerpShares.j1 k x0 x1 x5 (x5 != 4294967296)) else (regimenlaw07_LerpShares.j1 k x0 x1 x5 false)) else (regimenlaw07_LerpShares.j1 k x0 x1 x5 false))))) else (regimenlaw07_LerpShares.j1 k x0 x1 x5 true))) else (regimenlaw07_LerpShares.j1 k x0 x1 x5 true))
def regimenlaw07_LerpShares.j1 : Nat → Int → Int → Int → Bool → Option (Bool)
  | 0, _, _, _, _ => none
  | k + 1, x0, x1, x5, x77 => if x77 = true then (some false) else (if (wrap64 (x0 + 1)) = x1 then ((regimenlaw07_awake.f k).bind fun t284 => (some t284)) else ((lerp_Share.f k (wrap64 (x0 + 1)) x1).bind fun bt285 => (if bt285.2 = 0 then (if bt285.1 ≥ x5 then ((regimenlaw07_awake.f k).bind fun t287 => (some t287)) else (some false)) else (some false))))
end
def regimenlaw07_LerpShares.f (k : Nat) (a0 : Int) (a1 : Int) : Option (Bool) := (lerp_Share.f k a0 a1).bind fun bt280 => (if a1 < 1 then (regimenlaw07_LerpShares.j0 k a0 a1 bt280.1 bt280.2 true) else (if a1 > 1099511627776 then (regimenlaw07_LerpShares.j0 k a0 a1 bt280.1 bt280.2 true) else (if a0 < 0 then (regimenlaw07_LerpShares.j0 k a0 a1 bt280.1 bt280.2 true) else (regimenlaw07_LerpShares.j0 k a0 a1 bt280.1 bt280.2 (decide (a0 ≥ a1))))))
theorem regimenlaw07_LerpShares.mono_l : ∀ k, (∀ y0 y1 y2 y3 y4, LeO (regimenlaw07_LerpShares.j0 k y0 y1 y2 y3 y4) (regimenlaw07_LerpShares.j0 (k + 1) y0 y1 y2 y3 y4)) ∧ (∀ y0 y1 y2 y3, LeO (regimenlaw07_LerpShares.j1 k y0 y1 y2 y3) (regimenlaw07_LerpShares.j1 (k + 1) y0 y1 y2 y3))
  | 0 => ⟨fun _ _ _ _ _ r h => by simp [regimenlaw07_LerpShares.j0] at h, fun _ _ _ _ r h => by simp [regimenlaw07_LerpShares.j1] at h⟩
  | k + 1 => by
    obtain ⟨ih0, ih1⟩ := regimenlaw07_LerpShares.mono_l k
    refine ⟨?_, ?_⟩
    · intro y0 y1 y2 y3 y4
      unfold regimenlaw07_LerpShares.j0
      repeat' first
      | (with_reducible exact ih0 _ _ _ _ _)
      | (with_reducible exact ih1 _ _ _ _)
      | (with_reducible exact lerp_Share.mono _ _ _)
      | (with_reducible exact regimenlaw07_awake.mono _)
      | (with_reducible exact regimenref07_Share.mono _ _ _)
      | (with_reducible exact LeO.refl _)
      | (with_reducible exact LeO.none _)
      | (with_reducible refine LeO.ite ?_ ?_)
      | (with_reducible refine LeO.bind ?_ (fun _ => ?_))
      | exact ih0 _ _ _ _ _
      | exact ih1 _ _ _ _
      | exact lerp_Share.mono _ _ _
      | exact regimenlaw07_awake.mono _
      | exact regimenref07_Share.mono _ _ _
      | exact LeO.none _
      | refine LeO.ite ?_ ?_
      | refine LeO.bind ?_ (fun _ => ?_)
    · intro y0 y1 y2 y3
      unfold regimenlaw07_LerpShares.j1
      repeat' first
      | (with_reducible exact ih0 _ _ _ _ _)
      | (with_reducible exact ih1 _ _ _ _)
      | (with_reducible exact lerp_Share.mono _ _ _)
      | (with_reducible exact regimenlaw07_awake.mono _)
      | (with_reducible exact regimenref07_Share.mono _ _ _)
      | (with_reducible exact LeO.refl _)
      | (with_reducible exact LeO.none _)
      | (with_reducible refine LeO.ite ?_ ?_)
      | (with_reducible refine LeO.bind ?_ (fun _ => ?_))
      | exact ih0 _ _ _ _ _
      | exact ih1 _ _ _ _
      | exact lerp_Share.mono _ _ _
      | exact regimenlaw07_awake.mono _
      | exact regimenref07_Share.mono _ _ _
      | exact LeO.none _
      | refine LeO.ite ?_ ?_
      | refine LeO.bind ?_ (fun _ => ?_)
theorem regimenlaw07_LerpShares.mono : ∀ a0 a1 k, LeO (regimenlaw07_LerpShares.f k a0 a1) (regimenlaw07_LerpShares.f (k + 1) a0 a1) := by
  intro a0 a1 k
  obtain ⟨ih0, ih1⟩ := regimenlaw07_LerpShares.mono_l k
  unfold regimenlaw07_LerpShares.f
  repeat' first
      | (with_reducible exact ih0 _ _ _ _ _)
      | (with_reducible exact ih1 _ _ _ _)
      | (with_reducible exact lerp_Share.mono _ _ _)
      | (with_reducible exact regimenlaw07_awake.mono _)
      | (with_reducible exact regimenref07_Share.mono _ _ _)
      | (with_reducible exact LeO.refl _)
      | (with_reducible exact LeO.none _)
      | (with_reducible refine LeO.ite ?_ ?_)
      | (with_reducible refine LeO.bind ?_ (fun _ => ?_))
      | exact ih0 _ _ _ _ _
      | exact ih1 _ _ _ _
      | exact lerp_Share.mono _ _ _
      | exact regimenlaw07_awake.mono _
      | exact regimenref07_Share.mono _ _ _
      | exact LeO.none _
      | refine LeO.ite ?_ ?_
      | refine LeO.bind ?_ (fun _ => ?_)
set_option maxHeartbeats 8000000 in
set_option maxRecDepth 100000 in
theorem regimenlaw07_LerpShares.calls (k : Nat) (a0 : Int) (a1 : Int) (r : Bool) (w : World) (h : regimenlaw07_LerpShares.f k a0 a1 = some r) :
    Calls Try.prog 3 #[.int .i64 a0, .int .i64 a1] w fun e w' => e = .returned (.bool r) ∧ Below w.heap.size w w' := by
  have HB := Aside0.mk (Below.refl w.heap.size w)
  have H : ((lerp_Share.f k a0 a1).bind fun bt280 => (if a1 < 1 then (regimenlaw07_LerpShares.j0 k a0 a1 bt280.1 bt280.2 true) else (if a1 > 1099511627776 then (regimenlaw07_LerpShares.j0 k a0 a1 bt280.1 bt280.2 true) else (if a0 < 0 then (regimenlaw07_LerpShares.j0 k a0 a1 bt280.1 bt280.2 true) else (regimenlaw07_LerpShares.j0 k a0 a1 bt280.1 bt280.2 (decide (a0 ≥ a1))))))) = some r := h
  clear h
  replace H := Option.bind_eq_some_iff.mp H
  obtain ⟨⟨t280, t281⟩, A30, H⟩ := H
  replace H : (if a1 < 1 then (regimenlaw07_LerpShares.j0 k a0 a1 t280 t281 true) else (if a1 > 1099511627776 then (regimenlaw07_LerpShares.j0 k a0 a1 t280 t281 true) else (if a0 < 0 then (regimenlaw07_LerpShares.j0 k a0 a1 t280 t281 true) else (regimenlaw07_LerpShares.j0 k a0 a1 t280 t281 (decide (a0 ≥ a1)))))) = some r := H
  have A3 := Aside0.mk A30
  clear A30
  have HC4 := Aside0.mk H
  clear H
  go_enter Try.func3, Try.ntmps3
  go_upto_region 2 with (first | ((with_reducible refine gate_callee (f := 13) rfl ?_); refine goesL_ (some 12) rfl rfl Try.func13 (by kernel_rfl) rfl #[.int .i64 a0, .int .i64 a1] rfl (by (try simp only [List.map_toArray, List.map_cons, List.map_nil]); first | done | rfl | (simp only [List.length_drop, List.length_take]; rfl)) ?_; (with_reducible refine (lerp_Share.calls k a0 a1 t280 t281 _ A3.out).mono ?_); rintro e w5 ⟨rfl, hb⟩; refine ⟨_, rfl, ?_⟩; have n0_ := Aside0.mk (below_step (by repeat (first | (with_reducible first | exact HB.out | apply below_alloc | apply pw_below_drewN | apply below_drew1) | exact HB.out)) hb); clear HB; have HB := n0_; clear n0_; (try clear hb); (try clear hb2); (try clear hk); (try clear hi)))
  (try simp only [Act.put, List.setIfInBounds_toArray, List.set_cons_zero, List.set_cons_succ])
  go_cut [29] (fun v29 wc => ∃ (kq : Nat) (x29_3 : Bool), v29 = .bool x29_3 ∧ Aside0 (regimenlaw07_LerpShares.j0 kq a0 a1 t280 t281 x29_3 = some r) ∧ Aside0 (kq ≤ k) ∧ Aside0 (Below w.heap.size w wc))
  case first =>
    have H := HC4.out
    clear HC4
    by_cases c6 : a1 < 1
    · rw [if_pos c6] at H
      have c6b0 : decide (a1 < 1) = true := decide_eq_true c6
      clear c6
      (first | rw [c6b0] | rw [c6b1] | (simp only [i64_w, i32_w]; rw [c6b0]) | skip)
      have H' := Aside0.mk H
      clear H
      go_wp2
      go_meet
      case rel => exact ⟨_, (true), (by first | rfl | (simp; done) | (simp [*]; done)), H', ⟨by first | omega | exact Nat.le_refl _⟩, ⟨by repeat (first | (with_reducible first | exact HB.out | apply below_alloc | apply pw_below_drewN | apply below_drew1) | exact HB.out)⟩⟩
    · rw [if_neg c6] at H
      have c6b0 : decide (a1 < 1) = false := decide_eq_false c6
      clear c6
      (first | rw [c6b0] | rw [c6b1] | (simp only [i64_w, i32_w]; rw [c6b0]) | skip)
      by_cases c7 : a1 > 1099511627776
      · rw [if_pos c7] at H
        have c7b0 : decide (1099511627776 < a1) = true := decide_eq_true c7
        clear c7
        have H' := Aside0.mk H
        clear H
        go_wp2
        go_meet
        case rel => exact ⟨_, (true), (by first | rfl | (simp; done) | (simp [*]; done)), H', ⟨by first | omega | exact Nat.le_refl _⟩, ⟨by repeat (first | (with_reducible first | exact HB.out | apply below_alloc | apply pw_below_drewN | apply below_drew1) | exact HB.out)⟩⟩
      · rw [if_neg c7] at H
        have c7b0 : decide (1099511627776 < a1) = false := decide_eq_false c7
        clear c7
        by_cases c8 : a0 < 0
        · rw [if_pos c8] at H
          have c8b0 : decide (a0 < 0) = true := decide_eq_true c8
          clear c8
          have H' := Aside0.mk H
          clear H
          go_wp2
          go_meet
          case rel => exact ⟨_, (true), (by first | rfl | (simp; done) | (simp [*]; done)), H', ⟨by first | omega | exact Nat.le_refl _⟩, ⟨by repeat (first | (with_reducible first | exact HB.out | apply below_alloc | apply pw_below_drewN | apply below_drew1) | exact HB.out)⟩⟩
        · rw [if_neg c8] at H
          have c8b0 : decide (a0 < 0) = false := decide_eq_false c8
          clear c8
          have H' := Aside0.mk H
          clear H
          go_wp2
          go_meet
          case rel => exact ⟨_, (decide (a0 ≥ a1)), (by first | rfl | (simp; done) | (simp [*]; done)), H', ⟨by first | omega | exact Nat.le_refl _⟩, ⟨by repeat (first | (with_reducible first | exact HB.out | apply below_alloc | apply pw_below_drewN | apply below_drew1) | exact HB.out)⟩⟩
  case rest =>
    clear HC4
    try clear c1
    try clear p2
    try clear c3
    try clear c6
    try clear c6b0
    try clear c6b1
    try clear c7
    try clear c7b0
    try clear c8
    try clear c8b0
    obtain ⟨kq, x29_3, rfl, HA, HJ3, HB⟩ := hcut
    cases kq with
    | zero => exact absurd HA.out (by simp [regimenlaw07_LerpShares.j0])
    | succ kj3 =>
      have H := HA.out
      clear HA
      simp only [regimenlaw07_LerpShares.j0] at H
      by_cases c9 : x29_3 = true
      · subst c9
        have H1 : (if t280 = 0 then (if t281 = 1 then ((regimenlaw07_awake.f kj3).bind fun t282 => (some t282)) else (some false)) else (some false)) = some r := by rw [if_pos rfl] at H; exact H
        clear H
        have H := H1
        clear H1
        by_cases c10 : t280 = 0
        · rw [if_pos c10] at H
          have c10b0 : (t280 == 0) = true := beq_iff_eq.mpr c10
          have c10b1 : (t280 != 0) = false := bne_eq_false_iff_eq.mpr c10
          clear c10
          by_cases c11 : t281 = 1
          · rw [if_pos c11] at H
            have c11b0 : (t281 == 1) = true := beq_iff_eq.mpr c11
            have c11b1 : (t281 != 1) = false := bne_eq_false_iff_eq.mpr c11
            clear c11
            replace H := Option.bind_eq_some_iff.mp H
            obtain ⟨t282, A120, H⟩ := H
            replace H : (some t282) = some r := H
            have A12 := Aside0.mk A120
            clear A120
            obtain rfl := Option.some.inj H
            go_wp2_with (first | (go_at_call 14; (with_reducible refine (regimenlaw07_awake.calls kj3  t282 _ A12.out).mono ?_); rintro e w13 ⟨rfl, hb⟩; have n0_ := Aside0.mk (below_step (by repeat (first | (with_reducible first | exact HB.out | apply below_alloc | apply pw_below_drewN | apply below_drew1) | exact HB.out)) hb); clear HB; have HB := n0_; clear n0_; (try clear hb); (try clear hb2); (try clear hk); (try clear hi)))
            go_ret
            exact ⟨by first | rfl | (simp [errW_none, errW_some] <;> rfl) | (simp [*, errW_none, errW_some] <;> rfl), by repeat (first | (with_reducible first | exact HB.out | apply below_alloc | apply pw_below_drewN | apply below_drew1) | exact HB.out)⟩
          · rw [if_neg c11] at H
            have c11b0 : (t281 == 1) = false := beq_eq_false_iff_ne.mpr c11
            have c11b1 : (t281 != 1) = true := bne_iff_ne.mpr c11
            obtain rfl := Option.some.inj H
            go_wp2
            go_ret
            exact ⟨by first | rfl | (simp [errW_none, errW_some] <;> rfl) | (simp [*, errW_none, errW_some] <;> rfl), by repeat (first | (with_reducible first | exact HB.out | apply below_alloc | apply pw_below_drewN | apply below_drew1) | exact HB.out)⟩
        · rw [if_neg c10] at H
          have c10b0 : (t280 == 0) = false := beq_eq_false_iff_ne.mpr c10
          have c10b1 : (t280 != 0) = true := bne_iff_ne.mpr c10
          obtain rfl := Option.some.inj H
          go_wp2
          go_ret
          exact ⟨by first | rfl | (simp [errW_none, errW_some] <;> rfl) | (simp [*, errW_none, errW_some] <;> rfl), by repeat (first | (with_reducible first | exact HB.out | apply below_alloc | apply pw_below_drewN | apply below_drew1) | exact HB.out)⟩
      · replace c9 := Bool.eq_false_iff.mpr c9
        subst c9
        have H1 : (if t281 = 0 then ((regimenref07_Share.f kj3 a0 a1).bind fun t283 => (if t280 = t283 then (if t280 < 0 then (regimenlaw07_LerpShares.j1 kj3 a0 a1 t280 true) else (if t280 > 4294967296 then (regimenlaw07_LerpShares.j1 kj3 a0 a1 t280 true) else (if a0 = 0 then (if t280 = 0 then (if a1 > 1 then (if a0 = (wrap64 (a1 - 1)) then (regimenlaw07_LerpShares.j1 kj3 a0 a1 t280 (t280 != 4294967296)) else (regimenlaw07_LerpShares.j1 kj3 a0 a1 t280 false)) else (regimenlaw07_LerpShares.j1 kj3 a0 a1 t280 false)) else (regimenlaw07_LerpShares.j1 kj3 a0 a1 t280 true)) else (if a1 > 1 then (if a0 = (wrap64 (a1 - 1)) then (regimenlaw07_LerpShares.j1 kj3 a0 a1 t280 (t280 != 4294967296)) else (regimenlaw07_LerpShares.j1 kj3 a0 a1 t280 false)) else (regimenlaw07_LerpShares.j1 kj3 a0 a1 t280 false))))) else (regimenlaw07_LerpShares.j1 kj3 a0 a1 t280 true))) else (regimenlaw07_LerpShares.j1 kj3 a0 a1 t280 true)) = some r := by rw [if_neg (show ¬ (false = true) by decide)] at H; exact H
        clear H
        have H := H1
        clear H1
        have HC14 := Aside0.mk H
        clear H
        go_upto_region 4 with (fail)
        go_cut [77] (fun v77 wc => ∃ (kq : Nat) (x77_13 : Bool), v77 = .bool x77_13 ∧ Aside0 (regimenlaw07_LerpShares.j1 kq a0 a1 t280 x77_13 = some r) ∧ Aside0 (kq ≤ kj3) ∧ Aside0 (Below w.heap.size w wc))
        case first =>
          have H := HC14.out
          clear HC14
          by_cases c15 : t281 = 0
          · rw [if_pos c15] at H
            have c15b0 : (t281 == 0) = true := beq_iff_eq.mpr c15
            have c15b1 : (t281 != 0) = false := bne_eq_false_iff_eq.mpr c15
            clear c15
            (first | rw [c15b0] | rw [c15b1] | (simp only [i64_w, i32_w]; rw [c15b0]) | skip)
            replace H := Option.bind_eq_some_iff.mp H
            obtain ⟨t283, A160, H⟩ := H
            replace H : (if t280 = t283 then (if t280 < 0 then (regimenlaw07_LerpShares.j1 kj3 a0 a1 t280 true) else (if t280 > 4294967296 then (regimenlaw07_LerpShares.j1 kj3 a0 a1 t280 true) else (if a0 = 0 then (if t280 = 0 then (if a1 > 1 then (if a0 = (wrap64 (a1 - 1)) then (regimenlaw07_LerpShares.j1 kj3 a0 a1 t280 (t280 != 4294967296)) else (regimenlaw07_LerpShares.j1 kj3 a0 a1 t280 false)) else (regimenlaw07_LerpShares.j1 kj3 a0 a1 t280 false)) else (regimenlaw07_LerpShares.j1 kj3 a0 a1 t280 true)) else (if a1 > 1 then (if a0 = (wrap64 (a1 - 1)) then (regimenlaw07_LerpShares.j1 kj3 a0 a1 t280 (t280 != 4294967296)) else (regimenlaw07_LerpShares.j1 kj3 a0 a1 t280 false)) else (regimenlaw07_LerpShares.j1 kj3 a0 a1 t280 false))))) else (regimenlaw07_LerpShares.j1 kj3 a0 a1 t280 true)) = some r := H
            have A16 := Aside0.mk A160
            clear A160
            by_cases c17 : t280 = t283
            · rw [if_pos c17] at H
              have c17b0 : (t280 == t283) = true := beq_iff_eq.mpr c17
              have c17b1 : (t280 != t283) = false := bne_eq_false_iff_eq.mpr c17
              clear c17
              by_cases c18 : t280 < 0
              · rw [if_pos c18] at H
                have c18b0 : decide (t280 < 0) = true := decide_eq_true c18
                clear c18
                have H' := Aside0.mk H
                clear H
                go_wp2_with (first | (go_at_call 15; (with_reducible refine (regimenref07_Share.calls kj3 a0 a1 t283 _ A16.out).mono ?_); rintro e w19 ⟨rfl, hb⟩; have n0_ := Aside0.mk (below_step (by repeat (first | (with_reducible first | exact HB.out | apply below_alloc | apply pw_below_drewN | apply below_drew1) | exact HB.out)) hb); clear HB; have HB := n0_; clear n0_; (try clear hb); (try clear hb2); (try clear hk); (try clear hi)))
                go_meet
                case rel => exact ⟨_, (true), (by first | rfl | (simp; done) | (simp [*]; done)), H', ⟨by have := HJ3.out; first | omega | exact Nat.le_refl _⟩, ⟨by repeat (first | (with_reducible first | exact HB.out | apply below_alloc | apply pw_below_drewN | apply below_drew1) | exact HB.out)⟩⟩
              · rw [if_neg c18] at H
                have c18b0 : decide (t280 < 0) = false := decide_eq_false c18
                clear c18
                by_cases c20 : t280 > 4294967296
                · rw [if_pos c20] at H
                  have c20b0 : decide (4294967296 < t280) = true := decide_eq_true c20
                  clear c20
                  have H' := Aside0.mk H
                  clear H
                  go_wp2_with (first | (go_at_call 15; (with_reducible refine (regimenref07_Share.calls kj3 a0 a1 t283 _ A16.out).mono ?_); rintro e w21 ⟨rfl, hb⟩; have n0_ := Aside0.mk (below_step (by repeat (first | (with_reducible first | exact HB.out | apply below_alloc | apply pw_below_drewN | apply below_drew1) | exact HB.out)) hb); clear HB; have HB := n0_; clear n0_; (try clear hb); (try clear hb2); (try clear hk); (try clear hi)))
                  go_meet
                  case rel => exact ⟨_, (true), (by first | rfl | (simp; done) | (simp [*]; done)), H', ⟨by have := HJ3.out; first | omega | exact Nat.le_refl _⟩, ⟨by repeat (first | (with_reducible first | exact HB.out | apply below_alloc | apply pw_below_drewN | apply below_drew1) | exact HB.out)⟩⟩
                · rw [if_neg c20] at H
                  have c20b0 : decide (4294967296 < t280) = false := decide_eq_false c20
                  clear c20
                  by_cases c22 : a0 = 0
                  · rw [if_pos c22] at H
                    have c22b0 : (a0 == 0) = true := beq_iff_eq.mpr c22
                    have c22b1 : (a0 != 0) = false := bne_eq_false_iff_eq.mpr c22
                    clear c22
                    by_cases c23 : t280 = 0
                    · rw [if_pos c23] at H
                      have c23b0 : (t280 == 0) = true := beq_iff_eq.mpr c23
                      have c23b1 : (t280 != 0) = false := bne_eq_false_iff_eq.mpr c23
                      clear c23
                      by_cases c24 : a1 > 1
                      · rw [if_pos c24] at H
                        have c24b0 : decide (1 < a1) = true := decide_eq_true c24
                        clear c24
                        by_cases c25 : a0 = (wrap64 (a1 - 1))
                        · rw [if_pos c25] at H
                          have c25b0 : (a0 == (wrap64 (a1 - 1))) = true := beq_iff_eq.mpr c25
                          have c25b1 : (a0 != (wrap64 (a1 - 1))) = false := bne_eq_false_iff_eq.mpr c25
                          clear c25
                          have H' := Aside0.mk H
                          clear H
                          go_wp2_with (first | (go_at_call 15; (with_reducible refine (regimenref07_Share.calls kj3 a0 a1 t283 _ A16.out).mono ?_); rintro e w26 ⟨rfl, hb⟩; have n0_ := Aside0.mk (below_step (by repeat (first | (with_reducible first | exact HB.out | apply below_alloc | apply pw_below_drewN | apply below_drew1) | exact HB.out)) hb); clear HB; have HB := n0_; clear n0_; (try clear hb); (try clear hb2); (try clear hk); (try clear hi)))
                          go_meet
                          case rel => exact ⟨_, ((t280 != 4294967296)), (by first | rfl | (simp; done) | (simp [*]; done)), H', ⟨by have := HJ3.out; first | omega | exact Nat.le_refl _⟩, ⟨by repeat (first | (with_reducible first | exact HB.out | apply below_alloc | apply pw_below_drewN | apply below_drew1) | exact HB.out)⟩⟩
                        · rw [if_neg c25] at H
                          have c25b0 : (a0 == (wrap64 (a1 - 1))) = false := beq_eq_false_iff_ne.mpr c25
                          have c25b1 : (a0 != (wrap64 (a1 - 1))) = true := bne_iff_ne.mpr c25
                          have H' := Aside0.mk H
                          clear H
                          go_wp2_with (first | (go_at_call 15; (with_reducible refine (regimenref07_Share.calls kj3 a0 a1 t283 _ A16.out).mono ?_); rintro e w27 ⟨rfl, hb⟩; have n0_ := Aside0.mk (below_step (by repeat (first | (with_reducible first | exact HB.out | apply below_alloc | apply pw_below_drewN | apply below_drew1) | exact HB.out)) hb); clear HB; have HB := n0_; clear n0_; (try clear hb); (try clear hb2); (try clear hk); (try clear hi)))
                          go_meet
                          case rel => exact ⟨_, (false), (by first | rfl | (simp; done) | (simp [*]; done)), H', ⟨by have := HJ3.out; first | omega | exact Nat.le_refl _⟩, ⟨by repeat (first | (with_reducible first | exact HB.out | apply below_alloc | apply pw_below_drewN | apply below_drew1) | exact HB.out)⟩⟩
                      · rw [if_neg c24] at H
                        have c24b0 : decide (1 < a1) = false := decide_eq_false c24
                        clear c24
                        have H' := Aside0.mk H
                        clear H
                        go_wp2_with (first | (go_at_call 15; (with_reducible refine (regimenref07_Share.calls kj3 a0 a1 t283 _ A16.out).mono ?_); rintro e w28 ⟨rfl, hb⟩; have n0_ := Aside0.mk (below_step (by repeat (first | (with_reducible first | exact HB.out | apply below_alloc | apply pw_below_drewN | apply below_drew1) | exact HB.out)) hb); clear HB; have HB := n0_; clear n0_; (try clear hb); (try clear hb2); (try clear hk); (try clear hi)))
                        go_meet
                        case rel => exact ⟨_, (false), (by first | rfl | (simp; done) | (simp [*]; done)), H', ⟨by have := HJ3.out; first | omega | exact Nat.le_refl _⟩, ⟨by repeat (first | (with_reducible first | exact HB.out | apply below_alloc | apply pw_below_drewN | apply below_drew1) | exact HB.out)⟩⟩
                    · rw [if_neg c23] at H
                      have c23b0 : (t280 == 0) = false := beq_eq_false_iff_ne.mpr c23
                      have c23b1 : (t280 != 0) = true := bne_iff_ne.mpr c23
                      have H' := Aside0.mk H
                      clear H
                      go_wp2_with (first | (go_at_call 15; (with_reducible refine (regimenref07_Share.calls kj3 a0 a1 t283 _ A16.out).mono ?_); rintro e w29 ⟨rfl, hb⟩; have n0_ := Aside0.mk (below_step (by repeat (first | (with_reducible first | exact HB.out | apply below_alloc | apply pw_below_drewN | apply below_drew1) | exact HB.out)) hb); clear HB; have HB := n0_; clear n0_; (try clear hb); (try clear hb2); (try clear hk); (try clear hi)))
                      go_meet
                      case rel => exact ⟨_, (true), (by first | rfl | (simp; done) | (simp [*]; done)), H', ⟨by have := HJ3.out; first | omega | exact Nat.le_refl _⟩, ⟨by repeat (first | (with_reducible first | exact HB.out | apply below_alloc | apply pw_below_drewN | apply below_drew1) | exact HB.out)⟩⟩
                  · rw [if_neg c22] at H
                    have c22b0 : (a0 == 0) = false := beq_eq_false_iff_ne.mpr c22
                    have c22b1 : (a0 != 0) = true := bne_iff_ne.mpr c22
                    by_cases c30 : a1 > 1
                    · rw [if_pos c30] at H
                      have c30b0 : decide (1 < a1) = true := decide_eq_true c30
                      clear c30
                      by_cases c31 : a0 = (wrap64 (a1 - 1))
                      · rw [if_pos c31] at H
                        have c31b0 : (a0 == (wrap64 (a1 - 1))) = true := beq_iff_eq.mpr c31
                        have c31b1 : (a0 != (wrap64 (a1 - 1))) = false := bne_eq_false_iff_eq.mpr c31
                        clear c31
                        have H' := Aside0.mk H
                        clear H
                        go_wp2_with (first | (go_at_call 15; (with_reducible refine (regimenref07_Share.calls kj3 a0 a1 t283 _ A16.out).mono ?_); rintro e w32 ⟨rfl, hb⟩; have n0_ := Aside0.mk (below_step (by repeat (first | (with_reducible first | exact HB.out | apply below_alloc | apply pw_below_drewN | apply below_drew1) | exact HB.out)) hb); clear HB; have HB := n0_; clear n0_; (try clear hb); (try clear hb2); (try clear hk); (try clear hi)))
                        go_meet
                        case rel => exact ⟨_, ((t280 != 4294967296)), (by first | rfl | (simp; done) | (simp [*]; done)), H', ⟨by have := HJ3.out; first | omega | exact Nat.le_refl _⟩, ⟨by repeat (first | (with_reducible first | exact HB.out | apply below_alloc | apply pw_below_drewN | apply below_drew1) | exact HB.out)⟩⟩
                      · rw [if_neg c31] at H
                        have c31b0 : (a0 == (wrap64 (a1 - 1))) = false := beq_eq_false_iff_ne.mpr c31
                        have c31b1 : (a0 != (wrap64 (a1 - 1))) = true := bne_iff_ne.mpr c31
                        have H' := Aside0.mk H
                        clear H
                        go_wp2_with (first | (go_at_call 15; (with_reducible refine (regimenref07_Share.calls kj3 a0 a1 t283 _ A16.out).mono ?_); rintro e w33 ⟨rfl, hb⟩; have n0_ := Aside0.mk (below_step (by repeat (first | (with_reducible first | exact HB.out | apply below_alloc | apply pw_below_drewN | apply below_drew1) | exact HB.out)) hb); clear HB; have HB := n0_; clear n0_; (try clear hb); (try clear hb2); (try clear hk); (try clear hi)))
                        go_meet
                        case rel => exact ⟨_, (false), (by first | rfl | (simp; done) | (simp [*]; done)), H', ⟨by have := HJ3.out; first | omega | exact Nat.le_refl _⟩, ⟨by repeat (first | (with_reducible first | exact HB.out | apply below_alloc | apply pw_below_drewN | apply below_drew1) | exact HB.out)⟩⟩
                    · rw [if_neg c30] at H
                      have c30b0 : decide (1 < a1) = false := decide_eq_false c30
                      clear c30
                      have H' := Aside0.mk H
                      clear H
                      go_wp2_with (first | (go_at_call 15; (with_reducible refine (regimenref07_Share.calls kj3 a0 a1 t283 _ A16.out).mono ?_); rintro e w34 ⟨rfl, hb⟩; have n0_ := Aside0.mk (below_step (by repeat (first | (with_reducible first | exact HB.out | apply below_alloc | apply pw_below_drewN | apply below_drew1) | exact HB.out)) hb); clear HB; have HB := n0_; clear n0_; (try clear hb); (try clear hb2); (try clear hk); (try clear hi)))
                      go_meet
                      case rel => exact ⟨_, (false), (by first | rfl | (simp; done) | (simp [*]; done)), H', ⟨by have := HJ3.out; first | omega | exact Nat.le_refl _⟩, ⟨by repeat (first | (with_reducible first | exact HB.out | apply below_alloc | apply pw_below_drewN | apply below_drew1) | exact HB.out)⟩⟩
            · rw [if_neg c17] at H
              have c17b0 : (t280 == t283) = false := beq_eq_false_iff_ne.mpr c17
              have c17b1 : (t280 != t283) = true := bne_iff_ne.mpr c17
              have H' := Aside0.mk H
              clear H
              go_wp2_with (first | (go_at_call 15; (with_reducible refine (regimenref07_Share.calls kj3 a0 a1 t283 _ A16.out).mono ?_); rintro e w35 ⟨rfl, hb⟩; have n0_ := Aside0.mk (below_step (by repeat (first | (with_reducible first | exact HB.out | apply below_alloc | apply pw_below_drewN | apply below_drew1) | exact HB.out)) hb); clear HB; have HB := n0_; clear n0_; (try clear hb); (try clear hb2); (try clear hk); (try clear hi)))
              go_meet
              case rel => exact ⟨_, (true), (by first | rfl | (simp; done) | (simp [*]; done)), H', ⟨by have := HJ3.out; first | omega | exact Nat.le_refl _⟩, ⟨by repeat (first | (with_reducible first | exact HB.out | apply below_alloc | apply pw_below_drewN | apply below_drew1) | exact HB.out)⟩⟩
          · rw [if_neg c15] at H
            have c15b0 : (t281 == 0) = false := beq_eq_false_iff_ne.mpr c15
            have c15b1 : (t281 != 0) = true := bne_iff_ne.mpr c15
            (first | rw [c15b0] | rw [c15b1] | (simp only [i64_w, i32_w]; rw [c15b0]) | skip)
            have H' := Aside0.mk H
            clear H
            go_wp2
            go_meet
            case rel => exact ⟨_, (true), (by first | rfl | (simp; done) | (simp [*]; done)), H', ⟨by have := HJ3.out; first | omega | exact Nat.le_refl _⟩, ⟨by repeat (first | (with_reducible first | exact HB.out | apply below_alloc | apply pw_below_drewN | apply below_drew1) | exact HB.out)⟩⟩
        case rest =>
          clear HC14
          try clear c1
          try clear c2
          try clear p2
          try clear c3
          try clear c6
          try clear c6b0
          try clear c6b1
          try clear p6
          try clear c7
          try clear c7b0
          try clear c8
          try clear c8b0
          try clear c9
          try clear c10
          try clear c10b0
          try clear c10b1
          try clear c11
          try clear c11b0
          try clear c11b1
          try clear c13
          try clear c15
          try clear c15b0
          try clear c15b1
          try clear c17
          try clear c17b0
          try clear c17b1
          try clear c18
          try clear c18b0
          try clear c20
          try clear c20b0
          try clear c22
          try clear c22b0
          try clear c22b1
          try clear c23
          try clear c23b0
          try clear c23b1
          try clear c24
          try clear c24b0
          try clear c25
          try clear c25b0
          try clear c25b1
          try clear c30
          try clear c30b0
          try clear c31
          try clear c31b0
          try clear c31b1
          try clear p2
          obtain ⟨kq, x77_13, rfl, HA, HJ13, HB⟩ := hcut
          cases kq with
          | zero => exact absurd HA.out (by simp [regimenlaw07_LerpShares.j1])
          | succ kj13 =>
            have H := HA.out
            clear HA
            simp only [regimenlaw07_LerpShares.j1] at H
            by_cases c36 : x77_13 = true
            · subst c36
              have H1 : (some false) = some r := by rw [if_pos rfl] at H; exact H
              clear H
              have H := H1
              clear H1
              obtain rfl := Option.some.inj H
              go_wp2
              go_ret
              exact ⟨by first | rfl | (simp [errW_none, errW_some] <;> rfl) | (simp [*, errW_none, errW_some] <;> rfl), by repeat (first | (with_reducible first | exact HB.out | apply below_alloc | apply pw_below_drewN | apply below_drew1) | exact HB.out)⟩
            · replace c36 := Bool.eq_false_iff.mpr c36
              subst c36
              have H1 : (if (wrap64 (a0 + 1)) = a1 then ((regimenlaw07_awake.f kj13).bind fun t284 => (some t284)) else ((lerp_Share.f kj13 (wrap64 (a0 + 1)) a1).bind fun bt285 => (if bt285.2 = 0 then (if bt285.1 ≥ t280 then ((regimenlaw07_awake.f kj13).bind fun t287 => (some t287)) else (some false)) else (some false)))) = some r := by rw [if_neg (show ¬ (false = true) by decide)] at H; exact H
              clear H
              have H := H1
              clear H1
              by_cases c37 : (wrap64 (a0 + 1)) = a1
              · rw [if_pos c37] at H
                have c37b0 : ((wrap64 (a0 + 1)) == a1) = true := beq_iff_eq.mpr c37
                have c37b1 : ((wrap64 (a0 + 1)) != a1) = false := bne_eq_false_iff_eq.mpr c37
                clear c37
                replace H := Option.bind_eq_some_iff.mp H
                obtain ⟨t284, A380, H⟩ := H
                replace H : (some t284) = some r := H
                have A38 := Aside0.mk A380
                clear A380
                obtain rfl := Option.some.inj H
                go_wp2_with (first | ((with_reducible refine gate_callee (f := 14) rfl ?_); refine goesL_ (some 82) rfl rfl Try.func14 (by kernel_rfl) rfl #[] rfl (by (try simp only [List.map_toArray, List.map_cons, List.map_nil]); first | done | rfl | (simp only [List.length_drop, List.length_take]; rfl)) ?_; (with_reducible refine (regimenlaw07_awake.calls kj13  t284 _ A38.out).mono ?_); rintro e w39 ⟨rfl, hb⟩; refine ⟨_, rfl, ?_⟩; have n0_ := Aside0.mk (below_step (by repeat (first | (with_reducible first | exact HB.out | apply below_alloc | apply pw_below_drewN | apply below_drew1) | exact HB.out)) hb); clear HB; have HB := n0_; clear n0_; (try clear hb); (try clear hb2); (try clear hk); (try clear hi)))
                go_ret
                exact ⟨by first | rfl | (simp [errW_none, errW_some] <;> rfl) | (simp [*, errW_none, errW_some] <;> rfl), by repeat (first | (with_reducible first | exact HB.out | apply below_alloc | apply pw_below_drewN | apply below_drew1) | exact HB.out)⟩
              · rw [if_neg c37] at H
                have c37b0 : ((wrap64 (a0 + 1)) == a1) = false := beq_eq_false_iff_ne.mpr c37
                have c37b1 : ((wrap64 (a0 + 1)) != a1) = true := bne_iff_ne.mpr c37
                replace H := Option.bind_eq_some_iff.mp H
                obtain ⟨⟨t285, t286⟩, A400, H⟩ := H
                replace H : (if t286 = 0 then (if t285 ≥ t280 then ((regimenlaw07_awake.f kj13).bind fun t287 => (some t287)) else (some false)) else (some false)) = some r := H
                have A40 := Aside0.mk A400
                clear A400
                by_cases c41 : t286 = 0
                · rw [if_pos c41] at H
                  have c41b0 : (t286 == 0) = true := beq_iff_eq.mpr c41
                  have c41b1 : (t286 != 0) = false := bne_eq_false_iff_eq.mpr c41
                  clear c41
                  by_cases c42 : t285 ≥ t280
                  · rw [if_pos c42] at H
                    have c42b0 : decide (t280 ≤ t285) = true := decide_eq_true c42
                    clear c42
                    replace H := Option.bind_eq_some_iff.mp H
                    obtain ⟨t287, A430, H⟩ := H
                    replace H : (some t287) = some r := H
                    have A43 := Aside0.mk A430
                    clear A430
                    obtain rfl := Option.some.inj H
                    go_wp2_with (first | ((with_reducible refine gate_callee (f := 13) rfl ?_); refine goesL_ (some 87) rfl rfl Try.func13 (by kernel_rfl) rfl #[.int .i64 (wrap64 (a0 + 1)), .int .i64 a1] rfl (by (try simp only [List.map_toArray, List.map_cons, List.map_nil]); first | done | rfl | (simp only [List.length_drop, List.length_take]; rfl)) ?_; (with_reducible refine (lerp_Share.calls kj13 (wrap64 (a0 + 1)) a1 t285 t286 _ A40.out).mono ?_); rintro e w44 ⟨rfl, hb⟩; refine ⟨_, rfl, ?_⟩; have n0_ := Aside0.mk (below_step (by repeat (first | (with_reducible first | exact HB.out | apply below_alloc | apply pw_below_drewN | apply below_drew1) | exact HB.out)) hb); clear HB; have HB := n0_; clear n0_; (try clear hb); (try clear hb2); (try clear hk); (try clear hi)) | (go_at_call 14; (with_reducible refine (regimenlaw07_awake.calls kj13  t287 _ A43.out).mono ?_); rintro e w45 ⟨rfl, hb⟩; have n0_ := Aside0.mk (below_step (by repeat (first | (with_reducible first | exact HB.out | apply below_alloc | apply pw_below_drewN | apply below_drew1) | exact HB.out)) hb); clear HB; have HB := n0_; clear n0_; (try clear hb); (try clear hb2); (try clear hk); (try clear hi)))
                    go_ret
                    exact ⟨by first | rfl | (simp [errW_none, errW_some] <;> rfl) | (simp [*, errW_none, errW_some] <;> rfl), by repeat (first | (with_reducible first | exact HB.out | apply below_alloc | apply pw_below_drewN | apply below_drew1) | exact HB.out)⟩
                  · rw [if_neg c42] at H
                    have c42b0 : decide (t280 ≤ t285) = false := decide_eq_false c42
                    clear c42
                    obtain rfl := Option.some.inj H
                    go_wp2_with (first | ((with_reducible refine gate_callee (f := 13) rfl ?_); refine goesL_ (some 87) rfl rfl Try.func13 (by kernel_rfl) rfl #[.int .i64 (wrap64 (a0 + 1)), .int .i64 a1] rfl (by (try simp only [List.map_toArray, List.map_cons, List.map_nil]); first | done | rfl | (simp only [List.length_drop, List.length_take]; rfl)) ?_; (with_reducible refine (lerp_Share.calls kj13 (wrap64 (a0 + 1)) a1 t285 t286 _ A40.out).mono ?_); rintro e w46 ⟨rfl, hb⟩; refine ⟨_, rfl, ?_⟩; have n0_ := Aside0.mk (below_step (by repeat (first | (with_reducible first | exact HB.out | apply below_alloc | apply pw_below_drewN | apply below_drew1) | exact HB.out)) hb); clear HB; have HB := n0_; clear n0_; (try clear hb); (try clear hb2); (try clear hk); (try clear hi)))
                    go_ret
                    exact ⟨by first | rfl | (simp [errW_none, errW_some] <;> rfl) | (simp [*, errW_none, errW_some] <;> rfl), by repeat (first | (with_reducible first | exact HB.out | apply below_alloc | apply pw_below_drewN | apply below_drew1) | exact HB.out)⟩
                · rw [if_neg c41] at H
                  have c41b0 : (t286 == 0) = false := beq_eq_false_iff_ne.mpr c41
                  have c41b1 : (t286 != 0) = true := bne_iff_ne.mpr c41
                  obtain rfl := Option.some.inj H
                  go_wp2_with (first | ((with_reducible refine gate_callee (f := 13) rfl ?_); refine goesL_ (some 87) rfl rfl Try.func13 (by kernel_rfl) rfl #[.int .i64 (wrap64 (a0 + 1)), .int .i64 a1] rfl (by (try simp only [List.map_toArray, List.map_cons, List.map_nil]); first | done | rfl | (simp only [List.length_drop, List.length_take]; rfl)) ?_; (with_reducible refine (lerp_Share.calls kj13 (wrap64 (a0 + 1)) a1 t285 t286 _ A40.out).mono ?_); rintro e w47 ⟨rfl, hb⟩; refine ⟨_, rfl, ?_⟩; have n0_ := Aside0.mk (below_step (by repeat (first | (with_reducible first | exact HB.out | apply below_alloc | apply pw_below_drewN | apply below_drew1) | exact HB.out)) hb); clear HB; have HB := n0_; clear n0_; (try clear hb); (try clear hb2); (try clear hk); (try clear hi)))
                  go_ret
                  exact ⟨by first | rfl | (simp [errW_none, errW_some] <;> rfl) | (simp [*, errW_none, errW_some] <;> rfl), by repeat (first | (with_reducible first | exact HB.out | apply below_alloc | apply pw_below_drewN | apply below_drew1) | exact HB.out)⟩

/-- THE ONE PURE STATEMENT of regimenlaw07_LerpShares: yours. -/
def regimenlaw07_LerpShares.Pure : Prop := ∀ (a0 : Int) (a1 : Int), ((Lit.int .i64 a0).wf = true) → ((Lit.int .i64 a1).wf = true) → ∃ k, regimenlaw07_LerpShares.f k a0 a1 = some true
theorem regimenlaw07_LerpShares.walk (P : regimenlaw07_LerpShares.Pure) (a0 : Int) (a1 : Int) (w : World) (w0 : (Lit.int .i64 a0).wf = true) (w1 : (Lit.int .i64 a1).wf = true) :
    Calls Try.prog 3 #[.int .i64 a0, .int .i64 a1] w fun e w' => e = .returned (.bool true) ∧ Below w.heap.size w w' := by
  obtain ⟨k, h⟩ := P a0 a1 w0 w1
  refine (regimenlaw07_LerpShares.calls k a0 a1 true w h).mono ?_
  rintro e w' ⟨rfl, hd⟩
  exact ⟨rfl, hd⟩

end Go.Proofs.Ytjnpfbdmkakebaa.PA
