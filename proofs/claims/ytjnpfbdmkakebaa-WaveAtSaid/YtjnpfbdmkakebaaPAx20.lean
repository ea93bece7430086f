/- Go functions of this seat as plain Lean functions, each with a proof that its call comes to just what that function says, wherever that function says anything: written by a program of this session. -/
import Derived.Test.YtjnpfbdmkakebaaPAx0
import Derived.Test.YtjnpfbdmkakebaaPAx10
import Derived.Test.YtjnpfbdmkakebaaPAx11
namespace Go.Proofs.Ytjnpfbdmkakebaa.PA
open Go.RowKit Go.Proofs.YtjnpfbdmkakebaaW.PrintWords Go.Proofs.YtjnpfbdmkakebaaW.PrintLast Go.Proofs.YtjnpfbdmkakebaaW.PrintMore
attribute [local go_sem] max2_int min2_int max_two min_two max_three min_three max_four min_four   -- for this text's walks alone
set_option linter.unusedVariables false
set_option linter.unusedSimpArgs false

attribute [local go_sem] idx46_1
/-! ### regimenlaw08_WaveAt: function 11 -/
def regimenlaw08_WaveAt.j0 : Nat → Int → Int → Int → Int → Int → Int → Int → Bool → Option (Bool)
  | 0, _, _, _, _, _, _, _, _ => none
  | k + 1, x0, x3, x4, x5, x6, x7, x8, x29 => if x29 = true then (if x3 = 0 then (if x4 = 1 then (if x5 = 0 then (if x6 = 1 then (if x7 = 0 then (if x8 = 1 then ((regimenlaw08_awake.f k).bind fun t566 => (some t566)) else (some false)) else (some false)) else (some false)) else (some false)) else (some false)) else (some false)) else ((regimenref08_At.f k x0).bind fun t567 => (if x3 = t567 then (if x4 = 0 then ((regimenref08_Cos.f k x0).bind fun t568 => (if x5 = t568 then (if x6 = 0 then ((regimenref08_Sin.f k x0).bind fun t569 => (if x7 = t569 then (if x8 = 0 then ((regimenlaw08_awake.f k).bind fun t570 => (some t570)) else (some false)) else (some false))) else (some false)) else (some false))) else (some false)) else (some false)))
def regimenlaw08_WaveAt.f (k : Nat) (a0 : Int) : Option (Bool) := (wave_At.f k a0).bind fun bt560 => ((wave_Cos.f k a0).bind fun bt562 => ((wave_Sin.f k a0).bind fun bt564 => (if a0 < 0 then (regimenlaw08_WaveAt.j0 k a0 bt560.1 bt560.2 bt562.1 bt562.2 bt564.1 bt564.2 true) else (regimenlaw08_WaveAt.j0 k a0 bt560.1 bt560.2 bt562.1 bt562.2 bt564.1 bt564.2 (decide (a0 > 4294967296))))))
theorem regimenlaw08_WaveAt.mono_l : ∀ k, (∀ y0 y1 y2 y3 y4 y5 y6 y7, LeO (regimenlaw08_WaveAt.j0 k y0 y1 y2 y3 y4 y5 y6 y7) (regimenlaw08_WaveAt.j0 (k + 1) y0 y1 y2 y3 y4 y5 y6 y7))
  | 0 => fun _ _ _ _ _ _ _ _ r h => by simp [regimenlaw08_WaveAt.j0] at h
  | k + 1 => by
    have ih0 := regimenlaw08_WaveAt.mono_l k
    · intro y0 y1 y2 y3 y4 y5 y6 y7
      unfold regimenlaw08_WaveAt.j0
      repeat' first
      | (with_reducible exact ih0 _ _ _ _ _ _ _ _)
      | (with_reducible exact regimenlaw08_awake.mono _)
      | (with_reducible exact regimenref08_At.mono _ _)
      | (with_reducible exact regimenref08_Cos.mono _ _)
      | (with_reducible exact regimenref08_Sin.mono _ _)
      | (with_reducible exact wave_At.mono _ _)
      | (with_reducible exact wave_Cos.mono _ _)
      | (with_reducible exact wave_Sin.mono _ _)
      | (with_reducible exact LeO.refl _)
      | (with_reducible exact LeO.none _)
      | (with_reducible refine LeO.ite ?_ ?_)
      | (with_reducible refine LeO.bind ?_ (fun _ => ?_))
      | exact ih0 _ _ _ _ _ _ _ _
      | exact regimenlaw08_awake.mono _
      | exact regimenref08_At.mono _ _
      | exact regimenref08_Cos.mono _ _
      | exact regimenref08_Sin.mono _ _
      | exact wave_At.mono _ _
      | exact wave_Cos.mono _ _
      | exact wave_Sin.mono _ _
      | exact LeO.none _
      | refine LeO.ite ?_ ?_
      | refine LeO.bind ?_ (fun _ => ?_)
theorem regimenlaw08_WaveAt.mono : ∀ a0 k, LeO (regimenlaw08_WaveAt.f k a0) (regimenlaw08_WaveAt.f (k + 1) a0) := by
  intro a0 k
  have ih0 := regimenlaw08_WaveAt.mono_l k
  unfold regimenlaw08_WaveAt.f
  repeat' first
      | (with_reducible exact ih0 _ _ _ _ _ _ _ _)
      | (with_reducible exact regimenlaw08_awake.mono _)
      | (with_reducible exact regimenref08_At.mono _ _)
      | (with_reducible exact regimenref08_Cos.mono _ _)
      | (with_reducible exact regimenref08_Sin.mono _ _)
      | (with_reducible exact wave_At.mono _ _)
      | (with_reducible exact wave_Cos.mono _ _)
      | (with_reducible exact wave_Sin.mono _ _)
      | (with_reducible exact LeO.refl _)
      | (with_reducible exact LeO.none _)
      | (with_reducible refine LeO.ite ?_ ?_)
      | (with_reducible refine LeO.bind ?_ (fun _ => ?_))
      | exact ih0 _ _ _ _ _ _ _ _
      | exact regimenlaw08_awake.mono _
      | exact regimenref08_At.mono _ _
      | exact regimenref08_Cos.mono _ _
      | exact regimenref08_Sin.mono _ _
      | exact wave_At.mono _ _
      | exact wave_Cos.mono _ _
      | exact wave_Sin.mono _ _
      | exact LeO.none _
      | refine LeO.ite ?_ ?_
      | refine LeO.bind ?_ (fun _ => ?_)
set_option maxHeartbeats 8000000 in
set_option maxRecDepth 100000 in
theorem regimenlaw08_WaveAt.calls (k : Nat) (a0 : Int) (r : Bool) (w : World) (h : regimenlaw08_WaveAt.f k a0 = some r) :
    Calls Try.prog 11 #[.int .i64 a0] w fun e w' => e = .returned (.bool r) ∧ Below w.heap.size w w' := by
  have HB := Aside0.mk (Below.refl w.heap.size w)
  have H : ((wave_At.f k a0).bind fun bt560 => ((wave_Cos.f k a0).bind fun bt562 => ((wave_Sin.f k a0).bind fun bt564 => (if a0 < 0 then (regimenlaw08_WaveAt.j0 k a0 bt560.1 bt560.2 bt562.1 bt562.2 bt564.1 bt564.2 true) else (regimenlaw08_WaveAt.j0 k a0 bt560.1 bt560.2 bt562.1 bt562.2 bt564.1 bt564.2 (decide (a0 > 4294967296))))))) = some r := h
  clear h
  replace H := Option.bind_eq_some_iff.mp H
  obtain ⟨⟨t560, t561⟩, A20, H⟩ := H
  replace H : ((wave_Cos.f k a0).bind fun bt562 => ((wave_Sin.f k a0).bind fun bt564 => (if a0 < 0 then (regimenlaw08_WaveAt.j0 k a0 t560 t561 bt562.1 bt562.2 bt564.1 bt564.2 true) else (regimenlaw08_WaveAt.j0 k a0 t560 t561 bt562.1 bt562.2 bt564.1 bt564.2 (decide (a0 > 4294967296)))))) = some r := H
  have A2 := Aside0.mk A20
  clear A20
  replace H := Option.bind_eq_some_iff.mp H
  obtain ⟨⟨t562, t563⟩, A30, H⟩ := H
  replace H : ((wave_Sin.f k a0).bind fun bt564 => (if a0 < 0 then (regimenlaw08_WaveAt.j0 k a0 t560 t561 t562 t563 bt564.1 bt564.2 true) else (regimenlaw08_WaveAt.j0 k a0 t560 t561 t562 t563 bt564.1 bt564.2 (decide (a0 > 4294967296))))) = some r := H
  have A3 := Aside0.mk A30
  clear A30
  replace H := Option.bind_eq_some_iff.mp H
  obtain ⟨⟨t564, t565⟩, A40, H⟩ := H
  replace H : (if a0 < 0 then (regimenlaw08_WaveAt.j0 k a0 t560 t561 t562 t563 t564 t565 true) else (regimenlaw08_WaveAt.j0 k a0 t560 t561 t562 t563 t564 t565 (decide (a0 > 4294967296)))) = some r := H
  have A4 := Aside0.mk A40
  clear A40
  have HC5 := Aside0.mk H
  clear H
  go_enter Try.func11, Try.ntmps11
  go_upto_region 4 with (first | ((with_reducible refine gate_callee (f := 38) rfl ?_); refine goesL_ (some 11) rfl rfl Try.func38 (by kernel_rfl) rfl #[.int .i64 a0] rfl (by (try simp only [List.map_toArray, List.map_cons, List.map_nil]); first | done | rfl | (simp only [List.length_drop, List.length_take]; rfl)) ?_; (with_reducible refine (wave_At.calls k a0 t560 t561 _ A2.out).mono ?_); rintro e w6 ⟨rfl, hb⟩; refine ⟨_, rfl, ?_⟩; have n0_ := Aside0.mk (below_step (by repeat (first | (with_reducible first | exact HB.out | apply below_alloc | apply pw_below_drewN | apply below_drew1) | exact HB.out)) hb); clear HB; have HB := n0_; clear n0_; (try clear hb); (try clear hb2); (try clear hk); (try clear hi)) | ((with_reducible refine gate_callee (f := 39) rfl ?_); refine goesL_ (some 16) rfl rfl Try.func39 (by kernel_rfl) rfl #[.int .i64 a0] rfl (by (try simp only [List.map_toArray, List.map_cons, List.map_nil]); first | done | rfl | (simp only [List.length_drop, List.length_take]; rfl)) ?_; (with_reducible refine (wave_Cos.calls k a0 t562 t563 _ A3.out).mono ?_); rintro e w7 ⟨rfl, hb⟩; refine ⟨_, rfl, ?_⟩; have n0_ := Aside0.mk (below_step (by repeat (first | (with_reducible first | exact HB.out | apply below_alloc | apply pw_below_drewN | apply below_drew1) | exact HB.out)) hb); clear HB; have HB := n0_; clear n0_; (try clear hb); (try clear hb2); (try clear hk); (try clear hi)) | ((with_reducible refine gate_callee (f := 40) rfl ?_); refine goesL_ (some 21) rfl rfl Try.func40 (by kernel_rfl) rfl #[.int .i64 a0] rfl (by (try simp only [List.map_toArray, List.map_cons, List.map_nil]); first | done | rfl | (simp only [List.length_drop, List.length_take]; rfl)) ?_; (with_reducible refine (wave_Sin.calls k a0 t564 t565 _ A4.out).mono ?_); rintro e w8 ⟨rfl, hb⟩; refine ⟨_, rfl, ?_⟩; have n0_ := Aside0.mk (below_step (by repeat (first | (with_reducible first | exact HB.out | apply below_alloc | apply pw_below_drewN | apply below_drew1) | exact HB.out)) hb); clear HB; have HB := n0_; clear n0_; (try clear hb); (try clear hb2); (try clear hk); (try clear hi)))
  (try simp only [Act.put, List.setIfInBounds_toArray, List.set_cons_zero, List.set_cons_succ])
  go_cut [29] (fun v29 wc => ∃ (kq : Nat) (x29_4 : Bool), v29 = .bool x29_4 ∧ Aside0 (regimenlaw08_WaveAt.j0 kq a0 t560 t561 t562 t563 t564 t565 x29_4 = some r) ∧ Aside0 (kq ≤ k) ∧ Aside0 (Below w.heap.size w wc))
  case first =>
    have H := HC5.out
    clear HC5
    by_cases c9 : a0 < 0
    · rw [if_pos c9] at H
      have c9b0 : decide (a0 < 0) = true := decide_eq_true c9
      clear c9
      (first | rw [c9b0] | rw [c9b1] | (simp only [i64_w, i32_w]; rw [c9b0]) | skip)
      have H' := Aside0.mk H
      clear H
      go_wp2
      go_meet
      case rel => exact ⟨_, (true), (by first | rfl | (simp; done) | (simp [*]; done)), H', ⟨by first | omega | exact Nat.le_refl _⟩, ⟨by repeat (first | (with_reducible first | exact HB.out | apply below_alloc | apply pw_below_drewN | apply below_drew1) | exact HB.out)⟩⟩
    · rw [if_neg c9] at H
      have c9b0 : decide (a0 < 0) = false := decide_eq_false c9
      clear c9
      (first | rw [c9b0] | rw [c9b1] | (simp only [i64_w, i32_w]; rw [c9b0]) | skip)
      have H' := Aside0.mk H
      clear H
      go_wp2
      go_meet
      case rel => exact ⟨_, (decide (a0 > 4294967296)), (by first | rfl | (simp; done) | (simp [*]; done)), H', ⟨by first | omega | exact Nat.le_refl _⟩, ⟨by repeat (first | (with_reducible first | exact HB.out | apply below_alloc | apply pw_below_drewN | apply below_drew1) | exact HB.out)⟩⟩
  case rest =>
    clear HC5
    try clear c1
    try clear p2
    try clear c3
    try clear c4
    try clear c9
    try clear c9b0
    try clear c9b1
    obtain ⟨kq, x29_4, rfl, HA, HJ4, HB⟩ := hcut
    cases kq with
    | zero => exact absurd HA.out (by simp [regimenlaw08_WaveAt.j0])
    | succ kj4 =>
      have H := HA.out
      clear HA
      simp only [regimenlaw08_WaveAt.j0] at H
      by_cases c10 : x29_4 = true
      · subst c10
        have H1 : (if t560 = 0 then (if t561 = 1 then (if t562 = 0 then (if t563 = 1 then (if t564 = 0 then (if t565 = 1 then ((regimenlaw08_awake.f kj4).bind fun t566 => (some t566)) else (some false)) else (some false)) else (some false)) else (some false)) else (some false)) else (some false)) = some r := by rw [if_pos rfl] at H; exact H
        clear H
        have H := H1
        clear H1
        by_cases c11 : t560 = 0
        · rw [if_pos c11] at H
          have c11b0 : (t560 == 0) = true := beq_iff_eq.mpr c11
          have c11b1 : (t560 != 0) = false := bne_eq_false_iff_eq.mpr c11
          clear c11
          by_cases c12 : t561 = 1
          · rw [if_pos c12] at H
            have c12b0 : (t561 == 1) = true := beq_iff_eq.mpr c12
            have c12b1 : (t561 != 1) = false := bne_eq_false_iff_eq.mpr c12
            clear c12
            by_cases c13 : t562 = 0
            · rw [if_pos c13] at H
              have c13b0 : (t562 == 0) = true := beq_iff_eq.mpr c13
              have c13b1 : (t562 != 0) = false := bne_eq_false_iff_eq.mpr c13
              clear c13
              by_cases c14 : t563 = 1
              · rw [if_pos c14] at H
                have c14b0 : (t563 == 1) = true := beq_iff_eq.mpr c14
                have c14b1 : (t563 != 1) = false := bne_eq_false_iff_eq.mpr c14
                clear c14
                by_cases c15 : t564 = 0
                · rw [if_pos c15] at H
                  have c15b0 : (t564 == 0) = true := beq_iff_eq.mpr c15
                  have c15b1 : (t564 != 0) = false := bne_eq_false_iff_eq.mpr c15
                  clear c15
                  by_cases c16 : t565 = 1
                  · rw [if_pos c16] at H
                    have c16b0 : (t565 == 1) = true := beq_iff_eq.mpr c16
                    have c16b1 : (t565 != 1) = false := bne_eq_false_iff_eq.mpr c16
                    clear c16
                    replace H := Option.bind_eq_some_iff.mp H
                    obtain ⟨t566, A170, H⟩ := H
                    replace H : (some t566) = some r := H
                    have A17 := Aside0.mk A170
                    clear A170
                    obtain rfl := Option.some.inj H
                    go_wp2_with (first | (go_at_call 41; (with_reducible refine (regimenlaw08_awake.calls kj4  t566 _ A17.out).mono ?_); rintro e w18 ⟨rfl, hb⟩; have n0_ := Aside0.mk (below_step (by repeat (first | (with_reducible first | exact HB.out | apply below_alloc | apply pw_below_drewN | apply below_drew1) | exact HB.out)) hb); clear HB; have HB := n0_; clear n0_; (try clear hb); (try clear hb2); (try clear hk); (try clear hi)))
                    go_ret
                    exact ⟨by first | rfl | (simp [errW_none, errW_some] <;> rfl) | (simp [*, errW_none, errW_some] <;> rfl), by repeat (first | (with_reducible first | exact HB.out | apply below_alloc | apply pw_below_drewN | apply below_drew1) | exact HB.out)⟩
                  · rw [if_neg c16] at H
                    have c16b0 : (t565 == 1) = false := beq_eq_false_iff_ne.mpr c16
                    have c16b1 : (t565 != 1) = true := bne_iff_ne.mpr c16
                    obtain rfl := Option.some.inj H
                    go_wp2
                    go_ret
                    exact ⟨by first | rfl | (simp [errW_none, errW_some] <;> rfl) | (simp [*, errW_none, errW_some] <;> rfl), by repeat (first | (with_reducible first | exact HB.out | apply below_alloc | apply pw_below_drewN | apply below_drew1) | exact HB.out)⟩
                · rw [if_neg c15] at H
                  have c15b0 : (t564 == 0) = false := beq_eq_false_iff_ne.mpr c15
                  have c15b1 : (t564 != 0) = true := bne_iff_ne.mpr c15
                  obtain rfl := Option.some.inj H
                  go_wp2
                  go_ret
                  exact ⟨by first | rfl | (simp [errW_none, errW_some] <;> rfl) | (simp [*, errW_none, errW_some] <;> rfl), by repeat (first | (with_reducible first | exact HB.out | apply below_alloc | apply pw_below_drewN | apply below_drew1) | exact HB.out)⟩
              · rw [if_neg c14] at H
                have c14b0 : (t563 == 1) = false := beq_eq_false_iff_ne.mpr c14
                have c14b1 : (t563 != 1) = true := bne_iff_ne.mpr c14
                obtain rfl := Option.some.inj H
                go_wp2
                go_ret
                exact ⟨by first | rfl | (simp [errW_none, errW_some] <;> rfl) | (simp [*, errW_none, errW_some] <;> rfl), by repeat (first | (with_reducible first | exact HB.out | apply below_alloc | apply pw_below_drewN | apply below_drew1) | exact HB.out)⟩
            · rw [if_neg c13] at H
              have c13b0 : (t562 == 0) = false := beq_eq_false_iff_ne.mpr c13
              have c13b1 : (t562 != 0) = true := bne_iff_ne.mpr c13
              obtain rfl := Option.some.inj H
              go_wp2
              go_ret
              exact ⟨by first | rfl | (simp [errW_none, errW_some] <;> rfl) | (simp [*, errW_none, errW_some] <;> rfl), by repeat (first | (with_reducible first | exact HB.out | apply below_alloc | apply pw_below_drewN | apply below_drew1) | exact HB.out)⟩
          · rw [if_neg c12] at H
            have c12b0 : (t561 == 1) = false := beq_eq_false_iff_ne.mpr c12
            have c12b1 : (t561 != 1) = true := bne_iff_ne.mpr c12
            obtain rfl := Option.some.inj H
            go_wp2
            go_ret
            exact ⟨by first | rfl | (simp [errW_none, errW_some] <;> rfl) | (simp [*, errW_none, errW_some] <;> rfl), by repeat (first | (with_reducible first | exact HB.out | apply below_alloc | apply pw_below_drewN | apply below_drew1) | exact HB.out)⟩
        · rw [if_neg c11] at H
          have c11b0 : (t560 == 0) = false := beq_eq_false_iff_ne.mpr c11
          have c11b1 : (t560 != 0) = true := bne_iff_ne.mpr c11
          obtain rfl := Option.some.inj H
          go_wp2
          go_ret
          exact ⟨by first | rfl | (simp [errW_none, errW_some] <;> rfl) | (simp [*, errW_none, errW_some] <;> rfl), by repeat (first | (with_reducible first | exact HB.out | apply below_alloc | apply pw_below_drewN | apply below_drew1) | exact HB.out)⟩
      · replace c10 := Bool.eq_false_iff.mpr c10
        subst c10
        have H1 : ((regimenref08_At.f kj4 a0).bind fun t567 => (if t560 = t567 then (if t561 = 0 then ((regimenref08_Cos.f kj4 a0).bind fun t568 => (if t562 = t568 then (if t563 = 0 then ((regimenref08_Sin.f kj4 a0).bind fun t569 => (if t564 = t569 then (if t565 = 0 then ((regimenlaw08_awake.f kj4).bind fun t570 => (some t570)) else (some false)) else (some false))) else (some false)) else (some false))) else (some false)) else (some false))) = some r := by rw [if_neg (show ¬ (false = true) by decide)] at H; exact H
        clear H
        have H := H1
        clear H1
        replace H := Option.bind_eq_some_iff.mp H
        obtain ⟨t567, A190, H⟩ := H
        replace H : (if t560 = t567 then (if t561 = 0 then ((regimenref08_Cos.f kj4 a0).bind fun t568 => (if t562 = t568 then (if t563 = 0 then ((regimenref08_Sin.f kj4 a0).bind fun t569 => (if t564 = t569 then (if t565 = 0 then ((regimenlaw08_awake.f kj4).bind fun t570 => (some t570)) else (some false)) else (some false))) else (some false)) else (some false))) else (some false)) else (some false)) = some r := H
        have A19 := Aside0.mk A190
        clear A190
        by_cases c20 : t560 = t567
        · rw [if_pos c20] at H
          have c20b0 : (t560 == t567) = true := beq_iff_eq.mpr c20
          have c20b1 : (t560 != t567) = false := bne_eq_false_iff_eq.mpr c20
          clear c20
          by_cases c21 : t561 = 0
          · rw [if_pos c21] at H
            have c21b0 : (t561 == 0) = true := beq_iff_eq.mpr c21
            have c21b1 : (t561 != 0) = false := bne_eq_false_iff_eq.mpr c21
            clear c21
            replace H := Option.bind_eq_some_iff.mp H
            obtain ⟨t568, A220, H⟩ := H
            replace H : (if t562 = t568 then (if t563 = 0 then ((regimenref08_Sin.f kj4 a0).bind fun t569 => (if t564 = t569 then (if t565 = 0 then ((regimenlaw08_awake.f kj4).bind fun t570 => (some t570)) else (some false)) else (some false))) else (some false)) else (some false)) = some r := H
            have A22 := Aside0.mk A220
            clear A220
            by_cases c23 : t562 = t568
            · rw [if_pos c23] at H
              have c23b0 : (t562 == t568) = true := beq_iff_eq.mpr c23
              have c23b1 : (t562 != t568) = false := bne_eq_false_iff_eq.mpr c23
              clear c23
              by_cases c24 : t563 = 0
              · rw [if_pos c24] at H
                have c24b0 : (t563 == 0) = true := beq_iff_eq.mpr c24
                have c24b1 : (t563 != 0) = false := bne_eq_false_iff_eq.mpr c24
                clear c24
                replace H := Option.bind_eq_some_iff.mp H
                obtain ⟨t569, A250, H⟩ := H
                replace H : (if t564 = t569 then (if t565 = 0 then ((regimenlaw08_awake.f kj4).bind fun t570 => (some t570)) else (some false)) else (some false)) = some r := H
                have A25 := Aside0.mk A250
                clear A250
                by_cases c26 : t564 = t569
                · rw [if_pos c26] at H
                  have c26b0 : (t564 == t569) = true := beq_iff_eq.mpr c26
                  have c26b1 : (t564 != t569) = false := bne_eq_false_iff_eq.mpr c26
                  clear c26
                  by_cases c27 : t565 = 0
                  · rw [if_pos c27] at H
                    have c27b0 : (t565 == 0) = true := beq_iff_eq.mpr c27
                    have c27b1 : (t565 != 0) = false := bne_eq_false_iff_eq.mpr c27
                    clear c27
                    replace H := Option.bind_eq_some_iff.mp H
                    obtain ⟨t570, A280, H⟩ := H
                    replace H : (some t570) = some r := H
                    have A28 := Aside0.mk A280
                    clear A280
                    obtain rfl := Option.some.inj H
                    go_wp2_with (first | ((with_reducible refine gate_callee (f := 42) rfl ?_); refine goesL_ (some 57) rfl rfl Try.func42 (by kernel_rfl) rfl #[.int .i64 a0] rfl (by (try simp only [List.map_toArray, List.map_cons, List.map_nil]); first | done | rfl | (simp only [List.length_drop, List.length_take]; rfl)) ?_; (with_reducible refine (regimenref08_At.calls kj4 a0 t567 _ A19.out).mono ?_); rintro e w29 ⟨rfl, hb⟩; refine ⟨_, rfl, ?_⟩; have n0_ := Aside0.mk (below_step (by repeat (first | (with_reducible first | exact HB.out | apply below_alloc | apply pw_below_drewN | apply below_drew1) | exact HB.out)) hb); clear HB; have HB := n0_; clear n0_; (try clear hb); (try clear hb2); (try clear hk); (try clear hi)) | (go_at_call 43; (with_reducible refine (regimenref08_Cos.calls kj4 a0 t568 _ A22.out).mono ?_); rintro e w30 ⟨rfl, hb⟩; have n0_ := Aside0.mk (below_step (by repeat (first | (with_reducible first | exact HB.out | apply below_alloc | apply pw_below_drewN | apply below_drew1) | exact HB.out)) hb); clear HB; have HB := n0_; clear n0_; (try clear hb); (try clear hb2); (try clear hk); (try clear hi)) | (go_at_call 44; (with_reducible refine (regimenref08_Sin.calls kj4 a0 t569 _ A25.out).mono ?_); rintro e w31 ⟨rfl, hb⟩; have n0_ := Aside0.mk (below_step (by repeat (first | (with_reducible first | exact HB.out | apply below_alloc | apply pw_below_drewN | apply below_drew1) | exact HB.out)) hb); clear HB; have HB := n0_; clear n0_; (try clear hb); (try clear hb2); (try clear hk); (try clear hi)) | (go_at_call 41; (with_reducible refine (regimenlaw08_awake.calls kj4  t570 _ A28.out).mono ?_); rintro e w32 ⟨rfl, hb⟩; have n0_ := Aside0.mk (below_step (by repeat (first | (with_reducible first | exact HB.out | apply below_alloc | apply pw_below_drewN | apply below_drew1) | exact HB.out)) hb); clear HB; have HB := n0_; clear n0_; (try clear hb); (try clear hb2); (try clear hk); (try clear hi)))
                    go_ret
                    exact ⟨by first | rfl | (simp [errW_none, errW_some] <;> rfl) | (simp [*, errW_none, errW_some] <;> rfl), by repeat (first | (with_reducible first | exact HB.out | apply below_alloc | apply pw_below_drewN | apply below_drew1) | exact HB.out)⟩
                  · rw [if_neg c27] at H
                    have c27b0 : (t565 == 0) = false := beq_eq_false_iff_ne.mpr c27
                    have c27b1 : (t565 != 0) = true := bne_iff_ne.mpr c27
                    obtain rfl := Option.some.inj H
                    go_wp2_with (first | ((with_reducible refine gate_callee (f := 42) rfl ?_); refine goesL_ (some 57) rfl rfl Try.func42 (by kernel_rfl) rfl #[.int .i64 a0] rfl (by (try simp only [List.map_toArray, List.map_cons, List.map_nil]); first | done | rfl | (simp only [List.length_drop, List.length_take]; rfl)) ?_; (with_reducible refine (regimenref08_At.calls kj4 a0 t567 _ A19.out).mono ?_); rintro e w33 ⟨rfl, hb⟩; refine ⟨_, rfl, ?_⟩; have n0_ := Aside0.mk (below_step (by repeat (first | (with_reducible first | exact HB.out | apply below_alloc | apply pw_below_drewN | apply below_drew1) | exact HB.out)) hb); clear HB; have HB := n0_; clear n0_; (try clear hb); (try clear hb2); (try clear hk); (try clear hi)) | (go_at_call 43; (with_reducible refine (regimenref08_Cos.calls kj4 a0 t568 _ A22.out).mono ?_); rintro e w34 ⟨rfl, hb⟩; have n0_ := Aside0.mk (below_step (by repeat (first | (with_reducible first | exact HB.out | apply below_alloc | apply pw_below_drewN | apply below_drew1) | exact HB.out)) hb); clear HB; have HB := n0_; clear n0_; (try clear hb); (try clear hb2); (try clear hk); (try clear hi)) | (go_at_call 44; (with_reducible refine (regimenref08_Sin.calls kj4 a0 t569 _ A25.out).mono ?_); rintro e w35 ⟨rfl, hb⟩; have n0_ := Aside0.mk (below_step (by repeat (first | (with_reducible first | exact HB.out | apply below_alloc | apply pw_below_drewN | apply below_drew1) | exact HB.out)) hb); clear HB; have HB := n0_; clear n0_; (try clear hb); (try clear hb2); (try clear hk); (try clear hi)))
                    go_ret
                    exact ⟨by first | rfl | (simp [errW_none, errW_some] <;> rfl) | (simp [*, errW_none, errW_some] <;> rfl), by repeat (first | (with_reducible first | exact HB.out | apply below_alloc | apply pw_below_drewN | apply below_drew1) | exact HB.out)⟩
                · rw [if_neg c26] at H
                  have c26b0 : (t564 == t569) = false := beq_eq_false_iff_ne.mpr c26
                  have c26b1 : (t564 != t569) = true := bne_iff_ne.mpr c26
                  obtain rfl := Option.some.inj H
                  go_wp2_with (first | ((with_reducible refine gate_callee (f := 42) rfl ?_); refine goesL_ (some 57) rfl rfl Try.func42 (by kernel_rfl) rfl #[.int .i64 a0] rfl (by (try simp only [List.map_toArray, List.map_cons, List.map_nil]); first | done | rfl | (simp only [List.length_drop, List.length_take]; rfl)) ?_; (with_reducible refine (regimenref08_At.calls kj4 a0 t567 _ A19.out).mono ?_); rintro e w36 ⟨rfl, hb⟩; refine ⟨_, rfl, ?_⟩; have n0_ := Aside0.mk (below_step (by repeat (first | (with_reducible first | exact HB.out | apply below_alloc | apply pw_below_drewN | apply below_drew1) | exact HB.out)) hb); clear HB; have HB := n0_; clear n0_; (try clear hb); (try clear hb2); (try clear hk); (try clear hi)) | (go_at_call 43; (with_reducible refine (regimenref08_Cos.calls kj4 a0 t568 _ A22.out).mono ?_); rintro e w37 ⟨rfl, hb⟩; have n0_ := Aside0.mk (below_step (by repeat (first | (with_reducible first | exact HB.out | apply below_alloc | apply pw_below_drewN | apply below_drew1) | exact HB.out)) hb); clear HB; have HB := n0_; clear n0_; (try clear hb); (try clear hb2); (try clear hk); (try clear hi)) | (go_at_call 44; (with_reducible refine (regimenref08_Sin.calls kj4 a0 t569 _ A25.out).mono ?_); rintro e w38 ⟨rfl, hb⟩; have n0_ := Aside0.mk (below_step (by repeat (first | (with_reducible first | exact HB.out | apply below_alloc | apply pw_below_drewN | apply below_drew1) | exact HB.out)) hb); clear HB; have HB := n0_; clear n0_; (try clear hb); (try clear hb2); (try clear hk); (try clear hi)))
                  go_ret
                  exact ⟨by first | rfl | (simp [errW_none, errW_some] <;> rfl) | (simp [*, errW_none, errW_some] <;> rfl), by repeat (first | (with_reducible first | exact HB.out | apply below_alloc | apply pw_below_drewN | apply below_drew1) | exact HB.out)⟩
              · rw [if_neg c24] at H
                have c24b0 : (t563 == 0) = false := beq_eq_false_iff_ne.mpr c24
                have c24b1 : (t563 != 0) = true := bne_iff_ne.mpr c24
                obtain rfl := Option.some.inj H
                go_wp2_with (first | ((with_reducible refine gate_callee (f := 42) rfl ?_); refine goesL_ (some 57) rfl rfl Try.func42 (by kernel_rfl) rfl #[.int .i64 a0] rfl (by (try simp only [List.map_toArray, List.map_cons, List.map_nil]); first | done | rfl | (simp only [List.length_drop, List.length_take]; rfl)) ?_; (with_reducible refine (regimenref08_At.calls kj4 a0 t567 _ A19.out).mono ?_); rintro e w39 ⟨rfl, hb⟩; refine ⟨_, rfl, ?_⟩; have n0_ := Aside0.mk (below_step (by repeat (first | (with_reducible first | exact HB.out | apply below_alloc | apply pw_below_drewN | apply below_drew1) | exact HB.out)) hb); clear HB; have HB := n0_; clear n0_; (try clear hb); (try clear hb2); (try clear hk); (try clear hi)) | (go_at_call 43; (with_reducible refine (regimenref08_Cos.calls kj4 a0 t568 _ A22.out).mono ?_); rintro e w40 ⟨rfl, hb⟩; have n0_ := Aside0.mk (below_step (by repeat (first | (with_reducible first | exact HB.out | apply below_alloc | apply pw_below_drewN | apply below_drew1) | exact HB.out)) hb); clear HB; have HB := n0_; clear n0_; (try clear hb); (try clear hb2); (try clear hk); (try clear hi)))
                go_ret
                exact ⟨by first | rfl | (simp [errW_none, errW_some] <;> rfl) | (simp [*, errW_none, errW_some] <;> rfl), by repeat (first | (with_reducible first | exact HB.out | apply below_alloc | apply pw_below_drewN | apply below_drew1) | exact HB.out)⟩
            · rw [if_neg c23] at H
              have c23b0 : (t562 == t568) = false := beq_eq_false_iff_ne.mpr c23
              have c23b1 : (t562 != t568) = true := bne_iff_ne.mpr c23
              obtain rfl := Option.some.inj H
              go_wp2_with (first | ((with_reducible refine gate_callee (f := 42) rfl ?_); refine goesL_ (some 57) rfl rfl Try.func42 (by kernel_rfl) rfl #[.int .i64 a0] rfl (by (try simp only [List.map_toArray, List.map_cons, List.map_nil]); first | done | rfl | (simp only [List.length_drop, List.length_take]; rfl)) ?_; (with_reducible refine (regimenref08_At.calls kj4 a0 t567 _ A19.out).mono ?_); rintro e w41 ⟨rfl, hb⟩; refine ⟨_, rfl, ?_⟩; have n0_ := Aside0.mk (below_step (by repeat (first | (with_reducible first | exact HB.out | apply below_alloc | apply pw_below_drewN | apply below_drew1) | exact HB.out)) hb); clear HB; have HB := n0_; clear n0_; (try clear hb); (try clear hb2); (try clear hk); (try clear hi)) | (go_at_call 43; (with_reducible refine (regimenref08_Cos.calls kj4 a0 t568 _ A22.out).mono ?_); rintro e w42 ⟨rfl, hb⟩; have n0_ := Aside0.mk (below_step (by repeat (first | (with_reducible first | exact HB.out | apply below_alloc | apply pw_below_drewN | apply below_drew1) | exact HB.out)) hb); clear HB; have HB := n0_; clear n0_; (try clear hb); (try clear hb2); (try clear hk); (try clear hi)))
              go_ret
              exact ⟨by first | rfl | (simp [errW_none, errW_some] <;> rfl) | (simp [*, errW_none, errW_some] <;> rfl), by repeat (first | (with_reducible first | exact HB.out | apply below_alloc | apply pw_below_drewN | apply below_drew1) | exact HB.out)⟩
          · rw [if_neg c21] at H
            have c21b0 : (t561 == 0) = false := beq_eq_false_iff_ne.mpr c21
            have c21b1 : (t561 != 0) = true := bne_iff_ne.mpr c21
            obtain rfl := Option.some.inj H
            go_wp2_with (first | ((with_reducible refine gate_callee (f := 42) rfl ?_); refine goesL_ (some 57) rfl rfl Try.func42 (by kernel_rfl) rfl #[.int .i64 a0] rfl (by (try simp only [List.map_toArray, List.map_cons, List.map_nil]); first | done | rfl | (simp only [List.length_drop, List.length_take]; rfl)) ?_; (with_reducible refine (regimenref08_At.calls kj4 a0 t567 _ A19.out).mono ?_); rintro e w43 ⟨rfl, hb⟩; refine ⟨_, rfl, ?_⟩; have n0_ := Aside0.mk (below_step (by repeat (first | (with_reducible first | exact HB.out | apply below_alloc | apply pw_below_drewN | apply below_drew1) | exact HB.out)) hb); clear HB; have HB := n0_; clear n0_; (try clear hb); (try clear hb2); (try clear hk); (try clear hi)))
            go_ret
            exact ⟨by first | rfl | (simp [errW_none, errW_some] <;> rfl) | (simp [*, errW_none, errW_some] <;> rfl), by repeat (first | (with_reducible first | exact HB.out | apply below_alloc | apply pw_below_drewN | apply below_drew1) | exact HB.out)⟩
        · rw [if_neg c20] at H
          have c20b0 : (t560 == t567) = false := beq_eq_false_iff_ne.mpr c20
          have c20b1 : (t560 != t567) = true := bne_iff_ne.mpr c20
          obtain rfl := Option.some.inj H
          go_wp2_with (first | ((with_reducible refine gate_callee (f := 42) rfl ?_); refine goesL_ (some 57) rfl rfl Try.func42 (by kernel_rfl) rfl #[.int .i64 a0] rfl (by (try simp only [List.map_toArray, List.map_cons, List.map_nil]); first | done | rfl | (simp only [List.length_drop, List.length_take]; rfl)) ?_; (with_reducible refine (regimenref08_At.calls kj4 a0 t567 _ A19.out).mono ?_); rintro e w44 ⟨rfl, hb⟩; refine ⟨_, rfl, ?_⟩; have n0_ := Aside0.mk (below_step (by repeat (first | (with_reducible first | exact HB.out | apply below_alloc | apply pw_below_drewN | apply below_drew1) | exact HB.out)) hb); clear HB; have HB := n0_; clear n0_; (try clear hb); (try clear hb2); (try clear hk); (try clear hi)))
          go_ret
          exact ⟨by first | rfl | (simp [errW_none, errW_some] <;> rfl) | (simp [*, errW_none, errW_some] <;> rfl), by repeat (first | (with_reducible first | exact HB.out | apply below_alloc | apply pw_below_drewN | apply below_drew1) | exact HB.out)⟩

/-- THE ONE PURE STATEMENT of regimenlaw08_WaveAt: yours. -/
def regimenlaw08_WaveAt.Pure : Prop := ∀ (a0 : Int), ((Lit.int .i64 a0).wf = true) → ∃ k, regimenlaw08_WaveAt.f k a0 = some true
theorem regimenlaw08_WaveAt.walk (P : regimenlaw08_WaveAt.Pure) (a0 : Int) (w : World) (w0 : (Lit.int .i64 a0).wf = true) :
    Calls Try.prog 11 #[.int .i64 a0] w fun e w' => e = .returned (.bool true) ∧ Below w.heap.size w w' := by
  obtain ⟨k, h⟩ := P a0 w0
  refine (regimenlaw08_WaveAt.calls k a0 true w h).mono ?_
  rintro e w' ⟨rfl, hd⟩
  exact ⟨rfl, hd⟩

end Go.Proofs.Ytjnpfbdmkakebaa.PA
