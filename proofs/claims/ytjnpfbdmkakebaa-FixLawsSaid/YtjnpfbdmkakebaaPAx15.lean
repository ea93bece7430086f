/- Go functions of this seat as plain Lean functions, each with a proof that its call comes to just what that function says, wherever that function says anything: written by a program of this session. -/
import Derived.Test.YtjnpfbdmkakebaaPAx0
import Derived.Test.YtjnpfbdmkakebaaPAx7
import Derived.Test.YtjnpfbdmkakebaaPAx8
namespace Go.Proofs.Ytjnpfbdmkakebaa.PA
open Go.RowKit Go.Proofs.YtjnpfbdmkakebaaW.PrintWords Go.Proofs.YtjnpfbdmkakebaaW.PrintLast Go.Proofs.YtjnpfbdmkakebaaW.PrintMore
attribute [local go_sem] max2_int min2_int max_two min_two max_three min_three max_four min_four   -- for this text's walks alone
set_option linter.unusedVariables false
set_option linter.unusedSimpArgs false

attribute [local go_sem] idx46_1
/-! ### regimenlaw04_FixLaws: function 7 -/
mutual
def regimenlaw04_FixLaws.j0 : Nat → Int → Int → Int → Int → Int → Bool → Option (Bool)
  | 0, _, _, _, _, _, _ => none
  | k + 1, x0, x1, x2, x7, x8, x48 => if x48 = true then (some false) else ((fix_Mul.f k x1 x2).bind fun bt423 => (if x8 = 0 then (if bt423.2 = 0 then (if x0 ≤ x1 then (if x2 ≥ 0 then (regimenlaw04_FixLaws.j1 k x0 x2 x7 x8 (decide (x7 > bt423.1))) else (regimenlaw04_FixLaws.j1 k x0 x2 x7 x8 false)) else (regimenlaw04_FixLaws.j1 k x0 x2 x7 x8 false)) else (regimenlaw04_FixLaws.j1 k x0 x2 x7 x8 false)) else (regimenlaw04_FixLaws.j1 k x0 x2 x7 x8 false)))
def regimenlaw04_FixLaws.j1 : Nat → Int → Int → Int → Int → Bool → Option (Bool)
  | 0, _, _, _, _, _ => none
  | k + 1, x0, x2, x7, x8, x74 => if x74 = true then (some false) else (if x2 ≥ 0 then (if x2 ≤ 4294967296 then (if x8 = 0 then ((fix_Size.f x7).bind fun t425 => ((fix_Size.f x0).bind fun t426 => (if t425 > t426 then (some false) else ((regimenlaw04_awake.f k).bind fun t427 => (some t427))))) else (some false)) else ((regimenlaw04_awake.f k).bind fun t428 => (some t428))) else ((regimenlaw04_awake.f k).bind fun t429 => (some t429)))
end
def regimenlaw04_FixLaws.f (k : Nat) (a0 : Int) (a1 : Int) (a2 : Int) : Option (Bool) := (fix_Mul.f k a0 a2).bind fun bt417 => ((fix_Mul.f k a2 a0).bind fun bt419 => ((fix_Mul.f k a0 4294967296).bind fun bt421 => (if bt417.1 = bt419.1 then (if bt417.2 = bt419.2 then (if bt421.1 = a0 then (regimenlaw04_FixLaws.j0 k a0 a1 a2 bt417.1 bt417.2 (bt421.2 != 0)) else (regimenlaw04_FixLaws.j0 k a0 a1 a2 bt417.1 bt417.2 true)) else (regimenlaw04_FixLaws.j0 k a0 a1 a2 bt417.1 bt417.2 true)) else (regimenlaw04_FixLaws.j0 k a0 a1 a2 bt417.1 bt417.2 true))))
theorem regimenlaw04_FixLaws.mono_l : ∀ k, (∀ y0 y1 y2 y3 y4 y5, LeO (regimenlaw04_FixLaws.j0 k y0 y1 y2 y3 y4 y5) (regimenlaw04_FixLaws.j0 (k + 1) y0 y1 y2 y3 y4 y5)) ∧ (∀ y0 y1 y2 y3 y4, LeO (regimenlaw04_FixLaws.j1 k y0 y1 y2 y3 y4) (regimenlaw04_FixLaws.j1 (k + 1) y0 y1 y2 y3 y4))
  | 0 => ⟨fun _ _ _ _ _ _ r h => by simp [regimenlaw04_FixLaws.j0] at h, fun _ _ _ _ _ r h => by simp [regimenlaw04_FixLaws.j1] at h⟩
  | k + 1 => by
    obtain ⟨ih0, ih1⟩ := regimenlaw04_FixLaws.mono_l k
    refine ⟨?_, ?_⟩
    · intro y0 y1 y2 y3 y4 y5
      unfold regimenlaw04_FixLaws.j0
      repeat' first
      | (with_reducible exact ih0 _ _ _ _ _ _)
      | (with_reducible exact ih1 _ _ _ _ _)
      | (with_reducible exact fix_Mul.mono _ _ _)
      | (with_reducible exact regimenlaw04_awake.mono _)
      | (with_reducible exact LeO.refl _)
      | (with_reducible exact LeO.none _)
      | (with_reducible refine LeO.ite ?_ ?_)
      | (with_reducible refine LeO.bind ?_ (fun _ => ?_))
      | exact ih0 _ _ _ _ _ _
      | exact ih1 _ _ _ _ _
      | exact fix_Mul.mono _ _ _
      | exact regimenlaw04_awake.mono _
      | exact LeO.none _
      | refine LeO.ite ?_ ?_
      | refine LeO.bind ?_ (fun _ => ?_)
    · intro y0 y1 y2 y3 y4
      unfold regimenlaw04_FixLaws.j1
      repeat' first
      | (with_reducible exact ih0 _ _ _ _ _ _)
      | (with_reducible exact ih1 _ _ _ _ _)
      | (with_reducible exact fix_Mul.mono _ _ _)
      | (with_reducible exact regimenlaw04_awake.mono _)
      | (with_reducible exact LeO.refl _)
      | (with_reducible exact LeO.none _)
      | (with_reducible refine LeO.ite ?_ ?_)
      | (with_reducible refine LeO.bind ?_ (fun _ => ?_))
      | exact ih0 _ _ _ _ _ _
      | exact ih1 _ _ _ _ _
      | exact fix_Mul.mono _ _ _
      | exact regimenlaw04_awake.mono _
      | exact LeO.none _
      | refine LeO.ite ?_ ?_
      | refine LeO.bind ?_ (fun _ => ?_)
theorem regimenlaw04_FixLaws.mono : ∀ a0 a1 a2 k, LeO (regimenlaw04_FixLaws.f k a0 a1 a2) (regimenlaw04_FixLaws.f (k + 1) a0 a1 a2) := by
  intro a0 a1 a2 k
  obtain ⟨ih0, ih1⟩ := regimenlaw04_FixLaws.mono_l k
  unfold regimenlaw04_FixLaws.f
  repeat' first
      | (with_reducible exact ih0 _ _ _ _ _ _)
      | (with_reducible exact ih1 _ _ _ _ _)
      | (with_reducible exact fix_Mul.mono _ _ _)
      | (with_reducible exact regimenlaw04_awake.mono _)
      | (with_reducible exact LeO.refl _)
      | (with_reducible exact LeO.none _)
      | (with_reducible refine LeO.ite ?_ ?_)
      | (with_reducible refine LeO.bind ?_ (fun _ => ?_))
      | exact ih0 _ _ _ _ _ _
      | exact ih1 _ _ _ _ _
      | exact fix_Mul.mono _ _ _
      | exact regimenlaw04_awake.mono _
      | exact LeO.none _
      | refine LeO.ite ?_ ?_
      | refine LeO.bind ?_ (fun _ => ?_)
set_option maxHeartbeats 8000000 in
set_option maxRecDepth 100000 in
theorem regimenlaw04_FixLaws.calls (k : Nat) (a0 : Int) (a1 : Int) (a2 : Int) (r : Bool) (w : World) (h : regimenlaw04_FixLaws.f k a0 a1 a2 = some r) :
    Calls Try.prog 7 #[.int .i64 a0, .int .i64 a1, .int .i64 a2] w fun e w' => e = .returned (.bool r) ∧ Below w.heap.size w w' := by
  have HB := Aside0.mk (Below.refl w.heap.size w)
  have H : ((fix_Mul.f k a0 a2).bind fun bt417 => ((fix_Mul.f k a2 a0).bind fun bt419 => ((fix_Mul.f k a0 4294967296).bind fun bt421 => (if bt417.1 = bt419.1 then (if bt417.2 = bt419.2 then (if bt421.1 = a0 then (regimenlaw04_FixLaws.j0 k a0 a1 a2 bt417.1 bt417.2 (bt421.2 != 0)) else (regimenlaw04_FixLaws.j0 k a0 a1 a2 bt417.1 bt417.2 true)) else (regimenlaw04_FixLaws.j0 k a0 a1 a2 bt417.1 bt417.2 true)) else (regimenlaw04_FixLaws.j0 k a0 a1 a2 bt417.1 bt417.2 true))))) = some r := h
  clear h
  replace H := Option.bind_eq_some_iff.mp H
  obtain ⟨⟨t417, t418⟩, A40, H⟩ := H
  replace H : ((fix_Mul.f k a2 a0).bind fun bt419 => ((fix_Mul.f k a0 4294967296).bind fun bt421 => (if t417 = bt419.1 then (if t418 = bt419.2 then (if bt421.1 = a0 then (regimenlaw04_FixLaws.j0 k a0 a1 a2 t417 t418 (bt421.2 != 0)) else (regimenlaw04_FixLaws.j0 k a0 a1 a2 t417 t418 true)) else (regimenlaw04_FixLaws.j0 k a0 a1 a2 t417 t418 true)) else (regimenlaw04_FixLaws.j0 k a0 a1 a2 t417 t418 true)))) = some r := H
  have A4 := Aside0.mk A40
  clear A40
  replace H := Option.bind_eq_some_iff.mp H
  obtain ⟨⟨t419, t420⟩, A50, H⟩ := H
  replace H : ((fix_Mul.f k a0 4294967296).bind fun bt421 => (if t417 = t419 then (if t418 = t420 then (if bt421.1 = a0 then (regimenlaw04_FixLaws.j0 k a0 a1 a2 t417 t418 (bt421.2 != 0)) else (regimenlaw04_FixLaws.j0 k a0 a1 a2 t417 t418 true)) else (regimenlaw04_FixLaws.j0 k a0 a1 a2 t417 t418 true)) else (regimenlaw04_FixLaws.j0 k a0 a1 a2 t417 t418 true))) = some r := H
  have A5 := Aside0.mk A50
  clear A50
  replace H := Option.bind_eq_some_iff.mp H
  obtain ⟨⟨t421, t422⟩, A60, H⟩ := H
  replace H : (if t417 = t419 then (if t418 = t420 then (if t421 = a0 then (regimenlaw04_FixLaws.j0 k a0 a1 a2 t417 t418 (t422 != 0)) else (regimenlaw04_FixLaws.j0 k a0 a1 a2 t417 t418 true)) else (regimenlaw04_FixLaws.j0 k a0 a1 a2 t417 t418 true)) else (regimenlaw04_FixLaws.j0 k a0 a1 a2 t417 t418 true)) = some r := H
  have A6 := Aside0.mk A60
  clear A60
  have HC7 := Aside0.mk H
  clear H
  go_enter Try.func7, Try.ntmps7
  go_upto_region 4 with (first | ((with_reducible refine gate_callee (f := 19) rfl ?_); refine goesL_ (some 18) rfl rfl Try.func19 (by kernel_rfl) rfl #[.int .i64 a0, .int .i64 a2] rfl (by (try simp only [List.map_toArray, List.map_cons, List.map_nil]); first | done | rfl | (simp only [List.length_drop, List.length_take]; rfl)) ?_; (with_reducible refine (fix_Mul.calls k a0 a2 t417 t418 _ A4.out).mono ?_); rintro e w8 ⟨rfl, hb⟩; refine ⟨_, rfl, ?_⟩; have n0_ := Aside0.mk (below_step (by repeat (first | (with_reducible first | exact HB.out | apply below_alloc | apply pw_below_drewN | apply below_drew1) | exact HB.out)) hb); clear HB; have HB := n0_; clear n0_; (try clear hb); (try clear hb2); (try clear hk); (try clear hi)) | ((with_reducible refine gate_callee (f := 19) rfl ?_); refine goesL_ (some 24) rfl rfl Try.func19 (by kernel_rfl) rfl #[.int .i64 a2, .int .i64 a0] rfl (by (try simp only [List.map_toArray, List.map_cons, List.map_nil]); first | done | rfl | (simp only [List.length_drop, List.length_take]; rfl)) ?_; (with_reducible refine (fix_Mul.calls k a2 a0 t419 t420 _ A5.out).mono ?_); rintro e w9 ⟨rfl, hb⟩; refine ⟨_, rfl, ?_⟩; have n0_ := Aside0.mk (below_step (by repeat (first | (with_reducible first | exact HB.out | apply below_alloc | apply pw_below_drewN | apply below_drew1) | exact HB.out)) hb); clear HB; have HB := n0_; clear n0_; (try clear hb); (try clear hb2); (try clear hk); (try clear hi)) | ((with_reducible refine gate_callee (f := 19) rfl ?_); refine goesL_ (some 29) rfl rfl Try.func19 (by kernel_rfl) rfl #[.int .i64 a0, .int .i64 4294967296] rfl (by (try simp only [List.map_toArray, List.map_cons, List.map_nil]); first | done | rfl | (simp only [List.length_drop, List.length_take]; rfl)) ?_; (with_reducible refine (fix_Mul.calls k a0 4294967296 t421 t422 _ A6.out).mono ?_); rintro e w10 ⟨rfl, hb⟩; refine ⟨_, rfl, ?_⟩; have n0_ := Aside0.mk (below_step (by repeat (first | (with_reducible first | exact HB.out | apply below_alloc | apply pw_below_drewN | apply below_drew1) | exact HB.out)) hb); clear HB; have HB := n0_; clear n0_; (try clear hb); (try clear hb2); (try clear hk); (try clear hi)))
  (try simp only [Act.put, List.setIfInBounds_toArray, List.set_cons_zero, List.set_cons_succ])
  go_cut [48] (fun v48 wc => ∃ (kq : Nat) (x48_6 : Bool), v48 = .bool x48_6 ∧ Aside0 (regimenlaw04_FixLaws.j0 kq a0 a1 a2 t417 t418 x48_6 = some r) ∧ Aside0 (kq ≤ k) ∧ Aside0 (Below w.heap.size w wc))
  case first =>
    have H := HC7.out
    clear HC7
    by_cases c11 : t417 = t419
    · rw [if_pos c11] at H
      have c11b0 : (t417 == t419) = true := beq_iff_eq.mpr c11
      have c11b1 : (t417 != t419) = false := bne_eq_false_iff_eq.mpr c11
      clear c11
      (first | rw [c11b0] | rw [c11b1] | (simp only [i64_w, i32_w]; rw [c11b0]) | skip)
      by_cases c12 : t418 = t420
      · rw [if_pos c12] at H
        have c12b0 : (t418 == t420) = true := beq_iff_eq.mpr c12
        have c12b1 : (t418 != t420) = false := bne_eq_false_iff_eq.mpr c12
        clear c12
        by_cases c13 : t421 = a0
        · rw [if_pos c13] at H
          have c13b0 : (t421 == a0) = true := beq_iff_eq.mpr c13
          have c13b1 : (t421 != a0) = false := bne_eq_false_iff_eq.mpr c13
          clear c13
          have H' := Aside0.mk H
          clear H
          go_wp2
          go_meet
          case rel => exact ⟨_, ((t422 != 0)), (by first | rfl | (simp; done) | (simp [*]; done)), H', ⟨by first | omega | exact Nat.le_refl _⟩, ⟨by repeat (first | (with_reducible first | exact HB.out | apply below_alloc | apply pw_below_drewN | apply below_drew1) | exact HB.out)⟩⟩
        · rw [if_neg c13] at H
          have c13b0 : (t421 == a0) = false := beq_eq_false_iff_ne.mpr c13
          have c13b1 : (t421 != a0) = true := bne_iff_ne.mpr c13
          have H' := Aside0.mk H
          clear H
          go_wp2
          go_meet
          case rel => exact ⟨_, (true), (by first | rfl | (simp; done) | (simp [*]; done)), H', ⟨by first | omega | exact Nat.le_refl _⟩, ⟨by repeat (first | (with_reducible first | exact HB.out | apply below_alloc | apply pw_below_drewN | apply below_drew1) | exact HB.out)⟩⟩
      · rw [if_neg c12] at H
        have c12b0 : (t418 == t420) = false := beq_eq_false_iff_ne.mpr c12
        have c12b1 : (t418 != t420) = true := bne_iff_ne.mpr c12
        have H' := Aside0.mk H
        clear H
        go_wp2
        go_meet
        case rel => exact ⟨_, (true), (by first | rfl | (simp; done) | (simp [*]; done)), H', ⟨by first | omega | exact Nat.le_refl _⟩, ⟨by repeat (first | (with_reducible first | exact HB.out | apply below_alloc | apply pw_below_drewN | apply below_drew1) | exact HB.out)⟩⟩
    · rw [if_neg c11] at H
      have c11b0 : (t417 == t419) = false := beq_eq_false_iff_ne.mpr c11
      have c11b1 : (t417 != t419) = true := bne_iff_ne.mpr c11
      (first | rw [c11b0] | rw [c11b1] | (simp only [i64_w, i32_w]; rw [c11b0]) | skip)
      have H' := Aside0.mk H
      clear H
      go_wp2
      go_meet
      case rel => exact ⟨_, (true), (by first | rfl | (simp; done) | (simp [*]; done)), H', ⟨by first | omega | exact Nat.le_refl _⟩, ⟨by repeat (first | (with_reducible first | exact HB.out | apply below_alloc | apply pw_below_drewN | apply below_drew1) | exact HB.out)⟩⟩
  case rest =>
    clear HC7
    try clear c1
    try clear p2
    try clear c7
    try clear c11
    try clear c11b0
    try clear c11b1
    try clear c12
    try clear c12b0
    try clear c12b1
    try clear c13
    try clear c13b0
    try clear c13b1
    obtain ⟨kq, x48_6, rfl, HA, HJ6, HB⟩ := hcut
    cases kq with
    | zero => exact absurd HA.out (by simp [regimenlaw04_FixLaws.j0])
    | succ kj6 =>
      have H := HA.out
      clear HA
      simp only [regimenlaw04_FixLaws.j0] at H
      by_cases c14 : x48_6 = true
      · subst c14
        have H1 : (some false) = some r := by rw [if_pos rfl] at H; exact H
        clear H
        have H := H1
        clear H1
        obtain rfl := Option.some.inj H
        go_wp2
        go_ret
        exact ⟨by first | rfl | (simp [errW_none, errW_some] <;> rfl) | (simp [*, errW_none, errW_some] <;> rfl), by repeat (first | (with_reducible first | exact HB.out | apply below_alloc | apply pw_below_drewN | apply below_drew1) | exact HB.out)⟩
      · replace c14 := Bool.eq_false_iff.mpr c14
        subst c14
        have H1 : ((fix_Mul.f kj6 a1 a2).bind fun bt423 => (if t418 = 0 then (if bt423.2 = 0 then (if a0 ≤ a1 then (if a2 ≥ 0 then (regimenlaw04_FixLaws.j1 kj6 a0 a2 t417 t418 (decide (t417 > bt423.1))) else (regimenlaw04_FixLaws.j1 kj6 a0 a2 t417 t418 false)) else (regimenlaw04_FixLaws.j1 kj6 a0 a2 t417 t418 false)) else (regimenlaw04_FixLaws.j1 kj6 a0 a2 t417 t418 false)) else (regimenlaw04_FixLaws.j1 kj6 a0 a2 t417 t418 false))) = some r := by rw [if_neg (show ¬ (false = true) by decide)] at H; exact H
        clear H
        have H := H1
        clear H1
        replace H := Option.bind_eq_some_iff.mp H
        obtain ⟨⟨t423, t424⟩, A150, H⟩ := H
        replace H : (if t418 = 0 then (if t424 = 0 then (if a0 ≤ a1 then (if a2 ≥ 0 then (regimenlaw04_FixLaws.j1 kj6 a0 a2 t417 t418 (decide (t417 > t423))) else (regimenlaw04_FixLaws.j1 kj6 a0 a2 t417 t418 false)) else (regimenlaw04_FixLaws.j1 kj6 a0 a2 t417 t418 false)) else (regimenlaw04_FixLaws.j1 kj6 a0 a2 t417 t418 false)) else (regimenlaw04_FixLaws.j1 kj6 a0 a2 t417 t418 false)) = some r := H
        have A15 := Aside0.mk A150
        clear A150
        have HC16 := Aside0.mk H
        clear H
        go_upto_region 7 with (first | ((with_reducible refine gate_callee (f := 19) rfl ?_); refine goesL_ (some 52) rfl rfl Try.func19 (by kernel_rfl) rfl #[.int .i64 a1, .int .i64 a2] rfl (by (try simp only [List.map_toArray, List.map_cons, List.map_nil]); first | done | rfl | (simp only [List.length_drop, List.length_take]; rfl)) ?_; (with_reducible refine (fix_Mul.calls kj6 a1 a2 t423 t424 _ A15.out).mono ?_); rintro e w17 ⟨rfl, hb⟩; refine ⟨_, rfl, ?_⟩; have n0_ := Aside0.mk (below_step (by repeat (first | (with_reducible first | exact HB.out | apply below_alloc | apply pw_below_drewN | apply below_drew1) | exact HB.out)) hb); clear HB; have HB := n0_; clear n0_; (try clear hb); (try clear hb2); (try clear hk); (try clear hi)))
        (try simp only [Act.put, List.setIfInBounds_toArray, List.set_cons_zero, List.set_cons_succ])
        go_cut [74] (fun v74 wc => ∃ (kq : Nat) (x74_15 : Bool), v74 = .bool x74_15 ∧ Aside0 (regimenlaw04_FixLaws.j1 kq a0 a2 t417 t418 x74_15 = some r) ∧ Aside0 (kq ≤ kj6) ∧ Aside0 (Below w.heap.size w wc))
        case first =>
          have H := HC16.out
          clear HC16
          by_cases c18 : t418 = 0
          · rw [if_pos c18] at H
            have c18b0 : (t418 == 0) = true := beq_iff_eq.mpr c18
            have c18b1 : (t418 != 0) = false := bne_eq_false_iff_eq.mpr c18
            clear c18
            (first | rw [c18b0] | rw [c18b1] | (simp only [i64_w, i32_w]; rw [c18b0]) | skip)
            by_cases c19 : t424 = 0
            · rw [if_pos c19] at H
              have c19b0 : (t424 == 0) = true := beq_iff_eq.mpr c19
              have c19b1 : (t424 != 0) = false := bne_eq_false_iff_eq.mpr c19
              clear c19
              by_cases c20 : a0 ≤ a1
              · rw [if_pos c20] at H
                have c20b0 : decide (a0 ≤ a1) = true := decide_eq_true c20
                clear c20
                by_cases c21 : a2 ≥ 0
                · rw [if_pos c21] at H
                  have c21b0 : decide (0 ≤ a2) = true := decide_eq_true c21
                  clear c21
                  have H' := Aside0.mk H
                  clear H
                  go_wp2
                  go_meet
                  case rel => exact ⟨_, (decide (t417 > t423)), (by first | rfl | (simp; done) | (simp [*]; done)), H', ⟨by have := HJ6.out; first | omega | exact Nat.le_refl _⟩, ⟨by repeat (first | (with_reducible first | exact HB.out | apply below_alloc | apply pw_below_drewN | apply below_drew1) | exact HB.out)⟩⟩
                · rw [if_neg c21] at H
                  have c21b0 : decide (0 ≤ a2) = false := decide_eq_false c21
                  clear c21
                  have H' := Aside0.mk H
                  clear H
                  go_wp2
                  go_meet
                  case rel => exact ⟨_, (false), (by first | rfl | (simp; done) | (simp [*]; done)), H', ⟨by have := HJ6.out; first | omega | exact Nat.le_refl _⟩, ⟨by repeat (first | (with_reducible first | exact HB.out | apply below_alloc | apply pw_below_drewN | apply below_drew1) | exact HB.out)⟩⟩
              · rw [if_neg c20] at H
                have c20b0 : decide (a0 ≤ a1) = false := decide_eq_false c20
                clear c20
                have H' := Aside0.mk H
                clear H
                go_wp2
                go_meet
                case rel => exact ⟨_, (false), (by first | rfl | (simp; done) | (simp [*]; done)), H', ⟨by have := HJ6.out; first | omega | exact Nat.le_refl _⟩, ⟨by repeat (first | (with_reducible first | exact HB.out | apply below_alloc | apply pw_below_drewN | apply below_drew1) | exact HB.out)⟩⟩
            · rw [if_neg c19] at H
              have c19b0 : (t424 == 0) = false := beq_eq_false_iff_ne.mpr c19
              have c19b1 : (t424 != 0) = true := bne_iff_ne.mpr c19
              have H' := Aside0.mk H
              clear H
              go_wp2
              go_meet
              case rel => exact ⟨_, (false), (by first | rfl | (simp; done) | (simp [*]; done)), H', ⟨by have := HJ6.out; first | omega | exact Nat.le_refl _⟩, ⟨by repeat (first | (with_reducible first | exact HB.out | apply below_alloc | apply pw_below_drewN | apply below_drew1) | exact HB.out)⟩⟩
          · rw [if_neg c18] at H
            have c18b0 : (t418 == 0) = false := beq_eq_false_iff_ne.mpr c18
            have c18b1 : (t418 != 0) = true := bne_iff_ne.mpr c18
            (first | rw [c18b0] | rw [c18b1] | (simp only [i64_w, i32_w]; rw [c18b0]) | skip)
            have H' := Aside0.mk H
            clear H
            go_wp2
            go_meet
            case rel => exact ⟨_, (false), (by first | rfl | (simp; done) | (simp [*]; done)), H', ⟨by have := HJ6.out; first | omega | exact Nat.le_refl _⟩, ⟨by repeat (first | (with_reducible first | exact HB.out | apply below_alloc | apply pw_below_drewN | apply below_drew1) | exact HB.out)⟩⟩
        case rest =>
          clear HC16
          try clear c1
          try clear c2
          try clear p2
          try clear c7
          try clear c11
          try clear c11b0
          try clear c11b1
          try clear c12
          try clear c12b0
          try clear c12b1
          try clear c13
          try clear c13b0
          try clear c13b1
          try clear c14
          try clear c18
          try clear c18b0
          try clear c18b1
          try clear c19
          try clear c19b0
          try clear c19b1
          try clear c20
          try clear c20b0
          try clear c21
          try clear c21b0
          try clear p2
          obtain ⟨kq, x74_15, rfl, HA, HJ15, HB⟩ := hcut
          cases kq with
          | zero => exact absurd HA.out (by simp [regimenlaw04_FixLaws.j1])
          | succ kj15 =>
            have H := HA.out
            clear HA
            simp only [regimenlaw04_FixLaws.j1] at H
            by_cases c22 : x74_15 = true
            · subst c22
              have H1 : (some false) = some r := by rw [if_pos rfl] at H; exact H
              clear H
              have H := H1
              clear H1
              obtain rfl := Option.some.inj H
              go_wp2
              go_ret
              exact ⟨by first | rfl | (simp [errW_none, errW_some] <;> rfl) | (simp [*, errW_none, errW_some] <;> rfl), by repeat (first | (with_reducible first | exact HB.out | apply below_alloc | apply pw_below_drewN | apply below_drew1) | exact HB.out)⟩
            · replace c22 := Bool.eq_false_iff.mpr c22
              subst c22
              have H1 : (if a2 ≥ 0 then (if a2 ≤ 4294967296 then (if t418 = 0 then ((fix_Size.f t417).bind fun t425 => ((fix_Size.f a0).bind fun t426 => (if t425 > t426 then (some false) else ((regimenlaw04_awake.f kj15).bind fun t427 => (some t427))))) else (some false)) else ((regimenlaw04_awake.f kj15).bind fun t428 => (some t428))) else ((regimenlaw04_awake.f kj15).bind fun t429 => (some t429))) = some r := by rw [if_neg (show ¬ (false = true) by decide)] at H; exact H
              clear H
              have H := H1
              clear H1
              by_cases c23 : a2 ≥ 0
              · rw [if_pos c23] at H
                have c23b0 : decide (0 ≤ a2) = true := decide_eq_true c23
                clear c23
                by_cases c24 : a2 ≤ 4294967296
                · rw [if_pos c24] at H
                  have c24b0 : decide (a2 ≤ 4294967296) = true := decide_eq_true c24
                  clear c24
                  by_cases c25 : t418 = 0
                  · rw [if_pos c25] at H
                    have c25b0 : (t418 == 0) = true := beq_iff_eq.mpr c25
                    have c25b1 : (t418 != 0) = false := bne_eq_false_iff_eq.mpr c25
                    clear c25
                    replace H := Option.bind_eq_some_iff.mp H
                    obtain ⟨t425, A260, H⟩ := H
                    replace H : ((fix_Size.f a0).bind fun t426 => (if t425 > t426 then (some false) else ((regimenlaw04_awake.f kj15).bind fun t427 => (some t427)))) = some r := H
                    have A26 := Aside0.mk A260
                    clear A260
                    replace H := Option.bind_eq_some_iff.mp H
                    obtain ⟨t426, A270, H⟩ := H
                    replace H : (if t425 > t426 then (some false) else ((regimenlaw04_awake.f kj15).bind fun t427 => (some t427))) = some r := H
                    have A27 := Aside0.mk A270
                    clear A270
                    by_cases c28 : t425 > t426
                    · rw [if_pos c28] at H
                      have c28b0 : decide (t426 < t425) = true := decide_eq_true c28
                      clear c28
                      obtain rfl := Option.some.inj H
                      go_wp2_with (first | (go_at_call 24; (with_reducible refine (fix_Size.calls t417 t425 _ A26.out).mono ?_); rintro e w' ⟨rfl, ⟨nd, rfl⟩⟩) | (go_at_call 24; (with_reducible refine (fix_Size.calls a0 t426 _ A27.out).mono ?_); rintro e w' ⟨rfl, ⟨nd, rfl⟩⟩))
                      go_ret
                      exact ⟨by first | rfl | (simp [errW_none, errW_some] <;> rfl) | (simp [*, errW_none, errW_some] <;> rfl), by repeat (first | (with_reducible first | exact HB.out | apply below_alloc | apply pw_below_drewN | apply below_drew1) | exact HB.out)⟩
                    · rw [if_neg c28] at H
                      have c28b0 : decide (t426 < t425) = false := decide_eq_false c28
                      clear c28
                      replace H := Option.bind_eq_some_iff.mp H
                      obtain ⟨t427, A290, H⟩ := H
                      replace H : (some t427) = some r := H
                      have A29 := Aside0.mk A290
                      clear A290
                      obtain rfl := Option.some.inj H
                      go_wp2_with (first | (go_at_call 24; (with_reducible refine (fix_Size.calls t417 t425 _ A26.out).mono ?_); rintro e w' ⟨rfl, ⟨nd, rfl⟩⟩) | (go_at_call 24; (with_reducible refine (fix_Size.calls a0 t426 _ A27.out).mono ?_); rintro e w' ⟨rfl, ⟨nd, rfl⟩⟩) | ((with_reducible refine gate_callee (f := 23) rfl ?_); refine goesL_ (some 92) rfl rfl Try.func23 (by kernel_rfl) rfl #[] rfl (by (try simp only [List.map_toArray, List.map_cons, List.map_nil]); first | done | rfl | (simp only [List.length_drop, List.length_take]; rfl)) ?_; (with_reducible refine (regimenlaw04_awake.calls kj15  t427 _ A29.out).mono ?_); rintro e w30 ⟨rfl, hb⟩; refine ⟨_, rfl, ?_⟩; have n0_ := Aside0.mk (below_step (by repeat (first | (with_reducible first | exact HB.out | apply below_alloc | apply pw_below_drewN | apply below_drew1) | exact HB.out)) hb); clear HB; have HB := n0_; clear n0_; (try clear hb); (try clear hb2); (try clear hk); (try clear hi)))
                      go_ret
                      exact ⟨by first | rfl | (simp [errW_none, errW_some] <;> rfl) | (simp [*, errW_none, errW_some] <;> rfl), by repeat (first | (with_reducible first | exact HB.out | apply below_alloc | apply pw_below_drewN | apply below_drew1) | exact HB.out)⟩
                  · rw [if_neg c25] at H
                    have c25b0 : (t418 == 0) = false := beq_eq_false_iff_ne.mpr c25
                    have c25b1 : (t418 != 0) = true := bne_iff_ne.mpr c25
                    obtain rfl := Option.some.inj H
                    go_wp2
                    go_ret
                    exact ⟨by first | rfl | (simp [errW_none, errW_some] <;> rfl) | (simp [*, errW_none, errW_some] <;> rfl), by repeat (first | (with_reducible first | exact HB.out | apply below_alloc | apply pw_below_drewN | apply below_drew1) | exact HB.out)⟩
                · rw [if_neg c24] at H
                  have c24b0 : decide (a2 ≤ 4294967296) = false := decide_eq_false c24
                  clear c24
                  replace H := Option.bind_eq_some_iff.mp H
                  obtain ⟨t428, A310, H⟩ := H
                  replace H : (some t428) = some r := H
                  have A31 := Aside0.mk A310
                  clear A310
                  obtain rfl := Option.some.inj H
                  go_wp2_with (first | ((with_reducible refine gate_callee (f := 23) rfl ?_); refine goesL_ (some 92) rfl rfl Try.func23 (by kernel_rfl) rfl #[] rfl (by (try simp only [List.map_toArray, List.map_cons, List.map_nil]); first | done | rfl | (simp only [List.length_drop, List.length_take]; rfl)) ?_; (with_reducible refine (regimenlaw04_awake.calls kj15  t428 _ A31.out).mono ?_); rintro e w32 ⟨rfl, hb⟩; refine ⟨_, rfl, ?_⟩; have n0_ := Aside0.mk (below_step (by repeat (first | (with_reducible first | exact HB.out | apply below_alloc | apply pw_below_drewN | apply below_drew1) | exact HB.out)) hb); clear HB; have HB := n0_; clear n0_; (try clear hb); (try clear hb2); (try clear hk); (try clear hi)))
                  go_ret
                  exact ⟨by first | rfl | (simp [errW_none, errW_some] <;> rfl) | (simp [*, errW_none, errW_some] <;> rfl), by repeat (first | (with_reducible first | exact HB.out | apply below_alloc | apply pw_below_drewN | apply below_drew1) | exact HB.out)⟩
              · rw [if_neg c23] at H
                have c23b0 : decide (0 ≤ a2) = false := decide_eq_false c23
                clear c23
                replace H := Option.bind_eq_some_iff.mp H
                obtain ⟨t429, A330, H⟩ := H
                replace H : (some t429) = some r := H
                have A33 := Aside0.mk A330
                clear A330
                obtain rfl := Option.some.inj H
                go_wp2_with (first | ((with_reducible refine gate_callee (f := 23) rfl ?_); refine goesL_ (some 92) rfl rfl Try.func23 (by kernel_rfl) rfl #[] rfl (by (try simp only [List.map_toArray, List.map_cons, List.map_nil]); first | done | rfl | (simp only [List.length_drop, List.length_take]; rfl)) ?_; (with_reducible refine (regimenlaw04_awake.calls kj15  t429 _ A33.out).mono ?_); rintro e w34 ⟨rfl, hb⟩; refine ⟨_, rfl, ?_⟩; have n0_ := Aside0.mk (below_step (by repeat (first | (with_reducible first | exact HB.out | apply below_alloc | apply pw_below_drewN | apply below_drew1) | exact HB.out)) hb); clear HB; have HB := n0_; clear n0_; (try clear hb); (try clear hb2); (try clear hk); (try clear hi)))
                go_ret
                exact ⟨by first | rfl | (simp [errW_none, errW_some] <;> rfl) | (simp [*, errW_none, errW_some] <;> rfl), by repeat (first | (with_reducible first | exact HB.out | apply below_alloc | apply pw_below_drewN | apply below_drew1) | exact HB.out)⟩

/-- THE ONE PURE STATEMENT of regimenlaw04_FixLaws: yours. -/
def regimenlaw04_FixLaws.Pure : Prop := ∀ (a0 : Int) (a1 : Int) (a2 : Int), ((Lit.int .i64 a0).wf = true) → ((Lit.int .i64 a1).wf = true) → ((Lit.int .i64 a2).wf = true) → ∃ k, regimenlaw04_FixLaws.f k a0 a1 a2 = some true
theorem regimenlaw04_FixLaws.walk (P : regimenlaw04_FixLaws.Pure) (a0 : Int) (a1 : Int) (a2 : Int) (w : World) (w0 : (Lit.int .i64 a0).wf = true) (w1 : (Lit.int .i64 a1).wf = true) (w2 : (Lit.int .i64 a2).wf = true) :
    Calls Try.prog 7 #[.int .i64 a0, .int .i64 a1, .int .i64 a2] w fun e w' => e = .returned (.bool true) ∧ Below w.heap.size w w' := by
  obtain ⟨k, h⟩ := P a0 a1 a2 w0 w1 w2
  refine (regimenlaw04_FixLaws.calls k a0 a1 a2 true w h).mono ?_
  rintro e w' ⟨rfl, hd⟩
  exact ⟨rfl, hd⟩

end Go.Proofs.Ytjnpfbdmkakebaa.PA
