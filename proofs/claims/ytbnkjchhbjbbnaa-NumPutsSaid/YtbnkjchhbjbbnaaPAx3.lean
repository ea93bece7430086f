/- Go functions of this seat as plain Lean functions, each with a proof that its call comes to just what that function says, wherever that function says anything: written by a program of this session. -/
import Derived.Test.YtbnkjchhbjbbnaaPAx0
import Derived.Test.YtbnkjchhbjbbnaaPAx1
import Derived.Test.YtbnkjchhbjbbnaaPAx2
namespace Go.Proofs.Ytbnkjchhbjbbnaa.PA
open Go.RowKit Go.Proofs.YtbnkjchhbjbbnaaW.PrintWords Go.Proofs.YtbnkjchhbjbbnaaW.PrintLast Go.Proofs.YtbnkjchhbjbbnaaW.PrintMore
attribute [local go_sem] max2_int min2_int max_two min_two max_three min_three max_four min_four   -- for this text's walks alone
set_option linter.unusedVariables false
set_option linter.unusedSimpArgs false

/-! ### regimenlaw01_NumPuts: function 5 -/
def regimenlaw01_NumPuts.j0 : Nat → Int → ByteArray → Int → Bool → Option (Bool)
  | 0, _, _, _, _ => none
  | k + 1, x0, x3, x4, x22 => if x22 = true then (if x3.toList = ([] : List UInt8) then (if x4 = 3 then ((regimenlaw01_awake.f k).bind fun t121 => (some t121)) else (none)) else (none)) else ((num_Get.f k x3).bind fun bt122 => ((regimenref01_Text.f k x0).bind fun t124 => (if x3.toList = t124.toList then (if x4 = 0 then (if bt122.1 = x0 then (if bt122.2 = 0 then ((regimenlaw01_awake.f k).bind fun t125 => (some t125)) else (none)) else (none)) else (none)) else (none))))
def regimenlaw01_NumPuts.f (k : Nat) (a0 : Int) : Option (Bool) := (num_Put.f k a0).bind fun bt117 => ((num_Tell.f k a0).bind fun t119 => ((regimenref01_Tell.f k a0).bind fun t120 => (if t119.toList = t120.toList then (if a0 < 0 then (regimenlaw01_NumPuts.j0 k a0 bt117.1 bt117.2 true) else (regimenlaw01_NumPuts.j0 k a0 bt117.1 bt117.2 (decide (a0 > 1099511627776)))) else (none))))
theorem regimenlaw01_NumPuts.mono_l : ∀ k, (∀ y0 y1 y2 y3, LeO (regimenlaw01_NumPuts.j0 k y0 y1 y2 y3) (regimenlaw01_NumPuts.j0 (k + 1) y0 y1 y2 y3))
  | 0 => fun _ _ _ _ r h => by simp [regimenlaw01_NumPuts.j0] at h
  | k + 1 => by
    have ih0 := regimenlaw01_NumPuts.mono_l k
    · intro y0 y1 y2 y3
      unfold regimenlaw01_NumPuts.j0
      repeat' first
      | (with_reducible exact ih0 _ _ _ _)
      | (with_reducible exact num_Get.mono _ _)
      | (with_reducible exact num_Put.mono _ _)
      | (with_reducible exact num_Tell.mono _ _)
      | (with_reducible exact regimenlaw01_awake.mono _)
      | (with_reducible exact regimenref01_Tell.mono _ _)
      | (with_reducible exact regimenref01_Text.mono _ _)
      | (with_reducible exact LeO.refl _)
      | (with_reducible exact LeO.none _)
      | (with_reducible refine LeO.ite ?_ ?_)
      | (with_reducible refine LeO.bind ?_ (fun _ => ?_))
      | exact ih0 _ _ _ _
      | exact num_Get.mono _ _
      | exact num_Put.mono _ _
      | exact num_Tell.mono _ _
      | exact regimenlaw01_awake.mono _
      | exact regimenref01_Tell.mono _ _
      | exact regimenref01_Text.mono _ _
      | exact LeO.none _
      | refine LeO.ite ?_ ?_
      | refine LeO.bind ?_ (fun _ => ?_)
theorem regimenlaw01_NumPuts.mono : ∀ a0 k, LeO (regimenlaw01_NumPuts.f k a0) (regimenlaw01_NumPuts.f (k + 1) a0) := by
  intro a0 k
  have ih0 := regimenlaw01_NumPuts.mono_l k
  unfold regimenlaw01_NumPuts.f
  repeat' first
      | (with_reducible exact ih0 _ _ _ _)
      | (with_reducible exact num_Get.mono _ _)
      | (with_reducible exact num_Put.mono _ _)
      | (with_reducible exact num_Tell.mono _ _)
      | (with_reducible exact regimenlaw01_awake.mono _)
      | (with_reducible exact regimenref01_Tell.mono _ _)
      | (with_reducible exact regimenref01_Text.mono _ _)
      | (with_reducible exact LeO.refl _)
      | (with_reducible exact LeO.none _)
      | (with_reducible refine LeO.ite ?_ ?_)
      | (with_reducible refine LeO.bind ?_ (fun _ => ?_))
      | exact ih0 _ _ _ _
      | exact num_Get.mono _ _
      | exact num_Put.mono _ _
      | exact num_Tell.mono _ _
      | exact regimenlaw01_awake.mono _
      | exact regimenref01_Tell.mono _ _
      | exact regimenref01_Text.mono _ _
      | exact LeO.none _
      | refine LeO.ite ?_ ?_
      | refine LeO.bind ?_ (fun _ => ?_)
set_option maxHeartbeats 8000000 in
set_option maxRecDepth 100000 in
theorem regimenlaw01_NumPuts.calls (k : Nat) (a0 : Int) (r : Bool) (w : World) (h : regimenlaw01_NumPuts.f k a0 = some r) :
    Calls Try.prog 5 #[.int .i64 a0] w fun e w' => e = .returned (.bool r) ∧ Below w.heap.size w w' := by
  have HB := Aside0.mk (Below.refl w.heap.size w)
  have H : ((num_Put.f k a0).bind fun bt117 => ((num_Tell.f k a0).bind fun t119 => ((regimenref01_Tell.f k a0).bind fun t120 => (if t119.toList = t120.toList then (if a0 < 0 then (regimenlaw01_NumPuts.j0 k a0 bt117.1 bt117.2 true) else (regimenlaw01_NumPuts.j0 k a0 bt117.1 bt117.2 (decide (a0 > 1099511627776)))) else (none))))) = some r := h
  clear h
  replace H := Option.bind_eq_some_iff.mp H
  obtain ⟨⟨t117, t118⟩, A20, H⟩ := H
  replace H : ((num_Tell.f k a0).bind fun t119 => ((regimenref01_Tell.f k a0).bind fun t120 => (if t119.toList = t120.toList then (if a0 < 0 then (regimenlaw01_NumPuts.j0 k a0 t117 t118 true) else (regimenlaw01_NumPuts.j0 k a0 t117 t118 (decide (a0 > 1099511627776)))) else (none)))) = some r := H
  have A2 := Aside0.mk A20
  clear A20
  replace H := Option.bind_eq_some_iff.mp H
  obtain ⟨t119, A30, H⟩ := H
  replace H : ((regimenref01_Tell.f k a0).bind fun t120 => (if t119.toList = t120.toList then (if a0 < 0 then (regimenlaw01_NumPuts.j0 k a0 t117 t118 true) else (regimenlaw01_NumPuts.j0 k a0 t117 t118 (decide (a0 > 1099511627776)))) else (none))) = some r := H
  have A3 := Aside0.mk A30
  clear A30
  replace H := Option.bind_eq_some_iff.mp H
  obtain ⟨t120, A40, H⟩ := H
  replace H : (if t119.toList = t120.toList then (if a0 < 0 then (regimenlaw01_NumPuts.j0 k a0 t117 t118 true) else (regimenlaw01_NumPuts.j0 k a0 t117 t118 (decide (a0 > 1099511627776)))) else (none)) = some r := H
  have A4 := Aside0.mk A40
  clear A40
  by_cases c5 : t119.toList = t120.toList
  · rw [if_pos c5] at H
    have c5b0 : (t119.toList == t120.toList) = true := beq_iff_eq.mpr c5
    have c5b1 : (t119.toList != t120.toList) = false := bne_eq_false_iff_eq.mpr c5
    clear c5
    have HC6 := Aside0.mk H
    clear H
    go_enter Try.func5, Try.ntmps5
    go_upto_region 4 with (first | ((with_reducible refine gate_callee (f := 26) rfl ?_); refine goesL_ (some 9) rfl rfl Try.func26 (by kernel_rfl) rfl #[.int .i64 a0] rfl (by (try simp only [List.map_toArray, List.map_cons, List.map_nil]); first | done | rfl | (simp only [List.length_drop, List.length_take]; rfl)) ?_; (with_reducible refine (num_Put.calls k a0 t117 t118 _ A2.out).mono ?_); rintro e w7 ⟨rfl, hb⟩; refine ⟨_, rfl, ?_⟩; have n0_ := Aside0.mk (below_step (by repeat (first | (with_reducible first | exact HB.out | apply below_alloc | apply pw_below_drewN | apply below_drew1) | exact HB.out)) hb); clear HB; have HB := n0_; clear n0_; (try clear hb); (try clear hb2); (try clear hk); (try clear hi)) | ((with_reducible refine gate_callee (f := 27) rfl ?_); refine goesL_ (some 13) rfl rfl Try.func27 (by kernel_rfl) rfl #[.int .i64 a0] rfl (by (try simp only [List.map_toArray, List.map_cons, List.map_nil]); first | done | rfl | (simp only [List.length_drop, List.length_take]; rfl)) ?_; (with_reducible refine (num_Tell.calls k a0 t119 _ A3.out).mono ?_); rintro e w8 ⟨rfl, hb⟩; refine ⟨_, rfl, ?_⟩; have n0_ := Aside0.mk (below_step (by repeat (first | (with_reducible first | exact HB.out | apply below_alloc | apply pw_below_drewN | apply below_drew1) | exact HB.out)) hb); clear HB; have HB := n0_; clear n0_; (try clear hb); (try clear hb2); (try clear hk); (try clear hi)) | ((with_reducible refine gate_callee (f := 28) rfl ?_); refine goesL_ (some 15) rfl rfl Try.func28 (by kernel_rfl) rfl #[.int .i64 a0] rfl (by (try simp only [List.map_toArray, List.map_cons, List.map_nil]); first | done | rfl | (simp only [List.length_drop, List.length_take]; rfl)) ?_; (with_reducible refine (regimenref01_Tell.calls k a0 t120 _ A4.out).mono ?_); rintro e w' ⟨rfl, ⟨nd, rfl⟩⟩; refine ⟨_, rfl, ?_⟩))
    (try simp only [Act.put, List.setIfInBounds_toArray, List.set_cons_zero, List.set_cons_succ])
    go_cut [22] (fun v22 wc => ∃ (kq : Nat) (x22_5 : Bool), v22 = .bool x22_5 ∧ Aside0 (regimenlaw01_NumPuts.j0 kq a0 t117 t118 x22_5 = some r) ∧ Aside0 (kq ≤ k) ∧ Aside0 (Below w.heap.size w wc))
    case first =>
      have H := HC6.out
      clear HC6
      by_cases c9 : a0 < 0
      · rw [if_pos c9] at H
        have c9b0 : decide (a0 < 0) = true := decide_eq_true c9
        clear c9
        (first | rw [c9b0] | rw [c9b1] | (simp only [i64_w, i32_w]; rw [c9b0]) | skip)
        have H' := Aside0.mk H
        clear H
        go_wp2
        go_meet
        case rel => exact ⟨_, (true), (by first | rfl | (simp; done) | (simp [*]; done)), H', ⟨by first | omega | exact Nat.le_refl _⟩, ⟨by repeat (first | (with_reducible first | exact HB.out | apply below_alloc | apply pw_below_drewN | apply below_drew1) | exact HB.out)⟩⟩
      · rw [if_neg c9] at H
        have c9b0 : decide (a0 < 0) = false := decide_eq_false c9
        clear c9
        (first | rw [c9b0] | rw [c9b1] | (simp only [i64_w, i32_w]; rw [c9b0]) | skip)
        have H' := Aside0.mk H
        clear H
        go_wp2
        go_meet
        case rel => exact ⟨_, (decide (a0 > 1099511627776)), (by first | rfl | (simp; done) | (simp [*]; done)), H', ⟨by first | omega | exact Nat.le_refl _⟩, ⟨by repeat (first | (with_reducible first | exact HB.out | apply below_alloc | apply pw_below_drewN | apply below_drew1) | exact HB.out)⟩⟩
    case rest =>
      clear HC6
      try clear c2
      try clear p2
      try clear c5
      try clear c5b0
      try clear c5b1
      try clear c9
      try clear c9b0
      try clear c9b1
      obtain ⟨kq, x22_5, rfl, HA, HJ5, HB⟩ := hcut
      cases kq with
      | zero => exact absurd HA.out (by simp [regimenlaw01_NumPuts.j0])
      | succ kj5 =>
        have H := HA.out
        clear HA
        simp only [regimenlaw01_NumPuts.j0] at H
        by_cases c10 : x22_5 = true
        · subst c10
          have H1 : (if t117.toList = ([] : List UInt8) then (if t118 = 3 then ((regimenlaw01_awake.f kj5).bind fun t121 => (some t121)) else (none)) else (none)) = some r := by rw [if_pos rfl] at H; exact H
          clear H
          have H := H1
          clear H1
          by_cases c11 : t117.toList = ([] : List UInt8)
          · rw [if_pos c11] at H
            have c11b0 : (t117.toList == ([] : List UInt8)) = true := beq_iff_eq.mpr c11
            have c11b1 : (t117.toList != ([] : List UInt8)) = false := bne_eq_false_iff_eq.mpr c11
            clear c11
            by_cases c12 : t118 = 3
            · rw [if_pos c12] at H
              have c12b0 : (t118 == 3) = true := beq_iff_eq.mpr c12
              have c12b1 : (t118 != 3) = false := bne_eq_false_iff_eq.mpr c12
              clear c12
              replace H := Option.bind_eq_some_iff.mp H
              obtain ⟨t121, A130, H⟩ := H
              replace H : (some t121) = some r := H
              have A13 := Aside0.mk A130
              clear A130
              obtain rfl := Option.some.inj H
              go_wp2_with (first | (go_at_call 29; (with_reducible refine (regimenlaw01_awake.calls kj5  t121 _ A13.out).mono ?_); rintro e w14 ⟨rfl, hb⟩; have n0_ := Aside0.mk (below_step (by repeat (first | (with_reducible first | exact HB.out | apply below_alloc | apply pw_below_drewN | apply below_drew1) | exact HB.out)) hb); clear HB; have HB := n0_; clear n0_; (try clear hb); (try clear hb2); (try clear hk); (try clear hi)))
              go_ret
              exact ⟨by first | rfl | (simp [errW_none, errW_some] <;> rfl) | (simp [*, errW_none, errW_some] <;> rfl), by repeat (first | (with_reducible first | exact HB.out | apply below_alloc | apply pw_below_drewN | apply below_drew1) | exact HB.out)⟩
            · rw [if_neg c12] at H
              exact absurd H (by simp)
          · rw [if_neg c11] at H
            exact absurd H (by simp)
        · replace c10 := Bool.eq_false_iff.mpr c10
          subst c10
          have H1 : ((num_Get.f kj5 t117).bind fun bt122 => ((regimenref01_Text.f kj5 a0).bind fun t124 => (if t117.toList = t124.toList then (if t118 = 0 then (if bt122.1 = a0 then (if bt122.2 = 0 then ((regimenlaw01_awake.f kj5).bind fun t125 => (some t125)) else (none)) else (none)) else (none)) else (none)))) = some r := by rw [if_neg (show ¬ (false = true) by decide)] at H; exact H
          clear H
          have H := H1
          clear H1
          replace H := Option.bind_eq_some_iff.mp H
          obtain ⟨⟨t122, t123⟩, A150, H⟩ := H
          replace H : ((regimenref01_Text.f kj5 a0).bind fun t124 => (if t117.toList = t124.toList then (if t118 = 0 then (if t122 = a0 then (if t123 = 0 then ((regimenlaw01_awake.f kj5).bind fun t125 => (some t125)) else (none)) else (none)) else (none)) else (none))) = some r := H
          have A15 := Aside0.mk A150
          clear A150
          replace H := Option.bind_eq_some_iff.mp H
          obtain ⟨t124, A160, H⟩ := H
          replace H : (if t117.toList = t124.toList then (if t118 = 0 then (if t122 = a0 then (if t123 = 0 then ((regimenlaw01_awake.f kj5).bind fun t125 => (some t125)) else (none)) else (none)) else (none)) else (none)) = some r := H
          have A16 := Aside0.mk A160
          clear A160
          by_cases c17 : t117.toList = t124.toList
          · rw [if_pos c17] at H
            have c17b0 : (t117.toList == t124.toList) = true := beq_iff_eq.mpr c17
            have c17b1 : (t117.toList != t124.toList) = false := bne_eq_false_iff_eq.mpr c17
            clear c17
            by_cases c18 : t118 = 0
            · rw [if_pos c18] at H
              have c18b0 : (t118 == 0) = true := beq_iff_eq.mpr c18
              have c18b1 : (t118 != 0) = false := bne_eq_false_iff_eq.mpr c18
              clear c18
              by_cases c19 : t122 = a0
              · rw [if_pos c19] at H
                have c19b0 : (t122 == a0) = true := beq_iff_eq.mpr c19
                have c19b1 : (t122 != a0) = false := bne_eq_false_iff_eq.mpr c19
                clear c19
                by_cases c20 : t123 = 0
                · rw [if_pos c20] at H
                  have c20b0 : (t123 == 0) = true := beq_iff_eq.mpr c20
                  have c20b1 : (t123 != 0) = false := bne_eq_false_iff_eq.mpr c20
                  clear c20
                  replace H := Option.bind_eq_some_iff.mp H
                  obtain ⟨t125, A210, H⟩ := H
                  replace H : (some t125) = some r := H
                  have A21 := Aside0.mk A210
                  clear A210
                  obtain rfl := Option.some.inj H
                  go_wp2_with (first | ((with_reducible refine gate_callee (f := 30) rfl ?_); refine goesL_ (some 34) rfl rfl Try.func30 (by kernel_rfl) rfl #[.string t117] rfl (by (try simp only [List.map_toArray, List.map_cons, List.map_nil]); first | done | rfl | (simp only [List.length_drop, List.length_take]; rfl)) ?_; (with_reducible refine (num_Get.calls kj5 t117 t122 t123 _ A15.out).mono ?_); rintro e w22 ⟨rfl, hb⟩; refine ⟨_, rfl, ?_⟩; have n0_ := Aside0.mk (below_step (by repeat (first | (with_reducible first | exact HB.out | apply below_alloc | apply pw_below_drewN | apply below_drew1) | exact HB.out)) hb); clear HB; have HB := n0_; clear n0_; (try clear hb); (try clear hb2); (try clear hk); (try clear hi)) | ((with_reducible refine gate_callee (f := 31) rfl ?_); refine goesL_ (some 39) rfl rfl Try.func31 (by kernel_rfl) rfl #[.int .i64 a0] rfl (by (try simp only [List.map_toArray, List.map_cons, List.map_nil]); first | done | rfl | (simp only [List.length_drop, List.length_take]; rfl)) ?_; (with_reducible refine (regimenref01_Text.calls kj5 a0 t124 _ A16.out).mono ?_); rintro e w' ⟨rfl, ⟨nd, rfl⟩⟩; refine ⟨_, rfl, ?_⟩) | (go_at_call 29; (with_reducible refine (regimenlaw01_awake.calls kj5  t125 _ A21.out).mono ?_); rintro e w23 ⟨rfl, hb⟩; have n0_ := Aside0.mk (below_step (by repeat (first | (with_reducible first | exact HB.out | apply below_alloc | apply pw_below_drewN | apply below_drew1) | exact HB.out)) hb); clear HB; have HB := n0_; clear n0_; (try clear hb); (try clear hb2); (try clear hk); (try clear hi)))
                  go_ret
                  exact ⟨by first | rfl | (simp [errW_none, errW_some] <;> rfl) | (simp [*, errW_none, errW_some] <;> rfl), by repeat (first | (with_reducible first | exact HB.out | apply below_alloc | apply pw_below_drewN | apply below_drew1) | exact HB.out)⟩
                · rw [if_neg c20] at H
                  exact absurd H (by simp)
              · rw [if_neg c19] at H
                exact absurd H (by simp)
            · rw [if_neg c18] at H
              exact absurd H (by simp)
          · rw [if_neg c17] at H
            exact absurd H (by simp)
  · rw [if_neg c5] at H
    exact absurd H (by simp)

/-- THE ONE PURE STATEMENT of regimenlaw01_NumPuts: yours. -/
def regimenlaw01_NumPuts.Pure : Prop := ∀ (a0 : Int), ((Lit.int .i64 a0).wf = true) → ∃ k, regimenlaw01_NumPuts.f k a0 = some true
theorem regimenlaw01_NumPuts.walk (P : regimenlaw01_NumPuts.Pure) (a0 : Int) (w : World) (w0 : (Lit.int .i64 a0).wf = true) :
    Calls Try.prog 5 #[.int .i64 a0] w fun e w' => e = .returned (.bool true) ∧ Below w.heap.size w w' := by
  obtain ⟨k, h⟩ := P a0 w0
  refine (regimenlaw01_NumPuts.calls k a0 true w h).mono ?_
  rintro e w' ⟨rfl, hd⟩
  exact ⟨rfl, hd⟩

end Go.Proofs.Ytbnkjchhbjbbnaa.PA
