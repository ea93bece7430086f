/- Go functions of this seat as plain Lean functions, each with a proof that its call comes to just what that function says, wherever that function says anything: written by a program of this session. -/
import Derived.Test.YtbnkjchhbjbbnaaPQx0
import Derived.Test.YtbnkjchhbjbbnaaPQx1
import Derived.Test.YtbnkjchhbjbbnaaPQx2
import Derived.Test.YtbnkjchhbjbbnaaPQx3
namespace Go.Proofs.Ytbnkjchhbjbbnaa.PQ
open Go.RowKit Go.Proofs.YtbnkjchhbjbbnaaW.PrintWords Go.Proofs.YtbnkjchhbjbbnaaW.PrintLast Go.Proofs.YtbnkjchhbjbbnaaW.PrintMore
attribute [local go_sem] max2_int min2_int max_two min_two max_three min_three max_four min_four   -- for this text's walks alone
set_option linter.unusedVariables false
set_option linter.unusedSimpArgs false

attribute [local go_sem] isSome_setCell
/-! ### regimenlaw11_QuotePuts: function 9 -/
def regimenlaw11_QuotePuts.j0 : Nat → ByteArray → ByteArray → Bool → Option (Bool)
  | 0, _, _, _ => none
  | k + 1, x0, x1, x17 => if x17 = true then ((regimenlaw11_awake.f k).bind fun t168 => (some t168)) else ((quote_Put.f k x0).bind fun t169 => ((quote_Get.f k t169).bind fun bt170 => (if t169.size + x1.size ≤ 9223372036854775807 then ((quote_Span.f k (t169 ++ x1)).bind fun bt172 => ((regimenref11_Put.f k x0).bind fun t174 => (if t169.toList = t174.toList then (if bt170.1.toList = x0.toList then (if bt170.2 = 0 then (if bt172.1 = (t169.size : Int) then (if bt172.2 = true then ((regimenlaw11_awake.f k).bind fun t175 => (some t175)) else (none)) else (none)) else (none)) else (none)) else (none)))) else (none))))
def regimenlaw11_QuotePuts.f (k : Nat) (a0 : ByteArray) (a1 : ByteArray) : Option (Bool) := if (a0.size : Int) > 500 then (regimenlaw11_QuotePuts.j0 k a0 a1 true) else (regimenlaw11_QuotePuts.j0 k a0 a1 (decide ((a1.size : Int) > 500)))
theorem regimenlaw11_QuotePuts.mono_l : ∀ k, (∀ y0 y1 y2, LeO (regimenlaw11_QuotePuts.j0 k y0 y1 y2) (regimenlaw11_QuotePuts.j0 (k + 1) y0 y1 y2))
  | 0 => fun _ _ _ r h => by simp [regimenlaw11_QuotePuts.j0] at h
  | k + 1 => by
    have ih0 := regimenlaw11_QuotePuts.mono_l k
    · intro y0 y1 y2
      unfold regimenlaw11_QuotePuts.j0
      repeat' first
      | (with_reducible exact ih0 _ _ _)
      | (with_reducible exact quote_Get.mono _ _)
      | (with_reducible exact quote_Put.mono _ _)
      | (with_reducible exact quote_Span.mono _ _)
      | (with_reducible exact regimenlaw11_awake.mono _)
      | (with_reducible exact regimenref11_Put.mono _ _)
      | (with_reducible exact LeO.refl _)
      | (with_reducible exact LeO.none _)
      | (with_reducible refine LeO.ite ?_ ?_)
      | (with_reducible refine LeO.bind ?_ (fun _ => ?_))
      | exact ih0 _ _ _
      | exact quote_Get.mono _ _
      | exact quote_Put.mono _ _
      | exact quote_Span.mono _ _
      | exact regimenlaw11_awake.mono _
      | exact regimenref11_Put.mono _ _
      | exact LeO.none _
      | refine LeO.ite ?_ ?_
      | refine LeO.bind ?_ (fun _ => ?_)
theorem regimenlaw11_QuotePuts.mono : ∀ a0 a1 k, LeO (regimenlaw11_QuotePuts.f k a0 a1) (regimenlaw11_QuotePuts.f (k + 1) a0 a1) := by
  intro a0 a1 k
  have ih0 := regimenlaw11_QuotePuts.mono_l k
  unfold regimenlaw11_QuotePuts.f
  repeat' first
      | (with_reducible exact ih0 _ _ _)
      | (with_reducible exact quote_Get.mono _ _)
      | (with_reducible exact quote_Put.mono _ _)
      | (with_reducible exact quote_Span.mono _ _)
      | (with_reducible exact regimenlaw11_awake.mono _)
      | (with_reducible exact regimenref11_Put.mono _ _)
      | (with_reducible exact LeO.refl _)
      | (with_reducible exact LeO.none _)
      | (with_reducible refine LeO.ite ?_ ?_)
      | (with_reducible refine LeO.bind ?_ (fun _ => ?_))
      | exact ih0 _ _ _
      | exact quote_Get.mono _ _
      | exact quote_Put.mono _ _
      | exact quote_Span.mono _ _
      | exact regimenlaw11_awake.mono _
      | exact regimenref11_Put.mono _ _
      | exact LeO.none _
      | refine LeO.ite ?_ ?_
      | refine LeO.bind ?_ (fun _ => ?_)
set_option maxHeartbeats 8000000 in
set_option maxRecDepth 100000 in
theorem regimenlaw11_QuotePuts.calls (k : Nat) (a0 : ByteArray) (a1 : ByteArray) (r : Bool) (w : World) (h : regimenlaw11_QuotePuts.f k a0 a1 = some r) :
    Calls Try.prog 9 #[.string a0, .string a1] w fun e w' => e = .returned (.bool r) ∧ Below w.heap.size w w' := by
  have HB := Aside0.mk (Below.refl w.heap.size w)
  have H : (if (a0.size : Int) > 500 then (regimenlaw11_QuotePuts.j0 k a0 a1 true) else (regimenlaw11_QuotePuts.j0 k a0 a1 (decide ((a1.size : Int) > 500)))) = some r := h
  clear h
  have HC3 := Aside0.mk H
  clear H
  go_enter Try.func9, Try.ntmps9
  go_upto_region 1 with (fail)
  go_cut [17] (fun v17 wc => ∃ (kq : Nat) (x17_2 : Bool), v17 = .bool x17_2 ∧ Aside0 (regimenlaw11_QuotePuts.j0 kq a0 a1 x17_2 = some r) ∧ Aside0 (kq ≤ k) ∧ Aside0 (Below w.heap.size w wc))
  case first =>
    have H := HC3.out
    clear HC3
    by_cases c4 : (a0.size : Int) > 500
    · rw [if_pos c4] at H
      have c4b0 : decide (500 < (a0.size : Int)) = true := decide_eq_true c4
      have c4b1 : decide (500 < a0.size) = true := decide_eq_true (by omega)
      clear c4
      (first | rw [c4b0] | rw [c4b1] | (simp only [i64_w, i32_w]; rw [c4b0]) | skip)
      have H' := Aside0.mk H
      clear H
      go_wp2
      go_meet
      case rel => exact ⟨_, (true), (by first | rfl | (simp; done) | (simp [*]; done)), H', ⟨by first | omega | exact Nat.le_refl _⟩, ⟨by repeat (first | (with_reducible first | exact HB.out | apply below_alloc | apply pw_below_drewN | apply below_drew1) | exact HB.out)⟩⟩
    · rw [if_neg c4] at H
      have c4b0 : decide (500 < (a0.size : Int)) = false := decide_eq_false c4
      have c4b1 : decide (500 < a0.size) = false := decide_eq_false (by omega)
      clear c4
      (first | rw [c4b0] | rw [c4b1] | (simp only [i64_w, i32_w]; rw [c4b0]) | skip)
      have H' := Aside0.mk H
      clear H
      go_wp2
      go_meet
      case rel => exact ⟨_, (decide ((a1.size : Int) > 500)), (by first | rfl | (simp; done) | (simp [*]; done)), H', ⟨by first | omega | exact Nat.le_refl _⟩, ⟨by repeat (first | (with_reducible first | exact HB.out | apply below_alloc | apply pw_below_drewN | apply below_drew1) | exact HB.out)⟩⟩
  case rest =>
    clear HC3
    try clear p2
    try clear c4
    try clear c4b0
    try clear c4b1
    obtain ⟨kq, x17_2, rfl, HA, HJ2, HB⟩ := hcut
    cases kq with
    | zero => exact absurd HA.out (by simp [regimenlaw11_QuotePuts.j0])
    | succ kj2 =>
      have H := HA.out
      clear HA
      simp only [regimenlaw11_QuotePuts.j0] at H
      by_cases c5 : x17_2 = true
      · subst c5
        have H1 : ((regimenlaw11_awake.f kj2).bind fun t168 => (some t168)) = some r := by rw [if_pos rfl] at H; exact H
        clear H
        have H := H1
        clear H1
        replace H := Option.bind_eq_some_iff.mp H
        obtain ⟨t168, A60, H⟩ := H
        replace H : (some t168) = some r := H
        have A6 := Aside0.mk A60
        clear A60
        obtain rfl := Option.some.inj H
        go_wp2_with (first | ((with_reducible refine gate_callee (f := 38) rfl ?_); refine goesL_ (some 18) rfl rfl Try.func38 (by kernel_rfl) rfl #[] rfl (by (try simp only [List.map_toArray, List.map_cons, List.map_nil]); first | done | rfl | (simp only [List.length_drop, List.length_take]; rfl)) ?_; (with_reducible refine (regimenlaw11_awake.calls kj2  t168 _ A6.out).mono ?_); rintro e w7 ⟨rfl, hb⟩; refine ⟨_, rfl, ?_⟩; have n0_ := Aside0.mk (below_step (by repeat (first | (with_reducible first | exact HB.out | apply below_alloc | apply pw_below_drewN | apply below_drew1) | exact HB.out)) hb); clear HB; have HB := n0_; clear n0_; (try clear hb); (try clear hb2); (try clear hk); (try clear hi)))
        go_ret
        exact ⟨by first | rfl | (simp [errW_none, errW_some] <;> rfl) | (simp [*, errW_none, errW_some] <;> rfl), by repeat (first | (with_reducible first | exact HB.out | apply below_alloc | apply pw_below_drewN | apply below_drew1) | exact HB.out)⟩
      · replace c5 := Bool.eq_false_iff.mpr c5
        subst c5
        have H1 : ((quote_Put.f kj2 a0).bind fun t169 => ((quote_Get.f kj2 t169).bind fun bt170 => (if t169.size + a1.size ≤ 9223372036854775807 then ((quote_Span.f kj2 (t169 ++ a1)).bind fun bt172 => ((regimenref11_Put.f kj2 a0).bind fun t174 => (if t169.toList = t174.toList then (if bt170.1.toList = a0.toList then (if bt170.2 = 0 then (if bt172.1 = (t169.size : Int) then (if bt172.2 = true then ((regimenlaw11_awake.f kj2).bind fun t175 => (some t175)) else (none)) else (none)) else (none)) else (none)) else (none)))) else (none)))) = some r := by rw [if_neg (show ¬ (false = true) by decide)] at H; exact H
        clear H
        have H := H1
        clear H1
        replace H := Option.bind_eq_some_iff.mp H
        obtain ⟨t169, A80, H⟩ := H
        replace H : ((quote_Get.f kj2 t169).bind fun bt170 => (if t169.size + a1.size ≤ 9223372036854775807 then ((quote_Span.f kj2 (t169 ++ a1)).bind fun bt172 => ((regimenref11_Put.f kj2 a0).bind fun t174 => (if t169.toList = t174.toList then (if bt170.1.toList = a0.toList then (if bt170.2 = 0 then (if bt172.1 = (t169.size : Int) then (if bt172.2 = true then ((regimenlaw11_awake.f kj2).bind fun t175 => (some t175)) else (none)) else (none)) else (none)) else (none)) else (none)))) else (none))) = some r := H
        have A8 := Aside0.mk A80
        clear A80
        replace H := Option.bind_eq_some_iff.mp H
        obtain ⟨⟨t170, t171⟩, A90, H⟩ := H
        replace H : (if t169.size + a1.size ≤ 9223372036854775807 then ((quote_Span.f kj2 (t169 ++ a1)).bind fun bt172 => ((regimenref11_Put.f kj2 a0).bind fun t174 => (if t169.toList = t174.toList then (if t170.toList = a0.toList then (if t171 = 0 then (if bt172.1 = (t169.size : Int) then (if bt172.2 = true then ((regimenlaw11_awake.f kj2).bind fun t175 => (some t175)) else (none)) else (none)) else (none)) else (none)) else (none)))) else (none)) = some r := H
        have A9 := Aside0.mk A90
        clear A90
        by_cases c10 : t169.size + a1.size ≤ 9223372036854775807
        · rw [if_pos c10] at H
          have c10b0 := eq_true c10
          have c10b1 : decide (t169.size + a1.size ≤ 9223372036854775807) = true := decide_eq_true c10
          try have c10b2 : (9223372036854775807 < t169.size + a1.size) = False := eq_false (Nat.not_lt.2 c10)
          replace H := Option.bind_eq_some_iff.mp H
          obtain ⟨⟨t172, t173⟩, A110, H⟩ := H
          replace H : ((regimenref11_Put.f kj2 a0).bind fun t174 => (if t169.toList = t174.toList then (if t170.toList = a0.toList then (if t171 = 0 then (if t172 = (t169.size : Int) then (if t173 = true then ((regimenlaw11_awake.f kj2).bind fun t175 => (some t175)) else (none)) else (none)) else (none)) else (none)) else (none))) = some r := H
          have A11 := Aside0.mk A110
          clear A110
          replace H := Option.bind_eq_some_iff.mp H
          obtain ⟨t174, A120, H⟩ := H
          replace H : (if t169.toList = t174.toList then (if t170.toList = a0.toList then (if t171 = 0 then (if t172 = (t169.size : Int) then (if t173 = true then ((regimenlaw11_awake.f kj2).bind fun t175 => (some t175)) else (none)) else (none)) else (none)) else (none)) else (none)) = some r := H
          have A12 := Aside0.mk A120
          clear A120
          by_cases c13 : t169.toList = t174.toList
          · rw [if_pos c13] at H
            have c13b0 : (t169.toList == t174.toList) = true := beq_iff_eq.mpr c13
            have c13b1 : (t169.toList != t174.toList) = false := bne_eq_false_iff_eq.mpr c13
            clear c13
            by_cases c14 : t170.toList = a0.toList
            · rw [if_pos c14] at H
              have c14b0 : (t170.toList == a0.toList) = true := beq_iff_eq.mpr c14
              have c14b1 : (t170.toList != a0.toList) = false := bne_eq_false_iff_eq.mpr c14
              clear c14
              by_cases c15 : t171 = 0
              · rw [if_pos c15] at H
                have c15b0 : (t171 == 0) = true := beq_iff_eq.mpr c15
                have c15b1 : (t171 != 0) = false := bne_eq_false_iff_eq.mpr c15
                clear c15
                by_cases c16 : t172 = (t169.size : Int)
                · rw [if_pos c16] at H
                  have c16b0 : (t172 == (t169.size : Int)) = true := beq_iff_eq.mpr c16
                  have c16b1 : (t172 != (t169.size : Int)) = false := bne_eq_false_iff_eq.mpr c16
                  clear c16
                  by_cases c17 : t173 = true
                  · subst c17
                    have H1 : ((regimenlaw11_awake.f kj2).bind fun t175 => (some t175)) = some r := by rw [if_pos rfl] at H; exact H
                    clear H
                    have H := H1
                    clear H1
                    replace H := Option.bind_eq_some_iff.mp H
                    obtain ⟨t175, A180, H⟩ := H
                    replace H : (some t175) = some r := H
                    have A18 := Aside0.mk A180
                    clear A180
                    obtain rfl := Option.some.inj H
                    go_wp2_with (first | ((with_reducible refine gate_callee (f := 39) rfl ?_); refine goesL_ (some 20) rfl rfl Try.func39 (by kernel_rfl) rfl #[.string a0] rfl (by (try simp only [List.map_toArray, List.map_cons, List.map_nil]); first | done | rfl | (simp only [List.length_drop, List.length_take]; rfl)) ?_; (with_reducible refine (quote_Put.calls kj2 a0 t169 _ A8.out).mono ?_); rintro e w19 ⟨rfl, hb⟩; refine ⟨_, rfl, ?_⟩; have n0_ := Aside0.mk (below_step (by repeat (first | (with_reducible first | exact HB.out | apply below_alloc | apply pw_below_drewN | apply below_drew1) | exact HB.out)) hb); clear HB; have HB := n0_; clear n0_; (try clear hb); (try clear hb2); (try clear hk); (try clear hi)) | ((with_reducible refine gate_callee (f := 40) rfl ?_); refine goesL_ (some 23) rfl rfl Try.func40 (by kernel_rfl) rfl #[.string t169] rfl (by (try simp only [List.map_toArray, List.map_cons, List.map_nil]); first | done | rfl | (simp only [List.length_drop, List.length_take]; rfl)) ?_; (with_reducible refine (quote_Get.calls kj2 t169 t170 t171 _ A9.out).mono ?_); rintro e w20 ⟨rfl, hb⟩; refine ⟨_, rfl, ?_⟩; have n0_ := Aside0.mk (below_step (by repeat (first | (with_reducible first | exact HB.out | apply below_alloc | apply pw_below_drewN | apply below_drew1) | exact HB.out)) hb); clear HB; have HB := n0_; clear n0_; (try clear hb); (try clear hb2); (try clear hk); (try clear hi)) | ((with_reducible refine gate_callee (f := 41) rfl ?_); refine goesL_ (some 30) rfl rfl Try.func41 (by kernel_rfl) rfl #[.string (t169 ++ a1)] rfl (by (try simp only [List.map_toArray, List.map_cons, List.map_nil]); first | done | rfl | (simp only [List.length_drop, List.length_take]; rfl)) ?_; (with_reducible refine (quote_Span.calls kj2 (t169 ++ a1) t172 true _ A11.out).mono ?_); rintro e w21 ⟨rfl, hb⟩; refine ⟨_, rfl, ?_⟩; have n0_ := Aside0.mk (below_step (by repeat (first | (with_reducible first | exact HB.out | apply below_alloc | apply pw_below_drewN | apply below_drew1) | exact HB.out)) hb); clear HB; have HB := n0_; clear n0_; (try clear hb); (try clear hb2); (try clear hk); (try clear hi)) | ((with_reducible refine gate_callee (f := 42) rfl ?_); refine goesL_ (some 35) rfl rfl Try.func42 (by kernel_rfl) rfl #[.string a0] rfl (by (try simp only [List.map_toArray, List.map_cons, List.map_nil]); first | done | rfl | (simp only [List.length_drop, List.length_take]; rfl)) ?_; (with_reducible refine (regimenref11_Put.calls kj2 a0 t174 _ A12.out).mono ?_); rintro e w22 ⟨rfl, hb⟩; refine ⟨_, rfl, ?_⟩; have n0_ := Aside0.mk (below_step (by repeat (first | (with_reducible first | exact HB.out | apply below_alloc | apply pw_below_drewN | apply below_drew1) | exact HB.out)) hb); clear HB; have HB := n0_; clear n0_; (try clear hb); (try clear hb2); (try clear hk); (try clear hi)) | (go_at_call 38; (with_reducible refine (regimenlaw11_awake.calls kj2  t175 _ A18.out).mono ?_); rintro e w23 ⟨rfl, hb⟩; have n0_ := Aside0.mk (below_step (by repeat (first | (with_reducible first | exact HB.out | apply below_alloc | apply pw_below_drewN | apply below_drew1) | exact HB.out)) hb); clear HB; have HB := n0_; clear n0_; (try clear hb); (try clear hb2); (try clear hk); (try clear hi)))
                    go_ret
                    exact ⟨by first | rfl | (simp [errW_none, errW_some] <;> rfl) | (simp [*, errW_none, errW_some] <;> rfl), by repeat (first | (with_reducible first | exact HB.out | apply below_alloc | apply pw_below_drewN | apply below_drew1) | exact HB.out)⟩
                  · replace c17 := Bool.eq_false_iff.mpr c17
                    subst c17
                    have H1 : (none) = some r := by rw [if_neg (show ¬ (false = true) by decide)] at H; exact H
                    clear H
                    have H := H1
                    clear H1
                    exact absurd H (by simp)
                · rw [if_neg c16] at H
                  exact absurd H (by simp)
              · rw [if_neg c15] at H
                exact absurd H (by simp)
            · rw [if_neg c14] at H
              exact absurd H (by simp)
          · rw [if_neg c13] at H
            exact absurd H (by simp)
        · rw [if_neg c10] at H
          exact absurd H (by simp)

/-- THE ONE PURE STATEMENT of regimenlaw11_QuotePuts: yours. -/
def regimenlaw11_QuotePuts.Pure : Prop := ∀ (a0 : ByteArray) (a1 : ByteArray), (a0.size ≤ 140737488351232) → (a1.size ≤ 140737488351232) → ∃ k, regimenlaw11_QuotePuts.f k a0 a1 = some true
theorem regimenlaw11_QuotePuts.walk (P : regimenlaw11_QuotePuts.Pure) (a0 : ByteArray) (a1 : ByteArray) (w : World) (w0 : a0.size ≤ 140737488351232) (w1 : a1.size ≤ 140737488351232) :
    Calls Try.prog 9 #[.string a0, .string a1] w fun e w' => e = .returned (.bool true) ∧ Below w.heap.size w w' := by
  obtain ⟨k, h⟩ := P a0 a1 w0 w1
  refine (regimenlaw11_QuotePuts.calls k a0 a1 true w h).mono ?_
  rintro e w' ⟨rfl, hd⟩
  exact ⟨rfl, hd⟩

end Go.Proofs.Ytbnkjchhbjbbnaa.PQ
