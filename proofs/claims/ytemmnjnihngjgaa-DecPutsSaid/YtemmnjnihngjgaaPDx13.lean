/- Go functions of this seat as plain Lean functions, each with a proof that its call comes to just what that function says, wherever that function says anything: written by a program of this session. -/
import Derived.Test.YtemmnjnihngjgaaPDx0
import Derived.Test.YtemmnjnihngjgaaPDx5
import Derived.Test.YtemmnjnihngjgaaPDx6
import Derived.Test.YtemmnjnihngjgaaPDx11
namespace Go.Proofs.Ytemmnjnihngjgaa.PD
open Go.RowKit Go.Proofs.YtemmnjnihngjgaaW.PrintWords Go.Proofs.YtemmnjnihngjgaaW.PrintLast Go.Proofs.YtemmnjnihngjgaaW.PrintMore
attribute [local go_sem] max2_int min2_int max_two min_two max_three min_three max_four min_four   -- for this text's walks alone
set_option linter.unusedVariables false
set_option linter.unusedSimpArgs false

attribute [local go_sem] isSome_setCell idx100_1
/-! ### regimenlaw05_DecPuts: function 12 -/
def regimenlaw05_DecPuts.f (k : Nat) (a0 : Int) : Option (Bool) := (dec_Put.f k a0).bind fun t402 => ((dec_Get.f k t402).bind fun bt403 => ((regimenref05_Put.f k a0).bind fun t405 => (if t402.toList = t405.toList then (if bt403.1 = a0 then (if bt403.2 = 0 then ((regimenlaw05_awake.f k).bind fun t406 => (some t406)) else (none)) else (none)) else (none))))
theorem regimenlaw05_DecPuts.mono : ∀ a0 k, LeO (regimenlaw05_DecPuts.f k a0) (regimenlaw05_DecPuts.f (k + 1) a0) := by
  intro a0 k
  unfold regimenlaw05_DecPuts.f
  repeat' first
      | (with_reducible exact dec_Get.mono _ _)
      | (with_reducible exact dec_Put.mono _ _)
      | (with_reducible exact regimenlaw05_awake.mono _)
      | (with_reducible exact regimenref05_Put.mono _ _)
      | (with_reducible exact LeO.refl _)
      | (with_reducible exact LeO.none _)
      | (with_reducible refine LeO.ite ?_ ?_)
      | (with_reducible refine LeO.bind ?_ (fun _ => ?_))
      | exact dec_Get.mono _ _
      | exact dec_Put.mono _ _
      | exact regimenlaw05_awake.mono _
      | exact regimenref05_Put.mono _ _
      | exact LeO.none _
      | refine LeO.ite ?_ ?_
      | refine LeO.bind ?_ (fun _ => ?_)
set_option maxHeartbeats 8000000 in
set_option maxRecDepth 100000 in
theorem regimenlaw05_DecPuts.calls (k : Nat) (a0 : Int) (r : Bool) (w : World) (h : regimenlaw05_DecPuts.f k a0 = some r) :
    Calls Try.prog 12 #[.int .i64 a0] w fun e w' => e = .returned (.bool r) ∧ Below w.heap.size w w' := by
  have HB := Aside0.mk (Below.refl w.heap.size w)
  have H : ((dec_Put.f k a0).bind fun t402 => ((dec_Get.f k t402).bind fun bt403 => ((regimenref05_Put.f k a0).bind fun t405 => (if t402.toList = t405.toList then (if bt403.1 = a0 then (if bt403.2 = 0 then ((regimenlaw05_awake.f k).bind fun t406 => (some t406)) else (none)) else (none)) else (none))))) = some r := h
  clear h
  replace H := Option.bind_eq_some_iff.mp H
  obtain ⟨t402, A20, H⟩ := H
  replace H : ((dec_Get.f k t402).bind fun bt403 => ((regimenref05_Put.f k a0).bind fun t405 => (if t402.toList = t405.toList then (if bt403.1 = a0 then (if bt403.2 = 0 then ((regimenlaw05_awake.f k).bind fun t406 => (some t406)) else (none)) else (none)) else (none)))) = some r := H
  have A2 := Aside0.mk A20
  clear A20
  replace H := Option.bind_eq_some_iff.mp H
  obtain ⟨⟨t403, t404⟩, A30, H⟩ := H
  replace H : ((regimenref05_Put.f k a0).bind fun t405 => (if t402.toList = t405.toList then (if t403 = a0 then (if t404 = 0 then ((regimenlaw05_awake.f k).bind fun t406 => (some t406)) else (none)) else (none)) else (none))) = some r := H
  have A3 := Aside0.mk A30
  clear A30
  replace H := Option.bind_eq_some_iff.mp H
  obtain ⟨t405, A40, H⟩ := H
  replace H : (if t402.toList = t405.toList then (if t403 = a0 then (if t404 = 0 then ((regimenlaw05_awake.f k).bind fun t406 => (some t406)) else (none)) else (none)) else (none)) = some r := H
  have A4 := Aside0.mk A40
  clear A40
  by_cases c5 : t402.toList = t405.toList
  · rw [if_pos c5] at H
    have c5b0 : (t402.toList == t405.toList) = true := beq_iff_eq.mpr c5
    have c5b1 : (t402.toList != t405.toList) = false := bne_eq_false_iff_eq.mpr c5
    clear c5
    by_cases c6 : t403 = a0
    · rw [if_pos c6] at H
      have c6b0 : (t403 == a0) = true := beq_iff_eq.mpr c6
      have c6b1 : (t403 != a0) = false := bne_eq_false_iff_eq.mpr c6
      clear c6
      by_cases c7 : t404 = 0
      · rw [if_pos c7] at H
        have c7b0 : (t404 == 0) = true := beq_iff_eq.mpr c7
        have c7b1 : (t404 != 0) = false := bne_eq_false_iff_eq.mpr c7
        clear c7
        replace H := Option.bind_eq_some_iff.mp H
        obtain ⟨t406, A80, H⟩ := H
        replace H : (some t406) = some r := H
        have A8 := Aside0.mk A80
        clear A80
        obtain rfl := Option.some.inj H
        go_enter Try.func12, Try.ntmps12
        go_wp2_with (first | ((with_reducible refine gate_callee (f := 53) rfl ?_); refine goesL_ (some 7) rfl rfl Try.func53 (by kernel_rfl) rfl #[.int .i64 a0] rfl (by (try simp only [List.map_toArray, List.map_cons, List.map_nil]); first | done | rfl | (simp only [List.length_drop, List.length_take]; rfl)) ?_; (with_reducible refine (dec_Put.calls k a0 t402 _ A2.out).mono ?_); rintro e w9 ⟨rfl, hb⟩; refine ⟨_, rfl, ?_⟩; have n0_ := Aside0.mk (below_step (by repeat (first | (with_reducible first | exact HB.out | apply below_alloc | apply pw_below_drewN | apply below_drew1) | exact HB.out)) hb); clear HB; have HB := n0_; clear n0_; (try clear hb); (try clear hb2); (try clear hk); (try clear hi)) | ((with_reducible refine gate_callee (f := 49) rfl ?_); refine goesL_ (some 10) rfl rfl Try.func49 (by kernel_rfl) rfl #[.string t402] rfl (by (try simp only [List.map_toArray, List.map_cons, List.map_nil]); first | done | rfl | (simp only [List.length_drop, List.length_take]; rfl)) ?_; (with_reducible refine (dec_Get.calls k t402 t403 t404 _ A3.out).mono ?_); rintro e w10 ⟨rfl, hb⟩; refine ⟨_, rfl, ?_⟩; have n0_ := Aside0.mk (below_step (by repeat (first | (with_reducible first | exact HB.out | apply below_alloc | apply pw_below_drewN | apply below_drew1) | exact HB.out)) hb); clear HB; have HB := n0_; clear n0_; (try clear hb); (try clear hb2); (try clear hk); (try clear hi)) | ((with_reducible refine gate_callee (f := 54) rfl ?_); refine goesL_ (some 15) rfl rfl Try.func54 (by kernel_rfl) rfl #[.int .i64 a0] rfl (by (try simp only [List.map_toArray, List.map_cons, List.map_nil]); first | done | rfl | (simp only [List.length_drop, List.length_take]; rfl)) ?_; (with_reducible refine (regimenref05_Put.calls k a0 t405 _ A4.out).mono ?_); rintro e w11 ⟨rfl, hb⟩; refine ⟨_, rfl, ?_⟩; have n0_ := Aside0.mk (below_step (by repeat (first | (with_reducible first | exact HB.out | apply below_alloc | apply pw_below_drewN | apply below_drew1) | exact HB.out)) hb); clear HB; have HB := n0_; clear n0_; (try clear hb); (try clear hb2); (try clear hk); (try clear hi)) | (go_at_call 48; (with_reducible refine (regimenlaw05_awake.calls k  t406 _ A8.out).mono ?_); rintro e w12 ⟨rfl, hb⟩; have n0_ := Aside0.mk (below_step (by repeat (first | (with_reducible first | exact HB.out | apply below_alloc | apply pw_below_drewN | apply below_drew1) | exact HB.out)) hb); clear HB; have HB := n0_; clear n0_; (try clear hb); (try clear hb2); (try clear hk); (try clear hi)))
        go_ret
        exact ⟨by first | rfl | (simp [errW_none, errW_some] <;> rfl) | (simp [*, errW_none, errW_some] <;> rfl), by repeat (first | (with_reducible first | exact HB.out | apply below_alloc | apply pw_below_drewN | apply below_drew1) | exact HB.out)⟩
      · rw [if_neg c7] at H
        exact absurd H (by simp)
    · rw [if_neg c6] at H
      exact absurd H (by simp)
  · rw [if_neg c5] at H
    exact absurd H (by simp)

/-- THE ONE PURE STATEMENT of regimenlaw05_DecPuts: yours. -/
def regimenlaw05_DecPuts.Pure : Prop := ∀ (a0 : Int), ((Lit.int .i64 a0).wf = true) → ∃ k, regimenlaw05_DecPuts.f k a0 = some true
theorem regimenlaw05_DecPuts.walk (P : regimenlaw05_DecPuts.Pure) (a0 : Int) (w : World) (w0 : (Lit.int .i64 a0).wf = true) :
    Calls Try.prog 12 #[.int .i64 a0] w fun e w' => e = .returned (.bool true) ∧ Below w.heap.size w w' := by
  obtain ⟨k, h⟩ := P a0 w0
  refine (regimenlaw05_DecPuts.calls k a0 true w h).mono ?_
  rintro e w' ⟨rfl, hd⟩
  exact ⟨rfl, hd⟩

end Go.Proofs.Ytemmnjnihngjgaa.PD
