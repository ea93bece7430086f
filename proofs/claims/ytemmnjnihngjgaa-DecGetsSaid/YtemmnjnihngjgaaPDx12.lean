/- Go functions of this seat as plain Lean functions, each with a proof that its call comes to just what that function says, wherever that function says anything: written by a program of this session. -/
import Derived.Test.YtemmnjnihngjgaaPDx0
import Derived.Test.YtemmnjnihngjgaaPDx5
import Derived.Test.YtemmnjnihngjgaaPDx6
import Derived.Test.YtemmnjnihngjgaaPDx10
namespace Go.Proofs.Ytemmnjnihngjgaa.PD
open Go.RowKit Go.Proofs.YtemmnjnihngjgaaW.PrintWords Go.Proofs.YtemmnjnihngjgaaW.PrintLast Go.Proofs.YtemmnjnihngjgaaW.PrintMore
attribute [local go_sem] max2_int min2_int max_two min_two max_three min_three max_four min_four   -- for this text's walks alone
set_option linter.unusedVariables false
set_option linter.unusedSimpArgs false

attribute [local go_sem] isSome_setCell idx100_1
/-! ### regimenlaw05_DecGets: function 11 -/
def regimenlaw05_DecGets.f (k : Nat) (a0 : ByteArray) : Option (Bool) := if (a0.size : Int) > 60 then ((regimenlaw05_awake.f k).bind fun t336 => (some t336)) else ((dec_Get.f k a0).bind fun bt337 => ((regimenref05_Get.f k a0).bind fun bt339 => ((regimenref05_Places.f k a0).bind fun t341 => (if t341 < 0 then (if bt337.1 = bt339.1 then (if bt337.2 = bt339.2 then ((dec_Places.f k a0).bind fun t342 => (if t342 = 0 then ((regimenlaw05_awake.f k).bind fun t343 => (some t343)) else (none))) else (none)) else (none)) else (if bt337.1 = bt339.1 then (if bt337.2 = bt339.2 then ((dec_Places.f k a0).bind fun t344 => (if t344 = t341 then ((regimenlaw05_awake.f k).bind fun t345 => (some t345)) else (none))) else (none)) else (none))))))
theorem regimenlaw05_DecGets.mono : ∀ a0 k, LeO (regimenlaw05_DecGets.f k a0) (regimenlaw05_DecGets.f (k + 1) a0) := by
  intro a0 k
  unfold regimenlaw05_DecGets.f
  repeat' first
      | (with_reducible exact dec_Get.mono _ _)
      | (with_reducible exact dec_Places.mono _ _)
      | (with_reducible exact regimenlaw05_awake.mono _)
      | (with_reducible exact regimenref05_Get.mono _ _)
      | (with_reducible exact regimenref05_Places.mono _ _)
      | (with_reducible exact LeO.refl _)
      | (with_reducible exact LeO.none _)
      | (with_reducible refine LeO.ite ?_ ?_)
      | (with_reducible refine LeO.bind ?_ (fun _ => ?_))
      | exact dec_Get.mono _ _
      | exact dec_Places.mono _ _
      | exact regimenlaw05_awake.mono _
      | exact regimenref05_Get.mono _ _
      | exact regimenref05_Places.mono _ _
      | exact LeO.none _
      | refine LeO.ite ?_ ?_
      | refine LeO.bind ?_ (fun _ => ?_)
set_option maxHeartbeats 8000000 in
set_option maxRecDepth 100000 in
theorem regimenlaw05_DecGets.calls (k : Nat) (a0 : ByteArray) (r : Bool) (w : World) (h : regimenlaw05_DecGets.f k a0 = some r) :
    Calls Try.prog 11 #[.string a0] w fun e w' => e = .returned (.bool r) ∧ Below w.heap.size w w' := by
  have HB := Aside0.mk (Below.refl w.heap.size w)
  have H : (if (a0.size : Int) > 60 then ((regimenlaw05_awake.f k).bind fun t336 => (some t336)) else ((dec_Get.f k a0).bind fun bt337 => ((regimenref05_Get.f k a0).bind fun bt339 => ((regimenref05_Places.f k a0).bind fun t341 => (if t341 < 0 then (if bt337.1 = bt339.1 then (if bt337.2 = bt339.2 then ((dec_Places.f k a0).bind fun t342 => (if t342 = 0 then ((regimenlaw05_awake.f k).bind fun t343 => (some t343)) else (none))) else (none)) else (none)) else (if bt337.1 = bt339.1 then (if bt337.2 = bt339.2 then ((dec_Places.f k a0).bind fun t344 => (if t344 = t341 then ((regimenlaw05_awake.f k).bind fun t345 => (some t345)) else (none))) else (none)) else (none))))))) = some r := h
  clear h
  by_cases c2 : (a0.size : Int) > 60
  · rw [if_pos c2] at H
    have c2b0 : decide (60 < (a0.size : Int)) = true := decide_eq_true c2
    have c2b1 : decide (60 < a0.size) = true := decide_eq_true (by omega)
    clear c2
    replace H := Option.bind_eq_some_iff.mp H
    obtain ⟨t336, A30, H⟩ := H
    replace H : (some t336) = some r := H
    have A3 := Aside0.mk A30
    clear A30
    obtain rfl := Option.some.inj H
    go_enter Try.func11, Try.ntmps11
    go_wp2_with (first | ((with_reducible refine gate_callee (f := 48) rfl ?_); refine goesL_ (some 11) rfl rfl Try.func48 (by kernel_rfl) rfl #[] rfl (by (try simp only [List.map_toArray, List.map_cons, List.map_nil]); first | done | rfl | (simp only [List.length_drop, List.length_take]; rfl)) ?_; (with_reducible refine (regimenlaw05_awake.calls k  t336 _ A3.out).mono ?_); rintro e w4 ⟨rfl, hb⟩; refine ⟨_, rfl, ?_⟩; have n0_ := Aside0.mk (below_step (by repeat (first | (with_reducible first | exact HB.out | apply below_alloc | apply pw_below_drewN | apply below_drew1) | exact HB.out)) hb); clear HB; have HB := n0_; clear n0_; (try clear hb); (try clear hb2); (try clear hk); (try clear hi)))
    go_ret
    exact ⟨by first | rfl | (simp [errW_none, errW_some] <;> rfl) | (simp [*, errW_none, errW_some] <;> rfl), by repeat (first | (with_reducible first | exact HB.out | apply below_alloc | apply pw_below_drewN | apply below_drew1) | exact HB.out)⟩
  · rw [if_neg c2] at H
    have c2b0 : decide (60 < (a0.size : Int)) = false := decide_eq_false c2
    have c2b1 : decide (60 < a0.size) = false := decide_eq_false (by omega)
    clear c2
    replace H := Option.bind_eq_some_iff.mp H
    obtain ⟨⟨t337, t338⟩, A50, H⟩ := H
    replace H : ((regimenref05_Get.f k a0).bind fun bt339 => ((regimenref05_Places.f k a0).bind fun t341 => (if t341 < 0 then (if t337 = bt339.1 then (if t338 = bt339.2 then ((dec_Places.f k a0).bind fun t342 => (if t342 = 0 then ((regimenlaw05_awake.f k).bind fun t343 => (some t343)) else (none))) else (none)) else (none)) else (if t337 = bt339.1 then (if t338 = bt339.2 then ((dec_Places.f k a0).bind fun t344 => (if t344 = t341 then ((regimenlaw05_awake.f k).bind fun t345 => (some t345)) else (none))) else (none)) else (none))))) = some r := H
    have A5 := Aside0.mk A50
    clear A50
    replace H := Option.bind_eq_some_iff.mp H
    obtain ⟨⟨t339, t340⟩, A60, H⟩ := H
    replace H : ((regimenref05_Places.f k a0).bind fun t341 => (if t341 < 0 then (if t337 = t339 then (if t338 = t340 then ((dec_Places.f k a0).bind fun t342 => (if t342 = 0 then ((regimenlaw05_awake.f k).bind fun t343 => (some t343)) else (none))) else (none)) else (none)) else (if t337 = t339 then (if t338 = t340 then ((dec_Places.f k a0).bind fun t344 => (if t344 = t341 then ((regimenlaw05_awake.f k).bind fun t345 => (some t345)) else (none))) else (none)) else (none)))) = some r := H
    have A6 := Aside0.mk A60
    clear A60
    replace H := Option.bind_eq_some_iff.mp H
    obtain ⟨t341, A70, H⟩ := H
    replace H : (if t341 < 0 then (if t337 = t339 then (if t338 = t340 then ((dec_Places.f k a0).bind fun t342 => (if t342 = 0 then ((regimenlaw05_awake.f k).bind fun t343 => (some t343)) else (none))) else (none)) else (none)) else (if t337 = t339 then (if t338 = t340 then ((dec_Places.f k a0).bind fun t344 => (if t344 = t341 then ((regimenlaw05_awake.f k).bind fun t345 => (some t345)) else (none))) else (none)) else (none))) = some r := H
    have A7 := Aside0.mk A70
    clear A70
    by_cases c8 : t341 < 0
    · rw [if_pos c8] at H
      have c8b0 : decide (t341 < 0) = true := decide_eq_true c8
      clear c8
      by_cases c9 : t337 = t339
      · rw [if_pos c9] at H
        have c9b0 : (t337 == t339) = true := beq_iff_eq.mpr c9
        have c9b1 : (t337 != t339) = false := bne_eq_false_iff_eq.mpr c9
        clear c9
        by_cases c10 : t338 = t340
        · rw [if_pos c10] at H
          have c10b0 : (t338 == t340) = true := beq_iff_eq.mpr c10
          have c10b1 : (t338 != t340) = false := bne_eq_false_iff_eq.mpr c10
          clear c10
          replace H := Option.bind_eq_some_iff.mp H
          obtain ⟨t342, A110, H⟩ := H
          replace H : (if t342 = 0 then ((regimenlaw05_awake.f k).bind fun t343 => (some t343)) else (none)) = some r := H
          have A11 := Aside0.mk A110
          clear A110
          by_cases c12 : t342 = 0
          · rw [if_pos c12] at H
            have c12b0 : (t342 == 0) = true := beq_iff_eq.mpr c12
            have c12b1 : (t342 != 0) = false := bne_eq_false_iff_eq.mpr c12
            clear c12
            replace H := Option.bind_eq_some_iff.mp H
            obtain ⟨t343, A130, H⟩ := H
            replace H : (some t343) = some r := H
            have A13 := Aside0.mk A130
            clear A130
            obtain rfl := Option.some.inj H
            go_enter Try.func11, Try.ntmps11
            go_wp2_with (first | ((with_reducible refine gate_callee (f := 49) rfl ?_); refine goesL_ (some 14) rfl rfl Try.func49 (by kernel_rfl) rfl #[.string a0] rfl (by (try simp only [List.map_toArray, List.map_cons, List.map_nil]); first | done | rfl | (simp only [List.length_drop, List.length_take]; rfl)) ?_; (with_reducible refine (dec_Get.calls k a0 t337 t338 _ A5.out).mono ?_); rintro e w14 ⟨rfl, hb⟩; refine ⟨_, rfl, ?_⟩; have n0_ := Aside0.mk (below_step (by repeat (first | (with_reducible first | exact HB.out | apply below_alloc | apply pw_below_drewN | apply below_drew1) | exact HB.out)) hb); clear HB; have HB := n0_; clear n0_; (try clear hb); (try clear hb2); (try clear hk); (try clear hi)) | ((with_reducible refine gate_callee (f := 50) rfl ?_); refine goesL_ (some 19) rfl rfl Try.func50 (by kernel_rfl) rfl #[.string a0] rfl (by (try simp only [List.map_toArray, List.map_cons, List.map_nil]); first | done | rfl | (simp only [List.length_drop, List.length_take]; rfl)) ?_; (with_reducible refine (regimenref05_Get.calls k a0 t339 t340 _ A6.out).mono ?_); rintro e w15 ⟨rfl, hb⟩; refine ⟨_, rfl, ?_⟩; have n0_ := Aside0.mk (below_step (by repeat (first | (with_reducible first | exact HB.out | apply below_alloc | apply pw_below_drewN | apply below_drew1) | exact HB.out)) hb); clear HB; have HB := n0_; clear n0_; (try clear hb); (try clear hb2); (try clear hk); (try clear hi)) | ((with_reducible refine gate_callee (f := 51) rfl ?_); refine goesL_ (some 23) rfl rfl Try.func51 (by kernel_rfl) rfl #[.string a0] rfl (by (try simp only [List.map_toArray, List.map_cons, List.map_nil]); first | done | rfl | (simp only [List.length_drop, List.length_take]; rfl)) ?_; (with_reducible refine (regimenref05_Places.calls k a0 t341 _ A7.out).mono ?_); rintro e w' ⟨rfl, ⟨nd, rfl⟩⟩; refine ⟨_, rfl, ?_⟩) | (go_at_call 52; (with_reducible refine (dec_Places.calls k a0 t342 _ A11.out).mono ?_); rintro e w16 ⟨rfl, hb⟩; have n0_ := Aside0.mk (below_step (by repeat (first | (with_reducible first | exact HB.out | apply below_alloc | apply pw_below_drewN | apply below_drew1) | exact HB.out)) hb); clear HB; have HB := n0_; clear n0_; (try clear hb); (try clear hb2); (try clear hk); (try clear hi)) | (go_at_call 48; (with_reducible refine (regimenlaw05_awake.calls k  t343 _ A13.out).mono ?_); rintro e w17 ⟨rfl, hb⟩; have n0_ := Aside0.mk (below_step (by repeat (first | (with_reducible first | exact HB.out | apply below_alloc | apply pw_below_drewN | apply below_drew1) | exact HB.out)) hb); clear HB; have HB := n0_; clear n0_; (try clear hb); (try clear hb2); (try clear hk); (try clear hi)))
            go_ret
            exact ⟨by first | rfl | (simp [errW_none, errW_some] <;> rfl) | (simp [*, errW_none, errW_some] <;> rfl), by repeat (first | (with_reducible first | exact HB.out | apply below_alloc | apply pw_below_drewN | apply below_drew1) | exact HB.out)⟩
          · rw [if_neg c12] at H
            exact absurd H (by simp)
        · rw [if_neg c10] at H
          exact absurd H (by simp)
      · rw [if_neg c9] at H
        exact absurd H (by simp)
    · rw [if_neg c8] at H
      have c8b0 : decide (t341 < 0) = false := decide_eq_false c8
      clear c8
      by_cases c18 : t337 = t339
      · rw [if_pos c18] at H
        have c18b0 : (t337 == t339) = true := beq_iff_eq.mpr c18
        have c18b1 : (t337 != t339) = false := bne_eq_false_iff_eq.mpr c18
        clear c18
        by_cases c19 : t338 = t340
        · rw [if_pos c19] at H
          have c19b0 : (t338 == t340) = true := beq_iff_eq.mpr c19
          have c19b1 : (t338 != t340) = false := bne_eq_false_iff_eq.mpr c19
          clear c19
          replace H := Option.bind_eq_some_iff.mp H
          obtain ⟨t344, A200, H⟩ := H
          replace H : (if t344 = t341 then ((regimenlaw05_awake.f k).bind fun t345 => (some t345)) else (none)) = some r := H
          have A20 := Aside0.mk A200
          clear A200
          by_cases c21 : t344 = t341
          · rw [if_pos c21] at H
            have c21b0 : (t344 == t341) = true := beq_iff_eq.mpr c21
            have c21b1 : (t344 != t341) = false := bne_eq_false_iff_eq.mpr c21
            clear c21
            replace H := Option.bind_eq_some_iff.mp H
            obtain ⟨t345, A220, H⟩ := H
            replace H : (some t345) = some r := H
            have A22 := Aside0.mk A220
            clear A220
            obtain rfl := Option.some.inj H
            go_enter Try.func11, Try.ntmps11
            go_wp2_with (first | ((with_reducible refine gate_callee (f := 49) rfl ?_); refine goesL_ (some 14) rfl rfl Try.func49 (by kernel_rfl) rfl #[.string a0] rfl (by (try simp only [List.map_toArray, List.map_cons, List.map_nil]); first | done | rfl | (simp only [List.length_drop, List.length_take]; rfl)) ?_; (with_reducible refine (dec_Get.calls k a0 t337 t338 _ A5.out).mono ?_); rintro e w23 ⟨rfl, hb⟩; refine ⟨_, rfl, ?_⟩; have n0_ := Aside0.mk (below_step (by repeat (first | (with_reducible first | exact HB.out | apply below_alloc | apply pw_below_drewN | apply below_drew1) | exact HB.out)) hb); clear HB; have HB := n0_; clear n0_; (try clear hb); (try clear hb2); (try clear hk); (try clear hi)) | ((with_reducible refine gate_callee (f := 50) rfl ?_); refine goesL_ (some 19) rfl rfl Try.func50 (by kernel_rfl) rfl #[.string a0] rfl (by (try simp only [List.map_toArray, List.map_cons, List.map_nil]); first | done | rfl | (simp only [List.length_drop, List.length_take]; rfl)) ?_; (with_reducible refine (regimenref05_Get.calls k a0 t339 t340 _ A6.out).mono ?_); rintro e w24 ⟨rfl, hb⟩; refine ⟨_, rfl, ?_⟩; have n0_ := Aside0.mk (below_step (by repeat (first | (with_reducible first | exact HB.out | apply below_alloc | apply pw_below_drewN | apply below_drew1) | exact HB.out)) hb); clear HB; have HB := n0_; clear n0_; (try clear hb); (try clear hb2); (try clear hk); (try clear hi)) | ((with_reducible refine gate_callee (f := 51) rfl ?_); refine goesL_ (some 23) rfl rfl Try.func51 (by kernel_rfl) rfl #[.string a0] rfl (by (try simp only [List.map_toArray, List.map_cons, List.map_nil]); first | done | rfl | (simp only [List.length_drop, List.length_take]; rfl)) ?_; (with_reducible refine (regimenref05_Places.calls k a0 t341 _ A7.out).mono ?_); rintro e w' ⟨rfl, ⟨nd, rfl⟩⟩; refine ⟨_, rfl, ?_⟩) | (go_at_call 52; (with_reducible refine (dec_Places.calls k a0 t344 _ A20.out).mono ?_); rintro e w25 ⟨rfl, hb⟩; have n0_ := Aside0.mk (below_step (by repeat (first | (with_reducible first | exact HB.out | apply below_alloc | apply pw_below_drewN | apply below_drew1) | exact HB.out)) hb); clear HB; have HB := n0_; clear n0_; (try clear hb); (try clear hb2); (try clear hk); (try clear hi)) | (go_at_call 48; (with_reducible refine (regimenlaw05_awake.calls k  t345 _ A22.out).mono ?_); rintro e w26 ⟨rfl, hb⟩; have n0_ := Aside0.mk (below_step (by repeat (first | (with_reducible first | exact HB.out | apply below_alloc | apply pw_below_drewN | apply below_drew1) | exact HB.out)) hb); clear HB; have HB := n0_; clear n0_; (try clear hb); (try clear hb2); (try clear hk); (try clear hi)))
            go_ret
            exact ⟨by first | rfl | (simp [errW_none, errW_some] <;> rfl) | (simp [*, errW_none, errW_some] <;> rfl), by repeat (first | (with_reducible first | exact HB.out | apply below_alloc | apply pw_below_drewN | apply below_drew1) | exact HB.out)⟩
          · rw [if_neg c21] at H
            exact absurd H (by simp)
        · rw [if_neg c19] at H
          exact absurd H (by simp)
      · rw [if_neg c18] at H
        exact absurd H (by simp)

/-- THE ONE PURE STATEMENT of regimenlaw05_DecGets: yours. -/
def regimenlaw05_DecGets.Pure : Prop := ∀ (a0 : ByteArray), (a0.size ≤ 140737488351232) → ∃ k, regimenlaw05_DecGets.f k a0 = some true
theorem regimenlaw05_DecGets.walk (P : regimenlaw05_DecGets.Pure) (a0 : ByteArray) (w : World) (w0 : a0.size ≤ 140737488351232) :
    Calls Try.prog 11 #[.string a0] w fun e w' => e = .returned (.bool true) ∧ Below w.heap.size w w' := by
  obtain ⟨k, h⟩ := P a0 w0
  refine (regimenlaw05_DecGets.calls k a0 true w h).mono ?_
  rintro e w' ⟨rfl, hd⟩
  exact ⟨rfl, hd⟩

end Go.Proofs.Ytemmnjnihngjgaa.PD
