/- Go functions of this seat as plain Lean functions, each with a proof that its call comes to just what that function says, wherever that function says anything: written by a program of this session. -/
import Derived.Test.YtemmnjnihngjgaaPDx0
import Derived.Test.YtemmnjnihngjgaaPDx5
namespace Go.Proofs.Ytemmnjnihngjgaa.PD
open Go.RowKit Go.Proofs.YtemmnjnihngjgaaW.PrintWords Go.Proofs.YtemmnjnihngjgaaW.PrintLast Go.Proofs.YtemmnjnihngjgaaW.PrintMore
attribute [local go_sem] max2_int min2_int max_two min_two max_three min_three max_four min_four   -- for this text's walks alone
set_option linter.unusedVariables false
set_option linter.unusedSimpArgs false

attribute [local go_sem] isSome_setCell idx100_1
/-! ### dec_Put: function 53 -/
def dec_Put.f (k : Nat) (a0 : Int) : Option (ByteArray) := (fix_Size.f a0).bind fun t172 => ((num_Tell.f k (wrap64 (t172 / 4294967296))).bind fun t173 => (if a0 < 0 then (if 1 + t173.size ≤ 9223372036854775807 then (if (Go.bits .and .u64 t172 4294967295) = 0 then (some ((⟨#[45]⟩ : ByteArray) ++ t173)) else ((dec_behind.f k (Go.bits .and .u64 t172 4294967295)).bind fun t174 => (if 1 + t174.size ≤ 9223372036854775807 then (if ((⟨#[45]⟩ : ByteArray) ++ t173).size + ((⟨#[46]⟩ : ByteArray) ++ t174).size ≤ 9223372036854775807 then (some (((⟨#[45]⟩ : ByteArray) ++ t173) ++ ((⟨#[46]⟩ : ByteArray) ++ t174))) else (none)) else (none)))) else (none)) else (if (Go.bits .and .u64 t172 4294967295) = 0 then (some t173) else ((dec_behind.f k (Go.bits .and .u64 t172 4294967295)).bind fun t175 => (if 1 + t175.size ≤ 9223372036854775807 then (if t173.size + ((⟨#[46]⟩ : ByteArray) ++ t175).size ≤ 9223372036854775807 then (some (t173 ++ ((⟨#[46]⟩ : ByteArray) ++ t175))) else (none)) else (none))))))
theorem dec_Put.mono : ∀ a0 k, LeO (dec_Put.f k a0) (dec_Put.f (k + 1) a0) := by
  intro a0 k
  unfold dec_Put.f
  repeat' first
      | (with_reducible exact dec_behind.mono _ _)
      | (with_reducible exact num_Tell.mono _ _)
      | (with_reducible exact LeO.refl _)
      | (with_reducible exact LeO.none _)
      | (with_reducible refine LeO.ite ?_ ?_)
      | (with_reducible refine LeO.bind ?_ (fun _ => ?_))
      | exact dec_behind.mono _ _
      | exact num_Tell.mono _ _
      | exact LeO.none _
      | refine LeO.ite ?_ ?_
      | refine LeO.bind ?_ (fun _ => ?_)
set_option maxHeartbeats 8000000 in
set_option maxRecDepth 100000 in
theorem dec_Put.calls (k : Nat) (a0 : Int) (r : ByteArray) (w : World) (h : dec_Put.f k a0 = some r) :
    Calls Try.prog 53 #[.int .i64 a0] w fun e w' => e = .returned (.string r) ∧ Below w.heap.size w w' := by
  have HB := Aside0.mk (Below.refl w.heap.size w)
  have H : ((fix_Size.f a0).bind fun t172 => ((num_Tell.f k (wrap64 (t172 / 4294967296))).bind fun t173 => (if a0 < 0 then (if 1 + t173.size ≤ 9223372036854775807 then (if (Go.bits .and .u64 t172 4294967295) = 0 then (some ((⟨#[45]⟩ : ByteArray) ++ t173)) else ((dec_behind.f k (Go.bits .and .u64 t172 4294967295)).bind fun t174 => (if 1 + t174.size ≤ 9223372036854775807 then (if ((⟨#[45]⟩ : ByteArray) ++ t173).size + ((⟨#[46]⟩ : ByteArray) ++ t174).size ≤ 9223372036854775807 then (some (((⟨#[45]⟩ : ByteArray) ++ t173) ++ ((⟨#[46]⟩ : ByteArray) ++ t174))) else (none)) else (none)))) else (none)) else (if (Go.bits .and .u64 t172 4294967295) = 0 then (some t173) else ((dec_behind.f k (Go.bits .and .u64 t172 4294967295)).bind fun t175 => (if 1 + t175.size ≤ 9223372036854775807 then (if t173.size + ((⟨#[46]⟩ : ByteArray) ++ t175).size ≤ 9223372036854775807 then (some (t173 ++ ((⟨#[46]⟩ : ByteArray) ++ t175))) else (none)) else (none))))))) = some r := h
  clear h
  replace H := Option.bind_eq_some_iff.mp H
  obtain ⟨t172, A20, H⟩ := H
  replace H : ((num_Tell.f k (wrap64 (t172 / 4294967296))).bind fun t173 => (if a0 < 0 then (if 1 + t173.size ≤ 9223372036854775807 then (if (Go.bits .and .u64 t172 4294967295) = 0 then (some ((⟨#[45]⟩ : ByteArray) ++ t173)) else ((dec_behind.f k (Go.bits .and .u64 t172 4294967295)).bind fun t174 => (if 1 + t174.size ≤ 9223372036854775807 then (if ((⟨#[45]⟩ : ByteArray) ++ t173).size + ((⟨#[46]⟩ : ByteArray) ++ t174).size ≤ 9223372036854775807 then (some (((⟨#[45]⟩ : ByteArray) ++ t173) ++ ((⟨#[46]⟩ : ByteArray) ++ t174))) else (none)) else (none)))) else (none)) else (if (Go.bits .and .u64 t172 4294967295) = 0 then (some t173) else ((dec_behind.f k (Go.bits .and .u64 t172 4294967295)).bind fun t175 => (if 1 + t175.size ≤ 9223372036854775807 then (if t173.size + ((⟨#[46]⟩ : ByteArray) ++ t175).size ≤ 9223372036854775807 then (some (t173 ++ ((⟨#[46]⟩ : ByteArray) ++ t175))) else (none)) else (none)))))) = some r := H
  have A2 := Aside0.mk A20
  clear A20
  replace H := Option.bind_eq_some_iff.mp H
  obtain ⟨t173, A30, H⟩ := H
  replace H : (if a0 < 0 then (if 1 + t173.size ≤ 9223372036854775807 then (if (Go.bits .and .u64 t172 4294967295) = 0 then (some ((⟨#[45]⟩ : ByteArray) ++ t173)) else ((dec_behind.f k (Go.bits .and .u64 t172 4294967295)).bind fun t174 => (if 1 + t174.size ≤ 9223372036854775807 then (if ((⟨#[45]⟩ : ByteArray) ++ t173).size + ((⟨#[46]⟩ : ByteArray) ++ t174).size ≤ 9223372036854775807 then (some (((⟨#[45]⟩ : ByteArray) ++ t173) ++ ((⟨#[46]⟩ : ByteArray) ++ t174))) else (none)) else (none)))) else (none)) else (if (Go.bits .and .u64 t172 4294967295) = 0 then (some t173) else ((dec_behind.f k (Go.bits .and .u64 t172 4294967295)).bind fun t175 => (if 1 + t175.size ≤ 9223372036854775807 then (if t173.size + ((⟨#[46]⟩ : ByteArray) ++ t175).size ≤ 9223372036854775807 then (some (t173 ++ ((⟨#[46]⟩ : ByteArray) ++ t175))) else (none)) else (none))))) = some r := H
  have A3 := Aside0.mk A30
  clear A30
  by_cases c4 : a0 < 0
  · rw [if_pos c4] at H
    have c4b0 : decide (a0 < 0) = true := decide_eq_true c4
    clear c4
    by_cases c5 : 1 + t173.size ≤ 9223372036854775807
    · rw [if_pos c5] at H
      have c5b0 := eq_true c5
      have c5b1 : decide (1 + t173.size ≤ 9223372036854775807) = true := decide_eq_true c5
      try have c5b2 : (9223372036854775807 < 1 + t173.size) = False := eq_false (Nat.not_lt.2 c5)
      by_cases c6 : (Go.bits .and .u64 t172 4294967295) = 0
      · rw [if_pos c6] at H
        have c6b0 : ((Go.bits .and .u64 t172 4294967295) == 0) = true := beq_iff_eq.mpr c6
        have c6b1 : ((Go.bits .and .u64 t172 4294967295) != 0) = false := bne_eq_false_iff_eq.mpr c6
        clear c6
        obtain rfl := Option.some.inj H
        go_enter Try.func53, Try.ntmps53
        go_wp2_with (first | ((with_reducible refine gate_callee (f := 93) rfl ?_); refine goesL_ (some 7) rfl rfl Try.func93 (by kernel_rfl) rfl #[.int .i64 a0] rfl (by (try simp only [List.map_toArray, List.map_cons, List.map_nil]); first | done | rfl | (simp only [List.length_drop, List.length_take]; rfl)) ?_; (with_reducible refine (fix_Size.calls a0 t172 _ A2.out).mono ?_); rintro e w' ⟨rfl, ⟨nd, rfl⟩⟩; refine ⟨_, rfl, ?_⟩) | ((with_reducible refine gate_callee (f := 94) rfl ?_); refine goesL_ (some 11) rfl rfl Try.func94 (by kernel_rfl) rfl #[.int .i64 (wrap64 (t172 / 4294967296))] rfl (by (try simp only [List.map_toArray, List.map_cons, List.map_nil]); first | done | rfl | (simp only [List.length_drop, List.length_take]; rfl)) ?_; (with_reducible refine (num_Tell.calls k (wrap64 (t172 / 4294967296)) t173 _ A3.out).mono ?_); rintro e w7 ⟨rfl, hb⟩; refine ⟨_, rfl, ?_⟩; have n0_ := Aside0.mk (below_step (by repeat (first | (with_reducible first | exact HB.out | apply below_alloc | apply pw_below_drewN | apply below_drew1) | exact HB.out)) hb); clear HB; have HB := n0_; clear n0_; (try clear hb); (try clear hb2); (try clear hk); (try clear hi)))
        go_ret
        exact ⟨by first | rfl | (simp [errW_none, errW_some] <;> rfl) | (simp [*, errW_none, errW_some] <;> rfl), by repeat (first | (with_reducible first | exact HB.out | apply below_alloc | apply pw_below_drewN | apply below_drew1) | exact HB.out)⟩
      · rw [if_neg c6] at H
        have c6b0 : ((Go.bits .and .u64 t172 4294967295) == 0) = false := beq_eq_false_iff_ne.mpr c6
        have c6b1 : ((Go.bits .and .u64 t172 4294967295) != 0) = true := bne_iff_ne.mpr c6
        replace H := Option.bind_eq_some_iff.mp H
        obtain ⟨t174, A80, H⟩ := H
        replace H : (if 1 + t174.size ≤ 9223372036854775807 then (if ((⟨#[45]⟩ : ByteArray) ++ t173).size + ((⟨#[46]⟩ : ByteArray) ++ t174).size ≤ 9223372036854775807 then (some (((⟨#[45]⟩ : ByteArray) ++ t173) ++ ((⟨#[46]⟩ : ByteArray) ++ t174))) else (none)) else (none)) = some r := H
        have A8 := Aside0.mk A80
        clear A80
        by_cases c9 : 1 + t174.size ≤ 9223372036854775807
        · rw [if_pos c9] at H
          have c9b0 := eq_true c9
          have c9b1 : decide (1 + t174.size ≤ 9223372036854775807) = true := decide_eq_true c9
          try have c9b2 : (9223372036854775807 < 1 + t174.size) = False := eq_false (Nat.not_lt.2 c9)
          by_cases c10 : ((⟨#[45]⟩ : ByteArray) ++ t173).size + ((⟨#[46]⟩ : ByteArray) ++ t174).size ≤ 9223372036854775807
          · rw [if_pos c10] at H
            have c10b0 := eq_true c10
            have c10b1 : decide (((⟨#[45]⟩ : ByteArray) ++ t173).size + ((⟨#[46]⟩ : ByteArray) ++ t174).size ≤ 9223372036854775807) = true := decide_eq_true c10
            try have c10b2 : (9223372036854775807 < ((⟨#[45]⟩ : ByteArray) ++ t173).size + ((⟨#[46]⟩ : ByteArray) ++ t174).size) = False := eq_false (Nat.not_lt.2 c10)
            obtain rfl := Option.some.inj H
            go_enter Try.func53, Try.ntmps53
            go_wp2_with (first | ((with_reducible refine gate_callee (f := 93) rfl ?_); refine goesL_ (some 7) rfl rfl Try.func93 (by kernel_rfl) rfl #[.int .i64 a0] rfl (by (try simp only [List.map_toArray, List.map_cons, List.map_nil]); first | done | rfl | (simp only [List.length_drop, List.length_take]; rfl)) ?_; (with_reducible refine (fix_Size.calls a0 t172 _ A2.out).mono ?_); rintro e w' ⟨rfl, ⟨nd, rfl⟩⟩; refine ⟨_, rfl, ?_⟩) | ((with_reducible refine gate_callee (f := 94) rfl ?_); refine goesL_ (some 11) rfl rfl Try.func94 (by kernel_rfl) rfl #[.int .i64 (wrap64 (t172 / 4294967296))] rfl (by (try simp only [List.map_toArray, List.map_cons, List.map_nil]); first | done | rfl | (simp only [List.length_drop, List.length_take]; rfl)) ?_; (with_reducible refine (num_Tell.calls k (wrap64 (t172 / 4294967296)) t173 _ A3.out).mono ?_); rintro e w11 ⟨rfl, hb⟩; refine ⟨_, rfl, ?_⟩; have n0_ := Aside0.mk (below_step (by repeat (first | (with_reducible first | exact HB.out | apply below_alloc | apply pw_below_drewN | apply below_drew1) | exact HB.out)) hb); clear HB; have HB := n0_; clear n0_; (try clear hb); (try clear hb2); (try clear hk); (try clear hi)) | ((with_reducible refine gate_callee (f := 95) rfl ?_); refine goesL_ (some 22) rfl rfl Try.func95 (by kernel_rfl) rfl #[.int .u64 (Go.bits .and .u64 t172 4294967295)] rfl (by (try simp only [List.map_toArray, List.map_cons, List.map_nil]); first | done | rfl | (simp only [List.length_drop, List.length_take]; rfl)) ?_; (with_reducible refine (dec_behind.calls k (Go.bits .and .u64 t172 4294967295) t174 _ A8.out).mono ?_); rintro e w12 ⟨rfl, hb⟩; refine ⟨_, rfl, ?_⟩; have n0_ := Aside0.mk (below_step (by repeat (first | (with_reducible first | exact HB.out | apply below_alloc | apply pw_below_drewN | apply below_drew1) | exact HB.out)) hb); clear HB; have HB := n0_; clear n0_; (try clear hb); (try clear hb2); (try clear hk); (try clear hi)))
            all_goals (try (exfalso; have hz0_ : (⟨#[45]⟩ : ByteArray).size = 1 := rfl; have hz1_ : (⟨#[46]⟩ : ByteArray).size = 1 := rfl; (try simp at c10); omega))
            go_ret
            exact ⟨by first | rfl | (simp [errW_none, errW_some] <;> rfl) | (simp [*, errW_none, errW_some] <;> rfl), by repeat (first | (with_reducible first | exact HB.out | apply below_alloc | apply pw_below_drewN | apply below_drew1) | exact HB.out)⟩
          · rw [if_neg c10] at H
            exact absurd H (by simp)
        · rw [if_neg c9] at H
          exact absurd H (by simp)
    · rw [if_neg c5] at H
      exact absurd H (by simp)
  · rw [if_neg c4] at H
    have c4b0 : decide (a0 < 0) = false := decide_eq_false c4
    clear c4
    by_cases c13 : (Go.bits .and .u64 t172 4294967295) = 0
    · rw [if_pos c13] at H
      have c13b0 : ((Go.bits .and .u64 t172 4294967295) == 0) = true := beq_iff_eq.mpr c13
      have c13b1 : ((Go.bits .and .u64 t172 4294967295) != 0) = false := bne_eq_false_iff_eq.mpr c13
      clear c13
      obtain rfl := Option.some.inj H
      go_enter Try.func53, Try.ntmps53
      go_wp2_with (first | ((with_reducible refine gate_callee (f := 93) rfl ?_); refine goesL_ (some 7) rfl rfl Try.func93 (by kernel_rfl) rfl #[.int .i64 a0] rfl (by (try simp only [List.map_toArray, List.map_cons, List.map_nil]); first | done | rfl | (simp only [List.length_drop, List.length_take]; rfl)) ?_; (with_reducible refine (fix_Size.calls a0 t172 _ A2.out).mono ?_); rintro e w' ⟨rfl, ⟨nd, rfl⟩⟩; refine ⟨_, rfl, ?_⟩) | ((with_reducible refine gate_callee (f := 94) rfl ?_); refine goesL_ (some 11) rfl rfl Try.func94 (by kernel_rfl) rfl #[.int .i64 (wrap64 (t172 / 4294967296))] rfl (by (try simp only [List.map_toArray, List.map_cons, List.map_nil]); first | done | rfl | (simp only [List.length_drop, List.length_take]; rfl)) ?_; (with_reducible refine (num_Tell.calls k (wrap64 (t172 / 4294967296)) t173 _ A3.out).mono ?_); rintro e w14 ⟨rfl, hb⟩; refine ⟨_, rfl, ?_⟩; have n0_ := Aside0.mk (below_step (by repeat (first | (with_reducible first | exact HB.out | apply below_alloc | apply pw_below_drewN | apply below_drew1) | exact HB.out)) hb); clear HB; have HB := n0_; clear n0_; (try clear hb); (try clear hb2); (try clear hk); (try clear hi)))
      go_ret
      exact ⟨by first | rfl | (simp [errW_none, errW_some] <;> rfl) | (simp [*, errW_none, errW_some] <;> rfl), by repeat (first | (with_reducible first | exact HB.out | apply below_alloc | apply pw_below_drewN | apply below_drew1) | exact HB.out)⟩
    · rw [if_neg c13] at H
      have c13b0 : ((Go.bits .and .u64 t172 4294967295) == 0) = false := beq_eq_false_iff_ne.mpr c13
      have c13b1 : ((Go.bits .and .u64 t172 4294967295) != 0) = true := bne_iff_ne.mpr c13
      replace H := Option.bind_eq_some_iff.mp H
      obtain ⟨t175, A150, H⟩ := H
      replace H : (if 1 + t175.size ≤ 9223372036854775807 then (if t173.size + ((⟨#[46]⟩ : ByteArray) ++ t175).size ≤ 9223372036854775807 then (some (t173 ++ ((⟨#[46]⟩ : ByteArray) ++ t175))) else (none)) else (none)) = some r := H
      have A15 := Aside0.mk A150
      clear A150
      by_cases c16 : 1 + t175.size ≤ 9223372036854775807
      · rw [if_pos c16] at H
        have c16b0 := eq_true c16
        have c16b1 : decide (1 + t175.size ≤ 9223372036854775807) = true := decide_eq_true c16
        try have c16b2 : (9223372036854775807 < 1 + t175.size) = False := eq_false (Nat.not_lt.2 c16)
        by_cases c17 : t173.size + ((⟨#[46]⟩ : ByteArray) ++ t175).size ≤ 9223372036854775807
        · rw [if_pos c17] at H
          have c17b0 := eq_true c17
          have c17b1 : decide (t173.size + ((⟨#[46]⟩ : ByteArray) ++ t175).size ≤ 9223372036854775807) = true := decide_eq_true c17
          try have c17b2 : (9223372036854775807 < t173.size + ((⟨#[46]⟩ : ByteArray) ++ t175).size) = False := eq_false (Nat.not_lt.2 c17)
          obtain rfl := Option.some.inj H
          go_enter Try.func53, Try.ntmps53
          go_wp2_with (first | ((with_reducible refine gate_callee (f := 93) rfl ?_); refine goesL_ (some 7) rfl rfl Try.func93 (by kernel_rfl) rfl #[.int .i64 a0] rfl (by (try simp only [List.map_toArray, List.map_cons, List.map_nil]); first | done | rfl | (simp only [List.length_drop, List.length_take]; rfl)) ?_; (with_reducible refine (fix_Size.calls a0 t172 _ A2.out).mono ?_); rintro e w' ⟨rfl, ⟨nd, rfl⟩⟩; refine ⟨_, rfl, ?_⟩) | ((with_reducible refine gate_callee (f := 94) rfl ?_); refine goesL_ (some 11) rfl rfl Try.func94 (by kernel_rfl) rfl #[.int .i64 (wrap64 (t172 / 4294967296))] rfl (by (try simp only [List.map_toArray, List.map_cons, List.map_nil]); first | done | rfl | (simp only [List.length_drop, List.length_take]; rfl)) ?_; (with_reducible refine (num_Tell.calls k (wrap64 (t172 / 4294967296)) t173 _ A3.out).mono ?_); rintro e w18 ⟨rfl, hb⟩; refine ⟨_, rfl, ?_⟩; have n0_ := Aside0.mk (below_step (by repeat (first | (with_reducible first | exact HB.out | apply below_alloc | apply pw_below_drewN | apply below_drew1) | exact HB.out)) hb); clear HB; have HB := n0_; clear n0_; (try clear hb); (try clear hb2); (try clear hk); (try clear hi)) | ((with_reducible refine gate_callee (f := 95) rfl ?_); refine goesL_ (some 22) rfl rfl Try.func95 (by kernel_rfl) rfl #[.int .u64 (Go.bits .and .u64 t172 4294967295)] rfl (by (try simp only [List.map_toArray, List.map_cons, List.map_nil]); first | done | rfl | (simp only [List.length_drop, List.length_take]; rfl)) ?_; (with_reducible refine (dec_behind.calls k (Go.bits .and .u64 t172 4294967295) t175 _ A15.out).mono ?_); rintro e w19 ⟨rfl, hb⟩; refine ⟨_, rfl, ?_⟩; have n0_ := Aside0.mk (below_step (by repeat (first | (with_reducible first | exact HB.out | apply below_alloc | apply pw_below_drewN | apply below_drew1) | exact HB.out)) hb); clear HB; have HB := n0_; clear n0_; (try clear hb); (try clear hb2); (try clear hk); (try clear hi)))
          all_goals (try (exfalso; have hz0_ : (⟨#[46]⟩ : ByteArray).size = 1 := rfl; (try simp at c17); omega))
          go_ret
          exact ⟨by first | rfl | (simp [errW_none, errW_some] <;> rfl) | (simp [*, errW_none, errW_some] <;> rfl), by repeat (first | (with_reducible first | exact HB.out | apply below_alloc | apply pw_below_drewN | apply below_drew1) | exact HB.out)⟩
        · rw [if_neg c17] at H
          exact absurd H (by simp)
      · rw [if_neg c16] at H
        exact absurd H (by simp)

/-! ### regimenlaw05_awake: function 48 -/
def regimenlaw05_awake.f (k : Nat)  : Option (Bool) := (dec_Get.f k (⟨#[48, 46, 49]⟩ : ByteArray)).bind fun bt176 => ((dec_Get.f k (⟨#[48, 49]⟩ : ByteArray)).bind fun bt178 => (if bt176.1 = 429496730 then (if bt176.2 = 0 then (if bt178.2 = 2 then ((dec_Put.f k 6442450944).bind fun t180 => (if t180.toList = ([49, 46, 53] : List UInt8) then ((dec_Put.f k 429496730).bind fun t181 => (if t181.toList = ([48, 46, 49] : List UInt8) then ((dec_Places.f k (⟨#[48, 46, 50, 53]⟩ : ByteArray)).bind fun t182 => (some (t182 == 2))) else (none))) else (none))) else (none)) else (none)) else (none)))
theorem regimenlaw05_awake.mono : ∀ k, LeO (regimenlaw05_awake.f k ) (regimenlaw05_awake.f (k + 1) ) := by
  intro  k
  unfold regimenlaw05_awake.f
  repeat' first
      | (with_reducible exact dec_Get.mono _ _)
      | (with_reducible exact dec_Places.mono _ _)
      | (with_reducible exact dec_Put.mono _ _)
      | (with_reducible exact LeO.refl _)
      | (with_reducible exact LeO.none _)
      | (with_reducible refine LeO.ite ?_ ?_)
      | (with_reducible refine LeO.bind ?_ (fun _ => ?_))
      | exact dec_Get.mono _ _
      | exact dec_Places.mono _ _
      | exact dec_Put.mono _ _
      | exact LeO.none _
      | refine LeO.ite ?_ ?_
      | refine LeO.bind ?_ (fun _ => ?_)
set_option maxHeartbeats 8000000 in
set_option maxRecDepth 100000 in
theorem regimenlaw05_awake.calls (k : Nat)  (r : Bool) (w : World) (h : regimenlaw05_awake.f k  = some r) :
    Calls Try.prog 48 #[] w fun e w' => e = .returned (.bool r) ∧ Below w.heap.size w w' := by
  have HB := Aside0.mk (Below.refl w.heap.size w)
  have H : ((dec_Get.f k (⟨#[48, 46, 49]⟩ : ByteArray)).bind fun bt176 => ((dec_Get.f k (⟨#[48, 49]⟩ : ByteArray)).bind fun bt178 => (if bt176.1 = 429496730 then (if bt176.2 = 0 then (if bt178.2 = 2 then ((dec_Put.f k 6442450944).bind fun t180 => (if t180.toList = ([49, 46, 53] : List UInt8) then ((dec_Put.f k 429496730).bind fun t181 => (if t181.toList = ([48, 46, 49] : List UInt8) then ((dec_Places.f k (⟨#[48, 46, 50, 53]⟩ : ByteArray)).bind fun t182 => (some (t182 == 2))) else (none))) else (none))) else (none)) else (none)) else (none)))) = some r := h
  clear h
  replace H := Option.bind_eq_some_iff.mp H
  obtain ⟨⟨t176, t177⟩, A10, H⟩ := H
  replace H : ((dec_Get.f k (⟨#[48, 49]⟩ : ByteArray)).bind fun bt178 => (if t176 = 429496730 then (if t177 = 0 then (if bt178.2 = 2 then ((dec_Put.f k 6442450944).bind fun t180 => (if t180.toList = ([49, 46, 53] : List UInt8) then ((dec_Put.f k 429496730).bind fun t181 => (if t181.toList = ([48, 46, 49] : List UInt8) then ((dec_Places.f k (⟨#[48, 46, 50, 53]⟩ : ByteArray)).bind fun t182 => (some (t182 == 2))) else (none))) else (none))) else (none)) else (none)) else (none))) = some r := H
  have A1 := Aside0.mk A10
  clear A10
  replace H := Option.bind_eq_some_iff.mp H
  obtain ⟨⟨t178, t179⟩, A20, H⟩ := H
  replace H : (if t176 = 429496730 then (if t177 = 0 then (if t179 = 2 then ((dec_Put.f k 6442450944).bind fun t180 => (if t180.toList = ([49, 46, 53] : List UInt8) then ((dec_Put.f k 429496730).bind fun t181 => (if t181.toList = ([48, 46, 49] : List UInt8) then ((dec_Places.f k (⟨#[48, 46, 50, 53]⟩ : ByteArray)).bind fun t182 => (some (t182 == 2))) else (none))) else (none))) else (none)) else (none)) else (none)) = some r := H
  have A2 := Aside0.mk A20
  clear A20
  by_cases c3 : t176 = 429496730
  · rw [if_pos c3] at H
    have c3b0 : (t176 == 429496730) = true := beq_iff_eq.mpr c3
    have c3b1 : (t176 != 429496730) = false := bne_eq_false_iff_eq.mpr c3
    clear c3
    by_cases c4 : t177 = 0
    · rw [if_pos c4] at H
      have c4b0 : (t177 == 0) = true := beq_iff_eq.mpr c4
      have c4b1 : (t177 != 0) = false := bne_eq_false_iff_eq.mpr c4
      clear c4
      by_cases c5 : t179 = 2
      · rw [if_pos c5] at H
        have c5b0 : (t179 == 2) = true := beq_iff_eq.mpr c5
        have c5b1 : (t179 != 2) = false := bne_eq_false_iff_eq.mpr c5
        clear c5
        replace H := Option.bind_eq_some_iff.mp H
        obtain ⟨t180, A60, H⟩ := H
        replace H : (if t180.toList = ([49, 46, 53] : List UInt8) then ((dec_Put.f k 429496730).bind fun t181 => (if t181.toList = ([48, 46, 49] : List UInt8) then ((dec_Places.f k (⟨#[48, 46, 50, 53]⟩ : ByteArray)).bind fun t182 => (some (t182 == 2))) else (none))) else (none)) = some r := H
        have A6 := Aside0.mk A60
        clear A60
        by_cases c7 : t180.toList = ([49, 46, 53] : List UInt8)
        · rw [if_pos c7] at H
          have c7b0 : (t180.toList == ([49, 46, 53] : List UInt8)) = true := beq_iff_eq.mpr c7
          have c7b1 : (t180.toList != ([49, 46, 53] : List UInt8)) = false := bne_eq_false_iff_eq.mpr c7
          clear c7
          replace H := Option.bind_eq_some_iff.mp H
          obtain ⟨t181, A80, H⟩ := H
          replace H : (if t181.toList = ([48, 46, 49] : List UInt8) then ((dec_Places.f k (⟨#[48, 46, 50, 53]⟩ : ByteArray)).bind fun t182 => (some (t182 == 2))) else (none)) = some r := H
          have A8 := Aside0.mk A80
          clear A80
          by_cases c9 : t181.toList = ([48, 46, 49] : List UInt8)
          · rw [if_pos c9] at H
            have c9b0 : (t181.toList == ([48, 46, 49] : List UInt8)) = true := beq_iff_eq.mpr c9
            have c9b1 : (t181.toList != ([48, 46, 49] : List UInt8)) = false := bne_eq_false_iff_eq.mpr c9
            clear c9
            replace H := Option.bind_eq_some_iff.mp H
            obtain ⟨t182, A100, H⟩ := H
            replace H : (some (t182 == 2)) = some r := H
            have A10 := Aside0.mk A100
            clear A100
            obtain rfl := Option.some.inj H
            go_enter Try.func48, Try.ntmps48
            go_wp2_with (first | ((with_reducible refine gate_callee (f := 49) rfl ?_); refine goesL_ (some 6) rfl rfl Try.func49 (by kernel_rfl) rfl #[.string (⟨#[48, 46, 49]⟩ : ByteArray)] rfl (by (try simp only [List.map_toArray, List.map_cons, List.map_nil]); first | done | rfl | (simp only [List.length_drop, List.length_take]; rfl)) ?_; (with_reducible refine (dec_Get.calls k (⟨#[48, 46, 49]⟩ : ByteArray) t176 t177 _ A1.out).mono ?_); rintro e w11 ⟨rfl, hb⟩; refine ⟨_, rfl, ?_⟩; have n0_ := Aside0.mk (below_step (by repeat (first | (with_reducible first | exact HB.out | apply below_alloc | apply pw_below_drewN | apply below_drew1) | exact HB.out)) hb); clear HB; have HB := n0_; clear n0_; (try clear hb); (try clear hb2); (try clear hk); (try clear hi)) | ((with_reducible refine gate_callee (f := 49) rfl ?_); refine goesL_ (some 10) rfl rfl Try.func49 (by kernel_rfl) rfl #[.string (⟨#[48, 49]⟩ : ByteArray)] rfl (by (try simp only [List.map_toArray, List.map_cons, List.map_nil]); first | done | rfl | (simp only [List.length_drop, List.length_take]; rfl)) ?_; (with_reducible refine (dec_Get.calls k (⟨#[48, 49]⟩ : ByteArray) t178 t179 _ A2.out).mono ?_); rintro e w12 ⟨rfl, hb⟩; refine ⟨_, rfl, ?_⟩; have n0_ := Aside0.mk (below_step (by repeat (first | (with_reducible first | exact HB.out | apply below_alloc | apply pw_below_drewN | apply below_drew1) | exact HB.out)) hb); clear HB; have HB := n0_; clear n0_; (try clear hb); (try clear hb2); (try clear hk); (try clear hi)) | (go_at_call 53; (with_reducible refine (dec_Put.calls k 6442450944 t180 _ A6.out).mono ?_); rintro e w13 ⟨rfl, hb⟩; have n0_ := Aside0.mk (below_step (by repeat (first | (with_reducible first | exact HB.out | apply below_alloc | apply pw_below_drewN | apply below_drew1) | exact HB.out)) hb); clear HB; have HB := n0_; clear n0_; (try clear hb); (try clear hb2); (try clear hk); (try clear hi)) | (go_at_call 53; (with_reducible refine (dec_Put.calls k 429496730 t181 _ A8.out).mono ?_); rintro e w14 ⟨rfl, hb⟩; have n0_ := Aside0.mk (below_step (by repeat (first | (with_reducible first | exact HB.out | apply below_alloc | apply pw_below_drewN | apply below_drew1) | exact HB.out)) hb); clear HB; have HB := n0_; clear n0_; (try clear hb); (try clear hb2); (try clear hk); (try clear hi)) | (go_at_call 52; (with_reducible refine (dec_Places.calls k (⟨#[48, 46, 50, 53]⟩ : ByteArray) t182 _ A10.out).mono ?_); rintro e w15 ⟨rfl, hb⟩; have n0_ := Aside0.mk (below_step (by repeat (first | (with_reducible first | exact HB.out | apply below_alloc | apply pw_below_drewN | apply below_drew1) | exact HB.out)) hb); clear HB; have HB := n0_; clear n0_; (try clear hb); (try clear hb2); (try clear hk); (try clear hi)))
            go_ret
            exact ⟨by first | rfl | (simp [errW_none, errW_some] <;> rfl) | (simp [*, errW_none, errW_some] <;> rfl), by repeat (first | (with_reducible first | exact HB.out | apply below_alloc | apply pw_below_drewN | apply below_drew1) | exact HB.out)⟩
          · rw [if_neg c9] at H
            exact absurd H (by simp)
        · rw [if_neg c7] at H
          exact absurd H (by simp)
      · rw [if_neg c5] at H
        exact absurd H (by simp)
    · rw [if_neg c4] at H
      exact absurd H (by simp)
  · rw [if_neg c3] at H
    exact absurd H (by simp)

/-! ### regimenref05_Places: function 51 -/
mutual
def regimenref05_Places.j0 : Nat → ByteArray → Bool → Option (Int)
  | 0, _, _ => none
  | k + 1, x0, x12 => if x12 = true then (if 1 ≤ (x0.size : Int) then (regimenref05_Places.j1 k (x0.extract 1 x0.size)) else (none)) else (regimenref05_Places.j1 k x0)
def regimenref05_Places.j1 : Nat → ByteArray → Option (Int)
  | 0, _ => none
  | k + 1, x0 => regimenref05_Places.l0 k x0 (x0.size : Int) 0
def regimenref05_Places.l0 : Nat → ByteArray → Int → Int → Option (Int)
  | 0, _, _, _ => none
  | k + 1, x0, x3, x4 => if x4 < (x0.size : Int) then (if 0 ≤ x4 then (if (bt x0 x4) = 46 then (regimenref05_Places.j3 k x0 x3 x4 (x3 == (x0.size : Int))) else (regimenref05_Places.j3 k x0 x3 x4 false)) else (none)) else (if x3 = 0 then (regimenref05_Places.j4 k x0 x3 true) else (if x3 > 1 then (if 0 < (x0.size : Int) then (if (bt x0 0) = 48 then (regimenref05_Places.j4 k x0 x3 true) else (regimenref05_Places.j4 k x0 x3 (x3 == (wrap64 ((x0.size : Int) - 1))))) else (none)) else (regimenref05_Places.j4 k x0 x3 (x3 == (wrap64 ((x0.size : Int) - 1))))))
def regimenref05_Places.j3 : Nat → ByteArray → Int → Int → Bool → Option (Int)
  | 0, _, _, _, _ => none
  | k + 1, x0, x3, x4, x32 => if x32 = true then (regimenref05_Places.l0 k x0 x4 (wrap64 (x4 + 1))) else (if 0 ≤ x4 then (if x4 < (x0.size : Int) then (if (bt x0 x4) < 48 then (some (-1)) else (if (bt x0 x4) > 57 then (some (-1)) else (regimenref05_Places.l0 k x0 x3 (wrap64 (x4 + 1))))) else (none)) else (none))
def regimenref05_Places.j4 : Nat → ByteArray → Int → Bool → Option (Int)
  | 0, _, _, _ => none
  | k + 1, x0, x3, x61 => if x61 = true then (some (-1)) else (if x3 = (x0.size : Int) then (some 0) else (some (wrap64 ((wrap64 ((x0.size : Int) - x3)) - 1))))
end
def regimenref05_Places.f (k : Nat) (a0 : ByteArray) : Option (Int) := if (a0.size : Int) > 0 then (if 0 < (a0.size : Int) then (regimenref05_Places.j0 k a0 ((bt a0 0) == 45)) else (none)) else (regimenref05_Places.j0 k a0 false)
theorem regimenref05_Places.mono_l : ∀ k, (∀ y0 y1, LeO (regimenref05_Places.j0 k y0 y1) (regimenref05_Places.j0 (k + 1) y0 y1)) ∧ (∀ y0, LeO (regimenref05_Places.j1 k y0) (regimenref05_Places.j1 (k + 1) y0)) ∧ (∀ y0 y1 y2, LeO (regimenref05_Places.l0 k y0 y1 y2) (regimenref05_Places.l0 (k + 1) y0 y1 y2)) ∧ (∀ y0 y1 y2 y3, LeO (regimenref05_Places.j3 k y0 y1 y2 y3) (regimenref05_Places.j3 (k + 1) y0 y1 y2 y3)) ∧ (∀ y0 y1 y2, LeO (regimenref05_Places.j4 k y0 y1 y2) (regimenref05_Places.j4 (k + 1) y0 y1 y2))
  | 0 => ⟨fun _ _ r h => by simp [regimenref05_Places.j0] at h, fun _ r h => by simp [regimenref05_Places.j1] at h, fun _ _ _ r h => by simp [regimenref05_Places.l0] at h, fun _ _ _ _ r h => by simp [regimenref05_Places.j3] at h, fun _ _ _ r h => by simp [regimenref05_Places.j4] at h⟩
  | k + 1 => by
    obtain ⟨ih0, ih1, ih2, ih3, ih4⟩ := regimenref05_Places.mono_l k
    refine ⟨?_, ?_, ?_, ?_, ?_⟩
    · intro y0 y1
      unfold regimenref05_Places.j0
      repeat' first
      | (with_reducible exact ih0 _ _)
      | (with_reducible exact ih1 _)
      | (with_reducible exact ih2 _ _ _)
      | (with_reducible exact ih3 _ _ _ _)
      | (with_reducible exact ih4 _ _ _)
      | (with_reducible exact LeO.refl _)
      | (with_reducible exact LeO.none _)
      | (with_reducible refine LeO.ite ?_ ?_)
      | (with_reducible refine LeO.bind ?_ (fun _ => ?_))
      | exact ih0 _ _
      | exact ih1 _
      | exact ih2 _ _ _
      | exact ih3 _ _ _ _
      | exact ih4 _ _ _
      | exact LeO.none _
      | refine LeO.ite ?_ ?_
      | refine LeO.bind ?_ (fun _ => ?_)
    · intro y0
      unfold regimenref05_Places.j1
      repeat' first
      | (with_reducible exact ih0 _ _)
      | (with_reducible exact ih1 _)
      | (with_reducible exact ih2 _ _ _)
      | (with_reducible exact ih3 _ _ _ _)
      | (with_reducible exact ih4 _ _ _)
      | (with_reducible exact LeO.refl _)
      | (with_reducible exact LeO.none _)
      | (with_reducible refine LeO.ite ?_ ?_)
      | (with_reducible refine LeO.bind ?_ (fun _ => ?_))
      | exact ih0 _ _
      | exact ih1 _
      | exact ih2 _ _ _
      | exact ih3 _ _ _ _
      | exact ih4 _ _ _
      | exact LeO.none _
      | refine LeO.ite ?_ ?_
      | refine LeO.bind ?_ (fun _ => ?_)
    · intro y0 y1 y2
      unfold regimenref05_Places.l0
      repeat' first
      | (with_reducible exact ih0 _ _)
      | (with_reducible exact ih1 _)
      | (with_reducible exact ih2 _ _ _)
      | (with_reducible exact ih3 _ _ _ _)
      | (with_reducible exact ih4 _ _ _)
      | (with_reducible exact LeO.refl _)
      | (with_reducible exact LeO.none _)
      | (with_reducible refine LeO.ite ?_ ?_)
      | (with_reducible refine LeO.bind ?_ (fun _ => ?_))
      | exact ih0 _ _
      | exact ih1 _
      | exact ih2 _ _ _
      | exact ih3 _ _ _ _
      | exact ih4 _ _ _
      | exact LeO.none _
      | refine LeO.ite ?_ ?_
      | refine LeO.bind ?_ (fun _ => ?_)
    · intro y0 y1 y2 y3
      unfold regimenref05_Places.j3
      repeat' first
      | (with_reducible exact ih0 _ _)
      | (with_reducible exact ih1 _)
      | (with_reducible exact ih2 _ _ _)
      | (with_reducible exact ih3 _ _ _ _)
      | (with_reducible exact ih4 _ _ _)
      | (with_reducible exact LeO.refl _)
      | (with_reducible exact LeO.none _)
      | (with_reducible refine LeO.ite ?_ ?_)
      | (with_reducible refine LeO.bind ?_ (fun _ => ?_))
      | exact ih0 _ _
      | exact ih1 _
      | exact ih2 _ _ _
      | exact ih3 _ _ _ _
      | exact ih4 _ _ _
      | exact LeO.none _
      | refine LeO.ite ?_ ?_
      | refine LeO.bind ?_ (fun _ => ?_)
    · intro y0 y1 y2
      unfold regimenref05_Places.j4
      repeat' first
      | (with_reducible exact ih0 _ _)
      | (with_reducible exact ih1 _)
      | (with_reducible exact ih2 _ _ _)
      | (with_reducible exact ih3 _ _ _ _)
      | (with_reducible exact ih4 _ _ _)
      | (with_reducible exact LeO.refl _)
      | (with_reducible exact LeO.none _)
      | (with_reducible refine LeO.ite ?_ ?_)
      | (with_reducible refine LeO.bind ?_ (fun _ => ?_))
      | exact ih0 _ _
      | exact ih1 _
      | exact ih2 _ _ _
      | exact ih3 _ _ _ _
      | exact ih4 _ _ _
      | exact LeO.none _
      | refine LeO.ite ?_ ?_
      | refine LeO.bind ?_ (fun _ => ?_)
theorem regimenref05_Places.mono : ∀ a0 k, LeO (regimenref05_Places.f k a0) (regimenref05_Places.f (k + 1) a0) := by
  intro a0 k
  obtain ⟨ih0, ih1, ih2, ih3, ih4⟩ := regimenref05_Places.mono_l k
  unfold regimenref05_Places.f
  repeat' first
      | (with_reducible exact ih0 _ _)
      | (with_reducible exact ih1 _)
      | (with_reducible exact ih2 _ _ _)
      | (with_reducible exact ih3 _ _ _ _)
      | (with_reducible exact ih4 _ _ _)
      | (with_reducible exact LeO.refl _)
      | (with_reducible exact LeO.none _)
      | (with_reducible refine LeO.ite ?_ ?_)
      | (with_reducible refine LeO.bind ?_ (fun _ => ?_))
      | exact ih0 _ _
      | exact ih1 _
      | exact ih2 _ _ _
      | exact ih3 _ _ _ _
      | exact ih4 _ _ _
      | exact LeO.none _
      | refine LeO.ite ?_ ?_
      | refine LeO.bind ?_ (fun _ => ?_)
set_option maxHeartbeats 8000000 in
set_option maxRecDepth 100000 in
theorem regimenref05_Places.calls (k : Nat) (a0 : ByteArray) (r : Int) (w : World) (h : regimenref05_Places.f k a0 = some r) :
    Calls Try.prog 51 #[.string a0] w fun e w' => e = .returned (.int .i64 r) ∧ Drawn0 w w' := by
  have H : (if (a0.size : Int) > 0 then (if 0 < (a0.size : Int) then (regimenref05_Places.j0 k a0 ((bt a0 0) == 45)) else (none)) else (regimenref05_Places.j0 k a0 false)) = some r := h
  clear h
  have HC2 := Aside0.mk H
  clear H
  go_enter Try.func51, Try.ntmps51
  go_upto_region 1 with (fail)
  go_cut [12] (fun v12 wc => ∃ (kq : Nat) (x12_1 : Bool), v12 = .bool x12_1 ∧ Aside0 (regimenref05_Places.j0 kq a0 x12_1 = some r) ∧ Aside0 (kq ≤ k) ∧ Drawn0 w wc)
  case first =>
    have H := HC2.out
    clear HC2
    by_cases c3 : (a0.size : Int) > 0
    · rw [if_pos c3] at H
      have c3b0 : decide (0 < (a0.size : Int)) = true := decide_eq_true c3
      have c3b1 : decide (0 < a0.size) = true := decide_eq_true (by omega)
      clear c3
      (first | rw [c3b0] | rw [c3b1] | (simp only [i64_w, i32_w]; rw [c3b0]) | skip)
      by_cases c4 : 0 < (a0.size : Int)
      · rw [if_pos c4] at H
        have c4b0 : decide (0 < (a0.size : Int)) = true := decide_eq_true c4
        have c4b1 : decide (0 < a0.size) = true := decide_eq_true (by omega)
        clear c4
        have H' := Aside0.mk H
        clear H
        have p5 : 0 ≤ (0 : Int) := (by omega)
        have q5 : 0 < a0.size := (by have : (0 : Int) < (a0.size : Int) := of_decide_eq_true (by first | (with_reducible assumption) | assumption); omega)
        have hx5 : ∀ h : 0 < a0.size, ((a0[0]'h).toNat : Int) = bt a0 0 := bt_at a0 0
        clear p5
        have qi5 : (0 < (a0.size : Int)) = True := eq_true (of_decide_eq_true (by first | (with_reducible assumption) | assumption))
        replace q5 := eq_true q5
        go_wp2
        go_meet
        case rel => exact ⟨_, (((bt a0 0) == 45)), (by first | rfl | (simp; done) | (simp [*]; done)), H', ⟨by first | omega | exact Nat.le_refl _⟩, by repeat (first | exact Drawn0.refl _ | apply Drawn0.step)⟩
      · rw [if_neg c4] at H
        exact absurd H (by simp)
    · rw [if_neg c3] at H
      have c3b0 : decide (0 < (a0.size : Int)) = false := decide_eq_false c3
      have c3b1 : decide (0 < a0.size) = false := decide_eq_false (by omega)
      clear c3
      (first | rw [c3b0] | rw [c3b1] | (simp only [i64_w, i32_w]; rw [c3b0]) | skip)
      have H' := Aside0.mk H
      clear H
      go_wp2
      go_meet
      case rel => exact ⟨_, (false), (by first | rfl | (simp; done) | (simp [*]; done)), H', ⟨by first | omega | exact Nat.le_refl _⟩, by repeat (first | exact Drawn0.refl _ | apply Drawn0.step)⟩
  case rest =>
    clear HC2
    try clear p2
    try clear c3
    try clear c3b0
    try clear c3b1
    try clear c4
    try clear c4b0
    try clear c4b1
    try clear c5
    try clear p5
    try clear q5
    try clear hx5
    try clear qi5
    try clear p5
    try clear q5
    obtain ⟨kq, x12_1, rfl, HA, HJ1, ⟨mc1, rfl⟩⟩ := hcut
    cases kq with
    | zero => exact absurd HA.out (by simp [regimenref05_Places.j0])
    | succ kj1 =>
      have H := HA.out
      clear HA
      simp only [regimenref05_Places.j0] at H
      have HC6 := Aside0.mk H
      clear H
      go_upto_if 12 with (fail)
      go_cut [0] (fun v0 wc => ∃ (kq : Nat) (x0_5 : ByteArray), v0 = .string x0_5 ∧ Aside0 (regimenref05_Places.j1 kq x0_5 = some r) ∧ Aside0 (kq ≤ kj1) ∧ Drawn0 w wc)
      case first =>
        have H := HC6.out
        clear HC6
        by_cases c7 : x12_1 = true
        · subst c7
          have H1 : (if 1 ≤ (a0.size : Int) then (regimenref05_Places.j1 kj1 (a0.extract 1 a0.size)) else (none)) = some r := by rw [if_pos rfl] at H; exact H
          clear H
          have H := H1
          clear H1
          by_cases c8 : 1 ≤ (a0.size : Int)
          · rw [if_pos c8] at H
            have c8b0 := eq_true c8
            have c8b1 : decide (1 ≤ (a0.size : Int)) = true := decide_eq_true c8
            clear c8
            have H' := Aside0.mk H
            clear H
            go_wp2
            go_meet
            case rel => exact ⟨_, (a0.extract 1 a0.size), (by first | rfl | (simp; done) | (simp [*]; done)), H', ⟨by have := HJ1.out; first | omega | exact Nat.le_refl _⟩, by repeat (first | exact Drawn0.refl _ | apply Drawn0.step)⟩
          · rw [if_neg c8] at H
            exact absurd H (by simp)
        · replace c7 := Bool.eq_false_iff.mpr c7
          subst c7
          have H1 : (regimenref05_Places.j1 kj1 a0) = some r := by rw [if_neg (show ¬ (false = true) by decide)] at H; exact H
          clear H
          have H := H1
          clear H1
          have H' := Aside0.mk H
          clear H
          go_wp2
          go_meet
          case rel => exact ⟨_, (a0), (by first | rfl | (simp; done) | (simp [*]; done)), H', ⟨by have := HJ1.out; first | omega | exact Nat.le_refl _⟩, by repeat (first | exact Drawn0.refl _ | apply Drawn0.step)⟩
      case rest =>
        clear HC6
        try clear c1
        try clear p2
        try clear c3
        try clear c3b0
        try clear c3b1
        try clear c4
        try clear c4b0
        try clear c4b1
        try clear c5
        try clear p5
        try clear q5
        try clear hx5
        try clear qi5
        try clear c7
        try clear c8
        try clear c8b0
        try clear c8b1
        try clear p2
        try clear p5
        try clear q5
        obtain ⟨kq, x0_5, rfl, HA, HJ5, ⟨mc5, rfl⟩⟩ := hcut
        cases kq with
        | zero => exact absurd HA.out (by simp [regimenref05_Places.j1])
        | succ kj5 =>
          have H := HA.out
          clear HA
          simp only [regimenref05_Places.j1] at H
          have H' := Aside0.mk H
          clear H
          go_wp2
          go_loopg [3, 4] kj5 (fun kq v3 v4 w' => ∃ (x3_3 : Int) (x4_3 : Int), v3 = .int .i64 x3_3 ∧ v4 = .int .i64 x4_3 ∧ Aside0 (regimenref05_Places.l0 kq x0_5 x3_3 x4_3 = some r) ∧ Aside0 (kq ≤ kj5) ∧ Drawn0 w w')
          case atStart => exact ⟨((x0_5.size : Int)), (0), (by first | rfl | (simp; done) | (simp [*]; done)), (by first | rfl | (simp; done) | (simp [*]; done)), H', ⟨Nat.le_refl _⟩, by repeat (first | exact Drawn0.refl _ | apply Drawn0.step)⟩
          case round =>
            clear H'
            try clear c1
            try clear p2
            try clear c3
            try clear c3b0
            try clear c3b1
            try clear c4
            try clear c4b0
            try clear c4b1
            try clear c5
            try clear p5
            try clear q5
            try clear hx5
            try clear qi5
            try clear c7
            try clear c8
            try clear c8b0
            try clear c8b1
            try clear p2
            try clear p5
            try clear q5
            obtain ⟨x3_3, x4_3, rfl, rfl, HA, HK3, ⟨m3, rfl⟩⟩ := hrel
            cases gk with
            | zero => exact absurd HA.out (by simp [regimenref05_Places.l0])
            | succ k3 =>
              have H := HA.out
              clear HA
              simp only [regimenref05_Places.l0] at H
              by_cases c9 : x4_3 < (x0_5.size : Int)
              · rw [if_pos c9] at H
                have c9b0 : decide (x4_3 < (x0_5.size : Int)) = true := decide_eq_true c9
                clear c9
                have HC10 := Aside0.mk H
                clear H
                go_upto_region 7 with (fail)
                go_cut [32] (fun v32 wc => ∃ (kq : Nat) (x32_9 : Bool), v32 = .bool x32_9 ∧ Aside0 (regimenref05_Places.j3 kq x0_5 x3_3 x4_3 x32_9 = some r) ∧ Aside0 (kq ≤ k3) ∧ Drawn0 w wc)
                case first =>
                  have H := HC10.out
                  clear HC10
                  by_cases c11 : 0 ≤ x4_3
                  · rw [if_pos c11] at H
                    have c11b0 : decide (0 ≤ x4_3) = true := decide_eq_true c11
                    clear c11
                    (first | rw [c11b0] | rw [c11b1] | (simp only [i64_w, i32_w]; rw [c11b0]) | skip)
                    by_cases c13 : (bt x0_5 x4_3) = 46
                    · rw [if_pos c13] at H
                      have c13b0 : ((bt x0_5 x4_3) == 46) = true := beq_iff_eq.mpr c13
                      have c13b1 : ((bt x0_5 x4_3) != 46) = false := bne_eq_false_iff_eq.mpr c13
                      clear c13
                      have H' := Aside0.mk H
                      clear H
                      have p12 : 0 ≤ (x4_3 : Int) := of_decide_eq_true (by first | (with_reducible assumption) | assumption)
                      have q12 : x4_3 < (x0_5.size : Int) := of_decide_eq_true (by first | (with_reducible assumption) | assumption)
                      have hx12 := bt_at x0_5 x4_3
                      replace p12 := eq_true p12
                      replace q12 := eq_true q12
                      go_wp2
                      go_meet
                      case rel => exact ⟨_, ((x3_3 == (x0_5.size : Int))), (by first | rfl | (simp; done) | (simp [*]; done)), H', ⟨by have := HJ1.out; have := HJ5.out; have := HK3.out; first | omega | exact Nat.le_refl _⟩, by repeat (first | exact Drawn0.refl _ | apply Drawn0.step)⟩
                    · rw [if_neg c13] at H
                      have c13b0 : ((bt x0_5 x4_3) == 46) = false := beq_eq_false_iff_ne.mpr c13
                      have c13b1 : ((bt x0_5 x4_3) != 46) = true := bne_iff_ne.mpr c13
                      have H' := Aside0.mk H
                      clear H
                      have p12 : 0 ≤ (x4_3 : Int) := of_decide_eq_true (by first | (with_reducible assumption) | assumption)
                      have q12 : x4_3 < (x0_5.size : Int) := of_decide_eq_true (by first | (with_reducible assumption) | assumption)
                      have hx12 := bt_at x0_5 x4_3
                      replace p12 := eq_true p12
                      replace q12 := eq_true q12
                      go_wp2
                      go_meet
                      case rel => exact ⟨_, (false), (by first | rfl | (simp; done) | (simp [*]; done)), H', ⟨by have := HJ1.out; have := HJ5.out; have := HK3.out; first | omega | exact Nat.le_refl _⟩, by repeat (first | exact Drawn0.refl _ | apply Drawn0.step)⟩
                  · rw [if_neg c11] at H
                    exact absurd H (by simp)
                case rest =>
                  clear HC10
                  try clear c1
                  try clear p1
                  try clear q1
                  try clear hx1
                  try clear p2
                  try clear c3
                  try clear c3b0
                  try clear c3b1
                  try clear c4
                  try clear c4b0
                  try clear c4b1
                  try clear c5
                  try clear p5
                  try clear q5
                  try clear hx5
                  try clear qi5
                  try clear c7
                  try clear c8
                  try clear c8b0
                  try clear c8b1
                  try clear c9
                  try clear c9b0
                  try clear c11
                  try clear c11b0
                  try clear c11b1
                  try clear p12
                  try clear q12
                  try clear hx12
                  try clear c13
                  try clear c13b0
                  try clear c13b1
                  try clear p12
                  try clear p2
                  try clear p5
                  try clear q12
                  try clear q5
                  obtain ⟨kq, x32_9, rfl, HA, HJ9, ⟨mc9, rfl⟩⟩ := hcut
                  cases kq with
                  | zero => exact absurd HA.out (by simp [regimenref05_Places.j3])
                  | succ kj9 =>
                    have H := HA.out
                    clear HA
                    simp only [regimenref05_Places.j3] at H
                    by_cases c14 : x32_9 = true
                    · subst c14
                      have H1 : (regimenref05_Places.l0 kj9 x0_5 x4_3 (wrap64 (x4_3 + 1))) = some r := by rw [if_pos rfl] at H; exact H
                      clear H
                      have H := H1
                      clear H1
                      have H' := Aside0.mk H
                      clear H
                      go_wp2
                      go_roundg kj9
                      case measure => have := HJ1.out; have := HJ5.out; have := HK3.out; have := HJ9.out; omega
                      case rel => exact ⟨(x4_3), (wrap64 (x4_3 + 1)), (by first | rfl | (simp; done) | (simp [*]; done)), (by first | rfl | (simp; done) | (simp [*]; done)), H', ⟨by have := HJ1.out; have := HJ5.out; have := HK3.out; have := HJ9.out; omega⟩, by repeat (first | exact Drawn0.refl _ | apply Drawn0.step)⟩
                    · replace c14 := Bool.eq_false_iff.mpr c14
                      subst c14
                      have H1 : (if 0 ≤ x4_3 then (if x4_3 < (x0_5.size : Int) then (if (bt x0_5 x4_3) < 48 then (some (-1)) else (if (bt x0_5 x4_3) > 57 then (some (-1)) else (regimenref05_Places.l0 kj9 x0_5 x3_3 (wrap64 (x4_3 + 1))))) else (none)) else (none)) = some r := by rw [if_neg (show ¬ (false = true) by decide)] at H; exact H
                      clear H
                      have H := H1
                      clear H1
                      by_cases c15 : 0 ≤ x4_3
                      · rw [if_pos c15] at H
                        have c15b0 : decide (0 ≤ x4_3) = true := decide_eq_true c15
                        clear c15
                        by_cases c16 : x4_3 < (x0_5.size : Int)
                        · rw [if_pos c16] at H
                          have c16b0 : decide (x4_3 < (x0_5.size : Int)) = true := decide_eq_true c16
                          clear c16
                          by_cases c18 : (bt x0_5 x4_3) < 48
                          · rw [if_pos c18] at H
                            have c18b0 : decide ((bt x0_5 x4_3) < 48) = true := decide_eq_true c18
                            clear c18
                            obtain rfl := Option.some.inj H
                            have p17 : 0 ≤ (x4_3 : Int) := of_decide_eq_true (by first | (with_reducible assumption) | assumption)
                            have q17 : x4_3 < (x0_5.size : Int) := of_decide_eq_true (by first | (with_reducible assumption) | assumption)
                            have hx17 := bt_at x0_5 x4_3
                            replace p17 := eq_true p17
                            replace q17 := eq_true q17
                            go_wp2
                            go_ret
                            exact ⟨by first | rfl | (simp; done) | (simp [*]; done), by repeat (first | exact Drawn0.refl _ | apply Drawn0.step)⟩
                          · rw [if_neg c18] at H
                            have c18b0 : decide ((bt x0_5 x4_3) < 48) = false := decide_eq_false c18
                            clear c18
                            by_cases c20 : (bt x0_5 x4_3) > 57
                            · rw [if_pos c20] at H
                              have c20b0 : decide (57 < (bt x0_5 x4_3)) = true := decide_eq_true c20
                              clear c20
                              obtain rfl := Option.some.inj H
                              have p17 : 0 ≤ (x4_3 : Int) := of_decide_eq_true (by first | (with_reducible assumption) | assumption)
                              have q17 : x4_3 < (x0_5.size : Int) := of_decide_eq_true (by first | (with_reducible assumption) | assumption)
                              have hx17 := bt_at x0_5 x4_3
                              replace p17 := eq_true p17
                              replace q17 := eq_true q17
                              have p19 : 0 ≤ (x4_3 : Int) := of_decide_eq_true (by first | (with_reducible assumption) | assumption)
                              have q19 : x4_3 < (x0_5.size : Int) := of_decide_eq_true (by first | (with_reducible assumption) | assumption)
                              have hx19 := bt_at x0_5 x4_3
                              replace p19 := eq_true p19
                              replace q19 := eq_true q19
                              go_wp2
                              go_ret
                              exact ⟨by first | rfl | (simp; done) | (simp [*]; done), by repeat (first | exact Drawn0.refl _ | apply Drawn0.step)⟩
                            · rw [if_neg c20] at H
                              have c20b0 : decide (57 < (bt x0_5 x4_3)) = false := decide_eq_false c20
                              clear c20
                              have H' := Aside0.mk H
                              clear H
                              have p17 : 0 ≤ (x4_3 : Int) := of_decide_eq_true (by first | (with_reducible assumption) | assumption)
                              have q17 : x4_3 < (x0_5.size : Int) := of_decide_eq_true (by first | (with_reducible assumption) | assumption)
                              have hx17 := bt_at x0_5 x4_3
                              replace p17 := eq_true p17
                              replace q17 := eq_true q17
                              have p19 : 0 ≤ (x4_3 : Int) := of_decide_eq_true (by first | (with_reducible assumption) | assumption)
                              have q19 : x4_3 < (x0_5.size : Int) := of_decide_eq_true (by first | (with_reducible assumption) | assumption)
                              have hx19 := bt_at x0_5 x4_3
                              replace p19 := eq_true p19
                              replace q19 := eq_true q19
                              go_wp2
                              go_roundg kj9
                              case measure => have := HJ1.out; have := HJ5.out; have := HK3.out; have := HJ9.out; omega
                              case rel => exact ⟨(x3_3), (wrap64 (x4_3 + 1)), (by first | rfl | (simp; done) | (simp [*]; done)), (by first | rfl | (simp; done) | (simp [*]; done)), H', ⟨by have := HJ1.out; have := HJ5.out; have := HK3.out; have := HJ9.out; omega⟩, by repeat (first | exact Drawn0.refl _ | apply Drawn0.step)⟩
                        · rw [if_neg c16] at H
                          exact absurd H (by simp)
                      · rw [if_neg c15] at H
                        exact absurd H (by simp)
              · rw [if_neg c9] at H
                have c9b0 : decide (x4_3 < (x0_5.size : Int)) = false := decide_eq_false c9
                clear c9
                have HC21 := Aside0.mk H
                clear H
                go_upto_region 11 with (fail)
                go_cut [61] (fun v61 wc => ∃ (kq : Nat) (x61_20 : Bool), v61 = .bool x61_20 ∧ Aside0 (regimenref05_Places.j4 kq x0_5 x3_3 x61_20 = some r) ∧ Aside0 (kq ≤ k3) ∧ Drawn0 w wc)
                case first =>
                  have H := HC21.out
                  clear HC21
                  by_cases c22 : x3_3 = 0
                  · rw [if_pos c22] at H
                    have c22b0 : (x3_3 == 0) = true := beq_iff_eq.mpr c22
                    have c22b1 : (x3_3 != 0) = false := bne_eq_false_iff_eq.mpr c22
                    clear c22
                    (first | rw [c22b0] | rw [c22b1] | (simp only [i64_w, i32_w]; rw [c22b0]) | skip)
                    have H' := Aside0.mk H
                    clear H
                    go_wp2
                    go_meet
                    case rel => exact ⟨_, (true), (by first | rfl | (simp; done) | (simp [*]; done)), H', ⟨by have := HJ1.out; have := HJ5.out; have := HK3.out; first | omega | exact Nat.le_refl _⟩, by repeat (first | exact Drawn0.refl _ | apply Drawn0.step)⟩
                  · rw [if_neg c22] at H
                    have c22b0 : (x3_3 == 0) = false := beq_eq_false_iff_ne.mpr c22
                    have c22b1 : (x3_3 != 0) = true := bne_iff_ne.mpr c22
                    (first | rw [c22b0] | rw [c22b1] | (simp only [i64_w, i32_w]; rw [c22b0]) | skip)
                    by_cases c23 : x3_3 > 1
                    · rw [if_pos c23] at H
                      have c23b0 : decide (1 < x3_3) = true := decide_eq_true c23
                      clear c23
                      by_cases c24 : 0 < (x0_5.size : Int)
                      · rw [if_pos c24] at H
                        have c24b0 : decide (0 < (x0_5.size : Int)) = true := decide_eq_true c24
                        have c24b1 : decide (0 < x0_5.size) = true := decide_eq_true (by omega)
                        clear c24
                        by_cases c26 : (bt x0_5 0) = 48
                        · rw [if_pos c26] at H
                          have c26b0 : ((bt x0_5 0) == 48) = true := beq_iff_eq.mpr c26
                          have c26b1 : ((bt x0_5 0) != 48) = false := bne_eq_false_iff_eq.mpr c26
                          clear c26
                          have H' := Aside0.mk H
                          clear H
                          have p25 : 0 ≤ (0 : Int) := (by omega)
                          have q25 : 0 < x0_5.size := (by have : (0 : Int) < (x0_5.size : Int) := of_decide_eq_true (by first | (with_reducible assumption) | assumption); omega)
                          have hx25 : ∀ h : 0 < x0_5.size, ((x0_5[0]'h).toNat : Int) = bt x0_5 0 := bt_at x0_5 0
                          clear p25
                          have qi25 : (0 < (x0_5.size : Int)) = True := eq_true (of_decide_eq_true (by first | (with_reducible assumption) | assumption))
                          replace q25 := eq_true q25
                          go_wp2
                          go_meet
                          case rel => exact ⟨_, (true), (by first | rfl | (simp; done) | (simp [*]; done)), H', ⟨by have := HJ1.out; have := HJ5.out; have := HK3.out; first | omega | exact Nat.le_refl _⟩, by repeat (first | exact Drawn0.refl _ | apply Drawn0.step)⟩
                        · rw [if_neg c26] at H
                          have c26b0 : ((bt x0_5 0) == 48) = false := beq_eq_false_iff_ne.mpr c26
                          have c26b1 : ((bt x0_5 0) != 48) = true := bne_iff_ne.mpr c26
                          have H' := Aside0.mk H
                          clear H
                          have p25 : 0 ≤ (0 : Int) := (by omega)
                          have q25 : 0 < x0_5.size := (by have : (0 : Int) < (x0_5.size : Int) := of_decide_eq_true (by first | (with_reducible assumption) | assumption); omega)
                          have hx25 : ∀ h : 0 < x0_5.size, ((x0_5[0]'h).toNat : Int) = bt x0_5 0 := bt_at x0_5 0
                          clear p25
                          have qi25 : (0 < (x0_5.size : Int)) = True := eq_true (of_decide_eq_true (by first | (with_reducible assumption) | assumption))
                          replace q25 := eq_true q25
                          go_wp2
                          go_meet
                          case rel => exact ⟨_, ((x3_3 == (wrap64 ((x0_5.size : Int) - 1)))), (by first | rfl | (simp; done) | (simp [*]; done)), H', ⟨by have := HJ1.out; have := HJ5.out; have := HK3.out; first | omega | exact Nat.le_refl _⟩, by repeat (first | exact Drawn0.refl _ | apply Drawn0.step)⟩
                      · rw [if_neg c24] at H
                        exact absurd H (by simp)
                    · rw [if_neg c23] at H
                      have c23b0 : decide (1 < x3_3) = false := decide_eq_false c23
                      clear c23
                      have H' := Aside0.mk H
                      clear H
                      go_wp2
                      go_meet
                      case rel => exact ⟨_, ((x3_3 == (wrap64 ((x0_5.size : Int) - 1)))), (by first | rfl | (simp; done) | (simp [*]; done)), H', ⟨by have := HJ1.out; have := HJ5.out; have := HK3.out; first | omega | exact Nat.le_refl _⟩, by repeat (first | exact Drawn0.refl _ | apply Drawn0.step)⟩
                case rest =>
                  clear HC21
                  try clear c1
                  try clear p1
                  try clear q1
                  try clear hx1
                  try clear c2
                  try clear p2
                  try clear q2
                  try clear hx2
                  try clear qi2
                  try clear c3
                  try clear c3b0
                  try clear c3b1
                  try clear c4
                  try clear c4b0
                  try clear c4b1
                  try clear c5
                  try clear p5
                  try clear q5
                  try clear hx5
                  try clear qi5
                  try clear p6
                  try clear c7
                  try clear c8
                  try clear c8b0
                  try clear c8b1
                  try clear c9
                  try clear c9b0
                  try clear c11
                  try clear c11b0
                  try clear c11b1
                  try clear p12
                  try clear q12
                  try clear hx12
                  try clear c13
                  try clear c13b0
                  try clear c13b1
                  try clear c14
                  try clear c15
                  try clear c15b0
                  try clear c16
                  try clear c16b0
                  try clear p17
                  try clear q17
                  try clear hx17
                  try clear c18
                  try clear c18b0
                  try clear p19
                  try clear q19
                  try clear hx19
                  try clear c20
                  try clear c20b0
                  try clear c22
                  try clear c22b0
                  try clear c22b1
                  try clear c23
                  try clear c23b0
                  try clear c24
                  try clear c24b0
                  try clear c24b1
                  try clear p25
                  try clear q25
                  try clear hx25
                  try clear qi25
                  try clear c26
                  try clear c26b0
                  try clear c26b1
                  try clear p1
                  try clear p12
                  try clear p17
                  try clear p19
                  try clear p2
                  try clear p25
                  try clear p5
                  try clear q1
                  try clear q12
                  try clear q17
                  try clear q19
                  try clear q25
                  try clear q5
                  obtain ⟨kq, x61_20, rfl, HA, HJ20, ⟨mc20, rfl⟩⟩ := hcut
                  cases kq with
                  | zero => exact absurd HA.out (by simp [regimenref05_Places.j4])
                  | succ kj20 =>
                    have H := HA.out
                    clear HA
                    simp only [regimenref05_Places.j4] at H
                    by_cases c27 : x61_20 = true
                    · subst c27
                      have H1 : (some (-1)) = some r := by rw [if_pos rfl] at H; exact H
                      clear H
                      have H := H1
                      clear H1
                      obtain rfl := Option.some.inj H
                      go_wp2
                      go_ret
                      exact ⟨by first | rfl | (simp; done) | (simp [*]; done), by repeat (first | exact Drawn0.refl _ | apply Drawn0.step)⟩
                    · replace c27 := Bool.eq_false_iff.mpr c27
                      subst c27
                      have H1 : (if x3_3 = (x0_5.size : Int) then (some 0) else (some (wrap64 ((wrap64 ((x0_5.size : Int) - x3_3)) - 1)))) = some r := by rw [if_neg (show ¬ (false = true) by decide)] at H; exact H
                      clear H
                      have H := H1
                      clear H1
                      by_cases c28 : x3_3 = (x0_5.size : Int)
                      · rw [if_pos c28] at H
                        have c28b0 : (x3_3 == (x0_5.size : Int)) = true := beq_iff_eq.mpr c28
                        have c28b1 : (x3_3 != (x0_5.size : Int)) = false := bne_eq_false_iff_eq.mpr c28
                        clear c28
                        obtain rfl := Option.some.inj H
                        go_wp2
                        go_ret
                        exact ⟨by first | rfl | (simp; done) | (simp [*]; done), by repeat (first | exact Drawn0.refl _ | apply Drawn0.step)⟩
                      · rw [if_neg c28] at H
                        have c28b0 : (x3_3 == (x0_5.size : Int)) = false := beq_eq_false_iff_ne.mpr c28
                        have c28b1 : (x3_3 != (x0_5.size : Int)) = true := bne_iff_ne.mpr c28
                        obtain rfl := Option.some.inj H
                        go_wp2
                        go_ret
                        exact ⟨by first | rfl | (simp; done) | (simp [*]; done), by repeat (first | exact Drawn0.refl _ | apply Drawn0.step)⟩

end Go.Proofs.Ytemmnjnihngjgaa.PD
