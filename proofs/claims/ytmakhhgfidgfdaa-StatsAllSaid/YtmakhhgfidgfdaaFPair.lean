/- What the functions on numbers of 128 bits (layer 2) come to: by their value, low + 2^64 * high. -/
import Derived.Test.YtmakhhgfidgfdaaPFx3
import Derived.Test.YtmakhhgfidgfdaaFRef02
namespace Go.Proofs.Ytmakhhgfidgfdaa.Num
set_option linter.unusedVariables false
set_option linter.unusedSimpArgs false
open Go.RowKit Go.Proofs.Ytmakhhgfidgfdaa.PF Go.Proofs.YtmakhhgfidgfdaaW.PrintWords Go.Proofs.YtmakhhgfidgfdaaW.PrintMore

theorem u64_wf {a : Int} (h : (Lit.int .u64 a).wf = true) : 0 ≤ a ∧ a < 18446744073709551616 := by
  simp [Lit.wf, IntKind.min, IntKind.max, IntKind.bits, IntKind.signed] at h
  omega
theorem i64_wf {a : Int} (h : (Lit.int .i64 a).wf = true) : -9223372036854775808 ≤ a ∧ a < 9223372036854775808 := by
  simp [Lit.wf, IntKind.min, IntKind.max, IntKind.bits, IntKind.signed] at h
  omega
theorem wraps_u64 (n : Int) (h₀ : 0 ≤ n) (h₁ : n < 2 ^ 64) : IntKind.u64.wrap n = n := u64_id h₀ (by simpa using h₁)
theorem u64_lo32 {x : Int} (h0 : 0 ≤ x) (h1 : x < 18446744073709551616) : Go.bits .and .u64 x 4294967295 = x % 4294967296 := by
  have := bits_mask .u64 64 (by decide) wraps_u64 32 (by decide) x h0 (by simpa using h1)
  simpa using this
theorem u64_join (i : Nat) {x y : Int} (h0 : 0 ≤ x) (h : x % 2 ^ i = 0) (h1 : x < 18446744073709551616) (h2 : 0 ≤ y) (h3 : y < 2 ^ i) (h4 : y < 18446744073709551616) : Go.bits .or .u64 x y = x + y :=
  bits_join .u64 64 (by decide) wraps_u64 i x y h0 h (by simpa using h1) h2 h3 (by simpa using h4)

theorem pair_add_ok {a0 a1 b0 b1 : Int} (h1 : 0 ≤ a0 ∧ a0 < 18446744073709551616) (h2 : 0 ≤ a1 ∧ a1 < 18446744073709551616) (h3 : 0 ≤ b0 ∧ b0 < 18446744073709551616) (h4 : 0 ≤ b1 ∧ b1 < 18446744073709551616) :
    pair_Add.f a0 a1 b0 b1 = some ((a1 + 18446744073709551616 * a0 + (b1 + 18446744073709551616 * b0)) / 18446744073709551616 % 18446744073709551616, (a1 + 18446744073709551616 * a0 + (b1 + 18446744073709551616 * b0)) % 18446744073709551616, decide (a1 + 18446744073709551616 * a0 + (b1 + 18446744073709551616 * b0) < 340282366920938463463374607431768211456)) := by
  unfold pair_Add.f
  simp only [u64_mod]
  by_cases c1 : (a1 + b1) % 18446744073709551616 < a1
  · rw [if_pos c1]
    by_cases c2 : (a0 + b0) % 18446744073709551616 < a0
    · rw [if_pos c2, Option.some.injEq, Prod.mk.injEq, Prod.mk.injEq]
      refine ⟨by omega, by omega, ?_⟩
      rw [decide_eq_false (by omega)]
      rfl
    · rw [if_neg c2, Option.some.injEq, Prod.mk.injEq, Prod.mk.injEq]
      refine ⟨by omega, by omega, ?_⟩
      rw [Bool.eq_iff_iff]
      simp
      omega
  · rw [if_neg c1, Option.some.injEq, Prod.mk.injEq, Prod.mk.injEq]
    refine ⟨by omega, by omega, ?_⟩
    rw [Bool.eq_iff_iff]
    simp
    omega

theorem pair_cmp_ok {a0 a1 b0 b1 : Int} (h1 : 0 ≤ a0 ∧ a0 < 18446744073709551616) (h2 : 0 ≤ a1 ∧ a1 < 18446744073709551616) (h3 : 0 ≤ b0 ∧ b0 < 18446744073709551616) (h4 : 0 ≤ b1 ∧ b1 < 18446744073709551616) :
    pair_Cmp.f a0 a1 b0 b1 = some (if a1 + 18446744073709551616 * a0 < b1 + 18446744073709551616 * b0 then -1 else if a1 + 18446744073709551616 * a0 > b1 + 18446744073709551616 * b0 then 1 else 0) := by
  unfold pair_Cmp.f
  by_cases c1 : a0 = b0
  · by_cases c2 : a1 = b1
    · rw [if_pos (by simp [c1, c2]), if_neg (by omega), if_neg (by omega)]
    · rw [if_neg (by simp [c2]), if_neg (by omega), if_pos c1]
      by_cases c3 : a1 < b1
      · rw [if_pos c3, if_pos (by omega)]
      · rw [if_neg c3, if_neg (by omega), if_pos (by omega)]
  · rw [if_neg (by simp [c1])]
    by_cases c3 : a0 < b0
    · rw [if_pos c3, if_pos (by omega)]
    · rw [if_neg c3, if_neg c1, if_neg (by omega), if_pos (by omega)]

theorem pair_sub_ok {a0 a1 b0 b1 : Int} (h1 : 0 ≤ a0 ∧ a0 < 18446744073709551616) (h2 : 0 ≤ a1 ∧ a1 < 18446744073709551616) (h3 : 0 ≤ b0 ∧ b0 < 18446744073709551616) (h4 : 0 ≤ b1 ∧ b1 < 18446744073709551616) :
    pair_Sub.f a0 a1 b0 b1 = some ((a1 + 18446744073709551616 * a0 - (b1 + 18446744073709551616 * b0)) / 18446744073709551616 % 18446744073709551616, (a1 + 18446744073709551616 * a0 - (b1 + 18446744073709551616 * b0)) % 18446744073709551616, decide (a1 + 18446744073709551616 * a0 ≥ b1 + 18446744073709551616 * b0)) := by
  unfold pair_Sub.f
  rw [pair_cmp_ok h1 h2 h3 h4]
  simp only [u64_mod, Option.bind_some]
  have hd : decide ((if a1 + 18446744073709551616 * a0 < b1 + 18446744073709551616 * b0 then (-1 : Int) else if a1 + 18446744073709551616 * a0 > b1 + 18446744073709551616 * b0 then 1 else 0) ≥ 0) = decide (a1 + 18446744073709551616 * a0 ≥ b1 + 18446744073709551616 * b0) := by
    by_cases c : a1 + 18446744073709551616 * a0 < b1 + 18446744073709551616 * b0
    · rw [if_pos c, decide_eq_false (by omega), decide_eq_false (by omega)]
    · rw [if_neg c, decide_eq_true (by split <;> omega), decide_eq_true (by omega)]
  rw [hd]
  by_cases c1 : a1 < b1
  · rw [if_pos c1, Option.some.injEq, Prod.mk.injEq, Prod.mk.injEq]
    exact ⟨by omega, by omega, rfl⟩
  · rw [if_neg c1, Option.some.injEq, Prod.mk.injEq, Prod.mk.injEq]
    exact ⟨by omega, by omega, rfl⟩
end Go.Proofs.Ytmakhhgfidgfdaa.Num
