/- Products, quotients and sums of fixed-point numbers (layer 4): the program's and the reference's, by value. -/
import Derived.Test.YtemmnjnihngjgaaPCx4
import Derived.Test.YtemmnjnihngjgaaCHalf
namespace Go.Proofs.Ytemmnjnihngjgaa.Num
set_option linter.unusedVariables false
set_option linter.unusedSimpArgs false
open Go.RowKit Go.Proofs.Ytemmnjnihngjgaa.PC Go.Proofs.YtemmnjnihngjgaaW.PrintWords Go.Proofs.YtemmnjnihngjgaaW.PrintMore

/-- How far a whole number is from 0. -/
def iabs (x : Int) : Int := if x < 0 then -x else x
/-- An int by its size and its sign, where there is one. -/
def sgn (u : Int) (neg : Bool) : Int × Int := if neg = true then (if u ≤ 9223372036854775808 then (-u, 0) else (0, 4)) else (if u < 9223372036854775808 then (u, 0) else (0, 4))
def opp (x y : Int) : Bool := decide (x < 0) != decide (y < 0)
def fmul (x y : Int) : Int × Int := sgn (rnd (iabs x * iabs y) 4294967296) (opp x y)
def fdiv (x y : Int) : Int × Int := if y = 0 then (0, 5) else sgn (rnd (iabs x * 4294967296) (iabs y)) (opp x y)

theorem iabs_nonneg (x : Int) : 0 ≤ iabs x := by unfold iabs; split <;> omega
theorem iabs_lt {x : Int} (h : -9223372036854775808 ≤ x ∧ x < 9223372036854775808) : iabs x ≤ 9223372036854775808 := by unfold iabs; split <;> omega
theorem rnd_nonneg {V d : Int} (h0 : 0 ≤ V) (h1 : 0 < d) : 0 ≤ rnd V d := by
  have h := rnd_bounds V d
  have := Int.ediv_nonneg h0 (Int.le_of_lt h1)
  omega
theorem sgn_big {u : Int} (b : Bool) (h : 18446744073709551616 ≤ u) : sgn u b = (0, 4) := by
  unfold sgn
  cases b
  · rw [if_neg (by simp), if_neg (by omega)]
  · rw [if_pos rfl, if_neg (by omega)]
theorem sgn_small {u : Int} (b : Bool) (h : u < 9223372036854775808) : sgn u b = (if b = true then -u else u, 0) := by
  unfold sgn
  cases b
  · rw [if_neg (by simp), if_pos h]
    rfl
  · rw [if_pos rfl, if_pos (by omega)]
    rfl
theorem near_sgn {α : Type} {V d : Int} (hd : d ≠ 0) : near V d = if rnd V d < 18446744073709551616 then (rnd V d, 0) else (0, 4) := by
  unfold near
  rw [if_neg hd]

theorem wrap_abs {x : Int} (h : -9223372036854775808 ≤ x ∧ x < 9223372036854775808) : (x < 0 → IntKind.u64.wrap (-(IntKind.u64.wrap x)) = iabs x) ∧ (¬ x < 0 → IntKind.u64.wrap x = iabs x) := by
  unfold iabs
  constructor
  · intro hx
    rw [if_pos hx, u64_mod, u64_mod]
    omega
  · intro hx
    rw [if_neg hx, u64_id (by omega) (by omega)]
theorem ref_size_ok {x : Int} (h : -9223372036854775808 ≤ x ∧ x < 9223372036854775808) : ∃ l, regimenref02_Size.f x = some l ∧ dok l ∧ dv l = iabs x ∧ l.length = 4 := by
  obtain ⟨l, hl, p⟩ := word_ok (iabs x) (iabs_nonneg x) (by have := iabs_lt h; omega)
  refine ⟨l, ?_, p⟩
  unfold regimenref02_Size.f
  by_cases c : x < 0
  · rw [if_pos c, (wrap_abs h).1 c, hl]
    rfl
  · rw [if_neg c, (wrap_abs h).2 c, hl]
    rfl
end Go.Proofs.Ytemmnjnihngjgaa.Num
