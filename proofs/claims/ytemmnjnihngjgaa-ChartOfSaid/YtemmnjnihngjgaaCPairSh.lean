/- Shifts of numbers of 128 bits, and how many bits they have. -/
import Derived.Test.YtemmnjnihngjgaaPCx0
import Derived.Test.YtemmnjnihngjgaaCPair
import Derived.Laws.BitsAllLaws
namespace Go.Proofs.Ytemmnjnihngjgaa.Num
set_option linter.unusedVariables false
set_option linter.unusedSimpArgs false
open Go.RowKit Go.Proofs.Ytemmnjnihngjgaa.PC Go.Proofs.YtemmnjnihngjgaaW.PrintWords Go.Proofs.YtemmnjnihngjgaaW.PrintMore
attribute [local irreducible] shl shr

/-- How far a shift goes. -/
def held (n : Int) : Nat := min n.toNat 128
theorem held_le (n : Int) : held n ≤ 128 := Nat.min_le_right _ _
theorem p2_pos (k : Nat) : (0 : Int) < 2 ^ k := Int.pow_pos (by decide)
theorem p2_pred {m : Nat} (h : 1 ≤ m) : (2 : Int) ^ m = 2 ^ (m - 1) * 2 := by
  obtain ⟨j, rfl⟩ : ∃ j, m = j + 1 := ⟨m - 1, by omega⟩
  exact Int.pow_succ _ _
theorem p2_split (k : Nat) (h : k ≤ 64) : (2 : Int) ^ k * 2 ^ (64 - k) = 18446744073709551616 := by
  rw [← Int.pow_add, show k + (64 - k) = 64 by omega]
  rfl
theorem shl64 {x : Int} {k : Nat} (h : k ≤ 64) : shl .u64 x (k : Int) = (x * 2 ^ k) % 18446744073709551616 := by
  unfold shl
  rw [u64_mod, Int.toNat_natCast, show IntKind.u64.bits = 64 from rfl, Nat.min_eq_left h]
theorem shr64 {x : Int} {k : Nat} (h : k ≤ 64) : shr .u64 x (k : Int) = x / 2 ^ k := by
  unfold shr
  rw [Int.toNat_natCast, show IntKind.u64.bits = 64 from rfl, Nat.min_eq_left h]

theorem u64_or_comm {x y : Int} (h0 : 0 ≤ x) (h1 : x < 18446744073709551616) (h2 : 0 ≤ y) (h3 : y < 18446744073709551616) : Go.bits .or .u64 x y = Go.bits .or .u64 y x := by
  rw [u64_or x y h0 h1 h2 h3, u64_or y x h2 h3 h0 h1, Nat.or_comm]
/-- A number cut into what lies above k bits, and what is left. -/
theorem cut_ex (a P : Int) (h : 0 < P) : a = P * (a / P) + a % P ∧ 0 ≤ a % P ∧ a % P < P :=
  ⟨(Int.mul_ediv_add_emod a P).symm, Int.emod_nonneg a (by omega), Int.emod_lt_of_pos a h⟩
theorem div_uniq {a P q r : Int} (h : a = P * q + r) (h0 : 0 ≤ r) (h1 : r < P) : a / P = q ∧ a % P = r := by
  have hP : 0 < P := by omega
  subst h
  constructor
  · rw [Int.add_comm, Int.add_mul_ediv_left _ _ (by omega), Int.ediv_eq_zero_of_lt h0 h1]; omega
  · rw [Int.add_comm, Int.add_mul_emod_self_left, Int.emod_eq_of_lt h0 h1]

theorem shr_parts {P Q a0 a1 s t u r : Int} (hPQ : P * Q = 18446744073709551616) (hP : 0 < P) (hQ : 0 < Q) (e0 : a0 = P * s + t) (t0 : 0 ≤ t) (t1 : t < P) (e1 : a1 = P * u + r) (r0 : 0 ≤ r) (r1 : r < P) (u0 : 0 ≤ u) (u1 : u < Q) :
    (a1 + 18446744073709551616 * a0) / P = 18446744073709551616 * s + (t * Q + u) ∧ 0 ≤ t * Q + u ∧ t * Q + u < 18446744073709551616 := by
  have h1 : t * Q + u < P * Q := by
    have : (t + 1) * Q ≤ P * Q := Int.mul_le_mul_of_nonneg_right (by omega) (by omega)
    rw [Int.add_mul, Int.one_mul] at this
    omega
  have h2 : 0 ≤ t * Q := Int.mul_nonneg t0 (by omega)
  refine ⟨(div_uniq (q := 18446744073709551616 * s + (t * Q + u)) (r := r) ?_ r0 r1).1, by omega, by omega⟩
  rw [← hPQ, e0, e1]
  have f1 : P * (P * Q * s + (t * Q + u)) = P * Q * (P * s) + P * Q * t + P * u := by
    rw [Int.mul_add, Int.mul_add]
    have g1 : P * (P * Q * s) = P * Q * (P * s) := by rw [Int.mul_comm P (P * Q * s), Int.mul_assoc (P * Q) s P, Int.mul_comm s P]
    have g2 : P * (t * Q) = P * Q * t := by rw [Int.mul_comm t Q, Int.mul_assoc]
    omega
  rw [f1, Int.mul_add]
  omega

theorem wrap_nat {k : Nat} (h : k < 1000) : IntKind.u64.wrap (k : Int) = (k : Int) := u64_id (by omega) (by omega)
theorem wrap_sub {k : Nat} (h : k ≤ 64) : IntKind.u64.wrap (64 - (k : Int)) = ((64 - k : Nat) : Int) := by
  rw [u64_id (by omega) (by omega)]; omega
theorem wrap_sub2 {k : Nat} (h : 64 ≤ k) (h2 : k ≤ 128) : IntKind.u64.wrap ((k : Int) - 64) = ((k - 64 : Nat) : Int) := by
  rw [u64_id (by omega) (by omega)]; omega

end Go.Proofs.Ytemmnjnihngjgaa.Num
