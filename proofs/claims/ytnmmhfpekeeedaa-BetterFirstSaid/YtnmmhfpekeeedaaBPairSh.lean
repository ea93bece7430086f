/- Shifts of numbers of 128 bits, and how many bits they have. -/
import Derived.Test.YtnmmhfpekeeedaaPBx2
import Derived.Test.YtnmmhfpekeeedaaBPair
import Derived.Laws.BitsAllLaws
namespace Go.Proofs.Ytnmmhfpekeeedaa.Num
set_option linter.unusedVariables false
set_option linter.unusedSimpArgs false
open Go.RowKit Go.Proofs.Ytnmmhfpekeeedaa.PB Go.Proofs.YtnmmhfpekeeedaaW.PrintWords Go.Proofs.YtnmmhfpekeeedaaW.PrintMore
attribute [local irreducible] shl shr

/-- How far a shift goes. -/
def held (n : Int) : Nat := min n.toNat 128
theorem held_le (n : Int) : held n ≤ 128 := Nat.min_le_right _ _
theorem pair_held_ok (n : Int) : pair_held.f n = some (held n : Int) := by
  unfold pair_held.f held mn mx
  congr 1
  by_cases h : n < 0
  · rw [if_pos h]; split <;> omega
  · rw [if_neg h]; split <;> omega

theorem p2_pos (k : Nat) : (0 : Int) < 2 ^ k := Int.pow_pos (by decide)
theorem p2_pred {m : Nat} (h : 1 ≤ m) : (2 : Int) ^ m = 2 ^ (m - 1) * 2 := by
  obtain ⟨j, rfl⟩ : ∃ j, m = j + 1 := ⟨m - 1, by omega⟩
  exact Int.pow_succ _ _
theorem p2_split (k : Nat) (h : k ≤ 64) : (2 : Int) ^ k * 2 ^ (64 - k) = 18446744073709551616 := by
  rw [← Int.pow_add, show k + (64 - k) = 64 by omega]
  rfl
theorem shl64 {x : Int} {k : Nat} (h : k ≤ 64) : shl .u64 x (k : Int) = (x * 2 ^ k) % 18446744073709551616 := by
  unfold shl
  rw [u64_mod, Int.toNat_natCast, show IntKind.u64.bits = 64 from rfl, Nat.min_eq_left h]
theorem shr64 {x : Int} {k : Nat} (h : k ≤ 64) : shr .u64 x (k : Int) = x / 2 ^ k := by
  unfold shr
  rw [Int.toNat_natCast, show IntKind.u64.bits = 64 from rfl, Nat.min_eq_left h]

theorem u64_or_comm {x y : Int} (h0 : 0 ≤ x) (h1 : x < 18446744073709551616) (h2 : 0 ≤ y) (h3 : y < 18446744073709551616) : Go.bits .or .u64 x y = Go.bits .or .u64 y x := by
  rw [u64_or x y h0 h1 h2 h3, u64_or y x h2 h3 h0 h1, Nat.or_comm]
/-- A number cut into what lies above k bits, and what is left. -/
theorem cut_ex (a P : Int) (h : 0 < P) : a = P * (a / P) + a % P ∧ 0 ≤ a % P ∧ a % P < P :=
  ⟨(Int.mul_ediv_add_emod a P).symm, Int.emod_nonneg a (by omega), Int.emod_lt_of_pos a h⟩
theorem div_uniq {a P q r : Int} (h : a = P * q + r) (h0 : 0 ≤ r) (h1 : r < P) : a / P = q ∧ a % P = r := by
  have hP : 0 < P := by omega
  subst h
  constructor
  · rw [Int.add_comm, Int.add_mul_ediv_left _ _ (by omega), Int.ediv_eq_zero_of_lt h0 h1]; omega
  · rw [Int.add_comm, Int.add_mul_emod_self_left, Int.emod_eq_of_lt h0 h1]

theorem shr_parts {P Q a0 a1 s t u r : Int} (hPQ : P * Q = 18446744073709551616) (hP : 0 < P) (hQ : 0 < Q) (e0 : a0 = P * s + t) (t0 : 0 ≤ t) (t1 : t < P) (e1 : a1 = P * u + r) (r0 : 0 ≤ r) (r1 : r < P) (u0 : 0 ≤ u) (u1 : u < Q) :
    (a1 + 18446744073709551616 * a0) / P = 18446744073709551616 * s + (t * Q + u) ∧ 0 ≤ t * Q + u ∧ t * Q + u < 18446744073709551616 := by
  have h1 : t * Q + u < P * Q := by
    have : (t + 1) * Q ≤ P * Q := Int.mul_le_mul_of_nonneg_right (by omega) (by omega)
    rw [Int.add_mul, Int.one_mul] at this
    omega
  have h2 : 0 ≤ t * Q := Int.mul_nonneg t0 (by omega)
  refine ⟨(div_uniq (q := 18446744073709551616 * s + (t * Q + u)) (r := r) ?_ r0 r1).1, by omega, by omega⟩
  rw [← hPQ, e0, e1]
  have f1 : P * (P * Q * s + (t * Q + u)) = P * Q * (P * s) + P * Q * t + P * u := by
    rw [Int.mul_add, Int.mul_add]
    have g1 : P * (P * Q * s) = P * Q * (P * s) := by rw [Int.mul_comm P (P * Q * s), Int.mul_assoc (P * Q) s P, Int.mul_comm s P]
    have g2 : P * (t * Q) = P * Q * t := by rw [Int.mul_comm t Q, Int.mul_assoc]
    omega
  rw [f1, Int.mul_add]
  omega

theorem wrap_nat {k : Nat} (h : k < 1000) : IntKind.u64.wrap (k : Int) = (k : Int) := u64_id (by omega) (by omega)
theorem wrap_sub {k : Nat} (h : k ≤ 64) : IntKind.u64.wrap (64 - (k : Int)) = ((64 - k : Nat) : Int) := by
  rw [u64_id (by omega) (by omega)]; omega
theorem wrap_sub2 {k : Nat} (h : 64 ≤ k) (h2 : k ≤ 128) : IntKind.u64.wrap ((k : Int) - 64) = ((k - 64 : Nat) : Int) := by
  rw [u64_id (by omega) (by omega)]; omega

theorem pair_shr_ok {a0 a1 : Int} (n : Int) (h1 : 0 ≤ a0 ∧ a0 < 18446744073709551616) (h2 : 0 ≤ a1 ∧ a1 < 18446744073709551616) :
    pair_Shr.f a0 a1 n = some ((a1 + 18446744073709551616 * a0) / 2 ^ held n / 18446744073709551616, (a1 + 18446744073709551616 * a0) / 2 ^ held n % 18446744073709551616) := by
  unfold pair_Shr.f
  rw [pair_held_ok]
  have hk := held_le n
  generalize held n = k at *
  simp only [Option.bind_some]
  rw [wrap_nat (by omega)]
  by_cases c : (k : Int) ≥ 64
  · rw [if_pos c, wrap_sub2 (by omega) hk, if_pos (by omega), shr64 (by omega), Option.some.injEq, Prod.mk.injEq]
    have e : (2 : Int) ^ k = 18446744073709551616 * 2 ^ (k - 64) := by
      rw [show k = 64 + (k - 64) by omega, Int.pow_add, show 64 + (k - 64) - 64 = k - 64 by omega]
      rfl
    have e2 : (a1 + 18446744073709551616 * a0) / 18446744073709551616 = a0 := by omega
    have e3 : 0 ≤ a0 / 2 ^ (k - 64) := Int.ediv_nonneg h1.1 (Int.le_of_lt (p2_pos _))
    have e4 : a0 / 2 ^ (k - 64) ≤ a0 := Int.ediv_le_self _ h1.1
    rw [e, ← Int.ediv_ediv_of_nonneg (by omega), e2]
    constructor <;> omega
  · rw [if_neg c, if_pos (by omega), wrap_sub (by omega), if_pos (by omega), shr64 (by omega), shr64 (by omega), shl64 (by omega), Option.some.injEq, Prod.mk.injEq]
    have hP := p2_pos k
    have hQ := p2_pos (64 - k)
    have hPQ := p2_split k (by omega)
    obtain ⟨e0, t0, t1⟩ := cut_ex a0 (2 ^ k) hP
    obtain ⟨e1, r0, r1⟩ := cut_ex a1 (2 ^ k) hP
    have u0 : 0 ≤ a1 / 2 ^ k := Int.ediv_nonneg h2.1 (Int.le_of_lt hP)
    have u1 : a1 / 2 ^ k < 2 ^ (64 - k) := by
      apply Int.ediv_lt_of_lt_mul hP
      rw [Int.mul_comm, hPQ]; exact h2.2
    have hj := fun h1 h2 h3 h4 h5 => u64_join (64 - k) (x := (a0 * 2 ^ (64 - k)) % 18446744073709551616) (y := a1 / 2 ^ k) h1 h2 h3 u0 h4 h5
    generalize hPe : (2 : Int) ^ k = P at *
    generalize hQe : (2 : Int) ^ (64 - k) = Q at *
    obtain ⟨g1, g2, g3⟩ := shr_parts hPQ hP hQ e0 t0 t1 e1 r0 r1 u0 u1
    have e5 : a0 * Q = 18446744073709551616 * (a0 / P) + a0 % P * Q := by
      have : a0 * Q = (P * (a0 / P) + a0 % P) * Q := by rw [← e0]
      rw [this, Int.add_mul, Int.mul_right_comm, hPQ]
    have hx0 : 0 ≤ a0 % P * Q := Int.mul_nonneg t0 (by omega)
    have e6 : (a0 * Q) % 18446744073709551616 = a0 % P * Q := (div_uniq e5 hx0 (by omega)).2
    rw [e6] at hj ⊢
    have hmul : a0 % P * Q % Q = 0 := Int.mul_emod_left _ _
    rw [u64_or_comm u0 (Int.lt_of_le_of_lt (Int.ediv_le_self _ h2.1) h2.2) hx0 (by omega), hj hx0 hmul (by omega) u1 (Int.lt_of_le_of_lt (Int.ediv_le_self _ h2.1) h2.2), g1]
    clear hj e0 e1 e5 e6 g1 hPQ hPe hQe hmul
    generalize a0 % P * Q = Z at *
    generalize a1 / P = U at *
    generalize a0 / P = S at *
    constructor <;> omega

theorem pair_shl_ok {a0 a1 : Int} (n : Int) (h1 : 0 ≤ a0 ∧ a0 < 18446744073709551616) (h2 : 0 ≤ a1 ∧ a1 < 18446744073709551616) :
    pair_Shl.f a0 a1 n = some ((a1 + 18446744073709551616 * a0) * 2 ^ held n / 18446744073709551616 % 18446744073709551616, (a1 + 18446744073709551616 * a0) * 2 ^ held n % 18446744073709551616, decide ((a1 + 18446744073709551616 * a0) * 2 ^ held n < 340282366920938463463374607431768211456)) := by
  have hk := held_le n
  have hP := p2_pos (held n)
  have hback : ∀ hi lo : Int, hi = (a1 + 18446744073709551616 * a0) * 2 ^ held n / 18446744073709551616 % 18446744073709551616 → lo = (a1 + 18446744073709551616 * a0) * 2 ^ held n % 18446744073709551616 →
      (pair_Shr.f hi lo n).bind (fun bt => some (hi, lo, (bt.1 == a0 && (bt.2 == a1)))) = some ((a1 + 18446744073709551616 * a0) * 2 ^ held n / 18446744073709551616 % 18446744073709551616, (a1 + 18446744073709551616 * a0) * 2 ^ held n % 18446744073709551616, decide ((a1 + 18446744073709551616 * a0) * 2 ^ held n < 340282366920938463463374607431768211456)) := by
    intro hi lo e1 e2
    rw [pair_shr_ok n (by omega) (by omega)]
    simp only [Option.bind_some]
    rw [← e1, ← e2]
    have hV : 0 ≤ a1 + 18446744073709551616 * a0 := by omega
    have hX : lo + 18446744073709551616 * hi = (a1 + 18446744073709551616 * a0) * 2 ^ held n % 340282366920938463463374607431768211456 := by omega
    have hVe : a0 = (a1 + 18446744073709551616 * a0) / 18446744073709551616 ∧ a1 = (a1 + 18446744073709551616 * a0) % 18446744073709551616 := by omega
    rw [hX]
    have key : ((a1 + 18446744073709551616 * a0) * 2 ^ held n % 340282366920938463463374607431768211456 / 2 ^ held n = a1 + 18446744073709551616 * a0) ↔ (a1 + 18446744073709551616 * a0) * 2 ^ held n < 340282366920938463463374607431768211456 := by
      have hVP : 0 ≤ (a1 + 18446744073709551616 * a0) * 2 ^ held n := Int.mul_nonneg hV (Int.le_of_lt hP)
      constructor
      · intro h
        by_cases c : (a1 + 18446744073709551616 * a0) * 2 ^ held n < 340282366920938463463374607431768211456
        · exact c
        · have h3 : (a1 + 18446744073709551616 * a0) * 2 ^ held n % 340282366920938463463374607431768211456 < (a1 + 18446744073709551616 * a0) * 2 ^ held n := by omega
          have h4 := Int.ediv_lt_of_lt_mul hP h3
          omega
      · intro h
        rw [Int.emod_eq_of_lt hVP h, Int.mul_ediv_cancel _ (by omega)]
    generalize (a1 + 18446744073709551616 * a0) * 2 ^ held n % 340282366920938463463374607431768211456 / 2 ^ held n = Y at *
    congr 3
    rw [Bool.eq_iff_iff, Bool.and_eq_true, beq_iff_eq, beq_iff_eq, decide_eq_true_iff, ← key]
    omega
  unfold pair_Shl.f
  rw [pair_held_ok]
  generalize held n = k at *
  simp only [Option.bind_some]
  rw [wrap_nat (by omega), if_pos (by omega)]
  have hw : 0 ≤ IntKind.u64.wrap (64 - (k : Int)) := by rw [u64_mod]; omega
  rw [if_pos hw]
  clear hw
  by_cases c : (k : Int) ≥ 64
  · rw [if_pos c, wrap_sub2 (by omega) hk, if_pos (by omega), shl64 (by omega)]
    have e : (2 : Int) ^ k = 18446744073709551616 * 2 ^ (k - 64) := by
      rw [show k = 64 + (k - 64) by omega, Int.pow_add, show 64 + (k - 64) - 64 = k - 64 by omega]
      rfl
    have e2 : (a1 + 18446744073709551616 * a0) * 2 ^ k = 18446744073709551616 * (a1 * 2 ^ (k - 64) + 18446744073709551616 * (a0 * 2 ^ (k - 64))) := by
      rw [e, Int.mul_left_comm, Int.add_mul, Int.mul_assoc 18446744073709551616 a0]
    refine hback _ _ ?_ ?_
    · rw [e2]; omega
    · rw [e2]; omega
  · rw [if_neg c, wrap_sub (by omega), shl64 (by omega), shl64 (by omega), shr64 (by omega)]
    have hQ := p2_pos (64 - k)
    have hPQ := p2_split k (by omega)
    have hj := u64_join k (x := (a0 * 2 ^ k) % 18446744073709551616) (y := a1 / 2 ^ (64 - k))
    generalize hPe : (2 : Int) ^ k = P at *
    generalize hQe : (2 : Int) ^ (64 - k) = Q at *
    obtain ⟨e0, t0, t1⟩ := cut_ex a0 Q hQ
    obtain ⟨e1, r0, r1⟩ := cut_ex a1 Q hQ
    have u0 : 0 ≤ a1 / Q := Int.ediv_nonneg h2.1 (Int.le_of_lt hQ)
    have u1 : a1 / Q < P := by
      apply Int.ediv_lt_of_lt_mul hQ
      rw [hPQ]; exact h2.2
    have f1 : a0 * P = 18446744073709551616 * (a0 / Q) + a0 % Q * P := by
      have : a0 * P = (Q * (a0 / Q) + a0 % Q) * P := by rw [← e0]
      rw [this, Int.add_mul, Int.mul_right_comm, Int.mul_comm Q P, hPQ]
    have f2 : a1 * P = 18446744073709551616 * (a1 / Q) + a1 % Q * P := by
      have : a1 * P = (Q * (a1 / Q) + a1 % Q) * P := by rw [← e1]
      rw [this, Int.add_mul, Int.mul_right_comm, Int.mul_comm Q P, hPQ]
    have b1 : a0 % Q * P + P ≤ 18446744073709551616 := by
      have : (a0 % Q + 1) * P ≤ Q * P := Int.mul_le_mul_of_nonneg_right (by omega) (by omega)
      rw [Int.add_mul, Int.one_mul, Int.mul_comm Q P, hPQ] at this
      exact this
    have b2 : a1 % Q * P + P ≤ 18446744073709551616 := by
      have : (a1 % Q + 1) * P ≤ Q * P := Int.mul_le_mul_of_nonneg_right (by omega) (by omega)
      rw [Int.add_mul, Int.one_mul, Int.mul_comm Q P, hPQ] at this
      exact this
    have z1 : 0 ≤ a0 % Q * P := Int.mul_nonneg t0 (by omega)
    have z2 : 0 ≤ a1 % Q * P := Int.mul_nonneg r0 (by omega)
    have m1 : (a0 * P) % 18446744073709551616 = a0 % Q * P := (div_uniq f1 z1 (by omega)).2
    have m2 : (a1 * P) % 18446744073709551616 = a1 % Q * P := (div_uniq f2 z2 (by omega)).2
    have u2 : a1 / Q < 18446744073709551616 := Int.lt_of_le_of_lt (Int.ediv_le_self _ h2.1) h2.2
    have e2 : (a1 + 18446744073709551616 * a0) * P = 18446744073709551616 * (a1 / Q + a0 * P) + a1 % Q * P := by
      rw [Int.add_mul, f2, Int.mul_assoc 18446744073709551616 a0, Int.mul_add]
      omega
    rw [m1] at hj ⊢
    rw [m2, hj z1 (Int.mul_emod_left _ _) (by omega) u0 u1 u2]
    clear hj hPe hQe hPQ e0 e1
    refine hback _ _ ?_ ?_
    · rw [e2, f1]
      generalize a0 % Q * P = Z0 at *
      generalize a1 % Q * P = Z1 at *
      generalize a1 / Q = U at *
      generalize a0 / Q = S at *
      clear hback e2 f1 f2 m1 m2
      omega
    · rw [e2]
      generalize a1 % Q * P = Z1 at *
      clear hback e2 f1 f2 m1 m2
      omega

end Go.Proofs.Ytnmmhfpekeeedaa.Num
