/- What the functions on numbers of 128 bits (layer 2) come to: by their value, low + 2^64 * high. -/
import Derived.Test.YtnmmhfpekeeedaaPBx4
import Derived.Test.YtnmmhfpekeeedaaBRef02
namespace Go.Proofs.Ytnmmhfpekeeedaa.Num
set_option linter.unusedVariables false
set_option linter.unusedSimpArgs false
open Go.RowKit Go.Proofs.Ytnmmhfpekeeedaa.PB Go.Proofs.YtnmmhfpekeeedaaW.PrintWords Go.Proofs.YtnmmhfpekeeedaaW.PrintMore

theorem u64_wf {a : Int} (h : (Lit.int .u64 a).wf = true) : 0 ≤ a ∧ a < 18446744073709551616 := by
  simp [Lit.wf, IntKind.min, IntKind.max, IntKind.bits, IntKind.signed] at h
  omega
theorem wraps_u64 (n : Int) (h₀ : 0 ≤ n) (h₁ : n < 2 ^ 64) : IntKind.u64.wrap n = n := u64_id h₀ (by simpa using h₁)
theorem u64_lo32 {x : Int} (h0 : 0 ≤ x) (h1 : x < 18446744073709551616) : Go.bits .and .u64 x 4294967295 = x % 4294967296 := by
  have := bits_mask .u64 64 (by decide) wraps_u64 32 (by decide) x h0 (by simpa using h1)
  simpa using this
theorem u64_join (i : Nat) {x y : Int} (h0 : 0 ≤ x) (h : x % 2 ^ i = 0) (h1 : x < 18446744073709551616) (h2 : 0 ≤ y) (h3 : y < 2 ^ i) (h4 : y < 18446744073709551616) : Go.bits .or .u64 x y = x + y :=
  bits_join .u64 64 (by decide) wraps_u64 i x y h0 h (by simpa using h1) h2 h3 (by simpa using h4)

theorem pair_mul_ok {x y : Int} (hx0 : 0 ≤ x) (hx : x < 18446744073709551616) (hy0 : 0 ≤ y) (hy : y < 18446744073709551616) :
    pair_Mul.f x y = some (x * y / 18446744073709551616, x * y % 18446744073709551616) := by
  unfold pair_Mul.f
  rw [u64_lo32 hx0 hx, u64_lo32 hy0 hy]
  have ha : 0 ≤ x / 4294967296 ∧ x / 4294967296 ≤ 4294967295 := by omega
  have hb : 0 ≤ x % 4294967296 ∧ x % 4294967296 ≤ 4294967295 := by omega
  have hc : 0 ≤ y / 4294967296 ∧ y / 4294967296 ≤ 4294967295 := by omega
  have hd : 0 ≤ y % 4294967296 ∧ y % 4294967296 ≤ 4294967295 := by omega
  have e : x * y = (x / 4294967296) * (y / 4294967296) * 18446744073709551616 + ((x / 4294967296) * (y % 4294967296) + (x % 4294967296) * (y / 4294967296)) * 4294967296 + (x % 4294967296) * (y % 4294967296) := by
    have e1 : x = (x / 4294967296) * 4294967296 + x % 4294967296 := by omega
    have e2 : y = (y / 4294967296) * 4294967296 + y % 4294967296 := by omega
    generalize x / 4294967296 = a at *
    generalize x % 4294967296 = b at *
    generalize y / 4294967296 = c at *
    generalize y % 4294967296 = d at *
    rw [e1, e2, Int.mul_add, Int.add_mul, Int.add_mul, Int.add_mul]
    have f1 : a * 4294967296 * (c * 4294967296) = a * c * 18446744073709551616 := by
      rw [Int.mul_assoc a, Int.mul_left_comm 4294967296 c, ← Int.mul_assoc a c]
      simp only [Int.reduceMul]
    have f2 : b * (c * 4294967296) = b * c * 4294967296 := by rw [Int.mul_assoc]
    have f3 : a * 4294967296 * d = a * d * 4294967296 := by rw [Int.mul_assoc a, Int.mul_comm 4294967296 d, ← Int.mul_assoc]
    omega
  have p1 := mul_bd ha.1 ha.2 hc.1 hc.2
  have p2 := mul_bd ha.1 ha.2 hd.1 hd.2
  have p3 := mul_bd hb.1 hb.2 hc.1 hc.2
  have p4 := mul_bd hb.1 hb.2 hd.1 hd.2
  rw [e]
  clear e
  generalize (x / 4294967296) * (y / 4294967296) = P at *
  generalize (x / 4294967296) * (y % 4294967296) = Q at *
  generalize (x % 4294967296) * (y / 4294967296) = R at *
  generalize (x % 4294967296) * (y % 4294967296) = S at *
  clear ha hb hc hd
  rw [u64_id (x := P) (by omega) (by omega), u64_id (x := Q) (by omega) (by omega), u64_id (x := R) (by omega) (by omega), u64_id (x := S) (by omega) (by omega)]
  rw [u64_lo32 (x := Q) (by omega) (by omega), u64_lo32 (x := R) (by omega) (by omega), u64_lo32 (x := S) (by omega) (by omega)]
  rw [u64_id (x := S / 4294967296 + Q % 4294967296) (by omega) (by omega), u64_id (x := S / 4294967296 + Q % 4294967296 + R % 4294967296) (by omega) (by omega)]
  rw [u64_id (x := P + Q / 4294967296) (by omega) (by omega), u64_id (x := P + Q / 4294967296 + R / 4294967296) (by omega) (by omega)]
  rw [u64_mod ((S / 4294967296 + Q % 4294967296 + R % 4294967296) * 4294967296), u64_id (by omega) (by omega)]
  rw [u64_join 32 (by omega) (by omega) (by omega) (by omega) (by omega) (by omega)]
  rw [Option.some.injEq, Prod.mk.injEq]
  constructor <;> omega

end Go.Proofs.Ytnmmhfpekeeedaa.Num
