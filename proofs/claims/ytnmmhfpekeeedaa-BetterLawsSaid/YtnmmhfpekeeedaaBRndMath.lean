/- Plain facts on rounding and on fixed-point products: no program. -/
import Derived.Test.YtnmmhfpekeeedaaBFix
namespace Go.Proofs.Ytnmmhfpekeeedaa.Num
set_option linter.unusedVariables false

theorem rnd_exact (q : Int) {d : Int} (h : 0 < d) : rnd (q * d) d = q := by
  unfold rnd
  rw [Int.mul_ediv_cancel _ (by omega), Int.mul_emod_left, if_neg (by omega)]
  omega
theorem rnd_mono {V V' d : Int} (hd : 0 < d) (h : V ≤ V') : rnd V d ≤ rnd V' d := by
  obtain ⟨e, r0, r1⟩ := cut_ex V d hd
  obtain ⟨e', r0', r1'⟩ := cut_ex V' d hd
  have hq : V / d ≤ V' / d := Int.ediv_le_ediv hd h
  have hb := rnd_bounds V d
  have hb' := rnd_bounds V' d
  by_cases c : V / d = V' / d
  · unfold rnd
    rw [c] at e ⊢
    split
    · rw [if_pos (by omega)]
      omega
    · split <;> omega
  · omega
theorem rnd_le {V d q : Int} (hd : 0 < d) (h : V ≤ q * d) : rnd V d ≤ q := by
  have := rnd_mono hd h
  rwa [rnd_exact q hd] at this
theorem rnd_ge {V d q : Int} (hd : 0 < d) (h : q * d ≤ V) : q ≤ rnd V d := by
  have := rnd_mono hd h
  rwa [rnd_exact q hd] at this
theorem opp_comm (x y : Int) : opp x y = opp y x := by
  unfold opp
  by_cases h : x < 0 <;> by_cases h2 : y < 0 <;> simp [h, h2]
theorem fmul_comm (x y : Int) : fmul x y = fmul y x := by
  unfold fmul
  rw [Int.mul_comm, opp_comm]
theorem fmul_one {x : Int} (h : -9223372036854775808 ≤ x ∧ x < 9223372036854775808) : fmul x 4294967296 = (x, 0) := by
  unfold fmul
  rw [show iabs 4294967296 = 4294967296 from rfl, rnd_exact _ (by omega)]
  unfold opp sgn iabs
  by_cases c : x < 0
  · simp [c]
    omega
  · simp [c]
    omega
/-- A product with a part: no farther from 0. -/
theorem fmul_part {x z : Int} (h : -9223372036854775808 ≤ x ∧ x < 9223372036854775808) (h0 : 0 ≤ z) (h1 : z ≤ 4294967296) : ∃ u, 0 ≤ u ∧ u ≤ iabs x ∧ fmul x z = (if x < 0 then -u else u, 0) ∧ u = rnd (iabs x * z) 4294967296 := by
  have ax := iabs_nonneg x
  have hz : iabs z = z := by unfold iabs; split <;> omega
  have hp : iabs x * z ≤ iabs x * 4294967296 := Int.mul_le_mul_of_nonneg_left h1 ax
  have hu0 : 0 ≤ rnd (iabs x * z) 4294967296 := rnd_nonneg (Int.mul_nonneg ax h0) (by omega)
  have hu1 : rnd (iabs x * z) 4294967296 ≤ iabs x := rnd_le (by omega) hp
  refine ⟨rnd (iabs x * z) 4294967296, hu0, hu1, ?_, rfl⟩
  unfold fmul
  rw [hz]
  generalize rnd (iabs x * z) 4294967296 = u at *
  have hza : decide (z < 0) = false := decide_eq_false (by omega)
  unfold opp sgn
  unfold iabs at hu1
  rw [hza]
  by_cases c : x < 0
  · rw [if_pos c] at hu1
    simp [c]
    omega
  · rw [if_neg c] at hu1
    simp [c]
    omega
theorem fmul_mono {x y z : Int} (hx : -9223372036854775808 ≤ x ∧ x < 9223372036854775808) (hy : -9223372036854775808 ≤ y ∧ y < 9223372036854775808) (hz : 0 ≤ z) (hxy : x ≤ y) (ex : (fmul x z).2 = 0) (ey : (fmul y z).2 = 0) : (fmul x z).1 ≤ (fmul y z).1 := by
  have ax := iabs_nonneg x
  have ay := iabs_nonneg y
  have az := iabs_nonneg z
  have hu := rnd_nonneg (V := iabs x * iabs z) (d := 4294967296) (Int.mul_nonneg ax az) (by omega)
  have hv := rnd_nonneg (V := iabs y * iabs z) (d := 4294967296) (Int.mul_nonneg ay az) (by omega)
  have hle : iabs x ≤ iabs y → rnd (iabs x * iabs z) 4294967296 ≤ rnd (iabs y * iabs z) 4294967296 := fun h => rnd_mono (by omega) (Int.mul_le_mul_of_nonneg_right h az)
  have hge : iabs y ≤ iabs x → rnd (iabs y * iabs z) 4294967296 ≤ rnd (iabs x * iabs z) 4294967296 := fun h => rnd_mono (by omega) (Int.mul_le_mul_of_nonneg_right h az)
  have hza : decide (z < 0) = false := decide_eq_false (by omega)
  have hxa : iabs x = if x < 0 then -x else x := rfl
  have hya : iabs y = if y < 0 then -y else y := rfl
  unfold fmul at *
  generalize rnd (iabs x * iabs z) 4294967296 = u at *
  generalize rnd (iabs y * iabs z) 4294967296 = v at *
  unfold opp sgn at *
  rw [hza] at *
  by_cases c : x < 0
  · by_cases d : y < 0
    · rw [if_pos c] at hxa
      rw [if_pos d] at hya
      have := hge (by omega)
      simp [c, d] at ex ey ⊢
      split at ex <;> split at ey <;> simp_all
    · simp [c, d] at ex ey ⊢
      split at ex <;> split at ey <;> simp_all <;> omega
  · by_cases d : y < 0
    · omega
    · rw [if_neg c] at hxa
      rw [if_neg d] at hya
      have := hle (by omega)
      simp [c, d] at ex ey ⊢
      split at ex <;> split at ey <;> simp_all
end Go.Proofs.Ytnmmhfpekeeedaa.Num
