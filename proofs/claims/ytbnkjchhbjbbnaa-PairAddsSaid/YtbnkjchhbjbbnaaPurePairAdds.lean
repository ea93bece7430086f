/- The sum and the difference of two numbers of 128 bits, and how they compare, are as the reference has them: for every two numbers. -/
import Derived.Test.YtbnkjchhbjbbnaaPAx3
import Derived.Test.YtbnkjchhbjbbnaaPAx10
import Derived.Test.YtbnkjchhbjbbnaaPair
namespace Go.Proofs.Ytbnkjchhbjbbnaa.Pure
set_option linter.unusedVariables false
open Go.RowKit Go.Proofs.Ytbnkjchhbjbbnaa.PA Go.Proofs.Ytbnkjchhbjbbnaa.Num Go.Proofs.YtbnkjchhbjbbnaaW.PrintWords Go.Proofs.YtbnkjchhbjbbnaaW.PrintLast

theorem awake02a : Ev (fun k => regimenlaw02_awake.f k) true := Ev.of (fun k => regimenlaw02_awake.mono k) (k := 40) (by decide +kernel)
theorem flag_lt (p q : Prop) [Decidable p] [Decidable q] : (decide p != decide ((if p then (-1 : Int) else if q then 1 else 0) < 0)) = false := by
  by_cases h : p
  · simp [h]
  · by_cases h2 : q <;> simp [h, h2]
theorem flag_ge (x y : Int) : (decide (x ≥ y) != decide ((if x < y then (-1 : Int) else if x > y then 1 else 0) ≥ 0)) = false := by
  by_cases h : x < y
  · have h2 : ¬ x ≥ y := by omega
    simp [h, h2]
  · have h2 : x ≥ y := by omega
    by_cases h3 : x > y <;> simp [h, h2, h3]

theorem PairAdds : regimenlaw02_PairAdds.Pure := by
  intro a0 a1 b0 b1 h0 h1 h2 h3
  have h0 := u64_wf h0
  have h1 := u64_wf h1
  have h2 := u64_wf h2
  have h3 := u64_wf h3
  refine Ev.rounds (r := true) ?_
  obtain ⟨x, hx, dx, vx, lx⟩ := of_ok a0 a1 h0.1 h0.2 h1.1 h1.2
  obtain ⟨y, hy, dy, vy, ly⟩ := of_ok b0 b1 h2.1 h2.2 h3.1 h3.2
  obtain ⟨s, hs, ds, vs, ls⟩ := plus_ok x y dx dy 8 (by omega) (by omega) (by omega)
  obtain ⟨t, ht, dt, vt, lt⟩ := twos_ok 128 (by omega)
  have vt : dv t = 340282366920938463463374607431768211456 := vt
  obtain ⟨z, hz, dz, vz, lz⟩ := plus_ok x t dx dt 129 (by omega) (by simpa using lt) (by omega)
  have hms := mod_ok s ds
  have hcs := cmp_ok s t ds dt (by omega) (by simp at lt; omega)
  have hcx := cmp_ok x y dx dy (by omega) (by omega)
  have hadd := pair_add_ok h0 h1 h2 h3
  have hsub := pair_sub_ok h0 h1 h2 h3
  have hcmp := pair_cmp_ok h0 h1 h2 h3
  rw [vs, vx, vy] at hms hcs
  rw [vt] at hcs
  rw [vx, vy] at hcx
  have hback := pair_sub_ok (a0 := (a1 + 18446744073709551616 * a0 + (b1 + 18446744073709551616 * b0)) / 18446744073709551616 % 18446744073709551616) (a1 := (a1 + 18446744073709551616 * a0 + (b1 + 18446744073709551616 * b0)) % 18446744073709551616) (b0 := b0) (b1 := b1) (by omega) (by omega) h2 h3
  unfold regimenlaw02_PairAdds.f
  refine evs hx ?_
  refine evs hy ?_
  refine evs hadd ?_
  refine Ev.bind hs ?_
  refine Ev.bind hms ?_
  refine evn (by simp) ?_
  refine Ev.bind ht ?_
  refine Ev.bind hcs ?_
  rw [flag_lt]
  refine Ev.step (fun k => by rw [regimenlaw02_PairAdds.j0]) ?_
  refine evn (by simp) ?_
  refine evs hsub ?_
  refine Ev.bind hcx ?_
  refine evs hcmp ?_
  refine evp rfl ?_
  rw [flag_ge]
  refine Ev.step (fun k => by rw [regimenlaw02_PairAdds.j1]) ?_
  refine evn (by simp) ?_
  have hend : ∀ x5 x6 x7 x8 : Int, x5 = (a1 + 18446744073709551616 * a0 + (b1 + 18446744073709551616 * b0)) / 18446744073709551616 % 18446744073709551616 → x6 = (a1 + 18446744073709551616 * a0 + (b1 + 18446744073709551616 * b0)) % 18446744073709551616 →
      Ev (fun k => regimenlaw02_PairAdds.j2 k false a0 a1 b0 b1 x5 x6) true := by
    intro x5 x6 _ _ e5 e6
    subst e5 e6
    refine Ev.step (fun k => by rw [regimenlaw02_PairAdds.j2]) ?_
    refine evn (by simp) ?_
    refine evs hback ?_
    refine evp ?_ (Ev.bind awake02a (Ev.now _))
    simp only [Bool.and_eq_true, beq_iff_eq]
    constructor <;> omega
  by_cases c : a1 + 18446744073709551616 * a0 ≥ b1 + 18446744073709551616 * b0
  · obtain ⟨d, hd, dd, vd, ld⟩ := less_ok x y dx dy (by omega) (by omega)
    have hmd := mod_ok d dd
    rw [vd, vx, vy] at hmd
    refine evp (by simpa using c) ?_
    refine Ev.bind hd ?_
    refine Ev.bind hmd ?_
    refine evn (by simp) ?_
    exact hend _ _ 0 0 rfl rfl
  · obtain ⟨d, hd, dd, vd, ld⟩ := less_ok z y dz dy (by omega) (by omega)
    have hmd := mod_ok d dd
    rw [vd, vz, vt, vx, vy] at hmd
    refine evn (by simpa using c) ?_
    refine Ev.bind ht ?_
    refine Ev.bind hz ?_
    refine Ev.bind hd ?_
    refine Ev.bind hmd ?_
    have hf : ((!((a1 + 18446744073709551616 * a0 - (b1 + 18446744073709551616 * b0)) / 18446744073709551616 % 18446744073709551616 == (a1 + 18446744073709551616 * a0 + 340282366920938463463374607431768211456 - (b1 + 18446744073709551616 * b0)) / 18446744073709551616 % 18446744073709551616)) || (!((a1 + 18446744073709551616 * a0 - (b1 + 18446744073709551616 * b0)) % 18446744073709551616 == (a1 + 18446744073709551616 * a0 + 340282366920938463463374607431768211456 - (b1 + 18446744073709551616 * b0)) % 18446744073709551616))) = false := by
      rw [Bool.or_eq_false_iff, Bool.not_eq_false', Bool.not_eq_false', beq_iff_eq, beq_iff_eq]
      constructor <;> omega
    rw [hf]
    exact hend _ _ 0 0 rfl rfl
end Go.Proofs.Ytbnkjchhbjbbnaa.Pure
