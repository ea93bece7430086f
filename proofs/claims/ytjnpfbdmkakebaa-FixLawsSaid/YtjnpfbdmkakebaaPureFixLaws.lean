/- Products of fixed-point numbers do not hang on the order; with One a number is itself; of a number that is not less the product with one that is not below 0 is not less; with a part it is no farther from 0: for all numbers. -/
import Derived.Test.YtjnpfbdmkakebaaPAx8
import Derived.Test.YtjnpfbdmkakebaaPAx15
import Derived.Test.YtjnpfbdmkakebaaRndMath
namespace Go.Proofs.Ytjnpfbdmkakebaa.Pure
set_option linter.unusedVariables false
open Go.RowKit Go.Proofs.Ytjnpfbdmkakebaa.PA Go.Proofs.Ytjnpfbdmkakebaa.Num Go.Proofs.YtjnpfbdmkakebaaW.PrintWords Go.Proofs.YtjnpfbdmkakebaaW.PrintLast

theorem awake04b : Ev (fun k => regimenlaw04_awake.f k) true := Ev.of (fun k => regimenlaw04_awake.mono k) (k := 80) (by decide +kernel)

theorem fixlaws_j1 {x z : Int} (hx : -9223372036854775808 ≤ x ∧ x < 9223372036854775808) (hz : -9223372036854775808 ≤ z ∧ z < 9223372036854775808) : Ev (fun k => regimenlaw04_FixLaws.j1 k x z (fmul x z).1 (fmul x z).2 false) true := by
  refine Ev.step (fun k => by rw [regimenlaw04_FixLaws.j1]) ?_
  refine evn (by simp) ?_
  by_cases c : z ≥ 0
  · refine evp c ?_
    by_cases d : z ≤ 4294967296
    · refine evp d ?_
      obtain ⟨u, u0, u1, e, _⟩ := fmul_part hx c d
      rw [e]
      refine evp rfl ?_
      have hi : iabs (if x < 0 then -u else u) = u := by
        unfold iabs
        by_cases h : x < 0
        · rw [if_pos h]
          split <;> omega
        · rw [if_neg h]
          split <;> omega
      have hb := iabs_lt hx
      have hs := fix_size_ok (x := if x < 0 then -u else u) (by
        unfold iabs at u1 hb
        by_cases h : x < 0
        · rw [if_pos h] at u1 hb ⊢
          omega
        · rw [if_neg h] at u1 hb ⊢
          omega)
      rw [hi] at hs
      refine evs hs ?_
      refine evs (fix_size_ok hx) ?_
      refine evn (by omega) ?_
      exact Ev.bind awake04b (Ev.now _)
    · refine evn d ?_
      exact Ev.bind awake04b (Ev.now _)
  · refine evn c ?_
    exact Ev.bind awake04b (Ev.now _)

theorem FixLaws : regimenlaw04_FixLaws.Pure := by
  intro x y z hx hy hz
  have hx := i64_wf hx
  have hy := i64_wf hy
  have hz := i64_wf hz
  refine Ev.rounds (r := true) ?_
  have h1 := fix_mul_ok hz hx
  rw [fmul_comm] at h1
  have h2 := fix_mul_ok (y := 4294967296) hx (by omega)
  rw [fmul_one hx] at h2
  unfold regimenlaw04_FixLaws.f
  refine Ev.bind (fix_mul_ok hx hz) ?_
  refine Ev.bind h1 ?_
  refine Ev.bind h2 ?_
  refine evp rfl ?_
  refine evp rfl ?_
  refine evp rfl ?_
  refine Ev.step (fun k => by rw [regimenlaw04_FixLaws.j0]) ?_
  refine evn (by simp) ?_
  refine Ev.bind (fix_mul_ok hy hz) ?_
  by_cases c1 : (fmul x z).2 = 0
  · refine evp c1 ?_
    by_cases c2 : (fmul y z).2 = 0
    · refine evp c2 ?_
      by_cases c3 : x ≤ y
      · refine evp c3 ?_
        by_cases c4 : z ≥ 0
        · refine evp c4 ?_
          rw [decide_eq_false (by have := fmul_mono hx hy c4 c3 c1 c2; omega)]
          exact fixlaws_j1 hx hz
        · exact evn c4 (fixlaws_j1 hx hz)
      · exact evn c3 (fixlaws_j1 hx hz)
    · exact evn c2 (fixlaws_j1 hx hz)
  · exact evn c1 (fixlaws_j1 hx hz)
end Go.Proofs.Ytjnpfbdmkakebaa.Pure
