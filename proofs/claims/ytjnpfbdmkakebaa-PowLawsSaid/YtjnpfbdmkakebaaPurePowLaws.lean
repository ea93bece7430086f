/- Powers rise with their number, stay parts, and the power of a square is the power of twice the number: for all numbers. -/
import Derived.Test.YtjnpfbdmkakebaaPAx9
import Derived.Test.YtjnpfbdmkakebaaPAx18
import Derived.Test.YtjnpfbdmkakebaaPow
namespace Go.Proofs.Ytjnpfbdmkakebaa.Pure
set_option linter.unusedVariables false
open Go.RowKit Go.Proofs.Ytjnpfbdmkakebaa.PA Go.Proofs.Ytjnpfbdmkakebaa.Num Go.Proofs.YtjnpfbdmkakebaaW.PrintWords Go.Proofs.YtjnpfbdmkakebaaW.PrintLast Go.Proofs.YtjnpfbdmkakebaaW.PrintMore

theorem awake06b : Ev (fun k => regimenlaw06_awake.f k) true := Ev.of (fun k => regimenlaw06_awake.mono k) (k := 80) (by decide +kernel)

theorem PowLaws : regimenlaw06_PowLaws.Pure := by
  intro a b n ha hb hn
  have ha := i64_wf ha
  have hb := i64_wf hb
  have hn := i64_wf hn
  refine Ev.rounds (r := true) ?_
  unfold regimenlaw06_PowLaws.f
  have fin : Ev (fun k => regimenlaw06_PowLaws.j0 k a b n true) true := by
    refine Ev.step (fun k => by rw [regimenlaw06_PowLaws.j0]) ?_
    refine evp rfl ?_
    exact Ev.bind awake06b (Ev.now _)
  by_cases c1 : a < 0
  · exact evp c1 fin
  refine evn c1 ?_
  by_cases c2 : a > b
  · exact evp c2 fin
  refine evn c2 ?_
  by_cases c3 : b > 4294967296
  · exact evp c3 fin
  refine evn c3 ?_
  by_cases c4 : n < 0
  · exact evp c4 fin
  refine evn c4 ?_
  by_cases c5 : n > 549755813888
  · rw [decide_eq_true c5]
    exact fin
  rw [decide_eq_false c5]
  have pa : isPart a := ⟨by omega, by omega⟩
  have pb : isPart b := ⟨by omega, by omega⟩
  have e40 : (2 : Int) ^ 40 = 1099511627776 := by decide
  have e41 : (2 : Int) ^ 41 = 2199023255552 := by decide
  have paa := pm_eq pa pa
  have k1 := pow_of_ok 40 pa (n := n) (by omega) (by omega) (by omega)
  have k2 := pow_of_ok 40 pb (n := n) (by omega) (by omega) (by omega)
  have k3 := fix_mul_ok (part_word pa) (part_word pa)
  have k4 := pow_of_ok 40 paa.2 (n := n) (by omega) (by omega) (by omega)
  have k5 := pow_of_ok 41 pa (n := 2 * n) (by omega) (by omega) (by omega)
  rw [gop_double] at k5
  rw [paa.1] at k3
  have g1 := gop_part 40 (n := n) pa one_part
  have g2 := gop_part 40 (n := n) pb one_part
  have g3 := gop_mono 40 (n := n) pa pb one_part one_part (by omega) (Int.le_refl _)
  refine Ev.step (fun k => by rw [regimenlaw06_PowLaws.j0]) ?_
  refine evn (by simp) ?_
  rw [w64_id (x := 2 * n) (by omega) (by omega)]
  refine Ev.bind k1 ?_
  refine Ev.bind k2 ?_
  refine Ev.bind k3 ?_
  refine Ev.bind k4 ?_
  refine Ev.bind k5 ?_
  refine evp rfl ?_
  refine evp rfl ?_
  refine evp rfl ?_
  refine evp rfl ?_
  refine evp rfl ?_
  refine evp g1.1 ?_
  refine evp g3 ?_
  refine evp g2.2 ?_
  refine evp rfl ?_
  exact Ev.bind awake06b (Ev.now _)
end Go.Proofs.Ytjnpfbdmkakebaa.Pure
