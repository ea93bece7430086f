/- The product of two words of 64 bits, as the program makes it, is the reference's, in either order: for every two words. -/
import Derived.Test.YtbnkjchhbjbbnaaPAx3
import Derived.Test.YtbnkjchhbjbbnaaPAx8
import Derived.Test.YtbnkjchhbjbbnaaPair
namespace Go.Proofs.Ytbnkjchhbjbbnaa.Pure
set_option linter.unusedVariables false
set_option linter.unusedSimpArgs false
open Go.RowKit Go.Proofs.Ytbnkjchhbjbbnaa.PA Go.Proofs.Ytbnkjchhbjbbnaa.Num Go.Proofs.YtbnkjchhbjbbnaaW.PrintWords Go.Proofs.YtbnkjchhbjbbnaaW.PrintLast

theorem awake02 : Ev (fun k => regimenlaw02_awake.f k) true := Ev.of (fun k => regimenlaw02_awake.mono k) (k := 40) (by decide +kernel)

theorem PairMuls : regimenlaw02_PairMuls.Pure := by
  intro x y hx hy
  have hx := u64_wf hx
  have hy := u64_wf hy
  refine Ev.rounds (r := true) ?_
  obtain ⟨a, ha, da, va, la⟩ := word_ok x hx.1 hx.2
  obtain ⟨b, hb, db, vb, lb⟩ := word_ok y hy.1 hy.2
  obtain ⟨c, hc, dc, vc, _⟩ := times_ok a b da db (by omega) (by omega)
  have hm := mod_ok c dc
  have hp := mul_bd hx.1 (Int.le_sub_one_of_lt hx.2) hy.1 (Int.le_sub_one_of_lt hy.2)
  rw [vc, va, vb] at hm
  unfold regimenlaw02_PairMuls.f
  refine evs (pair_mul_ok hx.1 hx.2 hy.1 hy.2) ?_
  refine evs ha ?_
  refine evs hb ?_
  refine Ev.bind hc ?_
  refine Ev.bind hm ?_
  refine evp ?_ ?_
  · have e1 : x * y / 18446744073709551616 % 18446744073709551616 = x * y / 18446744073709551616 := by omega
    simp only [e1, BEq.rfl, Bool.and_self]
  refine evs (pair_mul_ok hy.1 hy.2 hx.1 hx.2) ?_
  refine evp ?_ ?_
  · simp only [Int.mul_comm y x, BEq.rfl, Bool.and_self]
  exact Ev.bind awake02 (Ev.now _)
end Go.Proofs.Ytbnkjchhbjbbnaa.Pure
