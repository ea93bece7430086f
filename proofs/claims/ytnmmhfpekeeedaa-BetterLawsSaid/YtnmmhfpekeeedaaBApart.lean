/- How far two numbers are apart (layer 7's reference), by value. -/
import Derived.Test.YtnmmhfpekeeedaaPBx7
import Derived.Test.YtnmmhfpekeeedaaBRndMath
namespace Go.Proofs.Ytnmmhfpekeeedaa.Num
set_option linter.unusedVariables false
set_option linter.unusedSimpArgs false
open Go.RowKit Go.Proofs.Ytnmmhfpekeeedaa.PB Go.Proofs.YtnmmhfpekeeedaaW.PrintWords Go.Proofs.YtnmmhfpekeeedaaW.PrintMore

theorem ref_apart_ok {a b : Int} (ha : -9223372036854775808 ≤ a ∧ a < 9223372036854775808) (hb : -9223372036854775808 ≤ b ∧ b < 9223372036854775808) : ∃ l, Ev (fun k => regimenref07_Apart.f k a b) l ∧ dok l ∧ dv l = iabs (a - b) ∧ l.length ≤ 5 := by
  unfold regimenref07_Apart.f
  by_cases c : (a < 0 ↔ b < 0)
  · have hw : wrap64 (a - b) = a - b := w64_id (by omega) (by omega)
    obtain ⟨l, hl, dl, vl, ll⟩ := ref_size_ok (x := a - b) (by omega)
    refine ⟨l, ?_, dl, vl, by omega⟩
    refine evp (by by_cases h : a < 0 <;> by_cases h2 : b < 0 <;> simp [h, h2] <;> omega) ?_
    rw [hw]
    exact evs hl (Ev.now _)
  · obtain ⟨l, hl, dl, vl, ll⟩ := ref_size_ok ha
    obtain ⟨m, hm, dm, vm, lm⟩ := ref_size_ok hb
    obtain ⟨s, hs, ds, vs, ls⟩ := plus_ok l m dl dm 4 (by omega) (by omega) (by omega)
    refine ⟨s, ?_, ds, ?_, ls⟩
    · refine evn (by by_cases h : a < 0 <;> by_cases h2 : b < 0 <;> simp [h, h2] <;> omega) ?_
      refine evs hl ?_
      refine evs hm ?_
      exact Ev.bind hs (Ev.now _)
    · rw [vs, vl, vm]
      unfold iabs
      by_cases h : a < 0 <;> by_cases h2 : b < 0 <;> simp only [h, h2, if_true, if_false] <;> (first | (exfalso; omega) | (split <;> omega))
end Go.Proofs.Ytnmmhfpekeeedaa.Num
