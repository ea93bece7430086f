/- Go functions of this seat as plain Lean functions, each with a proof that its call comes to just what that function says, wherever that function says anything: written by a program of this session. -/
import Derived.Test.YtnmmhfpekeeedaaPCx0
namespace Go.Proofs.Ytnmmhfpekeeedaa.PC
open Go.RowKit Go.Proofs.YtnmmhfpekeeedaaW.PrintWords Go.Proofs.YtnmmhfpekeeedaaW.PrintLast Go.Proofs.YtnmmhfpekeeedaaW.PrintMore
attribute [local go_sem] max2_int min2_int max_two min_two max_three min_three max_four min_four   -- for this text's walks alone
set_option linter.unusedVariables false
set_option linter.unusedSimpArgs false

attribute [local go_sem] isSome_setCell
theorem isi140_87 : (Try.prog.info? 87).isSome = true := by kernel_rfl
theorem csz140_87 : Try.prog.cellsOf 87 = 1 := by kernel_rfl
theorem eqA140 (d : Nat) (w : World) (x0 y0 : Int) (x1 y1 : Int) :
    (Op.equalIn (d + 2) 140 (.agg #[.int .u64 x0, .int .u64 x1]) (.agg #[.int .u64 y0, .int .u64 y1])).run Try.prog w = .ok (x0 == y0 && (x1 == y1)) w := by
  obtain ⟨i, hi⟩ := Option.isSome_iff_exists.1 isi140_87
  rw [Go.run_equalIn_array w (d + 1) _ _ Try.underlying140 hi, csz140_87]
  show (Op.eqItems (d + 1) 87 1 _ _ [0, 1]).run _ _ = _
  refine eqi_cons (by go_simp <;> rfl) (by go_simp <;> rfl) (by go_simp) ?_
  exact eqi_last (by go_simp <;> rfl) (by go_simp <;> rfl) (by go_simp)
end Go.Proofs.Ytnmmhfpekeeedaa.PC
