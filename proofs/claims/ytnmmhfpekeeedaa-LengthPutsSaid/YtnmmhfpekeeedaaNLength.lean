/- Lengths (layer 14): which there may be, and how many steps one is. -/
import Derived.Test.YtnmmhfpekeeedaaPNx6
import Derived.Test.YtnmmhfpekeeedaaPNx7
import Derived.Test.YtnmmhfpekeeedaaNCut
namespace Go.Proofs.Ytnmmhfpekeeedaa.Num
set_option linter.unusedVariables false
set_option linter.unusedSimpArgs false
open Go.RowKit Go.Proofs.Ytnmmhfpekeeedaa.PN Go.Proofs.YtnmmhfpekeeedaaW.PrintWords Go.Proofs.YtnmmhfpekeeedaaW.PrintMore

/-- May a length be? -/
def mayL (u n : Int) : Prop := 0 ≤ n ∧ n ≤ 1099511627776 ∧ 0 ≤ u ∧ u ≤ 3 ∧ (u = 2 → n ≤ 100) ∧ (u = 3 → n = 0)
instance (u n : Int) : Decidable (mayL u n) := by unfold mayL; infer_instance
theorem within_ok14 (n a b : Int) : length_within.f n a b = some (decide (a ≤ n ∧ n ≤ b)) := by
  unfold length_within.f
  by_cases c : n ≥ a
  · rw [if_pos c]
    congr 1
    rw [decide_eq_decide]
    omega
  · rw [if_neg c]
    congr 1
    symm
    rw [decide_eq_false_iff_not]
    omega
theorem within_end (p : Prop) [Decidable p] {g : Nat → Option Int} (q : Bool) (hq : q = true ↔ p) (hg : g = fun k => if q = true then some 0 else some 1) : Ev g (if p then 0 else 1) := by
  subst hg
  by_cases c : p
  · rw [if_pos c]
    exact evp (hq.2 c) (Ev.now _)
  · rw [if_neg c]
    exact evn (fun z => c (hq.1 z)) (Ev.now _)
theorem check_ok14 (u n : Int) : Ev (fun k => length_Check.f k u n) (if mayL u n then 0 else 1) := by
  have j0 : ∀ d : Bool, (d = true ↔ (u = 0 ∨ u = 1)) → Ev (fun k => length_Check.j0 k (-1) u d u n) (if mayL u n then 0 else 1) := by
    intro d hd
    refine Ev.step (fun k => by rw [length_Check.j0]) ?_
    by_cases c : d = true
    · have := hd.1 c
      refine evp c ?_
      refine evs (within_ok14 _ _ _) ?_
      exact within_end _ _ (by rw [decide_eq_true_iff]; unfold mayL; omega) rfl
    · have nu : ¬ (u = 0 ∨ u = 1) := fun z => c (hd.2 z)
      refine evn c ?_
      by_cases c2 : u = 2
      · refine evp c2 ?_
        refine evs (within_ok14 _ _ _) ?_
        exact within_end _ _ (by rw [decide_eq_true_iff]; unfold mayL; omega) rfl
      · refine evn c2 ?_
        by_cases c3 : u = 3
        · refine evp c3 ?_
          refine evs (within_ok14 _ _ _) ?_
          exact within_end _ _ (by rw [decide_eq_true_iff]; unfold mayL; omega) rfl
        · refine evn c3 ?_
          refine evs (within_ok14 _ _ _) ?_
          exact within_end _ _ (by rw [decide_eq_true_iff]; unfold mayL; omega) rfl
  unfold length_Check.f
  by_cases c : u = 0
  · refine evp c (j0 _ ?_)
    rw [beq_iff_eq]
    omega
  · refine evn c (j0 _ ?_)
    rw [beq_iff_eq]
    omega
theorem may_ok14 (u n : Int) : regimenref14_May.f u n = some (decide (mayL u n)) := by
  have key : ∀ b : Bool, (b = true ↔ mayL u n) → some b = some (decide (mayL u n)) := by
    intro b hb
    congr 1
    rw [Bool.eq_iff_iff, hb, decide_eq_true_iff]
  unfold regimenref14_May.f
  have h : mayL u n ↔ (0 ≤ n ∧ n ≤ 1099511627776 ∧ 0 ≤ u ∧ u ≤ 3 ∧ (u = 2 → n ≤ 100) ∧ (u = 3 → n = 0)) := Iff.rfl
  repeat' split
  all_goals (refine key _ ?_; rw [h]; first | (rw [beq_iff_eq]; omega) | (simp only [Bool.false_eq_true, false_iff]; omega) | (simp only [true_iff]; omega))
end Go.Proofs.Ytnmmhfpekeeedaa.Num
