/- No reading is better than itself, of two not both are better than each other, and by a rule that is no part what is better than a better one is better: for all readings and rules. -/
import Derived.Test.YtnmmhfpekeeedaaPBx4
import Derived.Test.YtnmmhfpekeeedaaPBx9
import Derived.Test.YtnmmhfpekeeedaaBBetter
namespace Go.Proofs.Ytnmmhfpekeeedaa.Pure
set_option linter.unusedVariables false
open Go.RowKit Go.Proofs.Ytnmmhfpekeeedaa.PB Go.Proofs.Ytnmmhfpekeeedaa.Num Go.Proofs.YtnmmhfpekeeedaaW.PrintWords Go.Proofs.YtnmmhfpekeeedaaW.PrintLast Go.Proofs.YtnmmhfpekeeedaaW.PrintMore

theorem awake29 : Ev (fun k => regimenlaw29_awake.f k) true := Ev.of (fun k => regimenlaw29_awake.mono k) (k := 80) (by decide +kernel)
theorem isb_self (x d : Int) (m rel : Bool) : isb x x m d rel = false := by
  unfold isb
  refine decide_eq_false fun h => ?_
  have := h.1
  cases m
  · rw [if_neg (by simp)] at this
    omega
  · rw [if_pos rfl] at this
    omega
theorem isb_sides {x y d : Int} {m rel : Bool} (h : isb x y m d rel = true) : isb y x m d rel = false := by
  unfold isb at h ⊢
  have a := (of_decide_eq_true h).1
  refine decide_eq_false fun g => ?_
  have b := g.1
  cases m
  · rw [if_neg (by simp)] at a b
    omega
  · rw [if_pos rfl] at a b
    omega
theorem isb_on {x y z d : Int} {m : Bool} (h : isb x y m d false = true) (g : isb y z m d false = true) : isb x z m d false = true := by
  unfold isb at h g ⊢
  obtain ⟨a0, _, a1⟩ := of_decide_eq_true h
  obtain ⟨b0, _, b1⟩ := of_decide_eq_true g
  have e : ∀ b, gapv b d false = (mx d 0, true) := fun b => by unfold gapv; rw [if_neg (by simp)]
  rw [e] at a1 b1 ⊢
  dsimp only at a1 b1 ⊢
  refine decide_eq_true ⟨?_, rfl, ?_⟩
  · cases m
    · rw [if_neg (by simp)] at a0 b0 ⊢
      omega
    · rw [if_pos rfl] at a0 b0 ⊢
      omega
  · unfold iabs at a1 b1 ⊢
    cases m
    · rw [if_neg (by simp)] at a0 b0
      rw [if_pos (by omega)] at a1 b1 ⊢
      have m0 : 0 ≤ mx d 0 := by unfold mx; split <;> omega
      omega
    · rw [if_pos rfl] at a0 b0
      rw [if_neg (by omega)] at a1 b1 ⊢
      have m0 : 0 ≤ mx d 0 := by unfold mx; split <;> omega
      omega
theorem BetterLaws : regimenlaw29_BetterLaws.Pure := by
  intro x y z m d rel hx hy hz hd
  have hx : word x := i64_wf hx
  have hy : word y := i64_wf hy
  have hz : word z := i64_wf hz
  have hd : word d := i64_wf hd
  refine Ev.rounds (r := true) ?_
  unfold regimenlaw29_BetterLaws.f
  have j : Ev (fun k => regimenlaw29_BetterLaws.j0 k x y z false m d rel) true := by
    refine Ev.step (fun k => by rw [regimenlaw29_BetterLaws.j0]) ?_
    refine evn (by simp) ?_
    have aw : Ev (fun k => (regimenlaw29_awake.f k).bind fun t => some t) true := Ev.bind awake29 (Ev.now _)
    cases rel
    · refine evn (by simp) ?_
      refine Ev.bind (is_ok m false hx hy hd) ?_
      by_cases c : isb x y m d false = true
      · refine evp c ?_
        refine Ev.bind (is_ok m false hy hz hd) ?_
        by_cases e : isb y z m d false = true
        · refine evp e ?_
          refine Ev.bind (is_ok m false hx hz hd) ?_
          exact evp (isb_on c e) aw
        · exact evn e aw
      · exact evn c aw
    · exact evp rfl aw
  refine Ev.bind (is_ok m rel hx hx hd) ?_
  refine evn (by rw [isb_self]; simp) ?_
  refine Ev.bind (is_ok m rel hx hy hd) ?_
  by_cases c : isb x y m d rel = true
  · refine evp c ?_
    refine Ev.bind (is_ok m rel hy hx hd) ?_
    rw [isb_sides c]
    exact j
  · exact evn c j
end Go.Proofs.Ytnmmhfpekeeedaa.Pure
