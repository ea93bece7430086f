/- Lengths (layer 14): which there may be, and how many steps one is. -/
import Derived.Test.YtnmmhfpekeeedaaPLx8
import Derived.Test.YtnmmhfpekeeedaaPLx9
import Derived.Test.YtnmmhfpekeeedaaPLx11
import Derived.Test.YtnmmhfpekeeedaaPLx15
import Derived.Test.YtnmmhfpekeeedaaLCut
namespace Go.Proofs.Ytnmmhfpekeeedaa.Num
set_option linter.unusedVariables false
set_option linter.unusedSimpArgs false
open Go.RowKit Go.Proofs.Ytnmmhfpekeeedaa.PL Go.Proofs.YtnmmhfpekeeedaaW.PrintWords Go.Proofs.YtnmmhfpekeeedaaW.PrintMore

/-- May a length be? -/
def mayL (u n : Int) : Prop := 0 ≤ n ∧ n ≤ 1099511627776 ∧ 0 ≤ u ∧ u ≤ 3 ∧ (u = 2 → n ≤ 100) ∧ (u = 3 → n = 0)
instance (u n : Int) : Decidable (mayL u n) := by unfold mayL; infer_instance
theorem within_ok14 (n a b : Int) : length_within.f n a b = some (decide (a ≤ n ∧ n ≤ b)) := by
  unfold length_within.f
  by_cases c : n ≥ a
  · rw [if_pos c]
    congr 1
    rw [decide_eq_decide]
    omega
  · rw [if_neg c]
    congr 1
    symm
    rw [decide_eq_false_iff_not]
    omega
theorem within_end (p : Prop) [Decidable p] {g : Nat → Option Int} (q : Bool) (hq : q = true ↔ p) (hg : g = fun k => if q = true then some 0 else some 1) : Ev g (if p then 0 else 1) := by
  subst hg
  by_cases c : p
  · rw [if_pos c]
    exact evp (hq.2 c) (Ev.now _)
  · rw [if_neg c]
    exact evn (fun z => c (hq.1 z)) (Ev.now _)
theorem check_ok14 (u n : Int) : Ev (fun k => length_Check.f k u n) (if mayL u n then 0 else 1) := by
  have j0 : ∀ d : Bool, (d = true ↔ (u = 0 ∨ u = 1)) → Ev (fun k => length_Check.j0 k (-1) u d u n) (if mayL u n then 0 else 1) := by
    intro d hd
    refine Ev.step (fun k => by rw [length_Check.j0]) ?_
    by_cases c : d = true
    · have := hd.1 c
      refine evp c ?_
      refine evs (within_ok14 _ _ _) ?_
      exact within_end _ _ (by rw [decide_eq_true_iff]; unfold mayL; omega) rfl
    · have nu : ¬ (u = 0 ∨ u = 1) := fun z => c (hd.2 z)
      refine evn c ?_
      by_cases c2 : u = 2
      · refine evp c2 ?_
        refine evs (within_ok14 _ _ _) ?_
        exact within_end _ _ (by rw [decide_eq_true_iff]; unfold mayL; omega) rfl
      · refine evn c2 ?_
        by_cases c3 : u = 3
        · refine evp c3 ?_
          refine evs (within_ok14 _ _ _) ?_
          exact within_end _ _ (by rw [decide_eq_true_iff]; unfold mayL; omega) rfl
        · refine evn c3 ?_
          refine evs (within_ok14 _ _ _) ?_
          exact within_end _ _ (by rw [decide_eq_true_iff]; unfold mayL; omega) rfl
  unfold length_Check.f
  by_cases c : u = 0
  · refine evp c (j0 _ ?_)
    rw [beq_iff_eq]
    omega
  · refine evn c (j0 _ ?_)
    rw [beq_iff_eq]
    omega
theorem may_ok14 (u n : Int) : regimenref14_May.f u n = some (decide (mayL u n)) := by
  have key : ∀ b : Bool, (b = true ↔ mayL u n) → some b = some (decide (mayL u n)) := by
    intro b hb
    congr 1
    rw [Bool.eq_iff_iff, hb, decide_eq_true_iff]
  unfold regimenref14_May.f
  have h : mayL u n ↔ (0 ≤ n ∧ n ≤ 1099511627776 ∧ 0 ≤ u ∧ u ≤ 3 ∧ (u = 2 → n ≤ 100) ∧ (u = 3 → n = 0)) := Iff.rfl
  repeat' split
  all_goals (refine key _ ?_; rw [h]; first | (rw [beq_iff_eq]; omega) | (simp only [Bool.false_eq_true, false_iff]; omega) | (simp only [true_iff]; omega))
/-- How many steps a length is that may be. -/
def stepsV (u n s ep : Int) : Int × Int :=
  if u = 0 then (n, 0) else if u = 1 then (if n * ep > 1099511627776 then (0, 4) else (n * ep, 0)) else if u = 2 then (s * n / 100, 0) else (s, 0)
def goodL (u n s ep : Int) : Prop := mayL u n ∧ (0 ≤ s ∧ s ≤ 1048576) ∧ (0 ≤ ep ∧ ep ≤ 1048576)
instance (u n s ep : Int) : Decidable (goodL u n s ep) := by unfold goodL; infer_instance
theorem mul_ep {n ep : Int} (h0 : 0 ≤ n) (h1 : n ≤ 1099511627776) (h2 : 0 ≤ ep) (h3 : ep ≤ 1048576) : 0 ≤ n * ep ∧ n * ep ≤ 1152921504606846976 ∧ wrap64 (n * ep) = n * ep := by
  have a := Int.mul_nonneg h0 h2
  have b : n * ep ≤ 1099511627776 * 1048576 := Int.mul_le_mul h1 h3 h2 (by decide)
  refine ⟨a, by omega, w64_id (by omega) (by omega)⟩
theorem mul_pc {n s : Int} (h0 : 0 ≤ n) (h1 : n ≤ 100) (h2 : 0 ≤ s) (h3 : s ≤ 1048576) : 0 ≤ s * n / 100 ∧ s * n / 100 ≤ s ∧ wrap64 (Int.tdiv (wrap64 (s * n)) 100) = s * n / 100 := by
  have a := Int.mul_nonneg h2 h0
  have b : s * n ≤ s * 100 := Int.mul_le_mul_of_nonneg_left h1 h2
  have w : wrap64 (s * n) = s * n := w64_id (by omega) (by omega)
  refine ⟨by omega, by omega, ?_⟩
  rw [w, Int.tdiv_eq_ediv_of_nonneg a]
  exact w64_id (by omega) (by omega)
theorem stepsV_bd {u n s ep : Int} (h : goodL u n s ep) : (stepsV u n s ep).2 = 0 ∨ (stepsV u n s ep = (0, 4)) := by
  unfold stepsV
  repeat' split
  all_goals first | exact .inl rfl | exact .inr rfl
theorem steps_ok14 (u n s ep : Int) : Ev (fun k => length_Steps.f k u n s ep) (if goodL u n s ep then stepsV u n s ep else (0, 1)) := by
  have j0 : ∀ d : Bool, (d = true ↔ ¬ goodL u n s ep) → Ev (fun k => length_Steps.j0 k s ep d u n) (if goodL u n s ep then stepsV u n s ep else (0, 1)) := by
    intro d hd
    refine Ev.step (fun k => by rw [length_Steps.j0]) ?_
    by_cases c : d = true
    · rw [if_neg (hd.1 c)]
      exact evp c (Ev.now _)
    · have g : goodL u n s ep := Classical.not_not.1 (fun z => c (hd.2 z))
      have g' : (0 ≤ n ∧ n ≤ 1099511627776 ∧ 0 ≤ u ∧ u ≤ 3 ∧ (u = 2 → n ≤ 100) ∧ (u = 3 → n = 0)) ∧ (0 ≤ s ∧ s ≤ 1048576) ∧ (0 ≤ ep ∧ ep ≤ 1048576) := g
      rw [if_pos g]
      refine evn c ?_
      by_cases c0 : u = 0
      · have E : stepsV u n s ep = (n, 0) := if_pos c0
        rw [E]
        refine evp c0 ?_
        exact evn (by omega) (Ev.now _)
      · refine evn c0 ?_
        by_cases c1 : u = 1
        · obtain ⟨m0, m1, m2⟩ := mul_ep g'.1.1 g'.1.2.1 g'.2.2.1 g'.2.2.2
          rw [m2]
          refine evp c1 ?_
          by_cases o : n * ep > 1099511627776
          · have E : stepsV u n s ep = (0, 4) := (if_neg c0).trans ((if_pos c1).trans (if_pos o))
            rw [E]
            exact evp o (Ev.now _)
          · have E : stepsV u n s ep = (n * ep, 0) := (if_neg c0).trans ((if_pos c1).trans (if_neg o))
            rw [E]
            exact evn o (Ev.now _)
        · refine evn c1 ?_
          by_cases c2 : u = 2
          · obtain ⟨m0, m1, m2⟩ := mul_pc g'.1.1 (g'.1.2.2.2.2.1 c2) g'.2.1.1 g'.2.1.2
            have E : stepsV u n s ep = (s * n / 100, 0) := (if_neg c0).trans ((if_neg c1).trans (if_pos c2))
            rw [E, m2]
            refine evp c2 ?_
            exact evn (by omega) (Ev.now _)
          · have E : stepsV u n s ep = (s, 0) := (if_neg c0).trans ((if_neg c1).trans (if_neg c2))
            rw [E]
            refine evn c2 ?_
            exact evn (by omega) (Ev.now _)
  have hG : goodL u n s ep ↔ mayL u n ∧ (0 ≤ s ∧ s ≤ 1048576) ∧ (0 ≤ ep ∧ ep ≤ 1048576) := Iff.rfl
  unfold length_Steps.f
  refine Ev.bind (check_ok14 u n) ?_
  by_cases m : mayL u n
  · refine evp (if_pos m) ?_
    refine evs (within_ok14 _ _ _) ?_
    by_cases a : 0 ≤ s ∧ s ≤ 1048576
    · refine evp (decide_eq_true a) ?_
      refine evs (within_ok14 _ _ _) (j0 _ ?_)
      rw [hG]
      by_cases b : 0 ≤ ep ∧ ep ≤ 1048576
      · rw [decide_eq_true b]
        exact ⟨fun z => absurd z (by decide), fun z => absurd ⟨m, a, b⟩ z⟩
      · rw [decide_eq_false b]
        exact ⟨fun _ z => b z.2.2, fun _ => rfl⟩
    · refine evn (by simpa using a) (j0 _ ?_)
      rw [hG]
      exact ⟨fun _ z => a z.2.1, fun _ => rfl⟩
  · refine evn (by rw [if_neg m]; decide) (j0 _ ?_)
    rw [hG]
    exact ⟨fun _ z => m z.1, fun _ => rfl⟩
theorem within14_ok (u n s ep : Int) : Ev (fun k => length_Within.f k u n s ep) (if goodL u n s ep then (if (stepsV u n s ep).2 = 0 then mn (stepsV u n s ep).1 s else s) else 0) := by
  unfold length_Within.f
  refine Ev.bind (steps_ok14 u n s ep) ?_
  by_cases g : goodL u n s ep
  · have e : (if goodL u n s ep then stepsV u n s ep else (0, 1)) = stepsV u n s ep := if_pos g
    rw [e]
    have e' : (if goodL u n s ep then (if (stepsV u n s ep).2 = 0 then mn (stepsV u n s ep).1 s else s) else 0) = (if (stepsV u n s ep).2 = 0 then mn (stepsV u n s ep).1 s else s) := if_pos g
    rw [e']
    rcases stepsV_bd g with h | h
    · have e2 : (if (stepsV u n s ep).2 = 0 then mn (stepsV u n s ep).1 s else s) = mn (stepsV u n s ep).1 s := if_pos h
      rw [e2]
      refine evn (by rw [h]; decide) ?_
      exact evp h (Ev.now _)
    · rw [h]
      exact evp rfl (Ev.now _)
  · have e : (if goodL u n s ep then stepsV u n s ep else (0, 1)) = (0, 1) := if_neg g
    have e' : (if goodL u n s ep then (if (stepsV u n s ep).2 = 0 then mn (stepsV u n s ep).1 s else s) else 0) = 0 := if_neg g
    rw [e, e']
    refine evn (by decide) ?_
    exact evn (by decide) (Ev.now _)
theorem ref_steps14 (u n s ep : Int) (g : goodL u n s ep) : Ev (fun k => regimenref14_Steps.f k u n s ep) (stepsV u n s ep) := by
  have g' : (0 ≤ n ∧ n ≤ 1099511627776 ∧ 0 ≤ u ∧ u ≤ 3 ∧ (u = 2 → n ≤ 100) ∧ (u = 3 → n = 0)) ∧ (0 ≤ s ∧ s ≤ 1048576) ∧ (0 ≤ ep ∧ ep ≤ 1048576) := g
  obtain ⟨m0, m1, m2⟩ := mul_ep g'.1.1 g'.1.2.1 g'.2.2.1 g'.2.2.2
  have j1 : ∀ d : Bool, u = 1 → (d = true ↔ n * ep > 1099511627776) → Ev (fun k => regimenref14_Steps.j1 k s ep d u n) (stepsV u n s ep) := by
    intro d hu hd
    refine Ev.step (fun k => by rw [regimenref14_Steps.j1]) ?_
    by_cases o : n * ep > 1099511627776
    · have E : stepsV u n s ep = (0, 4) := (if_neg (by omega)).trans ((if_pos hu).trans (if_pos o))
      rw [E]
      exact evp (hd.2 o) (Ev.now _)
    · have E : stepsV u n s ep = (n * ep, 0) := (if_neg (by omega)).trans ((if_pos hu).trans (if_neg o))
      rw [E]
      refine evn (fun z => o (hd.1 z)) ?_
      refine evn (by omega) ?_
      rw [m2]
      exact Ev.now _
  have j0 : ∀ x : Int, (u = 0 → x = n) → (u = 3 → x = s) → Ev (fun k => regimenref14_Steps.j0 k s ep x u n) (stepsV u n s ep) := by
    intro x h0 h3
    refine Ev.step (fun k => by rw [regimenref14_Steps.j0]) ?_
    by_cases c1 : u = 1
    · refine evp c1 ?_
      by_cases p : ep > 0
      · refine evp p ?_
        refine evn (by omega) ?_
        refine j1 _ c1 ?_
        have dv : (1099511627776 : Int) / ep < n ↔ 1099511627776 < n * ep := Int.ediv_lt_iff_lt_mul p
        have d1 : 0 ≤ (1099511627776 : Int) / ep := Int.ediv_nonneg (by decide) (by omega)
        have d2 : (1099511627776 : Int) / ep ≤ 1099511627776 := Int.ediv_le_self _ (by decide)
        rw [decide_eq_true_iff, w64_id (by omega) (by omega)]
        exact dv
      · refine evn p ?_
        refine j1 _ c1 ?_
        have : ep = 0 := by omega
        rw [this]
        simp
    · refine evn c1 ?_
      by_cases c2 : u = 2
      · obtain ⟨q0, q1, q2⟩ := mul_pc g'.1.1 (g'.1.2.2.2.2.1 c2) g'.2.1.1 g'.2.1.2
        have E : stepsV u n s ep = (s * n / 100, 0) := (if_neg (by omega)).trans ((if_neg c1).trans (if_pos c2))
        rw [E, q2]
        exact evp c2 (Ev.now _)
      · refine evn c2 ?_
        by_cases c0 : u = 0
        · have E : stepsV u n s ep = (n, 0) := if_pos c0
          rw [E, h0 c0]
          exact Ev.now _
        · have E : stepsV u n s ep = (s, 0) := (if_neg c0).trans ((if_neg c1).trans (if_neg c2))
          rw [E, h3 (by omega)]
          exact Ev.now _
  unfold regimenref14_Steps.f
  by_cases c : u = 0
  · exact evp c (j0 n (fun _ => rfl) (fun z => by omega))
  · exact evn c (j0 s (fun z => by omega) (fun _ => rfl))
theorem ref_within14 (u n s ep : Int) (g : goodL u n s ep) : Ev (fun k => regimenref14_Within.f k u n s ep) (if (stepsV u n s ep).2 = 0 then mn (stepsV u n s ep).1 s else s) := by
  unfold regimenref14_Within.f
  refine Ev.bind (ref_steps14 u n s ep g) ?_
  rcases stepsV_bd g with h | h
  · have e2 : (if (stepsV u n s ep).2 = 0 then mn (stepsV u n s ep).1 s else s) = mn (stepsV u n s ep).1 s := if_pos h
    rw [e2]
    refine evp h ?_
    by_cases c : (stepsV u n s ep).1 > s
    · have m : mn (stepsV u n s ep).1 s = s := by unfold mn; omega
      rw [m]
      exact evp c (Ev.now _)
    · have m : mn (stepsV u n s ep).1 s = (stepsV u n s ep).1 := by unfold mn; omega
      rw [m]
      exact evn c (Ev.now _)
  · rw [h]
    exact evn (by decide) (Ev.now _)
end Go.Proofs.Ytnmmhfpekeeedaa.Num
