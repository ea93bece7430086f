/- Powers of parts: of and squares, as the reference: for all numbers. -/
import Derived.Test.YtjnpfbdmkakebaaPAx9
import Derived.Test.YtjnpfbdmkakebaaPAx10
import Derived.Test.YtjnpfbdmkakebaaPAx17
import Derived.Test.YtjnpfbdmkakebaaPow
namespace Go.Proofs.Ytjnpfbdmkakebaa.Pure
set_option linter.unusedVariables false
open Go.RowKit Go.Proofs.Ytjnpfbdmkakebaa.PA Go.Proofs.Ytjnpfbdmkakebaa.Num Go.Proofs.YtjnpfbdmkakebaaW.PrintWords Go.Proofs.YtjnpfbdmkakebaaW.PrintLast Go.Proofs.YtjnpfbdmkakebaaW.PrintMore

theorem awake06 : Ev (fun k => regimenlaw06_awake.f k) true := Ev.of (fun k => regimenlaw06_awake.mono k) (k := 80) (by decide +kernel)

theorem PowOf : regimenlaw06_PowOf.Pure := by
  intro x n hx hn
  have hx := i64_wf hx
  have hn := i64_wf hn
  refine Ev.rounds (r := true) ?_
  unfold regimenlaw06_PowOf.f
  by_cases hp : isPart x
  · obtain ⟨t, ht, htv⟩ : ∃ t : Nat, t ≤ 41 ∧ mn (mx n 0) 41 = (t : Int) := by
      refine ⟨(mn (mx n 0) 41).toNat, ?_, ?_⟩
      · unfold mn mx
        split <;> split <;> omega
      · unfold mn mx
        split <;> split <;> omega
    have hsq := pow_sq_ok t hp htv ht
    have p0 := hp.1
    have p1 := hp.2
    have tail : ∀ (u v : Int), ((n < 0 ∨ n > 1099511627776) → u = 0 ∧ v = 1) → (¬ (n < 0 ∨ n > 1099511627776) → v = 0 ∧ Ev (fun k => regimenref06_Of.f k x n) u) → Ev (fun k => regimenlaw06_PowOf.j0 k x n u v (sqs t x) false) true := by
      intro u v hu hv
      have j3 : ∀ b, (b = true ↔ (n < 0 ∨ n > 1099511627776)) → Ev (fun k => regimenlaw06_PowOf.j3 k x n u v b) true := by
        intro b hb
        refine Ev.step (fun k => by rw [regimenlaw06_PowOf.j3]) ?_
        by_cases c : b = true
        · obtain ⟨e1, e2⟩ := hu (hb.1 c)
          refine evp c ?_
          refine evp e1 ?_
          refine evp e2 ?_
          exact Ev.bind awake06 (Ev.now _)
        · obtain ⟨e1, e2⟩ := hv (fun h => c (hb.2 h))
          refine evn c ?_
          refine Ev.bind e2 ?_
          refine evp rfl ?_
          refine evp e1 ?_
          exact Ev.bind awake06 (Ev.now _)
      have j2 : Ev (fun k => regimenlaw06_PowOf.j2 k x n u v (sqs t x) (t : Int)) true := by
        refine Ev.step (fun k => by rw [regimenlaw06_PowOf.j2]) ?_
        refine Ev.bind (ref_sq_ok t hp (by omega)) ?_
        refine Ev.bind (same_ok (sqs t x) (by rw [sqs_length]; omega)) ?_
        refine evp rfl ?_
        by_cases c : n < 0
        · exact evp c (j3 _ (by simp [c]))
        · refine evn c (j3 _ ?_)
          simp only [decide_eq_true_eq]
          omega
      have tv : (t : Int) = if (if n < 0 then 0 else n) > 41 then 41 else (if n < 0 then 0 else n) := by
        rw [← htv]
        unfold mn mx
        repeat' split
        all_goals omega
      refine Ev.step (fun k => by rw [regimenlaw06_PowOf.j0]) ?_
      refine evn (by simp) ?_
      by_cases c : n < 0
      · rw [if_pos c] at tv
        refine evp c ?_
        refine Ev.step (fun k => by rw [regimenlaw06_PowOf.j1]) ?_
        refine evn (by omega) ?_
        rw [if_neg (by omega)] at tv
        rw [tv] at j2
        exact j2
      · rw [if_neg c] at tv
        refine evn c ?_
        refine Ev.step (fun k => by rw [regimenlaw06_PowOf.j1]) ?_
        by_cases d : n > 41
        · rw [if_pos d] at tv
          refine evp d ?_
          rw [tv] at j2
          exact j2
        · rw [if_neg d] at tv
          refine evn d ?_
          rw [tv] at j2
          exact j2
    by_cases far : n < 0 ∨ n > 1099511627776
    · refine Ev.bind (pow_of_far hp far) ?_
      refine Ev.bind hsq ?_
      refine evn (by omega) ?_
      rw [decide_eq_false (by omega)]
      exact tail 0 1 (fun _ => ⟨rfl, rfl⟩) (fun h => absurd far h)
    · obtain ⟨b, hb, he⟩ := ref_of_l0 64 (x := x) (n := n) (t := n) (c := 0) hp (by omega) (by omega) (by omega) (by omega) (by omega) (by omega) (by omega)
      refine Ev.bind (pow_of_ok b hp (by omega) (by omega) hb) ?_
      refine Ev.bind hsq ?_
      refine evn (by omega) ?_
      rw [decide_eq_false (by omega)]
      exact tail _ 0 (fun h => absurd h far) (fun _ => ⟨rfl, he⟩)
  · refine Ev.bind (pow_of_no hp) ?_
    refine Ev.bind (pow_sq_no hp) ?_
    have fin : Ev (fun k => regimenlaw06_PowOf.j0 k x n 0 1 [] true) true := by
      refine Ev.step (fun k => by rw [regimenlaw06_PowOf.j0]) ?_
      refine evp rfl ?_
      refine evp rfl ?_
      refine evp rfl ?_
      refine evp rfl ?_
      exact Ev.bind awake06 (Ev.now _)
    by_cases c : x < 0
    · exact evp c fin
    · refine evn c ?_
      rw [decide_eq_true (by unfold isPart at hp; omega)]
      exact fin
end Go.Proofs.Ytjnpfbdmkakebaa.Pure
