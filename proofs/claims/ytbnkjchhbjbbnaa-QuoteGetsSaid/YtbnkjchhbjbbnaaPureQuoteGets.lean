/- Which text any quoted text has, and how many bytes the one has that any text begins with: for all texts. -/
import Derived.Test.YtbnkjchhbjbbnaaPQx0
import Derived.Test.YtbnkjchhbjbbnaaPQx2
import Derived.Test.YtbnkjchhbjbbnaaPQx6
import Derived.Test.YtbnkjchhbjbbnaaQQuoteR
namespace Go.Proofs.Ytbnkjchhbjbbnaa.Pure
set_option linter.unusedVariables false
open Go.RowKit Go.Proofs.Ytbnkjchhbjbbnaa.PQ Go.Proofs.Ytbnkjchhbjbbnaa.Num Go.Proofs.YtbnkjchhbjbbnaaW.PrintWords Go.Proofs.YtbnkjchhbjbbnaaW.PrintLast Go.Proofs.YtbnkjchhbjbbnaaW.PrintMore

theorem awake11b : Ev (fun k => regimenlaw11_awake.f k) true := Ev.of (fun k => regimenlaw11_awake.mono k) (k := 80) (by decide +kernel)

theorem QuoteGets : regimenlaw11_QuoteGets.Pure := by
  intro s hs
  refine Ev.rounds (r := true) ?_
  unfold regimenlaw11_QuoteGets.f
  by_cases c : (s.size : Int) > 500
  · refine evp c ?_
    exact Ev.bind awake11b (Ev.now _)
  · obtain ⟨R, hR⟩ := ReadV.ex (numsOf s)
    refine evn c ?_
    refine Ev.bind (getq_ok s (by omega) hR) ?_
    refine Ev.bind (span_ok s (by omega) hR) ?_
    refine Ev.bind (ref_read_ok s (by omega) hR) ?_
    refine evp rfl ?_
    refine Ev.step (fun k => by rw [regimenlaw11_QuoteGets.j0]) ?_
    refine evn (by simp) ?_
    have no : (R.2 = 0 ∨ R.2 < (s.size : Int)) → Ev (fun k => regimenlaw11_QuoteGets.j1 k (getQ R s.size).1 (getQ R s.size).2 R.1 true) true := by
      intro z
      rw [show getQ R s.size = ((⟨#[]⟩ : ByteArray), 2) from if_pos z]
      refine Ev.step (fun k => by rw [regimenlaw11_QuoteGets.j1]) ?_
      refine evp rfl ?_
      refine evp ((toList_nil _).2 rfl) ?_
      refine evp rfl ?_
      exact Ev.bind awake11b (Ev.now _)
    by_cases c1 : R.2 = 0
    · exact evp c1 (no (.inl c1))
    · refine evn c1 ?_
      by_cases c2 : R.2 < (s.size : Int)
      · rw [decide_eq_true c2]
        exact no (.inr c2)
      · rw [decide_eq_false c2, show getQ R s.size = (R.1, 0) from if_neg (fun z => z.elim c1 c2)]
        refine Ev.step (fun k => by rw [regimenlaw11_QuoteGets.j1]) ?_
        refine evn (by simp) ?_
        refine evp rfl ?_
        refine evp rfl ?_
        exact Ev.bind awake11b (Ev.now _)
end Go.Proofs.Ytbnkjchhbjbbnaa.Pure
