/- Any text's tokens, or the first fault, and where it is: for all texts. -/
import Derived.Test.YtnmmhfpekeeedaaPSx0
import Derived.Test.YtnmmhfpekeeedaaPSx6
import Derived.Test.YtnmmhfpekeeedaaPSx10
import Derived.Test.YtnmmhfpekeeedaaPSx11
import Derived.Test.YtnmmhfpekeeedaaSScanRef
namespace Go.Proofs.Ytnmmhfpekeeedaa.Pure
set_option linter.unusedVariables false
open Go.RowKit Go.Proofs.Ytnmmhfpekeeedaa.PS Go.Proofs.Ytnmmhfpekeeedaa.Num Go.Proofs.YtnmmhfpekeeedaaW.PrintWords Go.Proofs.YtnmmhfpekeeedaaW.PrintLast Go.Proofs.YtnmmhfpekeeedaaW.PrintMore

theorem awake12 : Ev (fun k => regimenlaw12_awake.f k) true := Ev.of (fun k => regimenlaw12_awake.mono k) (k := 200) (by decide +kernel)

theorem ScanTokens : regimenlaw12_ScanTokens.Pure := by
  intro s hs
  refine Ev.rounds (r := true) ?_
  unfold regimenlaw12_ScanTokens.f
  have yes : Ev (fun k => regimenlaw12_ScanTokens.j0 k s true) true := by
    refine Ev.step (fun k => by rw [regimenlaw12_ScanTokens.j0]) ?_
    refine evp rfl ?_
    exact Ev.bind awake12 (Ev.now _)
  have no : Ev (fun k => regimenlaw12_ScanTokens.j0 k s false) true := by
    have key : ∀ Z : List S34 × Int × Int × Int, Z.1.length < 1000000 → Ev (fun k => scan_Tokens.f k s) Z → Ev (fun k => regimenref12_Tokens.f k s) Z → Ev (fun k => regimenlaw12_ScanTokens.j0 k s false) true := by
      intro Z hZ h1 h2
      refine Ev.step (fun k => by rw [regimenlaw12_ScanTokens.j0]) ?_
      refine evn (by simp) ?_
      refine Ev.bind h1 ?_
      refine Ev.bind h2 ?_
      refine Ev.bind (same12_ok Z.1 hZ) ?_
      refine evp rfl ?_
      refine evp (by simp) ?_
      refine evp rfl ?_
      exact Ev.bind awake12 (Ev.now _)
    by_cases c : (s.size : Int) > 65536
    · refine key ([], 1, 1, 6) (by decide) ?_ ?_
      · unfold scan_Tokens.f
        exact evp c (Ev.now _)
      · unfold regimenref12_Tokens.f
        exact evp c (Ev.now _)
    · obtain ⟨g, hg⟩ := GapR.ex _ (numsOf s) (Nat.le_refl _)
      obtain ⟨Z, hZ⟩ := TokR.ex (numsOf s) (numsOf s).length g [] (by omega)
      have := hZ.le (by simp)
      exact key Z (by omega) (scan_tokens_ok s (by omega) hg hZ) (ref_tokens_ok s (by omega) hg hZ)
  by_cases c1 : (s.size : Int) > 1000
  · refine evp c1 ?_
    by_cases c2 : (s.size : Int) ≤ 65536
    · exact evp c2 yes
    · refine evn c2 ?_
      by_cases c3 : (s.size : Int) > 70000
      · rw [decide_eq_true c3]
        exact yes
      · rw [decide_eq_false c3]
        exact no
  · refine evn c1 ?_
    rw [decide_eq_false (by omega)]
    exact no
end Go.Proofs.Ytnmmhfpekeeedaa.Pure
