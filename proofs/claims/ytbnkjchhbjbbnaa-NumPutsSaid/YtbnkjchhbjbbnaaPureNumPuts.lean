/- Any count's digits, that they are got, and any number's: for all numbers. -/
import Derived.Test.YtbnkjchhbjbbnaaPAx1
import Derived.Test.YtbnkjchhbjbbnaaPAx2
import Derived.Test.YtbnkjchhbjbbnaaPAx3
import Derived.Test.YtbnkjchhbjbbnaaANumRef
namespace Go.Proofs.Ytbnkjchhbjbbnaa.Pure
set_option linter.unusedVariables false
open Go.RowKit Go.Proofs.Ytbnkjchhbjbbnaa.PA Go.Proofs.Ytbnkjchhbjbbnaa.Num Go.Proofs.YtbnkjchhbjbbnaaW.PrintWords Go.Proofs.YtbnkjchhbjbbnaaW.PrintLast Go.Proofs.YtbnkjchhbjbbnaaW.PrintMore

theorem awake01 : Ev (fun k => regimenlaw01_awake.f k) true := Ev.of (fun k => regimenlaw01_awake.mono k) (k := 80) (by decide +kernel)

theorem NumPuts : regimenlaw01_NumPuts.Pure := by
  intro n hn
  have hn := i64_wf hn
  refine Ev.rounds (r := true) ?_
  unfold regimenlaw01_NumPuts.f
  have no : Ev (fun k => regimenlaw01_NumPuts.j0 k n (⟨#[]⟩ : ByteArray) 3 true) true := by
    refine Ev.step (fun k => by rw [regimenlaw01_NumPuts.j0]) ?_
    refine evp rfl ?_
    refine evp ((toList_nil _).2 rfl) ?_
    refine evp rfl ?_
    exact Ev.bind awake01 (Ev.now _)
  by_cases c1 : n < 0
  · have p : Ev (fun k => num_Put.f k n) ((⟨#[]⟩ : ByteArray), 3) := by
      unfold num_Put.f
      exact evp c1 (Ev.now _)
    refine Ev.bind p ?_
    refine Ev.bind (tell_ok hn) ?_
    refine Ev.bind (ref_tell_ok hn) ?_
    refine evp rfl ?_
    exact evp c1 no
  · by_cases c2 : n > 1099511627776
    · have p : Ev (fun k => num_Put.f k n) ((⟨#[]⟩ : ByteArray), 3) := by
        unfold num_Put.f
        refine evn c1 ?_
        exact evp c2 (Ev.now _)
      refine Ev.bind p ?_
      refine Ev.bind (tell_ok hn) ?_
      refine Ev.bind (ref_tell_ok hn) ?_
      refine evp rfl ?_
      refine evn c1 ?_
      rw [decide_eq_true c2]
      exact no
    · have p : Ev (fun k => num_Put.f k n) (strOfNums (dig 20 n []), 0) := by
        unfold num_Put.f
        refine evn c1 ?_
        refine evn c2 ?_
        rw [u64_id (x := n) (by omega) (by omega)]
        refine Ev.bind (digits_ok (by omega) (by omega)) ?_
        exact Ev.now _
      obtain ⟨g, gn, gl⟩ := get_of (u := n) (by omega) (by omega)
      have gk := get_ok (strOfNums (dig 20 n [])) (by rw [strOfNums_size]; omega)
      rw [gn, g] at gk
      refine Ev.bind p ?_
      refine Ev.bind (tell_ok hn) ?_
      refine Ev.bind (ref_tell_ok hn) ?_
      refine evp rfl ?_
      refine evn c1 ?_
      rw [decide_eq_false c2]
      refine Ev.step (fun k => by rw [regimenlaw01_NumPuts.j0]) ?_
      refine evn (by simp) ?_
      refine Ev.bind gk ?_
      refine Ev.bind (text_ok (by omega) hn.2) ?_
      refine evp rfl ?_
      refine evp rfl ?_
      refine evp rfl ?_
      refine evp rfl ?_
      exact Ev.bind awake01 (Ev.now _)
end Go.Proofs.Ytbnkjchhbjbbnaa.Pure
