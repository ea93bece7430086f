/- Which part any one of some is: the first one none, the last one all; a later one is not less: for every place and count. -/
import Derived.Test.YtjnpfbdmkakebaaPAx4
import Derived.Test.YtjnpfbdmkakebaaPAx11
import Derived.Test.YtjnpfbdmkakebaaLerp
namespace Go.Proofs.Ytjnpfbdmkakebaa.Pure
set_option linter.unusedVariables false
open Go.RowKit Go.Proofs.Ytjnpfbdmkakebaa.PA Go.Proofs.Ytjnpfbdmkakebaa.Num Go.Proofs.YtjnpfbdmkakebaaW.PrintWords Go.Proofs.YtjnpfbdmkakebaaW.PrintLast

theorem awake07b : Ev (fun k => regimenlaw07_awake.f k) true := Ev.of (fun k => regimenlaw07_awake.mono k) (k := 80) (by decide +kernel)

theorem LerpShares : regimenlaw07_LerpShares.Pure := by
  intro i n hi hn
  have hi := i64_wf hi
  have hn := i64_wf hn
  refine Ev.rounds (r := true) ?_
  unfold regimenlaw07_LerpShares.f
  by_cases c : n < 1 ∨ n > 1099511627776 ∨ i < 0 ∨ i ≥ n
  · refine Ev.bind (lerp_share_no c) ?_
    have fin : Ev (fun k => regimenlaw07_LerpShares.j0 k i n 0 1 true) true := by
      refine Ev.step (fun k => by rw [regimenlaw07_LerpShares.j0]) ?_
      refine evp rfl ?_
      refine evp rfl ?_
      refine evp rfl ?_
      exact Ev.bind awake07b (Ev.now _)
    by_cases c1 : n < 1
    · exact evp c1 fin
    · refine evn c1 ?_
      by_cases c2 : n > 1099511627776
      · exact evp c2 fin
      · refine evn c2 ?_
        by_cases c3 : i < 0
        · exact evp c3 fin
        · refine evn c3 ?_
          rw [decide_eq_true (by omega)]
          exact fin
  · have hr := share_range (i := i) (n := n) (by omega) (by omega)
    refine Ev.bind (lerp_share_ok (by omega) (by omega) (by omega)) ?_
    refine evn (by omega) ?_
    refine evn (by omega) ?_
    refine evn (by omega) ?_
    rw [decide_eq_false (by omega)]
    refine Ev.step (fun k => by rw [regimenlaw07_LerpShares.j0]) ?_
    refine evn (by simp) ?_
    refine evp rfl ?_
    refine Ev.bind (ref_share_ok (by omega) (by omega) (by omega)) ?_
    refine evp rfl ?_
    refine evn (by omega) ?_
    refine evn (by omega) ?_
    have h1 : Ev (fun k => regimenlaw07_LerpShares.j1 k i n (share i n) false) true := by
      refine Ev.step (fun k => by rw [regimenlaw07_LerpShares.j1]) ?_
      refine evn (by simp) ?_
      rw [w64_id (x := i + 1) (by omega) (by omega)]
      by_cases d : i + 1 = n
      · refine evp d ?_
        exact Ev.bind awake07b (Ev.now _)
      · refine evn d ?_
        refine Ev.bind (lerp_share_ok (i := i + 1) (n := n) (by omega) (by omega) (by omega)) ?_
        refine evp rfl ?_
        refine evp ?_ (Ev.bind awake07b (Ev.now _))
        show share (i + 1) n ≥ share i n
        unfold share
        rw [if_neg (by omega), if_neg (by omega)]
        exact rnd_mono (by omega) (by omega)
    have hlast : i = n - 1 → n > 1 → share i n = 4294967296 := by
      intro e h
      unfold share
      rw [if_neg (by omega), e, Int.mul_comm]
      exact rnd_exact _ (by omega)
    have htail : Ev (fun k => if n > 1 then (if i = (wrap64 (n - 1)) then (regimenlaw07_LerpShares.j1 k i n (share i n) ((share i n) != 4294967296)) else (regimenlaw07_LerpShares.j1 k i n (share i n) false)) else (regimenlaw07_LerpShares.j1 k i n (share i n) false)) true := by
      by_cases d : n > 1
      · refine evp d ?_
        rw [w64_id (x := n - 1) (by omega) (by omega)]
        by_cases e : i = n - 1
        · refine evp e ?_
          rw [show ((share i n) != 4294967296) = false by rw [hlast e d]; rfl]
          exact h1
        · exact evn e h1
      · exact evn d h1
    by_cases d : i = 0
    · refine evp d ?_
      refine evp ?_ htail
      show share i n = 0
      unfold share
      split
      · rfl
      · rw [d, Int.zero_mul]
        have := rnd_exact 0 (d := n - 1) (by omega)
        rwa [Int.zero_mul] at this
    · exact evn d htail
end Go.Proofs.Ytjnpfbdmkakebaa.Pure
