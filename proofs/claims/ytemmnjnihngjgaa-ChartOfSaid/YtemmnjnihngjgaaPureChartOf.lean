/- The chart of any numbers is what the document says: each one's bar between the least and the greatest of them; of one number alone, or the same ones, an empty bar. -/
import Derived.Test.YtemmnjnihngjgaaPCx4
import Derived.Test.YtemmnjnihngjgaaPCx9
import Derived.Test.YtemmnjnihngjgaaCChartL
namespace Go.Proofs.Ytemmnjnihngjgaa.Pure
set_option linter.unusedVariables false
open Go.RowKit Go.Proofs.Ytemmnjnihngjgaa.PC Go.Proofs.Ytemmnjnihngjgaa.Num Go.Proofs.YtemmnjnihngjgaaW.PrintWords Go.Proofs.YtemmnjnihngjgaaW.PrintLast Go.Proofs.YtemmnjnihngjgaaW.PrintMore

theorem awake50b : Ev (fun k => regimenlaw50_awake.f k) true := Ev.of (fun k => regimenlaw50_awake.mono k) (k := 80) (by decide +kernel)
theorem chart_l1 {l : List Int} {w : Int} (hl : l.length ≤ 60) (hx : ∀ x, x ∈ l → word' x) (hw : may w) {C : List ByteArray} {r : Bool} {i : Nat} (hi : i < l.length)
    (next : Ev (fun k => regimenlaw50_ChartOf.l0 k l w C 0 (cbars l w (i + 1)) ((i + 1 : Nat) : Int)) r) (m : Nat) : ∀ {j : Nat}, j + m = l.length →
    Ev (fun k => regimenlaw50_ChartOf.l1 k l w C 0 (cbars l w i) (i : Int) (mnu l j) (mxu l j) (j : Int)) r := by
  have hw1 := hw.1
  have hw2 := hw.2
  induction m with
  | zero =>
    intro j h
    have e : j = l.length := by omega
    subst e
    have hs := cbars_succ l w i
    have hn := cbars_len l w i
    rw [hs] at next
    refine Ev.step (fun k => by rw [regimenlaw50_ChartOf.l1]) ?_
    refine evn (by omega) ?_
    rw [rd_nat, w64_succ (by omega)]
    by_cases c : mnu l l.length < mxu l l.length
    · have hf := fillv_in (x := l.getD i 0) c (w := w) (by omega)
      have hb : cbar l w i = barv (fillv (l.getD i 0) (mnu l l.length) (mxu l l.length) w) w := by
        unfold cbar
        rw [if_pos c]
      rw [hb] at next
      refine evp c ?_
      refine evp (by omega) ?_
      refine evp (by omega) ?_
      refine Ev.bind (ref_fill_ok (getD_word' hx i) (mnu_word hx _) (mxu_word hx _) hw c) ?_
      refine Ev.bind (ref_bar_ok hf.1 hf.2 (by omega)) ?_
      refine evp (by omega) ?_
      exact next
    · have hb : cbar l w i = barv 0 w := by
        unfold cbar
        rw [if_neg c]
      rw [hb] at next
      refine evn c ?_
      refine Ev.bind (ref_bar_ok (by omega) (by omega) (by omega)) ?_
      refine evp (by omega) ?_
      exact next
  | succ m ih =>
    intro j h
    have hr := ih (j := j + 1) (by omega)
    refine Ev.step (fun k => by rw [regimenlaw50_ChartOf.l1]) ?_
    refine evp (by omega) ?_
    refine evp (by omega) ?_
    rw [rd_nat, w64_succ (by omega)]
    simp only [mnu, mxu] at hr
    by_cases c : l.getD j 0 < mnu l j
    · refine evp c ?_
      rw [if_pos c] at hr
      by_cases d : l.getD j 0 > mxu l j
      · refine evp d ?_
        rw [if_pos d] at hr
        exact hr
      · refine evn d ?_
        rw [if_neg d] at hr
        exact hr
    · refine evn c ?_
      rw [if_neg c] at hr
      by_cases d : l.getD j 0 > mxu l j
      · refine evp d ?_
        rw [if_pos d] at hr
        exact hr
      · refine evn d ?_
        rw [if_neg d] at hr
        exact hr
theorem chart_l0 {l : List Int} {w : Int} (hl : l.length ≤ 60) (hx : ∀ x, x ∈ l → word' x) (hw : may w) (m : Nat) : ∀ {i : Nat}, i + m = l.length →
    Ev (fun k => regimenlaw50_ChartOf.l0 k l w (cbars l w l.length) 0 (cbars l w i) (i : Int)) true := by
  induction m with
  | zero =>
    intro i h
    have e : i = l.length := by omega
    subst e
    refine Ev.step (fun k => by rw [regimenlaw50_ChartOf.l0]) ?_
    refine evn (by omega) ?_
    refine Ev.bind (texts_ok _ (by rw [cbars_len]; omega)) ?_
    refine evp rfl ?_
    refine evp rfl ?_
    exact Ev.bind awake50b (Ev.now _)
  | succ m ih =>
    intro i h
    refine Ev.step (fun k => by rw [regimenlaw50_ChartOf.l0]) ?_
    refine evp (by omega) ?_
    refine evp (by omega) ?_
    rw [rd_zero]
    exact chart_l1 hl hx hw (by omega) (ih (i := i + 1) (by omega)) l.length (j := 0) (by omega)
theorem ChartOf : regimenlaw50_ChartOf.Pure := by
  intro l w hl hw
  have hw := i64_wf hw
  have hx : ∀ x, x ∈ l → word' x := fun x h => i64_wf (hl.2.2 x h)
  refine Ev.rounds (r := true) ?_
  unfold regimenlaw50_ChartOf.f
  by_cases c : (l.length : Int) > 60
  · exact evp c (Ev.bind awake50b (Ev.now _))
  · refine evn c ?_
    by_cases hm : may w
    · have hm1 := hm.1
      have hm2 := hm.2
      refine Ev.bind (of_ok (by omega) hx hm) ?_
      refine evn (by omega) ?_
      rw [decide_eq_false (by omega)]
      refine Ev.step (fun k => by rw [regimenlaw50_ChartOf.j0]) ?_
      refine evn (by simp) ?_
      exact chart_l0 (by omega) hx hm l.length (i := 0) (by omega)
    · have fin : Ev (fun k => regimenlaw50_ChartOf.j0 k l w [] 1 true) true := by
        refine Ev.step (fun k => by rw [regimenlaw50_ChartOf.j0]) ?_
        refine evp rfl ?_
        refine evp rfl ?_
        refine evp rfl ?_
        exact Ev.bind awake50b (Ev.now _)
      refine Ev.bind (of_bad hm) ?_
      by_cases c2 : w < 1
      · exact evp c2 fin
      · refine evn c2 ?_
        rw [decide_eq_true (by unfold may at hm; omega)]
        exact fin
end Go.Proofs.Ytemmnjnihngjgaa.Pure
