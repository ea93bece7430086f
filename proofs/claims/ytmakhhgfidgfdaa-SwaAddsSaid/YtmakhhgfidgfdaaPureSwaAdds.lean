/- Any weights added to any sum, which sums there may be, and any one's mean, are the reference's: for all sums and weights. -/
import Derived.Test.YtmakhhgfidgfdaaPCx3
import Derived.Test.YtmakhhgfidgfdaaPCx4
import Derived.Test.YtmakhhgfidgfdaaPCx8
import Derived.Test.YtmakhhgfidgfdaaPCx9
import Derived.Test.YtmakhhgfidgfdaaCSwa
namespace Go.Proofs.Ytmakhhgfidgfdaa.Pure
set_option linter.unusedVariables false
open Go.RowKit Go.Proofs.Ytmakhhgfidgfdaa.PC Go.Proofs.Ytmakhhgfidgfdaa.Num Go.Proofs.YtmakhhgfidgfdaaW.PrintWords Go.Proofs.YtmakhhgfidgfdaaW.PrintLast Go.Proofs.YtmakhhgfidgfdaaW.PrintMore

theorem awake34 : Ev (fun k => regimenlaw34_awake.f k) true := Ev.of (fun k => regimenlaw34_awake.mono k) (k := 80) (by decide +kernel)

theorem addv_length (c : Int) (s w : List Int) (e : Nat) : ∀ (i : Nat) (acc : List Int), i + e = w.length → acc.length = i → (addv c s w i e acc).2.1.length ≤ w.length := by
  induction e with
  | zero => intro i acc h ha; show acc.length ≤ w.length; omega
  | succ e ih =>
    intro i acc h ha
    unfold addv
    split
    · exact ih (i + 1) _ (by omega) (by simp [ha])
    · simp
theorem swav_length (c : Int) (s w : List Int) : (swav c s w).2.1.length ≤ w.length := by
  unfold swav
  split
  · simp
  · split
    · simp
    · split
      · exact addv_length c s w w.length 0 [] (by omega) rfl
      · simp
theorem sums_same_l0 (c : Int) (l : List Int) (hl : l.length ≤ 1000000) (m : Nat) : ∀ {i : Nat}, i + m = l.length → Ev (fun k => regimenref34_Same.l0 k (i : Int) c l c l) true := by
  induction m with
  | zero =>
    intro i h
    refine Ev.step (fun k => by rw [regimenref34_Same.l0]) ?_
    exact evn (by omega) (Ev.now _)
  | succ m ih =>
    intro i h
    refine Ev.step (fun k => by rw [regimenref34_Same.l0]) ?_
    refine evp (by omega) ?_
    refine evp (by omega) ?_
    refine evp (by omega) ?_
    refine evp rfl ?_
    rw [w64_succ (by omega)]
    exact ih (by omega)
theorem sums_same_ok (c : Int) (l : List Int) (hl : l.length ≤ 1000000) : Ev (fun k => regimenref34_Same.f k c l c l) true := by
  unfold regimenref34_Same.f
  refine evp rfl ?_
  refine Ev.step (fun k => by rw [regimenref34_Same.j0]) ?_
  refine evn (by simp) ?_
  exact sums_same_l0 c l hl l.length (i := 0) (by omega)

theorem SwaAdds : regimenlaw34_SwaAdds.Pure := by
  intro c s w hc hs hw
  have hc := i64_wf hc
  have hsw : ∀ x, x ∈ s → word' x := fun x h => i64_wf (hs.2.2 x h)
  have hww : ∀ x, x ∈ w → word' x := fun x h => i64_wf (hw.2.2 x h)
  refine Ev.rounds (r := true) ?_
  have fin : Ev (fun k => regimenlaw34_SwaAdds.j0 k w true c s) true := by
    refine Ev.step (fun k => by rw [regimenlaw34_SwaAdds.j0]) ?_
    refine evp rfl ?_
    exact Ev.bind awake34 (Ev.now _)
  unfold regimenlaw34_SwaAdds.f
  by_cases c1 : (s.length : Int) > 60
  · exact evp c1 fin
  refine evn c1 ?_
  by_cases c2 : (w.length : Int) > 60
  · rw [decide_eq_true c2]
    exact fin
  rw [decide_eq_false c2]
  refine Ev.step (fun k => by rw [regimenlaw34_SwaAdds.j0]) ?_
  refine evn (by simp) ?_
  by_cases m : smay c s
  · refine Ev.bind (swa_add_ok c s w hsw hww (by omega) m) ?_
    refine Ev.bind (swa_mean_ok c s hsw (by omega) m) ?_
    refine evs (ref_smay_ok c s) ?_
    refine evs (swa_check_ok c s) ?_
    rw [if_pos m, decide_eq_true m]
    refine evn (by decide) ?_
    refine evs (swa_check_ok c s) ?_
    rw [if_pos m]
    refine Ev.step (fun k => by rw [regimenlaw34_SwaAdds.j1]) ?_
    refine evn (by decide) ?_
    refine evp rfl ?_
    refine Ev.bind (ref_swa_ok c s w hsw hww (by omega) m) ?_
    have ls := swav_length c s w
    refine Ev.bind (sums_same_ok _ _ (by omega)) ?_
    refine evp rfl ?_
    refine evp rfl ?_
    refine Ev.step (fun k => by rw [regimenlaw34_SwaAdds.j2]) ?_
    refine evn (by simp) ?_
    by_cases z : c = 0
    · refine evp z ?_
      have := m.2.2 z
      refine evp (by rw [tab_length]; omega) ?_
      exact Ev.bind awake34 (Ev.now _)
    · refine evn z ?_
      have h0 := m.1
      have h1 := m.2.1
      have rm : Ev (fun k => regimenref34_Mean.f k c s) (tab (fun i => meanv c (s.getD i 0)) s.length) := by
        unfold regimenref34_Mean.f
        exact ref_mean_loop c s hsw (by omega) h1 (by omega) s.length 0 (by omega)
      refine Ev.bind rm ?_
      refine Ev.bind (same1_ok _ (by rw [tab_length]; omega)) ?_
      refine evp rfl ?_
      exact Ev.bind awake34 (Ev.now _)
  · refine Ev.bind (swa_add_no c s w m) ?_
    refine Ev.bind (swa_mean_no c s m) ?_
    refine evs (ref_smay_ok c s) ?_
    refine evs (swa_check_ok c s) ?_
    rw [if_neg m, decide_eq_false m]
    refine evn (by decide) ?_
    refine evs (swa_check_ok c s) ?_
    rw [if_neg m]
    refine Ev.step (fun k => by rw [regimenlaw34_SwaAdds.j1]) ?_
    refine evn (by decide) ?_
    refine evn (by simp) ?_
    refine Ev.bind (sums_same_ok 0 [] (by simp)) ?_
    refine evp rfl ?_
    refine evp rfl ?_
    refine evp (by simp) ?_
    refine evp rfl ?_
    exact Ev.bind awake34 (Ev.now _)
end Go.Proofs.Ytmakhhgfidgfdaa.Pure
