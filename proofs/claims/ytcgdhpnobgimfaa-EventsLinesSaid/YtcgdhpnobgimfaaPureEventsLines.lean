/- Any event's line, that is read as it, if its kind is one and its Item a count, and any kind's word: for all events. -/
import Derived.Test.YtcgdhpnobgimfaaPEx5
import Derived.Test.YtcgdhpnobgimfaaPEx7
import Derived.Test.YtcgdhpnobgimfaaEEvents
namespace Go.Proofs.Ytcgdhpnobgimfaa.Pure
set_option linter.unusedVariables false
open Go.RowKit Go.Proofs.Ytcgdhpnobgimfaa.PE Go.Proofs.Ytcgdhpnobgimfaa.Num Go.Proofs.YtcgdhpnobgimfaaW.PrintWords Go.Proofs.YtcgdhpnobgimfaaW.PrintLast Go.Proofs.YtcgdhpnobgimfaaW.PrintMore

theorem awake36 : Ev (fun k => regimenlaw36_awake.f k) true := Ev.of (fun k => regimenlaw36_awake.mono k) (k := 80) (by decide +kernel)

theorem EventsLines : regimenlaw36_EventsLines.Pure := by
  intro s k n hs hk hn
  have hn := i64_wf hn
  refine Ev.rounds (r := true) ?_
  have pl := parse_ok s (lineV k n) (by have := line_size (k := k) hn; omega)
  rw [parsed_line s k hn] at pl
  have w := word_all k
  unfold regimenlaw36_EventsLines.f
  refine Ev.bind (line_ok s k hn) ?_
  refine Ev.bind pl ?_
  generalize hR : (if (1 ≤ k ∧ k ≤ 11) ∧ ¬ (n < 0 ∨ n > 1099511627776) then (s, k, n, true) else ((0 : Int), (0 : Int), (0 : Int), false)) = R
  have j3 : ∀ b : Bool, (b = true ↔ ¬ ((1 ≤ k ∧ k ≤ 11) ∧ ¬ (n < 0 ∨ n > 1099511627776))) → Ev (fun q => regimenlaw36_EventsLines.j3 q R.2.2.2 b s k n R.1 R.2.1 R.2.2.1) true := by
    intro b hb
    refine Ev.step (fun q => by rw [regimenlaw36_EventsLines.j3]) ?_
    by_cases c : (1 ≤ k ∧ k ≤ 11) ∧ ¬ (n < 0 ∨ n > 1099511627776)
    · rw [if_pos c] at hR
      subst hR
      refine evn (fun q => hb.1 q c) ?_
      refine evp rfl ?_
      refine evp (by simp) ?_
      exact Ev.bind awake36 (Ev.now _)
    · rw [if_neg c] at hR
      subst hR
      refine evp (hb.2 c) ?_
      refine evn (by simp) ?_
      refine evp (by simp) ?_
      exact Ev.bind awake36 (Ev.now _)
  have j1 : Ev (fun q => regimenlaw36_EventsLines.j1 q (lineV k n) R.2.2.2 (word k) s k n R.1 R.2.1 R.2.2.1) true := by
    refine Ev.step (fun q => by rw [regimenlaw36_EventsLines.j1]) ?_
    refine Ev.bind (ref_line_ok s k hn) ?_
    refine evp rfl ?_
    refine evs (word_ok36 k) ?_
    refine Ev.step (fun q => by rw [regimenlaw36_EventsLines.j2]) ?_
    refine evn (by simp) ?_
    by_cases c : 1 ≤ k ∧ k ≤ 11
    · refine evn (fun q => w.2.2.1 q c) ?_
      by_cases d : n < 0
      · refine evp d (j3 true ?_)
        simp only [true_iff]
        exact fun q => q.2 (.inl d)
      · refine evn d (j3 _ ?_)
        rw [decide_eq_true_eq]
        omega
    · refine evp (w.2.2.2 c) (j3 true ?_)
      simp only [true_iff]
      exact fun q => c q.1
  have j0 : ∀ b : Bool, (b = true ↔ (1 ≤ k ∧ k ≤ 11)) → Ev (fun q => regimenlaw36_EventsLines.j0 q (lineV k n) R.2.2.2 (⟨#[]⟩ : ByteArray) b s k n R.1 R.2.1 R.2.2.1) true := by
    intro b hb
    refine Ev.step (fun q => by rw [regimenlaw36_EventsLines.j0]) ?_
    by_cases c : b = true
    · have c2 := hb.1 c
      refine evp c ?_
      refine evs words_ok ?_
      refine evp (by omega) ?_
      refine evp (by rw [words_len]; omega) ?_
      rw [word_rd (by omega) (by omega)]
      exact j1
    · refine evn c ?_
      have e : word k = ⟨#[]⟩ := nums_inj ((toList_nil _).1 (w.2.2.2 (fun q => c (hb.2 q))))
      rw [e] at j1
      exact j1
  by_cases c : k ≥ 1
  · refine evp c (j0 _ ?_)
    rw [decide_eq_true_eq]
    omega
  · refine evn c (j0 _ ?_)
    simp only [Bool.false_eq_true, false_iff]
    omega
end Go.Proofs.Ytcgdhpnobgimfaa.Pure
