/- A run stops at the least place at which none of the last readings, as many as the patience, was better: for all readings, rules and patiences. -/
import Derived.Test.YtmakhhgfidgfdaaPBx3
import Derived.Test.YtmakhhgfidgfdaaPBx6
import Derived.Test.YtmakhhgfidgfdaaPBx12
import Derived.Test.YtmakhhgfidgfdaaEarlyRef
namespace Go.Proofs.Ytmakhhgfidgfdaa.Pure
set_option linter.unusedVariables false
open Go.RowKit Go.Proofs.Ytmakhhgfidgfdaa.PB Go.Proofs.Ytmakhhgfidgfdaa.Num Go.Proofs.YtmakhhgfidgfdaaW.PrintWords Go.Proofs.YtmakhhgfidgfdaaW.PrintLast Go.Proofs.YtmakhhgfidgfdaaW.PrintMore

theorem awake30 : Ev (fun k => regimenlaw30_awake.f k) true := Ev.of (fun k => regimenlaw30_awake.mono k) (k := 80) (by decide +kernel)

theorem law_loop (l : List Int) (p : Int) (m rel : Bool) {d : Int} (hd : word d) (hl : ∀ x, x ∈ l → word x) (hn : l.length < 100000) (R : Int)
    (hR : (R = -1 ∧ ∀ j, 0 ≤ j → j < 0 + l.length → outs (est l m d rel (j + 1)) p = false) ∨ (∃ n : Nat, R = (n : Int) ∧ 0 ≤ n ∧ n < 0 + l.length ∧ outs (est l m d rel (n + 1)) p = true ∧ ∀ j, 0 ≤ j → j < n → outs (est l m d rel (j + 1)) p = false)) (e : Nat) :
    ∀ i : Nat, i + e = l.length → Ev (fun k => regimenlaw30_EarlyStops.l0 k l p R (i : Int) m d rel (est l m d rel i).1 (est l m d rel i).2.1 (est l m d rel i).2.2) true := by
  induction e with
  | zero =>
    intro i h
    obtain rfl : i = l.length := by omega
    refine Ev.step (fun k => by rw [regimenlaw30_EarlyStops.l0]) ?_
    refine evn (by omega) ?_
    refine Ev.bind (all_ok l m rel hd hl (by omega)) ?_
    refine evp (by simp) ?_
    exact Ev.bind awake30 (Ev.now _)
  | succ e ih =>
    intro i h
    obtain ⟨b0, b1, _, _⟩ := est_mark l m d rel i (by omega)
    have nxt := ih (i + 1) (by omega)
    refine Ev.step (fun k => by rw [regimenlaw30_EarlyStops.l0]) ?_
    refine evp (by omega) ?_
    refine evp (by omega) ?_
    rw [rd_nat]
    refine Ev.bind (ref_take_ok (est l m d rel i) m rel (est_word m d rel hl i) ⟨by omega, by omega⟩ (getD_word hl i) hd) ?_
    rw [w64_succ (by omega)]
    have hout : ∀ {b : Bool}, outs (est l m d rel (i + 1)) p = b → early_Out.f (etk (est l m d rel i) (l.getD i 0) m d rel).1 (etk (est l m d rel i) (l.getD i 0) m d rel).2.1 (etk (est l m d rel i) (l.getD i 0) m d rel).2.2 p = some b := by
      intro b hb
      rw [out_ok]
      exact congrArg some hb
    rcases hR with ⟨r1, r2⟩ | ⟨n, r1, _, r3, r4, r5⟩
    · refine evn (by omega) ?_
      refine evn (by omega) ?_
      exact nxt
    · refine evp (by omega) ?_
      by_cases c : i < n
      · refine evp (by omega) ?_
        refine evs (hout (r5 i (by omega) c)) ?_
        refine evn (by simp) ?_
        refine evn (by omega) ?_
        exact nxt
      · refine evn (by omega) ?_
        by_cases q : i = n
        · subst q
          refine evp (by omega) ?_
          refine evs (hout r4) ?_
          refine evp rfl ?_
          exact nxt
        · refine evn (by omega) ?_
          exact nxt

theorem EarlyStops : regimenlaw30_EarlyStops.Pure := by
  intro l p m d rel hl hp hd
  have hp := i64_wf hp
  have hd : word d := i64_wf hd
  have hlw : ∀ x, x ∈ l → word x := fun x h => i64_wf (hl.2.2 x h)
  refine Ev.rounds (r := true) ?_
  have fin : Ev (fun k => regimenlaw30_EarlyStops.j0 k l p true m d rel) true := by
    refine Ev.step (fun k => by rw [regimenlaw30_EarlyStops.j0]) ?_
    refine evp rfl ?_
    exact Ev.bind awake30 (Ev.now _)
  unfold regimenlaw30_EarlyStops.f
  by_cases c : (l.length : Int) > 60
  · exact evp c fin
  · refine evn c ?_
    by_cases q : p > 1099511627776
    · rw [decide_eq_true q]
      exact fin
    · rw [decide_eq_false q]
      refine Ev.step (fun k => by rw [regimenlaw30_EarlyStops.j0]) ?_
      refine evn (by simp) ?_
      refine Ev.bind (stops_ok l p m rel hd hlw (by omega)) ?_
      refine Ev.bind (ref_stops_ok l p hp.1 (by omega) m rel hd hlw (by omega)) ?_
      refine evp rfl ?_
      exact law_loop l p m rel hd hlw (by omega) _ (firstp_at _ _ 0) l.length 0 (by omega)
end Go.Proofs.Ytmakhhgfidgfdaa.Pure
