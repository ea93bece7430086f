/- How many bytes at the begin are digits, of any text: for all texts. -/
import Derived.Test.YtbnkjchhbjbbnaaPAx0
import Derived.Test.YtbnkjchhbjbbnaaPAx2
import Derived.Test.YtbnkjchhbjbbnaaPAx5
import Derived.Test.YtbnkjchhbjbbnaaANumRef
namespace Go.Proofs.Ytbnkjchhbjbbnaa.Pure
set_option linter.unusedVariables false
open Go.RowKit Go.Proofs.Ytbnkjchhbjbbnaa.PA Go.Proofs.Ytbnkjchhbjbbnaa.Num Go.Proofs.YtbnkjchhbjbbnaaW.PrintWords Go.Proofs.YtbnkjchhbjbbnaaW.PrintLast Go.Proofs.YtbnkjchhbjbbnaaW.PrintMore

theorem awake01c : Ev (fun k => regimenlaw01_awake.f k) true := Ev.of (fun k => regimenlaw01_awake.mono k) (k := 80) (by decide +kernel)

theorem leads_loop (s : ByteArray) (hs : s.size < 1000000) (e : Nat) : ∀ i : Nat, i + e = s.size → (∀ k, k < i → isDig ((numsOf s).getD k 0)) → Ev (fun k => regimenlaw01_NumLeads.l0 k s (i : Int)) true := by
  have hl := nums_len s
  induction e with
  | zero =>
    intro i h hd
    have la := lead_at i (numsOf s) (by omega) hd (.inl (by omega))
    refine Ev.step (fun k => by rw [regimenlaw01_NumLeads.l0]) ?_
    refine evn (by omega) ?_
    refine Ev.bind (lead_ok s hs) ?_
    refine evp (by omega) ?_
    exact Ev.bind awake01c (Ev.now _)
  | succ e ih =>
    intro i h hd
    refine Ev.step (fun k => by rw [regimenlaw01_NumLeads.l0]) ?_
    refine evp (by omega) ?_
    refine evp (by omega) ?_
    rw [bt_nums]
    by_cases c : (numsOf s).getD i 0 ≥ 48
    · refine evp c ?_
      by_cases d : (numsOf s).getD i 0 ≤ 57
      · refine evp d ?_
        rw [w64_succ (by omega)]
        refine ih (i + 1) (by omega) (fun k hk => ?_)
        by_cases q : k = i
        · rw [q]
          exact ⟨c, d⟩
        · exact hd k (by omega)
      · have la := lead_at i (numsOf s) (by omega) hd (.inr fun q => d q.2)
        refine evn d ?_
        refine Ev.bind (lead_ok s hs) ?_
        refine evp (by omega) ?_
        exact Ev.bind awake01c (Ev.now _)
    · have la := lead_at i (numsOf s) (by omega) hd (.inr fun q => c q.1)
      refine evn c ?_
      refine Ev.bind (lead_ok s hs) ?_
      refine evp (by omega) ?_
      exact Ev.bind awake01c (Ev.now _)

theorem NumLeads : regimenlaw01_NumLeads.Pure := by
  intro s hs
  refine Ev.rounds (r := true) ?_
  unfold regimenlaw01_NumLeads.f
  by_cases c : (s.size : Int) > 200
  · refine evp c ?_
    exact Ev.bind awake01c (Ev.now _)
  · refine evn c ?_
    exact leads_loop s (by omega) s.size 0 (by omega) (fun k hk => by omega)
end Go.Proofs.Ytbnkjchhbjbbnaa.Pure
