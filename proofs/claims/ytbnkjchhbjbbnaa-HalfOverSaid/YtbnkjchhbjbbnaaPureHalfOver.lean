/- Any quotient of a number of 128 bits by a word, cut: it, the divisor and the rest make what was divided: for every number and every divisor. -/
import Derived.Test.YtbnkjchhbjbbnaaPAx6
import Derived.Test.YtbnkjchhbjbbnaaPAx11
import Derived.Test.YtbnkjchhbjbbnaaHalf
namespace Go.Proofs.Ytbnkjchhbjbbnaa.Pure
set_option linter.unusedVariables false
open Go.RowKit Go.Proofs.Ytbnkjchhbjbbnaa.PA Go.Proofs.Ytbnkjchhbjbbnaa.Num Go.Proofs.YtbnkjchhbjbbnaaW.PrintWords Go.Proofs.YtbnkjchhbjbbnaaW.PrintLast

theorem awake03a : Ev (fun k => regimenlaw03_awake.f k) true := Ev.of (fun k => regimenlaw03_awake.mono k) (k := 60) (by decide +kernel)

theorem HalfOver : regimenlaw03_HalfOver.Pure := by
  intro a0 a1 d h0 h1 hd
  have h0 := u64_wf h0
  have h1 := u64_wf h1
  have hd := u64_wf hd
  refine Ev.rounds (r := true) ?_
  have ho := half_over_ok h0.1 h0.2 h1.1 h1.2 hd.1 hd.2
  unfold regimenlaw03_HalfOver.f
  refine Ev.bind ho ?_
  by_cases c : d = 0
  · rw [if_pos c]
    refine evp c ?_
    refine evp rfl ?_
    refine evp rfl ?_
    refine evp rfl ?_
    exact Ev.bind awake03a (Ev.now _)
  · obtain ⟨x, hx, dx, vx, lx⟩ := of_ok a0 a1 h0.1 h0.2 h1.1 h1.2
    obtain ⟨y, hy, dy, vy, ly⟩ := word_ok d hd.1 hd.2
    obtain ⟨t, ht, dt, vt, lt⟩ := twos_ok 64 (by omega)
    have vt : dv t = 18446744073709551616 := vt
    have lt : t.length ≤ 65 := lt
    obtain ⟨p, hp, dp, vp, lp⟩ := times_ok y t dy dt (by omega) (by omega)
    have hc := cmp_ok x p dx dp (by omega) (by omega)
    rw [vx, vp, vy, vt] at hc
    rw [if_neg c]
    refine evn c ?_
    refine evs hx ?_
    refine evs hy ?_
    refine Ev.bind ht ?_
    refine Ev.bind hp ?_
    refine Ev.bind hc ?_
    by_cases c2 : a0 ≥ d
    · rw [if_pos c2]
      refine evp (by rw [if_neg (by omega)]; split <;> omega) ?_
      refine evp rfl ?_
      refine evp rfl ?_
      refine evp rfl ?_
      exact Ev.bind awake03a (Ev.now _)
    · rw [if_neg c2]
      have hq0 : 0 ≤ (a1 + 18446744073709551616 * a0) / d := Int.ediv_nonneg (by omega) (by omega)
      have hq1 : (a1 + 18446744073709551616 * a0) / d < 18446744073709551616 := Int.ediv_lt_of_lt_mul (by omega) (by omega)
      obtain ⟨e, r0, r1⟩ := cut_ex (a1 + 18446744073709551616 * a0) d (by omega)
      obtain ⟨q, hq, dq, vq, lq⟩ := word_ok _ hq0 hq1
      obtain ⟨r, hr, dr, vr, lr⟩ := word_ok ((a1 + 18446744073709551616 * a0) % d) r0 (by omega)
      obtain ⟨m, hm, dm, vm, lm⟩ := times_ok q y dq dy (by omega) (by omega)
      obtain ⟨s, hs, ds, vs, ls⟩ := plus_ok m r dm dr 20 (by omega) (by omega) (by omega)
      have hcb := cmp_ok s x ds dx (by omega) (by omega)
      have vb : dv s = a1 + 18446744073709551616 * a0 := by rw [vs, vm, vq, vy, vr, Int.mul_comm]; omega
      rw [vb, vx, if_neg (by omega), if_neg (by omega)] at hcb
      refine evn (by rw [if_pos (by omega)]; omega) ?_
      refine evs hq ?_
      refine Ev.bind hm ?_
      refine evs hr ?_
      refine Ev.bind hs ?_
      refine evp rfl ?_
      refine evp r1 ?_
      refine Ev.bind hcb ?_
      refine evp rfl ?_
      exact Ev.bind awake03a (Ev.now _)
end Go.Proofs.Ytbnkjchhbjbbnaa.Pure
