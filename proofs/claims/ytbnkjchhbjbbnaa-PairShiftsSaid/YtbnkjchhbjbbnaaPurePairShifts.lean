/- Any number of 128 bits shifted up and down, and how many bits it has, are as the reference has them: for every number and every shift. -/
import Derived.Test.YtbnkjchhbjbbnaaPAx3
import Derived.Test.YtbnkjchhbjbbnaaPAx9
import Derived.Test.YtbnkjchhbjbbnaaPairSh
namespace Go.Proofs.Ytbnkjchhbjbbnaa.Pure
set_option linter.unusedVariables false
open Go.RowKit Go.Proofs.Ytbnkjchhbjbbnaa.PA Go.Proofs.Ytbnkjchhbjbbnaa.Num Go.Proofs.YtbnkjchhbjbbnaaW.PrintWords Go.Proofs.YtbnkjchhbjbbnaaW.PrintLast

theorem awake02b : Ev (fun k => regimenlaw02_awake.f k) true := Ev.of (fun k => regimenlaw02_awake.mono k) (k := 40) (by decide +kernel)
theorem flag_lt2 (p q : Prop) [Decidable p] [Decidable q] : (decide p != decide ((if p then (-1 : Int) else if q then 1 else 0) < 0)) = false := by
  by_cases h : p
  · simp [h]
  · by_cases h2 : q <;> simp [h, h2]

theorem shifts_j1 (a0 a1 n : Int) (h0 : 0 ≤ a0 ∧ a0 < 18446744073709551616) (h1 : 0 ≤ a1 ∧ a1 < 18446744073709551616) :
    Ev (fun k => regimenlaw02_PairShifts.j1 k n (held n : Int) a0 a1) true := by
  have hk := held_le n
  have hP := p2_pos (held n)
  obtain ⟨x, hx, dx, vx, lx⟩ := of_ok a0 a1 h0.1 h0.2 h1.1 h1.2
  obtain ⟨p, hp, dp, vp, lp⟩ := twos_ok (held n : Int) (by omega)
  rw [Int.toNat_natCast] at vp lp
  obtain ⟨q, hq, dq, vq, lq⟩ := twos_ok 128 (by omega)
  have vq : dv q = 340282366920938463463374607431768211456 := vq
  have lq : q.length ≤ 129 := lq
  obtain ⟨s, hs, ds, vs, ls⟩ := times_ok x p dx dp (by omega) (by omega)
  have hms := mod_ok s ds
  have hcs := cmp_ok s q ds dq (by omega) (by omega)
  have hshl := pair_shl_ok n h0 h1
  have hshr := pair_shr_ok n h0 h1
  rw [vs, vx, vp] at hms hcs
  rw [vq] at hcs
  have hV : 0 ≤ a1 + 18446744073709551616 * a0 ∧ a1 + 18446744073709551616 * a0 < 340282366920938463463374607431768211456 := by omega
  have hVe : a0 = (a1 + 18446744073709551616 * a0) / 18446744073709551616 ∧ a1 = (a1 + 18446744073709551616 * a0) % 18446744073709551616 := by omega
  have hcut := cut_ex (a1 + 18446744073709551616 * a0) (2 ^ held n) hP
  have hD0 : 0 ≤ (a1 + 18446744073709551616 * a0) / 2 ^ held n := Int.ediv_nonneg hV.1 (Int.le_of_lt hP)
  have hD1 : (a1 + 18446744073709551616 * a0) / 2 ^ held n ≤ a1 + 18446744073709551616 * a0 := Int.ediv_le_self _ hV.1
  refine Ev.step (fun k => by rw [regimenlaw02_PairShifts.j1]) ?_
  refine evs hshl ?_
  refine evs hx ?_
  refine Ev.bind hp ?_
  refine Ev.bind hs ?_
  refine Ev.bind hms ?_
  refine evn (by simp) ?_
  refine Ev.bind hq ?_
  refine Ev.bind hcs ?_
  rw [flag_lt2]
  refine Ev.step (fun k => by rw [regimenlaw02_PairShifts.j2]) ?_
  refine evn (by simp) ?_
  -- how many bits there are
  have h4 : Ev (fun k => regimenlaw02_PairShifts.j4 k false a0 a1) true := by
    obtain ⟨m, hm, hlen, hm1, hm2⟩ := pair_len_ok h0.1 h0.2 h1.1 h1.2
    obtain ⟨t, ht, dt, vt, lt⟩ := twos_ok (m : Int) (by omega)
    rw [Int.toNat_natCast] at vt lt
    have hct := cmp_ok x t dx dt (by omega) (by omega)
    rw [vx, vt, if_pos hm1] at hct
    refine Ev.step (fun k => by rw [regimenlaw02_PairShifts.j4]) ?_
    refine evn (by simp) ?_
    refine Ev.bind hlen ?_
    refine evn (by omega) ?_
    refine evn (by omega) ?_
    refine evs hx ?_
    refine Ev.bind ht ?_
    refine Ev.bind hct ?_
    refine Ev.step (fun k => by rw [regimenlaw02_PairShifts.j5]) ?_
    refine evn (by simp) ?_
    by_cases hz : m = 0
    · refine evp (by omega) ?_
      exact Ev.bind awake02b (Ev.now _)
    · have hm2 := hm2.resolve_left hz
      obtain ⟨u, hu, du, vu, lu⟩ := twos_ok ((m - 1 : Nat) : Int) (by omega)
      rw [Int.toNat_natCast] at vu lu
      have hcu := cmp_ok x u dx du (by omega) (by omega)
      rw [vx, vu] at hcu
      have hw : wrap64 ((m : Int) - 1) = ((m - 1 : Nat) : Int) := by
        rw [w64_id (by omega) (by omega)]
        omega
      refine evn (by omega) ?_
      refine evs hx ?_
      rw [hw]
      refine Ev.bind hu ?_
      refine Ev.bind hcu ?_
      refine evp ?_ ?_
      · rw [if_neg (by omega)]
        split <;> omega
      · exact Ev.bind awake02b (Ev.now _)
  -- shifted down
  have h3 : Ev (fun k => regimenlaw02_PairShifts.j3 k n (held n : Int) false a0 a1) true := by
    obtain ⟨y, hy, dy, vy, ly⟩ := of_ok ((a1 + 18446744073709551616 * a0) / 2 ^ held n / 18446744073709551616) ((a1 + 18446744073709551616 * a0) / 2 ^ held n % 18446744073709551616) (by omega) (by omega) (by omega) (by omega)
    have vy : dv y = (a1 + 18446744073709551616 * a0) / 2 ^ held n := by rw [vy]; omega
    obtain ⟨z, hz, dz, vz, lz⟩ := times_ok y p dy dp (by omega) (by omega)
    obtain ⟨v, hv, dvv, vv, lv⟩ := plus_ok z p dz dp 300 (by omega) (by omega) (by omega)
    have hc1 := cmp_ok z x dz dx (by omega) (by omega)
    have hc2 := cmp_ok v x dvv dx (by omega) (by omega)
    have e : (a1 + 18446744073709551616 * a0) / 2 ^ held n * 2 ^ held n = a1 + 18446744073709551616 * a0 - (a1 + 18446744073709551616 * a0) % 2 ^ held n := by
      rw [Int.mul_comm]
      omega
    rw [vz, vy, vp, vx, e] at hc1
    rw [vv, vz, vy, vp, vx, e] at hc2
    refine Ev.step (fun k => by rw [regimenlaw02_PairShifts.j3]) ?_
    refine evn (by simp) ?_
    refine evs hshr ?_
    refine evs hy ?_
    refine Ev.bind hp ?_
    refine Ev.bind hz ?_
    refine evs hx ?_
    refine Ev.bind hc1 ?_
    refine evn ?_ ?_
    · split
      · omega
      · rw [if_neg (by omega)]
        omega
    refine Ev.bind hp ?_
    refine Ev.bind hv ?_
    refine evs hx ?_
    refine Ev.bind hc2 ?_
    rw [if_neg (by omega), if_pos (by omega)]
    exact h4
  by_cases hf : (a1 + 18446744073709551616 * a0) * 2 ^ held n < 340282366920938463463374607431768211456
  · have hVP : 0 ≤ (a1 + 18446744073709551616 * a0) * 2 ^ held n := Int.mul_nonneg hV.1 (Int.le_of_lt hP)
    have hb := pair_shr_ok (a0 := (a1 + 18446744073709551616 * a0) * 2 ^ held n / 18446744073709551616 % 18446744073709551616) (a1 := (a1 + 18446744073709551616 * a0) * 2 ^ held n % 18446744073709551616) n (by omega) (by omega)
    have e : (a1 + 18446744073709551616 * a0) * 2 ^ held n % 18446744073709551616 + 18446744073709551616 * ((a1 + 18446744073709551616 * a0) * 2 ^ held n / 18446744073709551616 % 18446744073709551616) = (a1 + 18446744073709551616 * a0) * 2 ^ held n := by omega
    rw [e, Int.mul_ediv_cancel _ (by omega), ← hVe.1, ← hVe.2] at hb
    refine evp (by simpa using hf) ?_
    refine evs hb ?_
    rw [show ((!(a0 == a0)) || (!(a1 == a1))) = false by simp]
    exact h3
  · refine evn (by simpa using hf) ?_
    exact h3

theorem PairShifts : regimenlaw02_PairShifts.Pure := by
  intro a0 a1 n h0 h1 hn
  have h0 := u64_wf h0
  have h1 := u64_wf h1
  have hn := i64_wf hn
  refine Ev.rounds (r := true) ?_
  have hmain := shifts_j1 a0 a1 n h0 h1
  unfold held at hmain
  unfold regimenlaw02_PairShifts.f
  by_cases c : n < 0
  · refine evp c ?_
    refine Ev.step (fun k => by rw [regimenlaw02_PairShifts.j0]) ?_
    refine evn (by omega) ?_
    rw [show ((min n.toNat 128 : Nat) : Int) = 0 by omega] at hmain
    exact hmain
  · refine evn c ?_
    refine Ev.step (fun k => by rw [regimenlaw02_PairShifts.j0]) ?_
    by_cases c2 : n > 128
    · refine evp c2 ?_
      rw [show ((min n.toNat 128 : Nat) : Int) = 128 by omega] at hmain
      exact hmain
    · refine evn c2 ?_
      rw [show ((min n.toNat 128 : Nat) : Int) = n by omega] at hmain
      exact hmain
end Go.Proofs.Ytbnkjchhbjbbnaa.Pure
