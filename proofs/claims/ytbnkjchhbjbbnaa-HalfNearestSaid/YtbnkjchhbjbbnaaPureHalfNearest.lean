/- What is rounded, times the divisor, is no farther from what was divided than half the divisor; if it is just as far, it is even: for every number and divisor. -/
import Derived.Test.YtbnkjchhbjbbnaaPAx6
import Derived.Test.YtbnkjchhbjbbnaaPAx13
import Derived.Test.YtbnkjchhbjbbnaaHalf
namespace Go.Proofs.Ytbnkjchhbjbbnaa.Pure
set_option linter.unusedVariables false
open Go.RowKit Go.Proofs.Ytbnkjchhbjbbnaa.PA Go.Proofs.Ytbnkjchhbjbbnaa.Num Go.Proofs.YtbnkjchhbjbbnaaW.PrintWords Go.Proofs.YtbnkjchhbjbbnaaW.PrintLast Go.Proofs.YtbnkjchhbjbbnaaW.PrintMore

theorem awake03c : Ev (fun k => regimenlaw03_awake.f k) true := Ev.of (fun k => regimenlaw03_awake.mono k) (k := 60) (by decide +kernel)

theorem nearest_j0 (q d F : Int) (f : List Int) (df : dok f) (lf : f.length ≤ 100) (vf : dv f = F) (hq0 : 0 ≤ q) (hd0 : 0 ≤ d) (hd : d < 18446744073709551616) (h : 2 * F < d ∨ (2 * F = d ∧ q % 2 = 0)) :
    Ev (fun k => regimenlaw03_HalfNearest.j0 k d q f) true := by
  obtain ⟨s, hs, ds, vs, ls⟩ := plus_ok f f df df 100 lf lf (by omega)
  obtain ⟨y, hy, dy, vy, ly⟩ := word_ok d hd0 hd
  have hc := cmp_ok s y ds dy (by omega) (by omega)
  rw [vs, vy, vf] at hc
  refine Ev.step (fun k => by rw [regimenlaw03_HalfNearest.j0]) ?_
  refine Ev.bind hs ?_
  refine evs hy ?_
  refine Ev.bind hc ?_
  by_cases c : F + F < d
  · refine evp (by rw [if_pos c]; omega) ?_
    exact Ev.bind awake03c (Ev.now _)
  · refine evn (by rw [if_neg c]; split <;> omega) ?_
    refine evp (by rw [if_neg c, if_neg (by omega)]) ?_
    refine evp (by rw [tmod_pos hq0]; omega) ?_
    exact Ev.bind awake03c (Ev.now _)

theorem HalfNearest : regimenlaw03_HalfNearest.Pure := by
  intro a0 a1 d h0 h1 hd
  have h0 := u64_wf h0
  have h1 := u64_wf h1
  have hd := u64_wf hd
  refine Ev.rounds (r := true) ?_
  have hn := half_near_ok h0.1 h0.2 h1.1 h1.2 hd.1 hd.2
  unfold regimenlaw03_HalfNearest.f
  refine Ev.bind hn ?_
  unfold near
  by_cases c : d = 0
  · rw [if_pos c]
    refine evn (by simp) ?_
    exact Ev.bind awake03c (Ev.now _)
  · rw [if_neg c]
    by_cases c2 : rnd (a1 + 18446744073709551616 * a0) d < 18446744073709551616
    · rw [if_pos c2]
      obtain ⟨e, r0, r1⟩ := cut_ex (a1 + 18446744073709551616 * a0) d (by omega)
      have hq0 : 0 ≤ (a1 + 18446744073709551616 * a0) / d := Int.ediv_nonneg (by omega) (by omega)
      have hb := rnd_bounds (a1 + 18446744073709551616 * a0) d
      obtain ⟨x, hx, dx, vx, lx⟩ := of_ok a0 a1 h0.1 h0.2 h1.1 h1.2
      obtain ⟨y, hy, dy, vy, ly⟩ := word_ok d hd.1 hd.2
      obtain ⟨q, hq, dq, vq, lq⟩ := word_ok (rnd (a1 + 18446744073709551616 * a0) d) (by omega) c2
      obtain ⟨m, hm, dm, vm, lm⟩ := times_ok q y dq dy (by omega) (by omega)
      have hc := cmp_ok x m dx dm (by omega) (by omega)
      rw [vx, vm, vq, vy] at hc
      refine evp rfl ?_
      refine evs hx ?_
      refine evs hq ?_
      refine evs hy ?_
      refine Ev.bind hm ?_
      refine Ev.bind hc ?_
      have hR : rnd (a1 + 18446744073709551616 * a0) d * d = (a1 + 18446744073709551616 * a0) / d * d + (if 2 * ((a1 + 18446744073709551616 * a0) % d) > d ∨ (2 * ((a1 + 18446744073709551616 * a0) % d) = d ∧ (a1 + 18446744073709551616 * a0) / d % 2 = 1) then d else 0) := by
        unfold rnd
        rw [Int.add_mul]
        split <;> simp
      have hE : rnd (a1 + 18446744073709551616 * a0) d = (a1 + 18446744073709551616 * a0) / d + (if 2 * ((a1 + 18446744073709551616 * a0) % d) > d ∨ (2 * ((a1 + 18446744073709551616 * a0) % d) = d ∧ (a1 + 18446744073709551616 * a0) / d % 2 = 1) then 1 else 0) := rfl
      rw [Int.mul_comm d] at e
      generalize rnd (a1 + 18446744073709551616 * a0) d = R at *
      generalize (a1 + 18446744073709551616 * a0) / d * d = Z at *
      generalize (a1 + 18446744073709551616 * a0) % d = r at *
      generalize (a1 + 18446744073709551616 * a0) / d = Q at *
      by_cases g : a1 + 18446744073709551616 * a0 ≥ R * d
      · have da : dok (x ++ [0]) := dok_snoc dx (by omega)
        have va : dv (x ++ [0]) = dv x := by rw [dv_snoc]; simp
        obtain ⟨f, hf, df, vf, lf⟩ := less_ok (x ++ [0]) m da dm (by simp; omega) (by rw [va, vx, vm, vq, vy]; exact g)
        rw [va, vx, vm, vq, vy] at vf
        refine evp (by rw [if_neg (by omega)]; split <;> omega) ?_
        refine evs rfl ?_
        refine evp (by simp; omega) ?_
        refine evs rfl ?_
        refine evp (by simp; omega) ?_
        refine Ev.bind hf ?_
        refine nearest_j0 R d _ f df (by simp at lf; omega) vf (by omega) hd.1 hd.2 ?_
        split at hR <;> split at hE <;> omega
      · have da : dok (m ++ [0]) := dok_snoc dm (by omega)
        have va : dv (m ++ [0]) = dv m := by rw [dv_snoc]; simp
        obtain ⟨f, hf, df, vf, lf⟩ := less_ok (m ++ [0]) x da dx (by simp; omega) (by rw [va, vx, vm, vq, vy]; omega)
        rw [va, vx, vm, vq, vy] at vf
        refine evn (by rw [if_pos (by omega)]; omega) ?_
        refine evs rfl ?_
        refine evp (by simp; omega) ?_
        refine evs rfl ?_
        refine evp (by simp; omega) ?_
        refine Ev.bind hf ?_
        refine nearest_j0 R d _ f df (by simp at lf; omega) vf (by omega) hd.1 hd.2 ?_
        split at hR <;> split at hE <;> omega
    · rw [if_neg c2]
      refine evn (by simp) ?_
      exact Ev.bind awake03c (Ev.now _)
end Go.Proofs.Ytbnkjchhbjbbnaa.Pure
