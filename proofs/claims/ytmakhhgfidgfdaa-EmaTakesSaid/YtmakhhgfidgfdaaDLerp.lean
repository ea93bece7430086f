/- What lies between two numbers (layer 7): the program's and the reference's, by value. -/
import Derived.Test.YtmakhhgfidgfdaaPDx4
import Derived.Test.YtmakhhgfidgfdaaPDx8
import Derived.Test.YtmakhhgfidgfdaaDApart
namespace Go.Proofs.Ytmakhhgfidgfdaa.Num
set_option linter.unusedVariables false
set_option linter.unusedSimpArgs false
open Go.RowKit Go.Proofs.Ytmakhhgfidgfdaa.PD Go.Proofs.YtmakhhgfidgfdaaW.PrintWords Go.Proofs.YtmakhhgfidgfdaaW.PrintMore

def lat (a b t : Int) : Int := if a ≤ b then a + rnd ((b - a) * t) 4294967296 else a - rnd ((a - b) * t) 4294967296
theorem part_rnd {D t : Int} (hD : 0 ≤ D) (h0 : 0 ≤ t) (h1 : t ≤ 4294967296) : 0 ≤ rnd (D * t) 4294967296 ∧ rnd (D * t) 4294967296 ≤ D := by
  refine ⟨rnd_nonneg (Int.mul_nonneg hD h0) (by omega), rnd_le (by omega) (Int.mul_le_mul_of_nonneg_left h1 hD)⟩
theorem lat_range {a b t : Int} (h0 : 0 ≤ t) (h1 : t ≤ 4294967296) : (a ≤ b → a ≤ lat a b t ∧ lat a b t ≤ b) ∧ (b ≤ a → b ≤ lat a b t ∧ lat a b t ≤ a) := by
  have p1 := fun h : a ≤ b => part_rnd (D := b - a) (by omega) h0 h1
  have p2 := fun h : b ≤ a => part_rnd (D := a - b) (by omega) h0 h1
  unfold lat
  constructor
  · intro h
    rw [if_pos h]
    have := p1 h
    omega
  · intro h
    by_cases c : a ≤ b
    · rw [if_pos c]
      have := p1 c
      omega
    · rw [if_neg c]
      have := p2 h
      omega
theorem lat_zero (a b : Int) : lat a b 0 = a := by
  have h : ∀ D : Int, rnd (D * 0) 4294967296 = 0 := fun D => by rw [Int.mul_zero]; rfl
  unfold lat
  split <;> rw [h] <;> omega
theorem lat_one (a b : Int) : lat a b 4294967296 = b := by
  unfold lat
  split <;> rw [rnd_exact _ (by omega)] <;> omega
theorem lat_mono {a b t u : Int} (htu : t ≤ u) : (a ≤ b → lat a b t ≤ lat a b u) ∧ (¬ a ≤ b → lat a b u ≤ lat a b t) := by
  unfold lat
  constructor
  · intro h
    rw [if_pos h, if_pos h]
    have := rnd_mono (V := (b - a) * t) (V' := (b - a) * u) (d := 4294967296) (by omega) (Int.mul_le_mul_of_nonneg_left htu (by omega))
    omega
  · intro h
    rw [if_neg h, if_neg h]
    have := rnd_mono (V := (a - b) * t) (V' := (a - b) * u) (d := 4294967296) (by omega) (Int.mul_le_mul_of_nonneg_left htu (by omega))
    omega

theorem lerp_scaled_ok {D t : Int} (hD : 0 ≤ D) (hD1 : D < 18446744073709551616) (h0 : 0 ≤ t) (h1 : t ≤ 4294967296) : Ev (fun k => lerp_scaled.f k D t) (rnd (D * t) 4294967296) := by
  have hm := pair_mul_ok (x := D) (y := t) hD hD1 h0 (by omega)
  have hp := mul_bd hD (Int.le_sub_one_of_lt hD1) h0 h1
  have hs := half_shift_ok (hi := D * t / 18446744073709551616) (lo := D * t % 18446744073709551616) 32 (by omega) (by omega)
  have e : D * t % 18446744073709551616 + 18446744073709551616 * (D * t / 18446744073709551616) = D * t := by omega
  rw [e, show (2 : Int) ^ min (32 : Int).toNat 63 = 4294967296 from rfl] at hs
  have hr := part_rnd hD h0 h1
  unfold near at hs
  rw [if_neg (by omega), if_pos (by omega)] at hs
  unfold lerp_scaled.f
  rw [u64_id h0 (by omega)]
  refine evs hm ?_
  exact Ev.bind hs (Ev.now _)

theorem lerp_far_ok {a b : Int} (ha : -9223372036854775808 ≤ a ∧ a < 9223372036854775808) (hb : -9223372036854775808 ≤ b ∧ b < 9223372036854775808) (h : a ≤ b) : lerp_far.f a b = some (b - a) := by
  unfold lerp_far.f
  simp only [u64_mod]
  congr 1
  omega

theorem lerp_at_ok {a b t : Int} (ha : -9223372036854775808 ≤ a ∧ a < 9223372036854775808) (hb : -9223372036854775808 ≤ b ∧ b < 9223372036854775808) (h0 : 0 ≤ t) (h1 : t ≤ 4294967296) : Ev (fun k => lerp_At.f k a b t) (lat a b t, 0) := by
  unfold lerp_At.f
  refine evn (by omega) ?_
  rw [decide_eq_false (by omega)]
  refine Ev.step (fun k => by rw [lerp_At.j0]) ?_
  refine evn (by simp) ?_
  by_cases c : a ≤ b
  · have hl : lat a b t = a + rnd ((b - a) * t) 4294967296 := if_pos c
    rw [hl]
    refine evp c ?_
    refine evs (lerp_far_ok ha hb c) ?_
    have hr := part_rnd (D := b - a) (by omega) h0 h1
    refine Ev.bind (lerp_scaled_ok (D := b - a) (by omega) (by omega) h0 h1) ?_
    refine Ev.congr (fun k => ?_) (Ev.now _)
    generalize rnd ((b - a) * t) 4294967296 = s at *
    rw [u64_mod, u64_mod]
    congr 2
    unfold wrap64
    omega
  · have hl : lat a b t = a - rnd ((a - b) * t) 4294967296 := if_neg c
    rw [hl]
    refine evn c ?_
    refine evs (lerp_far_ok hb ha (by omega)) ?_
    have hr := part_rnd (D := a - b) (by omega) h0 h1
    refine Ev.bind (lerp_scaled_ok (D := a - b) (by omega) (by omega) h0 h1) ?_
    refine Ev.congr (fun k => ?_) (Ev.now _)
    generalize rnd ((a - b) * t) 4294967296 = s at *
    rw [u64_mod, u64_mod]
    congr 2
    unfold wrap64
    omega
theorem lerp_at_no {a b t : Int} (h : t < 0 ∨ t > 4294967296) : Ev (fun k => lerp_At.f k a b t) (0, 1) := by
  have fin : Ev (fun k => lerp_At.j0 k a b t true) (0, 1) := by
    refine Ev.step (f := fun _ => some _) (fun k => ?_) (Ev.now _)
    rw [lerp_At.j0, if_pos rfl]
  unfold lerp_At.f
  by_cases c : t < 0
  · exact evp c fin
  · refine evn c ?_
    rw [decide_eq_true (by omega)]
    exact fin
theorem ref_at_ok {a b t : Int} (ha : -9223372036854775808 ≤ a ∧ a < 9223372036854775808) (hb : -9223372036854775808 ≤ b ∧ b < 9223372036854775808) (h0 : 0 ≤ t) (h1 : t ≤ 4294967296) : Ev (fun k => regimenref07_At.f k a b t) (lat a b t) := by
  obtain ⟨l, hl, dl, vl, ll⟩ := ref_apart_ok ha hb
  obtain ⟨m, hm, dm, vm, lm⟩ := ref_size_ok (x := t) (by omega)
  obtain ⟨p, hp, dp, vp, lp⟩ := times_ok l m dl dm (by omega) (by omega)
  obtain ⟨q, hq, dq, vq, lq⟩ := twos_ok 32 (by omega)
  have vq : dv q = 4294967296 := vq
  have lq : q.length ≤ 33 := lq
  obtain ⟨z, hz, dz, vz, lz⟩ := rounded_ok p q dp dq (by omega) (by omega) (by omega)
  have hmd := mod_ok z dz
  have it : iabs t = t := by unfold iabs; split <;> omega
  have vz : dv z = rnd (iabs (a - b) * t) 4294967296 := by rw [vz, vp, vl, vm, vq, it]
  have hr := part_rnd (D := iabs (a - b)) (iabs_nonneg _) h0 h1
  rw [vz] at hmd
  unfold regimenref07_At.f
  refine Ev.bind hl ?_
  refine evs hm ?_
  refine Ev.bind hp ?_
  refine Ev.bind hq ?_
  refine Ev.bind hz ?_
  refine Ev.bind hmd ?_
  by_cases c : a ≤ b
  · have hl : lat a b t = a + rnd ((b - a) * t) 4294967296 := if_pos c
    have e : iabs (a - b) = b - a := by unfold iabs; split <;> omega
    rw [e] at hr ⊢
    rw [hl]
    refine evp c ?_
    refine Ev.congr (fun k => ?_) (Ev.now _)
    generalize rnd ((b - a) * t) 4294967296 = s at *
    simp only [u64_mod]
    congr 1
    unfold wrap64
    omega
  · have hl : lat a b t = a - rnd ((a - b) * t) 4294967296 := if_neg c
    have e : iabs (a - b) = a - b := by unfold iabs; split <;> omega
    rw [e] at hr ⊢
    rw [hl]
    refine evn c ?_
    refine Ev.congr (fun k => ?_) (Ev.now _)
    generalize rnd ((a - b) * t) 4294967296 = s at *
    simp only [u64_mod]
    congr 1
    unfold wrap64
    omega
end Go.Proofs.Ytmakhhgfidgfdaa.Num
