/- Products, quotients and sums of fixed-point numbers (layer 4): the program's and the reference's, by value. -/
import Derived.Test.YtnmmhfpekeeedaaPBx2
import Derived.Test.YtnmmhfpekeeedaaPBx4
import Derived.Test.YtnmmhfpekeeedaaPBx6
import Derived.Test.YtnmmhfpekeeedaaPBx7
import Derived.Test.YtnmmhfpekeeedaaBHalf
namespace Go.Proofs.Ytnmmhfpekeeedaa.Num
set_option linter.unusedVariables false
set_option linter.unusedSimpArgs false
open Go.RowKit Go.Proofs.Ytnmmhfpekeeedaa.PB Go.Proofs.YtnmmhfpekeeedaaW.PrintWords Go.Proofs.YtnmmhfpekeeedaaW.PrintMore

/-- How far a whole number is from 0. -/
def iabs (x : Int) : Int := if x < 0 then -x else x
/-- An int by its size and its sign, where there is one. -/
def sgn (u : Int) (neg : Bool) : Int × Int := if neg = true then (if u ≤ 9223372036854775808 then (-u, 0) else (0, 4)) else (if u < 9223372036854775808 then (u, 0) else (0, 4))
def opp (x y : Int) : Bool := decide (x < 0) != decide (y < 0)
def fmul (x y : Int) : Int × Int := sgn (rnd (iabs x * iabs y) 4294967296) (opp x y)
def fdiv (x y : Int) : Int × Int := if y = 0 then (0, 5) else sgn (rnd (iabs x * 4294967296) (iabs y)) (opp x y)

theorem iabs_nonneg (x : Int) : 0 ≤ iabs x := by unfold iabs; split <;> omega
theorem iabs_lt {x : Int} (h : -9223372036854775808 ≤ x ∧ x < 9223372036854775808) : iabs x ≤ 9223372036854775808 := by unfold iabs; split <;> omega
theorem rnd_nonneg {V d : Int} (h0 : 0 ≤ V) (h1 : 0 < d) : 0 ≤ rnd V d := by
  have h := rnd_bounds V d
  have := Int.ediv_nonneg h0 (Int.le_of_lt h1)
  omega
theorem sgn_big {u : Int} (b : Bool) (h : 18446744073709551616 ≤ u) : sgn u b = (0, 4) := by
  unfold sgn
  cases b
  · rw [if_neg (by simp), if_neg (by omega)]
  · rw [if_pos rfl, if_neg (by omega)]
theorem sgn_small {u : Int} (b : Bool) (h : u < 9223372036854775808) : sgn u b = (if b = true then -u else u, 0) := by
  unfold sgn
  cases b
  · rw [if_neg (by simp), if_pos h]
    rfl
  · rw [if_pos rfl, if_pos (by omega)]
    rfl
theorem near_sgn {α : Type} {V d : Int} (hd : d ≠ 0) : near V d = if rnd V d < 18446744073709551616 then (rnd V d, 0) else (0, 4) := by
  unfold near
  rw [if_neg hd]

theorem wrap_abs {x : Int} (h : -9223372036854775808 ≤ x ∧ x < 9223372036854775808) : (x < 0 → IntKind.u64.wrap (-(IntKind.u64.wrap x)) = iabs x) ∧ (¬ x < 0 → IntKind.u64.wrap x = iabs x) := by
  unfold iabs
  constructor
  · intro hx
    rw [if_pos hx, u64_mod, u64_mod]
    omega
  · intro hx
    rw [if_neg hx, u64_id (by omega) (by omega)]
theorem fix_size_ok {x : Int} (h : -9223372036854775808 ≤ x ∧ x < 9223372036854775808) : fix_Size.f x = some (iabs x) := by
  unfold fix_Size.f
  by_cases c : x < 0
  · rw [if_pos c, (wrap_abs h).1 c]
  · rw [if_neg c, (wrap_abs h).2 c]
theorem ref_size_ok {x : Int} (h : -9223372036854775808 ≤ x ∧ x < 9223372036854775808) : ∃ l, regimenref02_Size.f x = some l ∧ dok l ∧ dv l = iabs x ∧ l.length = 4 := by
  obtain ⟨l, hl, p⟩ := word_ok (iabs x) (iabs_nonneg x) (by have := iabs_lt h; omega)
  refine ⟨l, ?_, p⟩
  unfold regimenref02_Size.f
  by_cases c : x < 0
  · rw [if_pos c, (wrap_abs h).1 c, hl]
    rfl
  · rw [if_neg c, (wrap_abs h).2 c, hl]
    rfl
theorem fix_signed_ok {u : Int} (neg : Bool) (h0 : 0 ≤ u) (h1 : u < 18446744073709551616) : Ev (fun k => fix_Signed.f k u neg) (sgn u neg) := by
  unfold fix_Signed.f sgn
  cases neg with
  | true =>
    refine evp rfl ?_
    rw [if_pos rfl]
    by_cases c : u ≤ 9223372036854775808
    · rw [if_pos c, decide_eq_true c]
      refine Ev.step (f := fun _ => some _) (fun k => ?_) (Ev.now _)
      rw [fix_Signed.j0, if_pos rfl]
      congr 2
      rw [u64_mod]
      unfold wrap64
      omega
    · rw [if_neg c, decide_eq_false c]
      refine Ev.step (f := fun _ => some _) (fun k => ?_) (Ev.now _)
      rw [fix_Signed.j0, if_neg (by simp), if_pos rfl]
  | false =>
    refine evn (by simp) ?_
    rw [if_neg (by simp)]
    by_cases c : u < 9223372036854775808
    · rw [if_pos c]
      refine Ev.step (f := fun _ => some _) (fun k => ?_) (Ev.now _)
      rw [fix_Signed.j0, if_neg (by simp), if_neg (by simp), if_pos c, w64_id (by omega) (by omega)]
    · rw [if_neg c]
      refine Ev.step (f := fun _ => some _) (fun k => ?_) (Ev.now _)
      rw [fix_Signed.j0, if_neg (by simp), if_neg (by simp), if_neg c]
theorem ref_signed_ok (a : List Int) (ha : dok a) (hl : a.length < 4294967296) (neg : Bool) : Ev (fun k => regimenref04_Signed.f k a neg) (sgn (dv a) neg) := by
  obtain ⟨t, ht, dt, vt, lt⟩ := twos_ok 63 (by omega)
  have vt : dv t = 9223372036854775808 := vt
  have lt : t.length ≤ 64 := lt
  have hc := cmp_ok a t ha dt hl (by omega)
  have hm := mod_ok a ha
  have h0 := dv_nonneg ha
  rw [vt] at hc
  unfold regimenref04_Signed.f
  refine Ev.bind ht ?_
  refine Ev.bind hc ?_
  by_cases c : dv a > 9223372036854775808
  · have e : sgn (dv a) neg = (0, 4) := by
      unfold sgn
      cases neg
      · rw [if_neg (by simp), if_neg (by omega)]
      · rw [if_pos rfl, if_neg (by omega)]
    rw [e]
    refine evp (by rw [if_neg (by omega), if_pos c]; omega) ?_
    refine Ev.step (f := fun _ => some _) (fun k => ?_) (Ev.now _)
    rw [regimenref04_Signed.j0, if_pos rfl]
  · have hmm : dv a % 18446744073709551616 = dv a := Int.emod_eq_of_lt h0 (by omega)
    rw [hmm] at hm
    have fin : ∀ b : Bool, (b = false → neg = true ∨ dv a < 9223372036854775808) → (b = true → neg = false ∧ dv a = 9223372036854775808) → Ev (fun k => regimenref04_Signed.j0 k a neg b) (sgn (dv a) neg) := by
      intro b hb1 hb2
      cases b with
      | true =>
        obtain ⟨g1, g2⟩ := hb2 rfl
        subst g1
        refine Ev.step (f := fun _ => some _) (fun k => ?_) (Ev.now _)
        rw [regimenref04_Signed.j0, if_pos rfl]
        unfold sgn
        rw [if_neg (by simp), if_neg (by omega)]
      | false =>
        refine Ev.step (fun k => by rw [regimenref04_Signed.j0]) ?_
        refine evn (by simp) ?_
        refine Ev.bind hm ?_
        cases neg with
        | true =>
          refine evp rfl ?_
          refine Ev.congr (fun k => ?_) (Ev.now _)
          unfold sgn
          rw [if_pos rfl, if_pos (by omega)]
          congr 2
          rw [u64_mod]
          unfold wrap64
          omega
        | false =>
          have := (hb1 rfl).resolve_left (by simp)
          refine evn (by simp) ?_
          refine Ev.congr (fun k => ?_) (Ev.now _)
          unfold sgn
          rw [if_neg (by simp), if_pos this, w64_id (by omega) (by omega)]
    by_cases c2 : dv a < 9223372036854775808
    · rw [if_pos c2]
      refine evn (by omega) ?_
      refine evn (by omega) ?_
      exact fin false (fun _ => .inr c2) (fun h => by cases h)
    · rw [if_neg c2, if_neg c]
      refine evn (by omega) ?_
      refine evp rfl ?_
      cases neg with
      | true => exact fin _ (fun _ => .inl rfl) (fun h => by cases h)
      | false => exact fin _ (fun h => by cases h) (fun _ => ⟨rfl, by omega⟩)
theorem fix_mul_ok {x y : Int} (hx : -9223372036854775808 ≤ x ∧ x < 9223372036854775808) (hy : -9223372036854775808 ≤ y ∧ y < 9223372036854775808) : Ev (fun k => fix_Mul.f k x y) (fmul x y) := by
  have ax := iabs_nonneg x
  have ay := iabs_nonneg y
  have bx := iabs_lt hx
  have by_ := iabs_lt hy
  have hp := mul_bd ax bx ay by_
  have hm := pair_mul_ok (x := iabs x) (y := iabs y) ax (by omega) ay (by omega)
  have hs := half_shift_ok (hi := iabs x * iabs y / 18446744073709551616) (lo := iabs x * iabs y % 18446744073709551616) 32 (by omega) (by omega)
  have e : iabs x * iabs y % 18446744073709551616 + 18446744073709551616 * (iabs x * iabs y / 18446744073709551616) = iabs x * iabs y := by omega
  rw [e, show (2 : Int) ^ min (32 : Int).toNat 63 = 4294967296 from rfl] at hs
  have hr := rnd_nonneg hp.1 (show (0 : Int) < 4294967296 by omega)
  unfold fix_Mul.f fmul
  refine evs (fix_size_ok hx) ?_
  refine evs (fix_size_ok hy) ?_
  refine evs hm ?_
  refine Ev.bind hs ?_
  unfold near
  rw [if_neg (by omega)]
  by_cases c : rnd (iabs x * iabs y) 4294967296 < 18446744073709551616
  · rw [if_pos c]
    refine evp rfl ?_
    exact Ev.bind (fix_signed_ok _ hr c) (Ev.now _)
  · rw [if_neg c, sgn_big _ (by omega)]
    exact evn (by simp) (Ev.now _)
theorem ref_mul_ok {x y : Int} (hx : -9223372036854775808 ≤ x ∧ x < 9223372036854775808) (hy : -9223372036854775808 ≤ y ∧ y < 9223372036854775808) : Ev (fun k => regimenref04_Mul.f k x y) (fmul x y) := by
  obtain ⟨a, ha, da, va, la⟩ := ref_size_ok hx
  obtain ⟨b, hb, db, vb, lb⟩ := ref_size_ok hy
  obtain ⟨c, hc, dc, vc, lc⟩ := times_ok a b da db (by omega) (by omega)
  obtain ⟨t, ht, dt, vt, lt⟩ := twos_ok 32 (by omega)
  have vt : dv t = 4294967296 := vt
  have lt : t.length ≤ 33 := lt
  obtain ⟨z, hz, dz, vz, lz⟩ := rounded_ok c t dc dt (by omega) (by omega) (by omega)
  have hs := ref_signed_ok z dz (by omega) (opp x y)
  rw [vz, vc, va, vb, vt] at hs
  unfold regimenref04_Mul.f fmul
  refine evs ha ?_
  refine evs hb ?_
  refine Ev.bind hc ?_
  refine Ev.bind ht ?_
  refine Ev.bind hz ?_
  exact Ev.bind hs (Ev.now _)
end Go.Proofs.Ytnmmhfpekeeedaa.Num
