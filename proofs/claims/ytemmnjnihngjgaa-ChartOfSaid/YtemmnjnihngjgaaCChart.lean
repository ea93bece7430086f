/- Bars (layer 50): how much of a bar is filled, and the bar, the program's and the reference's, by value. -/
import Derived.Test.YtemmnjnihngjgaaPCx1
import Derived.Test.YtemmnjnihngjgaaPCx3
import Derived.Test.YtemmnjnihngjgaaPCx6
import Derived.Test.YtemmnjnihngjgaaCApart
namespace Go.Proofs.Ytemmnjnihngjgaa.Num
set_option linter.unusedVariables false
set_option linter.unusedSimpArgs false
open Go.RowKit Go.Proofs.Ytemmnjnihngjgaa.PC Go.Proofs.YtemmnjnihngjgaaW.PrintWords Go.Proofs.YtemmnjnihngjgaaW.PrintMore

def clampv (x lo hi : Int) : Int := if x < lo then lo else if x > hi then hi else x
def fillv (x lo hi w : Int) : Int := rnd ((clampv x lo hi - lo) * w) (hi - lo)
theorem clampv_in {x lo hi : Int} (h : lo < hi) : lo ≤ clampv x lo hi ∧ clampv x lo hi ≤ hi := by
  unfold clampv
  split
  · omega
  · split <;> omega
theorem clampv_mono {x y lo hi : Int} (h : lo < hi) (hxy : x ≤ y) : clampv x lo hi ≤ clampv y lo hi := by
  unfold clampv
  repeat' split
  all_goals omega
theorem fillv_in {x lo hi w : Int} (h : lo < hi) (hw : 0 ≤ w) : 0 ≤ fillv x lo hi w ∧ fillv x lo hi w ≤ w := by
  have hc := clampv_in (x := x) h
  unfold fillv
  refine ⟨rnd_nonneg (Int.mul_nonneg (by omega) hw) (by omega), rnd_le (by omega) ?_⟩
  rw [Int.mul_comm w]
  exact Int.mul_le_mul_of_nonneg_right (by omega) hw
theorem fillv_mono {x y lo hi w : Int} (h : lo < hi) (hw : 0 ≤ w) (hxy : x ≤ y) : fillv x lo hi w ≤ fillv y lo hi w :=
  rnd_mono (by omega) (Int.mul_le_mul_of_nonneg_right (by have := clampv_mono h hxy; omega) hw)
theorem fillv_lo {lo hi w : Int} (h : lo < hi) : fillv lo lo hi w = 0 := by
  unfold fillv clampv
  rw [if_neg (by omega), if_neg (by omega), Int.sub_self, Int.zero_mul]
  have := rnd_exact 0 (d := hi - lo) (by omega)
  rwa [Int.zero_mul] at this
theorem fillv_hi {lo hi w : Int} (h : lo < hi) : fillv hi lo hi w = w := by
  unfold fillv clampv
  rw [if_neg (by omega), if_neg (by omega), Int.mul_comm]
  exact rnd_exact w (by omega)

def may (w : Int) : Prop := 1 ≤ w ∧ w ≤ 200
theorem clamp_ok (x lo hi : Int) : fix_Clamp.f x lo hi = some (clampv x lo hi) := by
  unfold fix_Clamp.f clampv
  split
  · rfl
  · split <;> rfl
theorem may_ok (w : Int) : chart_may.f w = some (decide (1 ≤ w ∧ w ≤ 200)) := by
  unfold chart_may.f
  by_cases c : w ≥ 1
  · rw [if_pos c]
    congr 1
    exact decide_eq_decide.2 (by omega)
  · rw [if_neg c, decide_eq_false (by omega)]
theorem fill_ok {x lo hi w : Int} (hx : -9223372036854775808 ≤ x ∧ x < 9223372036854775808) (hl : -9223372036854775808 ≤ lo ∧ lo < 9223372036854775808) (hh : -9223372036854775808 ≤ hi ∧ hi < 9223372036854775808) (hw : may w) (h : lo < hi) :
    Ev (fun k => chart_Fill.f k x lo hi w) (fillv x lo hi w, 0) := by
  have hw1 := hw.1
  have hw2 := hw.2
  have hc := clampv_in (x := x) h
  have hf := fillv_in (x := x) h (w := w) (by omega)
  unfold chart_Fill.f
  refine evn (by omega) ?_
  refine evs (may_ok w) ?_
  rw [decide_eq_true (show 1 ≤ w ∧ w ≤ 200 from hw)]
  refine Ev.step (fun k => by rw [chart_Fill.j0]) ?_
  refine evn (by simp) ?_
  refine evs (clamp_ok x lo hi) ?_
  have e1 : IntKind.u64.wrap (IntKind.u64.wrap (clampv x lo hi) - IntKind.u64.wrap lo) = clampv x lo hi - lo := by
    rw [u64_mod, u64_mod, u64_mod]
    omega
  have e2 : IntKind.u64.wrap (IntKind.u64.wrap hi - IntKind.u64.wrap lo) = hi - lo := by
    rw [u64_mod, u64_mod, u64_mod]
    omega
  rw [e1, e2, u64_id (x := w) (by omega) (by omega)]
  refine evs (pair_mul_ok (by omega) (by omega) (by omega) (by omega)) ?_
  have hp := mul_bd (x := clampv x lo hi - lo) (y := w) (M := 18446744073709551615) (N := 200) (by omega) (by omega) (by omega) (by omega)
  have hn := half_near_ok (hi := (clampv x lo hi - lo) * w / 18446744073709551616) (lo := (clampv x lo hi - lo) * w % 18446744073709551616) (d := hi - lo) (by omega) (by omega) (by omega) (by omega) (by omega) (by omega)
  have e : (clampv x lo hi - lo) * w % 18446744073709551616 + 18446744073709551616 * ((clampv x lo hi - lo) * w / 18446744073709551616) = (clampv x lo hi - lo) * w := by omega
  rw [e] at hn
  unfold near at hn
  unfold fillv at hf
  rw [if_neg (by omega), if_pos (by omega)] at hn
  refine Ev.bind hn ?_
  dsimp only
  rw [w64_id (by omega) (by omega)]
  exact Ev.now _
theorem fill_bad {x lo hi w : Int} (h : lo ≥ hi ∨ ¬ may w) : Ev (fun k => chart_Fill.f k x lo hi w) (0, 1) := by
  have fin : Ev (fun k => chart_Fill.j0 k x lo hi w true) (0, 1) := by
    refine Ev.step (fun k => by rw [chart_Fill.j0]) ?_
    exact evp rfl (Ev.now _)
  unfold chart_Fill.f
  by_cases c : lo ≥ hi
  · exact evp c fin
  · refine evn c ?_
    refine evs (may_ok w) ?_
    rw [decide_eq_false (show ¬ (1 ≤ w ∧ w ≤ 200) from by rcases h with h | h; (exact absurd h c); exact h)]
    exact fin

def barv (n w : Int) : ByteArray := ⟨(List.replicate n.toNat (35 : UInt8) ++ List.replicate (w.toNat - n.toNat) 46).toArray⟩
theorem rep_ok (b : UInt8) {n : Int} (h0 : 0 ≤ n) (h1 : n ≤ 200) : strings_Repeat.f ⟨#[b]⟩ n = some ⟨(List.replicate n.toNat b).toArray⟩ := by
  unfold strings_Repeat.f
  rw [if_pos ⟨h0, by omega, by show 1 * n.toNat ≤ _; omega⟩]
  have := Lib.repeatL_replicate b 1 n.toNat
  rw [Nat.mul_one] at this
  rw [← this]
  rfl
theorem ba_app (a b : List UInt8) : (⟨a.toArray⟩ : ByteArray) ++ (⟨b.toArray⟩ : ByteArray) = ⟨(a ++ b).toArray⟩ := by
  apply ByteArray.ext
  show (_ ++ _ : ByteArray).data = _
  simp
theorem ba_size (a : List UInt8) : (⟨a.toArray⟩ : ByteArray).size = a.length := by
  show (a.toArray).size = _
  simp
theorem bar_ok {n w : Int} (h0 : 0 ≤ n) (h1 : n ≤ w) (hw : w ≤ 200) : chart_bar.f n w = some (barv n w) := by
  unfold chart_bar.f
  rw [rep_ok 35 h0 (by omega), Option.bind_some, w64_id (by omega) (by omega), rep_ok 46 (by omega) (by omega), Option.bind_some, ba_size, ba_size, List.length_replicate, List.length_replicate, if_pos (by omega), ba_app]
  unfold barv
  rw [show (w - n).toNat = w.toNat - n.toNat from by omega]
theorem ref_bar_l0 {n w : Int} (hn : 0 ≤ n) (hw : w ≤ 200) (m : Nat) : ∀ {i : Nat} {s : ByteArray}, i + m = w.toNat → s = ⟨(List.replicate (min i n.toNat) (35 : UInt8) ++ List.replicate (i - n.toNat) 46).toArray⟩ → n ≤ w →
    Ev (fun k => regimenref50_Bar.l0 k n w s (i : Int)) (barv n w) := by
  induction m with
  | zero =>
    intro i s hi hs hnw
    refine Ev.step (fun k => by rw [regimenref50_Bar.l0]) ?_
    refine evn (by omega) ?_
    have : s = barv n w := by
      rw [hs]
      unfold barv
      rw [show min i n.toNat = n.toNat from by omega, show i = w.toNat from by omega]
    rw [this]
    exact Ev.now _
  | succ m ih =>
    intro i s hi hs hnw
    have hsz : s.size = i := by
      rw [hs, ba_size]
      simp
      omega
    refine Ev.step (fun k => by rw [regimenref50_Bar.l0]) ?_
    refine evp (by omega) ?_
    by_cases c : (i : Int) < n
    · refine evp c ?_
      refine evp (by omega) ?_
      rw [w64_succ (by omega)]
      refine ih (by omega) ?_ hnw
      rw [hs, show (⟨#[35]⟩ : ByteArray) = ⟨[(35 : UInt8)].toArray⟩ from rfl, ba_app, show min i n.toNat = i from by omega, show min (i + 1) n.toNat = i + 1 from by omega, show i - n.toNat = 0 from by omega, show i + 1 - n.toNat = 0 from by omega, List.replicate_succ']
      simp
    · refine evn c ?_
      refine evp (by omega) ?_
      rw [w64_succ (by omega)]
      refine ih (by omega) ?_ hnw
      rw [hs, show (⟨#[46]⟩ : ByteArray) = ⟨[(46 : UInt8)].toArray⟩ from rfl, ba_app, show min i n.toNat = n.toNat from by omega, show min (i + 1) n.toNat = n.toNat from by omega, show i + 1 - n.toNat = (i - n.toNat) + 1 from by omega, List.replicate_succ' (n := i - n.toNat)]
      simp
theorem ref_bar_ok {n w : Int} (hn : 0 ≤ n) (hnw : n ≤ w) (hw : w ≤ 200) : Ev (fun k => regimenref50_Bar.f k n w) (barv n w) := by
  unfold regimenref50_Bar.f
  refine ref_bar_l0 hn hw w.toNat (i := 0) (by omega) ?_ hnw
  simp
theorem barfn_ok {x lo hi w : Int} (hx : -9223372036854775808 ≤ x ∧ x < 9223372036854775808) (hl : -9223372036854775808 ≤ lo ∧ lo < 9223372036854775808) (hh : -9223372036854775808 ≤ hi ∧ hi < 9223372036854775808) (hw : may w) (h : lo < hi) :
    Ev (fun k => chart_Bar.f k x lo hi w) (barv (fillv x lo hi w) w, 0) := by
  have hw1 := hw.1
  have hw2 := hw.2
  have hf := fillv_in (x := x) h (w := w) (by omega)
  unfold chart_Bar.f
  refine Ev.bind (fill_ok hx hl hh hw h) ?_
  refine evp rfl ?_
  exact evs (bar_ok hf.1 hf.2 (by omega)) (Ev.now _)
theorem barfn_bad {x lo hi w : Int} (h : lo ≥ hi ∨ ¬ may w) : Ev (fun k => chart_Bar.f k x lo hi w) ((⟨#[]⟩ : ByteArray), 1) := by
  unfold chart_Bar.f
  refine Ev.bind (fill_bad h) ?_
  exact evn (by decide) (Ev.now _)
theorem ref_fill_ok {x lo hi w : Int} (hx : -9223372036854775808 ≤ x ∧ x < 9223372036854775808) (hl : -9223372036854775808 ≤ lo ∧ lo < 9223372036854775808) (hh : -9223372036854775808 ≤ hi ∧ hi < 9223372036854775808) (hw : may w) (h : lo < hi) :
    Ev (fun k => regimenref50_Fill.f k x lo hi w) (fillv x lo hi w) := by
  have hw1 := hw.1
  have hw2 := hw.2
  have hc := clampv_in (x := x) h
  have hf := fillv_in (x := x) h (w := w) (by omega)
  have core : Ev (fun k => regimenref50_Fill.j1 k (clampv x lo hi) lo hi w) (fillv x lo hi w) := by
    obtain ⟨a, ha, da, va, la⟩ := ref_apart_ok (a := clampv x lo hi) (b := lo) (by omega) hl
    obtain ⟨s, hs, ds, vs, ls⟩ := ref_size_ok (x := w) (by omega)
    obtain ⟨p, hp, dp, vp, lp⟩ := times_ok a s da ds (by omega) (by omega)
    obtain ⟨d, hd, dd, vd, ld⟩ := ref_apart_ok (a := hi) (b := lo) hh hl
    rw [show iabs (hi - lo) = hi - lo from by unfold iabs; rw [if_neg (by omega)]] at vd
    rw [show iabs (clampv x lo hi - lo) = clampv x lo hi - lo from by unfold iabs; rw [if_neg (by omega)]] at va
    rw [show iabs w = w from by unfold iabs; rw [if_neg (by omega)]] at vs
    obtain ⟨z, hz, dz, vz, lz⟩ := rounded_ok p d dp dd (by omega) (by omega) (by omega)
    have hm := mod_ok z dz
    rw [vz, vp, va, vs, vd] at hm
    refine Ev.step (fun k => by rw [regimenref50_Fill.j1]) ?_
    refine Ev.bind ha ?_
    refine evs hs ?_
    refine Ev.bind hp ?_
    refine Ev.bind hd ?_
    refine Ev.bind hz ?_
    refine Ev.bind hm ?_
    dsimp only
    have e : rnd ((clampv x lo hi - lo) * w) (hi - lo) = fillv x lo hi w := rfl
    rw [e, w64_id (by omega) (by omega), show fillv x lo hi w % 18446744073709551616 = fillv x lo hi w from by omega]
    exact Ev.now _
  unfold regimenref50_Fill.f
  have j0 : ∀ y : Int, (y > hi → clampv x lo hi = hi) → (¬ y > hi → clampv x lo hi = y) → Ev (fun k => regimenref50_Fill.j0 k y lo hi w) (fillv x lo hi w) := by
    intro y h1 h2
    refine Ev.step (fun k => by rw [regimenref50_Fill.j0]) ?_
    by_cases c : y > hi
    · refine evp c ?_
      have := h1 c
      rw [this] at core
      exact core
    · refine evn c ?_
      have := h2 c
      rw [this] at core
      exact core
  by_cases c : x < lo
  · refine evp c (j0 lo (by omega) (fun _ => ?_))
    unfold clampv
    rw [if_pos c]
  · refine evn c (j0 x (fun h2 => ?_) (fun h2 => ?_))
    · unfold clampv
      rw [if_neg c, if_pos h2]
    · unfold clampv
      rw [if_neg c, if_neg h2]
end Go.Proofs.Ytemmnjnihngjgaa.Num
