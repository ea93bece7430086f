/- Half a cosine's wave (layer 8): the program's and the reference's, by value. -/
import Derived.Test.YtjnpfbdmkakebaaPAx10
import Derived.Test.YtjnpfbdmkakebaaPAx11
import Derived.Test.YtjnpfbdmkakebaaPow
namespace Go.Proofs.Ytjnpfbdmkakebaa.Num
set_option linter.unusedVariables false
set_option linter.unusedSimpArgs false
open Go.RowKit Go.Proofs.Ytjnpfbdmkakebaa.PA Go.Proofs.YtjnpfbdmkakebaaW.PrintWords Go.Proofs.YtjnpfbdmkakebaaW.PrintMore

theorem w64_part {x : Int} (h : isPart x) : wrap64 x = x := w64_id (part_word h).1 (part_word h).2
def wvA (u : Int) : Int := 27198923 - pm u 2044063
def wvB (u : Int) : Int := 245884610 - pm u (wvA u)
def wvC (u : Int) : Int := 1372256329 - pm u (wvB u)
def wvD (u : Int) : Int := 4014944880 - pm u (wvC u)
def wvP (u : Int) : Int := 4294967296 - pm u (wvD u)
def low (t : Int) : Int := pm (4294967296 - 4 * pm t t) (wvP (pm t t))
/-- A product with a part of at most a quarter. -/
theorem pm_quarter {u y : Int} (h0 : 0 ≤ u) (h1 : u ≤ 1073741824) (hy : isPart y) : 0 ≤ pm u y ∧ pm u y ≤ y := by
  have hp := (pm_eq (x := y) (y := u) hy ⟨h0, by omega⟩)
  obtain ⟨v, a, b, c, _⟩ := fmul_part (part_word hy) (z := u) h0 (by omega)
  have hn : ¬ y < 0 := by have := hy.1; omega
  rw [if_neg hn] at c
  rw [show iabs y = y from if_neg hn] at b
  rw [pm_comm]
  unfold pm
  rw [c]
  exact ⟨a, b⟩
theorem wv_bounds {u : Int} (h0 : 0 ≤ u) (h1 : u ≤ 1073741824) : isPart (wvA u) ∧ isPart (wvB u) ∧ isPart (wvC u) ∧ isPart (wvD u) ∧ isPart (wvP u) := by
  have a := pm_quarter h0 h1 (y := 2044063) ⟨by omega, by omega⟩
  have a' : isPart (wvA u) ∧ wvA u ≤ 27198923 := by unfold wvA isPart; omega
  have b := pm_quarter h0 h1 a'.1
  have b' : isPart (wvB u) ∧ wvB u ≤ 245884610 := by unfold wvB isPart; omega
  have c := pm_quarter h0 h1 b'.1
  have c' : isPart (wvC u) ∧ wvC u ≤ 1372256329 := by unfold wvC isPart; omega
  have d := pm_quarter h0 h1 c'.1
  have d' : isPart (wvD u) ∧ wvD u ≤ 4014944880 := by unfold wvD isPart; omega
  have p := pm_quarter h0 h1 d'.1
  have p' : isPart (wvP u) := by unfold wvP isPart; omega
  exact ⟨a'.1, b'.1, c'.1, d'.1, p'⟩
theorem half_part {t : Int} (h0 : 0 ≤ t) (h1 : t ≤ 2147483648) : isPart t ∧ 0 ≤ pm t t ∧ pm t t ≤ 1073741824 := by
  have ht : isPart t := ⟨h0, by omega⟩
  have hh : isPart 2147483648 := ⟨by omega, by omega⟩
  have h := pm_mono ht hh ht hh h1 h1
  rw [show pm 2147483648 2147483648 = 1073741824 from by decide +kernel] at h
  exact ⟨ht, (pm_eq ht ht).2.1, h⟩
theorem low_part {t : Int} (h0 : 0 ≤ t) (h1 : t ≤ 2147483648) : isPart (low t) := by
  obtain ⟨ht, a, b⟩ := half_part h0 h1
  have w := wv_bounds a b
  exact (pm_eq (x := 4294967296 - 4 * pm t t) ⟨by omega, by omega⟩ w.2.2.2.2).2
theorem wave_tm {x y : Int} (hx : isPart x) (hy : isPart y) : Ev (fun k => wave_times.f k x y) (pm x y) := by
  unfold wave_times.f
  refine Ev.bind (fix_mul_ok (part_word hx) (part_word hy)) ?_
  exact Ev.now _
theorem poly_step {u s c i r : Int} (hu : isPart u) (hs : isPart s) (h0 : 0 ≤ i) (h1 : i < 6) (hc : rd ([2044063, 27198923, 245884610, 1372256329, 4014944880, 4294967296] : List Int) i = c) (hc2 : 0 ≤ c) (hc3 : c ≤ 4294967296) (hn : Ev (fun k => wave_poly.l0 k u (c - pm u s) (i + 1)) r) : Ev (fun k => wave_poly.l0 k u s i) r := by
  have hp := (pm_eq hu hs).2
  have hp0 := hp.1
  have hp1 := hp.2
  refine Ev.step (fun k => by rw [wave_poly.l0]) ?_
  refine evp h1 ?_
  refine evp h0 ?_
  refine Ev.bind (wave_tm hu hs) ?_
  rw [hc, w64_id (x := c - pm u s) (by omega) (by omega), w64_id (x := i + 1) (by omega) (by omega)]
  exact hn
theorem poly_ok {u : Int} (h0 : 0 ≤ u) (h1 : u ≤ 1073741824) : Ev (fun k => wave_poly.f k u) (wvP u) := by
  have hu : isPart u := ⟨h0, by omega⟩
  obtain ⟨a, b, c, d, p⟩ := wv_bounds h0 h1
  have z := pm_quarter h0 h1 (y := 0) ⟨by omega, by omega⟩
  have z0 : pm u 0 = 0 := by omega
  unfold wave_poly.f
  refine poly_step hu (c := 2044063) ⟨by omega, by omega⟩ (by omega) (by omega) rfl (by omega) (by omega) ?_
  rw [z0]
  refine poly_step hu (c := 27198923) ⟨by omega, by omega⟩ (by omega) (by omega) rfl (by omega) (by omega) ?_
  refine poly_step hu (c := 245884610) a (by omega) (by omega) rfl (by omega) (by omega) ?_
  refine poly_step hu (c := 1372256329) b (by omega) (by omega) rfl (by omega) (by omega) ?_
  refine poly_step hu (c := 4014944880) c (by omega) (by omega) rfl (by omega) (by omega) ?_
  refine poly_step hu (c := 4294967296) d (by omega) (by omega) rfl (by omega) (by omega) ?_
  refine Ev.step (fun k => by rw [wave_poly.l0]) ?_
  exact evn (by omega) (Ev.now _)
theorem cos_ok {t : Int} (h0 : 0 ≤ t) (h1 : t ≤ 2147483648) : Ev (fun k => wave_cos.f k t) (low t) := by
  obtain ⟨ht, a, b⟩ := half_part h0 h1
  have w := wv_bounds a b
  unfold wave_cos.f
  refine Ev.bind (wave_tm ht ht) ?_
  refine Ev.bind (poly_ok a b) ?_
  rw [w64_id (x := pm t t * 4) (by omega) (by omega), w64_id (x := 4294967296 - pm t t * 4) (by omega) (by omega), Int.mul_comm (pm t t) 4]
  refine Ev.bind (wave_tm (x := 4294967296 - 4 * pm t t) ⟨by omega, by omega⟩ w.2.2.2.2) ?_
  exact Ev.now _
def cosv (t : Int) : Int := if t > 2147483648 then -low (4294967296 - t) else low t
def sinv (t : Int) : Int := if t > 2147483648 then low (t - 2147483648) else low (2147483648 - t)
def wav (t : Int) : Int := if t > 2147483648 then 4294967296 - (4294967296 + low (4294967296 - t)) / 2 else (4294967296 + low t) / 2
theorem wmay_yes {x : Int} (hx : isPart x) : wave_may.f x = some true := by
  unfold wave_may.f
  rw [if_pos hx.1, decide_eq_true hx.2]
theorem wmay_no {x : Int} (hx : ¬ isPart x) : wave_may.f x = some false := by
  unfold wave_may.f isPart at *
  by_cases c : x ≥ 0
  · rw [if_pos c, decide_eq_false (by omega)]
  · rw [if_neg c]
theorem wave_Cos_ok {t : Int} (h : isPart t) : Ev (fun k => wave_Cos.f k t) (cosv t, 0) := by
  have h0 := h.1
  have h1 := h.2
  unfold wave_Cos.f
  refine evs (wmay_yes h) ?_
  refine evp rfl ?_
  by_cases c : t > 2147483648
  · rw [show cosv t = -low (4294967296 - t) from if_pos c]
    have l := low_part (t := 4294967296 - t) (by omega) (by omega)
    have l0 := l.1
    have l1 := l.2
    refine evp c ?_
    rw [w64_id (x := 4294967296 - t) (by omega) (by omega)]
    refine Ev.bind (cos_ok (by omega) (by omega)) ?_
    rw [w64_id (x := -low (4294967296 - t)) (by omega) (by omega)]
    exact Ev.now _
  · rw [show cosv t = low t from if_neg c]
    refine evn c ?_
    refine Ev.bind (cos_ok (by omega) (by omega)) ?_
    exact Ev.now _
theorem wave_Sin_ok {t : Int} (h : isPart t) : Ev (fun k => wave_Sin.f k t) (sinv t, 0) := by
  have h0 := h.1
  have h1 := h.2
  unfold wave_Sin.f
  refine evs (wmay_yes h) ?_
  refine evp rfl ?_
  by_cases c : t > 2147483648
  · rw [show sinv t = low (t - 2147483648) from if_pos c]
    refine evp c ?_
    rw [w64_id (x := t - 2147483648) (by omega) (by omega)]
    refine Ev.bind (cos_ok (by omega) (by omega)) ?_
    exact Ev.now _
  · rw [show sinv t = low (2147483648 - t) from if_neg c]
    refine evn c ?_
    rw [w64_id (x := 2147483648 - t) (by omega) (by omega)]
    refine Ev.bind (cos_ok (by omega) (by omega)) ?_
    exact Ev.now _
theorem wave_At_ok {t : Int} (h : isPart t) : Ev (fun k => wave_At.f k t) (wav t, 0) := by
  have h0 := h.1
  have h1 := h.2
  unfold wave_At.f
  refine Ev.bind (wave_Cos_ok h) ?_
  refine evp rfl ?_
  by_cases c : t > 2147483648
  · have l := low_part (t := 4294967296 - t) (by omega) (by omega)
    have l0 := l.1
    have l1 := l.2
    rw [show cosv t = -low (4294967296 - t) from if_pos c, show wav t = 4294967296 - (4294967296 + low (4294967296 - t)) / 2 from if_pos c]
    by_cases d : -low (4294967296 - t) < 0
    · refine evp d ?_
      rw [w64_id (x := 4294967296 - -low (4294967296 - t)) (by omega) (by omega), show (4294967296 : Int) - -low (4294967296 - t) = 4294967296 + low (4294967296 - t) from by omega, w64_id (by omega) (by omega)]
      exact Ev.now _
    · refine evn d ?_
      rw [w64_id (x := 4294967296 + -low (4294967296 - t)) (by omega) (by omega), show (4294967296 + -low (4294967296 - t)) / 2 = 4294967296 - (4294967296 + low (4294967296 - t)) / 2 from by omega]
      exact Ev.now _
  · have l := low_part (t := t) (by omega) (by omega)
    have l0 := l.1
    have l1 := l.2
    rw [show cosv t = low t from if_neg c, show wav t = (4294967296 + low t) / 2 from if_neg c]
    refine evn (by omega) ?_
    rw [w64_id (x := 4294967296 + low t) (by omega) (by omega)]
    exact Ev.now _
theorem ref_tm8 {x y : Int} (hx : isPart x) (hy : isPart y) : Ev (fun k => regimenref08_times.f k x y) (pm x y) := by
  unfold regimenref08_times.f
  refine Ev.bind (ref_mul_ok (part_word hx) (part_word hy)) ?_
  exact Ev.now _
theorem ref_low_ok {t : Int} (h0 : 0 ≤ t) (h1 : t ≤ 2147483648) : Ev (fun k => regimenref08_low.f k t) (low t) := by
  obtain ⟨ht, a, b⟩ := half_part h0 h1
  obtain ⟨wa, wb, wc, wd, wp⟩ := wv_bounds a b
  have hu : isPart (pm t t) := ⟨a, by omega⟩
  unfold regimenref08_low.f
  refine Ev.bind (ref_tm8 ht ht) ?_
  refine Ev.bind (ref_tm8 hu (y := 2044063) ⟨by omega, by omega⟩) ?_
  rw [show wrap64 (27198923 - pm (pm t t) 2044063) = wvA (pm t t) from w64_part wa]
  refine Ev.bind (ref_tm8 hu wa) ?_
  rw [show wrap64 (245884610 - pm (pm t t) (wvA (pm t t))) = wvB (pm t t) from w64_part wb]
  refine Ev.bind (ref_tm8 hu wb) ?_
  rw [show wrap64 (1372256329 - pm (pm t t) (wvB (pm t t))) = wvC (pm t t) from w64_part wc]
  refine Ev.bind (ref_tm8 hu wc) ?_
  rw [show wrap64 (4014944880 - pm (pm t t) (wvC (pm t t))) = wvD (pm t t) from w64_part wd]
  refine Ev.bind (ref_tm8 hu wd) ?_
  rw [show wrap64 (4294967296 - pm (pm t t) (wvD (pm t t))) = wvP (pm t t) from w64_part wp]
  rw [w64_id (x := 4 * pm t t) (by omega) (by omega), w64_id (x := 4294967296 - 4 * pm t t) (by omega) (by omega)]
  refine Ev.bind (ref_tm8 (x := 4294967296 - 4 * pm t t) ⟨by omega, by omega⟩ wp) ?_
  exact Ev.now _
theorem ref_Cos_ok {t : Int} (h : isPart t) : Ev (fun k => regimenref08_Cos.f k t) (cosv t) := by
  have h0 := h.1
  have h1 := h.2
  unfold regimenref08_Cos.f
  by_cases c : t > 2147483648
  · rw [show cosv t = -low (4294967296 - t) from if_pos c]
    have l := low_part (t := 4294967296 - t) (by omega) (by omega)
    have l0 := l.1
    have l1 := l.2
    refine evp c ?_
    rw [w64_id (x := 4294967296 - t) (by omega) (by omega)]
    refine Ev.bind (ref_low_ok (by omega) (by omega)) ?_
    rw [w64_id (x := -low (4294967296 - t)) (by omega) (by omega)]
    exact Ev.now _
  · rw [show cosv t = low t from if_neg c]
    refine evn c ?_
    refine Ev.bind (ref_low_ok (by omega) (by omega)) ?_
    exact Ev.now _
theorem ref_Sin_low {t : Int} (h0 : 0 ≤ t) (h1 : t ≤ 2147483648) : Ev (fun k => regimenref08_Sin.f k t) (low (2147483648 - t)) := by
  refine Ev.step (fun k => by rw [regimenref08_Sin.f]) ?_
  refine evn (by omega) ?_
  rw [w64_id (x := 2147483648 - t) (by omega) (by omega)]
  refine Ev.bind (ref_low_ok (by omega) (by omega)) ?_
  exact Ev.now _
theorem ref_Sin_ok {t : Int} (h : isPart t) : Ev (fun k => regimenref08_Sin.f k t) (sinv t) := by
  have h0 := h.1
  have h1 := h.2
  by_cases c : t > 2147483648
  · rw [show sinv t = low (t - 2147483648) from if_pos c]
    refine Ev.step (fun k => by rw [regimenref08_Sin.f]) ?_
    refine evp c ?_
    rw [w64_id (x := 4294967296 - t) (by omega) (by omega)]
    have e := ref_Sin_low (t := 4294967296 - t) (by omega) (by omega)
    rw [show 2147483648 - (4294967296 - t) = t - 2147483648 from by omega] at e
    refine Ev.bind e ?_
    exact Ev.now _
  · rw [show sinv t = low (2147483648 - t) from if_neg c]
    exact ref_Sin_low h0 (by omega)
theorem ref_At_low {t : Int} (h0 : 0 ≤ t) (h1 : t ≤ 2147483648) : Ev (fun k => regimenref08_At.f k t) ((4294967296 + low t) / 2) := by
  have l := low_part h0 h1
  have l0 := l.1
  have l1 := l.2
  refine Ev.step (fun k => by rw [regimenref08_At.f]) ?_
  refine evn (by omega) ?_
  refine Ev.bind (ref_low_ok h0 h1) ?_
  rw [w64_id (x := 4294967296 + low t) (by omega) (by omega), show Int.tdiv (4294967296 + low t) 2 = (4294967296 + low t) / 2 from Int.tdiv_eq_ediv_of_nonneg (by omega), w64_id (by omega) (by omega)]
  exact Ev.now _
theorem ref_At_ok {t : Int} (h : isPart t) : Ev (fun k => regimenref08_At.f k t) (wav t) := by
  have h0 := h.1
  have h1 := h.2
  by_cases c : t > 2147483648
  · rw [show wav t = 4294967296 - (4294967296 + low (4294967296 - t)) / 2 from if_pos c]
    have l := low_part (t := 4294967296 - t) (by omega) (by omega)
    have l0 := l.1
    have l1 := l.2
    refine Ev.step (fun k => by rw [regimenref08_At.f]) ?_
    refine evp c ?_
    rw [w64_id (x := 4294967296 - t) (by omega) (by omega)]
    refine Ev.bind (ref_At_low (by omega) (by omega)) ?_
    rw [w64_id (by omega) (by omega)]
    exact Ev.now _
  · rw [show wav t = (4294967296 + low t) / 2 from if_neg c]
    exact ref_At_low h0 (by omega)
end Go.Proofs.Ytjnpfbdmkakebaa.Num
