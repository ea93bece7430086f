/- When rates are cut (layer 31): the program's and the reference's, by value. -/
import Derived.Test.YtmakhhgfidgfdaaPHx7
import Derived.Test.YtmakhhgfidgfdaaPHx10
import Derived.Test.YtmakhhgfidgfdaaHEarly
namespace Go.Proofs.Ytmakhhgfidgfdaa.Num
set_option linter.unusedVariables false
set_option linter.unusedSimpArgs false
open Go.RowKit Go.Proofs.Ytmakhhgfidgfdaa.PH Go.Proofs.YtmakhhgfidgfdaaW.PrintWords Go.Proofs.YtmakhhgfidgfdaaW.PrintMore

/-- A cut behind the watch w. -/
def ptk (w : Bool × Int × Int) (rest scale factor patience cooldown : Int) : Bool × Int × Int × Int × Int × Bool :=
  if rest > 0 then (w.1, w.2.1, 0, rest - 1, scale, false)
  else if outs w patience = true then (w.1, w.2.1, 0, cooldown, (fmul scale factor).1, true)
  else (w.1, w.2.1, w.2.2, rest, scale, false)
theorem plat_take_ok (h : Bool) (b q rest scale x : Int) (p0 : Bool) (s : ByteArray) (m : Bool) (factor patience cooldown p6 d : Int) (hb : word b) (hx : word x) (hd : word d) (hr : word rest) (hs : word scale) (hf : word factor) :
    Ev (fun k => plat_Take.f k h b q rest scale x p0 s m factor patience cooldown p6 d) (ptk (etk (h, b, q) x m d false) rest scale factor patience cooldown) := by
  have r0 := hr.1
  have r1 := hr.2
  unfold plat_Take.f
  refine Ev.bind (take_ok (h, b, q) m false hb hx hd) ?_
  generalize etk (h, b, q) x m d false = w
  unfold ptk
  by_cases c : rest > 0
  · refine evp c ?_
    rw [if_pos c, w64_id (by omega) (by omega)]
    exact Ev.now _
  · refine evn c ?_
    rw [if_neg c]
    refine evs (out_ok _ _ _ _) ?_
    by_cases o : outs w patience = true
    · refine evp o ?_
      rw [if_pos o]
      refine Ev.bind (fix_mul_ok hs hf) ?_
      exact Ev.now _
    · refine evn o ?_
      rw [if_neg o]
      exact Ev.now _
theorem ref_plat_take_ok (h : Bool) (b q rest scale x : Int) (p0 : Bool) (s : ByteArray) (m : Bool) (factor patience cooldown p6 d : Int) (hb : word b) (hq : word q) (hx : word x) (hd : word d) (hr : word rest) (hs : word scale) (hf : word factor) :
    Ev (fun k => regimenref31_Take.f k h b q rest scale x p0 s m factor patience cooldown p6 d) (ptk (etk (h, b, q) x m d false) rest scale factor patience cooldown) := by
  have r0 := hr.1
  have r1 := hr.2
  unfold regimenref31_Take.f
  refine Ev.bind (ref_take_ok (h, b, q) m false hb hq hx hd) ?_
  generalize etk (h, b, q) x m d false = w
  unfold ptk
  by_cases c : rest > 0
  · refine evp c ?_
    rw [if_pos c, w64_id (by omega) (by omega)]
    exact Ev.now _
  · refine evn c ?_
    rw [if_neg c]
    by_cases p1 : patience < 1
    · refine evp p1 ?_
      rw [if_neg (by unfold outs; rw [decide_eq_false (by omega)]; simp)]
      exact Ev.now _
    · refine evn p1 ?_
      by_cases p2 : w.2.2 < patience
      · refine evp p2 ?_
        rw [if_neg (by unfold outs; rw [decide_eq_false (by omega)]; simp)]
        exact Ev.now _
      · refine evn p2 ?_
        rw [if_pos (by unfold outs; rw [decide_eq_true (by omega)])]
        refine Ev.bind (ref_mul_ok hs hf) ?_
        exact Ev.now _
/-- May a cut be? -/
def cmay (h : Bool) (b q rest scale : Int) : Bool := decide (0 ≤ rest ∧ rest ≤ 1099511627776 ∧ 0 ≤ q ∧ q ≤ 1099511627776 ∧ 0 ≤ scale ∧ scale ≤ 4294967296 ∧ (h = true ∨ (b = 0 ∧ q = 0)))
theorem count_ok (n : Int) : plat_count.f n = some (decide (0 ≤ n ∧ n ≤ 1099511627776)) := by
  unfold plat_count.f
  by_cases c : n ≥ 0
  · rw [if_pos c]
    congr 1
    exact decide_eq_decide.2 ⟨fun h => ⟨c, h⟩, fun h => h.2⟩
  · rw [if_neg c, decide_eq_false (by omega)]
theorem check_ok (h : Bool) (b q rest scale : Int) : Ev (fun k => plat_Check.f k h b q rest scale) (cmay h b q rest scale) := by
  have j : h = true ∨ (b = 0 ∧ q = 0) → Ev (fun k => plat_Check.j0 k false h b q rest scale) (cmay h b q rest scale) := by
    intro hh
    refine Ev.step (fun k => by rw [plat_Check.j0]) ?_
    refine evn (by simp) ?_
    refine evs (count_ok rest) ?_
    unfold cmay
    by_cases c1 : 0 ≤ rest ∧ rest ≤ 1099511627776
    · refine evp (decide_eq_true c1) ?_
      refine evs (count_ok q) ?_
      by_cases c2 : 0 ≤ q ∧ q ≤ 1099511627776
      · refine evp (decide_eq_true c2) ?_
        by_cases c3 : scale ≥ 0
        · refine evp c3 ?_
          refine Ev.congr (fun _ => ?_) (Ev.now _)
          congr 1
          exact decide_eq_decide.2 ⟨fun e => ⟨c1.1, c1.2, c2.1, c2.2, c3, e, hh⟩, fun e => e.2.2.2.2.2.1⟩
        · refine evn c3 ?_
          rw [decide_eq_false (fun e => c3 e.2.2.2.2.1)]
          exact Ev.now _
      · refine evn (by rw [decide_eq_false c2]; simp) ?_
        rw [decide_eq_false (fun e => c2 ⟨e.2.2.1, e.2.2.2.1⟩)]
        exact Ev.now _
    · refine evn (by rw [decide_eq_false c1]; simp) ?_
      rw [decide_eq_false (fun e => c1 ⟨e.1, e.2.1⟩)]
      exact Ev.now _
  unfold plat_Check.f
  cases h
  · refine evn (by simp) ?_
    by_cases c : b = 0 ∧ q = 0
    · rw [show (false || (!(b == 0) || (!(q == 0)))) = false from by simp [c.1, c.2]]
      exact j (.inr c)
    · rw [show (false || (!(b == 0) || (!(q == 0)))) = true from by
        simp only [Bool.false_or, Bool.or_eq_true, Bool.not_eq_true', beq_eq_false_iff_ne]
        omega]
      refine Ev.step (fun k => by rw [plat_Check.j0]) ?_
      refine evp rfl ?_
      unfold cmay
      rw [decide_eq_false (fun e => by
        rcases e.2.2.2.2.2.2 with x | x
        · cases x
        · exact c x)]
      exact Ev.now _
  · refine evp rfl ?_
    exact j (.inl rfl)
/-- A rate. -/
def ratev (scale v fl : Int) : Int := if scale < 0 ∨ scale > 4294967296 then 0 else mx (fmul v scale).1 (mn v fl)
theorem rate_ok (h : Bool) (b q rest scale v fl : Int) (hv : word v) : Ev (fun k => plat_Rate.f k h b q rest scale v fl) (ratev scale v fl) := by
  unfold plat_Rate.f ratev
  by_cases c1 : scale < 0
  · refine evp c1 ?_
    rw [if_pos (.inl c1)]
    exact Ev.now _
  · refine evn c1 ?_
    by_cases c2 : scale > 4294967296
    · refine evp c2 ?_
      rw [if_pos (.inr c2)]
      exact Ev.now _
    · refine evn c2 ?_
      rw [if_neg (by omega)]
      refine Ev.bind (fix_mul_ok hv ⟨by omega, by omega⟩) ?_
      exact Ev.now _
end Go.Proofs.Ytmakhhgfidgfdaa.Num
