/- Any sum and difference of fixed-point numbers, if there is one, and any whole number, are as the reference has them: for every two numbers. -/
import Derived.Test.YtjnpfbdmkakebaaPAx8
import Derived.Test.YtjnpfbdmkakebaaPAx9
import Derived.Test.YtjnpfbdmkakebaaPAx16
import Derived.Test.YtjnpfbdmkakebaaFix
namespace Go.Proofs.Ytjnpfbdmkakebaa.Pure
set_option linter.unusedVariables false
open Go.RowKit Go.Proofs.Ytjnpfbdmkakebaa.PA Go.Proofs.Ytjnpfbdmkakebaa.Num Go.Proofs.YtjnpfbdmkakebaaW.PrintWords Go.Proofs.YtjnpfbdmkakebaaW.PrintLast

theorem awake04c : Ev (fun k => regimenlaw04_awake.f k) true := Ev.of (fun k => regimenlaw04_awake.mono k) (k := 80) (by decide +kernel)

theorem sums_j1 {x : Int} (hx : -9223372036854775808 ≤ x ∧ x < 9223372036854775808) : Ev (fun k => regimenlaw04_FixSums.j1 k x) true := by
  refine Ev.step (fun k => by rw [regimenlaw04_FixSums.j1]) ?_
  have hof : fix_Of.f x = some (if x < -2147483648 ∨ x ≥ 2147483648 then (0, 4) else (x * 4294967296, 0)) := by
    unfold fix_Of.f
    by_cases c : x < -2147483648 ∨ x ≥ 2147483648
    · rw [if_pos c, if_neg (by unfold wrap64; omega)]
    · rw [if_neg c, w64_id (by omega) (by omega), if_pos (by omega)]
  refine evs hof ?_
  have tail : ∀ b : Bool, b = decide (x < -2147483648 ∨ x ≥ 2147483648) → Ev (fun k => regimenlaw04_FixSums.j2 k x (if x < -2147483648 ∨ x ≥ 2147483648 then ((0 : Int), (4 : Int)) else (x * 4294967296, 0)).1 (if x < -2147483648 ∨ x ≥ 2147483648 then ((0 : Int), (4 : Int)) else (x * 4294967296, 0)).2 b) true := by
    intro b hb
    refine Ev.step (fun k => by rw [regimenlaw04_FixSums.j2]) ?_
    by_cases c : x < -2147483648 ∨ x ≥ 2147483648
    · rw [if_pos c]
      refine evp (by rw [hb, decide_eq_true c]) ?_
      refine evp rfl ?_
      refine evp rfl ?_
      exact Ev.bind awake04c (Ev.now _)
    · rw [if_neg c]
      refine evn (by rw [hb, decide_eq_false c]; simp) ?_
      refine evp (by rw [w64_id (by omega) (by omega)]) ?_
      refine evp rfl ?_
      exact Ev.bind awake04c (Ev.now _)
  by_cases c : x < (-2147483648)
  · exact evp c (tail true (by rw [decide_eq_true (.inl c)]))
  · refine evn c (tail _ ?_)
    by_cases d : x ≥ 2147483648
    · rw [decide_eq_true d, decide_eq_true (.inr d)]
    · rw [decide_eq_false d, decide_eq_false (by omega)]

theorem ref_add_ok {x y : Int} (hx : -9223372036854775808 ≤ x ∧ x < 9223372036854775808) (hy : -9223372036854775808 ≤ y ∧ y < 9223372036854775808) : Ev (fun k => regimenref04_Add.f k x y) (fadd x y) := by
  obtain ⟨a, ha, da, va, la⟩ := ref_size_ok hx
  obtain ⟨b, hb, db, vb, lb⟩ := ref_size_ok hy
  obtain ⟨s, hs, ds, vs, ls⟩ := plus_ok a b da db 4 (by omega) (by omega) (by omega)
  have hg := ref_signed_ok s ds (by omega) (decide (x < 0))
  rw [vs, va, vb] at hg
  unfold regimenref04_Add.f
  by_cases c : x < 0
  · by_cases d : y < 0
    · refine evp (by simp [c, d]) ?_
      refine evs ha ?_
      refine evs hb ?_
      refine Ev.bind hs ?_
      refine Ev.bind hg ?_
      refine Ev.congr (fun k => ?_) (Ev.now _)
      unfold sgn fadd iabs
      rw [decide_eq_true c, if_pos rfl, if_pos c, if_pos d]
      split
      · rw [if_pos (by omega)]
        congr 2
        omega
      · rw [if_neg (by omega)]
    · refine evn (by simp [c, d]) ?_
      refine Ev.congr (fun k => ?_) (Ev.now _)
      unfold fadd
      rw [if_pos (by omega), w64_id (by omega) (by omega)]
  · by_cases d : y < 0
    · refine evn (by simp [c, d]) ?_
      refine Ev.congr (fun k => ?_) (Ev.now _)
      unfold fadd
      rw [if_pos (by omega), w64_id (by omega) (by omega)]
    · refine evp (by simp [c, d]) ?_
      refine evs ha ?_
      refine evs hb ?_
      refine Ev.bind hs ?_
      refine Ev.bind hg ?_
      refine Ev.congr (fun k => ?_) (Ev.now _)
      unfold sgn fadd iabs
      rw [decide_eq_false c, if_neg (show ¬ (false = true) by simp), if_neg c, if_neg d]
      split
      · rw [if_pos (by omega)]
      · rw [if_neg (by omega)]

theorem FixSums : regimenlaw04_FixSums.Pure := by
  intro x y hx hy
  have hx := i64_wf hx
  have hy := i64_wf hy
  refine Ev.rounds (r := true) ?_
  unfold regimenlaw04_FixSums.f
  refine evs (fix_add_ok hx hy) ?_
  refine Ev.bind (ref_add_ok hx hy) ?_
  refine evp rfl ?_
  rw [show ((fadd x y).2 != (fadd x y).2) = false by simp]
  refine Ev.step (fun k => by rw [regimenlaw04_FixSums.j0]) ?_
  refine evn (by simp) ?_
  refine evs (fix_sub_ok hx hy) ?_
  have hs0 : (x < 0 ↔ y < 0) → fsub x y = (wrap64 (x - y), 0) := by
    intro h
    unfold fsub
    rw [if_pos (by omega), w64_id (by omega) (by omega)]
  by_cases c : x < 0
  · by_cases d : y < 0
    · rw [hs0 (by omega)]
      refine evp (by simp [c, d]) ?_
      refine evp rfl ?_
      refine evp rfl ?_
      exact sums_j1 hx
    · obtain ⟨a, ha, da, va, la⟩ := ref_size_ok hx
      obtain ⟨b, hb, db, vb, lb⟩ := ref_size_ok hy
      obtain ⟨s, hs, ds, vs, ls⟩ := plus_ok a b da db 4 (by omega) (by omega) (by omega)
      have hg := ref_signed_ok s ds (by omega) (decide (x < 0))
      rw [vs, va, vb] at hg
      have e : fsub x y = sgn (iabs x + iabs y) (decide (x < 0)) := by
        unfold sgn fsub iabs
        rw [decide_eq_true c, if_pos rfl, if_pos c, if_neg d]
        split
        · rw [if_pos (by omega)]
          congr 1
          omega
        · rw [if_neg (by omega)]
      rw [e]
      refine evn (by simp [c, d]) ?_
      refine evs ha ?_
      refine evs hb ?_
      refine Ev.bind hs ?_
      refine Ev.bind hg ?_
      refine evp rfl ?_
      refine evp rfl ?_
      exact sums_j1 hx
  · by_cases d : y < 0
    · obtain ⟨a, ha, da, va, la⟩ := ref_size_ok hx
      obtain ⟨b, hb, db, vb, lb⟩ := ref_size_ok hy
      obtain ⟨s, hs, ds, vs, ls⟩ := plus_ok a b da db 4 (by omega) (by omega) (by omega)
      have hg := ref_signed_ok s ds (by omega) (decide (x < 0))
      rw [vs, va, vb] at hg
      have e : fsub x y = sgn (iabs x + iabs y) (decide (x < 0)) := by
        unfold sgn fsub iabs
        rw [decide_eq_false c, if_neg (show ¬ (false = true) by simp), if_neg c, if_pos d]
        split
        · rw [if_pos (by omega)]
          congr 1
        · rw [if_neg (by omega)]
      rw [e]
      refine evn (by simp [c, d]) ?_
      refine evs ha ?_
      refine evs hb ?_
      refine Ev.bind hs ?_
      refine Ev.bind hg ?_
      refine evp rfl ?_
      refine evp rfl ?_
      exact sums_j1 hx
    · rw [hs0 (by omega)]
      refine evp (by simp [c, d]) ?_
      refine evp rfl ?_
      refine evp rfl ?_
      exact sums_j1 hx
end Go.Proofs.Ytjnpfbdmkakebaa.Pure
