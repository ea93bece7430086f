/- No decimal up to 60 bytes that is read as a number has fewer digits behind its point than the number's own. -/
import Derived.Test.YtemmnjnihngjgaaPDx0
import Derived.Test.YtemmnjnihngjgaaPDx6
import Derived.Test.YtemmnjnihngjgaaPDx14
import Derived.Test.YtemmnjnihngjgaaDDecQ
namespace Go.Proofs.Ytemmnjnihngjgaa.Pure
set_option linter.unusedVariables false
open Go.RowKit Go.Proofs.Ytemmnjnihngjgaa.PD Go.Proofs.Ytemmnjnihngjgaa.Num Go.Proofs.YtemmnjnihngjgaaW.PrintWords Go.Proofs.YtemmnjnihngjgaaW.PrintLast Go.Proofs.YtemmnjnihngjgaaW.PrintMore

theorem awake05c : Ev (fun k => regimenlaw05_awake.f k) true := Ev.of (fun k => regimenlaw05_awake.mono k) (k := 80) (by decide +kernel)
theorem sgn_back {u : Int} {b : Bool} (h0 : 0 ≤ u) (h : (sgn u b).2 = 0) : iabs (sgn u b).1 = u ∧ -9223372036854775808 ≤ (sgn u b).1 ∧ (sgn u b).1 < 9223372036854775808 := by
  unfold sgn at *
  cases b
  · rw [if_neg (by simp)] at *
    by_cases c : u < 9223372036854775808
    · rw [if_pos c]
      refine ⟨if_neg (by show ¬ u < 0; omega), by show _ ≤ u; omega, c⟩
    · rw [if_neg c] at h
      exact absurd h (by decide)
  · rw [if_pos rfl] at *
    by_cases c : u ≤ 9223372036854775808
    · rw [if_pos c]
      refine ⟨?_, by show _ ≤ -u; omega, by show -u < _; omega⟩
      show iabs (-u) = u
      unfold iabs
      split <;> omega
    · rw [if_neg c] at h
      exact absurd h (by decide)
theorem DecShort : regimenlaw05_DecShort.Pure := by
  intro s hs
  refine Ev.rounds (r := true) ?_
  unfold regimenlaw05_DecShort.f
  by_cases c : (s.size : Int) > 60
  · exact evp c (Ev.bind awake05c (Ev.now _))
  · refine evn c ?_
    refine Ev.bind (dec_get_ok s (by omega)) ?_
    by_cases d : (decv (numsOf s)).2 = 0
    · refine evp d ?_
      have hv : valid (body (numsOf s)) := by
        rcases Classical.em (valid (body (numsOf s))) with q | q
        · exact q
        · unfold decv at d
          rw [if_neg q] at d
          exact absurd d (by decide)
      have hl : ¬ (frac (body (numsOf s))).length > 19 := by
        intro q
        unfold decv at d
        rw [if_pos hv, if_pos q] at d
        exact absurd d (by decide)
      have h2 : (sgn (mag (body (numsOf s))) (isneg (numsOf s))).2 = 0 := by
        rcases Classical.em ((sgn (mag (body (numsOf s))) (isneg (numsOf s))).2 = 0) with q | q
        · exact q
        · unfold decv at d
          rw [if_pos hv, if_neg hl, if_neg q] at d
          exact absurd d (by decide)
      have hx1 : (decv (numsOf s)).1 = (sgn (mag (body (numsOf s))) (isneg (numsOf s))).1 := by
        unfold decv
        rw [if_pos hv, if_neg hl, if_pos h2]
      obtain ⟨hA, hF, hn⟩ := valid_dig hv
      have bA := valf_bd hA
      have bF := valf_bd hF
      have eq := mag_eq hv
      have hr := mag_frac hv
      have hab := sgn_back (by omega) h2
      rw [← hx1] at hab
      generalize (decv (numsOf s)).1 = x at *
      obtain ⟨m, hf⟩ := fewest_ex (f := iabs x % 4294967296)
      obtain ⟨hb, hlen⟩ := putl_byte x m hab.2
      have h10 := hf.1
      have pl := places_ok (strOfNums (putl x m)) (by rw [strOfNums_size]; omega)
      rw [hb, (putl_back hab.2 hf).2, if_neg (by omega)] at pl
      have le : m ≤ (frac (body (numsOf s))).length := by
        by_cases z : iabs x % 4294967296 = 0
        · have := (fewest_zero (f := iabs x % 4294967296) (by omega) (by omega) hf).2 z
          omega
        · refine fewest_le hf ?_
          refine short (F := valf 0 (frac (body (numsOf s)))) (ten_pos _) ?_
          omega
      have rp := ref_places_ok s (by omega)
      unfold plv at rp
      rw [if_pos hv] at rp
      refine Ev.bind (dec_put_ok hab.2 hf) ?_
      refine Ev.bind pl ?_
      refine Ev.bind rp ?_
      refine evp (by omega) ?_
      exact Ev.bind awake05c (Ev.now _)
    · refine evn d ?_
      exact Ev.bind awake05c (Ev.now _)
end Go.Proofs.Ytemmnjnihngjgaa.Pure
