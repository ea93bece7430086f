/- Texts within quotes (layer 11): the reference's, and what is put is got. -/
import Derived.Test.YtnmmhfpekeeedaaPSx0
import Derived.Test.YtnmmhfpekeeedaaPSx7
import Derived.Test.YtnmmhfpekeeedaaPSx8
import Derived.Test.YtnmmhfpekeeedaaSQuoteV
namespace Go.Proofs.Ytnmmhfpekeeedaa.Num
set_option linter.unusedVariables false
set_option linter.unusedSimpArgs false
open Go.RowKit Go.Proofs.Ytnmmhfpekeeedaa.PS Go.Proofs.YtnmmhfpekeeedaaW.PrintWords Go.Proofs.YtnmmhfpekeeedaaW.PrintMore

theorem rdigit_ok {c : Int} (h0 : 0 ≤ c) (h1 : c < 256) : Ev (fun k => regimenref11_digit.f k c) (dg c) := by
  have no : ¬ (48 ≤ c ∧ c ≤ 57) → Ev (fun k => regimenref11_digit.j0 k c false) (dg c) := by
    intro h
    refine Ev.step (fun k => by rw [regimenref11_digit.j0]) ?_
    refine evn (by simp) ?_
    by_cases c1 : c ≥ 97
    · refine evp c1 ?_
      by_cases c2 : c ≤ 102
      · refine evp c2 ?_
        rw [w64_id (x := c) (by omega) (by omega), w64_id (x := c - 87) (by omega) (by omega), show dg c = c - 87 from by unfold dg; rw [if_neg h, if_pos ⟨c1, c2⟩]]
        exact Ev.now _
      · refine evn c2 ?_
        rw [show dg c = -1 from by unfold dg; rw [if_neg h, if_neg (fun q => c2 q.2)]]
        exact Ev.now _
    · refine evn c1 ?_
      rw [show dg c = -1 from by unfold dg; rw [if_neg h, if_neg (fun q => c1 q.1)]]
      exact Ev.now _
  unfold regimenref11_digit.f
  by_cases c1 : c ≥ 48
  · refine evp c1 ?_
    by_cases c2 : c ≤ 57
    · rw [decide_eq_true c2]
      refine Ev.step (fun k => by rw [regimenref11_digit.j0]) ?_
      refine evp rfl ?_
      rw [w64_id (x := c) (by omega) (by omega), w64_id (x := c - 48) (by omega) (by omega), show dg c = c - 48 from by unfold dg; rw [if_pos ⟨c1, c2⟩]]
      exact Ev.now _
    · rw [decide_eq_false c2]
      exact no (fun q => c2 q.2)
  · refine evn c1 ?_
    exact no (fun q => c1 q.1)
theorem ref_one (s : ByteArray) (hs : s.size < 1000000) (p : Nat) (a : List Int) (R : ByteArray × Int) (h : p < (numsOf s).length) (q : (numsOf s).getD p 0 ≠ 34) (ha : a.length ≤ p)
    (bad : (oneP (numsOf s) p).2 = 0 → R = ((⟨#[]⟩ : ByteArray), 0))
    (good : (oneP (numsOf s) p).2 ≠ 0 → Ev (fun k => regimenref11_Read.l0 k s (a ++ [(oneP (numsOf s) p).1]) ((p + (oneP (numsOf s) p).2 : Nat) : Int)) R) : Ev (fun k => regimenref11_Read.j2 k s a (p : Int) true) R := by
  have hl := nums_len s
  have w1 : wrap64 ((p : Int) + 1) = ((p + 1 : Nat) : Int) := w64_succ (by omega)
  have w2 : wrap64 ((p : Int) + 2) = ((p + 2 : Nat) : Int) := by rw [w64_id (by omega) (by omega)]; omega
  have w3 : wrap64 ((p : Int) + 3) = ((p + 3 : Nat) : Int) := by rw [w64_id (by omega) (by omega)]; omega
  have w4 : wrap64 ((p : Int) + 4) = ((p + 4 : Nat) : Int) := by rw [w64_id (by omega) (by omega)]; omega
  have e0 : oneP (numsOf s) p = oneP (numsOf s) p := rfl
  conv at e0 => rhs; unfold oneP
  have j5n : oneP (numsOf s) p = (0, 0) → Ev (fun k => regimenref11_Read.j5 k s a (p : Int) false) R := by
    intro e
    rw [bad (by rw [e])]
    refine Ev.step (fun k => by rw [regimenref11_Read.j5]) ?_
    exact evn (by simp) (Ev.now _)
  refine Ev.step (fun k => by rw [regimenref11_Read.j2]) ?_
  refine evp rfl ?_
  refine evp (by omega) ?_
  refine evp (by omega) ?_
  rw [bt_nums]
  by_cases x92 : (numsOf s).getD p 0 = 92
  · have np : ¬ plainP ((numsOf s).getD p 0) := fun z => z.2.2.2 x92
    rw [if_neg np] at e0
    refine evp x92 ?_
    rw [w1]
    have j4n : (¬ (p + 3 < (numsOf s).length) → oneP (numsOf s) p = (0, 0)) → (p + 3 < (numsOf s).length → (numsOf s).getD (p + 1) 0 = 120 → 0 ≤ dg ((numsOf s).getD (p + 2) 0) → 0 ≤ dg ((numsOf s).getD (p + 3) 0) → oneP (numsOf s) p = (16 * dg ((numsOf s).getD (p + 2) 0) + dg ((numsOf s).getD (p + 3) 0), 4)) →
        (p + 3 < (numsOf s).length → ¬ ((numsOf s).getD (p + 1) 0 = 120 ∧ 0 ≤ dg ((numsOf s).getD (p + 2) 0) ∧ 0 ≤ dg ((numsOf s).getD (p + 3) 0)) → oneP (numsOf s) p = (0, 0)) → Ev (fun k => regimenref11_Read.j4 k s a (p : Int) false) R := by
      intro hshort hgood hbad
      have d2 := byte_at s (p + 2)
      have d3 := byte_at s (p + 3)
      have r2 := dg_range ((numsOf s).getD (p + 2) 0)
      have r3 := dg_range ((numsOf s).getD (p + 3) 0)
      refine Ev.step (fun k => by rw [regimenref11_Read.j4]) ?_
      refine evn (by simp) ?_
      rw [w1, w2, w3]
      by_cases c3 : p + 3 < (numsOf s).length
      · refine evp (by omega) ?_
        refine evp (by omega) ?_
        refine evp (by omega) ?_
        rw [bt_nums, bt_nums, bt_nums]
        by_cases c6 : (numsOf s).getD (p + 1) 0 = 120
        · refine evp c6 ?_
          refine evp (by omega) ?_
          refine evp (by omega) ?_
          refine Ev.bind (rdigit_ok d2.1 d2.2) ?_
          by_cases c7 : dg ((numsOf s).getD (p + 2) 0) ≥ 0
          · refine evp c7 ?_
            refine evp (by omega) ?_
            refine Ev.bind (rdigit_ok d3.1 d3.2) ?_
            by_cases c8 : dg ((numsOf s).getD (p + 3) 0) ≥ 0
            · have e := hgood c3 c6 c7 c8
              have g := good (by rw [e]; simp)
              rw [e] at g
              rw [decide_eq_true c8]
              refine Ev.step (fun k => by rw [regimenref11_Read.j5]) ?_
              refine evp rfl ?_
              rw [w2, w3, w4]
              refine evp (by omega) ?_
              refine evp (by omega) ?_
              rw [bt_nums, bt_nums]
              refine Ev.bind (rdigit_ok d2.1 d2.2) ?_
              refine evp (by omega) ?_
              refine evp (by omega) ?_
              refine Ev.bind (rdigit_ok d3.1 d3.2) ?_
              refine evp (by omega) ?_
              rw [w64_id (x := 16 * dg ((numsOf s).getD (p + 2) 0)) (by omega) (by omega), w64_id (x := 16 * dg ((numsOf s).getD (p + 2) 0) + dg ((numsOf s).getD (p + 3) 0)) (by omega) (by omega), show (16 * dg ((numsOf s).getD (p + 2) 0) + dg ((numsOf s).getD (p + 3) 0)) % 256 = 16 * dg ((numsOf s).getD (p + 2) 0) + dg ((numsOf s).getD (p + 3) 0) from by omega]
              exact g
            · rw [decide_eq_false c8]
              exact j5n (hbad c3 (fun z => c8 z.2.2))
          · refine evn c7 ?_
            exact j5n (hbad c3 (fun z => c7 z.2.1))
        · refine evn c6 ?_
          exact j5n (hbad c3 (fun z => c6 z.1))
      · refine evn (by omega) ?_
        exact j5n (hshort c3)
    by_cases c2 : p + 1 < (numsOf s).length
    · rw [if_pos ⟨x92, c2⟩] at e0
      refine evp (by omega) ?_
      refine evp (by omega) ?_
      rw [bt_nums]
      have j3y : (numsOf s).getD (p + 1) 0 = 34 ∨ (numsOf s).getD (p + 1) 0 = 92 → Ev (fun k => regimenref11_Read.j3 k s a (p : Int) true) R := by
        intro c
        rw [if_pos c] at e0
        have g := good (by rw [e0]; simp)
        rw [e0] at g
        refine Ev.step (fun k => by rw [regimenref11_Read.j3]) ?_
        refine evp rfl ?_
        rw [w1, w2]
        refine evp (by omega) ?_
        refine evp (by omega) ?_
        refine evp (by omega) ?_
        rw [bt_nums]
        exact g
      by_cases c3 : (numsOf s).getD (p + 1) 0 = 34
      · exact evp c3 (j3y (.inl c3))
      · refine evn c3 ?_
        by_cases c4 : (numsOf s).getD (p + 1) 0 = 92
        · rw [show ((numsOf s).getD (p + 1) 0 == 92) = true from by rw [beq_iff_eq]; exact c4]
          exact j3y (.inr c4)
        · rw [show ((numsOf s).getD (p + 1) 0 == 92) = false from by rw [beq_eq_false_iff_ne]; exact c4]
          rw [if_neg (fun z => z.elim c3 c4)] at e0
          refine Ev.step (fun k => by rw [regimenref11_Read.j3]) ?_
          refine evn (by simp) ?_
          rw [w1]
          refine evp (by omega) ?_
          refine evp (by omega) ?_
          rw [bt_nums]
          by_cases c5 : (numsOf s).getD (p + 1) 0 = 110
          · rw [if_pos c5] at e0
            have g := good (by rw [e0]; simp)
            rw [e0] at g
            rw [show ((numsOf s).getD (p + 1) 0 == 110) = true from by rw [beq_iff_eq]; exact c5]
            refine Ev.step (fun k => by rw [regimenref11_Read.j4]) ?_
            refine evp rfl ?_
            rw [w2]
            refine evp (by omega) ?_
            exact g
          · rw [if_neg c5] at e0
            rw [show ((numsOf s).getD (p + 1) 0 == 110) = false from by rw [beq_eq_false_iff_ne]; exact c5]
            refine j4n (fun z => ?_) (fun z z1 z2 z3 => ?_) (fun z z1 => ?_)
            · rw [e0, if_neg (fun y => z y.2.1)]
            · rw [e0, if_pos ⟨z1, z, z2, z3⟩]
            · rw [e0, if_neg (fun y => z1 ⟨y.1, y.2.2⟩)]
    · rw [if_neg (fun z => c2 z.2)] at e0
      refine evn (by omega) ?_
      refine Ev.step (fun k => by rw [regimenref11_Read.j3]) ?_
      refine evn (by simp) ?_
      rw [w1]
      refine evn (by omega) ?_
      refine j4n (fun _ => e0) (fun z _ _ _ => absurd (show p + 1 < (numsOf s).length by omega) c2) (fun _ _ => e0)
  · refine evn x92 ?_
    by_cases c1 : (numsOf s).getD p 0 < 32
    · rw [if_neg (fun z => by have := z.1; omega), if_neg (fun z => x92 z.1)] at e0
      rw [bad (by rw [e0])]
      exact evp c1 (Ev.now _)
    · refine evn c1 ?_
      by_cases c2 : (numsOf s).getD p 0 > 126
      · rw [if_neg (fun z => by have := z.2.1; omega), if_neg (fun z => x92 z.1)] at e0
        rw [bad (by rw [e0])]
        exact evp c2 (Ev.now _)
      · refine evn c2 ?_
        rw [if_pos ⟨by omega, by omega, q, x92⟩] at e0
        have g := good (by rw [e0]; simp)
        rw [e0] at g
        refine evp (by omega) ?_
        rw [w1]
        exact g
theorem ref_read_loop (s : ByteArray) (hs : s.size < 1000000) {p : Nat} {a : List Int} {R : ByteArray × Int} (h : RV (numsOf s) p a R) : a.length ≤ p → p ≤ s.size → Ev (fun k => regimenref11_Read.l0 k s a (p : Int)) R := by
  have hl := nums_len s
  induction h with
  | out p a h =>
    intro ha hp2
    refine Ev.step (fun k => by rw [regimenref11_Read.l0]) ?_
    refine evn (by omega) ?_
    refine Ev.step (fun k => by rw [regimenref11_Read.j2]) ?_
    refine evn (by simp) ?_
    exact evp (by omega) (Ev.now _)
  | quote p a h q =>
    intro ha hp2
    refine Ev.step (fun k => by rw [regimenref11_Read.l0]) ?_
    refine evp (by omega) ?_
    refine evp (by omega) ?_
    rw [bt_nums, show ((numsOf s).getD p 0 != 34) = false from by rw [bne_eq_false_iff_eq]; exact q]
    refine Ev.step (fun k => by rw [regimenref11_Read.j2]) ?_
    refine evn (by simp) ?_
    rw [w64_succ (by omega)]
    exact evn (by omega) (Ev.now _)
  | bad p a h q z =>
    intro ha hp2
    refine Ev.step (fun k => by rw [regimenref11_Read.l0]) ?_
    refine evp (by omega) ?_
    refine evp (by omega) ?_
    rw [bt_nums, show ((numsOf s).getD p 0 != 34) = true from by rw [bne_iff_ne]; exact q]
    exact ref_one s hs p a _ h q ha (fun _ => rfl) (fun y => absurd z y)
  | step p a R h q z n ih =>
    intro ha hp2
    have ol := oneP_le (numsOf s) p h
    refine Ev.step (fun k => by rw [regimenref11_Read.l0]) ?_
    refine evp (by omega) ?_
    refine evp (by omega) ?_
    rw [bt_nums, show ((numsOf s).getD p 0 != 34) = true from by rw [bne_iff_ne]; exact q]
    exact ref_one s hs p a _ h q ha (fun y => absurd y z) (fun _ => ih (by simp only [List.length_append, List.length_cons, List.length_nil]; omega) (by omega))
theorem ref_read_ok (s : ByteArray) (hs : s.size < 1000000) {R : ByteArray × Int} (h : ReadV (numsOf s) R) : Ev (fun k => regimenref11_Read.f k s) R := by
  have hl := nums_len s
  unfold ReadV at h
  have no : ¬ ((numsOf s).getD 0 0 = 34 ∧ 0 < (numsOf s).length) → Ev (fun k => regimenref11_Read.j0 k s true) R := by
    intro q
    rw [if_neg q] at h
    rw [h]
    refine Ev.step (fun k => by rw [regimenref11_Read.j0]) ?_
    exact evp rfl (Ev.now _)
  unfold regimenref11_Read.f
  by_cases c1 : (s.size : Int) = 0
  · exact evp c1 (no (fun q => by omega))
  · refine evn c1 ?_
    refine evp (by omega) ?_
    rw [bt0]
    by_cases c2 : (numsOf s).getD 0 0 = 34
    · rw [show ((numsOf s).getD 0 0 != 34) = false from by rw [bne_eq_false_iff_eq]; exact c2]
      rw [if_pos ⟨c2, by omega⟩] at h
      refine Ev.step (fun k => by rw [regimenref11_Read.j0]) ?_
      refine evn (by simp) ?_
      exact ref_read_loop (p := 1) s hs h (by simp) (by omega)
    · rw [show ((numsOf s).getD 0 0 != 34) = true from by rw [bne_iff_ne]; exact c2]
      exact no (fun q => c2 q.1)
end Go.Proofs.Ytnmmhfpekeeedaa.Num
