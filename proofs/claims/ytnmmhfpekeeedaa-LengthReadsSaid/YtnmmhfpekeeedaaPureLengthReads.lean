/- Which length is next in any tokens, or the fault: for all tokens. -/
import Derived.Test.YtnmmhfpekeeedaaPRx0
import Derived.Test.YtnmmhfpekeeedaaPRx9
import Derived.Test.YtnmmhfpekeeedaaPRx11
import Derived.Test.YtnmmhfpekeeedaaPRx15
import Derived.Test.YtnmmhfpekeeedaaRLengthR
namespace Go.Proofs.Ytnmmhfpekeeedaa.Pure
set_option linter.unusedVariables false
open Go.RowKit Go.Proofs.Ytnmmhfpekeeedaa.PR Go.Proofs.Ytnmmhfpekeeedaa.Num Go.Proofs.YtnmmhfpekeeedaaW.PrintWords Go.Proofs.YtnmmhfpekeeedaaW.PrintMore

theorem awake14r : Ev (fun k => regimenlaw14_awake.f k) true := Ev.of (fun k => regimenlaw14_awake.mono k) (k := 200) (by decide +kernel)
theorem reads_end (L : List S34) (hL : L.length ≤ 60) (hs : ∀ i : Nat, i < L.length → (rd_T34 L (i : Int)).f1.size ≤ 100) (x : Int) (hx : ¬ x < (L.length : Int)) : Ev (fun k => regimenlaw14_LengthReads.l0 k L x) true := by
  have h0 : (⟨0, 0, 0, 0⟩ : Cu).I ≤ L.length := Nat.zero_le _
  have hp : (peekC L ⟨0, 0, 0, 0⟩).2.1.size < 1000000 := by
    unfold peekC
    rw [if_pos rfl]
    by_cases c : 0 < L.length
    · rw [if_pos c]
      have := hs 0 c
      show (rd_T34 L ((0 : Nat) : Int)).f1.size < _
      omega
    · rw [if_neg c]
      show (⟨#[]⟩ : ByteArray).size < _
      decide
  have R := read_ok14 L ⟨0, 0, 0, 0⟩ h0 hp
  have Q := ref_read14 L (by omega) ⟨0, 0, 0, 0⟩ h0 hp
  have le := readC_le (L := L) (c := ⟨0, 0, 0, 0⟩) h0
  have ok := readC_ok (L := L) (c := ⟨0, 0, 0, 0⟩) (fun _ => ⟨rfl, rfl⟩)
  generalize readC L ⟨0, 0, 0, 0⟩ = D at *
  refine Ev.step (fun k => by rw [regimenlaw14_LengthReads.l0]) ?_
  refine evn hx ?_
  refine evs (show cursor_New.f L = some (true, L, 0, 0, 0, 0, 0) from rfl) ?_
  refine Ev.bind R ?_
  refine Ev.bind Q ?_
  refine evs (cur_fault L D.1) ?_
  refine evp (by simp) ?_
  have e1 : (if D.1.b = 0 then 0 else D.1.p) = D.1.p := by
    by_cases z : D.1.b = 0
    · rw [if_pos z]
      exact (ok z).1.symm
    · rw [if_neg z]
  have e2 : (if D.1.b = 0 then 0 else D.1.q) = D.1.q := by
    by_cases z : D.1.b = 0
    · rw [if_pos z]
      exact (ok z).2.symm
    · rw [if_neg z]
  refine evp (by dsimp only [rtC]; rw [e1, e2]; simp) ?_
  refine evp rfl ?_
  refine evs (cur_peek L D.1 le) ?_
  refine evs (ref_peek13 L (by omega) D.1 le) ?_
  refine evp (by simp) ?_
  exact Ev.bind awake14r (Ev.now _)
theorem reads_loop (L : List S34) (hL : L.length ≤ 60) (e : Nat) : ∀ i : Nat, i + e = L.length → (∀ j : Nat, j < i → (rd_T34 L (j : Int)).f1.size ≤ 100) → Ev (fun k => regimenlaw14_LengthReads.l0 k L (i : Int)) true := by
  induction e with
  | zero =>
    intro i h hs
    exact reads_end L hL (fun j hj => hs j (by omega)) _ (by omega)
  | succ e ih =>
    intro i h hs
    have nx := ih (i + 1) (by omega)
    refine Ev.step (fun k => by rw [regimenlaw14_LengthReads.l0]) ?_
    refine evp (by omega) ?_
    refine evp (by omega) ?_
    by_cases c : (((rd_T34 L (i : Int)).f1).size : Int) > 100
    · exact evp c (Ev.bind awake14r (Ev.now _))
    · refine evn c ?_
      rw [w64_succ (by omega)]
      refine nx (fun j hj => ?_)
      by_cases q : j = i
      · subst q
        omega
      · exact hs j (by omega)
theorem LengthReads : regimenlaw14_LengthReads.Pure := by
  intro L hl
  refine Ev.rounds (r := true) ?_
  unfold regimenlaw14_LengthReads.f
  by_cases c : (L.length : Int) > 60
  · exact evp c (Ev.bind awake14r (Ev.now _))
  · exact evn c (reads_loop L (by omega) L.length 0 (by omega) (fun j hj => absurd hj (Nat.not_lt_zero j)))
end Go.Proofs.Ytnmmhfpekeeedaa.Pure
