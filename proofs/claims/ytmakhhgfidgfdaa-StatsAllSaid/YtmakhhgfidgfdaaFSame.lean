/- Lists that are the same, lists of all of a function's values, copies: by value. -/
import Derived.Test.YtmakhhgfidgfdaaPFx3
import Derived.Test.YtmakhhgfidgfdaaPFx10
import Derived.Test.YtmakhhgfidgfdaaFApart
namespace Go.Proofs.Ytmakhhgfidgfdaa.Num
set_option linter.unusedVariables false
set_option linter.unusedSimpArgs false
open Go.RowKit Go.Proofs.Ytmakhhgfidgfdaa.PF Go.Proofs.YtmakhhgfidgfdaaW.PrintWords Go.Proofs.YtmakhhgfidgfdaaW.PrintMore

theorem same1_l0 (l : List Int) (m : Nat) : ∀ {i : Nat}, i + m = l.length → l.length ≤ 1000000 → Ev (fun k => regimenref01_Same.l0 k l l (i : Int)) true := by
  induction m with
  | zero =>
    intro i h hl
    refine Ev.step (fun k => by rw [regimenref01_Same.l0]) ?_
    exact evn (by omega) (Ev.now _)
  | succ m ih =>
    intro i h hl
    refine Ev.step (fun k => by rw [regimenref01_Same.l0]) ?_
    refine evp (by omega) ?_
    refine evp (by omega) ?_
    refine evp (by omega) ?_
    refine evp rfl ?_
    rw [w64_succ (by omega)]
    exact ih (by omega) hl
theorem same1_ok (l : List Int) (hl : l.length ≤ 1000000) : Ev (fun k => regimenref01_Same.f k l l) true := by
  unfold regimenref01_Same.f
  refine evp rfl ?_
  exact same1_l0 l l.length (i := 0) (by omega) hl
/-- The first n values of T. -/
def tab (T : Nat → Int) (n : Nat) : List Int := (List.range n).map T
theorem tab_length (T : Nat → Int) (n : Nat) : (tab T n).length = n := by simp [tab]
theorem tab_succ (T : Nat → Int) (n : Nat) : tab T (n + 1) = tab T n ++ [T n] := by simp [tab, List.range_succ]
theorem tab_at (T : Nat → Int) (n i : Nat) (h : i < n) : (tab T n).getD i 0 = T i := by
  rw [List.getD_eq_getElem?_getD]
  simp [tab, h]
theorem tab_of {a : List Int} {T : Nat → Int} {n : Nat} (hl : a.length = n) (h : ∀ i, i < n → a.getD i 0 = T i) : a = tab T n := by
  refine List.ext_getElem? (fun i => ?_)
  by_cases c : i < n
  · have := h i c
    rw [List.getD_eq_getElem?_getD, List.getElem?_eq_getElem (by omega)] at this
    rw [List.getElem?_eq_getElem (by omega)]
    simp only [Option.getD_some] at this
    rw [this]
    simp [tab, c]
  · rw [List.getElem?_eq_none (by omega), List.getElem?_eq_none (by rw [tab_length]; omega)]
theorem tab_self (l : List Int) : tab (fun i => l.getD i 0) l.length = l := (tab_of rfl (fun i _ => rfl)).symm
theorem getD_set_i (l : List Int) (i j : Nat) (v : Int) (hi : i < l.length) : (l.set i v).getD j 0 = if i = j then v else l.getD j 0 := by
  rw [List.getD_eq_getElem?_getD, List.getD_eq_getElem?_getD, List.getElem?_set]
  by_cases c : i = j
  · rw [if_pos c, if_pos c, if_pos (by omega)]
    rfl
  · rw [if_neg c, if_neg c]
def word' (x : Int) : Prop := -9223372036854775808 ≤ x ∧ x < 9223372036854775808
theorem getD_word' {l : List Int} (h : ∀ x, x ∈ l → word' x) (i : Nat) : word' (l.getD i 0) := by
  rw [List.getD_eq_getElem?_getD]
  cases c : l[i]? with
  | none => exact ⟨by simp, by simp⟩
  | some v => exact h v (List.mem_of_getElem? c)
theorem within_ok {x a b : Int} (h : (a ≤ x ∧ x ≤ b) ∨ (b ≤ x ∧ x ≤ a)) : lerp_Within.f x a b = some true := by
  unfold lerp_Within.f mn mx
  rw [if_pos (by split <;> omega)]
  congr 1
  exact decide_eq_true (by split <;> omega)
end Go.Proofs.Ytmakhhgfidgfdaa.Num
