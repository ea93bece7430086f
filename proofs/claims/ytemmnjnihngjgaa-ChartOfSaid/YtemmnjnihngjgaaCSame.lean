/- Lists that are the same, lists of all of a function's values, copies: by value. -/
import Derived.Test.YtemmnjnihngjgaaPCx0
import Derived.Test.YtemmnjnihngjgaaCApart
namespace Go.Proofs.Ytemmnjnihngjgaa.Num
set_option linter.unusedVariables false
set_option linter.unusedSimpArgs false
open Go.RowKit Go.Proofs.Ytemmnjnihngjgaa.PC Go.Proofs.YtemmnjnihngjgaaW.PrintWords Go.Proofs.YtemmnjnihngjgaaW.PrintMore

/-- The first n values of T. -/
def tab (T : Nat → Int) (n : Nat) : List Int := (List.range n).map T
theorem tab_length (T : Nat → Int) (n : Nat) : (tab T n).length = n := by simp [tab]
theorem tab_succ (T : Nat → Int) (n : Nat) : tab T (n + 1) = tab T n ++ [T n] := by simp [tab, List.range_succ]
theorem tab_at (T : Nat → Int) (n i : Nat) (h : i < n) : (tab T n).getD i 0 = T i := by
  rw [List.getD_eq_getElem?_getD]
  simp [tab, h]
theorem tab_of {a : List Int} {T : Nat → Int} {n : Nat} (hl : a.length = n) (h : ∀ i, i < n → a.getD i 0 = T i) : a = tab T n := by
  refine List.ext_getElem? (fun i => ?_)
  by_cases c : i < n
  · have := h i c
    rw [List.getD_eq_getElem?_getD, List.getElem?_eq_getElem (by omega)] at this
    rw [List.getElem?_eq_getElem (by omega)]
    simp only [Option.getD_some] at this
    rw [this]
    simp [tab, c]
  · rw [List.getElem?_eq_none (by omega), List.getElem?_eq_none (by rw [tab_length]; omega)]
theorem tab_self (l : List Int) : tab (fun i => l.getD i 0) l.length = l := (tab_of rfl (fun i _ => rfl)).symm
theorem getD_set_i (l : List Int) (i j : Nat) (v : Int) (hi : i < l.length) : (l.set i v).getD j 0 = if i = j then v else l.getD j 0 := by
  rw [List.getD_eq_getElem?_getD, List.getD_eq_getElem?_getD, List.getElem?_set]
  by_cases c : i = j
  · rw [if_pos c, if_pos c, if_pos (by omega)]
    rfl
  · rw [if_neg c, if_neg c]
def word' (x : Int) : Prop := -9223372036854775808 ≤ x ∧ x < 9223372036854775808
theorem getD_word' {l : List Int} (h : ∀ x, x ∈ l → word' x) (i : Nat) : word' (l.getD i 0) := by
  rw [List.getD_eq_getElem?_getD]
  cases c : l[i]? with
  | none => exact ⟨by simp, by simp⟩
  | some v => exact h v (List.mem_of_getElem? c)
end Go.Proofs.Ytemmnjnihngjgaa.Num
