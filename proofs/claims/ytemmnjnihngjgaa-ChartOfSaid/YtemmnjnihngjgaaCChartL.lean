/- Charts (layer 50): the bars of any numbers between their least and their greatest: by value. -/
import Derived.Test.YtemmnjnihngjgaaPCx3
import Derived.Test.YtemmnjnihngjgaaPCx7
import Derived.Test.YtemmnjnihngjgaaCChart
import Derived.Test.YtemmnjnihngjgaaCSame
namespace Go.Proofs.Ytemmnjnihngjgaa.Num
set_option linter.unusedVariables false
set_option linter.unusedSimpArgs false
open Go.RowKit Go.Proofs.Ytemmnjnihngjgaa.PC Go.Proofs.YtemmnjnihngjgaaW.PrintWords Go.Proofs.YtemmnjnihngjgaaW.PrintMore

/-- The least and the greatest of a list's first numbers (of none: the first number). -/
def mnu (l : List Int) : Nat → Int
  | 0 => l.getD 0 0
  | i + 1 => if l.getD i 0 < mnu l i then l.getD i 0 else mnu l i
def mxu (l : List Int) : Nat → Int
  | 0 => l.getD 0 0
  | i + 1 => if l.getD i 0 > mxu l i then l.getD i 0 else mxu l i
theorem mnu_word {l : List Int} (h : ∀ x, x ∈ l → word' x) (i : Nat) : word' (mnu l i) := by
  induction i with
  | zero => exact getD_word' h 0
  | succ i ih =>
    unfold mnu
    split
    · exact getD_word' h i
    · exact ih
theorem mxu_word {l : List Int} (h : ∀ x, x ∈ l → word' x) (i : Nat) : word' (mxu l i) := by
  induction i with
  | zero => exact getD_word' h 0
  | succ i ih =>
    unfold mxu
    split
    · exact getD_word' h i
    · exact ih
theorem mnu_one (l : List Int) : mnu l 1 = l.getD 0 0 := by
  unfold mnu mnu
  exact if_neg (by omega)
theorem mxu_one (l : List Int) : mxu l 1 = l.getD 0 0 := by
  unfold mxu mxu
  exact if_neg (by omega)
theorem min_l0 (l : List Int) (m : Nat) : ∀ {i : Nat}, i + m = l.length → l.length ≤ 1000000 → Ev (fun k => slices_Min_int_int.l0 k l (mnu l i) (i : Int)) (mnu l l.length) := by
  induction m with
  | zero =>
    intro i h hl
    refine Ev.step (fun k => by rw [slices_Min_int_int.l0]) ?_
    refine evn (by omega) ?_
    rw [show i = l.length from by omega]
    exact Ev.now _
  | succ m ih =>
    intro i h hl
    refine Ev.step (fun k => by rw [slices_Min_int_int.l0]) ?_
    refine evp (by omega) ?_
    refine evp (by omega) ?_
    rw [w64_succ (by omega), rd_nat]
    have := ih (i := i + 1) (by omega) hl
    unfold mn
    simp only [mnu] at this
    exact this
theorem max_l0 (l : List Int) (m : Nat) : ∀ {i : Nat}, i + m = l.length → l.length ≤ 1000000 → Ev (fun k => slices_Max_int_int.l0 k l (mxu l i) (i : Int)) (mxu l l.length) := by
  induction m with
  | zero =>
    intro i h hl
    refine Ev.step (fun k => by rw [slices_Max_int_int.l0]) ?_
    refine evn (by omega) ?_
    rw [show i = l.length from by omega]
    exact Ev.now _
  | succ m ih =>
    intro i h hl
    refine Ev.step (fun k => by rw [slices_Max_int_int.l0]) ?_
    refine evp (by omega) ?_
    refine evp (by omega) ?_
    rw [w64_succ (by omega), rd_nat]
    have := ih (i := i + 1) (by omega) hl
    unfold mx
    simp only [mxu] at this
    exact this
theorem rd_zero (l : List Int) : rd l 0 = l.getD 0 0 := rd_nat l 0
theorem min_ok (l : List Int) (h0 : 0 < l.length) (hl : l.length ≤ 1000000) : Ev (fun k => slices_Min_int_int.f k l) (mnu l l.length) := by
  unfold slices_Min_int_int.f
  refine evn (by omega) ?_
  refine evp (by omega) ?_
  have := min_l0 l (l.length - 1) (i := 1) (by omega) hl
  rw [mnu_one] at this
  rw [rd_zero]
  exact this
theorem max_ok (l : List Int) (h0 : 0 < l.length) (hl : l.length ≤ 1000000) : Ev (fun k => slices_Max_int_int.f k l) (mxu l l.length) := by
  unfold slices_Max_int_int.f
  refine evn (by omega) ?_
  refine evp (by omega) ?_
  have := max_l0 l (l.length - 1) (i := 1) (by omega) hl
  rw [mxu_one] at this
  rw [rd_zero]
  exact this
/-- The bar of one number of a list. -/
def cbar (l : List Int) (w : Int) (i : Nat) : ByteArray := barv (if mnu l l.length < mxu l l.length then fillv (l.getD i 0) (mnu l l.length) (mxu l l.length) w else 0) w
def cbars (l : List Int) (w : Int) (i : Nat) : List ByteArray := (List.range i).map (cbar l w)
theorem cbars_succ (l : List Int) (w : Int) (i : Nat) : cbars l w (i + 1) = cbars l w i ++ [cbar l w i] := by
  simp [cbars, List.range_succ]
theorem cbars_len (l : List Int) (w : Int) (i : Nat) : (cbars l w i).length = i := by simp [cbars]
theorem of_l0 {l : List Int} {w : Int} (hl : l.length ≤ 60) (hx : ∀ x, x ∈ l → word' x) (hw : may w) (m : Nat) : ∀ {i : Nat}, i + m = l.length →
    Ev (fun k => chart_Of.l0 k l w (cbars l w i) l (l.length : Int) (i : Int)) (cbars l w l.length, 0) := by
  have hw1 := hw.1
  have hw2 := hw.2
  induction m with
  | zero =>
    intro i h
    refine Ev.step (fun k => by rw [chart_Of.l0]) ?_
    refine evn (by omega) ?_
    rw [show i = l.length from by omega]
    exact Ev.now _
  | succ m ih =>
    intro i h
    refine Ev.step (fun k => by rw [chart_Of.l0]) ?_
    refine evp (by omega) ?_
    refine evp (by omega) ?_
    refine evp (by omega) ?_
    refine Ev.bind (min_ok l (by omega) (by omega)) ?_
    refine Ev.bind (max_ok l (by omega) (by omega)) ?_
    rw [rd_nat, w64_succ (by omega)]
    have hs := cbars_succ l w i
    have hn := cbars_len l w i
    have hr := ih (i := i + 1) (by omega)
    rw [hs] at hr
    by_cases c : mnu l l.length < mxu l l.length
    · have hf := fillv_in (x := l.getD i 0) c (w := w) (by omega)
      have hb : cbar l w i = barv (fillv (l.getD i 0) (mnu l l.length) (mxu l l.length) w) w := by
        unfold cbar
        rw [if_pos c]
      rw [hb] at hr
      refine Ev.bind (fill_ok (getD_word' hx i) (mnu_word hx _) (mxu_word hx _) hw c) ?_
      refine evp rfl ?_
      refine evs (bar_ok hf.1 hf.2 (by omega)) ?_
      refine evp (by omega) ?_
      exact hr
    · have hb : cbar l w i = barv 0 w := by
        unfold cbar
        rw [if_neg c]
      rw [hb] at hr
      refine Ev.bind (fill_bad (.inl (by omega))) ?_
      refine evn (by simp) ?_
      refine evs (bar_ok (by omega) (by omega) (by omega)) ?_
      refine evp (by omega) ?_
      exact hr
theorem of_ok {l : List Int} {w : Int} (hl : l.length ≤ 60) (hx : ∀ x, x ∈ l → word' x) (hw : may w) : Ev (fun k => chart_Of.f k l w) (cbars l w l.length, 0) := by
  unfold chart_Of.f
  refine evs (may_ok w) ?_
  rw [decide_eq_true (show 1 ≤ w ∧ w ≤ 200 from hw)]
  refine evp rfl ?_
  rw [decide_eq_false (by omega)]
  refine Ev.step (fun k => by rw [chart_Of.j0]) ?_
  refine evn (by simp) ?_
  exact of_l0 hl hx hw l.length (i := 0) (by omega)
theorem of_bad {l : List Int} {w : Int} (hw : ¬ may w) : Ev (fun k => chart_Of.f k l w) ([], 1) := by
  unfold chart_Of.f
  refine evs (may_ok w) ?_
  rw [decide_eq_false (show ¬ (1 ≤ w ∧ w ≤ 200) from hw)]
  refine evn (by simp) ?_
  refine Ev.step (fun k => by rw [chart_Of.j0]) ?_
  exact evp rfl (Ev.now _)
theorem texts_l0 (l : List ByteArray) (m : Nat) : ∀ {i : Nat}, i + m = l.length → l.length ≤ 1000000 → Ev (fun k => regimenref01_Texts.l0 k l l (i : Int)) true := by
  induction m with
  | zero =>
    intro i h hl
    refine Ev.step (fun k => by rw [regimenref01_Texts.l0]) ?_
    exact evn (by omega) (Ev.now _)
  | succ m ih =>
    intro i h hl
    refine Ev.step (fun k => by rw [regimenref01_Texts.l0]) ?_
    refine evp (by omega) ?_
    refine evp (by omega) ?_
    refine evp (by omega) ?_
    refine evp rfl ?_
    rw [w64_succ (by omega)]
    exact ih (by omega) hl
theorem texts_ok (l : List ByteArray) (hl : l.length ≤ 1000000) : Ev (fun k => regimenref01_Texts.f k l l) true := by
  unfold regimenref01_Texts.f
  refine evp rfl ?_
  exact texts_l0 l l.length (i := 0) (by omega) hl
end Go.Proofs.Ytemmnjnihngjgaa.Num
