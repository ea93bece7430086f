/- Any column of any trace, and what all columns come to, are the reference's: for all traces. -/
import Derived.Test.YtmakhhgfidgfdaaPFx0
import Derived.Test.YtmakhhgfidgfdaaPFx5
import Derived.Test.YtmakhhgfidgfdaaPFx10
import Derived.Test.YtmakhhgfidgfdaaPFx12
import Derived.Test.YtmakhhgfidgfdaaFStats
namespace Go.Proofs.Ytmakhhgfidgfdaa.Pure
set_option linter.unusedVariables false
open Go.RowKit Go.Proofs.Ytmakhhgfidgfdaa.PF Go.Proofs.Ytmakhhgfidgfdaa.Num Go.Proofs.YtmakhhgfidgfdaaW.PrintWords Go.Proofs.YtmakhhgfidgfdaaW.PrintLast Go.Proofs.YtmakhhgfidgfdaaW.PrintMore

theorem awake49b : Ev (fun k => regimenlaw49_awake.f k) true := Ev.of (fun k => regimenlaw49_awake.mono k) (k := 80) (by decide +kernel)

/-- A value of each of the first j steps that has one. -/
def colv (l : List S89) (i : Int) : Nat → List Int
  | 0 => []
  | j + 1 => if 0 ≤ i ∧ i < ((l.getD j z89).f2.length : Int) then colv l i j ++ [rd (l.getD j z89).f2 i] else colv l i j
theorem colv_length (l : List S89) (i : Int) (j : Nat) : (colv l i j).length ≤ j := by
  induction j with
  | zero => simp [colv]
  | succ j ih =>
    unfold colv
    split
    · simp only [List.length_append, List.length_cons, List.length_nil]
      omega
    · omega
theorem colv_word {l : List S89} (h : ∀ o, o ∈ l → ∀ x, x ∈ o.f2 → word' x) (i : Int) (j : Nat) : ∀ x, x ∈ colv l i j → word' x := by
  induction j with
  | zero => intro x hx; cases hx
  | succ j ih =>
    unfold colv
    split
    · intro x hx
      rcases List.mem_append.1 hx with q | q
      · exact ih x q
      · rw [List.mem_singleton] at q
        rw [q]
        have hz : ∀ y, y ∈ (l.getD j z89).f2 → word' y := by
          rw [List.getD_eq_getElem?_getD]
          cases c : l[j]? with
          | none => intro y hy; cases hy
          | some v => exact h v (List.mem_of_getElem? c)
        exact getD_word' hz i.toNat
    · exact ih
theorem col_loop (l : List S89) (i : Int) (hn : l.length < 100000) (e : Nat) : ∀ j : Nat, j + e = l.length → Ev (fun k => stats_Column.l0 k i (colv l i j) l (l.length : Int) (j : Int)) (colv l i l.length) := by
  induction e with
  | zero =>
    intro j h
    obtain rfl : j = l.length := by omega
    refine Ev.step (fun k => by rw [stats_Column.l0]) ?_
    exact evn (by omega) (Ev.now _)
  | succ e ih =>
    intro j h
    have nx := ih (j + 1) (by omega)
    have ll := colv_length l i j
    rw [show colv l i (j + 1) = if 0 ≤ i ∧ i < ((l.getD j z89).f2.length : Int) then colv l i j ++ [rd (l.getD j z89).f2 i] else colv l i j from rfl] at nx
    refine Ev.step (fun k => by rw [stats_Column.l0]) ?_
    refine evp (by omega) ?_
    refine evp (by omega) ?_
    refine evp (by omega) ?_
    rw [show rd_T89 l (j : Int) = l.getD j z89 from rfl, w64_succ (by omega)]
    by_cases c1 : i ≥ 0
    · refine evp c1 ?_
      by_cases c2 : i < ((l.getD j z89).f2.length : Int)
      · rw [if_pos ⟨c1, c2⟩] at nx
        refine evp c2 ?_
        refine evp c1 ?_
        refine evp (by omega) ?_
        exact nx
      · rw [if_neg (fun q => c2 q.2)] at nx
        exact evn c2 nx
    · rw [if_neg (fun q => c1 q.1)] at nx
      exact evn c1 nx
theorem col_ok (l : List S89) (i : Int) (hn : l.length < 100000) : Ev (fun k => stats_Column.f k l i) (colv l i l.length) := by
  unfold stats_Column.f
  exact col_loop l i hn l.length 0 (by omega)
theorem ref_col_loop (l : List S89) (i : Int) (hn : l.length < 100000) (e : Nat) : ∀ j : Nat, j + e = l.length → Ev (fun k => regimenref49_Column.l0 k l i (colv l i j) (j : Int)) (colv l i l.length) := by
  induction e with
  | zero =>
    intro j h
    obtain rfl : j = l.length := by omega
    refine Ev.step (fun k => by rw [regimenref49_Column.l0]) ?_
    exact evn (by omega) (Ev.now _)
  | succ e ih =>
    intro j h
    have nx := ih (j + 1) (by omega)
    have ll := colv_length l i j
    rw [show colv l i (j + 1) = if 0 ≤ i ∧ i < ((l.getD j z89).f2.length : Int) then colv l i j ++ [rd (l.getD j z89).f2 i] else colv l i j from rfl] at nx
    refine Ev.step (fun k => by rw [regimenref49_Column.l0]) ?_
    refine evp (by omega) ?_
    rw [show rd_T89 l (j : Int) = l.getD j z89 from rfl, w64_succ (by omega)]
    by_cases c1 : i ≥ 0
    · refine evp c1 ?_
      refine evp (by omega) ?_
      by_cases c2 : i < ((l.getD j z89).f2.length : Int)
      · rw [if_pos ⟨c1, c2⟩] at nx
        refine evp c2 ?_
        refine evp c1 ?_
        refine evp (by omega) ?_
        exact nx
      · rw [if_neg (fun q => c2 q.2)] at nx
        exact evn c2 nx
    · rw [if_neg (fun q => c1 q.1)] at nx
      exact evn c1 nx
theorem ref_col_ok (l : List S89) (i : Int) (hn : l.length < 100000) : Ev (fun k => regimenref49_Column.f k l i) (colv l i l.length) := by
  unfold regimenref49_Column.f
  exact ref_col_loop l i hn l.length 0 (by omega)
/-- The columns' stats. -/
def colstat (l : List S89) (k : Nat) : S58 := ⟨(statv (colv l k l.length)).1, (statv (colv l k l.length)).2.1, (statv (colv l k l.length)).2.2.1, (statv (colv l k l.length)).2.2.2.1, (statv (colv l k l.length)).2.2.2.2⟩
def stats_upto (l : List S89) : Nat → List S58
  | 0 => []
  | k + 1 => stats_upto l k ++ [colstat l k]
theorem upto_length (l : List S89) (k : Nat) : (stats_upto l k).length = k := by
  induction k with
  | zero => rfl
  | succ k ih => simp [stats_upto, ih]
theorem upto_at (l : List S89) (n : Nat) : ∀ k, k < n → (stats_upto l n).getD k z58 = colstat l k := by
  induction n with
  | zero => intro k h; omega
  | succ n ih =>
    intro k h
    have ul := upto_length l n
    rw [show stats_upto l (n + 1) = stats_upto l n ++ [colstat l n] from rfl, List.getD_eq_getElem?_getD, List.getElem?_append]
    by_cases c : k < n
    · rw [if_pos (by omega), ← List.getD_eq_getElem?_getD]
      exact ih k c
    · rw [if_neg (by omega), show k - (stats_upto l n).length = 0 from by omega, show k = n from by omega]
      rfl
/-- The first step has a value in each column. -/
theorem col_some (l : List S89) (h0 : 0 < l.length) (i : Int) (hi : 0 ≤ i) (hi2 : i < ((l.getD 0 z89).f2.length : Int)) (j : Nat) : 0 < (colv l i (j + 1)).length := by
  induction j with
  | zero =>
    show 0 < (if 0 ≤ i ∧ i < ((l.getD 0 z89).f2.length : Int) then colv l i 0 ++ [rd (l.getD 0 z89).f2 i] else colv l i 0).length
    rw [if_pos ⟨hi, hi2⟩]
    simp
  | succ j ih =>
    show 0 < (if 0 ≤ i ∧ i < ((l.getD (j + 1) z89).f2.length : Int) then colv l i (j + 1) ++ [rd (l.getD (j + 1) z89).f2 i] else colv l i (j + 1)).length
    split
    · simp
    · exact ih
theorem col_some' (l : List S89) (h0 : 0 < l.length) (i : Int) (hi : 0 ≤ i) (hi2 : i < ((l.getD 0 z89).f2.length : Int)) : 0 < (colv l i l.length).length := by
  have := col_some l h0 i hi hi2 (l.length - 1)
  rw [show l.length - 1 + 1 = l.length from by omega] at this
  exact this
theorem all_loop (l : List S89) (hw : ∀ o, o ∈ l → ∀ x, x ∈ o.f2 → word' x) (h0 : 0 < l.length) (hn : l.length < 80) (N : Nat) (hN : N = (l.getD 0 z89).f2.length) (hN2 : N < 1000) (e : Nat) :
    ∀ k : Nat, k + e = N → Ev (fun n => stats_All.l0 n l (stats_upto l k) (N : Int) (k : Int)) (stats_upto l N) := by
  induction e with
  | zero =>
    intro k h
    obtain rfl : k = N := by omega
    refine Ev.step (fun k => by rw [stats_All.l0]) ?_
    exact evn (by omega) (Ev.now _)
  | succ e ih =>
    intro k h
    have ul := upto_length l k
    have cl := colv_length l (k : Int) l.length
    refine Ev.step (fun k => by rw [stats_All.l0]) ?_
    refine evp (by omega) ?_
    refine Ev.bind (col_ok l (k : Int) (by omega)) ?_
    refine Ev.bind (of_ok' (colv l (k : Int) l.length) (colv_word hw _ _) (col_some' l h0 _ (by omega) (by omega)) (by omega)) ?_
    refine evp (by omega) ?_
    rw [w64_succ (by omega)]
    exact ih (k + 1) (by omega)
theorem law_l1 (l : List S89) (hw : ∀ o, o ∈ l → ∀ x, x ∈ o.f2 → word' x) (h0 : 0 < l.length) (hn : l.length < 80) (N : Nat) (hN : N = (l.getD 0 z89).f2.length) (hN2 : N < 1000) (e : Nat) :
    ∀ k : Nat, k + e = N → Ev (fun n => regimenlaw49_StatsAll.l1 n l (stats_upto l N) (k : Int)) true := by
  induction e with
  | zero =>
    intro k h
    obtain rfl : k = N := by omega
    have ul := upto_length l k
    refine Ev.step (fun k => by rw [regimenlaw49_StatsAll.l1]) ?_
    refine evn (by omega) ?_
    exact Ev.bind awake49b (Ev.now _)
  | succ e ih =>
    intro k h
    have ul := upto_length l N
    have cl := colv_length l (k : Int) l.length
    refine Ev.step (fun k => by rw [regimenlaw49_StatsAll.l1]) ?_
    refine evp (by omega) ?_
    refine evp (by omega) ?_
    refine Ev.bind (ref_col_ok l (k : Int) (by omega)) ?_
    refine Ev.bind (ref_of_ok (colv l (k : Int) l.length) (colv_word hw _ _) (col_some' l h0 _ (by omega) (by omega)) (by omega)) ?_
    rw [show rd_T58 (stats_upto l N) (k : Int) = (stats_upto l N).getD k z58 from rfl, upto_at l N k (by omega), w64_succ (by omega)]
    refine evn (by simp [colstat]) ?_
    exact ih (k + 1) (by omega)
theorem law_l0 (l : List S89) (i : Int) (hw : ∀ o, o ∈ l → ∀ x, x ∈ o.f2 → word' x) (hn : l.length ≤ 30) (e : Nat) :
    ∀ j : Nat, j + e = l.length → (∀ k, k < j → (l.getD k z89).f2.length ≤ 30) → Ev (fun n => regimenlaw49_StatsAll.l0 n l i (j : Int)) true := by
  induction e with
  | zero =>
    intro j h hk
    obtain rfl : j = l.length := by omega
    have cl := colv_length l i l.length
    refine Ev.step (fun k => by rw [regimenlaw49_StatsAll.l0]) ?_
    refine evn (by omega) ?_
    by_cases z : (l.length : Int) = 0
    · have no : Ev (fun k => stats_All.f k l) ([] : List S58) := by
        unfold stats_All.f
        exact evp z (Ev.now _)
      refine Ev.bind no ?_
      refine Ev.bind (col_ok l i (by omega)) ?_
      refine Ev.bind (ref_col_ok l i (by omega)) ?_
      refine Ev.bind (same1_ok _ (by omega)) ?_
      refine evp rfl ?_
      refine evp z ?_
      refine evp (by simp) ?_
      exact Ev.bind awake49b (Ev.now _)
    · have f0 := hk 0 (by omega)
      have al : Ev (fun k => stats_All.f k l) (stats_upto l (l.getD 0 z89).f2.length) := by
        unfold stats_All.f
        refine evn z ?_
        refine evp (by omega) ?_
        exact all_loop l hw (by omega) (by omega) _ rfl (by omega) (l.getD 0 z89).f2.length 0 (by omega)
      have ul := upto_length l (l.getD 0 z89).f2.length
      refine Ev.bind al ?_
      refine Ev.bind (col_ok l i (by omega)) ?_
      refine Ev.bind (ref_col_ok l i (by omega)) ?_
      refine Ev.bind (same1_ok _ (by omega)) ?_
      refine evp rfl ?_
      refine evn z ?_
      refine evp (by omega) ?_
      refine evp (by rw [show rd_T89 l 0 = l.getD 0 z89 from rfl]; omega) ?_
      exact law_l1 l hw (by omega) (by omega) _ rfl (by omega) (l.getD 0 z89).f2.length 0 (by omega)
  | succ e ih =>
    intro j h hk
    refine Ev.step (fun k => by rw [regimenlaw49_StatsAll.l0]) ?_
    refine evp (by omega) ?_
    refine evp (by omega) ?_
    rw [show rd_T89 l (j : Int) = l.getD j z89 from rfl]
    by_cases c : ((l.getD j z89).f2.length : Int) > 30
    · refine evp c ?_
      exact Ev.bind awake49b (Ev.now _)
    · refine evn c ?_
      rw [w64_succ (by omega)]
      refine ih (j + 1) (by omega) (fun k hk2 => ?_)
      by_cases q : k = j
      · rw [q]
        omega
      · exact hk k (by omega)

theorem StatsAll : regimenlaw49_StatsAll.Pure := by
  intro l i hl hi
  have hw : ∀ o, o ∈ l → ∀ x, x ∈ o.f2 → word' x := fun o ho x hx => i64_wf ((hl.2.2 o ho).2.2.1.2.2 x hx)
  refine Ev.rounds (r := true) ?_
  unfold regimenlaw49_StatsAll.f
  by_cases c : (l.length : Int) > 30
  · refine evp c ?_
    exact Ev.bind awake49b (Ev.now _)
  · refine evn c ?_
    exact law_l0 l i hw (by omega) l.length 0 (by omega) (fun k hk => by omega)
end Go.Proofs.Ytmakhhgfidgfdaa.Pure
