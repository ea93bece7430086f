/- What a watch holds for the best is one of the readings, and by a rule without a difference none is better: for all readings. -/
import Derived.Test.YtmakhhgfidgfdaaPBx6
import Derived.Test.YtmakhhgfidgfdaaPBx13
import Derived.Test.YtmakhhgfidgfdaaEarly
namespace Go.Proofs.Ytmakhhgfidgfdaa.Pure
set_option linter.unusedVariables false
open Go.RowKit Go.Proofs.Ytmakhhgfidgfdaa.PB Go.Proofs.Ytmakhhgfidgfdaa.Num Go.Proofs.YtmakhhgfidgfdaaW.PrintWords Go.Proofs.YtmakhhgfidgfdaaW.PrintLast Go.Proofs.YtmakhhgfidgfdaaW.PrintMore

theorem awake30b : Ev (fun k => regimenlaw30_awake.f k) true := Ev.of (fun k => regimenlaw30_awake.mono k) (k := 80) (by decide +kernel)

theorem isb_plain (x b : Int) (m : Bool) : isb x b m 0 false = true ↔ (if m = true then x > b else x < b) := by
  unfold isb
  rw [show gapv b 0 false = (0, true) from by unfold gapv mx; simp, decide_eq_true_eq]
  refine ⟨fun h => h.1, fun h => ⟨h, rfl, ?_⟩⟩
  dsimp only
  cases m
  · rw [if_neg (by simp)] at h
    unfold iabs
    split <;> omega
  · rw [if_pos rfl] at h
    unfold iabs
    split <;> omega
/-- Not better than b. -/
def nob (m : Bool) (x b : Int) : Prop := ¬ (if m = true then x > b else x < b)
theorem nob_trans {m : Bool} {x y z : Int} (h : nob m x y) (g : if m = true then z > y else z < y) : nob m x z := by
  unfold nob at *
  cases m
  · rw [if_neg (by simp)] at *
    omega
  · rw [if_pos rfl] at *
    omega
theorem best_inv (l : List Int) (m : Bool) (i : Nat) : i + 1 ≤ l.length → i < 1000 →
    (est l m 0 false (i + 1)).1 = true ∧ 0 ≤ (est l m 0 false (i + 1)).2.2 ∧ (est l m 0 false (i + 1)).2.2 ≤ i ∧ (∃ j, j ≤ i ∧ l.getD j 0 = (est l m 0 false (i + 1)).2.1) ∧ ∀ j, j ≤ i → nob m (l.getD j 0) (est l m 0 false (i + 1)).2.1 := by
  induction i with
  | zero =>
    intro h _
    rw [(est_mark l m 0 false 0 (by omega)).2.2.1 (mark_zero l m 0 false)]
    refine ⟨rfl, by simp, by simp, ⟨0, by omega, rfl⟩, fun j hj => ?_⟩
    rw [show j = 0 from by omega]
    unfold nob
    cases m
    · rw [if_neg (by simp)]
      simp
    · rw [if_pos rfl]
      simp
  | succ i ih =>
    intro h h2
    obtain ⟨a, b, b2, ⟨j, hj, c⟩, e⟩ := ih (by omega) (by omega)
    obtain ⟨b0, b1, h1, h2⟩ := est_mark l m 0 false (i + 1) (by omega)
    have mk : emark l m 0 false (i + 1) = isb (l.getD (i + 1) 0) (est l m 0 false (i + 1)).2.1 m 0 false := by simp [emark]
    by_cases q : emark l m 0 false (i + 1) = true
    · have better := (isb_plain _ _ _).1 (by rw [← mk]; exact q)
      rw [h1 q]
      refine ⟨rfl, by simp, by simp; omega, ⟨i + 1, by omega, rfl⟩, fun j hj => ?_⟩
      by_cases z : j = i + 1
      · rw [z]
        unfold nob
        cases m
        · rw [if_neg (by simp)]
          simp
        · rw [if_pos rfl]
          simp
      · exact nob_trans (e j (by omega)) better
    · have q2 : emark l m 0 false (i + 1) = false := by simpa using q
      rw [h2 q2]
      refine ⟨rfl, by dsimp only; omega, by dsimp only; omega, ⟨j, by omega, c⟩, fun j hj => ?_⟩
      by_cases z : j = i + 1
      · rw [z]
        intro hh
        rw [mk] at q
        exact q ((isb_plain _ _ _).2 hh)
      · exact e j (by omega)
theorem best_loop (l : List Int) (m : Bool) (hn : l.length < 1000) (h0 : 0 < l.length) (e : Nat) :
    ∀ (i : Nat) (t : Bool), i + e = l.length → (t = true ↔ ∃ j, j < i ∧ l.getD j 0 = (est l m 0 false l.length).2.1) → Ev (fun k => regimenlaw30_EarlyBest.l0 k l m t (i : Int) (est l m 0 false l.length).1 (est l m 0 false l.length).2.1 (est l m 0 false l.length).2.2) true := by
  obtain ⟨n, en⟩ : ∃ n, l.length = n + 1 := ⟨l.length - 1, by omega⟩
  obtain ⟨a, b, b2, ⟨j, hj, c⟩, nb⟩ := best_inv l m n (by omega) (by omega)
  rw [← en] at a b b2 c nb
  generalize est l m 0 false l.length = s at a b b2 c nb ⊢
  induction e with
  | zero =>
    intro i t h ht
    refine Ev.step (fun k => by rw [regimenlaw30_EarlyBest.l0]) ?_
    refine evn (by omega) ?_
    refine evp (ht.2 ⟨j, by omega, c⟩) ?_
    refine evp a ?_
    refine evp b ?_
    refine evp (by omega) ?_
    exact Ev.bind awake30b (Ev.now _)
  | succ e ih =>
    intro i t h ht
    have nbi := nb i (by omega)
    have nx : ∀ t' : Bool, (t' = true ↔ t = true ∨ l.getD i 0 = s.2.1) → Ev (fun k => regimenlaw30_EarlyBest.l0 k l m t' (wrap64 ((i : Int) + 1)) s.1 s.2.1 s.2.2) true := by
      intro t' h'
      rw [w64_succ (by omega)]
      refine ih (i + 1) t' (by omega) ?_
      rw [h', ht]
      constructor
      · rintro (⟨j, x, y⟩ | x)
        · exact ⟨j, by omega, y⟩
        · exact ⟨i, by omega, x⟩
      · rintro ⟨j, x, y⟩
        by_cases z : j = i
        · rw [z] at y
          exact .inr y
        · exact .inl ⟨j, by omega, y⟩
    refine Ev.step (fun k => by rw [regimenlaw30_EarlyBest.l0]) ?_
    refine evp (by omega) ?_
    rw [rd_nat]
    by_cases q : t = true
    · refine evp q ?_
      have nx := nx true (by simp [q])
      cases m
      · refine evn (by simp) ?_
        refine evp (by omega) ?_
        refine evn (fun hh => nbi (by rw [if_neg (by simp)]; exact hh)) ?_
        exact nx
      · refine evp rfl ?_
        refine evp (by omega) ?_
        refine evn (fun hh => nbi (by rw [if_pos rfl]; exact hh)) ?_
        exact nx
    · refine evn q ?_
      refine evp (by omega) ?_
      have nx := nx (l.getD i 0 == s.2.1) (by simp [q])
      cases m
      · refine evn (by simp) ?_
        refine evn (fun hh => nbi (by rw [if_neg (by simp)]; exact hh)) ?_
        exact nx
      · refine evp rfl ?_
        refine evn (fun hh => nbi (by rw [if_pos rfl]; exact hh)) ?_
        exact nx

theorem EarlyBest : regimenlaw30_EarlyBest.Pure := by
  intro l m hl
  have hlw : ∀ x, x ∈ l → word x := fun x h => i64_wf (hl.2.2 x h)
  refine Ev.rounds (r := true) ?_
  unfold regimenlaw30_EarlyBest.f
  by_cases c : (l.length : Int) > 100
  · refine evp c ?_
    exact Ev.bind awake30b (Ev.now _)
  · refine evn c ?_
    refine Ev.bind (all_ok l m false (d := 0) ⟨by omega, by omega⟩ hlw (by omega)) ?_
    by_cases z : (l.length : Int) = 0
    · refine evp z ?_
      rw [show l.length = 0 from by omega]
      refine evp (by simp [est]) ?_
      exact Ev.bind awake30b (Ev.now _)
    · refine evn z ?_
      exact best_loop l m (by omega) (by omega) l.length 0 false (by omega) (by simp)
end Go.Proofs.Ytmakhhgfidgfdaa.Pure
