/- Any weights taken into any average are the reference's, and what comes of it lies between: for all weights and decays. -/
import Derived.Test.YtmakhhgfidgfdaaPDx5
import Derived.Test.YtmakhhgfidgfdaaPDx8
import Derived.Test.YtmakhhgfidgfdaaPDx9
import Derived.Test.YtmakhhgfidgfdaaDSame
import Derived.Test.YtmakhhgfidgfdaaDLerp
namespace Go.Proofs.Ytmakhhgfidgfdaa.Pure
set_option linter.unusedVariables false
open Go.RowKit Go.Proofs.Ytmakhhgfidgfdaa.PD Go.Proofs.Ytmakhhgfidgfdaa.Num Go.Proofs.YtmakhhgfidgfdaaW.PrintWords Go.Proofs.YtmakhhgfidgfdaaW.PrintLast Go.Proofs.YtmakhhgfidgfdaaW.PrintMore

theorem awake33 : Ev (fun k => regimenlaw33_awake.f k) true := Ev.of (fun k => regimenlaw33_awake.mono k) (k := 80) (by decide +kernel)

theorem ema_loop (a w : List Int) (t : Int) (ha : ∀ x, x ∈ a → word' x) (hw : ∀ x, x ∈ w → word' x) (h0 : 0 ≤ t) (h1 : t ≤ 4294967296) (hl : a.length = w.length) (hn : w.length < 100000) (e : Nat) :
    ∀ (i : Nat) (M : List Int), i + e = w.length → M.length = w.length → (∀ k, k < i → M.getD k 0 = lat (w.getD k 0) (a.getD k 0) t) → Ev (fun k => ema_Take.l0 k a t M w (w.length : Int) (i : Int)) (tab (fun k => lat (w.getD k 0) (a.getD k 0) t) w.length, 0) := by
  induction e with
  | zero =>
    intro i M h hM hk
    refine Ev.step (fun k => by rw [ema_Take.l0]) ?_
    refine evn (by omega) ?_
    rw [← tab_of hM (fun k hk2 => hk k (by omega))]
    exact Ev.now _
  | succ e ih =>
    intro i M h hM hk
    refine Ev.step (fun k => by rw [ema_Take.l0]) ?_
    refine evp (by omega) ?_
    refine evp (by omega) ?_
    refine evp (by omega) ?_
    refine evp (by omega) ?_
    rw [rd_nat, rd_nat]
    refine Ev.bind (lerp_at_ok (getD_word' hw i) (getD_word' ha i) h0 h1) ?_
    refine evp (by omega) ?_
    rw [w64_succ (by omega)]
    refine ih (i + 1) _ (by omega) (by rw [List.length_set]; exact hM) (fun k hk2 => ?_)
    rw [show ((i : Int)).toNat = i from by omega, getD_set_i M i k _ (by omega)]
    by_cases c : i = k
    · rw [if_pos c, c]
    · rw [if_neg c]
      exact hk k (by omega)
theorem ema_ok (a w : List Int) (t : Int) (ha : ∀ x, x ∈ a → word' x) (hw : ∀ x, x ∈ w → word' x) (h0 : 0 ≤ t) (h1 : t ≤ 4294967296) (hl : a.length = w.length) (hn : w.length < 100000) (h2 : 0 < a.length) :
    Ev (fun k => ema_Take.f k a w t) (tab (fun k => lat (w.getD k 0) (a.getD k 0) t) w.length, 0) := by
  unfold ema_Take.f
  refine evn (by omega) ?_
  rw [decide_eq_false (by omega)]
  refine Ev.step (fun k => by rw [ema_Take.j0]) ?_
  refine evn (by simp) ?_
  refine evn (by omega) ?_
  refine evp (by omega) ?_
  refine evp (by omega) ?_
  refine evp (by omega) ?_
  exact ema_loop a w t ha hw h0 h1 hl hn w.length 0 _ (by omega) (by simp) (fun k hk => by omega)
theorem ema_none (w : List Int) (t : Int) (h0 : 0 ≤ t) (h1 : t ≤ 4294967296) (hn : w.length < 100000) : Ev (fun k => ema_Take.f k [] w t) (w, 0) := by
  unfold ema_Take.f
  refine evn (by omega) ?_
  rw [decide_eq_false (by omega)]
  refine Ev.step (fun k => by rw [ema_Take.j0]) ?_
  refine evn (by simp) ?_
  refine evp (by simp) ?_
  refine evs (clone_ok w (by omega)) ?_
  exact Ev.now _
theorem ema_no (a w : List Int) (t : Int) (h : t < 0 ∨ t > 4294967296 ∨ (a.length > 0 ∧ a.length ≠ w.length)) : Ev (fun k => ema_Take.f k a w t) ([], 1) := by
  have no : Ev (fun k => ema_Take.j0 k a w t true) ([], 1) := by
    refine Ev.step (fun k => by rw [ema_Take.j0]) ?_
    exact evp rfl (Ev.now _)
  unfold ema_Take.f
  by_cases c : t < 0
  · exact evp c no
  · refine evn c ?_
    by_cases d : t > 4294967296
    · rw [decide_eq_true d]
      exact no
    · rw [decide_eq_false d]
      refine Ev.step (fun k => by rw [ema_Take.j0]) ?_
      refine evn (by simp) ?_
      refine evn (by omega) ?_
      refine evn (by omega) ?_
      exact Ev.now _
theorem ref_ema_loop (a w : List Int) (t : Int) (ha : ∀ x, x ∈ a → word' x) (hw : ∀ x, x ∈ w → word' x) (h0 : 0 ≤ t) (h1 : t ≤ 4294967296) (hl : a.length = 0 ∨ a.length = w.length) (hn : w.length < 100000) (T : Nat → Int) (hT : ∀ i, T i = if a.length = 0 then w.getD i 0 else lat (w.getD i 0) (a.getD i 0) t) (e : Nat) :
    ∀ (i : Nat), i + e = w.length → Ev (fun k => regimenref33_Take.l0 k a w t (tab T i) (i : Int)) (tab T w.length) := by
  induction e with
  | zero =>
    intro i h
    obtain rfl : i = w.length := by omega
    refine Ev.step (fun k => by rw [regimenref33_Take.l0]) ?_
    exact evn (by omega) (Ev.now _)
  | succ e ih =>
    intro i h
    have ll := tab_length T i
    have hTi := hT i
    have nx := ih (i + 1) (by omega)
    rw [tab_succ] at nx
    refine Ev.step (fun k => by rw [regimenref33_Take.l0]) ?_
    refine evp (by omega) ?_
    by_cases c : (a.length : Int) = 0
    · rw [if_pos (by omega)] at hTi
      refine evp c ?_
      refine evp (by omega) ?_
      refine evp (by omega) ?_
      rw [rd_nat, w64_succ (by omega), ← hTi]
      exact nx
    · rw [if_neg (by omega)] at hTi
      refine evn c ?_
      refine evp (by omega) ?_
      refine evp (by omega) ?_
      rw [rd_nat, rd_nat]
      refine Ev.bind (ref_at_ok (getD_word' hw i) (getD_word' ha i) h0 h1) ?_
      refine evp (by omega) ?_
      rw [w64_succ (by omega), ← hTi]
      exact nx
theorem within_loop (a w : List Int) (t : Int) (h0 : 0 ≤ t) (h1 : t ≤ 4294967296) (hl : a.length = w.length) (hn : w.length < 100000) (e : Nat) :
    ∀ (i : Nat), i + e = a.length → Ev (fun k => regimenlaw33_EmaTakes.l0 k a w (tab (fun k => lat (w.getD k 0) (a.getD k 0) t) w.length) (i : Int)) true := by
  induction e with
  | zero =>
    intro i h
    refine Ev.step (fun k => by rw [regimenlaw33_EmaTakes.l0]) ?_
    refine evn (by omega) ?_
    exact Ev.bind awake33 (Ev.now _)
  | succ e ih =>
    intro i h
    refine Ev.step (fun k => by rw [regimenlaw33_EmaTakes.l0]) ?_
    refine evp (by omega) ?_
    refine evp (by omega) ?_
    refine evp (by rw [tab_length]; omega) ?_
    refine evp (by omega) ?_
    rw [rd_nat, rd_nat, rd_nat, tab_at _ _ _ (by omega)]
    have r := lat_range (a := w.getD i 0) (b := a.getD i 0) h0 h1
    refine evs (within_ok ?_) ?_
    · by_cases c : w.getD i 0 ≤ a.getD i 0
      · exact .inr (r.1 c)
      · exact .inl (r.2 (by omega))
    · refine evp rfl ?_
      rw [w64_succ (by omega)]
      exact ih (i + 1) (by omega)

theorem EmaTakes : regimenlaw33_EmaTakes.Pure := by
  intro a w t ha hw ht
  have ht := i64_wf ht
  have haw : ∀ x, x ∈ a → word' x := fun x h => i64_wf (ha.2.2 x h)
  have hww : ∀ x, x ∈ w → word' x := fun x h => i64_wf (hw.2.2 x h)
  refine Ev.rounds (r := true) ?_
  have fin : Ev (fun k => regimenlaw33_EmaTakes.j0 k a w t true) true := by
    refine Ev.step (fun k => by rw [regimenlaw33_EmaTakes.j0]) ?_
    refine evp rfl ?_
    exact Ev.bind awake33 (Ev.now _)
  unfold regimenlaw33_EmaTakes.f
  by_cases c1 : (a.length : Int) > 60
  · exact evp c1 fin
  refine evn c1 ?_
  by_cases c2 : (w.length : Int) > 60
  · rw [decide_eq_true c2]
    exact fin
  rw [decide_eq_false c2]
  refine Ev.step (fun k => by rw [regimenlaw33_EmaTakes.j0]) ?_
  refine evn (by simp) ?_
  have bad : (t < 0 ∨ t > 4294967296 ∨ (a.length > 0 ∧ a.length ≠ w.length)) → Ev (fun k => regimenlaw33_EmaTakes.j1 k a w t [] 1 true) true := by
    intro _
    refine Ev.step (fun k => by rw [regimenlaw33_EmaTakes.j1]) ?_
    refine evp rfl ?_
    refine evp (by simp) ?_
    refine evp rfl ?_
    exact Ev.bind awake33 (Ev.now _)
  by_cases h : t < 0 ∨ t > 4294967296 ∨ (a.length > 0 ∧ a.length ≠ w.length)
  · refine Ev.bind (ema_no a w t h) ?_
    by_cases d1 : t < 0
    · exact evp d1 (bad h)
    refine evn d1 ?_
    by_cases d2 : t > 4294967296
    · exact evp d2 (bad h)
    refine evn d2 ?_
    refine evp (by omega) ?_
    rw [show ((a.length : Int) != (w.length : Int)) = true from by
      rw [bne_iff_ne]
      omega]
    exact bad h
  · have good : ∀ (T : Nat → Int) (b : Bool), b = false → (∀ i, T i = if a.length = 0 then w.getD i 0 else lat (w.getD i 0) (a.getD i 0) t) → Ev (fun k => regimenlaw33_EmaTakes.j1 k a w t (tab T w.length) 0 b) true := by
      intro T b hb hT
      subst hb
      refine Ev.step (fun k => by rw [regimenlaw33_EmaTakes.j1]) ?_
      refine evn (by simp) ?_
      refine evp rfl ?_
      have rt : Ev (fun k => regimenref33_Take.f k a w t) (tab T w.length) := by
        unfold regimenref33_Take.f
        exact ref_ema_loop a w t haw hww (by omega) (by omega) (by omega) (by omega) T hT w.length 0 (by omega)
      refine Ev.bind rt ?_
      refine Ev.bind (same1_ok _ (by rw [tab_length]; omega)) ?_
      refine Ev.step (fun k => by rw [regimenlaw33_EmaTakes.j2]) ?_
      refine evn (by simp) ?_
      by_cases z : a.length = 0
      · refine Ev.step (fun k => by rw [regimenlaw33_EmaTakes.l0]) ?_
        refine evn (by omega) ?_
        exact Ev.bind awake33 (Ev.now _)
      · rw [show T = (fun k => lat (w.getD k 0) (a.getD k 0) t) from funext fun i => by rw [hT, if_neg z]]
        exact within_loop a w t (by omega) (by omega) (by omega) (by omega) a.length 0 (by omega)
    by_cases z : a.length = 0
    · obtain rfl : a = [] := List.eq_nil_of_length_eq_zero z
      refine Ev.bind (ema_none w t (by omega) (by omega) (by omega)) ?_
      refine evn (by omega) ?_
      refine evn (by omega) ?_
      refine evn (by simp) ?_
      have g := good (fun i => w.getD i 0) false rfl (fun i => (if_pos rfl).symm)
      rw [tab_self] at g
      exact g
    · refine Ev.bind (ema_ok a w t haw hww (by omega) (by omega) (by omega) (by omega) (by omega)) ?_
      refine evn (by omega) ?_
      refine evn (by omega) ?_
      refine evp (by omega) ?_
      exact good _ _ (by
        rw [bne_eq_false_iff_eq]
        omega) (fun i => by rw [if_neg z])
end Go.Proofs.Ytmakhhgfidgfdaa.Pure
