/- Any length's text, whose tokens are read as it: for all lengths. -/
import Derived.Test.YtnmmhfpekeeedaaPNx0
import Derived.Test.YtnmmhfpekeeedaaPNx5
import Derived.Test.YtnmmhfpekeeedaaPNx6
import Derived.Test.YtnmmhfpekeeedaaPNx7
import Derived.Test.YtnmmhfpekeeedaaPNx9
import Derived.Test.YtnmmhfpekeeedaaPNx10
import Derived.Test.YtnmmhfpekeeedaaPNx11
import Derived.Test.YtnmmhfpekeeedaaNLengthR
import Derived.Test.YtnmmhfpekeeedaaNLength
import Derived.Test.YtnmmhfpekeeedaaNScan
namespace Go.Proofs.Ytnmmhfpekeeedaa.Pure
set_option linter.unusedVariables false
open Go.RowKit Go.Proofs.Ytnmmhfpekeeedaa.PN Go.Proofs.Ytnmmhfpekeeedaa.Num Go.Proofs.YtnmmhfpekeeedaaW.PrintWords Go.Proofs.YtnmmhfpekeeedaaW.PrintMore

theorem awake14p : Ev (fun k => regimenlaw14_awake.f k) true := Ev.of (fun k => regimenlaw14_awake.mono k) (k := 200) (by decide +kernel)
theorem run_digits (m w : List Int) (hm : ∀ x, x ∈ m → isDig x) (hw : w = [] ∨ ¬ isDig (w.getD 0 0)) : runC digB (m ++ w) = m.length := by
  induction m with
  | nil =>
    cases w with
    | nil => rfl
    | cons x t =>
      have : ¬ isDig x := by
        rcases hw with h | h
        · cases h
        · exact h
      refine if_neg ?_
      unfold digB
      rw [decide_eq_true_iff, cls_2]
      exact this
  | cons x t ih =>
    have hx : digB x = true := by
      unfold digB
      rw [decide_eq_true_iff, cls_2]
      exact hm x (List.mem_cons_self ..)
    have e : runC digB (x :: t ++ w) = runC digB (t ++ w) + 1 := if_pos hx
    rw [e, ih (fun y hy => hm y (List.mem_cons_of_mem _ hy))]
    rfl
theorem one_digits (m w : List Int) (hm : ∀ x, x ∈ m → isDig x) (h0 : 0 < m.length) (h1 : m.length ≤ 20) (hz : 1 < m.length → m.getD 0 0 ≠ 48) (hw : w = [] ∨ ¬ isDig (w.getD 0 0)) (ha : atv w 0 = 0 ∨ 4 < atv w 0) (R : ByteArray × Int) :
    oneV (m ++ w) R = (2, strOfNums m, (m.length : Int), 0) := by
  have r := run_digits m w hm hw
  have g0 : (m ++ w).getD 0 0 = m.getD 0 0 := by
    rw [List.getD_eq_getElem?_getD, List.getD_eq_getElem?_getD, List.getElem?_append_left h0]
  have a0 : atv (m ++ w) 0 = 2 := by
    have e : atv (m ++ w) 0 = cls ((m ++ w).getD 0 0) := if_pos (by rw [List.length_append]; omega)
    rw [e, g0, cls_2]
    cases m with
    | nil => simp at h0
    | cons x t => exact hm x (List.mem_cons_self ..)
  have aw : atv (m ++ w) m.length = atv w 0 := by
    have := atv_drop (m ++ w) m.length 0
    rw [List.drop_left, Nat.add_zero] at this
    exact this.symm
  have nv : numV (m ++ w) = m.length := by
    unfold numV
    rw [r, g0, if_neg (fun z => hz z.1 z.2), aw, if_neg (by omega), if_neg (by unfold badA; rw [decide_eq_true_iff]; omega)]
  unfold oneV
  rw [a0, if_neg (by decide), if_pos rfl, nv, List.take_left]
  unfold tokV
  rw [if_neg (by omega), if_neg (by rw [strOfNums_size]; omega)]
theorem end_gap : GapR [] 0 := .stop _ (by decide)
/-- The tokens of a number and a word behind it. -/
theorem two_tokens (m w : List Int) (g j : Nat) (kind : Int) (wd : ByteArray) (hm : ∀ x, x ∈ m → isDig x) (h0 : 0 < m.length) (h1 : m.length ≤ 20) (hz : 1 < m.length → m.getD 0 0 ≠ 48) (hw : w = [] ∨ ¬ isDig (w.getD 0 0)) (ha : atv w 0 = 0 ∨ 4 < atv w 0)
    (hg : GapR w g) (hl : g + j = w.length) (hj : 0 < j) (ho : ∀ R, oneV (w.drop g) R = (kind, wd, (j : Int), 0)) :
    ∃ t0 t1 t2 : S34, TokR (m ++ w) 0 [] ([t0, t1, t2], 0, 0, 0) ∧ t0.f0 = 2 ∧ t0.f1 = strOfNums m ∧ t1.f0 = kind ∧ t1.f1 = wd ∧ t2.f0 = 0 := by
  have d1 : (m ++ w).drop m.length = w := List.drop_left
  have d2 : (m ++ w).drop (m.length + g) = w.drop g := by rw [← List.drop_drop, d1]
  have d3 : (m ++ w).drop (m.length + g + j) = [] := List.drop_eq_nil_of_le (by rw [List.length_append]; omega)
  obtain ⟨R0, hR0⟩ := ReadV.ex ((m ++ w).drop 0)
  obtain ⟨R1, hR1⟩ := ReadV.ex ((m ++ w).drop (m.length + g))
  have o0 : oneV ((m ++ w).drop 0) R0 = (2, strOfNums m, (m.length : Int), 0) := one_digits m w hm h0 h1 hz hw ha R0
  have o1 : oneV ((m ++ w).drop (m.length + g)) R1 = (kind, wd, (j : Int), 0) := by rw [d2]; exact ho R1
  refine ⟨tokAt (m ++ w) 0 (2, strOfNums m, (m.length : Int), 0), tokAt (m ++ w) (m.length + g) (kind, wd, (j : Int), 0), tokAt (m ++ w) (m.length + g + j + 0) (0, ⟨#[]⟩, 0, 0), ?_, rfl, rfl, rfl, rfl, rfl⟩
  refine .step 0 [] R0 m.length g _ (by rw [List.length_append]; omega) hR0 ?_ ?_ ?_ ?_
  · rw [o0]
    rfl
  · rw [o0]
  · rw [Nat.zero_add, d1]
    exact hg
  rw [Nat.zero_add, o0]
  refine .step _ _ R1 j 0 _ (by rw [List.length_append]; omega) hR1 ?_ ?_ ?_ ?_
  · rw [o1]
    rfl
  · rw [o1]
  · rw [d3]
    exact end_gap
  rw [o1]
  exact .fin _ _ (by rw [List.length_append]; omega)
theorem read_two (t0 t1 t2 : S34) (m : List Int) (n u : Int) (kind : Int) (wd : ByteArray) (e0 : t0.f0 = 2) (e1 : t0.f1 = strOfNums m) (e2 : t1.f0 = kind) (e3 : t1.f1 = wd) (e4 : t2.f0 = 0) (hn : 0 ≤ n ∧ n ≤ 1099511627776)
    (hm : numsOf (strOfNums m) = m) (hg : getv m = (n, 0)) (hu : (u = 0 ∧ kind = 1 ∧ wd = wSteps) ∨ (u = 1 ∧ kind = 1 ∧ wd = wEpochs) ∨ (u = 2 ∧ kind = 4 ∧ wd = wPct ∧ n ≤ 100)) :
    readC [t0, t1, t2] ⟨0, 0, 0, 0⟩ = (⟨2, 0, 0, 0⟩, u, n) := by
  have p0 : peekC [t0, t1, t2] ⟨0, 0, 0, 0⟩ = (2, strOfNums m, t0.f2.f0, t0.f2.f1) := by
    show (t0.f0, t0.f1, t0.f2.f0, t0.f2.f1) = _
    rw [e0, e1]
  have p1 : peekC [t0, t1, t2] ⟨1, 0, 0, 0⟩ = (kind, wd, t1.f2.f0, t1.f2.f1) := by
    show (t1.f0, t1.f1, t1.f2.f0, t1.f2.f1) = _
    rw [e2, e3]
  have f0 : ¬ takeB [t0, t1, t2] ⟨0, 0, 0, 0⟩ 1 wRest = true := fun z => by
    have := ((takeB_iff _ _ _ _).1 z).2.1
    rw [p0] at this
    exact absurd (show (2 : Int) = 1 from this) (by decide)
  have N : numC [t0, t1, t2] ⟨0, 0, 0, 0⟩ (getv (numsOf (peekC [t0, t1, t2] ⟨0, 0, 0, 0⟩).2.1)).1 (getv (numsOf (peekC [t0, t1, t2] ⟨0, 0, 0, 0⟩).2.1)).2 0 1099511627776 = (⟨1, 0, 0, 0⟩, n) := by
    rw [p0]
    dsimp only
    rw [hm, hg]
    unfold numC
    rw [if_pos rfl, p0, if_pos rfl, if_pos rfl, if_neg (by omega)]
    rfl
  have tb : ∀ k2 t2', takeB [t0, t1, t2] ⟨1, 0, 0, 0⟩ k2 t2' = true ↔ (kind = k2 ∧ wd.toList = t2'.toList) := by
    intro k2 t2'
    rw [takeB_iff, p1]
    exact ⟨fun z => z.2, fun z => ⟨rfl, z⟩⟩
  have tk : ∀ k2 t2', takeB [t0, t1, t2] ⟨1, 0, 0, 0⟩ k2 t2' = true → takeC [t0, t1, t2] ⟨1, 0, 0, 0⟩ k2 t2' = ⟨2, 0, 0, 0⟩ := by
    intro k2 t2' h
    unfold takeC
    rw [if_pos h]
    rfl
  unfold readC
  rw [if_neg f0, N]
  unfold unitR
  rcases hu with ⟨rfl, rfl, rfl⟩ | ⟨rfl, rfl, rfl⟩ | ⟨rfl, rfl, rfl, h100⟩
  · have a := (tb 1 wSteps).2 ⟨rfl, rfl⟩
    rw [if_pos a, tk _ _ a]
  · have a := (tb 1 wEpochs).2 ⟨rfl, rfl⟩
    rw [if_neg (fun z => absurd ((tb 1 wSteps).1 z).2 (by decide +kernel)), if_pos a, tk _ _ a]
  · have a := (tb 4 wPct).2 ⟨rfl, rfl⟩
    rw [if_neg (fun z => absurd ((tb 1 wSteps).1 z).1 (by decide)), if_neg (fun z => absurd ((tb 1 wEpochs).1 z).1 (by decide)), if_pos a, if_neg (by omega), tk _ _ a]
theorem puts_end (u n : Int) (hm : mayL u n) (s : ByteArray) (T : List S34) (i : Nat) (hp : Ev (fun k => length_Put.f k u n) (s, 0)) (hr : Ev (fun k => regimenref14_Put.f k u n) s) (hs : Ev (fun k => scan_Tokens.f k s) (T, 0, 0, 0))
    (hR : readC T ⟨0, 0, 0, 0⟩ = (⟨i, 0, 0, 0⟩, u, n)) (hi : i ≤ T.length) (hk : (peekC T ⟨i, 0, 0, 0⟩).1 = 0) (hz : (peekC T ⟨0, 0, 0, 0⟩).2.1.size < 1000000) : Ev (fun k => regimenlaw14_LengthPuts.f k u n) true := by
  have r := read_ok14 T ⟨0, 0, 0, 0⟩ (Nat.zero_le _) hz
  rw [hR] at r
  unfold regimenlaw14_LengthPuts.f
  refine Ev.bind hp ?_
  refine evs (may_ok14 u n) ?_
  refine evp (decide_eq_true hm) ?_
  refine Ev.bind hs ?_
  refine evs (show cursor_New.f T = some (true, T, 0, 0, 0, 0, 0) from rfl) ?_
  refine Ev.bind r ?_
  refine evs (cur_fault T ⟨i, 0, 0, 0⟩) ?_
  refine Ev.bind hr ?_
  refine evp rfl ?_
  refine evp rfl ?_
  refine evp rfl ?_
  refine evp (by simp) ?_
  refine evp rfl ?_
  refine evs (cur_peek T ⟨i, 0, 0, 0⟩ hi) ?_
  refine evp hk ?_
  exact Ev.bind awake14p (Ev.now _)
theorem LengthPuts : regimenlaw14_LengthPuts.Pure := by
  intro u n hu hn
  refine Ev.rounds (r := true) ?_
  by_cases hm : mayL u n
  · have hm' : 0 ≤ n ∧ n ≤ 1099511627776 ∧ 0 ≤ u ∧ u ≤ 3 ∧ (u = 2 → n ≤ 100) ∧ (u = 3 → n = 0) := hm
    have nput : Ev (fun k => num_Put.f k n) (strOfNums (dig 20 n []), 0) := by
      unfold num_Put.f
      refine evn (by omega) ?_
      refine evn (by omega) ?_
      rw [show IntKind.u64.wrap n = n from u64_id hm'.1 (by omega)]
      exact Ev.bind (digits_ok hm'.1 (by omega)) (Ev.now _)
    have ntext : Ev (fun k => regimenref01_Text.f k n) (strOfNums (dig 20 n [])) := text_ok hm'.1 (by omega)
    obtain ⟨gv, nm, _⟩ := get_of hm'.1 hm'.2.1
    obtain ⟨m, em, l0, l1, hd, hv, hz⟩ := dig_props 19 n [] hm'.1 (by have := p20; omega)
    rw [List.append_nil] at em
    have em' : dig 20 n [] = m := em
    rw [em'] at nput ntext gv nm
    have sz : (strOfNums m).size = m.length := strOfNums_size m
    by_cases u3 : u = 3
    · have n0 := hm'.2.2.2.2.2 u3
      subst u3
      subst n0
      have hR : ∃ t0 t1 : S34, TokR [114, 101, 115, 116] 0 [] ([t0, t1], 0, 0, 0) ∧ t0.f0 = 1 ∧ t0.f1 = wRest ∧ t1.f0 = 0 := by
        obtain ⟨R0, hR0⟩ := ReadV.ex (([114, 101, 115, 116] : List Int).drop 0)
        have o0 : oneV (([114, 101, 115, 116] : List Int).drop 0) R0 = (1, wRest, 4, 0) := by
          unfold oneV
          rw [if_pos (by decide)]
          decide +kernel
        refine ⟨tokAt [114, 101, 115, 116] 0 (1, wRest, 4, 0), tokAt [114, 101, 115, 116] (0 + 4 + 0) (0, ⟨#[]⟩, 0, 0), ?_, rfl, rfl, rfl⟩
        refine .step 0 [] R0 4 0 _ (by decide) hR0 ?_ ?_ ?_ ?_
        · rw [o0]
          rfl
        · rw [o0]
          rfl
        · exact end_gap
        rw [o0]
        exact .fin _ _ (by decide)
      obtain ⟨t0, t1, tR, e0, e1, e2⟩ := hR
      have p0 : peekC [t0, t1] ⟨0, 0, 0, 0⟩ = (1, wRest, t0.f2.f0, t0.f2.f1) := by
        show (t0.f0, t0.f1, t0.f2.f0, t0.f2.f1) = _
        rw [e0, e1]
      have tb : takeB [t0, t1] ⟨0, 0, 0, 0⟩ 1 wRest = true := by
        rw [takeB_iff, p0]
        exact ⟨rfl, rfl, rfl⟩
      refine puts_end 3 0 hm wRest [t0, t1] 1 ?_ ?_ ?_ ?_ (show 1 ≤ 2 by decide) e2 (by rw [p0]; show wRest.size < _; decide)
      · unfold length_Put.f
        refine Ev.bind (check_ok14 3 0) ?_
        refine evp (if_pos hm) ?_
        refine Ev.bind nput ?_
        refine evn (by decide) ?_
        refine evn (by decide) ?_
        exact evn (by decide) (Ev.now _)
      · unfold regimenref14_Put.f
        exact evp rfl (Ev.now _)
      · exact scan_tokens_ok wRest (by decide) (g := 0) (.stop _ (by decide)) tR
      · unfold readC takeC
        rw [if_pos tb, if_pos tb]
        rfl
    · have key : ∀ (w : List Int) (kind : Int) (wd : ByteArray) (g j : Nat), (∀ x, x ∈ w → 0 ≤ x ∧ x < 256) → w.length ≤ 10 → (w = [] ∨ ¬ isDig (w.getD 0 0)) → (atv w 0 = 0 ∨ 4 < atv w 0) → GapR w g → g + j = w.length → 0 < j → (∀ R, oneV (w.drop g) R = (kind, wd, (j : Int), 0)) →
          ((u = 0 ∧ kind = 1 ∧ wd = wSteps) ∨ (u = 1 ∧ kind = 1 ∧ wd = wEpochs) ∨ (u = 2 ∧ kind = 4 ∧ wd = wPct ∧ n ≤ 100)) → Ev (fun k => length_Put.f k u n) (strOfNums m ++ strOfNums w, 0) → Ev (fun k => regimenref14_Put.f k u n) (strOfNums m ++ strOfNums w) → Ev (fun k => regimenlaw14_LengthPuts.f k u n) true := by
        intro w kind wd g j hb hwl hw ha hg hl hj ho hu' hp hr
        obtain ⟨t0, t1, t2, tR, e0, e1, e2, e3, e4⟩ := two_tokens m w g j kind wd hd l0 l1 hz hw ha hg hl hj ho
        have nn : numsOf (strOfNums m ++ strOfNums w) = m ++ w := by
          rw [nums_app, nm, nums_str hb]
        refine puts_end u n hm _ [t0, t1, t2] 2 hp hr ?_ (read_two t0 t1 t2 m n u kind wd e0 e1 e2 e3 e4 ⟨hm'.1, hm'.2.1⟩ nm gv hu') (show 2 ≤ 3 by decide) e4 ?_
        · refine scan_tokens_ok _ (by rw [ByteArray.size_append, sz, strOfNums_size]; omega) (g := 0) ?_ ?_
          · rw [nn]
            refine .stop _ ?_
            have e : atv (m ++ w) 0 = cls ((m ++ w).getD 0 0) := if_pos (by rw [List.length_append]; omega)
            have g0 : (m ++ w).getD 0 0 = m.getD 0 0 := by
              rw [List.getD_eq_getElem?_getD, List.getD_eq_getElem?_getD, List.getElem?_append_left l0]
            have c2 : cls (m.getD 0 0) = 2 := by
              rw [cls_2]
              cases m with
              | nil => simp at l0
              | cons x t => exact hd x (List.mem_cons_self ..)
            rw [e, g0, c2]
            decide
          · rw [nn]
            exact tR
        · show (t0.f1).size < _
          rw [e1, sz]
          omega
      have hu012 : u = 0 ∨ u = 1 ∨ u = 2 := by omega
      rcases hu012 with rfl | rfl | rfl
      · refine key [32, 115, 116, 101, 112, 115] 1 wSteps 1 5 (by decide) (by decide) (.inr (by decide)) (.inr (by decide)) (.blank _ 0 (by decide) (.stop _ (by decide))) rfl (by decide) (fun R => ?_) (.inl ⟨rfl, rfl, rfl⟩) ?_ ?_
        · unfold oneV
          rw [if_pos (by decide)]
          decide +kernel
        · unfold length_Put.f
          refine Ev.bind (check_ok14 0 n) ?_
          refine evp (if_pos hm) ?_
          refine Ev.bind nput ?_
          refine evp rfl ?_
          refine evp (by dsimp only; omega) ?_
          exact Ev.now _
        · unfold regimenref14_Put.f
          refine evn (by decide) ?_
          refine Ev.bind ntext ?_
          refine evs rfl ?_
          refine evp (by decide) ?_
          refine evp (by decide) ?_
          refine evp (by show (strOfNums m).size + 6 ≤ _; omega) ?_
          exact Ev.now _
      · refine key [32, 101, 112, 111, 99, 104, 115] 1 wEpochs 1 6 (by decide) (by decide) (.inr (by decide)) (.inr (by decide)) (.blank _ 0 (by decide) (.stop _ (by decide))) rfl (by decide) (fun R => ?_) (.inr (.inl ⟨rfl, rfl, rfl⟩)) ?_ ?_
        · unfold oneV
          rw [if_pos (by decide)]
          decide +kernel
        · unfold length_Put.f
          refine Ev.bind (check_ok14 1 n) ?_
          refine evp (if_pos hm) ?_
          refine Ev.bind nput ?_
          refine evn (by decide) ?_
          refine evp rfl ?_
          refine evp (by dsimp only; omega) ?_
          exact Ev.now _
        · unfold regimenref14_Put.f
          refine evn (by decide) ?_
          refine Ev.bind ntext ?_
          refine evs rfl ?_
          refine evp (by decide) ?_
          refine evp (by decide) ?_
          refine evp (by show (strOfNums m).size + 7 ≤ _; omega) ?_
          exact Ev.now _
      · refine key [37] 4 wPct 0 1 (by decide) (by decide) (.inr (by decide)) (.inr (by decide)) (.stop _ (by decide)) rfl (by decide) (fun R => ?_) (.inr (.inr ⟨rfl, rfl, rfl, hm'.2.2.2.2.1 rfl⟩)) ?_ ?_
        · unfold oneV
          rw [if_neg (by decide), if_neg (by decide), if_neg (by decide), if_pos (by decide)]
          decide +kernel
        · unfold length_Put.f
          refine Ev.bind (check_ok14 2 n) ?_
          refine evp (if_pos hm) ?_
          refine Ev.bind nput ?_
          refine evn (by decide) ?_
          refine evn (by decide) ?_
          refine evp rfl ?_
          refine evp (by dsimp only; omega) ?_
          exact Ev.now _
        · unfold regimenref14_Put.f
          refine evn (by decide) ?_
          refine Ev.bind ntext ?_
          refine evs rfl ?_
          refine evp (by decide) ?_
          refine evp (by decide) ?_
          refine evp (by show (strOfNums m).size + 1 ≤ _; omega) ?_
          exact Ev.now _
  · unfold regimenlaw14_LengthPuts.f
    have hp : Ev (fun k => length_Put.f k u n) ((⟨#[]⟩ : ByteArray), 1) := by
      unfold length_Put.f
      have ck := check_ok14 u n
      rw [if_neg hm] at ck
      refine Ev.bind ck ?_
      exact evn (by decide) (Ev.now _)
    refine Ev.bind hp ?_
    refine evs (may_ok14 u n) ?_
    refine evn (by simpa using hm) ?_
    refine evp (show (⟨#[]⟩ : ByteArray).toList = [] by decide +kernel) ?_
    refine evp rfl ?_
    exact Ev.bind awake14p (Ev.now _)
end Go.Proofs.Ytnmmhfpekeeedaa.Pure
