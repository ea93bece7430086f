/- A row of marks: as many tokens as a text may have, and one more. -/
import Derived.Test.YtnmmhfpekeeedaaPSx0
import Derived.Test.YtnmmhfpekeeedaaPSx6
import Derived.Test.YtnmmhfpekeeedaaPSx12
import Derived.Test.YtnmmhfpekeeedaaSScan
namespace Go.Proofs.Ytnmmhfpekeeedaa.Pure
set_option linter.unusedVariables false
open Go.RowKit Go.Proofs.Ytnmmhfpekeeedaa.PS Go.Proofs.Ytnmmhfpekeeedaa.Num Go.Proofs.YtnmmhfpekeeedaaW.PrintWords Go.Proofs.YtnmmhfpekeeedaaW.PrintLast Go.Proofs.YtnmmhfpekeeedaaW.PrintMore

theorem awakeF : Ev (fun k => regimenlaw12_awake.f k) true := Ev.of (fun k => regimenlaw12_awake.mono k) (k := 200) (by decide +kernel)
theorem marks_b (N : Nat) : ∀ x, x ∈ List.replicate N (59 : Int) → 0 ≤ x ∧ x < 256 := by
  intro x h
  rw [List.eq_of_mem_replicate h]
  decide
theorem marks_at (m : Nat) (h : 0 < m) : atv (List.replicate m (59 : Int)) 0 = 5 := by
  unfold atv
  rw [if_pos (by rw [List.length_replicate]; exact h)]
  obtain ⟨q, rfl⟩ : ∃ q, m = q + 1 := ⟨m - 1, by omega⟩
  rfl
theorem marks_gap (m : Nat) : GapR (List.replicate m (59 : Int)) 0 := by
  refine .stop _ ?_
  rcases Nat.eq_zero_or_pos m with e | e
  · subst e
    decide
  · rw [marks_at m e]
    decide
theorem marks_pos (n : Nat) : ∀ p : Int × Int, posv p (List.replicate n (59 : Int)) = (p.1, p.2 + n) := by
  induction n with
  | zero => intro p; simp [posv]
  | succ n ih =>
    intro p
    have e : posv p (List.replicate (n + 1) (59 : Int)) = posv (stepP p 59) (List.replicate n 59) := rfl
    rw [e, ih]
    have q : stepP p 59 = (p.1, p.2 + 1) := if_neg (by decide)
    rw [q]
    refine Prod.ext rfl ?_
    show p.2 + 1 + (n : Int) = p.2 + ((n + 1 : Nat) : Int)
    omega
theorem marks_one (m : Nat) (h : 0 < m) (R : ByteArray × Int) : oneV (List.replicate m (59 : Int)) R = (4, strOfNums [59], 1, 0) := by
  obtain ⟨q, rfl⟩ : ∃ q, m = q + 1 := ⟨m - 1, by omega⟩
  unfold oneV
  rw [marks_at _ h, if_neg (by decide), if_neg (by decide), if_neg (by decide), if_pos rfl]
  have e : (List.replicate (q + 1) (59 : Int)).take 1 = [59] := rfl
  rw [e]
  decide +kernel
theorem marks_few (N : Nat) (hN : N ≤ 4000) (d : Nat) : ∀ (p : Nat) (acc : List S34), p + d = N → acc.length = p →
    ∃ l : List S34, l.length = N ∧ TokR (List.replicate N 59) p acc (l ++ [tokAt (List.replicate N 59) N (0, ⟨#[]⟩, 0, 0)], 0, 0, 0) := by
  induction d with
  | zero =>
    intro p acc h ha
    obtain rfl : p = N := by omega
    exact ⟨acc, ha, .fin p acc (by rw [List.length_replicate]; omega)⟩
  | succ d ih =>
    intro p acc h ha
    have ed : (List.replicate N (59 : Int)).drop p = List.replicate (N - p) 59 := List.drop_replicate
    have ed1 : (List.replicate N (59 : Int)).drop (p + 1) = List.replicate (N - (p + 1)) 59 := List.drop_replicate
    obtain ⟨R, hR⟩ := ReadV.ex ((List.replicate N (59 : Int)).drop p)
    have o := marks_one (N - p) (by omega) R
    obtain ⟨l, hl, r⟩ := ih (p + 1) (acc ++ [tokAt (List.replicate N 59) p (oneV ((List.replicate N 59).drop p) R)]) (by omega) (by rw [List.length_append, List.length_singleton, ha])
    refine ⟨l, hl, .step p acc R 1 0 _ (by rw [List.length_replicate]; omega) hR ?_ ?_ ?_ ?_⟩
    · rw [ed, o]
      unfold errE
      rw [if_neg (by omega)]
    · rw [ed, o]
      rfl
    · rw [ed1]
      exact marks_gap _
    · exact r
theorem marks_many (N : Nat) (hN : 4000 < N) (d : Nat) : ∀ (p : Nat) (acc : List S34), p + d = 4000 → acc.length = p →
    TokR (List.replicate N 59) p acc ([], 1, 4001, 9) := by
  induction d with
  | zero =>
    intro p acc h ha
    obtain rfl : p = 4000 := by omega
    have ed : (List.replicate N (59 : Int)).drop 4000 = List.replicate (N - 4000) 59 := List.drop_replicate
    have et : (List.replicate N (59 : Int)).take 4000 = List.replicate 4000 59 := by rw [List.take_replicate, Nat.min_eq_left (by omega)]
    obtain ⟨R, hR⟩ := ReadV.ex ((List.replicate N (59 : Int)).drop 4000)
    have o := marks_one (N - 4000) (by omega) R
    have e9 : errE acc (oneV ((List.replicate N (59 : Int)).drop 4000) R) = 9 := by
      rw [ed, o]
      unfold errE
      rw [if_pos ⟨rfl, ha⟩]
    have r := TokR.err (L := List.replicate N (59 : Int)) 4000 acc R (by rw [List.length_replicate]; omega) hR (by rw [e9]; decide)
    rw [e9, et, marks_pos] at r
    exact r
  | succ d ih =>
    intro p acc h ha
    have ed : (List.replicate N (59 : Int)).drop p = List.replicate (N - p) 59 := List.drop_replicate
    have ed1 : (List.replicate N (59 : Int)).drop (p + 1) = List.replicate (N - (p + 1)) 59 := List.drop_replicate
    obtain ⟨R, hR⟩ := ReadV.ex ((List.replicate N (59 : Int)).drop p)
    have o := marks_one (N - p) (by omega) R
    have r := ih (p + 1) (acc ++ [tokAt (List.replicate N 59) p (oneV ((List.replicate N 59).drop p) R)]) (by omega) (by rw [List.length_append, List.length_singleton, ha])
    refine .step p acc R 1 0 _ (by rw [List.length_replicate]; omega) hR ?_ ?_ ?_ r
    · rw [ed, o]
      unfold errE
      rw [if_neg (by omega)]
    · rw [ed, o]
      rfl
    · rw [ed1]
      exact marks_gap _
theorem marks_set (i e : Nat) : (List.replicate i (59 : Int) ++ List.replicate (e + 1) 0).set i 59 = List.replicate (i + 1) 59 ++ List.replicate e 0 := by
  rw [List.set_append, if_neg (by rw [List.length_replicate]; omega), List.length_replicate, Nat.sub_self, List.replicate_succ, List.set_cons_zero, List.replicate_succ', List.append_assoc]
  rfl
theorem marks_end (N : Nat) (hN : N ≤ 4100) : Ev (fun k => regimenlaw12_ScanFull.l0 k (N : Int) (List.replicate N 59) (N : Int)) true := by
  have sz : (strOfNums (List.replicate N 59)).size = N := by rw [strOfNums_size, List.length_replicate]
  have nn := nums_str (marks_b N)
  refine Ev.step (fun k => by rw [regimenlaw12_ScanFull.l0]) ?_
  refine evn (by rw [List.length_replicate]; omega) ?_
  have key : ∀ Z : List S34 × Int × Int × Int, TokR (List.replicate N 59) 0 [] Z → Ev (fun k => scan_Tokens.f k (strOfNums (List.replicate N 59))) Z := by
    intro Z h
    refine scan_tokens_ok _ (by omega) (g := 0) ?_ ?_
    · rw [nn]
      exact marks_gap N
    · rw [nn]
      exact h
  by_cases c : (N : Int) > 4000
  · refine Ev.bind (key _ (marks_many N (by omega) 4000 0 [] rfl rfl)) ?_
    refine evp c ?_
    refine evp rfl ?_
    refine evp (by decide) ?_
    refine evp rfl ?_
    exact Ev.bind awakeF (Ev.now _)
  · obtain ⟨l, hl, r⟩ := marks_few N (by omega) N 0 [] (by omega) rfl
    refine Ev.bind (key _ r) ?_
    refine evn c ?_
    have e1 : wrap64 (N : Int) = (N : Int) := w64_id (by omega) (by omega)
    have e2 : wrap64 (wrap64 (N : Int) + 1) = (N : Int) + 1 := by rw [e1]; exact w64_id (by omega) (by omega)
    have ln : (((l ++ [tokAt (List.replicate N 59) N (0, ⟨#[]⟩, 0, 0)]).length : Nat) : Int) = (N : Int) + 1 := by rw [List.length_append, List.length_singleton, hl]; omega
    have e3 : wrap64 ((N : Int) + 1 - 1) = (N : Int) := by rw [w64_id (by omega) (by omega)]; omega
    have rd : rd_T34 (l ++ [tokAt (List.replicate N 59) N (0, ⟨#[]⟩, 0, 0)]) (N : Int) = tokAt (List.replicate N 59) N (0, ⟨#[]⟩, 0, 0) := by
      unfold rd_T34
      rw [Int.toNat_natCast, List.getD_eq_getElem?_getD, List.getElem?_append_right (by omega), hl, Nat.sub_self]
      rfl
    have tk : tokAt (List.replicate N 59) N (0, ⟨#[]⟩, 0, 0) = ⟨0, ⟨#[]⟩, ⟨1, (N : Int) + 1⟩⟩ := by
      unfold tokAt
      rw [List.take_of_length_le (by rw [List.length_replicate]; exact Nat.le_refl _), marks_pos]
      show S34.mk _ _ ⟨1, 1 + (N : Int)⟩ = _
      rw [Int.add_comm]
    refine evp (by rw [e2]; exact ln) ?_
    refine evp rfl ?_
    refine evp rfl ?_
    dsimp only
    rw [ln, e3, e2, rd, tk]
    refine evp (by omega) ?_
    refine evp (by omega) ?_
    refine evp (by simp) ?_
    exact Ev.bind awakeF (Ev.now _)
theorem marks_loop (N : Nat) (hN : N ≤ 4100) (e : Nat) : ∀ i : Nat, i + e = N → Ev (fun k => regimenlaw12_ScanFull.l0 k (N : Int) (List.replicate i 59 ++ List.replicate e 0) (i : Int)) true := by
  induction e with
  | zero =>
    intro i h
    obtain rfl : i = N := by omega
    have := marks_end i hN
    rw [List.replicate_zero, List.append_nil]
    exact this
  | succ e ih =>
    intro i h
    have nx := ih (i + 1) (by omega)
    refine Ev.step (fun k => by rw [regimenlaw12_ScanFull.l0]) ?_
    refine evp (by rw [List.length_append, List.length_replicate, List.length_replicate]; omega) ?_
    refine evp (by omega) ?_
    rw [Int.toNat_natCast, marks_set, w64_succ (by omega)]
    exact nx
theorem ScanFull : regimenlaw12_ScanFull.Pure := by
  intro a ha
  have hu : 0 ≤ a ∧ a < 65536 := by
    simp [Lit.wf, IntKind.min, IntKind.max, IntKind.bits, IntKind.signed] at ha
    omega
  refine Ev.rounds (r := true) ?_
  unfold regimenlaw12_ScanFull.f
  by_cases c : a > 4100
  · exact evp c (Ev.bind awakeF (Ev.now _))
  · obtain ⟨N, rfl⟩ : ∃ N : Nat, a = (N : Int) := ⟨a.toNat, by omega⟩
    have e1 : wrap64 (N : Int) = (N : Int) := w64_id (by omega) (by omega)
    refine evn c ?_
    rw [e1, Int.toNat_natCast]
    refine evp (by omega) ?_
    refine evp (by omega) ?_
    have := marks_loop N (by omega) N 0 (by omega)
    rw [List.replicate_zero, List.nil_append] at this
    exact this
end Go.Proofs.Ytnmmhfpekeeedaa.Pure
