/- The functions that these laws reach, each told by the evaluator: its plain text, and that a call of it comes to what the text says. What a Go value that can be read as data holds, told plainly: for the rows of laws. Numbers as digits to the base 2^16, the lowest first: plain facts on lists, no program. Texts as lists of bytes, by value. Counts as digits (layer 1): the program's and the reference's, by value. Which count a text is, and any number's digits (layer 1): the reference's, by value. What the reference's functions on digits (layer 2) come to: sums, products, differences, comparisons. What the functions on numbers of 128 bits (layer 2) come to: by their value, low + 2^64 * high. Shifts of numbers of 128 bits, and how many bits they have. The quotient of a number of 128 bits by a word, as math/bits makes it: for every dividend whose high word is below the divisor. Quotients, cut and rounded (layer 3): the program's and the reference's, by value. Products, quotients and sums of fixed-point numbers (layer 4): the program's and the reference's, by value. Plain facts on rounding and on fixed-point products: no program. Numbers as decimals (layer 5): plain facts on rounding and digits, no program. Numbers as decimals (layer 5): the program's, by value. Numbers as decimals (layer 5): the reference's reading, by value. -/
import Derived.Test.YtcgdhpnobgimfaaMTT5
import Derived.Test.YtcgdhpnobgimfaaMTT1
import Derived.ProofKit
import Derived.OpenShut
import Derived.SizedLaws
import Derived.Deep.Slices
import Derived.Test.YtcgdhpnobgimfaaMTT4
import Derived.Laws.BitsAllLaws
section
namespace Go.Proofs.Ytcgdhpnobgimfaa.PT
open Go Go.Sym Go.Proofs Go.RowKit Go.Proofs.YtcgdhpnobgimfaaW.PrintWords
set_option maxRecDepth 100000
set_option linter.unusedVariables false
set_option linter.unusedSimpArgs false
def regimenref02_Less.c : Sym.Callee := ⟨(.cons (.sl (.int .u64)) (.cons (.sl (.int .u64)) .nil)), (.sl (.int .u64)), false, List Int, fun k x => regimenref02_Less.f k x.1 x.2.1, fun z => z, []⟩
def regimenref02_Less.nl0 (k : Nat) (x0 : List Int) (x1 : List Int) (x5 : List Int) (x6 : Int) (x7 : Int) : Option (List Int) := (if x7 < (x0.length : Int) then (if 0 ≤ x7 then (if x7 < (x0.length : Int) then ((regimenref02_digit.f x1 x7).bind fun t1 => (if (65536 : Int) = 0 then none else (if (x5.length + [(Int.tmod (IntKind.wrap .u64 ((IntKind.wrap .u64 ((IntKind.wrap .u64 ((65536 : Int) + (x0.getD (x7).toNat 0))) - t1)) - x6)) (65536 : Int))].length) * 8 ≤ 140737488355328 then (if (65536 : Int) = 0 then none else (regimenref02_Less.l0 k x0 x1 (x5 ++ [(Int.tmod (IntKind.wrap .u64 ((IntKind.wrap .u64 ((IntKind.wrap .u64 ((65536 : Int) + (x0.getD (x7).toNat 0))) - t1)) - x6)) (65536 : Int))]) (IntKind.wrap .u64 ((1 : Int) - (IntKind.wrap .u64 (Int.tdiv (IntKind.wrap .u64 ((IntKind.wrap .u64 ((IntKind.wrap .u64 ((65536 : Int) + (x0.getD (x7).toNat 0))) - t1)) - x6)) (65536 : Int))))) (wrap64 (x7 + (1 : Int))))) else none))) else none) else none) else (some x5))
def regimenref02_Less.nf (k : Nat) (a0 : List Int) (a1 : List Int) : Option (List Int) := (regimenref02_Less.l0 k a0 a1 ([] : List Int) (0 : Int) (0 : Int))
noncomputable def regimenref02_Less.E : Env (List Int) := envOf tab Try.f89 false (.sl (.int .u64)) [] (fun y => y) [(111, regimenref02_digit.c)] [⟨4, ⟨36, [(0, (.sl (.int .u64)), []), (1, (.sl (.int .u64)), []), (5, (.sl (.int .u64)), [⟨0, 6, 93, 1⟩]), (6, (.int .u64), []), (7, (.int .i64), [])], [], []⟩, fun k y => regimenref02_Less.l0 k y.1.1 y.1.2.1 y.1.2.2.1 y.1.2.2.2.1 y.1.2.2.2.2.1⟩] []
theorem regimenref02_Less.h1 : obls regimenref02_Less.E Try.f89 = [⟨(.cons (.cons (.sl (.int .u64)) (.cons (.sl (.int .u64)) (.cons (.sl (.int .u64)) (.cons (.int .u64) (.cons (.int .i64) .nil))))) (.cons .nil (.cons .nil .nil))), fun k y => regimenref02_Less.l0 (k + 1) y.1.1 y.1.2.1 y.1.2.2.1 y.1.2.2.2.1 y.1.2.2.2.2.1, fun k y => regimenref02_Less.nl0 k y.1.1 y.1.2.1 y.1.2.2.1 y.1.2.2.2.1 y.1.2.2.2.2.1⟩, ⟨(.cons (.cons (.sl (.int .u64)) (.cons (.sl (.int .u64)) (.cons (.sl (.int .u64)) (.cons (.int .u64) (.cons (.int .i64) .nil))))) (.cons .nil (.cons .nil .nil))), fun _ y => regimenref02_Less.l0 0 y.1.1 y.1.2.1 y.1.2.2.1 y.1.2.2.2.1 y.1.2.2.2.2.1, fun _ _ => none⟩] := by kernel_rfl
theorem regimenref02_Less.h2 : (fun k (x : El (.cons (.sl (.int .u64)) (.cons (.sl (.int .u64)) .nil))) => regimenref02_Less.nf k x.1 x.2.1) = fun k x => mainK regimenref02_Less.E Try.f89 (.cons (.sl (.int .u64)) (.cons (.sl (.int .u64)) .nil)) k x := by kernel_rfl
theorem regimenref02_Less.bl0 (k : Nat) (x0 : List Int) (x1 : List Int) (x5 : List Int) (x6 : Int) (x7 : Int) : Lo (regimenref02_Less.l0 (k + 1) x0 x1 x5 x6 x7) (regimenref02_Less.nl0 k x0 x1 x5 x6 x7) := by
  rw [regimenref02_Less.l0]
  unfold regimenref02_Less.nl0
  try simp only [Bool.false_xor, Bool.true_xor, wu8_64, wu8_u64, byL_nums, btS_bt, nil_tl, beq_decL, beq_decI]
  repeat' first
    | (with_reducible exact lo_refl _)
    | exact lo_none _
    | (with_reducible refine lo_lpos (by first | assumption | decide) ?_)
    | (with_reducible refine lo_lneg (by first | assumption | decide) ?_)
    | (with_reducible refine lo_ite (fun _ => ?_) (fun _ => ?_))
    | (with_reducible refine lo_bind (fun _ => ?_))
    | (with_reducible refine lo_left ?_)
    | (refine lo_neg (by decide) ?_)
    | (refine lo_pos (by first | assumption | omega) ?_)
    | (refine lo_neg (by first | assumption | omega) ?_)
    | (with_reducible refine lo_test (fun _ => by first | assumption | omega | (simp only [List.length_cons, List.length_nil]; omega) | decide) (fun _ => ?_))
    | (with_reducible refine lo_testn (fun _ => by first | assumption | omega) (fun _ => ?_))
    | (with_reducible refine lo_and (fun z => by first | exact z.1 | omega) (fun z => by first | exact z.2 | omega) (fun _ => ?_))
    | exact lo_refl _
    | (with_reducible refine lo_iff (by first | exact Iff.rfl | omega | (simp; done) | decide) (fun _ => ?_) (fun _ => ?_))
    | (with_reducible refine lo_iffn (by first | exact Iff.rfl | omega | (simp; done) | decide) (fun _ => ?_) (fun _ => ?_))
    | refine lo_ite (fun _ => ?_) (fun _ => ?_)
    | refine lo_bind (fun _ => ?_)
    | (refine lo_some ?_; first | rfl | (rw [Bool.false_xor]; rfl) | (rw [Bool.true_xor]; rfl) | (simp only [Bool.and_true]; rfl) | (simp; done))
    | (simp only [Int.zero_sub]; exact lo_refl _)
    | (with_reducible refine lo_lpos (by omega) ?_)
    | (with_reducible refine lo_lneg (by omega) ?_)
    | (with_reducible refine lo_lite (fun _ => ?_) (fun _ => ?_))
    | (with_reducible refine lo_rite (fun _ => ?_) (fun _ => ?_))
  all_goals (exfalso; first | omega | (simp_all; done) | (simp_all; omega))
set_option maxHeartbeats 2000000 in
theorem regimenref02_Less.bf (k : Nat) (a0 : List Int) (a1 : List Int) : Lo (regimenref02_Less.f k a0 a1) (regimenref02_Less.nf k a0 a1) := by
  unfold regimenref02_Less.f regimenref02_Less.nf
  try simp only [Bool.false_xor, Bool.true_xor, wu8_64, wu8_u64, byL_nums, btS_bt, nil_tl, beq_decL, beq_decI]
  repeat' first
    | (with_reducible exact lo_refl _)
    | exact lo_none _
    | (with_reducible refine lo_lpos (by first | assumption | decide) ?_)
    | (with_reducible refine lo_lneg (by first | assumption | decide) ?_)
    | (with_reducible refine lo_ite (fun _ => ?_) (fun _ => ?_))
    | (with_reducible refine lo_bind (fun _ => ?_))
    | (with_reducible refine lo_left ?_)
    | (refine lo_neg (by decide) ?_)
    | (refine lo_pos (by first | assumption | omega) ?_)
    | (refine lo_neg (by first | assumption | omega) ?_)
    | (with_reducible refine lo_test (fun _ => by first | assumption | omega | (simp only [List.length_cons, List.length_nil]; omega) | decide) (fun _ => ?_))
    | (with_reducible refine lo_testn (fun _ => by first | assumption | omega) (fun _ => ?_))
    | (with_reducible refine lo_and (fun z => by first | exact z.1 | omega) (fun z => by first | exact z.2 | omega) (fun _ => ?_))
    | exact lo_refl _
    | (with_reducible refine lo_iff (by first | exact Iff.rfl | omega | (simp; done) | decide) (fun _ => ?_) (fun _ => ?_))
    | (with_reducible refine lo_iffn (by first | exact Iff.rfl | omega | (simp; done) | decide) (fun _ => ?_) (fun _ => ?_))
    | refine lo_ite (fun _ => ?_) (fun _ => ?_)
    | refine lo_bind (fun _ => ?_)
    | (refine lo_some ?_; first | rfl | (rw [Bool.false_xor]; rfl) | (rw [Bool.true_xor]; rfl) | (simp only [Bool.and_true]; rfl) | (simp; done))
    | (simp only [Int.zero_sub]; exact lo_refl _)
    | (with_reducible refine lo_lpos (by omega) ?_)
    | (with_reducible refine lo_lneg (by omega) ?_)
    | (with_reducible refine lo_lite (fun _ => ?_) (fun _ => ?_))
    | (with_reducible refine lo_rite (fun _ => ?_) (fun _ => ?_))
  all_goals (exfalso; first | omega | (simp_all; done) | (simp_all; omega))
theorem regimenref02_Less.al : AllLe (obls regimenref02_Less.E Try.f89) := by
  rw [regimenref02_Less.h1]
  exact (.cons (fun k y r h => regimenref02_Less.bl0 k y.1.1 y.1.2.1 y.1.2.2.1 y.1.2.2.2.1 y.1.2.2.2.2.1 r h) (.cons (fun _ y r h => by simp [regimenref02_Less.l0] at h) .nil))
theorem regimenref02_Less.ok : CalleeOk Try.prog 89 regimenref02_Less.c := fn_ok tabOk mixed (fun _ => rfl) Try.func89 rfl (by kernel_rfl) (ok_cons regimenref02_digit.ok ok_nil) regimenref02_Less.al (fun k x r h => (congrFun (congrFun regimenref02_Less.h2 k) x).symm.trans (regimenref02_Less.bf k _ _ r h))
def regimenref03_Quotient.c : Sym.Callee := ⟨(.cons (.sl (.int .u64)) (.cons (.sl (.int .u64)) .nil)), (.sl (.int .u64)), false, List Int, fun k x => regimenref03_Quotient.f k x.1 x.2.1, fun z => z, []⟩
def regimenref03_Quotient.nl0 (k : Nat) (x0 : List Int) (x1 : List Int) (x5 : List Int) (x6 : List Int) (x7 : Int) : Option (List Int) := (if x7 ≥ (0 : Int) then (regimenref03_Quotient.l1 k x0 x1 x5 x6 x7 (0 : Int)) else (some x5))
def regimenref03_Quotient.nl1 (k : Nat) (x0 : List Int) (x1 : List Int) (x5 : List Int) (x6 : List Int) (x7 : Int) (x8 : Int) : Option (List Int) := (if x8 < (16 : Int) then (if 0 ≤ x7 then (if x7 < (x0.length : Int) then (regimenref03_Quotient.l2 k x0 x1 x5 x6 x7 x8 (x0.getD (x7).toNat 0) x8) else none) else none) else (regimenref03_Quotient.l0 k x0 x1 x5 x6 (wrap64 (x7 - (1 : Int)))))
def regimenref03_Quotient.nl2 (k : Nat) (x0 : List Int) (x1 : List Int) (x5 : List Int) (x6 : List Int) (x7 : Int) (x8 : Int) (x9 : Int) (x10 : Int) : Option (List Int) := (if x10 < (15 : Int) then (if (2 : Int) = 0 then none else (regimenref03_Quotient.l2 k x0 x1 x5 x6 x7 x8 (IntKind.wrap .u64 (Int.tdiv x9 (2 : Int))) (wrap64 (x10 + (1 : Int))))) else ((regimenref02_Plus.f k x6 x6).bind fun t1 => (if (2 : Int) = 0 then none else ((regimenref02_Plus.f k t1 [(Int.tmod x9 (2 : Int))]).bind fun t2 => ((regimenref02_Plus.f k x5 x5).bind fun t3 => ((regimenref02_Cmp.f k t2 x1).bind fun t4 => (if t4 ≥ (0 : Int) then ((regimenref02_Less.f k t2 x1).bind fun t5 => ((regimenref02_Plus.f k t3 [(1 : Int)]).bind fun t6 => (regimenref03_Quotient.l1 k x0 x1 t6 t5 x7 (wrap64 (x8 + (1 : Int)))))) else (regimenref03_Quotient.l1 k x0 x1 t3 t2 x7 (wrap64 (x8 + (1 : Int)))))))))))
def regimenref03_Quotient.nf (k : Nat) (a0 : List Int) (a1 : List Int) : Option (List Int) := (regimenref03_Quotient.l0 k a0 a1 ([] : List Int) ([] : List Int) (wrap64 ((a0.length : Int) - (1 : Int))))
noncomputable def regimenref03_Quotient.E : Env (List Int) := envOf tab Try.f88 false (.sl (.int .u64)) [] (fun y => y) [(90, regimenref02_Plus.c), (78, regimenref02_Cmp.c), (89, regimenref02_Less.c)] [⟨4, ⟨56, [(0, (.sl (.int .u64)), []), (1, (.sl (.int .u64)), []), (5, (.sl (.int .u64)), []), (6, (.sl (.int .u64)), []), (7, (.int .i64), [])], [], []⟩, fun k y => regimenref03_Quotient.l0 k y.1.1 y.1.2.1 y.1.2.2.1 y.1.2.2.2.1 y.1.2.2.2.2.1⟩, ⟨7, ⟨56, [(0, (.sl (.int .u64)), []), (1, (.sl (.int .u64)), []), (5, (.sl (.int .u64)), []), (6, (.sl (.int .u64)), []), (7, (.int .i64), []), (8, (.int .i64), [])], [], []⟩, fun k y => regimenref03_Quotient.l1 k y.1.1 y.1.2.1 y.1.2.2.1 y.1.2.2.2.1 y.1.2.2.2.2.1 y.1.2.2.2.2.2.1⟩, ⟨11, ⟨56, [(0, (.sl (.int .u64)), []), (1, (.sl (.int .u64)), []), (5, (.sl (.int .u64)), []), (6, (.sl (.int .u64)), []), (7, (.int .i64), []), (8, (.int .i64), []), (9, (.int .u64), []), (10, (.int .i64), [])], [], []⟩, fun k y => regimenref03_Quotient.l2 k y.1.1 y.1.2.1 y.1.2.2.1 y.1.2.2.2.1 y.1.2.2.2.2.1 y.1.2.2.2.2.2.1 y.1.2.2.2.2.2.2.1 y.1.2.2.2.2.2.2.2.1⟩] []
theorem regimenref03_Quotient.h1 : obls regimenref03_Quotient.E Try.f88 = [⟨(.cons (.cons (.sl (.int .u64)) (.cons (.sl (.int .u64)) (.cons (.sl (.int .u64)) (.cons (.sl (.int .u64)) (.cons (.int .i64) .nil))))) (.cons .nil (.cons .nil .nil))), fun k y => regimenref03_Quotient.l0 (k + 1) y.1.1 y.1.2.1 y.1.2.2.1 y.1.2.2.2.1 y.1.2.2.2.2.1, fun k y => regimenref03_Quotient.nl0 k y.1.1 y.1.2.1 y.1.2.2.1 y.1.2.2.2.1 y.1.2.2.2.2.1⟩, ⟨(.cons (.cons (.sl (.int .u64)) (.cons (.sl (.int .u64)) (.cons (.sl (.int .u64)) (.cons (.sl (.int .u64)) (.cons (.int .i64) .nil))))) (.cons .nil (.cons .nil .nil))), fun _ y => regimenref03_Quotient.l0 0 y.1.1 y.1.2.1 y.1.2.2.1 y.1.2.2.2.1 y.1.2.2.2.2.1, fun _ _ => none⟩, ⟨(.cons (.cons (.sl (.int .u64)) (.cons (.sl (.int .u64)) (.cons (.sl (.int .u64)) (.cons (.sl (.int .u64)) (.cons (.int .i64) (.cons (.int .i64) .nil)))))) (.cons .nil (.cons .nil .nil))), fun k y => regimenref03_Quotient.l1 (k + 1) y.1.1 y.1.2.1 y.1.2.2.1 y.1.2.2.2.1 y.1.2.2.2.2.1 y.1.2.2.2.2.2.1, fun k y => regimenref03_Quotient.nl1 k y.1.1 y.1.2.1 y.1.2.2.1 y.1.2.2.2.1 y.1.2.2.2.2.1 y.1.2.2.2.2.2.1⟩, ⟨(.cons (.cons (.sl (.int .u64)) (.cons (.sl (.int .u64)) (.cons (.sl (.int .u64)) (.cons (.sl (.int .u64)) (.cons (.int .i64) (.cons (.int .i64) .nil)))))) (.cons .nil (.cons .nil .nil))), fun _ y => regimenref03_Quotient.l1 0 y.1.1 y.1.2.1 y.1.2.2.1 y.1.2.2.2.1 y.1.2.2.2.2.1 y.1.2.2.2.2.2.1, fun _ _ => none⟩, ⟨(.cons (.cons (.sl (.int .u64)) (.cons (.sl (.int .u64)) (.cons (.sl (.int .u64)) (.cons (.sl (.int .u64)) (.cons (.int .i64) (.cons (.int .i64) (.cons (.int .u64) (.cons (.int .i64) .nil)))))))) (.cons .nil (.cons .nil .nil))), fun k y => regimenref03_Quotient.l2 (k + 1) y.1.1 y.1.2.1 y.1.2.2.1 y.1.2.2.2.1 y.1.2.2.2.2.1 y.1.2.2.2.2.2.1 y.1.2.2.2.2.2.2.1 y.1.2.2.2.2.2.2.2.1, fun k y => regimenref03_Quotient.nl2 k y.1.1 y.1.2.1 y.1.2.2.1 y.1.2.2.2.1 y.1.2.2.2.2.1 y.1.2.2.2.2.2.1 y.1.2.2.2.2.2.2.1 y.1.2.2.2.2.2.2.2.1⟩, ⟨(.cons (.cons (.sl (.int .u64)) (.cons (.sl (.int .u64)) (.cons (.sl (.int .u64)) (.cons (.sl (.int .u64)) (.cons (.int .i64) (.cons (.int .i64) (.cons (.int .u64) (.cons (.int .i64) .nil)))))))) (.cons .nil (.cons .nil .nil))), fun _ y => regimenref03_Quotient.l2 0 y.1.1 y.1.2.1 y.1.2.2.1 y.1.2.2.2.1 y.1.2.2.2.2.1 y.1.2.2.2.2.2.1 y.1.2.2.2.2.2.2.1 y.1.2.2.2.2.2.2.2.1, fun _ _ => none⟩] := by kernel_rfl
theorem regimenref03_Quotient.h2 : (fun k (x : El (.cons (.sl (.int .u64)) (.cons (.sl (.int .u64)) .nil))) => regimenref03_Quotient.nf k x.1 x.2.1) = fun k x => mainK regimenref03_Quotient.E Try.f88 (.cons (.sl (.int .u64)) (.cons (.sl (.int .u64)) .nil)) k x := by kernel_rfl
theorem regimenref03_Quotient.bl0 (k : Nat) (x0 : List Int) (x1 : List Int) (x5 : List Int) (x6 : List Int) (x7 : Int) : Lo (regimenref03_Quotient.l0 (k + 1) x0 x1 x5 x6 x7) (regimenref03_Quotient.nl0 k x0 x1 x5 x6 x7) := by
  rw [regimenref03_Quotient.l0]
  unfold regimenref03_Quotient.nl0
  try simp only [Bool.false_xor, Bool.true_xor, wu8_64, wu8_u64, byL_nums, btS_bt, nil_tl, beq_decL, beq_decI]
  repeat' first
    | (with_reducible exact lo_refl _)
    | exact lo_none _
    | (with_reducible refine lo_lpos (by first | assumption | decide) ?_)
    | (with_reducible refine lo_lneg (by first | assumption | decide) ?_)
    | (with_reducible refine lo_ite (fun _ => ?_) (fun _ => ?_))
    | (with_reducible refine lo_bind (fun _ => ?_))
    | (with_reducible refine lo_left ?_)
    | (refine lo_neg (by decide) ?_)
    | (refine lo_pos (by first | assumption | omega) ?_)
    | (refine lo_neg (by first | assumption | omega) ?_)
    | (with_reducible refine lo_test (fun _ => by first | assumption | omega | (simp only [List.length_cons, List.length_nil]; omega) | decide) (fun _ => ?_))
    | (with_reducible refine lo_testn (fun _ => by first | assumption | omega) (fun _ => ?_))
    | (with_reducible refine lo_and (fun z => by first | exact z.1 | omega) (fun z => by first | exact z.2 | omega) (fun _ => ?_))
    | exact lo_refl _
    | (with_reducible refine lo_iff (by first | exact Iff.rfl | omega | (simp; done) | decide) (fun _ => ?_) (fun _ => ?_))
    | (with_reducible refine lo_iffn (by first | exact Iff.rfl | omega | (simp; done) | decide) (fun _ => ?_) (fun _ => ?_))
    | refine lo_ite (fun _ => ?_) (fun _ => ?_)
    | refine lo_bind (fun _ => ?_)
    | (refine lo_some ?_; first | rfl | (rw [Bool.false_xor]; rfl) | (rw [Bool.true_xor]; rfl) | (simp only [Bool.and_true]; rfl) | (simp; done))
    | (simp only [Int.zero_sub]; exact lo_refl _)
    | (with_reducible refine lo_lpos (by omega) ?_)
    | (with_reducible refine lo_lneg (by omega) ?_)
    | (with_reducible refine lo_lite (fun _ => ?_) (fun _ => ?_))
    | (with_reducible refine lo_rite (fun _ => ?_) (fun _ => ?_))
  all_goals (exfalso; first | omega | (simp_all; done) | (simp_all; omega))
theorem regimenref03_Quotient.bl1 (k : Nat) (x0 : List Int) (x1 : List Int) (x5 : List Int) (x6 : List Int) (x7 : Int) (x8 : Int) : Lo (regimenref03_Quotient.l1 (k + 1) x0 x1 x5 x6 x7 x8) (regimenref03_Quotient.nl1 k x0 x1 x5 x6 x7 x8) := by
  rw [regimenref03_Quotient.l1]
  unfold regimenref03_Quotient.nl1
  try simp only [Bool.false_xor, Bool.true_xor, wu8_64, wu8_u64, byL_nums, btS_bt, nil_tl, beq_decL, beq_decI]
  repeat' first
    | (with_reducible exact lo_refl _)
    | exact lo_none _
    | (with_reducible refine lo_lpos (by first | assumption | decide) ?_)
    | (with_reducible refine lo_lneg (by first | assumption | decide) ?_)
    | (with_reducible refine lo_ite (fun _ => ?_) (fun _ => ?_))
    | (with_reducible refine lo_bind (fun _ => ?_))
    | (with_reducible refine lo_left ?_)
    | (refine lo_neg (by decide) ?_)
    | (refine lo_pos (by first | assumption | omega) ?_)
    | (refine lo_neg (by first | assumption | omega) ?_)
    | (with_reducible refine lo_test (fun _ => by first | assumption | omega | (simp only [List.length_cons, List.length_nil]; omega) | decide) (fun _ => ?_))
    | (with_reducible refine lo_testn (fun _ => by first | assumption | omega) (fun _ => ?_))
    | (with_reducible refine lo_and (fun z => by first | exact z.1 | omega) (fun z => by first | exact z.2 | omega) (fun _ => ?_))
    | exact lo_refl _
    | (with_reducible refine lo_iff (by first | exact Iff.rfl | omega | (simp; done) | decide) (fun _ => ?_) (fun _ => ?_))
    | (with_reducible refine lo_iffn (by first | exact Iff.rfl | omega | (simp; done) | decide) (fun _ => ?_) (fun _ => ?_))
    | refine lo_ite (fun _ => ?_) (fun _ => ?_)
    | refine lo_bind (fun _ => ?_)
    | (refine lo_some ?_; first | rfl | (rw [Bool.false_xor]; rfl) | (rw [Bool.true_xor]; rfl) | (simp only [Bool.and_true]; rfl) | (simp; done))
    | (simp only [Int.zero_sub]; exact lo_refl _)
    | (with_reducible refine lo_lpos (by omega) ?_)
    | (with_reducible refine lo_lneg (by omega) ?_)
    | (with_reducible refine lo_lite (fun _ => ?_) (fun _ => ?_))
    | (with_reducible refine lo_rite (fun _ => ?_) (fun _ => ?_))
  all_goals (exfalso; first | omega | (simp_all; done) | (simp_all; omega))
theorem regimenref03_Quotient.bl2 (k : Nat) (x0 : List Int) (x1 : List Int) (x5 : List Int) (x6 : List Int) (x7 : Int) (x8 : Int) (x9 : Int) (x10 : Int) : Lo (regimenref03_Quotient.l2 (k + 1) x0 x1 x5 x6 x7 x8 x9 x10) (regimenref03_Quotient.nl2 k x0 x1 x5 x6 x7 x8 x9 x10) := by
  rw [regimenref03_Quotient.l2]
  unfold regimenref03_Quotient.nl2
  try simp only [Bool.false_xor, Bool.true_xor, wu8_64, wu8_u64, byL_nums, btS_bt, nil_tl, beq_decL, beq_decI]
  repeat' first
    | (with_reducible exact lo_refl _)
    | exact lo_none _
    | (with_reducible refine lo_lpos (by first | assumption | decide) ?_)
    | (with_reducible refine lo_lneg (by first | assumption | decide) ?_)
    | (with_reducible refine lo_ite (fun _ => ?_) (fun _ => ?_))
    | (with_reducible refine lo_bind (fun _ => ?_))
    | (with_reducible refine lo_left ?_)
    | (refine lo_neg (by decide) ?_)
    | (refine lo_pos (by first | assumption | omega) ?_)
    | (refine lo_neg (by first | assumption | omega) ?_)
    | (with_reducible refine lo_test (fun _ => by first | assumption | omega | (simp only [List.length_cons, List.length_nil]; omega) | decide) (fun _ => ?_))
    | (with_reducible refine lo_testn (fun _ => by first | assumption | omega) (fun _ => ?_))
    | (with_reducible refine lo_and (fun z => by first | exact z.1 | omega) (fun z => by first | exact z.2 | omega) (fun _ => ?_))
    | exact lo_refl _
    | (with_reducible refine lo_iff (by first | exact Iff.rfl | omega | (simp; done) | decide) (fun _ => ?_) (fun _ => ?_))
    | (with_reducible refine lo_iffn (by first | exact Iff.rfl | omega | (simp; done) | decide) (fun _ => ?_) (fun _ => ?_))
    | refine lo_ite (fun _ => ?_) (fun _ => ?_)
    | refine lo_bind (fun _ => ?_)
    | (refine lo_some ?_; first | rfl | (rw [Bool.false_xor]; rfl) | (rw [Bool.true_xor]; rfl) | (simp only [Bool.and_true]; rfl) | (simp; done))
    | (simp only [Int.zero_sub]; exact lo_refl _)
    | (with_reducible refine lo_lpos (by omega) ?_)
    | (with_reducible refine lo_lneg (by omega) ?_)
    | (with_reducible refine lo_lite (fun _ => ?_) (fun _ => ?_))
    | (with_reducible refine lo_rite (fun _ => ?_) (fun _ => ?_))
  all_goals (exfalso; first | omega | (simp_all; done) | (simp_all; omega))
set_option maxHeartbeats 2000000 in
theorem regimenref03_Quotient.bf (k : Nat) (a0 : List Int) (a1 : List Int) : Lo (regimenref03_Quotient.f k a0 a1) (regimenref03_Quotient.nf k a0 a1) := by
  unfold regimenref03_Quotient.f regimenref03_Quotient.nf
  try simp only [Bool.false_xor, Bool.true_xor, wu8_64, wu8_u64, byL_nums, btS_bt, nil_tl, beq_decL, beq_decI]
  repeat' first
    | (with_reducible exact lo_refl _)
    | exact lo_none _
    | (with_reducible refine lo_lpos (by first | assumption | decide) ?_)
    | (with_reducible refine lo_lneg (by first | assumption | decide) ?_)
    | (with_reducible refine lo_ite (fun _ => ?_) (fun _ => ?_))
    | (with_reducible refine lo_bind (fun _ => ?_))
    | (with_reducible refine lo_left ?_)
    | (refine lo_neg (by decide) ?_)
    | (refine lo_pos (by first | assumption | omega) ?_)
    | (refine lo_neg (by first | assumption | omega) ?_)
    | (with_reducible refine lo_test (fun _ => by first | assumption | omega | (simp only [List.length_cons, List.length_nil]; omega) | decide) (fun _ => ?_))
    | (with_reducible refine lo_testn (fun _ => by first | assumption | omega) (fun _ => ?_))
    | (with_reducible refine lo_and (fun z => by first | exact z.1 | omega) (fun z => by first | exact z.2 | omega) (fun _ => ?_))
    | exact lo_refl _
    | (with_reducible refine lo_iff (by first | exact Iff.rfl | omega | (simp; done) | decide) (fun _ => ?_) (fun _ => ?_))
    | (with_reducible refine lo_iffn (by first | exact Iff.rfl | omega | (simp; done) | decide) (fun _ => ?_) (fun _ => ?_))
    | refine lo_ite (fun _ => ?_) (fun _ => ?_)
    | refine lo_bind (fun _ => ?_)
    | (refine lo_some ?_; first | rfl | (rw [Bool.false_xor]; rfl) | (rw [Bool.true_xor]; rfl) | (simp only [Bool.and_true]; rfl) | (simp; done))
    | (simp only [Int.zero_sub]; exact lo_refl _)
    | (with_reducible refine lo_lpos (by omega) ?_)
    | (with_reducible refine lo_lneg (by omega) ?_)
    | (with_reducible refine lo_lite (fun _ => ?_) (fun _ => ?_))
    | (with_reducible refine lo_rite (fun _ => ?_) (fun _ => ?_))
  all_goals (exfalso; first | omega | (simp_all; done) | (simp_all; omega))
theorem regimenref03_Quotient.al : AllLe (obls regimenref03_Quotient.E Try.f88) := by
  rw [regimenref03_Quotient.h1]
  exact (.cons (fun k y r h => regimenref03_Quotient.bl0 k y.1.1 y.1.2.1 y.1.2.2.1 y.1.2.2.2.1 y.1.2.2.2.2.1 r h) (.cons (fun _ y r h => by simp [regimenref03_Quotient.l0] at h) (.cons (fun k y r h => regimenref03_Quotient.bl1 k y.1.1 y.1.2.1 y.1.2.2.1 y.1.2.2.2.1 y.1.2.2.2.2.1 y.1.2.2.2.2.2.1 r h) (.cons (fun _ y r h => by simp [regimenref03_Quotient.l1] at h) (.cons (fun k y r h => regimenref03_Quotient.bl2 k y.1.1 y.1.2.1 y.1.2.2.1 y.1.2.2.2.1 y.1.2.2.2.2.1 y.1.2.2.2.2.2.1 y.1.2.2.2.2.2.2.1 y.1.2.2.2.2.2.2.2.1 r h) (.cons (fun _ y r h => by simp [regimenref03_Quotient.l2] at h) .nil))))))
theorem regimenref03_Quotient.ok : CalleeOk Try.prog 88 regimenref03_Quotient.c := fn_ok tabOk mixed (fun _ => rfl) Try.func88 rfl (by kernel_rfl) (ok_cons regimenref02_Plus.ok (ok_cons regimenref02_Cmp.ok (ok_cons regimenref02_Less.ok ok_nil))) regimenref03_Quotient.al (fun k x r h => (congrFun (congrFun regimenref03_Quotient.h2 k) x).symm.trans (regimenref03_Quotient.bf k _ _ r h))
def regimenref03_Odd.c : Sym.Callee := ⟨(.cons (.sl (.int .u64)) .nil), .bool, false, Bool, fun k x => regimenref03_Odd.f x.1, fun z => z, []⟩
def regimenref03_Odd.nf (k : Nat) (a0 : List Int) : Option (Bool) := (if (a0.length : Int) > (0 : Int) then (if 0 ≤ (0 : Int) then (if (0 : Int) < (a0.length : Int) then (if (2 : Int) = 0 then none else (some (xor false (decide ((Int.tmod (a0.getD ((0 : Int)).toNat 0) (2 : Int)) = (1 : Int)))))) else none) else none) else (some false))
noncomputable def regimenref03_Odd.E : Env (Bool) := envOf tab Try.f91 false .bool [] (fun y => y) [] [] []
theorem regimenref03_Odd.h1 : obls regimenref03_Odd.E Try.f91 = [] := by kernel_rfl
theorem regimenref03_Odd.h2 : (fun k (x : El (.cons (.sl (.int .u64)) .nil)) => regimenref03_Odd.nf k x.1) = fun k x => mainK regimenref03_Odd.E Try.f91 (.cons (.sl (.int .u64)) .nil) k x := by kernel_rfl
set_option maxHeartbeats 2000000 in
theorem regimenref03_Odd.bf (k : Nat) (a0 : List Int) : Lo (regimenref03_Odd.f a0) (regimenref03_Odd.nf k a0) := by
  unfold regimenref03_Odd.f regimenref03_Odd.nf
  try simp only [Bool.false_xor, Bool.true_xor, wu8_64, wu8_u64, byL_nums, btS_bt, nil_tl, beq_decL, beq_decI]
  repeat' first
    | (with_reducible exact lo_refl _)
    | exact lo_none _
    | (with_reducible refine lo_lpos (by first | assumption | decide) ?_)
    | (with_reducible refine lo_lneg (by first | assumption | decide) ?_)
    | (with_reducible refine lo_ite (fun _ => ?_) (fun _ => ?_))
    | (with_reducible refine lo_bind (fun _ => ?_))
    | (with_reducible refine lo_left ?_)
    | (refine lo_neg (by decide) ?_)
    | (refine lo_pos (by first | assumption | omega) ?_)
    | (refine lo_neg (by first | assumption | omega) ?_)
    | (with_reducible refine lo_test (fun _ => by first | assumption | omega | (simp only [List.length_cons, List.length_nil]; omega) | decide) (fun _ => ?_))
    | (with_reducible refine lo_testn (fun _ => by first | assumption | omega) (fun _ => ?_))
    | (with_reducible refine lo_and (fun z => by first | exact z.1 | omega) (fun z => by first | exact z.2 | omega) (fun _ => ?_))
    | exact lo_refl _
    | (with_reducible refine lo_iff (by first | exact Iff.rfl | omega | (simp; done) | decide) (fun _ => ?_) (fun _ => ?_))
    | (with_reducible refine lo_iffn (by first | exact Iff.rfl | omega | (simp; done) | decide) (fun _ => ?_) (fun _ => ?_))
    | refine lo_ite (fun _ => ?_) (fun _ => ?_)
    | refine lo_bind (fun _ => ?_)
    | (refine lo_some ?_; first | rfl | (rw [Bool.false_xor]; rfl) | (rw [Bool.true_xor]; rfl) | (simp only [Bool.and_true]; rfl) | (simp; done))
    | (simp only [Int.zero_sub]; exact lo_refl _)
    | (with_reducible refine lo_lpos (by omega) ?_)
    | (with_reducible refine lo_lneg (by omega) ?_)
    | (with_reducible refine lo_lite (fun _ => ?_) (fun _ => ?_))
    | (with_reducible refine lo_rite (fun _ => ?_) (fun _ => ?_))
  all_goals (exfalso; first | omega | (simp_all; done) | (simp_all; omega))
theorem regimenref03_Odd.al : AllLe (obls regimenref03_Odd.E Try.f91) := by
  rw [regimenref03_Odd.h1]
  exact .nil
theorem regimenref03_Odd.ok : CalleeOk Try.prog 91 regimenref03_Odd.c := fn_ok tabOk mixed (fun _ => rfl) Try.func91 rfl (by kernel_rfl) ok_nil regimenref03_Odd.al (fun k x r h => (congrFun (congrFun regimenref03_Odd.h2 k) x).symm.trans (regimenref03_Odd.bf k _ r h))
def regimenref03_Rounded.c : Sym.Callee := ⟨(.cons (.sl (.int .u64)) (.cons (.sl (.int .u64)) .nil)), (.sl (.int .u64)), false, List Int, fun k x => regimenref03_Rounded.f k x.1 x.2.1, fun z => z, []⟩
def regimenref03_Rounded.nf (k : Nat) (a0 : List Int) (a1 : List Int) : Option (List Int) := ((regimenref03_Quotient.f k a0 a1).bind fun t1 => (if (([] : List Int).length + a0.length) * 8 ≤ 140737488355328 then (if ((([] : List Int) ++ a0).length + [(0 : Int)].length) * 8 ≤ 140737488355328 then ((regimenref02_Times.f k t1 a1).bind fun t2 => ((regimenref02_Less.f k ((([] : List Int) ++ a0) ++ [(0 : Int)]) t2).bind fun t3 => ((regimenref02_Plus.f k t3 t3).bind fun t4 => ((regimenref02_Cmp.f k t4 a1).bind fun t5 => (if t5 > (0 : Int) then ((regimenref02_Plus.f k t1 [(1 : Int)]).bind fun t6 => (some t6)) else (if t5 = (0 : Int) then ((regimenref03_Odd.f t1).bind fun t7 => (if t7 = true then ((regimenref02_Plus.f k t1 [(1 : Int)]).bind fun t8 => (some t8)) else (some t1))) else (some t1))))))) else none) else none))
noncomputable def regimenref03_Rounded.E : Env (List Int) := envOf tab Try.f65 false (.sl (.int .u64)) [] (fun y => y) [(88, regimenref03_Quotient.c), (75, regimenref02_Times.c), (89, regimenref02_Less.c), (90, regimenref02_Plus.c), (78, regimenref02_Cmp.c), (91, regimenref03_Odd.c)] [] []
theorem regimenref03_Rounded.h1 : obls regimenref03_Rounded.E Try.f65 = [] := by kernel_rfl
theorem regimenref03_Rounded.h2 : (fun k (x : El (.cons (.sl (.int .u64)) (.cons (.sl (.int .u64)) .nil))) => regimenref03_Rounded.nf k x.1 x.2.1) = fun k x => mainK regimenref03_Rounded.E Try.f65 (.cons (.sl (.int .u64)) (.cons (.sl (.int .u64)) .nil)) k x := by kernel_rfl
set_option maxHeartbeats 2000000 in
theorem regimenref03_Rounded.bf (k : Nat) (a0 : List Int) (a1 : List Int) : Lo (regimenref03_Rounded.f k a0 a1) (regimenref03_Rounded.nf k a0 a1) := by
  unfold regimenref03_Rounded.f regimenref03_Rounded.nf
  try simp only [Bool.false_xor, Bool.true_xor, wu8_64, wu8_u64, byL_nums, btS_bt, nil_tl, beq_decL, beq_decI]
  repeat' first
    | (with_reducible exact lo_refl _)
    | exact lo_none _
    | (with_reducible refine lo_lpos (by first | assumption | decide) ?_)
    | (with_reducible refine lo_lneg (by first | assumption | decide) ?_)
    | (with_reducible refine lo_ite (fun _ => ?_) (fun _ => ?_))
    | (with_reducible refine lo_bind (fun _ => ?_))
    | (with_reducible refine lo_left ?_)
    | (refine lo_neg (by decide) ?_)
    | (refine lo_pos (by first | assumption | omega) ?_)
    | (refine lo_neg (by first | assumption | omega) ?_)
    | (with_reducible refine lo_test (fun _ => by first | assumption | omega | (simp only [List.length_cons, List.length_nil]; omega) | decide) (fun _ => ?_))
    | (with_reducible refine lo_testn (fun _ => by first | assumption | omega) (fun _ => ?_))
    | (with_reducible refine lo_and (fun z => by first | exact z.1 | omega) (fun z => by first | exact z.2 | omega) (fun _ => ?_))
    | exact lo_refl _
    | (with_reducible refine lo_iff (by first | exact Iff.rfl | omega | (simp; done) | decide) (fun _ => ?_) (fun _ => ?_))
    | (with_reducible refine lo_iffn (by first | exact Iff.rfl | omega | (simp; done) | decide) (fun _ => ?_) (fun _ => ?_))
    | refine lo_ite (fun _ => ?_) (fun _ => ?_)
    | refine lo_bind (fun _ => ?_)
    | (refine lo_some ?_; first | rfl | (rw [Bool.false_xor]; rfl) | (rw [Bool.true_xor]; rfl) | (simp only [Bool.and_true]; rfl) | (simp; done))
    | (simp only [Int.zero_sub]; exact lo_refl _)
    | (with_reducible refine lo_lpos (by omega) ?_)
    | (with_reducible refine lo_lneg (by omega) ?_)
    | (with_reducible refine lo_lite (fun _ => ?_) (fun _ => ?_))
    | (with_reducible refine lo_rite (fun _ => ?_) (fun _ => ?_))
  all_goals (exfalso; first | omega | (simp_all; done) | (simp_all; omega))
theorem regimenref03_Rounded.al : AllLe (obls regimenref03_Rounded.E Try.f65) := by
  rw [regimenref03_Rounded.h1]
  exact .nil
theorem regimenref03_Rounded.ok : CalleeOk Try.prog 65 regimenref03_Rounded.c := fn_ok tabOk mixed (fun _ => rfl) Try.func65 rfl (by kernel_rfl) (ok_cons regimenref03_Quotient.ok (ok_cons regimenref02_Times.ok (ok_cons regimenref02_Less.ok (ok_cons regimenref02_Plus.ok (ok_cons regimenref02_Cmp.ok (ok_cons regimenref03_Odd.ok ok_nil)))))) regimenref03_Rounded.al (fun k x r h => (congrFun (congrFun regimenref03_Rounded.h2 k) x).symm.trans (regimenref03_Rounded.bf k _ _ r h))
def regimenref05_Read.c : Sym.Callee := ⟨(.cons (.sl (.int .u64)) (.cons (.int .i64) .nil)), (.sl (.int .u64)), false, List Int, fun k x => regimenref05_Read.f k x.1 x.2.1, fun z => z, []⟩
def regimenref05_Read.nf (k : Nat) (a0 : List Int) (a1 : Int) : Option (List Int) := ((regimenref02_Twos.f k (32 : Int)).bind fun t1 => ((regimenref02_Times.f k a0 t1).bind fun t2 => ((regimenref05_Tens.f k a1).bind fun t3 => ((regimenref03_Rounded.f k t2 t3).bind fun t4 => (some t4)))))
noncomputable def regimenref05_Read.E : Env (List Int) := envOf tab Try.f79 false (.sl (.int .u64)) [] (fun y => y) [(77, regimenref02_Twos.c), (75, regimenref02_Times.c), (76, regimenref05_Tens.c), (65, regimenref03_Rounded.c)] [] []
theorem regimenref05_Read.h1 : obls regimenref05_Read.E Try.f79 = [] := by kernel_rfl
theorem regimenref05_Read.h2 : (fun k (x : El (.cons (.sl (.int .u64)) (.cons (.int .i64) .nil))) => regimenref05_Read.nf k x.1 x.2.1) = fun k x => mainK regimenref05_Read.E Try.f79 (.cons (.sl (.int .u64)) (.cons (.int .i64) .nil)) k x := by kernel_rfl
set_option maxHeartbeats 2000000 in
theorem regimenref05_Read.bf (k : Nat) (a0 : List Int) (a1 : Int) : Lo (regimenref05_Read.f k a0 a1) (regimenref05_Read.nf k a0 a1) := by
  unfold regimenref05_Read.f regimenref05_Read.nf
  try simp only [Bool.false_xor, Bool.true_xor, wu8_64, wu8_u64, byL_nums, btS_bt, nil_tl, beq_decL, beq_decI]
  repeat' first
    | (with_reducible exact lo_refl _)
    | exact lo_none _
    | (with_reducible refine lo_lpos (by first | assumption | decide) ?_)
    | (with_reducible refine lo_lneg (by first | assumption | decide) ?_)
    | (with_reducible refine lo_ite (fun _ => ?_) (fun _ => ?_))
    | (with_reducible refine lo_bind (fun _ => ?_))
    | (with_reducible refine lo_left ?_)
    | (refine lo_neg (by decide) ?_)
    | (refine lo_pos (by first | assumption | omega) ?_)
    | (refine lo_neg (by first | assumption | omega) ?_)
    | (with_reducible refine lo_test (fun _ => by first | assumption | omega | (simp only [List.length_cons, List.length_nil]; omega) | decide) (fun _ => ?_))
    | (with_reducible refine lo_testn (fun _ => by first | assumption | omega) (fun _ => ?_))
    | (with_reducible refine lo_and (fun z => by first | exact z.1 | omega) (fun z => by first | exact z.2 | omega) (fun _ => ?_))
    | exact lo_refl _
    | (with_reducible refine lo_iff (by first | exact Iff.rfl | omega | (simp; done) | decide) (fun _ => ?_) (fun _ => ?_))
    | (with_reducible refine lo_iffn (by first | exact Iff.rfl | omega | (simp; done) | decide) (fun _ => ?_) (fun _ => ?_))
    | refine lo_ite (fun _ => ?_) (fun _ => ?_)
    | refine lo_bind (fun _ => ?_)
    | (refine lo_some ?_; first | rfl | (rw [Bool.false_xor]; rfl) | (rw [Bool.true_xor]; rfl) | (simp only [Bool.and_true]; rfl) | (simp; done))
    | (simp only [Int.zero_sub]; exact lo_refl _)
    | (with_reducible refine lo_lpos (by omega) ?_)
    | (with_reducible refine lo_lneg (by omega) ?_)
    | (with_reducible refine lo_lite (fun _ => ?_) (fun _ => ?_))
    | (with_reducible refine lo_rite (fun _ => ?_) (fun _ => ?_))
  all_goals (exfalso; first | omega | (simp_all; done) | (simp_all; omega))
theorem regimenref05_Read.al : AllLe (obls regimenref05_Read.E Try.f79) := by
  rw [regimenref05_Read.h1]
  exact .nil
theorem regimenref05_Read.ok : CalleeOk Try.prog 79 regimenref05_Read.c := fn_ok tabOk mixed (fun _ => rfl) Try.func79 rfl (by kernel_rfl) (ok_cons regimenref02_Twos.ok (ok_cons regimenref02_Times.ok (ok_cons regimenref05_Tens.ok (ok_cons regimenref03_Rounded.ok ok_nil)))) regimenref05_Read.al (fun k x r h => (congrFun (congrFun regimenref05_Read.h2 k) x).symm.trans (regimenref05_Read.bf k _ _ r h))
def regimenref05_Text.c : Sym.Callee := ⟨(.cons (.sl (.int .u64)) .nil), .str, false, ByteArray, fun k x => regimenref05_Text.f k x.1, fun z => z, []⟩
def regimenref05_Text.nl0 (k : Nat) (x0 : List Int) (x3 : ByteArray) (x4 : ByteArray) : Option (ByteArray) := (if (x4.size : Int) = (0 : Int) then ((regimenref03_Quotient.f k x0 [(10 : Int)]).bind fun t1 => (if (([] : List Int).length + x0.length) * 8 ≤ 140737488355328 then (if ((([] : List Int) ++ x0).length + [(0 : Int)].length) * 8 ≤ 140737488355328 then ((regimenref02_Times.f k t1 [(10 : Int)]).bind fun t2 => ((regimenref02_Less.f k ((([] : List Int) ++ x0) ++ [(0 : Int)]) t2).bind fun t3 => (if 0 ≤ (0 : Int) then (if (0 : Int) < (t3.length : Int) then (if 0 ≤ (0 : Int) then (if (0 : Int) < (t3.length : Int) then (if 0 ≤ (t3.getD ((0 : Int)).toNat 0) then (if (t3.getD ((0 : Int)).toNat 0) ≤ (IntKind.wrap .u64 ((t3.getD ((0 : Int)).toNat 0) + (1 : Int))) then (if (IntKind.wrap .u64 ((t3.getD ((0 : Int)).toNat 0) + (1 : Int))) ≤ (x3.size : Int) then (if (x3.extract ((t3.getD ((0 : Int)).toNat 0)).toNat ((IntKind.wrap .u64 ((t3.getD ((0 : Int)).toNat 0) + (1 : Int)))).toNat).size + x4.size ≤ 9223372036854775807 then (regimenref05_Text.l0 k t1 x3 ((x3.extract ((t3.getD ((0 : Int)).toNat 0)).toNat ((IntKind.wrap .u64 ((t3.getD ((0 : Int)).toNat 0) + (1 : Int)))).toNat) ++ x4)) else none) else none) else none) else none) else none) else none) else none) else none))) else none) else none)) else ((regimenref02_Cmp.f k x0 ([] : List Int)).bind fun t4 => (if t4 > (0 : Int) then ((regimenref03_Quotient.f k x0 [(10 : Int)]).bind fun t5 => (if (([] : List Int).length + x0.length) * 8 ≤ 140737488355328 then (if ((([] : List Int) ++ x0).length + [(0 : Int)].length) * 8 ≤ 140737488355328 then ((regimenref02_Times.f k t5 [(10 : Int)]).bind fun t6 => ((regimenref02_Less.f k ((([] : List Int) ++ x0) ++ [(0 : Int)]) t6).bind fun t7 => (if 0 ≤ (0 : Int) then (if (0 : Int) < (t7.length : Int) then (if 0 ≤ (0 : Int) then (if (0 : Int) < (t7.length : Int) then (if 0 ≤ (t7.getD ((0 : Int)).toNat 0) then (if (t7.getD ((0 : Int)).toNat 0) ≤ (IntKind.wrap .u64 ((t7.getD ((0 : Int)).toNat 0) + (1 : Int))) then (if (IntKind.wrap .u64 ((t7.getD ((0 : Int)).toNat 0) + (1 : Int))) ≤ (x3.size : Int) then (if (x3.extract ((t7.getD ((0 : Int)).toNat 0)).toNat ((IntKind.wrap .u64 ((t7.getD ((0 : Int)).toNat 0) + (1 : Int)))).toNat).size + x4.size ≤ 9223372036854775807 then (regimenref05_Text.l0 k t5 x3 ((x3.extract ((t7.getD ((0 : Int)).toNat 0)).toNat ((IntKind.wrap .u64 ((t7.getD ((0 : Int)).toNat 0) + (1 : Int)))).toNat) ++ x4)) else none) else none) else none) else none) else none) else none) else none) else none))) else none) else none)) else (some x4))))
def regimenref05_Text.nf (k : Nat) (a0 : List Int) : Option (ByteArray) := (regimenref05_Text.l0 k a0 (⟨#[48, 49, 50, 51, 52, 53, 54, 55, 56, 57]⟩ : ByteArray) (⟨#[]⟩ : ByteArray))
noncomputable def regimenref05_Text.E : Env (ByteArray) := envOf tab Try.f80 false .str [] (fun y => y) [(88, regimenref03_Quotient.c), (75, regimenref02_Times.c), (89, regimenref02_Less.c), (78, regimenref02_Cmp.c)] [⟨3, ⟨40, [(0, (.sl (.int .u64)), []), (3, .str, []), (4, .str, [])], [], []⟩, fun k y => regimenref05_Text.l0 k y.1.1 y.1.2.1 y.1.2.2.1⟩] []
theorem regimenref05_Text.h1 : obls regimenref05_Text.E Try.f80 = [⟨(.cons (.cons (.sl (.int .u64)) (.cons .str (.cons .str .nil))) (.cons .nil (.cons .nil .nil))), fun k y => regimenref05_Text.l0 (k + 1) y.1.1 y.1.2.1 y.1.2.2.1, fun k y => regimenref05_Text.nl0 k y.1.1 y.1.2.1 y.1.2.2.1⟩, ⟨(.cons (.cons (.sl (.int .u64)) (.cons .str (.cons .str .nil))) (.cons .nil (.cons .nil .nil))), fun _ y => regimenref05_Text.l0 0 y.1.1 y.1.2.1 y.1.2.2.1, fun _ _ => none⟩] := by kernel_rfl
theorem regimenref05_Text.h2 : (fun k (x : El (.cons (.sl (.int .u64)) .nil)) => regimenref05_Text.nf k x.1) = fun k x => mainK regimenref05_Text.E Try.f80 (.cons (.sl (.int .u64)) .nil) k x := by kernel_rfl
theorem regimenref05_Text.bl0 (k : Nat) (x0 : List Int) (x3 : ByteArray) (x4 : ByteArray) : Lo (regimenref05_Text.l0 (k + 1) x0 x3 x4) (regimenref05_Text.nl0 k x0 x3 x4) := by
  rw [regimenref05_Text.l0]
  unfold regimenref05_Text.nl0
  try simp only [Bool.false_xor, Bool.true_xor, wu8_64, wu8_u64, byL_nums, btS_bt, nil_tl, beq_decL, beq_decI]
  repeat' first
    | (with_reducible exact lo_refl _)
    | exact lo_none _
    | (with_reducible refine lo_lpos (by first | assumption | decide) ?_)
    | (with_reducible refine lo_lneg (by first | assumption | decide) ?_)
    | (with_reducible refine lo_ite (fun _ => ?_) (fun _ => ?_))
    | (with_reducible refine lo_bind (fun _ => ?_))
    | (with_reducible refine lo_left ?_)
    | (refine lo_neg (by decide) ?_)
    | (refine lo_pos (by first | assumption | omega) ?_)
    | (refine lo_neg (by first | assumption | omega) ?_)
    | (refine lo_trans (fun r h => (regimenref05_Text.mono_l _).2 _ _ _ _ r h) ?_; rw [regimenref05_Text.j1]; try simp only [decide_eq_true_eq])
    | (with_reducible refine lo_test (fun _ => by first | assumption | omega | (simp only [List.length_cons, List.length_nil]; omega) | decide) (fun _ => ?_))
    | (with_reducible refine lo_testn (fun _ => by first | assumption | omega) (fun _ => ?_))
    | (with_reducible refine lo_and (fun z => by first | exact z.1 | omega) (fun z => by first | exact z.2 | omega) (fun _ => ?_))
    | exact lo_refl _
    | (with_reducible refine lo_iff (by first | exact Iff.rfl | omega | (simp; done) | decide) (fun _ => ?_) (fun _ => ?_))
    | (with_reducible refine lo_iffn (by first | exact Iff.rfl | omega | (simp; done) | decide) (fun _ => ?_) (fun _ => ?_))
    | refine lo_ite (fun _ => ?_) (fun _ => ?_)
    | refine lo_bind (fun _ => ?_)
    | (refine lo_some ?_; first | rfl | (rw [Bool.false_xor]; rfl) | (rw [Bool.true_xor]; rfl) | (simp only [Bool.and_true]; rfl) | (simp; done))
    | (simp only [Int.zero_sub]; exact lo_refl _)
    | (with_reducible refine lo_lpos (by omega) ?_)
    | (with_reducible refine lo_lneg (by omega) ?_)
    | (with_reducible refine lo_lite (fun _ => ?_) (fun _ => ?_))
    | (with_reducible refine lo_rite (fun _ => ?_) (fun _ => ?_))
  all_goals (exfalso; first | omega | (simp_all; done) | (simp_all; omega))
set_option maxHeartbeats 2000000 in
theorem regimenref05_Text.bf (k : Nat) (a0 : List Int) : Lo (regimenref05_Text.f k a0) (regimenref05_Text.nf k a0) := by
  unfold regimenref05_Text.f regimenref05_Text.nf
  try simp only [Bool.false_xor, Bool.true_xor, wu8_64, wu8_u64, byL_nums, btS_bt, nil_tl, beq_decL, beq_decI]
  repeat' first
    | (with_reducible exact lo_refl _)
    | exact lo_none _
    | (with_reducible refine lo_lpos (by first | assumption | decide) ?_)
    | (with_reducible refine lo_lneg (by first | assumption | decide) ?_)
    | (with_reducible refine lo_ite (fun _ => ?_) (fun _ => ?_))
    | (with_reducible refine lo_bind (fun _ => ?_))
    | (with_reducible refine lo_left ?_)
    | (refine lo_neg (by decide) ?_)
    | (refine lo_pos (by first | assumption | omega) ?_)
    | (refine lo_neg (by first | assumption | omega) ?_)
    | (refine lo_trans (fun r h => (regimenref05_Text.mono_l _).2 _ _ _ _ r h) ?_; rw [regimenref05_Text.j1]; try simp only [decide_eq_true_eq])
    | (with_reducible refine lo_test (fun _ => by first | assumption | omega | (simp only [List.length_cons, List.length_nil]; omega) | decide) (fun _ => ?_))
    | (with_reducible refine lo_testn (fun _ => by first | assumption | omega) (fun _ => ?_))
    | (with_reducible refine lo_and (fun z => by first | exact z.1 | omega) (fun z => by first | exact z.2 | omega) (fun _ => ?_))
    | exact lo_refl _
    | (with_reducible refine lo_iff (by first | exact Iff.rfl | omega | (simp; done) | decide) (fun _ => ?_) (fun _ => ?_))
    | (with_reducible refine lo_iffn (by first | exact Iff.rfl | omega | (simp; done) | decide) (fun _ => ?_) (fun _ => ?_))
    | refine lo_ite (fun _ => ?_) (fun _ => ?_)
    | refine lo_bind (fun _ => ?_)
    | (refine lo_some ?_; first | rfl | (rw [Bool.false_xor]; rfl) | (rw [Bool.true_xor]; rfl) | (simp only [Bool.and_true]; rfl) | (simp; done))
    | (simp only [Int.zero_sub]; exact lo_refl _)
    | (with_reducible refine lo_lpos (by omega) ?_)
    | (with_reducible refine lo_lneg (by omega) ?_)
    | (with_reducible refine lo_lite (fun _ => ?_) (fun _ => ?_))
    | (with_reducible refine lo_rite (fun _ => ?_) (fun _ => ?_))
  all_goals (exfalso; first | omega | (simp_all; done) | (simp_all; omega))
theorem regimenref05_Text.al : AllLe (obls regimenref05_Text.E Try.f80) := by
  rw [regimenref05_Text.h1]
  exact (.cons (fun k y r h => regimenref05_Text.bl0 k y.1.1 y.1.2.1 y.1.2.2.1 r h) (.cons (fun _ y r h => by simp [regimenref05_Text.l0] at h) .nil))
theorem regimenref05_Text.ok : CalleeOk Try.prog 80 regimenref05_Text.c := fn_ok tabOk mixed (fun _ => rfl) Try.func80 rfl (by kernel_rfl) (ok_cons regimenref03_Quotient.ok (ok_cons regimenref02_Times.ok (ok_cons regimenref02_Less.ok (ok_cons regimenref02_Cmp.ok ok_nil)))) regimenref05_Text.al (fun k x r h => (congrFun (congrFun regimenref05_Text.h2 k) x).symm.trans (regimenref05_Text.bf k _ r h))
def regimenref05_Put.c : Sym.Callee := ⟨(.cons (.int .i64) .nil), .str, false, ByteArray, fun k x => regimenref05_Put.f k x.1, fun z => z, []⟩
def regimenref05_Put.nj0 (k : Nat) (x3 : List Int) (x4 : ByteArray) : Option (ByteArray) := (regimenref05_Put.l0 k x3 x4 (0 : Int))
def regimenref05_Put.nl0 (k : Nat) (x3 : List Int) (x4 : ByteArray) (x5 : Int) : Option (ByteArray) := (if x5 ≤ (10 : Int) then ((regimenref05_Tens.f k x5).bind fun t2 => ((regimenref02_Times.f k x3 t2).bind fun t3 => ((regimenref02_Twos.f k (32 : Int)).bind fun t4 => ((regimenref03_Rounded.f k t3 t4).bind fun t5 => ((regimenref05_Read.f k t5 x5).bind fun t6 => ((regimenref02_Cmp.f k t6 x3).bind fun t7 => (if t7 = (0 : Int) then ((regimenref05_Text.f k t5).bind fun t8 => (regimenref05_Put.l1 k x4 x5 t8)) else (regimenref05_Put.l0 k x3 x4 (wrap64 (x5 + (1 : Int))))))))))) else (some (⟨#[]⟩ : ByteArray)))
def regimenref05_Put.nl1 (k : Nat) (x4 : ByteArray) (x5 : Int) (x7 : ByteArray) : Option (ByteArray) := (if (x7.size : Int) ≤ x5 then (if (⟨#[48]⟩ : ByteArray).size + x7.size ≤ 9223372036854775807 then (regimenref05_Put.l1 k x4 x5 ((⟨#[48]⟩ : ByteArray) ++ x7)) else none) else (if x5 = (0 : Int) then (if x4.size + x7.size ≤ 9223372036854775807 then (some (x4 ++ x7)) else none) else (if 0 ≤ (wrap64 ((x7.size : Int) - x5)) then (if (wrap64 ((x7.size : Int) - x5)) ≤ (x7.size : Int) then (if x4.size + (x7.extract 0 ((wrap64 ((x7.size : Int) - x5))).toNat).size ≤ 9223372036854775807 then (if (x4 ++ (x7.extract 0 ((wrap64 ((x7.size : Int) - x5))).toNat)).size + (⟨#[46]⟩ : ByteArray).size ≤ 9223372036854775807 then (if 0 ≤ (wrap64 ((x7.size : Int) - x5)) then (if (wrap64 ((x7.size : Int) - x5)) ≤ (x7.size : Int) then (if ((x4 ++ (x7.extract 0 ((wrap64 ((x7.size : Int) - x5))).toNat)) ++ (⟨#[46]⟩ : ByteArray)).size + (x7.extract ((wrap64 ((x7.size : Int) - x5))).toNat x7.size).size ≤ 9223372036854775807 then (some (((x4 ++ (x7.extract 0 ((wrap64 ((x7.size : Int) - x5))).toNat)) ++ (⟨#[46]⟩ : ByteArray)) ++ (x7.extract ((wrap64 ((x7.size : Int) - x5))).toNat x7.size))) else none) else none) else none) else none) else none) else none) else none)))
def regimenref05_Put.nf (k : Nat) (a0 : Int) : Option (ByteArray) := ((regimenref02_Size.f a0).bind fun t1 => (if a0 < (0 : Int) then (regimenref05_Put.j0 k t1 (⟨#[45]⟩ : ByteArray)) else (regimenref05_Put.j0 k t1 (⟨#[]⟩ : ByteArray))))
noncomputable def regimenref05_Put.E : Env (ByteArray) := envOf tab Try.f59 false .str [] (fun y => y) [(66, regimenref02_Size.c), (76, regimenref05_Tens.c), (75, regimenref02_Times.c), (77, regimenref02_Twos.c), (65, regimenref03_Rounded.c), (79, regimenref05_Read.c), (78, regimenref02_Cmp.c), (80, regimenref05_Text.c)] [⟨6, ⟨57, [(3, (.sl (.int .u64)), []), (4, .str, []), (5, (.int .i64), [])], [], []⟩, fun k y => regimenref05_Put.l0 k y.1.1 y.1.2.1 y.1.2.2.1⟩, ⟨11, ⟨57, [(4, .str, []), (5, (.int .i64), []), (7, .str, [])], [], []⟩, fun k y => regimenref05_Put.l1 k y.1.1 y.1.2.1 y.1.2.2.1⟩] [⟨5, ⟨57, [(3, (.sl (.int .u64)), []), (4, .str, [])], [], []⟩, fun k y => regimenref05_Put.j0 k y.1.1 y.1.2.1⟩]
theorem regimenref05_Put.h1 : obls regimenref05_Put.E Try.f59 = [⟨(.cons (.cons (.sl (.int .u64)) (.cons .str .nil)) (.cons .nil (.cons .nil .nil))), fun k y => regimenref05_Put.j0 (k + 1) y.1.1 y.1.2.1, fun k y => regimenref05_Put.nj0 k y.1.1 y.1.2.1⟩, ⟨(.cons (.cons (.sl (.int .u64)) (.cons .str .nil)) (.cons .nil (.cons .nil .nil))), fun _ y => regimenref05_Put.j0 0 y.1.1 y.1.2.1, fun _ _ => none⟩, ⟨(.cons (.cons (.sl (.int .u64)) (.cons .str (.cons (.int .i64) .nil))) (.cons .nil (.cons .nil .nil))), fun k y => regimenref05_Put.l0 (k + 1) y.1.1 y.1.2.1 y.1.2.2.1, fun k y => regimenref05_Put.nl0 k y.1.1 y.1.2.1 y.1.2.2.1⟩, ⟨(.cons (.cons (.sl (.int .u64)) (.cons .str (.cons (.int .i64) .nil))) (.cons .nil (.cons .nil .nil))), fun _ y => regimenref05_Put.l0 0 y.1.1 y.1.2.1 y.1.2.2.1, fun _ _ => none⟩, ⟨(.cons (.cons .str (.cons (.int .i64) (.cons .str .nil))) (.cons .nil (.cons .nil .nil))), fun k y => regimenref05_Put.l1 (k + 1) y.1.1 y.1.2.1 y.1.2.2.1, fun k y => regimenref05_Put.nl1 k y.1.1 y.1.2.1 y.1.2.2.1⟩, ⟨(.cons (.cons .str (.cons (.int .i64) (.cons .str .nil))) (.cons .nil (.cons .nil .nil))), fun _ y => regimenref05_Put.l1 0 y.1.1 y.1.2.1 y.1.2.2.1, fun _ _ => none⟩] := by kernel_rfl
theorem regimenref05_Put.h2 : (fun k (x : El (.cons (.int .i64) .nil)) => regimenref05_Put.nf k x.1) = fun k x => mainK regimenref05_Put.E Try.f59 (.cons (.int .i64) .nil) k x := by kernel_rfl
theorem regimenref05_Put.bj0 (k : Nat) (x3 : List Int) (x4 : ByteArray) : Lo (regimenref05_Put.j0 (k + 1) x3 x4) (regimenref05_Put.nj0 k x3 x4) := by
  rw [regimenref05_Put.j0]
  unfold regimenref05_Put.nj0
  try simp only [Bool.false_xor, Bool.true_xor, wu8_64, wu8_u64, byL_nums, btS_bt, nil_tl, beq_decL, beq_decI]
  repeat' first
    | (with_reducible exact lo_refl _)
    | exact lo_none _
    | (with_reducible refine lo_lpos (by first | assumption | decide) ?_)
    | (with_reducible refine lo_lneg (by first | assumption | decide) ?_)
    | (with_reducible refine lo_ite (fun _ => ?_) (fun _ => ?_))
    | (with_reducible refine lo_bind (fun _ => ?_))
    | (with_reducible refine lo_left ?_)
    | (refine lo_neg (by decide) ?_)
    | (refine lo_pos (by first | assumption | omega) ?_)
    | (refine lo_neg (by first | assumption | omega) ?_)
    | (refine lo_trans (fun r h => (regimenref05_Put.mono_l _).1 _ _ r h) ?_; rw [regimenref05_Put.j0]; try simp only [decide_eq_true_eq])
    | (with_reducible refine lo_test (fun _ => by first | assumption | omega | (simp only [List.length_cons, List.length_nil]; omega) | decide) (fun _ => ?_))
    | (with_reducible refine lo_testn (fun _ => by first | assumption | omega) (fun _ => ?_))
    | (with_reducible refine lo_and (fun z => by first | exact z.1 | omega) (fun z => by first | exact z.2 | omega) (fun _ => ?_))
    | exact lo_refl _
    | (with_reducible refine lo_iff (by first | exact Iff.rfl | omega | (simp; done) | decide) (fun _ => ?_) (fun _ => ?_))
    | (with_reducible refine lo_iffn (by first | exact Iff.rfl | omega | (simp; done) | decide) (fun _ => ?_) (fun _ => ?_))
    | refine lo_ite (fun _ => ?_) (fun _ => ?_)
    | refine lo_bind (fun _ => ?_)
    | (refine lo_some ?_; first | rfl | (rw [Bool.false_xor]; rfl) | (rw [Bool.true_xor]; rfl) | (simp only [Bool.and_true]; rfl) | (simp; done))
    | (simp only [Int.zero_sub]; exact lo_refl _)
    | (with_reducible refine lo_lpos (by omega) ?_)
    | (with_reducible refine lo_lneg (by omega) ?_)
    | (with_reducible refine lo_lite (fun _ => ?_) (fun _ => ?_))
    | (with_reducible refine lo_rite (fun _ => ?_) (fun _ => ?_))
  all_goals (exfalso; first | omega | (simp_all; done) | (simp_all; omega))
theorem regimenref05_Put.bl0 (k : Nat) (x3 : List Int) (x4 : ByteArray) (x5 : Int) : Lo (regimenref05_Put.l0 (k + 1) x3 x4 x5) (regimenref05_Put.nl0 k x3 x4 x5) := by
  rw [regimenref05_Put.l0]
  unfold regimenref05_Put.nl0
  try simp only [Bool.false_xor, Bool.true_xor, wu8_64, wu8_u64, byL_nums, btS_bt, nil_tl, beq_decL, beq_decI]
  repeat' first
    | (with_reducible exact lo_refl _)
    | exact lo_none _
    | (with_reducible refine lo_lpos (by first | assumption | decide) ?_)
    | (with_reducible refine lo_lneg (by first | assumption | decide) ?_)
    | (with_reducible refine lo_ite (fun _ => ?_) (fun _ => ?_))
    | (with_reducible refine lo_bind (fun _ => ?_))
    | (with_reducible refine lo_left ?_)
    | (refine lo_neg (by decide) ?_)
    | (refine lo_pos (by first | assumption | omega) ?_)
    | (refine lo_neg (by first | assumption | omega) ?_)
    | (refine lo_trans (fun r h => (regimenref05_Put.mono_l _).1 _ _ r h) ?_; rw [regimenref05_Put.j0]; try simp only [decide_eq_true_eq])
    | (with_reducible refine lo_test (fun _ => by first | assumption | omega | (simp only [List.length_cons, List.length_nil]; omega) | decide) (fun _ => ?_))
    | (with_reducible refine lo_testn (fun _ => by first | assumption | omega) (fun _ => ?_))
    | (with_reducible refine lo_and (fun z => by first | exact z.1 | omega) (fun z => by first | exact z.2 | omega) (fun _ => ?_))
    | exact lo_refl _
    | (with_reducible refine lo_iff (by first | exact Iff.rfl | omega | (simp; done) | decide) (fun _ => ?_) (fun _ => ?_))
    | (with_reducible refine lo_iffn (by first | exact Iff.rfl | omega | (simp; done) | decide) (fun _ => ?_) (fun _ => ?_))
    | refine lo_ite (fun _ => ?_) (fun _ => ?_)
    | refine lo_bind (fun _ => ?_)
    | (refine lo_some ?_; first | rfl | (rw [Bool.false_xor]; rfl) | (rw [Bool.true_xor]; rfl) | (simp only [Bool.and_true]; rfl) | (simp; done))
    | (simp only [Int.zero_sub]; exact lo_refl _)
    | (with_reducible refine lo_lpos (by omega) ?_)
    | (with_reducible refine lo_lneg (by omega) ?_)
    | (with_reducible refine lo_lite (fun _ => ?_) (fun _ => ?_))
    | (with_reducible refine lo_rite (fun _ => ?_) (fun _ => ?_))
  all_goals (exfalso; first | omega | (simp_all; done) | (simp_all; omega))
theorem regimenref05_Put.bl1 (k : Nat) (x4 : ByteArray) (x5 : Int) (x7 : ByteArray) : Lo (regimenref05_Put.l1 (k + 1) x4 x5 x7) (regimenref05_Put.nl1 k x4 x5 x7) := by
  rw [regimenref05_Put.l1]
  unfold regimenref05_Put.nl1
  try simp only [Bool.false_xor, Bool.true_xor, wu8_64, wu8_u64, byL_nums, btS_bt, nil_tl, beq_decL, beq_decI]
  repeat' first
    | (with_reducible exact lo_refl _)
    | exact lo_none _
    | (with_reducible refine lo_lpos (by first | assumption | decide) ?_)
    | (with_reducible refine lo_lneg (by first | assumption | decide) ?_)
    | (with_reducible refine lo_ite (fun _ => ?_) (fun _ => ?_))
    | (with_reducible refine lo_bind (fun _ => ?_))
    | (with_reducible refine lo_left ?_)
    | (refine lo_neg (by decide) ?_)
    | (refine lo_pos (by first | assumption | omega) ?_)
    | (refine lo_neg (by first | assumption | omega) ?_)
    | (refine lo_trans (fun r h => (regimenref05_Put.mono_l _).1 _ _ r h) ?_; rw [regimenref05_Put.j0]; try simp only [decide_eq_true_eq])
    | (with_reducible refine lo_test (fun _ => by first | assumption | omega | (simp only [List.length_cons, List.length_nil]; omega) | decide) (fun _ => ?_))
    | (with_reducible refine lo_testn (fun _ => by first | assumption | omega) (fun _ => ?_))
    | (with_reducible refine lo_and (fun z => by first | exact z.1 | omega) (fun z => by first | exact z.2 | omega) (fun _ => ?_))
    | exact lo_refl _
    | (with_reducible refine lo_iff (by first | exact Iff.rfl | omega | (simp; done) | decide) (fun _ => ?_) (fun _ => ?_))
    | (with_reducible refine lo_iffn (by first | exact Iff.rfl | omega | (simp; done) | decide) (fun _ => ?_) (fun _ => ?_))
    | refine lo_ite (fun _ => ?_) (fun _ => ?_)
    | refine lo_bind (fun _ => ?_)
    | (refine lo_some ?_; first | rfl | (rw [Bool.false_xor]; rfl) | (rw [Bool.true_xor]; rfl) | (simp only [Bool.and_true]; rfl) | (simp; done))
    | (simp only [Int.zero_sub]; exact lo_refl _)
    | (with_reducible refine lo_lpos (by omega) ?_)
    | (with_reducible refine lo_lneg (by omega) ?_)
    | (with_reducible refine lo_lite (fun _ => ?_) (fun _ => ?_))
    | (with_reducible refine lo_rite (fun _ => ?_) (fun _ => ?_))
  all_goals (exfalso; first | omega | (simp_all; done) | (simp_all; omega))
set_option maxHeartbeats 2000000 in
theorem regimenref05_Put.bf (k : Nat) (a0 : Int) : Lo (regimenref05_Put.f k a0) (regimenref05_Put.nf k a0) := by
  unfold regimenref05_Put.f regimenref05_Put.nf
  try simp only [Bool.false_xor, Bool.true_xor, wu8_64, wu8_u64, byL_nums, btS_bt, nil_tl, beq_decL, beq_decI]
  repeat' first
    | (with_reducible exact lo_refl _)
    | exact lo_none _
    | (with_reducible refine lo_lpos (by first | assumption | decide) ?_)
    | (with_reducible refine lo_lneg (by first | assumption | decide) ?_)
    | (with_reducible refine lo_ite (fun _ => ?_) (fun _ => ?_))
    | (with_reducible refine lo_bind (fun _ => ?_))
    | (with_reducible refine lo_left ?_)
    | (refine lo_neg (by decide) ?_)
    | (refine lo_pos (by first | assumption | omega) ?_)
    | (refine lo_neg (by first | assumption | omega) ?_)
    | (refine lo_trans (fun r h => (regimenref05_Put.mono_l _).1 _ _ r h) ?_; rw [regimenref05_Put.j0]; try simp only [decide_eq_true_eq])
    | (with_reducible refine lo_test (fun _ => by first | assumption | omega | (simp only [List.length_cons, List.length_nil]; omega) | decide) (fun _ => ?_))
    | (with_reducible refine lo_testn (fun _ => by first | assumption | omega) (fun _ => ?_))
    | (with_reducible refine lo_and (fun z => by first | exact z.1 | omega) (fun z => by first | exact z.2 | omega) (fun _ => ?_))
    | exact lo_refl _
    | (with_reducible refine lo_iff (by first | exact Iff.rfl | omega | (simp; done) | decide) (fun _ => ?_) (fun _ => ?_))
    | (with_reducible refine lo_iffn (by first | exact Iff.rfl | omega | (simp; done) | decide) (fun _ => ?_) (fun _ => ?_))
    | refine lo_ite (fun _ => ?_) (fun _ => ?_)
    | refine lo_bind (fun _ => ?_)
    | (refine lo_some ?_; first | rfl | (rw [Bool.false_xor]; rfl) | (rw [Bool.true_xor]; rfl) | (simp only [Bool.and_true]; rfl) | (simp; done))
    | (simp only [Int.zero_sub]; exact lo_refl _)
    | (with_reducible refine lo_lpos (by omega) ?_)
    | (with_reducible refine lo_lneg (by omega) ?_)
    | (with_reducible refine lo_lite (fun _ => ?_) (fun _ => ?_))
    | (with_reducible refine lo_rite (fun _ => ?_) (fun _ => ?_))
  all_goals (exfalso; first | omega | (simp_all; done) | (simp_all; omega))
theorem regimenref05_Put.al : AllLe (obls regimenref05_Put.E Try.f59) := by
  rw [regimenref05_Put.h1]
  exact (.cons (fun k y r h => regimenref05_Put.bj0 k y.1.1 y.1.2.1 r h) (.cons (fun _ y r h => by simp [regimenref05_Put.j0] at h) (.cons (fun k y r h => regimenref05_Put.bl0 k y.1.1 y.1.2.1 y.1.2.2.1 r h) (.cons (fun _ y r h => by simp [regimenref05_Put.l0] at h) (.cons (fun k y r h => regimenref05_Put.bl1 k y.1.1 y.1.2.1 y.1.2.2.1 r h) (.cons (fun _ y r h => by simp [regimenref05_Put.l1] at h) .nil))))))
theorem regimenref05_Put.ok : CalleeOk Try.prog 59 regimenref05_Put.c := fn_ok tabOk mixed (fun _ => rfl) Try.func59 rfl (by kernel_rfl) (ok_cons regimenref02_Size.ok (ok_cons regimenref05_Tens.ok (ok_cons regimenref02_Times.ok (ok_cons regimenref02_Twos.ok (ok_cons regimenref03_Rounded.ok (ok_cons regimenref05_Read.ok (ok_cons regimenref02_Cmp.ok (ok_cons regimenref05_Text.ok ok_nil)))))))) regimenref05_Put.al (fun k x r h => (congrFun (congrFun regimenref05_Put.h2 k) x).symm.trans (regimenref05_Put.bf k _ r h))
def regimenref45_tail.c : Sym.Callee := ⟨(.cons (.sl (.int .i64)) .nil), .str, false, ByteArray, fun k x => regimenref45_tail.f k x.1, fun z => z, []⟩
def regimenref45_tail.nl0 (k : Nat) (x0 : List Int) (x3 : ByteArray) (x4 : Int) : Option (ByteArray) := (if x4 < (x0.length : Int) then (if x3.size + (⟨#[32]⟩ : ByteArray).size ≤ 9223372036854775807 then (if 0 ≤ x4 then (if x4 < (x0.length : Int) then ((regimenref05_Put.f k (x0.getD (x4).toNat 0)).bind fun t1 => (if (x3 ++ (⟨#[32]⟩ : ByteArray)).size + t1.size ≤ 9223372036854775807 then (regimenref45_tail.l0 k x0 ((x3 ++ (⟨#[32]⟩ : ByteArray)) ++ t1) (wrap64 (x4 + (1 : Int)))) else none)) else none) else none) else none) else (some x3))
def regimenref45_tail.nf (k : Nat) (a0 : List Int) : Option (ByteArray) := (regimenref45_tail.l0 k a0 (⟨#[]⟩ : ByteArray) (0 : Int))
noncomputable def regimenref45_tail.E : Env (ByteArray) := envOf tab Try.f41 false .str [] (fun y => y) [(59, regimenref05_Put.c)] [⟨3, ⟨20, [(0, (.sl (.int .i64)), []), (3, .str, []), (4, (.int .i64), [])], [], []⟩, fun k y => regimenref45_tail.l0 k y.1.1 y.1.2.1 y.1.2.2.1⟩] []
theorem regimenref45_tail.h1 : obls regimenref45_tail.E Try.f41 = [⟨(.cons (.cons (.sl (.int .i64)) (.cons .str (.cons (.int .i64) .nil))) (.cons .nil (.cons .nil .nil))), fun k y => regimenref45_tail.l0 (k + 1) y.1.1 y.1.2.1 y.1.2.2.1, fun k y => regimenref45_tail.nl0 k y.1.1 y.1.2.1 y.1.2.2.1⟩, ⟨(.cons (.cons (.sl (.int .i64)) (.cons .str (.cons (.int .i64) .nil))) (.cons .nil (.cons .nil .nil))), fun _ y => regimenref45_tail.l0 0 y.1.1 y.1.2.1 y.1.2.2.1, fun _ _ => none⟩] := by kernel_rfl
theorem regimenref45_tail.h2 : (fun k (x : El (.cons (.sl (.int .i64)) .nil)) => regimenref45_tail.nf k x.1) = fun k x => mainK regimenref45_tail.E Try.f41 (.cons (.sl (.int .i64)) .nil) k x := by kernel_rfl
theorem regimenref45_tail.bl0 (k : Nat) (x0 : List Int) (x3 : ByteArray) (x4 : Int) : Lo (regimenref45_tail.l0 (k + 1) x0 x3 x4) (regimenref45_tail.nl0 k x0 x3 x4) := by
  rw [regimenref45_tail.l0]
  unfold regimenref45_tail.nl0
  try simp only [Bool.false_xor, Bool.true_xor, wu8_64, wu8_u64, byL_nums, btS_bt, nil_tl, beq_decL, beq_decI]
  repeat' first
    | (with_reducible exact lo_refl _)
    | exact lo_none _
    | (with_reducible refine lo_lpos (by first | assumption | decide) ?_)
    | (with_reducible refine lo_lneg (by first | assumption | decide) ?_)
    | (with_reducible refine lo_ite (fun _ => ?_) (fun _ => ?_))
    | (with_reducible refine lo_bind (fun _ => ?_))
    | (with_reducible refine lo_left ?_)
    | (refine lo_neg (by decide) ?_)
    | (refine lo_pos (by first | assumption | omega) ?_)
    | (refine lo_neg (by first | assumption | omega) ?_)
    | (with_reducible refine lo_test (fun _ => by first | assumption | omega | (simp only [List.length_cons, List.length_nil]; omega) | decide) (fun _ => ?_))
    | (with_reducible refine lo_testn (fun _ => by first | assumption | omega) (fun _ => ?_))
    | (with_reducible refine lo_and (fun z => by first | exact z.1 | omega) (fun z => by first | exact z.2 | omega) (fun _ => ?_))
    | exact lo_refl _
    | (with_reducible refine lo_iff (by first | exact Iff.rfl | omega | (simp; done) | decide) (fun _ => ?_) (fun _ => ?_))
    | (with_reducible refine lo_iffn (by first | exact Iff.rfl | omega | (simp; done) | decide) (fun _ => ?_) (fun _ => ?_))
    | refine lo_ite (fun _ => ?_) (fun _ => ?_)
    | refine lo_bind (fun _ => ?_)
    | (refine lo_some ?_; first | rfl | (rw [Bool.false_xor]; rfl) | (rw [Bool.true_xor]; rfl) | (simp only [Bool.and_true]; rfl) | (simp; done))
    | (simp only [Int.zero_sub]; exact lo_refl _)
    | (with_reducible refine lo_lpos (by omega) ?_)
    | (with_reducible refine lo_lneg (by omega) ?_)
    | (with_reducible refine lo_lite (fun _ => ?_) (fun _ => ?_))
    | (with_reducible refine lo_rite (fun _ => ?_) (fun _ => ?_))
  all_goals (exfalso; first | omega | (simp_all; done) | (simp_all; omega))
set_option maxHeartbeats 2000000 in
theorem regimenref45_tail.bf (k : Nat) (a0 : List Int) : Lo (regimenref45_tail.f k a0) (regimenref45_tail.nf k a0) := by
  unfold regimenref45_tail.f regimenref45_tail.nf
  try simp only [Bool.false_xor, Bool.true_xor, wu8_64, wu8_u64, byL_nums, btS_bt, nil_tl, beq_decL, beq_decI]
  repeat' first
    | (with_reducible exact lo_refl _)
    | exact lo_none _
    | (with_reducible refine lo_lpos (by first | assumption | decide) ?_)
    | (with_reducible refine lo_lneg (by first | assumption | decide) ?_)
    | (with_reducible refine lo_ite (fun _ => ?_) (fun _ => ?_))
    | (with_reducible refine lo_bind (fun _ => ?_))
    | (with_reducible refine lo_left ?_)
    | (refine lo_neg (by decide) ?_)
    | (refine lo_pos (by first | assumption | omega) ?_)
    | (refine lo_neg (by first | assumption | omega) ?_)
    | (with_reducible refine lo_test (fun _ => by first | assumption | omega | (simp only [List.length_cons, List.length_nil]; omega) | decide) (fun _ => ?_))
    | (with_reducible refine lo_testn (fun _ => by first | assumption | omega) (fun _ => ?_))
    | (with_reducible refine lo_and (fun z => by first | exact z.1 | omega) (fun z => by first | exact z.2 | omega) (fun _ => ?_))
    | exact lo_refl _
    | (with_reducible refine lo_iff (by first | exact Iff.rfl | omega | (simp; done) | decide) (fun _ => ?_) (fun _ => ?_))
    | (with_reducible refine lo_iffn (by first | exact Iff.rfl | omega | (simp; done) | decide) (fun _ => ?_) (fun _ => ?_))
    | refine lo_ite (fun _ => ?_) (fun _ => ?_)
    | refine lo_bind (fun _ => ?_)
    | (refine lo_some ?_; first | rfl | (rw [Bool.false_xor]; rfl) | (rw [Bool.true_xor]; rfl) | (simp only [Bool.and_true]; rfl) | (simp; done))
    | (simp only [Int.zero_sub]; exact lo_refl _)
    | (with_reducible refine lo_lpos (by omega) ?_)
    | (with_reducible refine lo_lneg (by omega) ?_)
    | (with_reducible refine lo_lite (fun _ => ?_) (fun _ => ?_))
    | (with_reducible refine lo_rite (fun _ => ?_) (fun _ => ?_))
  all_goals (exfalso; first | omega | (simp_all; done) | (simp_all; omega))
theorem regimenref45_tail.al : AllLe (obls regimenref45_tail.E Try.f41) := by
  rw [regimenref45_tail.h1]
  exact (.cons (fun k y r h => regimenref45_tail.bl0 k y.1.1 y.1.2.1 y.1.2.2.1 r h) (.cons (fun _ y r h => by simp [regimenref45_tail.l0] at h) .nil))
theorem regimenref45_tail.ok : CalleeOk Try.prog 41 regimenref45_tail.c := fn_ok tabOk mixed (fun _ => rfl) Try.func41 rfl (by kernel_rfl) (ok_cons regimenref05_Put.ok ok_nil) regimenref45_tail.al (fun k x r h => (congrFun (congrFun regimenref45_tail.h2 k) x).symm.trans (regimenref45_tail.bf k _ r h))
def regimenref36_Words.c : Sym.Callee := ⟨.nil, (.sl .str), false, List ByteArray, fun k x => regimenref36_Words.f, fun z => z, []⟩
def regimenref36_Words.nf (k : Nat) : Option (List ByteArray) := (some [(⟨#[]⟩ : ByteArray), (⟨#[112, 104, 97, 115, 101]⟩ : ByteArray), (⟨#[116, 104, 97, 119]⟩ : ByteArray), (⟨#[102, 114, 101, 101, 122, 101]⟩ : ByteArray), (⟨#[115, 119, 97]⟩ : ByteArray), (⟨#[102, 97, 105, 108]⟩ : ByteArray), (⟨#[109, 105, 115, 115]⟩ : ByteArray), (⟨#[107, 101, 101, 112]⟩ : ByteArray), (⟨#[100, 114, 111, 112]⟩ : ByteArray), (⟨#[99, 117, 116]⟩ : ByteArray), (⟨#[115, 116, 111, 112]⟩ : ByteArray), (⟨#[101, 110, 100]⟩ : ByteArray)])
noncomputable def regimenref36_Words.E : Env (List ByteArray) := envOf tab Try.f10 false (.sl .str) [] (fun y => y) [] [] []
theorem regimenref36_Words.h1 : obls regimenref36_Words.E Try.f10 = [] := by kernel_rfl
theorem regimenref36_Words.h2 : (fun k (x : El .nil) => regimenref36_Words.nf k) = fun k x => mainK regimenref36_Words.E Try.f10 .nil k x := by kernel_rfl
set_option maxHeartbeats 2000000 in
theorem regimenref36_Words.bf (k : Nat) : Lo (regimenref36_Words.f ) (regimenref36_Words.nf k ) := by
  unfold regimenref36_Words.f regimenref36_Words.nf
  try simp only [Bool.false_xor, Bool.true_xor, wu8_64, wu8_u64, byL_nums, btS_bt, nil_tl, beq_decL, beq_decI]
  repeat' first
    | (with_reducible exact lo_refl _)
    | exact lo_none _
    | (with_reducible refine lo_lpos (by first | assumption | decide) ?_)
    | (with_reducible refine lo_lneg (by first | assumption | decide) ?_)
    | (with_reducible refine lo_ite (fun _ => ?_) (fun _ => ?_))
    | (with_reducible refine lo_bind (fun _ => ?_))
    | (with_reducible refine lo_left ?_)
    | (refine lo_neg (by decide) ?_)
    | (refine lo_pos (by first | assumption | omega) ?_)
    | (refine lo_neg (by first | assumption | omega) ?_)
    | (with_reducible refine lo_test (fun _ => by first | assumption | omega | (simp only [List.length_cons, List.length_nil]; omega) | decide) (fun _ => ?_))
    | (with_reducible refine lo_testn (fun _ => by first | assumption | omega) (fun _ => ?_))
    | (with_reducible refine lo_and (fun z => by first | exact z.1 | omega) (fun z => by first | exact z.2 | omega) (fun _ => ?_))
    | exact lo_refl _
    | (with_reducible refine lo_iff (by first | exact Iff.rfl | omega | (simp; done) | decide) (fun _ => ?_) (fun _ => ?_))
    | (with_reducible refine lo_iffn (by first | exact Iff.rfl | omega | (simp; done) | decide) (fun _ => ?_) (fun _ => ?_))
    | refine lo_ite (fun _ => ?_) (fun _ => ?_)
    | refine lo_bind (fun _ => ?_)
    | (refine lo_some ?_; first | rfl | (rw [Bool.false_xor]; rfl) | (rw [Bool.true_xor]; rfl) | (simp only [Bool.and_true]; rfl) | (simp; done))
    | (simp only [Int.zero_sub]; exact lo_refl _)
    | (with_reducible refine lo_lpos (by omega) ?_)
    | (with_reducible refine lo_lneg (by omega) ?_)
    | (with_reducible refine lo_lite (fun _ => ?_) (fun _ => ?_))
    | (with_reducible refine lo_rite (fun _ => ?_) (fun _ => ?_))
  all_goals (exfalso; first | omega | (simp_all; done) | (simp_all; omega))
theorem regimenref36_Words.al : AllLe (obls regimenref36_Words.E Try.f10) := by
  rw [regimenref36_Words.h1]
  exact .nil
theorem regimenref36_Words.ok : CalleeOk Try.prog 10 regimenref36_Words.c := fn_ok tabOk mixed (fun _ => rfl) Try.func10 rfl (by kernel_rfl) ok_nil regimenref36_Words.al (fun k x r h => (congrFun (congrFun regimenref36_Words.h2 k) x).symm.trans (regimenref36_Words.bf k r h))
def regimenref36_Line.c : Sym.Callee := ⟨(.cons (.cons (.int .i64) (.cons (.int .i64) (.cons (.int .i64) .nil))) .nil), .str, false, ByteArray, fun k x => regimenref36_Line.f k x.1.1 x.1.2.1 x.1.2.2.1, fun z => z, []⟩
def regimenref36_Line.nf (k : Nat) (a0_0 : Int) (a0_1 : Int) (a0_2 : Int) : Option (ByteArray) := (if a0_1 ≥ (1 : Int) then (if a0_1 ≤ (11 : Int) then ((regimenref36_Words.f).bind fun t1 => (if 0 ≤ a0_1 then (if a0_1 < (t1.length : Int) then (if (t1.getD (a0_1).toNat (⟨#[]⟩ : ByteArray)).size + (⟨#[32]⟩ : ByteArray).size ≤ 9223372036854775807 then ((regimenref01_Tell.f k a0_2).bind fun t2 => (if ((t1.getD (a0_1).toNat (⟨#[]⟩ : ByteArray)) ++ (⟨#[32]⟩ : ByteArray)).size + t2.size ≤ 9223372036854775807 then (some (((t1.getD (a0_1).toNat (⟨#[]⟩ : ByteArray)) ++ (⟨#[32]⟩ : ByteArray)) ++ t2)) else none)) else none) else none) else none)) else (if (⟨#[63]⟩ : ByteArray).size + (⟨#[32]⟩ : ByteArray).size ≤ 9223372036854775807 then ((regimenref01_Tell.f k a0_2).bind fun t3 => (if ((⟨#[63]⟩ : ByteArray) ++ (⟨#[32]⟩ : ByteArray)).size + t3.size ≤ 9223372036854775807 then (some (((⟨#[63]⟩ : ByteArray) ++ (⟨#[32]⟩ : ByteArray)) ++ t3)) else none)) else none)) else (if (⟨#[63]⟩ : ByteArray).size + (⟨#[32]⟩ : ByteArray).size ≤ 9223372036854775807 then ((regimenref01_Tell.f k a0_2).bind fun t4 => (if ((⟨#[63]⟩ : ByteArray) ++ (⟨#[32]⟩ : ByteArray)).size + t4.size ≤ 9223372036854775807 then (some (((⟨#[63]⟩ : ByteArray) ++ (⟨#[32]⟩ : ByteArray)) ++ t4)) else none)) else none))
noncomputable def regimenref36_Line.E : Env (ByteArray) := envOf tab Try.f11 false .str [] (fun y => y) [(10, regimenref36_Words.c), (37, regimenref01_Tell.c)] [] []
theorem regimenref36_Line.h1 : obls regimenref36_Line.E Try.f11 = [] := by kernel_rfl
theorem regimenref36_Line.h2 : (fun k (x : El (.cons (.cons (.int .i64) (.cons (.int .i64) (.cons (.int .i64) .nil))) .nil)) => regimenref36_Line.nf k x.1.1 x.1.2.1 x.1.2.2.1) = fun k x => mainK regimenref36_Line.E Try.f11 (.cons (.cons (.int .i64) (.cons (.int .i64) (.cons (.int .i64) .nil))) .nil) k x := by kernel_rfl
set_option maxHeartbeats 2000000 in
theorem regimenref36_Line.bf (k : Nat) (a0_0 : Int) (a0_1 : Int) (a0_2 : Int) : Lo (regimenref36_Line.f k a0_0 a0_1 a0_2) (regimenref36_Line.nf k a0_0 a0_1 a0_2) := by
  unfold regimenref36_Line.f regimenref36_Line.nf
  try simp only [Bool.false_xor, Bool.true_xor, wu8_64, wu8_u64, byL_nums, btS_bt, nil_tl, beq_decL, beq_decI]
  repeat' first
    | (with_reducible exact lo_refl _)
    | exact lo_none _
    | (with_reducible refine lo_lpos (by first | assumption | decide) ?_)
    | (with_reducible refine lo_lneg (by first | assumption | decide) ?_)
    | (with_reducible refine lo_ite (fun _ => ?_) (fun _ => ?_))
    | (with_reducible refine lo_bind (fun _ => ?_))
    | (with_reducible refine lo_left ?_)
    | (refine lo_neg (by decide) ?_)
    | (refine lo_pos (by first | assumption | omega) ?_)
    | (refine lo_neg (by first | assumption | omega) ?_)
    | (refine lo_trans (fun r h => (regimenref36_Line.mono_l _) _ _ _ _ _ r h) ?_; rw [regimenref36_Line.j0]; try simp only [decide_eq_true_eq])
    | (with_reducible refine lo_test (fun _ => by first | assumption | omega | (simp only [List.length_cons, List.length_nil]; omega) | decide) (fun _ => ?_))
    | (with_reducible refine lo_testn (fun _ => by first | assumption | omega) (fun _ => ?_))
    | (with_reducible refine lo_and (fun z => by first | exact z.1 | omega) (fun z => by first | exact z.2 | omega) (fun _ => ?_))
    | exact lo_refl _
    | (with_reducible refine lo_iff (by first | exact Iff.rfl | omega | (simp; done) | decide) (fun _ => ?_) (fun _ => ?_))
    | (with_reducible refine lo_iffn (by first | exact Iff.rfl | omega | (simp; done) | decide) (fun _ => ?_) (fun _ => ?_))
    | refine lo_ite (fun _ => ?_) (fun _ => ?_)
    | refine lo_bind (fun _ => ?_)
    | (refine lo_some ?_; first | rfl | (rw [Bool.false_xor]; rfl) | (rw [Bool.true_xor]; rfl) | (simp only [Bool.and_true]; rfl) | (simp; done))
    | (simp only [Int.zero_sub]; exact lo_refl _)
    | (with_reducible refine lo_lpos (by omega) ?_)
    | (with_reducible refine lo_lneg (by omega) ?_)
    | (with_reducible refine lo_lite (fun _ => ?_) (fun _ => ?_))
    | (with_reducible refine lo_rite (fun _ => ?_) (fun _ => ?_))
  all_goals (exfalso; first | omega | (simp_all; done) | (simp_all; omega))
theorem regimenref36_Line.al : AllLe (obls regimenref36_Line.E Try.f11) := by
  rw [regimenref36_Line.h1]
  exact .nil
theorem regimenref36_Line.ok : CalleeOk Try.prog 11 regimenref36_Line.c := fn_ok tabOk mixed (fun _ => rfl) Try.func11 rfl (by kernel_rfl) (ok_cons regimenref36_Words.ok (ok_cons regimenref01_Tell.ok ok_nil)) regimenref36_Line.al (fun k x r h => (congrFun (congrFun regimenref36_Line.h2 k) x).symm.trans (regimenref36_Line.bf k _ _ _ r h))
mutual
def regimenref45_Step_s.l3 : Nat → (List ByteArray) → Int → (Int × Int × (List Int) × (List Bool) × (List (Int × Int × Int × Unit)) × Int × Unit) → Option (List ByteArray)
  | 0, _, _, _ => none
  | k + 1, x3, x4, b1 => (if (wrap64 ((wrap64 ((3 : Int) * x4)) + (2 : Int))) < (b1.2.2.1.length : Int) then ((regimenref01_Tell.f k x4).bind fun t4 => (if (⟨#[32, 32, 103, 114, 111, 117, 112, 32]⟩ : ByteArray).size + t4.size ≤ 9223372036854775807 then (if 0 ≤ (wrap64 ((3 : Int) * x4)) then (if (wrap64 ((3 : Int) * x4)) ≤ (wrap64 ((wrap64 ((3 : Int) * x4)) + (3 : Int))) then (if (wrap64 ((wrap64 ((3 : Int) * x4)) + (3 : Int))) ≤ (b1.2.2.1.length : Int) then ((regimenref45_tail.f k ((b1.2.2.1.take ((wrap64 ((wrap64 ((3 : Int) * x4)) + (3 : Int)))).toNat).drop ((wrap64 ((3 : Int) * x4))).toNat)).bind fun t5 => (if ((⟨#[32, 32, 103, 114, 111, 117, 112, 32]⟩ : ByteArray) ++ t4).size + t5.size ≤ 9223372036854775807 then (if x4 < (b1.2.2.2.1.length : Int) then (if 0 ≤ x4 then (if x4 < (b1.2.2.2.1.length : Int) then (if (b1.2.2.2.1.getD (x4).toNat false) = true then (if (((⟨#[32, 32, 103, 114, 111, 117, 112, 32]⟩ : ByteArray) ++ t4) ++ t5).size + (⟨#[32, 102, 114, 111, 122, 101, 110]⟩ : ByteArray).size ≤ 9223372036854775807 then (regimenref45_Step_s.j8 k x3 x4 ((((⟨#[32, 32, 103, 114, 111, 117, 112, 32]⟩ : ByteArray) ++ t4) ++ t5) ++ (⟨#[32, 102, 114, 111, 122, 101, 110]⟩ : ByteArray)) b1) else none) else (regimenref45_Step_s.j8 k x3 x4 (((⟨#[32, 32, 103, 114, 111, 117, 112, 32]⟩ : ByteArray) ++ t4) ++ t5) b1)) else none) else none) else (regimenref45_Step_s.j8 k x3 x4 (((⟨#[32, 32, 103, 114, 111, 117, 112, 32]⟩ : ByteArray) ++ t4) ++ t5) b1)) else none)) else none) else none) else none) else none)) else (regimenref45_Step_s.l10 k x3 (0 : Int) b1))
def regimenref45_Step_s.j8 : Nat → (List ByteArray) → Int → ByteArray → (Int × Int × (List Int) × (List Bool) × (List (Int × Int × Int × Unit)) × Int × Unit) → Option (List ByteArray)
  | 0, _, _, _, _ => none
  | k + 1, x3, x4, x5, b1 => (if (x3.length + [x5].length) * 16 ≤ 140737488355328 then (regimenref45_Step_s.j4 k (x3 ++ [x5]) x4 b1) else none)
def regimenref45_Step_s.j4 : Nat → (List ByteArray) → Int → (Int × Int × (List Int) × (List Bool) × (List (Int × Int × Int × Unit)) × Int × Unit) → Option (List ByteArray)
  | 0, _, _, _ => none
  | k + 1, x3, x4, b1 => (regimenref45_Step_s.l3 k x3 (wrap64 (x4 + (1 : Int))) b1)
def regimenref45_Step_s.l10 : Nat → (List ByteArray) → Int → (Int × Int × (List Int) × (List Bool) × (List (Int × Int × Int × Unit)) × Int × Unit) → Option (List ByteArray)
  | 0, _, _, _ => none
  | k + 1, x3, x6, b1 => (if x6 < (b1.2.2.2.2.1.length : Int) then (if 0 ≤ x6 then (if x6 < (b1.2.2.2.2.1.length : Int) then ((regimenref36_Line.f k ((b1.2.2.2.2.1.getD (x6).toNat (0, 0, 0, ())).1) ((b1.2.2.2.2.1.getD (x6).toNat (0, 0, 0, ())).2.1) ((b1.2.2.2.2.1.getD (x6).toNat (0, 0, 0, ())).2.2.1)).bind fun t6 => (if (⟨#[32, 32]⟩ : ByteArray).size + t6.size ≤ 9223372036854775807 then (if (x3.length + [((⟨#[32, 32]⟩ : ByteArray) ++ t6)].length) * 16 ≤ 140737488355328 then (regimenref45_Step_s.l10 k (x3 ++ [((⟨#[32, 32]⟩ : ByteArray) ++ t6)]) (wrap64 (x6 + (1 : Int))) b1) else none) else none)) else none) else none) else (some x3))
end
def regimenref45_Step_s.f (k : Nat) (a0 : Int × Int × (List Int) × (List Bool) × (List (Int × Int × Int × Unit)) × Int × Unit) : Option (List ByteArray) := ((regimenref01_Tell.f k a0.1).bind fun t1 => (if (⟨#[115, 116, 101, 112, 32]⟩ : ByteArray).size + t1.size ≤ 9223372036854775807 then (if ((⟨#[115, 116, 101, 112, 32]⟩ : ByteArray) ++ t1).size + (⟨#[32, 112, 104, 97, 115, 101, 32]⟩ : ByteArray).size ≤ 9223372036854775807 then ((regimenref01_Tell.f k a0.2.1).bind fun t2 => (if (((⟨#[115, 116, 101, 112, 32]⟩ : ByteArray) ++ t1) ++ (⟨#[32, 112, 104, 97, 115, 101, 32]⟩ : ByteArray)).size + t2.size ≤ 9223372036854775807 then (if ((((⟨#[115, 116, 101, 112, 32]⟩ : ByteArray) ++ t1) ++ (⟨#[32, 112, 104, 97, 115, 101, 32]⟩ : ByteArray)) ++ t2).size + (⟨#[32]⟩ : ByteArray).size ≤ 9223372036854775807 then ((regimenref45_Word.f a0.2.2.2.2.2.1).bind fun t3 => (if (((((⟨#[115, 116, 101, 112, 32]⟩ : ByteArray) ++ t1) ++ (⟨#[32, 112, 104, 97, 115, 101, 32]⟩ : ByteArray)) ++ t2) ++ (⟨#[32]⟩ : ByteArray)).size + t3.size ≤ 9223372036854775807 then (regimenref45_Step_s.l3 k [((((((⟨#[115, 116, 101, 112, 32]⟩ : ByteArray) ++ t1) ++ (⟨#[32, 112, 104, 97, 115, 101, 32]⟩ : ByteArray)) ++ t2) ++ (⟨#[32]⟩ : ByteArray)) ++ t3)] (0 : Int) a0) else none)) else none) else none)) else none) else none))
def regimenref45_Step_s.c : Sym.Callee := ⟨(.cons (.cons (.int .i64) (.cons (.int .i64) (.cons (.sl (.int .i64)) (.cons (.sl .bool) (.cons (.sl (.cons (.int .i64) (.cons (.int .i64) (.cons (.int .i64) .nil)))) (.cons (.int .i64) .nil)))))) .nil), (.sl .str), false, El (.sl .str), fun k x => regimenref45_Step_s.f k x.1, fun y => y, []⟩
noncomputable def regimenref45_Step_s.E : Env (El (.sl .str)) := envOf tab Try.f20 false (.sl .str) [] (fun y => y) [(37, regimenref01_Tell.c), (24, regimenref45_Word.c), (41, regimenref45_tail.c), (11, regimenref36_Line.c)] [⟨3, ⟨80, [(3, (.sl .str), [⟨0, 4, 9, 1⟩]), (4, (.int .i64), [])], [(1, (.cons (.int .i64) (.cons (.int .i64) (.cons (.sl (.int .i64)) (.cons (.sl .bool) (.cons (.sl (.cons (.int .i64) (.cons (.int .i64) (.cons (.int .i64) .nil)))) (.cons (.int .i64) .nil)))))), [])], []⟩, fun k y => regimenref45_Step_s.l3 k y.1.1 y.1.2.1 y.2.1.1⟩, ⟨10, ⟨80, [(3, (.sl .str), [⟨0, 4, 9, 1⟩]), (6, (.int .i64), [])], [(1, (.cons (.int .i64) (.cons (.int .i64) (.cons (.sl (.int .i64)) (.cons (.sl .bool) (.cons (.sl (.cons (.int .i64) (.cons (.int .i64) (.cons (.int .i64) .nil)))) (.cons (.int .i64) .nil)))))), [])], []⟩, fun k y => regimenref45_Step_s.l10 k y.1.1 y.1.2.1 y.2.1.1⟩] [⟨8, ⟨80, [(3, (.sl .str), [⟨0, 4, 9, 1⟩]), (4, (.int .i64), []), (5, .str, [])], [(1, (.cons (.int .i64) (.cons (.int .i64) (.cons (.sl (.int .i64)) (.cons (.sl .bool) (.cons (.sl (.cons (.int .i64) (.cons (.int .i64) (.cons (.int .i64) .nil)))) (.cons (.int .i64) .nil)))))), [])], []⟩, fun k y => regimenref45_Step_s.j8 k y.1.1 y.1.2.1 y.1.2.2.1 y.2.1.1⟩, ⟨4, ⟨80, [(3, (.sl .str), [⟨0, 4, 9, 1⟩]), (4, (.int .i64), [])], [(1, (.cons (.int .i64) (.cons (.int .i64) (.cons (.sl (.int .i64)) (.cons (.sl .bool) (.cons (.sl (.cons (.int .i64) (.cons (.int .i64) (.cons (.int .i64) .nil)))) (.cons (.int .i64) .nil)))))), [])], []⟩, fun k y => regimenref45_Step_s.j4 k y.1.1 y.1.2.1 y.2.1.1⟩]
theorem regimenref45_Step_s.h1 : (obls regimenref45_Step_s.E Try.f20).map Ob.left = (obls regimenref45_Step_s.E Try.f20).map Ob.right := by kernel_rfl
theorem regimenref45_Step_s.h2 : (fun k x => regimenref45_Step_s.c.fn k x) = fun k x => mainK regimenref45_Step_s.E Try.f20 regimenref45_Step_s.c.dom k x := by kernel_rfl
theorem regimenref45_Step_s.ok : CalleeOk Try.prog 20 regimenref45_Step_s.c := fn_ok tabOk mixed (fun _ => rfl) Try.func20 rfl (by kernel_rfl) (ok_cons regimenref01_Tell.ok (ok_cons regimenref45_Word.ok (ok_cons regimenref45_tail.ok (ok_cons regimenref36_Line.ok ok_nil)))) (.of_eq regimenref45_Step_s.h1) (fun k x _ h => (congrFun (congrFun regimenref45_Step_s.h2 k) x).symm.trans h)
def regimenref34_May.c : Sym.Callee := ⟨(.cons (.cons (.int .i64) (.cons (.sl (.int .i64)) .nil)) .nil), .bool, false, Bool, fun k x => regimenref34_May.f x.1.1 x.1.2.1, fun z => z, []⟩
def regimenref34_May.nf (k : Nat) (a0_0 : Int) (a0_1 : List Int) : Option (Bool) := (if a0_0 ≥ (0 : Int) then (if a0_0 ≤ (1048576 : Int) then (if a0_0 > (0 : Int) then (some true) else (some (xor false (decide ((a0_1.length : Int) = (0 : Int)))))) else (some false)) else (some false))
noncomputable def regimenref34_May.E : Env (Bool) := envOf tab Try.f45 false .bool [] (fun y => y) [] [] []
theorem regimenref34_May.h1 : obls regimenref34_May.E Try.f45 = [] := by kernel_rfl
theorem regimenref34_May.h2 : (fun k (x : El (.cons (.cons (.int .i64) (.cons (.sl (.int .i64)) .nil)) .nil)) => regimenref34_May.nf k x.1.1 x.1.2.1) = fun k x => mainK regimenref34_May.E Try.f45 (.cons (.cons (.int .i64) (.cons (.sl (.int .i64)) .nil)) .nil) k x := by kernel_rfl
set_option maxHeartbeats 2000000 in
theorem regimenref34_May.bf (k : Nat) (a0_0 : Int) (a0_1 : List Int) : Lo (regimenref34_May.f a0_0 a0_1) (regimenref34_May.nf k a0_0 a0_1) := by
  unfold regimenref34_May.f regimenref34_May.nf
  try simp only [Bool.false_xor, Bool.true_xor, wu8_64, wu8_u64, byL_nums, btS_bt, nil_tl, beq_decL, beq_decI]
  repeat' first
    | (with_reducible exact lo_refl _)
    | exact lo_none _
    | (with_reducible refine lo_lpos (by first | assumption | decide) ?_)
    | (with_reducible refine lo_lneg (by first | assumption | decide) ?_)
    | (with_reducible refine lo_ite (fun _ => ?_) (fun _ => ?_))
    | (with_reducible refine lo_bind (fun _ => ?_))
    | (with_reducible refine lo_left ?_)
    | (refine lo_neg (by decide) ?_)
    | (refine lo_pos (by first | assumption | omega) ?_)
    | (refine lo_neg (by first | assumption | omega) ?_)
    | (with_reducible refine lo_test (fun _ => by first | assumption | omega | (simp only [List.length_cons, List.length_nil]; omega) | decide) (fun _ => ?_))
    | (with_reducible refine lo_testn (fun _ => by first | assumption | omega) (fun _ => ?_))
    | (with_reducible refine lo_and (fun z => by first | exact z.1 | omega) (fun z => by first | exact z.2 | omega) (fun _ => ?_))
    | exact lo_refl _
    | (with_reducible refine lo_iff (by first | exact Iff.rfl | omega | (simp; done) | decide) (fun _ => ?_) (fun _ => ?_))
    | (with_reducible refine lo_iffn (by first | exact Iff.rfl | omega | (simp; done) | decide) (fun _ => ?_) (fun _ => ?_))
    | refine lo_ite (fun _ => ?_) (fun _ => ?_)
    | refine lo_bind (fun _ => ?_)
    | (refine lo_some ?_; first | rfl | (rw [Bool.false_xor]; rfl) | (rw [Bool.true_xor]; rfl) | (simp only [Bool.and_true]; rfl) | (simp; done))
    | (simp only [Int.zero_sub]; exact lo_refl _)
    | (with_reducible refine lo_lpos (by omega) ?_)
    | (with_reducible refine lo_lneg (by omega) ?_)
    | (with_reducible refine lo_lite (fun _ => ?_) (fun _ => ?_))
    | (with_reducible refine lo_rite (fun _ => ?_) (fun _ => ?_))
  all_goals (exfalso; first | omega | (simp_all; done) | (simp_all; omega))
theorem regimenref34_May.al : AllLe (obls regimenref34_May.E Try.f45) := by
  rw [regimenref34_May.h1]
  exact .nil
theorem regimenref34_May.ok : CalleeOk Try.prog 45 regimenref34_May.c := fn_ok tabOk mixed (fun _ => rfl) Try.func45 rfl (by kernel_rfl) ok_nil regimenref34_May.al (fun k x r h => (congrFun (congrFun regimenref34_May.h2 k) x).symm.trans (regimenref34_May.bf k _ _ r h))
def regimenref02_Mod.c : Sym.Callee := ⟨(.cons (.sl (.int .u64)) .nil), (.cons (.int .u64) (.cons (.int .u64) .nil)), false, Int × Int, fun k x => regimenref02_Mod.f k x.1, fun z => (z.1, z.2, ()), []⟩
def regimenref02_Mod.nl0 (k : Nat) (x0 : List Int) (x4 : Int) (b2_0 : Int) (b2_1 : Int) (b3_0 : Int) (b3_1 : Int) : Option (Int × Int) := (if x4 ≥ (0 : Int) then (if x4 ≥ (4 : Int) then (if 0 ≤ (0 : Int) then (if (0 : Int) < ((2 : Nat) : Int) then ((regimenref02_digit.f x0 x4).bind fun t1 => (if 0 ≤ (0 : Int) then (if (0 : Int) < ((2 : Nat) : Int) then (regimenref02_Mod.l0 k x0 (wrap64 (x4 - (1 : Int))) (IntKind.wrap .u64 ((IntKind.wrap .u64 (b3_0 * (65536 : Int))) + t1)) b3_1) else none) else none)) else none) else none) else (if 0 ≤ (1 : Int) then (if (1 : Int) < ((2 : Nat) : Int) then ((regimenref02_digit.f x0 x4).bind fun t2 => (if 0 ≤ (1 : Int) then (if (1 : Int) < ((2 : Nat) : Int) then (regimenref02_Mod.l0 k x0 (wrap64 (x4 - (1 : Int))) b3_0 (IntKind.wrap .u64 ((IntKind.wrap .u64 (b3_1 * (65536 : Int))) + t2))) else none) else none)) else none) else none)) else (some (b3_0, b3_1)))
def regimenref02_Mod.nf (k : Nat) (a0 : List Int) : Option (Int × Int) := (regimenref02_Mod.l0 k a0 (7 : Int) 0 0)
noncomputable def regimenref02_Mod.E : Env (Int × Int) := envOf tab Try.f93 false (.cons (.int .u64) (.cons (.int .u64) .nil)) [] (fun y => (y.1, y.2.1)) [(111, regimenref02_digit.c)] [⟨3, ⟨29, [(0, (.sl (.int .u64)), []), (4, (.int .i64), [])], [(2, (.cons (.int .u64) (.cons (.int .u64) .nil)), []), (3, (.cons (.int .u64) (.cons (.int .u64) .nil)), [])], []⟩, fun k y => regimenref02_Mod.l0 k y.1.1 y.1.2.1 y.2.1.2.1.1 y.2.1.2.1.2.1⟩] []
theorem regimenref02_Mod.h1 : obls regimenref02_Mod.E Try.f93 = [⟨(.cons (.cons (.sl (.int .u64)) (.cons (.int .i64) .nil)) (.cons (.cons (.cons (.int .u64) (.cons (.int .u64) .nil)) (.cons (.cons (.int .u64) (.cons (.int .u64) .nil)) .nil)) (.cons .nil .nil))), fun k y => regimenref02_Mod.l0 (k + 1) y.1.1 y.1.2.1 y.2.1.2.1.1 y.2.1.2.1.2.1, fun k y => regimenref02_Mod.nl0 k y.1.1 y.1.2.1 y.2.1.1.1 y.2.1.1.2.1 y.2.1.2.1.1 y.2.1.2.1.2.1⟩, ⟨(.cons (.cons (.sl (.int .u64)) (.cons (.int .i64) .nil)) (.cons (.cons (.cons (.int .u64) (.cons (.int .u64) .nil)) (.cons (.cons (.int .u64) (.cons (.int .u64) .nil)) .nil)) (.cons .nil .nil))), fun _ y => regimenref02_Mod.l0 0 y.1.1 y.1.2.1 y.2.1.2.1.1 y.2.1.2.1.2.1, fun _ _ => none⟩] := by kernel_rfl
theorem regimenref02_Mod.h2 : (fun k (x : El (.cons (.sl (.int .u64)) .nil)) => regimenref02_Mod.nf k x.1) = fun k x => mainK regimenref02_Mod.E Try.f93 (.cons (.sl (.int .u64)) .nil) k x := by kernel_rfl
theorem regimenref02_Mod.bl0 (k : Nat) (x0 : List Int) (x4 : Int) (b2_0 : Int) (b2_1 : Int) (b3_0 : Int) (b3_1 : Int) : Lo (regimenref02_Mod.l0 (k + 1) x0 x4 b3_0 b3_1) (regimenref02_Mod.nl0 k x0 x4 b2_0 b2_1 b3_0 b3_1) := by
  rw [regimenref02_Mod.l0]
  unfold regimenref02_Mod.nl0
  try simp only [Bool.false_xor, Bool.true_xor, wu8_64, wu8_u64, byL_nums, btS_bt, nil_tl, beq_decL, beq_decI]
  repeat' first
    | (with_reducible exact lo_refl _)
    | exact lo_none _
    | (with_reducible refine lo_lpos (by first | assumption | decide) ?_)
    | (with_reducible refine lo_lneg (by first | assumption | decide) ?_)
    | (with_reducible refine lo_ite (fun _ => ?_) (fun _ => ?_))
    | (with_reducible refine lo_bind (fun _ => ?_))
    | (with_reducible refine lo_left ?_)
    | (refine lo_neg (by decide) ?_)
    | (refine lo_pos (by first | assumption | omega) ?_)
    | (refine lo_neg (by first | assumption | omega) ?_)
    | (with_reducible refine lo_test (fun _ => by first | assumption | omega | (simp only [List.length_cons, List.length_nil]; omega) | decide) (fun _ => ?_))
    | (with_reducible refine lo_testn (fun _ => by first | assumption | omega) (fun _ => ?_))
    | (with_reducible refine lo_and (fun z => by first | exact z.1 | omega) (fun z => by first | exact z.2 | omega) (fun _ => ?_))
    | exact lo_refl _
    | (with_reducible refine lo_iff (by first | exact Iff.rfl | omega | (simp; done) | decide) (fun _ => ?_) (fun _ => ?_))
    | (with_reducible refine lo_iffn (by first | exact Iff.rfl | omega | (simp; done) | decide) (fun _ => ?_) (fun _ => ?_))
    | refine lo_ite (fun _ => ?_) (fun _ => ?_)
    | refine lo_bind (fun _ => ?_)
    | (refine lo_some ?_; first | rfl | (rw [Bool.false_xor]; rfl) | (rw [Bool.true_xor]; rfl) | (simp only [Bool.and_true]; rfl) | (simp; done))
    | (simp only [Int.zero_sub]; exact lo_refl _)
    | (with_reducible refine lo_lpos (by omega) ?_)
    | (with_reducible refine lo_lneg (by omega) ?_)
    | (with_reducible refine lo_lite (fun _ => ?_) (fun _ => ?_))
    | (with_reducible refine lo_rite (fun _ => ?_) (fun _ => ?_))
  all_goals (exfalso; first | omega | (simp_all; done) | (simp_all; omega))
set_option maxHeartbeats 2000000 in
theorem regimenref02_Mod.bf (k : Nat) (a0 : List Int) : Lo (regimenref02_Mod.f k a0) (regimenref02_Mod.nf k a0) := by
  unfold regimenref02_Mod.f regimenref02_Mod.nf
  try simp only [Bool.false_xor, Bool.true_xor, wu8_64, wu8_u64, byL_nums, btS_bt, nil_tl, beq_decL, beq_decI]
  repeat' first
    | (with_reducible exact lo_refl _)
    | exact lo_none _
    | (with_reducible refine lo_lpos (by first | assumption | decide) ?_)
    | (with_reducible refine lo_lneg (by first | assumption | decide) ?_)
    | (with_reducible refine lo_ite (fun _ => ?_) (fun _ => ?_))
    | (with_reducible refine lo_bind (fun _ => ?_))
    | (with_reducible refine lo_left ?_)
    | (refine lo_neg (by decide) ?_)
    | (refine lo_pos (by first | assumption | omega) ?_)
    | (refine lo_neg (by first | assumption | omega) ?_)
    | (with_reducible refine lo_test (fun _ => by first | assumption | omega | (simp only [List.length_cons, List.length_nil]; omega) | decide) (fun _ => ?_))
    | (with_reducible refine lo_testn (fun _ => by first | assumption | omega) (fun _ => ?_))
    | (with_reducible refine lo_and (fun z => by first | exact z.1 | omega) (fun z => by first | exact z.2 | omega) (fun _ => ?_))
    | exact lo_refl _
    | (with_reducible refine lo_iff (by first | exact Iff.rfl | omega | (simp; done) | decide) (fun _ => ?_) (fun _ => ?_))
    | (with_reducible refine lo_iffn (by first | exact Iff.rfl | omega | (simp; done) | decide) (fun _ => ?_) (fun _ => ?_))
    | refine lo_ite (fun _ => ?_) (fun _ => ?_)
    | refine lo_bind (fun _ => ?_)
    | (refine lo_some ?_; first | rfl | (rw [Bool.false_xor]; rfl) | (rw [Bool.true_xor]; rfl) | (simp only [Bool.and_true]; rfl) | (simp; done))
    | (simp only [Int.zero_sub]; exact lo_refl _)
    | (with_reducible refine lo_lpos (by omega) ?_)
    | (with_reducible refine lo_lneg (by omega) ?_)
    | (with_reducible refine lo_lite (fun _ => ?_) (fun _ => ?_))
    | (with_reducible refine lo_rite (fun _ => ?_) (fun _ => ?_))
  all_goals (exfalso; first | omega | (simp_all; done) | (simp_all; omega))
theorem regimenref02_Mod.al : AllLe (obls regimenref02_Mod.E Try.f93) := by
  rw [regimenref02_Mod.h1]
  exact (.cons (fun k y r h => regimenref02_Mod.bl0 k y.1.1 y.1.2.1 y.2.1.1.1 y.2.1.1.2.1 y.2.1.2.1.1 y.2.1.2.1.2.1 r h) (.cons (fun _ y r h => by simp [regimenref02_Mod.l0] at h) .nil))
theorem regimenref02_Mod.ok : CalleeOk Try.prog 93 regimenref02_Mod.c := fn_ok tabOk mixed (fun _ => rfl) Try.func93 rfl (by kernel_rfl) (ok_cons regimenref02_digit.ok ok_nil) regimenref02_Mod.al (fun k x r h => (congrFun (congrFun regimenref02_Mod.h2 k) x).symm.trans (regimenref02_Mod.bf k _ r h))
def regimenref04_Signed.c : Sym.Callee := ⟨(.cons (.sl (.int .u64)) (.cons .bool .nil)), (.cons (.int .i64) (.cons (.int .i64) .nil)), true, Int × Int, fun k x => regimenref04_Signed.f k x.1 x.2.1, fun z => (z.1, z.2, ()), []⟩
def regimenref04_Signed.nf (k : Nat) (a0 : List Int) (a1 : Bool) : Option (Int × Int) := ((regimenref02_Twos.f k (63 : Int)).bind fun t1 => ((regimenref02_Cmp.f k a0 t1).bind fun t2 => (if t2 > (0 : Int) then (some ((0 : Int), (4 : Int))) else (if t2 = (0 : Int) then (if (!a1) = true then (some ((0 : Int), (4 : Int))) else ((regimenref02_Mod.f k a0).bind fun t3 => (if 0 ≤ (1 : Int) then (if (1 : Int) < ((2 : Nat) : Int) then (if a1 = true then (some ((wrap64 ((IntKind.wrap .u64 ((0 : Int) - ([t3.1, t3.2].getD ((1 : Int)).toNat 0))))), (0 : Int))) else (some ((wrap64 (([t3.1, t3.2].getD ((1 : Int)).toNat 0))), (0 : Int)))) else none) else none))) else ((regimenref02_Mod.f k a0).bind fun t4 => (if 0 ≤ (1 : Int) then (if (1 : Int) < ((2 : Nat) : Int) then (if a1 = true then (some ((wrap64 ((IntKind.wrap .u64 ((0 : Int) - ([t4.1, t4.2].getD ((1 : Int)).toNat 0))))), (0 : Int))) else (some ((wrap64 (([t4.1, t4.2].getD ((1 : Int)).toNat 0))), (0 : Int)))) else none) else none))))))
noncomputable def regimenref04_Signed.E : Env (Int × Int) := envOf tab Try.f67 true (.cons (.int .i64) (.cons (.int .i64) .nil)) [] (fun y => (y.1, y.2.1)) [(77, regimenref02_Twos.c), (78, regimenref02_Cmp.c), (93, regimenref02_Mod.c)] [] []
theorem regimenref04_Signed.h1 : obls regimenref04_Signed.E Try.f67 = [] := by kernel_rfl
theorem regimenref04_Signed.h2 : (fun k (x : El (.cons (.sl (.int .u64)) (.cons .bool .nil))) => regimenref04_Signed.nf k x.1 x.2.1) = fun k x => mainK regimenref04_Signed.E Try.f67 (.cons (.sl (.int .u64)) (.cons .bool .nil)) k x := by kernel_rfl
set_option maxHeartbeats 2000000 in
theorem regimenref04_Signed.bf (k : Nat) (a0 : List Int) (a1 : Bool) : Lo (regimenref04_Signed.f k a0 a1) (regimenref04_Signed.nf k a0 a1) := by
  unfold regimenref04_Signed.f regimenref04_Signed.nf
  try simp only [Bool.false_xor, Bool.true_xor, wu8_64, wu8_u64, byL_nums, btS_bt, nil_tl, beq_decL, beq_decI]
  repeat' first
    | (with_reducible exact lo_refl _)
    | exact lo_none _
    | (with_reducible refine lo_lpos (by first | assumption | decide) ?_)
    | (with_reducible refine lo_lneg (by first | assumption | decide) ?_)
    | (with_reducible refine lo_ite (fun _ => ?_) (fun _ => ?_))
    | (with_reducible refine lo_bind (fun _ => ?_))
    | (with_reducible refine lo_left ?_)
    | (refine lo_neg (by decide) ?_)
    | (refine lo_pos (by first | assumption | omega) ?_)
    | (refine lo_neg (by first | assumption | omega) ?_)
    | (refine lo_trans (fun r h => (regimenref04_Signed.mono_l _) _ _ _ r h) ?_; rw [regimenref04_Signed.j0]; try simp only [decide_eq_true_eq])
    | (with_reducible refine lo_test (fun _ => by first | assumption | omega | (simp only [List.length_cons, List.length_nil]; omega) | decide) (fun _ => ?_))
    | (with_reducible refine lo_testn (fun _ => by first | assumption | omega) (fun _ => ?_))
    | (with_reducible refine lo_and (fun z => by first | exact z.1 | omega) (fun z => by first | exact z.2 | omega) (fun _ => ?_))
    | exact lo_refl _
    | (with_reducible refine lo_iff (by first | exact Iff.rfl | omega | (simp; done) | decide) (fun _ => ?_) (fun _ => ?_))
    | (with_reducible refine lo_iffn (by first | exact Iff.rfl | omega | (simp; done) | decide) (fun _ => ?_) (fun _ => ?_))
    | refine lo_ite (fun _ => ?_) (fun _ => ?_)
    | refine lo_bind (fun _ => ?_)
    | (refine lo_some ?_; first | rfl | (rw [Bool.false_xor]; rfl) | (rw [Bool.true_xor]; rfl) | (simp only [Bool.and_true]; rfl) | (simp; done))
    | (simp only [Int.zero_sub]; exact lo_refl _)
    | (with_reducible refine lo_lpos (by omega) ?_)
    | (with_reducible refine lo_lneg (by omega) ?_)
    | (with_reducible refine lo_lite (fun _ => ?_) (fun _ => ?_))
    | (with_reducible refine lo_rite (fun _ => ?_) (fun _ => ?_))
  all_goals (exfalso; first | omega | (simp_all; done) | (simp_all; omega))
theorem regimenref04_Signed.al : AllLe (obls regimenref04_Signed.E Try.f67) := by
  rw [regimenref04_Signed.h1]
  exact .nil
theorem regimenref04_Signed.ok : CalleeOk Try.prog 67 regimenref04_Signed.c := fn_ok tabOk mixed (fun _ => rfl) Try.func67 rfl (by kernel_rfl) (ok_cons regimenref02_Twos.ok (ok_cons regimenref02_Cmp.ok (ok_cons regimenref02_Mod.ok ok_nil))) regimenref04_Signed.al (fun k x r h => (congrFun (congrFun regimenref04_Signed.h2 k) x).symm.trans (regimenref04_Signed.bf k _ _ r h))
def regimenref34_Mean.c : Sym.Callee := ⟨(.cons (.cons (.int .i64) (.cons (.sl (.int .i64)) .nil)) .nil), (.sl (.int .i64)), false, List Int, fun k x => regimenref34_Mean.f k x.1.1 x.1.2.1, fun z => z, []⟩
def regimenref34_Mean.nl0 (k : Nat) (x3 : List Int) (x4 : Int) (b1_0 : Int) (b1_1 : List Int) : Option (List Int) := (if x4 < (b1_1.length : Int) then (if 0 ≤ x4 then (if x4 < (b1_1.length : Int) then ((regimenref02_Size.f (b1_1.getD (x4).toNat 0)).bind fun t1 => ((regimenref02_Size.f b1_0).bind fun t2 => ((regimenref03_Rounded.f k t1 t2).bind fun t3 => (if 0 ≤ x4 then (if x4 < (b1_1.length : Int) then ((regimenref04_Signed.f k t3 (xor false (decide ((b1_1.getD (x4).toNat 0) < (0 : Int))))).bind fun t4 => (if (x3.length + [t4.1].length) * 8 ≤ 140737488355328 then (regimenref34_Mean.l0 k (x3 ++ [t4.1]) (wrap64 (x4 + (1 : Int))) b1_0 b1_1) else none)) else none) else none)))) else none) else none) else (some x3))
def regimenref34_Mean.nf (k : Nat) (a0_0 : Int) (a0_1 : List Int) : Option (List Int) := (regimenref34_Mean.l0 k ([] : List Int) (0 : Int) a0_0 a0_1)
noncomputable def regimenref34_Mean.E : Env (List Int) := envOf tab Try.f46 false (.sl (.int .i64)) [] (fun y => y) [(66, regimenref02_Size.c), (65, regimenref03_Rounded.c), (67, regimenref04_Signed.c)] [⟨3, ⟨42, [(3, (.sl (.int .i64)), [⟨0, 4, 3, 1⟩]), (4, (.int .i64), [])], [(1, (.cons (.int .i64) (.cons (.sl (.int .i64)) .nil)), [])], []⟩, fun k y => regimenref34_Mean.l0 k y.1.1 y.1.2.1 y.2.1.1.1 y.2.1.1.2.1⟩] []
theorem regimenref34_Mean.h1 : obls regimenref34_Mean.E Try.f46 = [⟨(.cons (.cons (.sl (.int .i64)) (.cons (.int .i64) .nil)) (.cons (.cons (.cons (.int .i64) (.cons (.sl (.int .i64)) .nil)) .nil) (.cons .nil .nil))), fun k y => regimenref34_Mean.l0 (k + 1) y.1.1 y.1.2.1 y.2.1.1.1 y.2.1.1.2.1, fun k y => regimenref34_Mean.nl0 k y.1.1 y.1.2.1 y.2.1.1.1 y.2.1.1.2.1⟩, ⟨(.cons (.cons (.sl (.int .i64)) (.cons (.int .i64) .nil)) (.cons (.cons (.cons (.int .i64) (.cons (.sl (.int .i64)) .nil)) .nil) (.cons .nil .nil))), fun _ y => regimenref34_Mean.l0 0 y.1.1 y.1.2.1 y.2.1.1.1 y.2.1.1.2.1, fun _ _ => none⟩] := by kernel_rfl
theorem regimenref34_Mean.h2 : (fun k (x : El (.cons (.cons (.int .i64) (.cons (.sl (.int .i64)) .nil)) .nil)) => regimenref34_Mean.nf k x.1.1 x.1.2.1) = fun k x => mainK regimenref34_Mean.E Try.f46 (.cons (.cons (.int .i64) (.cons (.sl (.int .i64)) .nil)) .nil) k x := by kernel_rfl
theorem regimenref34_Mean.bl0 (k : Nat) (x3 : List Int) (x4 : Int) (b1_0 : Int) (b1_1 : List Int) : Lo (regimenref34_Mean.l0 (k + 1) x3 x4 b1_0 b1_1) (regimenref34_Mean.nl0 k x3 x4 b1_0 b1_1) := by
  rw [regimenref34_Mean.l0]
  unfold regimenref34_Mean.nl0
  try simp only [Bool.false_xor, Bool.true_xor, wu8_64, wu8_u64, byL_nums, btS_bt, nil_tl, beq_decL, beq_decI]
  repeat' first
    | (with_reducible exact lo_refl _)
    | exact lo_none _
    | (with_reducible refine lo_lpos (by first | assumption | decide) ?_)
    | (with_reducible refine lo_lneg (by first | assumption | decide) ?_)
    | (with_reducible refine lo_ite (fun _ => ?_) (fun _ => ?_))
    | (with_reducible refine lo_bind (fun _ => ?_))
    | (with_reducible refine lo_left ?_)
    | (refine lo_neg (by decide) ?_)
    | (refine lo_pos (by first | assumption | omega) ?_)
    | (refine lo_neg (by first | assumption | omega) ?_)
    | (with_reducible refine lo_test (fun _ => by first | assumption | omega | (simp only [List.length_cons, List.length_nil]; omega) | decide) (fun _ => ?_))
    | (with_reducible refine lo_testn (fun _ => by first | assumption | omega) (fun _ => ?_))
    | (with_reducible refine lo_and (fun z => by first | exact z.1 | omega) (fun z => by first | exact z.2 | omega) (fun _ => ?_))
    | exact lo_refl _
    | (with_reducible refine lo_iff (by first | exact Iff.rfl | omega | (simp; done) | decide) (fun _ => ?_) (fun _ => ?_))
    | (with_reducible refine lo_iffn (by first | exact Iff.rfl | omega | (simp; done) | decide) (fun _ => ?_) (fun _ => ?_))
    | refine lo_ite (fun _ => ?_) (fun _ => ?_)
    | refine lo_bind (fun _ => ?_)
    | (refine lo_some ?_; first | rfl | (rw [Bool.false_xor]; rfl) | (rw [Bool.true_xor]; rfl) | (simp only [Bool.and_true]; rfl) | (simp; done))
    | (simp only [Int.zero_sub]; exact lo_refl _)
    | (with_reducible refine lo_lpos (by omega) ?_)
    | (with_reducible refine lo_lneg (by omega) ?_)
    | (with_reducible refine lo_lite (fun _ => ?_) (fun _ => ?_))
    | (with_reducible refine lo_rite (fun _ => ?_) (fun _ => ?_))
  all_goals (exfalso; first | omega | (simp_all; done) | (simp_all; omega))
set_option maxHeartbeats 2000000 in
theorem regimenref34_Mean.bf (k : Nat) (a0_0 : Int) (a0_1 : List Int) : Lo (regimenref34_Mean.f k a0_0 a0_1) (regimenref34_Mean.nf k a0_0 a0_1) := by
  unfold regimenref34_Mean.f regimenref34_Mean.nf
  try simp only [Bool.false_xor, Bool.true_xor, wu8_64, wu8_u64, byL_nums, btS_bt, nil_tl, beq_decL, beq_decI]
  repeat' first
    | (with_reducible exact lo_refl _)
    | exact lo_none _
    | (with_reducible refine lo_lpos (by first | assumption | decide) ?_)
    | (with_reducible refine lo_lneg (by first | assumption | decide) ?_)
    | (with_reducible refine lo_ite (fun _ => ?_) (fun _ => ?_))
    | (with_reducible refine lo_bind (fun _ => ?_))
    | (with_reducible refine lo_left ?_)
    | (refine lo_neg (by decide) ?_)
    | (refine lo_pos (by first | assumption | omega) ?_)
    | (refine lo_neg (by first | assumption | omega) ?_)
    | (with_reducible refine lo_test (fun _ => by first | assumption | omega | (simp only [List.length_cons, List.length_nil]; omega) | decide) (fun _ => ?_))
    | (with_reducible refine lo_testn (fun _ => by first | assumption | omega) (fun _ => ?_))
    | (with_reducible refine lo_and (fun z => by first | exact z.1 | omega) (fun z => by first | exact z.2 | omega) (fun _ => ?_))
    | exact lo_refl _
    | (with_reducible refine lo_iff (by first | exact Iff.rfl | omega | (simp; done) | decide) (fun _ => ?_) (fun _ => ?_))
    | (with_reducible refine lo_iffn (by first | exact Iff.rfl | omega | (simp; done) | decide) (fun _ => ?_) (fun _ => ?_))
    | refine lo_ite (fun _ => ?_) (fun _ => ?_)
    | refine lo_bind (fun _ => ?_)
    | (refine lo_some ?_; first | rfl | (rw [Bool.false_xor]; rfl) | (rw [Bool.true_xor]; rfl) | (simp only [Bool.and_true]; rfl) | (simp; done))
    | (simp only [Int.zero_sub]; exact lo_refl _)
    | (with_reducible refine lo_lpos (by omega) ?_)
    | (with_reducible refine lo_lneg (by omega) ?_)
    | (with_reducible refine lo_lite (fun _ => ?_) (fun _ => ?_))
    | (with_reducible refine lo_rite (fun _ => ?_) (fun _ => ?_))
  all_goals (exfalso; first | omega | (simp_all; done) | (simp_all; omega))
theorem regimenref34_Mean.al : AllLe (obls regimenref34_Mean.E Try.f46) := by
  rw [regimenref34_Mean.h1]
  exact (.cons (fun k y r h => regimenref34_Mean.bl0 k y.1.1 y.1.2.1 y.2.1.1.1 y.2.1.1.2.1 r h) (.cons (fun _ y r h => by simp [regimenref34_Mean.l0] at h) .nil))
theorem regimenref34_Mean.ok : CalleeOk Try.prog 46 regimenref34_Mean.c := fn_ok tabOk mixed (fun _ => rfl) Try.func46 rfl (by kernel_rfl) (ok_cons regimenref02_Size.ok (ok_cons regimenref03_Rounded.ok (ok_cons regimenref04_Signed.ok ok_nil))) regimenref34_Mean.al (fun k x r h => (congrFun (congrFun regimenref34_Mean.h2 k) x).symm.trans (regimenref34_Mean.bf k _ _ r h))
mutual
def regimenref45_State_s.l3 : Nat → (List ByteArray) → Int → (Int × Int × Int × (Bool × Int × Int × Unit) × ((Bool × Int × Int × Unit) × Int × Int × Unit) × (List (Int × Int × Unit)) × (List Int) × (Int × (List Int) × Unit) × Unit) → Option (List ByteArray)
  | 0, _, _, _ => none
  | k + 1, x3, x4, b1 => (if x4 < (b1.2.2.2.2.2.1.length : Int) then (if 0 ≤ x4 then (if x4 < (b1.2.2.2.2.2.1.length : Int) then ((regimenref01_Tell.f k ((b1.2.2.2.2.2.1.getD (x4).toNat (0, 0, ())).1)).bind fun t3 => (if (⟨#[107, 101, 112, 116, 32]⟩ : ByteArray).size + t3.size ≤ 9223372036854775807 then (if 0 ≤ x4 then (if x4 < (b1.2.2.2.2.2.1.length : Int) then ((regimenref45_tail.f k [(b1.2.2.2.2.2.1.getD (x4).toNat (0, 0, ())).2.1]).bind fun t4 => (if ((⟨#[107, 101, 112, 116, 32]⟩ : ByteArray) ++ t3).size + t4.size ≤ 9223372036854775807 then (if (x3.length + [(((⟨#[107, 101, 112, 116, 32]⟩ : ByteArray) ++ t3) ++ t4)].length) * 16 ≤ 140737488355328 then (regimenref45_State_s.l3 k (x3 ++ [(((⟨#[107, 101, 112, 116, 32]⟩ : ByteArray) ++ t3) ++ t4)]) (wrap64 (x4 + (1 : Int))) b1) else none) else none)) else none) else none) else none)) else none) else none) else (if (b1.2.2.2.2.2.2.1.length : Int) > (0 : Int) then ((regimenref45_tail.f k b1.2.2.2.2.2.2.1).bind fun t5 => (if (⟨#[101, 109, 97]⟩ : ByteArray).size + t5.size ≤ 9223372036854775807 then (if (x3.length + [((⟨#[101, 109, 97]⟩ : ByteArray) ++ t5)].length) * 16 ≤ 140737488355328 then (regimenref45_State_s.j8 k (x3 ++ [((⟨#[101, 109, 97]⟩ : ByteArray) ++ t5)]) b1) else none) else none)) else (regimenref45_State_s.j8 k x3 b1)))
def regimenref45_State_s.j8 : Nat → (List ByteArray) → (Int × Int × Int × (Bool × Int × Int × Unit) × ((Bool × Int × Int × Unit) × Int × Int × Unit) × (List (Int × Int × Unit)) × (List Int) × (Int × (List Int) × Unit) × Unit) → Option (List ByteArray)
  | 0, _, _ => none
  | k + 1, x3, b1 => ((regimenref34_May.f b1.2.2.2.2.2.2.2.1.1 b1.2.2.2.2.2.2.2.1.2.1).bind fun t6 => (if t6 = true then (if b1.2.2.2.2.2.2.2.1.1 > (0 : Int) then ((regimenref01_Tell.f k b1.2.2.2.2.2.2.2.1.1).bind fun t7 => (if (⟨#[115, 119, 97, 32]⟩ : ByteArray).size + t7.size ≤ 9223372036854775807 then ((regimenref34_Mean.f k b1.2.2.2.2.2.2.2.1.1 b1.2.2.2.2.2.2.2.1.2.1).bind fun t8 => ((regimenref45_tail.f k t8).bind fun t9 => (if ((⟨#[115, 119, 97, 32]⟩ : ByteArray) ++ t7).size + t9.size ≤ 9223372036854775807 then (if (x3.length + [(((⟨#[115, 119, 97, 32]⟩ : ByteArray) ++ t7) ++ t9)].length) * 16 ≤ 140737488355328 then (regimenref45_State_s.j10 k (x3 ++ [(((⟨#[115, 119, 97, 32]⟩ : ByteArray) ++ t7) ++ t9)])) else none) else none))) else none)) else (regimenref45_State_s.j10 k x3)) else (regimenref45_State_s.j10 k x3)))
def regimenref45_State_s.j10 : Nat → (List ByteArray) → Option (List ByteArray)
  | 0, _ => none
  | k + 1, x3 => (some x3)
end
def regimenref45_State_s.f (k : Nat) (a0 : Int × Int × Int × (Bool × Int × Int × Unit) × ((Bool × Int × Int × Unit) × Int × Int × Unit) × (List (Int × Int × Unit)) × (List Int) × (Int × (List Int) × Unit) × Unit) : Option (List ByteArray) := ((regimenref45_Word.f a0.2.1).bind fun t1 => (if (⟨#[115, 116, 97, 116, 101, 32]⟩ : ByteArray).size + t1.size ≤ 9223372036854775807 then (if ((⟨#[115, 116, 97, 116, 101, 32]⟩ : ByteArray) ++ t1).size + (⟨#[32]⟩ : ByteArray).size ≤ 9223372036854775807 then ((regimenref01_Tell.f k a0.1).bind fun t2 => (if (((⟨#[115, 116, 97, 116, 101, 32]⟩ : ByteArray) ++ t1) ++ (⟨#[32]⟩ : ByteArray)).size + t2.size ≤ 9223372036854775807 then (regimenref45_State_s.l3 k [((((⟨#[115, 116, 97, 116, 101, 32]⟩ : ByteArray) ++ t1) ++ (⟨#[32]⟩ : ByteArray)) ++ t2)] (0 : Int) a0) else none)) else none) else none))
def regimenref45_State_s.c : Sym.Callee := ⟨(.cons (.cons (.int .i64) (.cons (.int .i64) (.cons (.int .i64) (.cons (.cons .bool (.cons (.int .i64) (.cons (.int .i64) .nil))) (.cons (.cons (.cons .bool (.cons (.int .i64) (.cons (.int .i64) .nil))) (.cons (.int .i64) (.cons (.int .i64) .nil))) (.cons (.sl (.cons (.int .i64) (.cons (.int .i64) .nil))) (.cons (.sl (.int .i64)) (.cons (.cons (.int .i64) (.cons (.sl (.int .i64)) .nil)) .nil)))))))) .nil), (.sl .str), false, El (.sl .str), fun k x => regimenref45_State_s.f k x.1, fun y => y, []⟩
noncomputable def regimenref45_State_s.E : Env (El (.sl .str)) := envOf tab Try.f22 false (.sl .str) [] (fun y => y) [(24, regimenref45_Word.c), (37, regimenref01_Tell.c), (41, regimenref45_tail.c), (45, regimenref34_May.c), (46, regimenref34_Mean.c)] [⟨3, ⟨76, [(3, (.sl .str), [⟨0, 4, 9, 1⟩]), (4, (.int .i64), [])], [(1, (.cons (.int .i64) (.cons (.int .i64) (.cons (.int .i64) (.cons (.cons .bool (.cons (.int .i64) (.cons (.int .i64) .nil))) (.cons (.cons (.cons .bool (.cons (.int .i64) (.cons (.int .i64) .nil))) (.cons (.int .i64) (.cons (.int .i64) .nil))) (.cons (.sl (.cons (.int .i64) (.cons (.int .i64) .nil))) (.cons (.sl (.int .i64)) (.cons (.cons (.int .i64) (.cons (.sl (.int .i64)) .nil)) .nil)))))))), [])], []⟩, fun k y => regimenref45_State_s.l3 k y.1.1 y.1.2.1 y.2.1.1⟩] [⟨8, ⟨76, [(3, (.sl .str), [⟨0, 4, 9, 1⟩])], [(1, (.cons (.int .i64) (.cons (.int .i64) (.cons (.int .i64) (.cons (.cons .bool (.cons (.int .i64) (.cons (.int .i64) .nil))) (.cons (.cons (.cons .bool (.cons (.int .i64) (.cons (.int .i64) .nil))) (.cons (.int .i64) (.cons (.int .i64) .nil))) (.cons (.sl (.cons (.int .i64) (.cons (.int .i64) .nil))) (.cons (.sl (.int .i64)) (.cons (.cons (.int .i64) (.cons (.sl (.int .i64)) .nil)) .nil)))))))), [])], []⟩, fun k y => regimenref45_State_s.j8 k y.1.1 y.2.1.1⟩, ⟨10, ⟨76, [(3, (.sl .str), [⟨0, 4, 9, 1⟩])], [], []⟩, fun k y => regimenref45_State_s.j10 k y.1.1⟩]
theorem regimenref45_State_s.h1 : (obls regimenref45_State_s.E Try.f22).map Ob.left = (obls regimenref45_State_s.E Try.f22).map Ob.right := by kernel_rfl
theorem regimenref45_State_s.h2 : (fun k x => regimenref45_State_s.c.fn k x) = fun k x => mainK regimenref45_State_s.E Try.f22 regimenref45_State_s.c.dom k x := by kernel_rfl
theorem regimenref45_State_s.ok : CalleeOk Try.prog 22 regimenref45_State_s.c := fn_ok tabOk mixed (fun _ => rfl) Try.func22 rfl (by kernel_rfl) (ok_cons regimenref45_Word.ok (ok_cons regimenref01_Tell.ok (ok_cons regimenref45_tail.ok (ok_cons regimenref34_May.ok (ok_cons regimenref34_Mean.ok ok_nil))))) (.of_eq regimenref45_State_s.h1) (fun k x _ h => (congrFun (congrFun regimenref45_State_s.h2 k) x).symm.trans h)
mutual
def regimenref45_Text_s.l3 : Nat → (List (Int × Int × (List Int) × (List Bool) × (List (Int × Int × Int × Unit)) × Int × Unit)) → (List ByteArray) → Int → (Int × Int × Int × (Bool × Int × Int × Unit) × ((Bool × Int × Int × Unit) × Int × Int × Unit) × (List (Int × Int × Unit)) × (List Int) × (Int × (List Int) × Unit) × Unit) → Option ByteArray
  | 0, _, _, _, _ => none
  | k + 1, x0, x5, x6, b3 => (if x6 < (x0.length : Int) then (if 0 ≤ x6 then (if x6 < (x0.length : Int) then ((regimenref45_Step_s.f k (x0.getD (x6).toNat (0, 0, ([] : List Int), ([] : List Bool), ([] : List (Int × Int × Int × Unit)), 0, ()))).bind fun t1 => (if (x5.length + t1.length) * 16 ≤ 140737488355328 then (regimenref45_Text_s.l3 k x0 (x5 ++ t1) (wrap64 (x6 + (1 : Int))) b3) else none)) else none) else none) else ((regimenref45_State_s.f k b3).bind fun t2 => (if (x5.length + t2.length) * 16 ≤ 140737488355328 then (regimenref45_Text_s.l9 k (x5 ++ t2) (⟨#[]⟩ : ByteArray) (0 : Int)) else none)))
def regimenref45_Text_s.l9 : Nat → (List ByteArray) → ByteArray → Int → Option ByteArray
  | 0, _, _, _ => none
  | k + 1, x5, x7, x8 => (if x8 < (x5.length : Int) then (if 0 ≤ x8 then (if x8 < (x5.length : Int) then (if x7.size + (x5.getD (x8).toNat (⟨#[]⟩ : ByteArray)).size ≤ 9223372036854775807 then (if (x7 ++ (x5.getD (x8).toNat (⟨#[]⟩ : ByteArray))).size + (⟨#[10]⟩ : ByteArray).size ≤ 9223372036854775807 then (regimenref45_Text_s.l9 k x5 ((x7 ++ (x5.getD (x8).toNat (⟨#[]⟩ : ByteArray))) ++ (⟨#[10]⟩ : ByteArray)) (wrap64 (x8 + (1 : Int)))) else none) else none) else none) else none) else (some x7))
end
def regimenref45_Text_s.f (k : Nat) (a0 : List (Int × Int × (List Int) × (List Bool) × (List (Int × Int × Int × Unit)) × Int × Unit)) (a1 : Int × Int × Int × (Bool × Int × Int × Unit) × ((Bool × Int × Int × Unit) × Int × Int × Unit) × (List (Int × Int × Unit)) × (List Int) × (Int × (List Int) × Unit) × Unit) : Option ByteArray := (regimenref45_Text_s.l3 k a0 ([] : List ByteArray) (0 : Int) a1)
def regimenref45_Text_s.c : Sym.Callee := ⟨(.cons (.sl (.cons (.int .i64) (.cons (.int .i64) (.cons (.sl (.int .i64)) (.cons (.sl .bool) (.cons (.sl (.cons (.int .i64) (.cons (.int .i64) (.cons (.int .i64) .nil)))) (.cons (.int .i64) .nil))))))) (.cons (.cons (.int .i64) (.cons (.int .i64) (.cons (.int .i64) (.cons (.cons .bool (.cons (.int .i64) (.cons (.int .i64) .nil))) (.cons (.cons (.cons .bool (.cons (.int .i64) (.cons (.int .i64) .nil))) (.cons (.int .i64) (.cons (.int .i64) .nil))) (.cons (.sl (.cons (.int .i64) (.cons (.int .i64) .nil))) (.cons (.sl (.int .i64)) (.cons (.cons (.int .i64) (.cons (.sl (.int .i64)) .nil)) .nil)))))))) .nil)), .str, false, El .str, fun k x => regimenref45_Text_s.f k x.1 x.2.1, fun y => y, []⟩
noncomputable def regimenref45_Text_s.E : Env (El .str) := envOf tab Try.f26 false .str [] (fun y => y) [(20, regimenref45_Step_s.c), (22, regimenref45_State_s.c)] [⟨3, ⟨41, [(0, (.sl (.cons (.int .i64) (.cons (.int .i64) (.cons (.sl (.int .i64)) (.cons (.sl .bool) (.cons (.sl (.cons (.int .i64) (.cons (.int .i64) (.cons (.int .i64) .nil)))) (.cons (.int .i64) .nil))))))), []), (5, (.sl .str), [⟨0, 6, 9, 1⟩]), (6, (.int .i64), [])], [(3, (.cons (.int .i64) (.cons (.int .i64) (.cons (.int .i64) (.cons (.cons .bool (.cons (.int .i64) (.cons (.int .i64) .nil))) (.cons (.cons (.cons .bool (.cons (.int .i64) (.cons (.int .i64) .nil))) (.cons (.int .i64) (.cons (.int .i64) .nil))) (.cons (.sl (.cons (.int .i64) (.cons (.int .i64) .nil))) (.cons (.sl (.int .i64)) (.cons (.cons (.int .i64) (.cons (.sl (.int .i64)) .nil)) .nil)))))))), [])], []⟩, fun k y => regimenref45_Text_s.l3 k y.1.1 y.1.2.1 y.1.2.2.1 y.2.1.1⟩, ⟨9, ⟨41, [(5, (.sl .str), [⟨0, 6, 9, 1⟩]), (7, .str, []), (8, (.int .i64), [])], [], []⟩, fun k y => regimenref45_Text_s.l9 k y.1.1 y.1.2.1 y.1.2.2.1⟩] []
theorem regimenref45_Text_s.h1 : (obls regimenref45_Text_s.E Try.f26).map Ob.left = (obls regimenref45_Text_s.E Try.f26).map Ob.right := by kernel_rfl
theorem regimenref45_Text_s.h2 : (fun k x => regimenref45_Text_s.c.fn k x) = fun k x => mainK regimenref45_Text_s.E Try.f26 regimenref45_Text_s.c.dom k x := by kernel_rfl
theorem regimenref45_Text_s.ok : CalleeOk Try.prog 26 regimenref45_Text_s.c := fn_ok tabOk mixed (fun _ => rfl) Try.func26 rfl (by kernel_rfl) (ok_cons regimenref45_Step_s.ok (ok_cons regimenref45_State_s.ok ok_nil)) (.of_eq regimenref45_Text_s.h1) (fun k x _ h => (congrFun (congrFun regimenref45_Text_s.h2 k) x).symm.trans h)
def regimenlaw45_OutputText.l4 : Nat → (List (Int × Int × (List Int) × (List Bool) × (List (Int × Int × Int × Unit)) × Int × Unit)) → Int → (Int × Int × Int × (Bool × Int × Int × Unit) × ((Bool × Int × Int × Unit) × Int × Int × Unit) × (List (Int × Int × Unit)) × (List Int) × (Int × (List Int) × Unit) × Unit) → Option Bool
  | 0, _, _, _ => none
  | k + 1, x0, x5, b3 => (if x5 < (x0.length : Int) then (if 0 ≤ x5 then (if x5 < (x0.length : Int) then ((regimenlaw45_small_s.f k (x0.getD (x5).toNat (0, 0, ([] : List Int), ([] : List Bool), ([] : List (Int × Int × Int × Unit)), 0, ()))).bind fun t4 => (if (!t4) = true then ((regimenlaw45_awake_s.f k).bind fun t5 => (some t5)) else (regimenlaw45_OutputText.l4 k x0 (wrap64 (x5 + (1 : Int))) b3))) else none) else none) else ((output_Text.f k x0 b3).bind fun t6 => ((regimenref45_Text_s.f k x0 b3).bind fun t7 => (if t6.toList = t7.toList then ((regimenlaw45_awake_s.f k).bind fun t8 => (some t8)) else (some false)))))
def regimenlaw45_OutputText.f (k : Nat) (a0 : List (Int × Int × (List Int) × (List Bool) × (List (Int × Int × Int × Unit)) × Int × Unit)) (a1 : Int × Int × Int × (Bool × Int × Int × Unit) × ((Bool × Int × Int × Unit) × Int × Int × Unit) × (List (Int × Int × Unit)) × (List Int) × (Int × (List Int) × Unit) × Unit) : Option Bool := (if (a0.length : Int) > (6 : Int) then ((regimenlaw45_awake_s.f k).bind fun t1 => (some t1)) else ((regimenlaw37_Light_s.f k a1).bind fun t2 => (if (!t2) = true then ((regimenlaw45_awake_s.f k).bind fun t3 => (some t3)) else (regimenlaw45_OutputText.l4 k a0 (0 : Int) a1))))
def regimenlaw45_OutputText.c : Sym.Callee := ⟨(.cons (.sl (.cons (.int .i64) (.cons (.int .i64) (.cons (.sl (.int .i64)) (.cons (.sl .bool) (.cons (.sl (.cons (.int .i64) (.cons (.int .i64) (.cons (.int .i64) .nil)))) (.cons (.int .i64) .nil))))))) (.cons (.cons (.int .i64) (.cons (.int .i64) (.cons (.int .i64) (.cons (.cons .bool (.cons (.int .i64) (.cons (.int .i64) .nil))) (.cons (.cons (.cons .bool (.cons (.int .i64) (.cons (.int .i64) .nil))) (.cons (.int .i64) (.cons (.int .i64) .nil))) (.cons (.sl (.cons (.int .i64) (.cons (.int .i64) .nil))) (.cons (.sl (.int .i64)) (.cons (.cons (.int .i64) (.cons (.sl (.int .i64)) .nil)) .nil)))))))) .nil)), .bool, false, El .bool, fun k x => regimenlaw45_OutputText.f k x.1 x.2.1, fun y => y, []⟩
noncomputable def regimenlaw45_OutputText.E : Env (El .bool) := envOf tab Try.f6 false .bool [] (fun y => y) [(17, regimenlaw45_awake_s.c), (16, regimenlaw37_Light_s.c), (15, regimenlaw45_small_s.c), (25, output_Text.c), (26, regimenref45_Text_s.c)] [⟨4, ⟨38, [(0, (.sl (.cons (.int .i64) (.cons (.int .i64) (.cons (.sl (.int .i64)) (.cons (.sl .bool) (.cons (.sl (.cons (.int .i64) (.cons (.int .i64) (.cons (.int .i64) .nil)))) (.cons (.int .i64) .nil))))))), []), (5, (.int .i64), [])], [(3, (.cons (.int .i64) (.cons (.int .i64) (.cons (.int .i64) (.cons (.cons .bool (.cons (.int .i64) (.cons (.int .i64) .nil))) (.cons (.cons (.cons .bool (.cons (.int .i64) (.cons (.int .i64) .nil))) (.cons (.int .i64) (.cons (.int .i64) .nil))) (.cons (.sl (.cons (.int .i64) (.cons (.int .i64) .nil))) (.cons (.sl (.int .i64)) (.cons (.cons (.int .i64) (.cons (.sl (.int .i64)) .nil)) .nil)))))))), [])], []⟩, fun k y => regimenlaw45_OutputText.l4 k y.1.1 y.1.2.1 y.2.1.1⟩] []
theorem regimenlaw45_OutputText.h1 : (obls regimenlaw45_OutputText.E Try.f6).map Ob.left = (obls regimenlaw45_OutputText.E Try.f6).map Ob.right := by kernel_rfl
theorem regimenlaw45_OutputText.h2 : (fun k x => regimenlaw45_OutputText.c.fn k x) = fun k x => mainK regimenlaw45_OutputText.E Try.f6 regimenlaw45_OutputText.c.dom k x := by kernel_rfl
theorem regimenlaw45_OutputText.ok : CalleeOk Try.prog 6 regimenlaw45_OutputText.c := fn_ok tabOk mixed (fun _ => rfl) Try.func6 rfl (by kernel_rfl) (ok_cons regimenlaw45_awake_s.ok (ok_cons regimenlaw37_Light_s.ok (ok_cons regimenlaw45_small_s.ok (ok_cons output_Text.ok (ok_cons regimenref45_Text_s.ok ok_nil))))) (.of_eq regimenlaw45_OutputText.h1) (fun k x _ h => (congrFun (congrFun regimenlaw45_OutputText.h2 k) x).symm.trans h)
end Go.Proofs.Ytcgdhpnobgimfaa.PT
end
section
namespace Go.Sym
open Go.RowKit Go.Deep
set_option linter.unusedVariables false
set_option linter.unusedSimpArgs false

/-- Bounds of data. -/
def Wf : (t : Ty) → El t → Prop
  | .int k, (x : Int) => (Lit.int k x).wf = true
  | .str, (s : ByteArray) => s.size ≤ 140737488351232
  | .sl e, (l : List (El e)) => l.length ≤ 140737488351232 ∧ ∀ x ∈ l, Wf e x
  | .cons a b, x => Wf a x.1 ∧ Wf b x.2
  | _, _ => True
/-- All that is there is settled. -/
def fullF (w : World) (b : Nat) : Nat := match w.heap[b]? with
  | some (.cells cs _ _) => cs.size
  | _ => 0
theorem fullF_fin {w : World} : ∀ b, 0 < fullF w b → b < w.heap.size := by
  intro b h
  unfold fullF at h
  split at h
  · rename_i cs t fr hh
    exact (Array.getElem?_eq_some_iff.1 hh).1
  · omega
theorem fullF_cell {w : World} {b o : Nat} {v : Value} (h : w.cell? ⟨b, o, none⟩ = some v) : o < fullF w b := by
  unfold World.cell? at h
  unfold fullF
  split at h
  · rename_i cs t fr hh
    rw [hh]
    simp only at h ⊢
    exact (Array.getElem?_eq_some_iff.1 h).1
  · cases h
def Opens (P : Program) (t : TypeId) (ty : Ty) : Prop :=
  ∀ (H : Type) (enc : TypeId × Value → H) (w : World) (spare : Nat → Bool) (held : Bool) (fuel : Nat) (cs : List Value) (x : DataW H × List MemPlace),
    DataW.trod enc P w 0 spare held fuel t cs = some x → (∀ n, n ∈ x.1.weights P t → n ≤ reachBytes) → ∃ y : El ty, Wf ty y ∧ RepC (fullF w) w ty y cs
def openT (T : Tab) : Nat → Nat → Bool
  | 0, _ => false
  | d + 1, t => match (T.row t).d with
    | .int _ => true
    | .bool => true
    | .str => true
    | .sl e => openT T d e && decide (0 < (T.row e).bytes)
    | .st fs => fs.all fun f => openT T d f.1
    | .arr _ e => openT T d e
    | _ => false
section
variable {P : Program} {T : Tab}
theorem cell_spot {w : World} {a : Addr} {v : Value} (h : w.cell? a = some v) : a = ⟨a.block, a.off, none⟩ := by
  obtain ⟨b, o, sp⟩ := a
  cases sp with
  | none => rfl
  | some s =>
    unfold World.cell? at h
    split at h
    · simp at h
    · cases h
theorem opens_sl (hT : TabOk P T) {t e : Nat} (hd : (T.row t).d = .sl e) (hb : 0 < (T.row e).bytes) (he : Opens P e (T.ty e)) : Opens P t (T.ty t) := by
  obtain ⟨hu, ht, h3, hs0⟩ := (hT.row (row_ne hd (by simp))).sl hd
  obtain ⟨inf, u, hi, _, hsz, hbt, _, _⟩ := (hT.row h3).ex
  have hce : P.cellsOf e = (T.ty e).size := by unfold Program.cellsOf; rw [hi]; exact hsz
  have hbe : P.bytesOf e = (T.row e).bytes := by unfold Program.bytesOf; rw [hi]; exact hbt
  rw [ht]
  intro H enc w spare held fuel cs x h hn
  rcases open_slice hu h with ⟨rfl, rfl⟩ | ⟨a, len, cap, m, n, D, Pl, rfl, _, hlc, hcm, hm, rfl, hel⟩
  · exact ⟨[], ⟨Nat.zero_le _, fun x hx => by cases hx⟩, none, 0, rfl, Nat.le_refl _, fun h => absurd h (by simp)⟩
  · have hlm : len ≤ m := by rw [hm]; split <;> omega
    have hw : ∀ i, i < len → ∀ k, k ∈ (D i).weights P e → k ≤ reachBytes := by
      intro i hi k hk
      refine hn k ?_
      simp only [DataW.weights, hu]
      refine List.mem_cons_of_mem _ (List.mem_append_left _ ?_)
      have : ∀ (L : List (DataW H)) (z : DataW H), z ∈ L → k ∈ z.weights P e → k ∈ DataW.weightsAll P e L := by
        intro L z hz hk
        induction L with
        | nil => cases hz
        | cons y L ih =>
          rw [DataW.weightsAll]
          rcases List.mem_cons.1 hz with rfl | hz
          · exact List.mem_append_left _ hk
          · exact List.mem_append_right _ (ih hz)
      exact this _ (D i) (List.mem_map.2 ⟨i, List.mem_range.2 hi, rfl⟩) hk
    have hb2 : len * P.bytesOf e ≤ 140737488351232 := by
      have h1 := hn ((((List.range len).map D).length + ((List.range (m - len)).map fun j => D (len + j)).length) * P.bytesOf e) (by simp only [DataW.weights, hu]; exact List.mem_cons_self)
      simp only [List.length_map, List.length_range] at h1
      exact Nat.le_trans (Nat.mul_le_mul_right _ (by omega)) h1
    have hlen : len ≤ 140737488351232 := by
      rw [hbe] at hb2
      exact Nat.le_trans (Nat.le_mul_of_pos_right _ hb) hb2
    have hall : ∀ j, j ≤ len → ∃ xs : List (El (T.ty e)), xs.length = j ∧ (∀ x ∈ xs, Wf (T.ty e) x) ∧ ∀ i p, xs[i]? = some p → ∃ ds, RepC (fullF w) w (T.ty e) p ds ∧ ∀ q u, ds[q]? = some u → w.cell? ((a.add (i * (T.ty e).size)).add q) = some u := by
      intro j
      induction j with
      | zero => exact fun _ => ⟨[], rfl, fun x hx => (by cases hx), fun i p h => (by simp at h)⟩
      | succ j ih =>
        intro hj
        obtain ⟨xs, h1, h2, h3⟩ := ih (by omega)
        obtain ⟨cs', hc1, hc2⟩ := hel j (by omega)
        obtain ⟨y, hy1, hy2⟩ := he H enc w spare held n cs' _ hc2 (hw j (by omega))
        refine ⟨xs ++ [y], by simp [h1], ?_, ?_⟩
        · intro x hx
          rcases List.mem_append.1 hx with hx | hx
          · exact h2 x hx
          · rw [List.mem_singleton.1 hx]; exact hy1
        · intro i p hp
          by_cases hi : i < xs.length
          · rw [List.getElem?_append_left hi] at hp
            exact h3 i p hp
          · have hi2 := (List.getElem?_eq_some_iff.1 hp).1
            rw [List.length_append, List.length_singleton] at hi2
            obtain rfl : i = j := by omega
            have : p = y := by
              rw [List.getElem?_append_right (by omega), h1, Nat.sub_self] at hp
              simpa using hp.symm
            subst this
            refine ⟨cs', hy2, fun q u hq => ?_⟩
            have hq2 := (List.getElem?_eq_some_iff.1 hq).1
            rw [hy2.len, ← hce] at hq2
            have h5 := (World.cells?_some hc1).2.2 q hq2
            rw [hq] at h5
            rw [← hce]
            exact h5
    obtain ⟨xs, h1, h2, h3⟩ := hall len (Nat.le_refl _)
    refine ⟨xs, ⟨by rw [h1]; exact hlen, h2⟩, some a, cap, by rw [h1], by rw [h1]; exact hlc, fun hp => ?_⟩
    have h0 : ∀ i p, xs[i]? = some p → ∃ ds, RepC (fullF w) w (T.ty e) p ds ∧ ∀ q u, ds[q]? = some u → w.cell? ((a.add (i * (T.ty e).size)).add q) = some u := h3
    obtain ⟨ds, r1, r2⟩ := h0 0 _ (List.getElem?_eq_getElem hp)
    have hq : 0 < ds.length := by rw [r1.len]; exact hs0
    have hc := r2 0 _ (List.getElem?_eq_getElem hq)
    have hspot : a = ⟨a.block, a.off, none⟩ := by
      have e0 : (a.add (0 * (T.ty e).size)).add 0 = a := by
        obtain ⟨b, o, sp⟩ := a
        unfold Addr.add
        simp
      rw [e0] at hc
      exact cell_spot hc
    generalize a.block = b, a.off = o at hspot
    subst hspot
    refine ⟨b, o, rfl, ?_, fun j x hj => ?_⟩
    · obtain ⟨ds, r1, r2⟩ := h0 (xs.length - 1) _ (List.getElem?_eq_getElem (by omega))
      have hq : (T.ty e).size - 1 < ds.length := by rw [r1.len]; omega
      have hc := r2 _ _ (List.getElem?_eq_getElem hq)
      rw [add_at, add_at] at hc
      have hlt := fullF_cell hc
      have : xs.length * (T.ty e).size = (xs.length - 1) * (T.ty e).size + (T.ty e).size := by
        rw [← Nat.succ_mul]
        congr 1
        omega
      omega
    · obtain ⟨ds, r1, r2⟩ := h0 j x hj
      refine ⟨ds, r1, fun i v hv => ?_⟩
      have := r2 i v hv
      rw [add_at, add_at] at this
      exact this
theorem opens_fields (hT : TabOk P T) : ∀ (fs : List Field) (off : Nat) (t : Ty), chain T (fs.map fun f => (f.type, f.offset)) off = some t → (∀ f ∈ fs, Opens P f.type (T.ty f.type)) →
    ∀ (H : Type) (enc : TypeId × Value → H) (w : World) (spare : Nat → Bool) (held : Bool) (m : Nat) (cs : List Value) (xs : List (DataW H × List MemPlace)),
      xs.length = fs.length → cs.length = off + t.size → (∀ (i : Nat) (f : Field), fs[i]? = some f → DataW.trod enc P w 0 spare held m f.type ((cs.drop f.offset).take (P.cellsOf f.type)) = xs[i]?) →
      (∀ n, n ∈ DataW.weightsEach P (fs.map (·.type)) (xs.map (·.1)) → n ≤ reachBytes) → ∃ y : El t, Wf t y ∧ RepC (fullF w) w t y (cs.drop off)
  | [], off, t, hc, ho, H, enc, w, spare, held, m, cs, xs, hl, hcs, hx, hn => by
    cases hc
    refine ⟨(), trivial, ?_⟩
    show cs.drop off = []
    exact List.drop_eq_nil_of_le (by rw [hcs]; exact Nat.le_refl _)
  | f :: r, off, t, hc, ho, H, enc, w, spare, held, m, cs, xs, hl, hcs, hx, hn => by
    rw [List.map_cons] at hc
    unfold chain at hc
    split at hc
    · rename_i q
      obtain ⟨q1, q2⟩ := q
      obtain ⟨t2, ht2, rfl⟩ := Option.map_eq_some_iff.1 hc
      obtain ⟨inf, u, hi, _, hsz, _, _, _⟩ := (hT.row q2).ex
      have hce : P.cellsOf f.type = (T.ty f.type).size := by unfold Program.cellsOf; rw [hi]; exact hsz
      match xs, hl with
      | x :: xs, hl =>
        have h := hx 0 f rfl
        rw [q1] at h
        obtain ⟨y, hy1, hy2⟩ := ho f List.mem_cons_self H enc w spare held m _ x h (fun n hm => hn n (by simp only [List.map_cons, DataW.weightsEach]; exact List.mem_append_left _ hm))
        have hsum : (Ty.cons (T.ty f.type) t2).size = (T.ty f.type).size + t2.size := rfl
        obtain ⟨z, hz1, hz2⟩ := opens_fields hT r (off + (T.ty f.type).size) t2 ht2 (fun g hg => ho g (List.mem_cons_of_mem _ hg)) H enc w spare held m cs xs (by simpa using hl) (by omega) (fun i g hg => hx (i + 1) g hg) (fun n hm => hn n (by simp only [List.map_cons, DataW.weightsEach]; exact List.mem_append_right _ hm))
        refine ⟨(y, z), ⟨hy1, hz1⟩, _, _, ?_, hy2, hz2⟩
        rw [hce, ← List.drop_drop, List.take_append_drop]
    · cases hc
theorem opens_items (hT : TabOk P T) {e : Nat} (h3 : (T.row e).d ≠ .other) (he : Opens P e (T.ty e)) : ∀ (k j : Nat) (H : Type) (enc : TypeId × Value → H) (w : World) (spare : Nat → Bool) (held : Bool) (m : Nat) (cs : List Value) (xs : List (DataW H × List MemPlace)),
      xs.length = j + k → cs.length = (j + k) * (T.ty e).size → (∀ (i : Nat), i < j + k → DataW.trod enc P w 0 spare held m e ((cs.drop (i * (T.ty e).size)).take (T.ty e).size) = xs[i]?) →
      (∀ x, x ∈ xs → ∀ n, n ∈ x.1.weights P e → n ≤ reachBytes) → ∃ y : El (rep (T.ty e) k), Wf (rep (T.ty e) k) y ∧ RepC (fullF w) w (rep (T.ty e) k) y (cs.drop (j * (T.ty e).size))
  | 0, j, H, enc, w, spare, held, m, cs, xs, hl, hcs, hx, hn => by
    refine ⟨(), trivial, ?_⟩
    show cs.drop _ = []
    exact List.drop_eq_nil_of_le (by rw [hcs]; exact Nat.le_refl _)
  | k + 1, j, H, enc, w, spare, held, m, cs, xs, hl, hcs, hx, hn => by
    have hj : j < xs.length := by omega
    have h := hx j (by omega)
    rw [List.getElem?_eq_getElem hj] at h
    obtain ⟨y, hy1, hy2⟩ := he H enc w spare held m _ _ h (hn _ (List.getElem_mem hj))
    obtain ⟨z, hz1, hz2⟩ := opens_items hT h3 he k (j + 1) H enc w spare held m cs xs (by omega) (by rw [hcs]; congr 1; omega) (fun i hi => hx i (by omega)) hn
    refine ⟨(y, z), ⟨hy1, hz1⟩, _, _, ?_, hy2, hz2⟩
    rw [Nat.succ_mul, ← List.drop_drop, List.take_append_drop]
theorem opens_tab (hT : TabOk P T) : ∀ (d t : Nat), openT T d t = true → Opens P t (T.ty t)
  | 0, t, h => by cases h
  | d + 1, t, h => by
    unfold openT at h
    split at h
    · rename_i k hd
      obtain ⟨hu, ht⟩ := (hT.row (row_ne hd (by simp))).int hd
      rw [ht]
      intro H enc w spare held fuel cs x h _
      obtain ⟨n, rfl, _, hw⟩ := DataW.trod_int hu h
      exact ⟨n, hw, rfl⟩
    · rename_i hd
      obtain ⟨hu, ht⟩ := (hT.row (row_ne hd (by simp))).boolu hd
      rw [ht]
      intro H enc w spare held fuel cs x h _
      obtain ⟨b, rfl, _⟩ := DataW.trod_bool hu h
      exact ⟨b, trivial, rfl⟩
    · rename_i hd
      obtain ⟨hu, ht⟩ := (hT.row (row_ne hd (by simp))).str hd
      rw [ht]
      intro H enc w spare held fuel cs x h hn
      obtain ⟨s, rfl, rfl, _⟩ := DataW.trod_string hu h
      have h1 := hn s.data.toList.length (by simp [DataW.weights])
      have h2 : s.size ≤ 140737488351232 := by simpa [reachBytes] using h1
      exact ⟨s, h2, rfl⟩
    · rename_i e hd
      rw [Bool.and_eq_true, decide_eq_true_eq] at h
      exact opens_sl hT hd h.2 (opens_tab hT d e h.1)
    · rename_i fs hd
      have hr := hT.row (row_ne hd (by simp))
      obtain ⟨l, hu, hl, hch⟩ := hr.st hd
      obtain ⟨inf, _, hi, _, hsz, _, _, _⟩ := hr.ex
      have hce : P.cellsOf t = (T.ty t).size := by unfold Program.cellsOf; rw [hi]; exact hsz
      intro H enc w spare held fuel cs x h2 hn
      obtain ⟨xs, n, _, rfl, hc, hlen, hx⟩ := DataW.trod_struct hu h2
      have := opens_fields hT l.toList 0 (T.ty t) (by rw [hl]; exact hch) (fun f hf => opens_tab hT d f.type (by
        have := List.all_eq_true.1 h (f.type, f.offset) (by rw [← hl]; exact List.mem_map.2 ⟨f, hf, rfl⟩)
        exact this)) H enc w spare held n cs xs (by simpa using hlen) (by rw [hc, hce]; omega) (fun i f hf => hx i f (by simpa using hf)) (fun n hm => hn n (by simp only [DataW.weights, hu]; exact hm))
      exact this
    · rename_i k e hd
      have hr := hT.row (row_ne hd (by simp))
      obtain ⟨hu, ht, h3, hs0⟩ := hr.arr hd
      obtain ⟨inf, _, hi, _, hsz, _, _, _⟩ := hr.ex
      have hce0 : P.cellsOf t = (T.ty t).size := by unfold Program.cellsOf; rw [hi]; exact hsz
      obtain ⟨infe, _, hie, _, hsze, _, _, _⟩ := (hT.row h3).ex
      have hce : P.cellsOf e = (T.ty e).size := by unfold Program.cellsOf; rw [hie]; exact hsze
      have hsz2 : ∀ n, (rep (T.ty e) n).size = n * (T.ty e).size := by
        intro n
        induction n with
        | zero => rw [Nat.zero_mul]; rfl
        | succ n ih =>
          show (T.ty e).size + (rep (T.ty e) n).size = _
          rw [ih, Nat.succ_mul]
          omega
      rw [ht]
      intro H enc w spare held fuel cs x h2 hn
      obtain ⟨xs, m, _, rfl, hc, hl, hx⟩ := DataW.trod_array hu h2
      have := opens_items hT h3 (opens_tab hT d e h) k 0 H enc w spare held m cs xs (by omega) (by rw [hc, hce0, ht, hsz2]; congr 1; omega) (fun i hi => by rw [← hce]; exact hx i (by omega)) (fun x hx n hm => hn n (by
        simp only [DataW.weights, hu]
        have : ∀ (L : List (DataW H)) (z : DataW H), z ∈ L → n ∈ z.weights P e → n ∈ DataW.weightsAll P e L := by
          intro L z hz hk
          induction L with
          | nil => cases hz
          | cons y L ih =>
            rw [DataW.weightsAll]
            rcases List.mem_cons.1 hz with rfl | hz
            · exact List.mem_append_left _ hk
            · exact List.mem_append_right _ (ih hz)
        exact this _ x.1 (List.mem_map.2 ⟨x, hx, rfl⟩) hm))
      simpa using this
    · cases h
theorem weights_at {H : Type} {P : Program} : ∀ {ts : List TypeId} {ds : List (DataW H)} {j : Nat} {t : TypeId} {D : DataW H}, (DataW.weightsEach P ts ds).all (· ≤ reachBytes) = true → ts[j]? = some t → ds[j]? = some D → ∀ n, n ∈ D.weights P t → n ≤ reachBytes
  | t :: ts, D :: ds, 0, _, _, h, ht, hd, n, hn => by
    simp at ht hd
    subst ht hd
    rw [DataW.weightsEach] at h
    have := List.all_eq_true.1 h n (List.mem_append_left _ hn)
    simpa using this
  | t :: ts, D :: ds, j + 1, _, _, h, ht, hd, n, hn => by
    simp at ht hd
    refine weights_at (ts := ts) (ds := ds) (j := j) ?_ ht hd n hn
    rw [DataW.weightsEach] at h
    exact List.all_eq_true.2 fun q hq => List.all_eq_true.1 h q (List.mem_append_right _ hq)
  | [], _, _, _, _, _, ht, _, _, _ => by simp at ht
  | _ :: _, [], _, _, _, _, _, hd, _, _ => by simp at hd
theorem agg_of {w : World} {r : Reach} {b : Nat} {t : Nat} {v : Value} {l : List Value} (hv : Value.okWide P w r b t v) (hu : (∃ fs, P.underlying t = some (.struct fs)) ∨ ∃ n e, P.underlying t = some (.array n e)) (h : v.cells.toList = l) : v = .agg l.toArray := by
  have : ∃ cs, v = .agg cs := by
    unfold Value.okWide at hv
    rcases hu with ⟨fs, hu⟩ | ⟨n, e, hu⟩ <;> (rw [hu] at hv; obtain ⟨cs, h1, _⟩ := hv; exact ⟨cs, h1⟩)
  obtain ⟨cs, rfl⟩ := this
  subst h
  simp [Value.cells]
theorem nonagg {w : World} {F : Nat → Nat} {ty : Ty} (ha : ty.agg = false) {y : El ty} {v : Value} (hv : ∀ cs, v ≠ .agg cs) (h : RepC F w ty y v.cells.toList) : RepV F w ty y v := by
  have hc : v.cells = #[v] := by cases v <;> first | rfl | exact absurd rfl (hv _)
  rw [hc] at h
  exact ⟨_, h, (pack_one ha).symm⟩
/-- An argument that can be read as data says a value. -/
theorem opens_arg (hT : TabOk P T) {t : Nat} (ho : openT T 20 t = true) {H : Type} {enc : TypeId × Value → H} {w : World} {r : Reach} {b : Nat} {spare : Nat → Bool} {held : Bool} {v : Value} {D : DataW H} {ps : List MemPlace} {ts : List TypeId} {ds : List (DataW H)} {j : Nat}
    (hok : Value.okWide P w r b t v) (hsz : (DataW.weightsEach P ts ds).all (· ≤ reachBytes) = true) (ht : ts[j]? = some t) (hD : ds[j]? = some D) (h : DataW.Trod enc P w 0 spare held t v D ps) : ∃ y : El (T.ty t), Wf (T.ty t) y ∧ RepV (fullF w) w (T.ty t) y v := by
  obtain ⟨fuel, hf⟩ := h
  obtain ⟨y, h1, h2⟩ := opens_tab hT 20 t ho H enc w spare held fuel _ _ hf (weights_at hsz ht hD)
  refine ⟨y, h1, ?_⟩
  have hna : ∀ {u : TypeDesc}, P.underlying t = some u → (match u with | .int _ => True | .bool => True | .string => True | .slice _ => True | _ => False) → ∀ cs, v ≠ .agg cs := by
    intro u hu hm cs e
    subst e
    unfold Value.okWide at hok
    rw [hu] at hok
    cases u <;> first
      | exact hm.elim
      | (have hok : Cell.okWide P w r b t (.agg cs) := hok
         unfold Cell.okWide at hok
         rw [hu] at hok
         have hok : Cell.ok P w r b t (.agg cs) := hok
         unfold Cell.ok at hok
         rw [hu] at hok
         simp at hok)
  unfold openT at ho
  split at ho
  · rename_i k hd
    obtain ⟨hu, hty⟩ := (hT.row (row_ne hd (by simp))).int hd
    exact nonagg (by rw [hty]; rfl) (hna hu trivial) h2
  · rename_i hd
    obtain ⟨hu, hty⟩ := (hT.row (row_ne hd (by simp))).boolu hd
    exact nonagg (by rw [hty]; rfl) (hna hu trivial) h2
  · rename_i hd
    obtain ⟨hu, hty⟩ := (hT.row (row_ne hd (by simp))).str hd
    exact nonagg (by rw [hty]; rfl) (hna hu trivial) h2
  · rename_i e hd
    obtain ⟨hu, hty, _⟩ := (hT.row (row_ne hd (by simp))).sl hd
    exact nonagg (by rw [hty]; rfl) (hna hu trivial) h2
  · rename_i fs hd
    obtain ⟨l, hu, _, hch⟩ := (hT.row (row_ne hd (by simp))).st hd
    have hv := agg_of hok (.inl ⟨l, hu⟩) rfl
    exact ⟨_, h2, by rw [pack_agg (chain_agg hch)]; exact hv⟩
  · rename_i k e hd
    obtain ⟨hu, hty, _⟩ := (hT.row (row_ne hd (by simp))).arr hd
    have hv := agg_of hok (.inr ⟨k, e, hu⟩) rfl
    exact ⟨_, h2, by rw [pack_agg (by rw [hty]; exact rep_agg _ _)]; exact hv⟩
  · cases ho
theorem opens_argT (hT : TabOk P T) {t : Nat} {ty : Ty} (hty : T.ty t = ty) (ho : openT T 20 t = true) {H : Type} {enc : TypeId × Value → H} {w : World} {r : Reach} {b : Nat} {spare : Nat → Bool} {held : Bool} {v : Value} {D : DataW H} {ps : List MemPlace} {ts : List TypeId} {ds : List (DataW H)} {j : Nat}
    (hok : Value.okWide P w r b t v) (hsz : (DataW.weightsEach P ts ds).all (· ≤ reachBytes) = true) (ht : ts[j]? = some t) (hD : ds[j]? = some D) (h : DataW.Trod enc P w 0 spare held t v D ps) : ∃ y : El ty, Wf ty y ∧ RepV (fullF w) w ty y v := by
  subst hty
  exact opens_arg hT ho hok hsz ht hD h
end
end Go.Sym
end
section
namespace Go.Proofs.Ytcgdhpnobgimfaa.Num
set_option linter.unusedVariables false
set_option linter.unusedSimpArgs false
open Go.RowKit Go.Proofs.Ytcgdhpnobgimfaa.PT Go.Proofs.YtcgdhpnobgimfaaW.PrintWords Go.Proofs.YtcgdhpnobgimfaaW.PrintMore

/-- The number that digits make. -/
def dv : List Int → Int
  | [] => 0
  | x :: xs => x + 65536 * dv xs

def dok (l : List Int) : Prop := ∀ x, x ∈ l → 0 ≤ x ∧ x < 65536

theorem dok_nil : dok [] := fun x h => by cases h
theorem dok_cons {x : Int} {l : List Int} (h : 0 ≤ x ∧ x < 65536) (hl : dok l) : dok (x :: l) := by
  intro y hy
  rcases List.mem_cons.1 hy with rfl | hy
  · exact h
  · exact hl y hy
theorem dok_append {a b : List Int} (ha : dok a) (hb : dok b) : dok (a ++ b) := by
  intro y hy
  rcases List.mem_append.1 hy with hy | hy
  · exact ha y hy
  · exact hb y hy
theorem dok_snoc {a : List Int} {x : Int} (ha : dok a) (h : 0 ≤ x ∧ x < 65536) : dok (a ++ [x]) := dok_append ha (dok_cons h dok_nil)
theorem dok_tail {x : Int} {l : List Int} (h : dok (x :: l)) : dok l := fun y hy => h y (List.mem_cons_of_mem _ hy)
theorem dok_getD {l : List Int} (h : dok l) (i : Nat) : 0 ≤ l.getD i 0 ∧ l.getD i 0 < 65536 := by
  by_cases hi : i < l.length
  · rw [List.getD_eq_getElem?_getD, List.getElem?_eq_getElem hi]
    exact h _ (List.getElem_mem hi)
  · rw [List.getD_eq_getElem?_getD, List.getElem?_eq_none (by omega)]
    exact ⟨by decide, by decide⟩
theorem dok_rep (n : Nat) : dok (List.replicate n 0) := by
  intro y hy
  rw [List.mem_replicate] at hy
  omega

theorem dv_append (a b : List Int) : dv (a ++ b) = dv a + 65536 ^ a.length * dv b := by
  induction a with
  | nil => simp [dv]
  | cons x a ih =>
    simp only [List.cons_append, dv, ih, List.length_cons, Int.pow_succ]
    rw [Int.mul_add, ← Int.mul_assoc, Int.mul_comm 65536 (65536 ^ a.length)]
    omega
theorem dv_snoc (a : List Int) (x : Int) : dv (a ++ [x]) = dv a + 65536 ^ a.length * x := by
  rw [dv_append]
  simp [dv]
theorem pow_pos' (n : Nat) : (0 : Int) < 65536 ^ n := Int.pow_pos (by decide)
theorem dv_nonneg {l : List Int} (h : dok l) : 0 ≤ dv l := by
  induction l with
  | nil => exact Int.le_refl _
  | cons x l ih =>
    have h1 := ih (dok_tail h)
    have h2 := h x List.mem_cons_self
    simp only [dv]
    omega
theorem dv_lt {l : List Int} (h : dok l) : dv l < 65536 ^ l.length := by
  induction l with
  | nil => simp [dv]
  | cons x l ih =>
    have h1 := ih (dok_tail h)
    have h2 := h x List.mem_cons_self
    simp only [dv, List.length_cons, Int.pow_succ]
    omega
theorem dv_take_succ (l : List Int) (i : Nat) : dv (l.take (i + 1)) = dv (l.take i) + 65536 ^ i * l.getD i 0 := by
  by_cases hi : i < l.length
  · rw [List.take_succ_eq_append_getElem hi, dv_snoc, List.length_take, Nat.min_eq_left (by omega)]
    rw [List.getD_eq_getElem?_getD, List.getElem?_eq_getElem hi]
    rfl
  · rw [List.take_of_length_le (by omega), List.take_of_length_le (by omega), List.getD_eq_getElem?_getD, List.getElem?_eq_none (by omega)]
    simp
theorem dv_take_all (l : List Int) (i : Nat) (h : l.length ≤ i) : dv (l.take i) = dv l := by rw [List.take_of_length_le h]
theorem dv_take_lt {l : List Int} (h : dok l) (i : Nat) : 0 ≤ dv (l.take i) ∧ dv (l.take i) < 65536 ^ i := by
  induction i with
  | zero => simp [dv]
  | succ i ih =>
    rw [dv_take_succ, Int.pow_succ]
    have h1 := dok_getD h i
    have h2 : 0 ≤ 65536 ^ i * l.getD i 0 := Int.mul_nonneg (Int.le_of_lt (pow_pos' i)) h1.1
    have h3 : 65536 ^ i * l.getD i 0 ≤ 65536 ^ i * 65535 := Int.mul_le_mul_of_nonneg_left (by omega) (Int.le_of_lt (pow_pos' i))
    omega
theorem dv_split (l : List Int) (i : Nat) (h : i ≤ l.length) : dv l = dv (l.take i) + 65536 ^ i * dv (l.drop i) := by
  have h1 := dv_append (l.take i) (l.drop i)
  rw [List.take_append_drop, List.length_take, Nat.min_eq_left h] at h1
  exact h1
theorem dv_set (l : List Int) (i : Nat) (v : Int) (h : i < l.length) : dv (l.set i v) = dv l + 65536 ^ i * (v - l.getD i 0) := by
  induction l generalizing i with
  | nil => simp at h
  | cons x l ih =>
    cases i with
    | zero => simp [dv]; omega
    | succ i =>
      simp only [List.set_cons_succ, dv, List.getD_cons_succ, Int.pow_succ]
      rw [ih i (by simpa using h), Int.mul_add, ← Int.mul_assoc, Int.mul_comm 65536 (65536 ^ i)]
      omega
theorem dv_rep (n : Nat) : dv (List.replicate n 0) = 0 := by
  induction n with
  | zero => rfl
  | succ n ih => simp [List.replicate_succ, dv, ih]
theorem dok_set {l : List Int} (h : dok l) (i : Nat) {v : Int} (hv : 0 ≤ v ∧ v < 65536) : dok (l.set i v) := by
  intro y hy
  rcases List.mem_or_eq_of_mem_set hy with hy | rfl
  · exact h y hy
  · exact hv
theorem rd_nat (l : List Int) (i : Nat) : rd l (i : Int) = l.getD i 0 := by simp [rd]
theorem u64_id {x : Int} (h0 : 0 ≤ x) (h1 : x < 18446744073709551616) : IntKind.u64.wrap x = x := by
  unfold IntKind.wrap
  simp [IntKind.bits, IntKind.signed]
  omega
theorem u64_mod (x : Int) : IntKind.u64.wrap x = x % 18446744073709551616 := by
  unfold IntKind.wrap
  simp [IntKind.bits, IntKind.signed]
theorem w64_id {x : Int} (h0 : -9223372036854775808 ≤ x) (h1 : x < 9223372036854775808) : wrap64 x = x := by
  unfold wrap64
  omega
theorem w64_succ {i : Nat} (h : i < 4611686018427387904) : wrap64 ((i : Int) + 1) = ((i + 1 : Nat) : Int) := by
  rw [w64_id (by omega) (by omega)]
  omega
theorem w64_add {i j : Nat} (h : i < 2305843009213693952) (h2 : j < 2305843009213693952) : wrap64 ((i : Int) + (j : Int)) = ((i + j : Nat) : Int) := by
  rw [w64_id (by omega) (by omega)]
  omega
theorem tmod_pos {a b : Int} (ha : 0 ≤ a) : Int.tmod a b = a % b := Int.tmod_eq_emod_of_nonneg ha
theorem tdiv_pos {a b : Int} (ha : 0 ≤ a) : Int.tdiv a b = a / b := Int.tdiv_eq_ediv_of_nonneg ha
theorem evp {α : Type} {c : Prop} [Decidable c] {g f : Nat → Option α} {r : α} (h : c) (k : Ev g r) : Ev (fun n => if c then g n else f n) r := Ev.congr (fun _ => if_pos h) k
theorem evs {α β : Type} {g : Option α} {f : Nat → α → Option β} {a : α} {r : β} (h : g = some a) (k : Ev (fun n => f n a) r) : Ev (fun n => g.bind (f n)) r := Ev.congr (fun n => by rw [h]; rfl) k
theorem evn {α : Type} {c : Prop} [Decidable c] {g f : Nat → Option α} {r : α} (h : ¬ c) (k : Ev f r) : Ev (fun n => if c then g n else f n) r := Ev.congr (fun _ => if_neg h) k
theorem i64_wf {a : Int} (h : (Lit.int .i64 a).wf = true) : -9223372036854775808 ≤ a ∧ a < 9223372036854775808 := by
  simp [Lit.wf, IntKind.min, IntKind.max, IntKind.bits, IntKind.signed] at h
  omega
end Go.Proofs.Ytcgdhpnobgimfaa.Num
end
section
namespace Go.Proofs.Ytcgdhpnobgimfaa.Num
set_option linter.unusedVariables false
set_option linter.unusedSimpArgs false
open Go.RowKit Go.Proofs.Ytcgdhpnobgimfaa.PT Go.Proofs.YtcgdhpnobgimfaaW.PrintWords Go.Proofs.YtcgdhpnobgimfaaW.PrintMore

/-! ### Bytes -/
def numsOf (s : ByteArray) : List Int := s.data.toList.map (fun b => (b.toNat : Int))
theorem numsOf_length (s : ByteArray) : (numsOf s).length = s.size := by
  rw [numsOf, List.length_map, Array.length_toList]
  rfl
theorem nums_str {l : List Int} (h : ∀ x, x ∈ l → 0 ≤ x ∧ x < 256) : numsOf (strOfNums l) = l := by
  show ((l.map fun n => UInt8.ofNat n.toNat).toArray.toList).map (fun b => (b.toNat : Int)) = l
  rw [List.map_map]
  conv => rhs; rw [← List.map_id l]
  refine List.map_congr_left fun x hx => ?_
  have := h x hx
  have e : (UInt8.ofNat x.toNat).toNat = x.toNat % 256 := UInt8.toNat_ofNat' 
  simp only [Function.comp, id]
  rw [e]
  omega
theorem nums_len (s : ByteArray) : (numsOf s).length = s.size := numsOf_length s
theorem str_app (a b : List Int) : strOfNums a ++ strOfNums b = strOfNums (a ++ b) := by
  apply ByteArray.ext
  show (strOfNums a ++ strOfNums b).data = _
  simp [strOfNums]
theorem digit_str : ∀ i : Nat, i < 10 → (⟨#[48, 49, 50, 51, 52, 53, 54, 55, 56, 57]⟩ : ByteArray).extract i (i + 1) = strOfNums [48 + (i : Int)] := by decide +kernel
theorem toList_nil (s : ByteArray) : s.toList = ([] : List UInt8) ↔ numsOf s = [] := by
  rw [ByteArray.toList_eq]
  unfold numsOf
  simp
end Go.Proofs.Ytcgdhpnobgimfaa.Num
end
section
namespace Go.Proofs.Ytcgdhpnobgimfaa.Num
set_option linter.unusedVariables false
set_option linter.unusedSimpArgs false
open Go.RowKit Go.Proofs.Ytcgdhpnobgimfaa.PT Go.Proofs.YtcgdhpnobgimfaaW.PrintWords Go.Proofs.YtcgdhpnobgimfaaW.PrintMore

/-! ### Digits -/
def dig : Nat → Int → List Int → List Int
  | 0, _, l => l
  | k + 1, u, l => if u / 10 = 0 then (48 + u % 10) :: l else dig k (u / 10) ((48 + u % 10) :: l)
def isDig (x : Int) : Prop := 48 ≤ x ∧ x ≤ 57
instance (x : Int) : Decidable (isDig x) := by unfold isDig; infer_instance
def valf (a : Int) (l : List Int) : Int := l.foldl (fun a x => 10 * a + (x - 48)) a
theorem valf_app (a : Int) (l m : List Int) : valf a (l ++ m) = valf (valf a l) m := by
  unfold valf
  rw [List.foldl_append]
theorem valf_cons (a x : Int) (l : List Int) : valf a (x :: l) = valf (10 * a + (x - 48)) l := rfl
theorem valf_ge {l : List Int} (h : ∀ x, x ∈ l → isDig x) : ∀ {a : Int}, 0 ≤ a → a * 10 ^ l.length ≤ valf a l := by
  induction l with
  | nil => intro a _; simp [valf]
  | cons x t ih =>
    intro a ha
    have hx := h x (List.mem_cons_self)
    have ih := ih (fun y hy => h y (List.mem_cons_of_mem _ hy)) (a := 10 * a + (x - 48)) (by have := hx.1; omega)
    rw [valf_cons, List.length_cons, Int.pow_succ]
    have p : (0 : Int) ≤ 10 ^ t.length := Int.le_of_lt (Int.pow_pos (by decide))
    have q : a * (10 ^ t.length * 10) ≤ (10 * a + (x - 48)) * 10 ^ t.length := by
      rw [show a * (10 ^ t.length * 10) = (10 * a) * 10 ^ t.length from by rw [Int.mul_comm (10 ^ t.length) 10, ← Int.mul_assoc, Int.mul_comm a 10]]
      exact Int.mul_le_mul_of_nonneg_right (by have := hx.1; omega) p
    omega
theorem valf_mono {l : List Int} (h : ∀ x, x ∈ l → isDig x) {a : Int} (ha : 0 ≤ a) : a ≤ valf a l := by
  have g := valf_ge h ha
  have p : (1 : Int) ≤ 10 ^ l.length := Int.pow_pos (by decide)
  have q : a * 1 ≤ a * 10 ^ l.length := Int.mul_le_mul_of_nonneg_left p ha
  omega
theorem valf_lt {l : List Int} (h : ∀ x, x ∈ l → isDig x) : ∀ {a : Int} {i : Nat}, 0 ≤ a → a < 10 ^ i → valf a l < 10 ^ (i + l.length) := by
  induction l with
  | nil => intro a i _ h2; simpa [valf] using h2
  | cons x t ih =>
    intro a i ha h2
    have hx := h x (List.mem_cons_self)
    have h0 := hx.1
    have h1 := hx.2
    rw [valf_cons, List.length_cons, show i + (t.length + 1) = (i + 1) + t.length from by omega]
    refine ih (fun y hy => h y (List.mem_cons_of_mem _ hy)) (by omega) ?_
    rw [Int.pow_succ]
    omega
theorem dig_props (k : Nat) : ∀ (u : Int) (acc : List Int), 0 ≤ u → u < 10 ^ (k + 1) → ∃ m : List Int, dig (k + 1) u acc = m ++ acc ∧ 0 < m.length ∧ m.length ≤ k + 1 ∧ (∀ x, x ∈ m → isDig x) ∧ valf 0 m = u ∧ (1 < m.length → m.getD 0 0 ≠ 48) := by
  induction k with
  | zero =>
    intro u acc h0 h1
    have h1 : u < 10 := by simpa using h1
    refine ⟨[48 + u], ?_, by simp, by simp, ?_, ?_, by simp⟩
    · show (if u / 10 = 0 then _ else _) = _
      rw [if_pos (by omega), show u % 10 = u from by omega]
      rfl
    · intro x hx
      rw [List.mem_singleton] at hx
      unfold isDig
      omega
    · simp [valf]
      omega
  | succ k ih =>
    intro u acc h0 h1
    rw [show dig (k + 1 + 1) u acc = if u / 10 = 0 then (48 + u % 10) :: acc else dig (k + 1) (u / 10) ((48 + u % 10) :: acc) from rfl]
    by_cases c : u / 10 = 0
    · rw [if_pos c]
      refine ⟨[48 + u % 10], rfl, by simp, by simp, ?_, ?_, by simp⟩
      · intro x hx
        rw [List.mem_singleton] at hx
        unfold isDig
        omega
      · simp [valf]
        omega
    · rw [if_neg c]
      have hq : u / 10 < 10 ^ (k + 1) := by
        rw [Int.pow_succ] at h1
        omega
      obtain ⟨m, e, l0, l1, hd, hv, hz⟩ := ih (u / 10) ((48 + u % 10) :: acc) (by omega) hq
      refine ⟨m ++ [48 + u % 10], by rw [e]; simp, by simp, by simp; omega, ?_, ?_, ?_⟩
      · intro x hx
        rcases List.mem_append.1 hx with hx | hx
        · exact hd x hx
        · rw [List.mem_singleton] at hx
          unfold isDig
          omega
      · rw [valf_app, hv]
        show 10 * (u / 10) + (48 + u % 10 - 48) = u
        omega
      · intro _
        obtain ⟨x, t, rfl⟩ : ∃ x t, m = x :: t := by
          cases m with
          | nil => simp at l0
          | cons x t => exact ⟨x, t, rfl⟩
        show x ≠ 48
        cases t with
        | nil =>
          intro hx
          rw [hx] at hv
          simp [valf] at hv
          omega
        | cons y t => exact hz (by simp)
theorem dig_val (n : Nat) : ∀ (l acc : List Int) (k : Nat), l.length = n + 1 → (∀ x, x ∈ l → isDig x) → (l.length = 1 ∨ l.getD 0 0 ≠ 48) → l.length ≤ k → dig k (valf 0 l) acc = l ++ acc := by
  induction n with
  | zero =>
    intro l acc k hl hd _ hk
    obtain ⟨x, rfl⟩ := List.length_eq_one_iff.1 hl
    obtain ⟨k, rfl⟩ : ∃ j, k = j + 1 := ⟨k - 1, by simp at hk; omega⟩
    have hx := hd x (by simp)
    have h0 := hx.1
    have h1 := hx.2
    have e : valf 0 [x] = x - 48 := by simp [valf]
    rw [e]
    show (if (x - 48) / 10 = 0 then (48 + (x - 48) % 10) :: acc else _) = _
    rw [if_pos (by omega), show 48 + (x - 48) % 10 = x from by omega]
    rfl
  | succ n ih =>
    intro l acc k hl hd hz hk
    obtain ⟨m, x, rfl⟩ : ∃ m x, l = m ++ [x] := by
      refine ⟨l.dropLast, l.getLast (by intro e; rw [e] at hl; simp at hl), ?_⟩
      rw [List.dropLast_concat_getLast]
    have hm : m.length = n + 1 := by simpa using hl
    obtain ⟨k, rfl⟩ : ∃ j, k = j + 1 := ⟨k - 1, by simp at hk; omega⟩
    have hx := hd x (by simp)
    have h0 := hx.1
    have h1 := hx.2
    have hdm : ∀ y, y ∈ m → isDig y := fun y hy => hd y (by simp [hy])
    obtain ⟨y, t, rfl⟩ : ∃ y t, m = y :: t := by
      cases m with
      | nil => simp at hm
      | cons y t => exact ⟨y, t, rfl⟩
    have hy : y ≠ 48 := by
      rcases hz with hz | hz
      · simp at hz
      · exact hz
    have hyd := hdm y (by simp)
    have hv1 : 1 ≤ valf 0 (y :: t) := by
      rw [valf_cons]
      have := valf_mono (l := t) (fun z hz => hdm z (by simp [hz])) (a := 10 * 0 + (y - 48)) (by have := hyd.1; omega)
      have := hyd.1
      omega
    have e : valf 0 ((y :: t) ++ [x]) = 10 * valf 0 (y :: t) + (x - 48) := by
      rw [valf_app]
      rfl
    rw [e]
    rw [show dig (k + 1) (10 * valf 0 (y :: t) + (x - 48)) acc = if (10 * valf 0 (y :: t) + (x - 48)) / 10 = 0 then (48 + (10 * valf 0 (y :: t) + (x - 48)) % 10) :: acc else dig k ((10 * valf 0 (y :: t) + (x - 48)) / 10) ((48 + (10 * valf 0 (y :: t) + (x - 48)) % 10) :: acc) from rfl]
    rw [if_neg (by omega), show (10 * valf 0 (y :: t) + (x - 48)) / 10 = valf 0 (y :: t) from by omega, show 48 + (10 * valf 0 (y :: t) + (x - 48)) % 10 = x from by omega]
    rw [ih (y :: t) (x :: acc) k hm hdm (.inr hy) (by simp at hk hm ⊢; omega)]
    simp
theorem p20 : (18446744073709551616 : Int) < 10 ^ 20 := by decide
theorem digits_loop (m : Nat) : ∀ (u : Int) (l : List Int), l.length + (m + 1) = 20 → 0 ≤ u → u < 18446744073709551616 → u < 10 ^ (m + 1) → Ev (fun k => num_digits.l0 k u l) (strOfNums (dig (m + 1) u l)) := by
  induction m with
  | zero =>
    intro u l hl h0 h1 h2
    have h2 : u < 10 := by simpa using h2
    refine Ev.step (fun k => by rw [num_digits.l0]) ?_
    refine evp (by omega) ?_
    refine evp h0 ?_
    refine evp h1 ?_
    refine evp (by omega) ?_
    rw [show dig (0 + 1) u l = (48 + u % 10) :: l from if_pos (by omega)]
    exact Ev.now _
  | succ m ih =>
    intro u l hl h0 h1 h2
    refine Ev.step (fun k => by rw [num_digits.l0]) ?_
    refine evp (by omega) ?_
    refine evp h0 ?_
    refine evp h1 ?_
    by_cases c : u / 10 = 0
    · rw [show dig (m + 1 + 1) u l = (48 + u % 10) :: l from if_pos c]
      exact evp c (Ev.now _)
    · rw [show dig (m + 1 + 1) u l = dig (m + 1) (u / 10) ((48 + u % 10) :: l) from if_neg c]
      refine evn c (ih _ _ (by simp only [List.length_cons]; omega) (by omega) (by omega) ?_)
      rw [Int.pow_succ] at h2
      omega
theorem digits_ok {u : Int} (h0 : 0 ≤ u) (h1 : u < 18446744073709551616) : Ev (fun k => num_digits.f k u) (strOfNums (dig 20 u [])) := by
  unfold num_digits.f
  have := p20
  exact digits_loop 19 u [] rfl h0 h1 (by omega)
theorem text_loop (m : Nat) : ∀ (u : Int) (l : List Int), l.length + (m + 1) ≤ 30 → 0 ≤ u → u < 9223372036854775808 → u < 10 ^ (m + 1) →
    Ev (fun k => regimenref01_Text.l0 k u (⟨#[48, 49, 50, 51, 52, 53, 54, 55, 56, 57]⟩ : ByteArray) (strOfNums ((48 + u % 10) :: l))) (strOfNums (dig (m + 1) u l)) := by
  induction m with
  | zero =>
    intro u l hl h0 h1 h2
    have h2 : u < 10 := by simpa using h2
    refine Ev.step (fun k => by rw [regimenref01_Text.l0]) ?_
    refine evn (by omega) ?_
    rw [show dig (0 + 1) u l = (48 + u % 10) :: l from if_pos (by omega)]
    exact Ev.now _
  | succ m ih =>
    intro u l hl h0 h1 h2
    refine Ev.step (fun k => by rw [regimenref01_Text.l0]) ?_
    by_cases c : u / 10 = 0
    · rw [show dig (m + 1 + 1) u l = (48 + u % 10) :: l from if_pos c]
      exact evn (by omega) (Ev.now _)
    · rw [show dig (m + 1 + 1) u l = dig (m + 1) (u / 10) ((48 + u % 10) :: l) from if_neg c]
      refine evp (by omega) ?_
      rw [show Int.tdiv u 10 = u / 10 from Int.tdiv_eq_ediv_of_nonneg h0, w64_id (x := u / 10) (by omega) (by omega), show Int.tmod (u / 10) 10 = u / 10 % 10 from Int.tmod_eq_emod_of_nonneg (by omega), w64_id (x := u / 10 % 10 + 1) (by omega) (by omega)]
      have hn := digit_str (u / 10 % 10).toNat (by omega)
      have e : (⟨#[48, 49, 50, 51, 52, 53, 54, 55, 56, 57]⟩ : ByteArray).extract (u / 10 % 10).toNat (u / 10 % 10 + 1).toNat = strOfNums [48 + u / 10 % 10] := by
        rw [show (u / 10 % 10 + 1).toNat = (u / 10 % 10).toNat + 1 from by omega, hn, show ((u / 10 % 10).toNat : Int) = u / 10 % 10 from by omega]
      rw [e, str_app]
      refine evp (by omega) ?_
      refine evp (by omega) ?_
      refine evp (by show u / 10 % 10 + 1 ≤ 10; omega) ?_
      refine evp (by rw [strOfNums_size, strOfNums_size]; simp only [List.length_cons, List.length_nil]; omega) ?_
      refine ih (u / 10) ((48 + u % 10) :: l) (by simp only [List.length_cons]; omega) (by omega) (by omega) ?_
      rw [Int.pow_succ] at h2
      omega
theorem text_ok {u : Int} (h0 : 0 ≤ u) (h1 : u < 9223372036854775808) : Ev (fun k => regimenref01_Text.f k u) (strOfNums (dig 20 u [])) := by
  have := p20
  have t := text_loop 19 u [] (by simp) h0 h1 (by omega)
  unfold regimenref01_Text.f
  rw [show Int.tmod u 10 = u % 10 from Int.tmod_eq_emod_of_nonneg h0, w64_id (x := u % 10 + 1) (by omega) (by omega)]
  have hn := digit_str (u % 10).toNat (by omega)
  have e : (⟨#[48, 49, 50, 51, 52, 53, 54, 55, 56, 57]⟩ : ByteArray).extract (u % 10).toNat (u % 10 + 1).toNat = strOfNums [48 + u % 10] := by
    rw [show (u % 10 + 1).toNat = (u % 10).toNat + 1 from by omega, hn, show ((u % 10).toNat : Int) = u % 10 from by omega]
  rw [e]
  refine evp (by omega) ?_
  refine evp (by omega) ?_
  refine evp (by omega) ?_
  exact t
/-! ### Reading -/
def lead : List Int → Nat
  | [] => 0
  | x :: t => if isDig x then lead t + 1 else 0
theorem lead_le (l : List Int) : lead l ≤ l.length := by
  induction l with
  | nil => simp [lead]
  | cons x t ih =>
    unfold lead
    split
    · simp; omega
    · simp
theorem lead_all (l : List Int) : lead l = l.length ↔ ∀ x, x ∈ l → isDig x := by
  induction l with
  | nil => simp [lead]
  | cons x t ih =>
    unfold lead
    have := lead_le t
    by_cases c : isDig x
    · rw [if_pos c]
      simp only [List.length_cons, Nat.add_right_cancel_iff, List.mem_cons, forall_eq_or_imp]
      rw [ih]
      exact ⟨fun h => ⟨c, h⟩, fun h => h.2⟩
    · rw [if_neg c]
      simp only [List.length_cons, List.mem_cons, forall_eq_or_imp]
      exact ⟨fun h => by omega, fun h => absurd h.1 c⟩
/-- Which count a text is; what is told. -/
def bad (l : List Int) : Prop := l = [] ∨ lead l < l.length ∨ (1 < l.length ∧ l.getD 0 0 = 48)
instance (l : List Int) : Decidable (bad l) := by unfold bad; infer_instance
end Go.Proofs.Ytcgdhpnobgimfaa.Num
end
section
namespace Go.Proofs.Ytcgdhpnobgimfaa.Num
set_option linter.unusedVariables false
set_option linter.unusedSimpArgs false
open Go.RowKit Go.Proofs.Ytcgdhpnobgimfaa.PT Go.Proofs.YtcgdhpnobgimfaaW.PrintWords Go.Proofs.YtcgdhpnobgimfaaW.PrintMore

/-- Any number's digits. -/
def tellv (n : Int) : ByteArray := if n < 0 then strOfNums (45 :: dig 20 (-n) []) else strOfNums (dig 20 n [])
theorem tell_ok {n : Int} (h : -9223372036854775808 ≤ n ∧ n < 9223372036854775808) : Ev (fun k => num_Tell.f k n) (tellv n) := by
  unfold num_Tell.f tellv
  by_cases c : n < 0
  · rw [if_pos c]
    refine evp c ?_
    rw [show IntKind.u64.wrap (-(IntKind.u64.wrap n)) = -n from by rw [u64_mod, u64_mod]; omega]
    refine Ev.bind (digits_ok (by omega) (by omega)) ?_
    obtain ⟨m, e, l0, l1, hd, hv, hz⟩ := dig_props 19 (-n) [] (by omega) (by have := p20; omega)
    rw [List.append_nil] at e
    refine evp (by rw [strOfNums_size, e]; omega) ?_
    rw [show (⟨#[45]⟩ : ByteArray) = strOfNums [45] from by decide +kernel, str_app]
    exact Ev.now _
  · rw [if_neg c]
    refine evn c ?_
    rw [u64_id (x := n) (by omega) (by omega)]
    refine Ev.bind (digits_ok (by omega) (by omega)) ?_
    exact Ev.now _
theorem ref_tell_ok {n : Int} (h : -9223372036854775808 ≤ n ∧ n < 9223372036854775808) : Ev (fun k => regimenref01_Tell.f k n) (tellv n) := by
  unfold regimenref01_Tell.f tellv
  by_cases c : n < 0
  · rw [if_pos c]
    obtain ⟨u, rfl⟩ : ∃ u, n = -u := ⟨-n, by omega⟩
    have tm : Int.tmod (-u) 10 = -(u % 10) := by rw [Int.neg_tmod, Int.tmod_eq_emod_of_nonneg (by omega)]
    have td : Int.tdiv (-u) 10 = -(u / 10) := by rw [Int.neg_tdiv, Int.tdiv_eq_ediv_of_nonneg (by omega)]
    rw [tm, td, Int.neg_neg, Int.neg_neg, w64_id (x := u % 10) (by omega) (by omega), w64_id (x := u % 10 + 1) (by omega) (by omega), w64_id (x := -(u / 10)) (by omega) (by omega), Int.neg_neg, w64_id (x := u / 10) (by omega) (by omega)]
    have hn := digit_str (u % 10).toNat (by omega)
    have e : (⟨#[48, 49, 50, 51, 52, 53, 54, 55, 56, 57]⟩ : ByteArray).extract (u % 10).toNat (u % 10 + 1).toNat = strOfNums [48 + u % 10] := by
      rw [show (u % 10 + 1).toNat = (u % 10).toNat + 1 from by omega, hn, show ((u % 10).toNat : Int) = u % 10 from by omega]
    rw [e]
    refine evn (by omega) ?_
    refine evp (by omega) ?_
    refine evp (by omega) ?_
    refine evp (by omega) ?_
    by_cases d : u / 10 = 0
    · refine evp (by omega) ?_
      refine evp (by rw [strOfNums_size]; simp) ?_
      rw [show (⟨#[45]⟩ : ByteArray) = strOfNums [45] from by decide +kernel, str_app, show dig 20 u [] = [48 + u % 10] from if_pos d]
      exact Ev.now _
    · refine evn (by omega) ?_
      refine Ev.bind (text_ok (u := u / 10) (by omega) (by omega)) ?_
      have p19 : (9223372036854775808 : Int) < 10 ^ 19 := by decide
      obtain ⟨m, em, l0, l1, hd, hv, hz⟩ := dig_props 18 (u / 10) [48 + u % 10] (by omega) (by omega)
      have dv := dig_val (m.length - 1) m [] 20 (by omega) hd (by
        by_cases q : m.length = 1
        · exact .inl q
        · exact .inr (hz (by omega))) (by omega)
      rw [hv, List.append_nil] at dv
      rw [dv]
      refine evp (by rw [strOfNums_size, strOfNums_size]; simp; omega) ?_
      rw [str_app]
      refine evp (by rw [strOfNums_size]; simp; omega) ?_
      rw [show (⟨#[45]⟩ : ByteArray) = strOfNums [45] from by decide +kernel, str_app, show dig 20 u [] = dig 19 (u / 10) [48 + u % 10] from if_neg d, em]
      exact Ev.now _
  · rw [if_neg c]
    refine evp (by omega) ?_
    refine Ev.bind (text_ok (by omega) h.2) ?_
    exact Ev.now _
end Go.Proofs.Ytcgdhpnobgimfaa.Num
end
section
namespace Go.Proofs.Ytcgdhpnobgimfaa.Num
set_option linter.unusedVariables false
set_option linter.unusedSimpArgs false
open Go.RowKit Go.Proofs.Ytcgdhpnobgimfaa.PT Go.Proofs.YtcgdhpnobgimfaaW.PrintWords

theorem mul_bd {x y M N : Int} (hx0 : 0 ≤ x) (hx : x ≤ M) (hy0 : 0 ≤ y) (hy : y ≤ N) : 0 ≤ x * y ∧ x * y ≤ M * N :=
  ⟨Int.mul_nonneg hx0 hy0, Int.mul_le_mul hx hy hy0 (by omega)⟩

theorem digit_at (l : List Int) (i : Nat) : regimenref02_digit.f l (i : Int) = some (l.getD i 0) := by
  unfold regimenref02_digit.f
  by_cases h : (i : Int) < (l.length : Int)
  · rw [if_pos h, if_pos (by omega), rd_nat]
  · rw [if_neg h, List.getD_eq_getElem?_getD, List.getElem?_eq_none (by omega)]
    rfl
theorem getD_out (l : List Int) (i : Nat) (h : l.length ≤ i) : l.getD i 0 = 0 := by
  rw [List.getD_eq_getElem?_getD, List.getElem?_eq_none h]
  rfl

theorem word_ok (u : Int) (h0 : 0 ≤ u) (h1 : u < 18446744073709551616) : ∃ l, regimenref02_Word.f u = some l ∧ dok l ∧ dv l = u ∧ l.length = 4 := by
  have e1 := tmod_pos (b := 65536) h0
  have e2 := tdiv_pos (b := 65536) h0
  have e3 := tdiv_pos (b := 4294967296) h0
  have e4 := tdiv_pos (b := 281474976710656) h0
  have w2 : IntKind.u64.wrap (u / 65536) = u / 65536 := u64_id (by omega) (by omega)
  have w3 : IntKind.u64.wrap (u / 4294967296) = u / 4294967296 := u64_id (by omega) (by omega)
  have w4 : IntKind.u64.wrap (u / 281474976710656) = u / 281474976710656 := u64_id (by omega) (by omega)
  refine ⟨[u % 65536, u / 65536 % 65536, u / 4294967296 % 65536, u / 281474976710656], ?_, ?_, ?_, rfl⟩
  · unfold regimenref02_Word.f
    rw [e1, e2, e3, e4, w2, w3, w4, tmod_pos (by omega), tmod_pos (by omega)]
  · exact dok_cons (by omega) (dok_cons (by omega) (dok_cons (by omega) (dok_cons (by omega) dok_nil)))
  · simp only [dv]
    omega

/-! ### the sum -/
theorem plus_step {c d p q P x y n m r : Int} (h : c + P * d = p + q) (hn : n = x + y + d) (hm : n = 65536 * r + m) : c + P * m + P * 65536 * r = p + P * x + (q + P * y) := by
  have e : P * n = P * (65536 * r) + P * m := by rw [hm, Int.mul_add]
  have e2 : P * n = P * x + P * y + P * d := by rw [hn, Int.mul_add, Int.mul_add]
  rw [Int.mul_assoc]
  omega

theorem plus_loop (a b : List Int) (ha : dok a) (hb : dok b) (M : Nat) (hla : a.length ≤ M) (hlb : b.length ≤ M) (hM : M < 4294967296) (d : Nat) :
    ∀ (i : Nat) (out : List Int) (carry : Int), M + 2 - i = d → out.length = i → i ≤ M + 1 → dok out → 0 ≤ carry → carry ≤ 1 → (M < i → carry = 0) → (M < i → 65536 ^ M ≤ dv out) →
      dv out + 65536 ^ i * carry = dv (a.take i) + dv (b.take i) →
      ∃ r, Ev (fun k => regimenref02_Plus.l0 k a b out carry (i : Int)) r ∧ dok r ∧ dv r = dv a + dv b ∧ r.length ≤ M + 1 ∧ (M < r.length → 65536 ^ M ≤ dv r) := by
  induction d with
  | zero => intro i out carry hd hlen hi; omega
  | succ d ih =>
  intro i out carry hd hlen hi hout hc0 hc1 hM2 hM3 hv
  by_cases hgo : i < a.length ∨ i < b.length ∨ carry > 0
  · have h1 := dok_getD ha i
    have h2 := dok_getD hb i
    have hz1 : M < i + 1 → a.getD i 0 = 0 := fun h => getD_out a i (by omega)
    have hz2 : M < i + 1 → b.getD i 0 = 0 := fun h => getD_out b i (by omega)
    generalize hA : a.getD i 0 = A at h1 hz1
    generalize hB : b.getD i 0 = B at h2 hz2
    obtain ⟨r, hr, p⟩ := ih (i + 1) (out ++ [(A + B + carry) % 65536]) ((A + B + carry) / 65536) (by omega) (by simp [hlen]) (by omega) (dok_snoc hout (by omega)) (by omega) (by omega)
      (fun h => by have := hz1 h; have := hz2 h; omega) (fun h => by
        have e1 := hz1 h
        have e2 := hz2 h
        have e3 := hM2
        have hi : i = M := by omega
        have e4 : carry = 1 := by omega
        rw [dv_snoc, hlen, hi, e1, e2, e4]
        have := dv_nonneg hout
        have e5 : ((0 : Int) + 0 + 1) % 65536 = 1 := by decide
        rw [e5, Int.mul_one]
        omega) (by
        rw [dv_snoc, hlen, dv_take_succ, dv_take_succ, Int.pow_succ, hA, hB]
        exact plus_step hv rfl (by omega))
    refine ⟨r, ?_, p⟩
    refine Ev.step (f := fun k => regimenref02_Plus.j1 k a b out carry (i : Int) true) ?_ ?_
    · intro k
      simp only [regimenref02_Plus.l0]
      by_cases c1 : (i : Int) < (a.length : Int)
      · rw [if_pos c1]
      · rw [if_neg c1]
        by_cases c2 : (i : Int) < (b.length : Int)
        · rw [if_pos c2]
        · rw [if_neg c2, decide_eq_true (by omega)]
    · refine Ev.step (f := fun k => regimenref02_Plus.l0 k a b (out ++ [(A + B + carry) % 65536]) ((A + B + carry) / 65536) ((i + 1 : Nat) : Int)) ?_ hr
      intro k
      simp only [regimenref02_Plus.j1, if_true, digit_at, Option.bind_some, hA, hB]
      rw [if_pos (by omega), u64_id (x := A + B) (by omega) (by omega), u64_id (x := A + B + carry) (by omega) (by omega), tmod_pos (by omega), tdiv_pos (by omega), u64_id (x := (A + B + carry) / 65536) (by omega) (by omega), w64_succ (by omega)]
  · refine ⟨out, ?_, hout, ?_, by omega, by rw [hlen]; exact hM3⟩
    · refine Ev.step (f := fun k => regimenref02_Plus.j1 k a b out carry (i : Int) false) ?_ ?_
      · intro k
        simp only [regimenref02_Plus.l0]
        rw [if_neg (by omega), if_neg (by omega), decide_eq_false (by omega)]
      · exact Ev.step (f := fun _ => some out) (fun k => by simp [regimenref02_Plus.j1]) (Ev.now _)
    · have : carry = 0 := by omega
      rw [this, dv_take_all a i (by omega), dv_take_all b i (by omega)] at hv
      omega

theorem plus_t (a b : List Int) (ha : dok a) (hb : dok b) (M : Nat) (hla : a.length ≤ M) (hlb : b.length ≤ M) (hM : M < 4294967296) :
    ∃ r, Ev (fun k => regimenref02_Plus.f k a b) r ∧ dok r ∧ dv r = dv a + dv b ∧ r.length ≤ M + 1 ∧ (M < r.length → 65536 ^ M ≤ dv r) := by
  have := plus_loop a b ha hb M hla hlb hM (M + 2) 0 [] 0 (by omega) rfl (by omega) dok_nil (by omega) (by omega) (by omega) (by omega) (by simp [dv])
  exact this
theorem plus_ok (a b : List Int) (ha : dok a) (hb : dok b) (M : Nat) (hla : a.length ≤ M) (hlb : b.length ≤ M) (hM : M < 4294967296) :
    ∃ r, Ev (fun k => regimenref02_Plus.f k a b) r ∧ dok r ∧ dv r = dv a + dv b ∧ r.length ≤ M + 1 := by
  obtain ⟨r, h1, h2, h3, h4, _⟩ := plus_t a b ha hb M hla hlb hM
  exact ⟨r, h1, h2, h3, h4⟩
/-- A number of one digit, or whose highest digit is not 0. -/
def tg (l : List Int) : Prop := l.length ≤ 1 ∨ 65536 ^ (l.length - 1) ≤ dv l
theorem p16_mono {m n : Nat} (h : m ≤ n) : (65536 : Int) ^ m ≤ 65536 ^ n := by
  obtain ⟨d, rfl⟩ := Nat.exists_eq_add_of_le h
  rw [Int.pow_add]
  have h1 := pow_pos' m
  have h2 := pow_pos' d
  have := Int.mul_le_mul_of_nonneg_left (show (1 : Int) ≤ 65536 ^ d from h2) (Int.le_of_lt h1)
  omega
theorem tg_plus (a b : List Int) (ha : dok a) (hb : dok b) (ta : tg a) (tb : tg b) (hla : a.length < 4000000000) (hlb : b.length < 4000000000) (N : Nat) (hN1 : a.length ≤ N) (hN2 : b.length ≤ N) :
    ∃ r, Ev (fun k => regimenref02_Plus.f k a b) r ∧ dok r ∧ dv r = dv a + dv b ∧ r.length ≤ N + 1 ∧ tg r := by
  obtain ⟨r, h1, h2, h3, h4, h5⟩ := plus_t a b ha hb (max a.length b.length) (by omega) (by omega) (by omega)
  refine ⟨r, h1, h2, h3, by omega, ?_⟩
  have na := dv_nonneg ha
  have nb := dv_nonneg hb
  by_cases c : max a.length b.length < r.length
  · right
    have := h5 c
    rwa [show r.length - 1 = max a.length b.length from by omega]
  · by_cases c1 : r.length ≤ 1
    · exact .inl c1
    · right
      by_cases c2 : a.length ≤ b.length
      · rcases tb with t | t
        · omega
        · have := p16_mono (m := r.length - 1) (n := b.length - 1) (by omega)
          omega
      · rcases ta with t | t
        · omega
        · have := p16_mono (m := r.length - 1) (n := a.length - 1) (by omega)
          omega
theorem tg_len {l : List Int} (h : tg l) {n : Nat} (hv : dv l < 65536 ^ n) : l.length ≤ n + 1 := by
  rcases h with h | h
  · omega
  · rcases Nat.lt_or_ge n (l.length - 1) with c | c
    · have := p16_mono (m := n) (n := l.length - 1) (by omega)
      omega
    · omega

/-! ### the difference -/
theorem less_step {c d p q P x y n m r : Int} (h : c - P * d = p - q) (hn : n = 65536 + x - y - d) (hm : n = 65536 * r + m) : c + P * m - P * 65536 * (1 - r) = p + P * x - (q + P * y) := by
  have e : P * n = P * (65536 * r) + P * m := by rw [hm, Int.mul_add]
  have e2 : P * n = P * 65536 + P * x - P * y - P * d := by rw [hn, Int.mul_sub, Int.mul_sub, Int.mul_add]
  rw [Int.mul_sub, Int.mul_assoc, Int.mul_assoc]
  omega

theorem less_loop (a b : List Int) (ha : dok a) (hb : dok b) (hla : a.length < 4294967296) (d : Nat) :
    ∀ (i : Nat) (out : List Int) (bor : Int), a.length - i = d → out.length = i → i ≤ a.length → dok out → 0 ≤ bor → bor ≤ 1 →
      dv out - 65536 ^ i * bor = dv (a.take i) - dv (b.take i) →
      ∃ r c, Ev (fun k => regimenref02_Less.l0 k a b out bor (i : Int)) r ∧ dok r ∧ 0 ≤ c ∧ c ≤ 1 ∧ dv r - 65536 ^ a.length * c = dv a - dv (b.take a.length) ∧ r.length = a.length := by
  induction d with
  | zero =>
    intro i out bor hd hlen hi hout h0 h1 hv
    have : i = a.length := by omega
    subst this
    refine ⟨out, bor, ?_, hout, h0, h1, ?_, hlen⟩
    · refine Ev.step (f := fun _ => some out) (fun k => ?_) (Ev.now _)
      simp only [regimenref02_Less.l0]
      rw [if_neg (by omega)]
    · rw [dv_take_all a a.length (Nat.le_refl _)] at hv
      exact hv
  | succ d ih =>
    intro i out bor hd hlen hi hout h0 h1 hv
    have h2 := dok_getD ha i
    have h3 := dok_getD hb i
    generalize hA : a.getD i 0 = A at h2
    generalize hB : b.getD i 0 = B at h3
    obtain ⟨r, c, hr, p⟩ := ih (i + 1) (out ++ [(65536 + A - B - bor) % 65536]) (1 - (65536 + A - B - bor) / 65536) (by omega) (by simp [hlen]) (by omega) (dok_snoc hout (by omega)) (by omega) (by omega) (by
        rw [dv_snoc, hlen, dv_take_succ, dv_take_succ, Int.pow_succ, hA, hB]
        exact less_step hv rfl (by omega))
    refine ⟨r, c, ?_, p⟩
    refine Ev.step (f := fun k => regimenref02_Less.l0 k a b (out ++ [(65536 + A - B - bor) % 65536]) (1 - (65536 + A - B - bor) / 65536) ((i + 1 : Nat) : Int)) ?_ hr
    intro k
    simp only [regimenref02_Less.l0]
    rw [if_pos (by omega), if_pos (by omega), digit_at]
    simp only [Option.bind_some, rd_nat, hA, hB]
    rw [if_pos (by omega), u64_id (x := 65536 + A) (by omega) (by omega), u64_id (x := 65536 + A - B) (by omega) (by omega), u64_id (x := 65536 + A - B - bor) (by omega) (by omega), tmod_pos (by omega), tdiv_pos (by omega), u64_id (x := (65536 + A - B - bor) / 65536) (by omega) (by omega), u64_id (x := 1 - (65536 + A - B - bor) / 65536) (by omega) (by omega), w64_succ (by omega)]

theorem less_ok (a b : List Int) (ha : dok a) (hb : dok b) (hla : a.length < 4294967296) (hle : dv b ≤ dv a) :
    ∃ r, Ev (fun k => regimenref02_Less.f k a b) r ∧ dok r ∧ dv r = dv a - dv b ∧ r.length = a.length := by
  obtain ⟨r, c, hr, dr, c0, c1, hv, hl⟩ := less_loop a b ha hb hla a.length 0 [] 0 (by omega) rfl (by omega) dok_nil (by omega) (by omega) (by simp [dv])
  refine ⟨r, hr, dr, ?_, hl⟩
  have hb2 : dv (b.take a.length) = dv b := by
    by_cases hl2 : b.length ≤ a.length
    · exact dv_take_all b _ hl2
    · have h1 := dv_split b a.length (by omega)
      have h2 := dv_lt ha
      have h3 := dv_take_lt hb a.length
      have h4 : 0 ≤ dv (b.drop a.length) := dv_nonneg (fun y hy => hb y (List.mem_of_mem_drop hy))
      have h5 : dv (b.drop a.length) = 0 := by
        by_cases h6 : 1 ≤ dv (b.drop a.length)
        · have := Int.mul_le_mul_of_nonneg_left h6 (Int.le_of_lt (pow_pos' a.length))
          omega
        · omega
      rw [h5] at h1
      omega
  have h7 := dv_lt dr
  have h8 := dv_lt ha
  have h9 := dv_nonneg hb
  have hc : c = 0 := by
    by_cases h : c = 1
    · rw [hl] at h7
      rw [h, hb2] at hv
      omega
    · omega
  rw [hc, hb2] at hv
  omega

/-! ### how numbers compare -/
theorem cmp_loop (a b : List Int) (ha : dok a) (hb : dok b) (d : Nat) : ∀ (i : Int), i + 1 = d → i < 4294967296 → dv a - dv b = dv (a.take d) - dv (b.take d) →
    Ev (fun k => regimenref02_Cmp.l0 k a b i) (if dv a < dv b then -1 else if dv a > dv b then 1 else 0) := by
  induction d with
  | zero =>
    intro i hi _ hv
    have : dv a = dv b := by simp [dv] at hv; omega
    rw [if_neg (by omega), if_neg (by omega)]
    refine Ev.step (f := fun _ => some 0) (fun k => ?_) (Ev.now _)
    simp only [regimenref02_Cmp.l0]
    rw [if_neg (by omega)]
  | succ d ih =>
    intro i hi hi2 hv
    have hid : i = (d : Int) := by omega
    subst hid
    have h1 := dok_getD ha d
    have h2 := dok_getD hb d
    have h3 := dv_take_lt ha d
    have h4 := dv_take_lt hb d
    rw [dv_take_succ, dv_take_succ] at hv
    generalize hA : a.getD d 0 = A at h1 hv
    generalize hB : b.getD d 0 = B at h2 hv
    by_cases c1 : A < B
    · have : 65536 ^ d * (A + 1) ≤ 65536 ^ d * B := Int.mul_le_mul_of_nonneg_left (by omega) (Int.le_of_lt (pow_pos' d))
      rw [Int.mul_add] at this
      rw [if_pos (by omega)]
      refine Ev.step (f := fun _ => some (-1)) (fun k => ?_) (Ev.now _)
      simp only [regimenref02_Cmp.l0]
      rw [if_pos (by omega), digit_at, digit_at]
      simp only [Option.bind_some, hA, hB]
      rw [if_pos c1]
    · by_cases c2 : A > B
      · have : 65536 ^ d * (B + 1) ≤ 65536 ^ d * A := Int.mul_le_mul_of_nonneg_left (by omega) (Int.le_of_lt (pow_pos' d))
        rw [Int.mul_add] at this
        rw [if_neg (by omega), if_pos (by omega)]
        refine Ev.step (f := fun _ => some 1) (fun k => ?_) (Ev.now _)
        simp only [regimenref02_Cmp.l0]
        rw [if_pos (by omega), digit_at, digit_at]
        simp only [Option.bind_some, hA, hB]
        rw [if_neg c1, if_pos c2]
      · have hAB : A = B := by omega
        subst hAB
        refine Ev.step (f := fun k => regimenref02_Cmp.l0 k a b ((d : Int) - 1)) (fun k => ?_) (ih ((d : Int) - 1) (by omega) (by omega) (by omega))
        simp only [regimenref02_Cmp.l0]
        rw [if_pos (by omega), digit_at, digit_at]
        simp only [Option.bind_some, hA, hB]
        rw [if_neg c1, if_neg c2, w64_id (by omega) (by omega)]

theorem cmp_ok (a b : List Int) (ha : dok a) (hb : dok b) (hla : a.length < 4294967296) (hlb : b.length < 4294967296) :
    Ev (fun k => regimenref02_Cmp.f k a b) (if dv a < dv b then -1 else if dv a > dv b then 1 else 0) := by
  have key : ∀ n : Nat, a.length ≤ n → b.length ≤ n → n < 4294967296 → Ev (fun k => regimenref02_Cmp.j0 k a b (n : Int)) (if dv a < dv b then -1 else if dv a > dv b then 1 else 0) := by
    intro n h1 h2 h3
    refine Ev.step (f := fun k => regimenref02_Cmp.l0 k a b ((n : Int) - 1)) (fun k => ?_) (cmp_loop a b ha hb n _ (by omega) (by omega) ?_)
    · simp only [regimenref02_Cmp.j0]
      rw [w64_id (by omega) (by omega)]
    · rw [dv_take_all a n h1, dv_take_all b n h2]
  by_cases h : (b.length : Int) > (a.length : Int)
  · exact Ev.congr (fun k => by unfold regimenref02_Cmp.f; rw [if_pos h]) (key b.length (by omega) (Nat.le_refl _) hlb)
  · exact Ev.congr (fun k => by unfold regimenref02_Cmp.f; rw [if_neg h]) (key a.length (Nat.le_refl _) (by omega) hla)

/-! ### the product -/
theorem times_step {P Q X A B V c o n m r : Int} (h : X + c * (P * Q) = V + P * A * B) (bk : Int) (hn : n = o + A * bk + c) (hm : n = 65536 * r + m) :
    X + P * Q * (m - o) + r * (P * (Q * 65536)) = V + P * A * (B + Q * bk) := by
  have e1 : P * Q * n = P * Q * (65536 * r) + P * Q * m := by rw [hm, Int.mul_add]
  have e2 : P * Q * n = P * Q * o + P * Q * (A * bk) + P * Q * c := by rw [hn, Int.mul_add, Int.mul_add]
  have e3 : P * A * (Q * bk) = P * Q * (A * bk) := by rw [Int.mul_assoc, Int.mul_assoc, Int.mul_left_comm A Q bk]
  have e4 : r * (P * (Q * 65536)) = P * Q * (65536 * r) := by rw [Int.mul_comm r, Int.mul_assoc, Int.mul_assoc, Int.mul_assoc]
  rw [Int.mul_sub, Int.mul_add, e3, e4]
  rw [Int.mul_comm c] at h
  omega

theorem times_in (a b : List Int) (ha : dok a) (hb : dok b) (hla : a.length < 4294967296) (hlb : b.length < 4294967296) (i : Nat) (hi : i < a.length) (Q : List Int → Prop)
    (H : ∀ out : List Int, dok out → out.length = a.length + b.length → dv out = dv (a.take (i + 1)) * dv b → (∀ j, i + 1 + b.length ≤ j → out.getD j 0 = 0) → ∃ r, Ev (fun k => regimenref02_Times.l0 k a b out ((i + 1 : Nat) : Int)) r ∧ Q r) (d : Nat) :
    ∀ (j : Nat) (out : List Int) (c : Int), b.length - j = d → j ≤ b.length → dok out → out.length = a.length + b.length → 0 ≤ c → c < 65536 → (∀ q, i + b.length ≤ q → out.getD q 0 = 0) →
      dv out + c * 65536 ^ (i + j) = dv (a.take i) * dv b + 65536 ^ i * a.getD i 0 * dv (b.take j) →
      ∃ r, Ev (fun k => regimenref02_Times.l1 k a b out (i : Int) c (j : Int)) r ∧ Q r := by
  have h1 := dok_getD ha i
  generalize hA : a.getD i 0 = A at h1
  induction d with
  | zero =>
    intro j out c hd hj hout hlen hc0 hc1 hz hv
    obtain rfl : j = b.length := by omega
    have hzz := hz (i + b.length) (Nat.le_refl _)
    obtain ⟨r, hr, hq⟩ := H (out.set (i + b.length) c) (dok_set hout _ ⟨hc0, hc1⟩) (by rw [List.length_set]; exact hlen) (by
        rw [dv_set _ _ _ (by omega), hzz, dv_take_succ, hA, Int.sub_zero, Int.mul_comm _ c, hv, dv_take_all b _ (Nat.le_refl _), Int.add_mul]) (by
        intro q hq
        rw [List.getD_eq_getElem?_getD, List.getElem?_set_ne (by omega), ← List.getD_eq_getElem?_getD]
        exact hz q (by omega))
    refine ⟨r, ?_, hq⟩
    refine Ev.step (f := fun k => regimenref02_Times.l0 k a b (out.set (i + b.length) c) ((i + 1 : Nat) : Int)) ?_ hr
    intro k
    simp only [regimenref02_Times.l1]
    rw [if_neg (by omega), w64_add (by omega) (by omega), if_pos (by omega), if_pos (by omega), w64_succ (by omega), rd_nat, hzz, Int.zero_add, u64_id hc0 (by omega), Int.toNat_natCast]
  | succ d ih =>
    intro j out c hd hj hout hlen hc0 hc1 hz hv
    have h2 := dok_getD hb j
    have h3 := dok_getD hout (i + j)
    generalize hB : b.getD j 0 = B at h2
    generalize hO : out.getD (i + j) 0 = O at h3
    have hm := mul_bd (M := 65535) (N := 65535) h1.1 (by omega) h2.1 (by omega)
    obtain ⟨r, hr, hq⟩ := ih (j + 1) (out.set (i + j) ((O + A * B + c) % 65536)) ((O + A * B + c) / 65536) (by omega) (by omega) (dok_set hout _ (by omega)) (by rw [List.length_set]; exact hlen) (by omega) (by omega) (by
        intro q hq
        rw [List.getD_eq_getElem?_getD, List.getElem?_set_ne (by omega), ← List.getD_eq_getElem?_getD]
        exact hz q hq) (by
        rw [dv_set _ _ _ (by omega), hO, dv_take_succ, hB, Int.pow_add, show i + (j + 1) = i + j + 1 from rfl, Int.pow_succ, Int.pow_add, Int.mul_assoc (65536 ^ i) (65536 ^ j) 65536]
        rw [Int.pow_add] at hv
        exact times_step hv B rfl (by omega))
    refine ⟨r, ?_, hq⟩
    refine Ev.step (f := fun k => regimenref02_Times.l1 k a b (out.set (i + j) ((O + A * B + c) % 65536)) (i : Int) ((O + A * B + c) / 65536) ((j + 1 : Nat) : Int)) ?_ hr
    intro k
    simp only [regimenref02_Times.l1]
    rw [if_pos (by omega), w64_add (by omega) (by omega), if_pos (by omega), if_pos (by omega), if_pos (by omega), if_pos (by omega), if_pos (by omega), rd_nat, rd_nat, rd_nat, hA, hB, hO, u64_id (x := A * B) (by omega) (by omega), u64_id (x := O + A * B) (by omega) (by omega), u64_id (x := O + A * B + c) (by omega) (by omega), tmod_pos (by omega), tdiv_pos (by omega), u64_id (x := (O + A * B + c) / 65536) (by omega) (by omega), w64_succ (by omega), Int.toNat_natCast]

theorem times_loop (a b : List Int) (ha : dok a) (hb : dok b) (hla : a.length < 4294967296) (hlb : b.length < 4294967296) (d : Nat) :
    ∀ (i : Nat) (out : List Int), a.length - i = d → i ≤ a.length → dok out → out.length = a.length + b.length → dv out = dv (a.take i) * dv b → (∀ j, i + b.length ≤ j → out.getD j 0 = 0) →
      ∃ r, Ev (fun k => regimenref02_Times.l0 k a b out (i : Int)) r ∧ dok r ∧ dv r = dv a * dv b ∧ r.length = a.length + b.length := by
  induction d with
  | zero =>
    intro i out hd hi hout hlen hv hz
    refine ⟨out, ?_, hout, ?_, hlen⟩
    · refine Ev.step (f := fun _ => some out) (fun k => ?_) (Ev.now _)
      simp only [regimenref02_Times.l0]
      rw [if_neg (by omega)]
    · rw [hv, dv_take_all a i (by omega)]
  | succ d ih =>
    intro i out hd hi hout hlen hv hz
    obtain ⟨r, hr, hq⟩ := times_in a b ha hb hla hlb i (by omega) (fun r => dok r ∧ dv r = dv a * dv b ∧ r.length = a.length + b.length)
      (fun out' g1 g2 g3 g4 => ih (i + 1) out' (by omega) (by omega) g1 g2 g3 g4) b.length 0 out 0 (by omega) (by omega) hout hlen (by omega) (by omega) hz (by simp [dv, hv])
    refine ⟨r, ?_, hq⟩
    refine Ev.step (f := fun k => regimenref02_Times.l1 k a b out (i : Int) 0 0) (fun k => ?_) hr
    simp only [regimenref02_Times.l0]
    rw [if_pos (by omega)]

theorem times_ok (a b : List Int) (ha : dok a) (hb : dok b) (hla : a.length < 4294967296) (hlb : b.length < 4294967296) :
    ∃ r, Ev (fun k => regimenref02_Times.f k a b) r ∧ dok r ∧ dv r = dv a * dv b ∧ r.length = a.length + b.length := by
  obtain ⟨r, hr, h⟩ := times_loop a b ha hb hla hlb a.length 0 (List.replicate (a.length + b.length) 0) (by omega) (by omega) (dok_rep _) (by simp) (by simp [dv_rep, dv]) (fun j _ => by
    rw [List.getD_eq_getElem?_getD, List.getElem?_replicate]
    split <;> rfl)
  refine ⟨r, ?_, h⟩
  refine Ev.congr (fun k => ?_) hr
  unfold regimenref02_Times.f
  rw [w64_add (by omega) (by omega), if_pos (by omega), Int.toNat_natCast, if_pos (by omega)]
  rfl

/-! ### powers of two -/
theorem twos_loop (n : Int) (hn : n ≤ 1048576) (d : Nat) : ∀ (i : Nat) (out : List Int), (n - i).toNat = d → (i = 0 ∨ (i : Int) ≤ n) → dok out → dv out = 2 ^ i → out.length ≤ i + 1 →
    ∃ r, Ev (fun k => regimenref02_Twos.l0 k n out (i : Int)) r ∧ dok r ∧ dv r = 2 ^ n.toNat ∧ r.length ≤ n.toNat + 1 := by
  induction d with
  | zero =>
    intro i out hd hi hout hv hl
    have e : i = n.toNat := by omega
    refine ⟨out, ?_, hout, by rw [hv, e], by omega⟩
    refine Ev.step (f := fun _ => some out) (fun k => ?_) (Ev.now _)
    simp only [regimenref02_Twos.l0]
    rw [if_neg (by omega)]
  | succ d ih =>
    intro i out hd hi hout hv hl
    obtain ⟨s, hs, ds, vs, ls⟩ := plus_ok out out hout hout (i + 1) hl hl (by omega)
    obtain ⟨r, hr, p⟩ := ih (i + 1) s (by omega) (by omega) ds (by rw [vs, hv, Int.pow_succ]; omega) (by omega)
    refine ⟨r, ?_, p⟩
    refine Ev.step (f := fun k => (regimenref02_Plus.f k out out).bind fun t => regimenref02_Twos.l0 k n t ((i + 1 : Nat) : Int)) (fun k => ?_) (Ev.bind hs hr)
    simp only [regimenref02_Twos.l0]
    rw [if_pos (by omega), w64_succ (by omega)]
theorem twos_ok (n : Int) (hn : n ≤ 1048576) : ∃ r, Ev (fun k => regimenref02_Twos.f k n) r ∧ dok r ∧ dv r = 2 ^ n.toNat ∧ r.length ≤ n.toNat + 1 := by
  obtain ⟨r, hr, h⟩ := twos_loop n hn (n - (0 : Nat)).toNat 0 [1] rfl (.inl rfl) (dok_cons (by omega) dok_nil) (by simp [dv]) (by simp)
  exact ⟨r, hr, h⟩

/-! ### the lowest 128 bits -/
theorem mod_ok (l : List Int) (hl : dok l) : Ev (fun k => regimenref02_Mod.f k l) (dv l / 18446744073709551616 % 18446744073709551616, dv l % 18446744073709551616) := by
  have d0 := dok_getD hl 0
  have d1 := dok_getD hl 1
  have d2 := dok_getD hl 2
  have d3 := dok_getD hl 3
  have d4 := dok_getD hl 4
  have d5 := dok_getD hl 5
  have d6 := dok_getD hl 6
  have d7 := dok_getD hl 7
  have hq : ∃ q, dv l = dv (l.take 8) + 340282366920938463463374607431768211456 * q := by
    by_cases h : 8 ≤ l.length
    · exact ⟨_, dv_split l 8 h⟩
    · exact ⟨0, by rw [dv_take_all l 8 (by omega)]; simp⟩
  obtain ⟨q, hq⟩ := hq
  have hv : dv (l.take 8) = _ := dv_take_succ l 7
  rw [dv_take_succ l 6, dv_take_succ l 5, dv_take_succ l 4, dv_take_succ l 3, dv_take_succ l 2, dv_take_succ l 1, dv_take_succ l 0] at hv
  simp only [List.take_zero, dv, Int.reducePow] at hv
  have e : ∀ i : Nat, regimenref02_digit.f l (i : Int) = some (l.getD i 0) := digit_at l
  have e7 := e 7
  have e6 := e 6
  have e5 := e 5
  have e4 := e 4
  have e3 := e 3
  have e2 := e 2
  have e1 := e 1
  have e0 := e 0
  generalize l.getD 0 0 = x0 at *
  generalize l.getD 1 0 = x1 at *
  generalize l.getD 2 0 = x2 at *
  generalize l.getD 3 0 = x3 at *
  generalize l.getD 4 0 = x4 at *
  generalize l.getD 5 0 = x5 at *
  generalize l.getD 6 0 = x6 at *
  generalize l.getD 7 0 = x7 at *
  have hstep : ∀ (i : Int) (P Q x : Int), i ≥ 4 → i < 100 → regimenref02_digit.f l i = some x → 0 ≤ P → P < 281474976710656 → 0 ≤ x → x < 65536 → ∀ r, Ev (fun k => regimenref02_Mod.l0 k l (i - 1) (P * 65536 + x) Q) r → Ev (fun k => regimenref02_Mod.l0 k l i P Q) r := by
    intro i P Q x h1 h2 hx p0 p1 x0 x1 r h
    refine Ev.step (f := fun k => regimenref02_Mod.l0 k l (i - 1) (P * 65536 + x) Q) (fun k => ?_) h
    simp only [regimenref02_Mod.l0]
    rw [if_pos (by omega), if_pos h1, hx]
    simp only [Option.bind_some]
    rw [w64_id (by omega) (by omega), u64_id (x := P * 65536) (by omega) (by omega), u64_id (by omega) (by omega)]
  have lstep : ∀ (i : Int) (P Q x : Int), i ≥ 0 → i < 4 → regimenref02_digit.f l i = some x → 0 ≤ Q → Q < 281474976710656 → 0 ≤ x → x < 65536 → ∀ r, Ev (fun k => regimenref02_Mod.l0 k l (i - 1) P (Q * 65536 + x)) r → Ev (fun k => regimenref02_Mod.l0 k l i P Q) r := by
    intro i P Q x h1 h2 hx p0 p1 x0 x1 r h
    refine Ev.step (f := fun k => regimenref02_Mod.l0 k l (i - 1) P (Q * 65536 + x)) (fun k => ?_) h
    simp only [regimenref02_Mod.l0]
    rw [if_pos h1, if_neg (by omega), hx]
    simp only [Option.bind_some]
    rw [w64_id (by omega) (by omega), u64_id (x := Q * 65536) (by omega) (by omega), u64_id (by omega) (by omega)]
  unfold regimenref02_Mod.f
  refine hstep 7 _ _ x7 (by omega) (by omega) e7 (by omega) (by omega) (by omega) (by omega) _ ?_
  refine hstep 6 _ _ x6 (by omega) (by omega) e6 (by omega) (by omega) (by omega) (by omega) _ ?_
  refine hstep 5 _ _ x5 (by omega) (by omega) e5 (by omega) (by omega) (by omega) (by omega) _ ?_
  refine hstep 4 _ _ x4 (by omega) (by omega) e4 (by omega) (by omega) (by omega) (by omega) _ ?_
  refine lstep 3 _ _ x3 (by omega) (by omega) e3 (by omega) (by omega) (by omega) (by omega) _ ?_
  refine lstep 2 _ _ x2 (by omega) (by omega) e2 (by omega) (by omega) (by omega) (by omega) _ ?_
  refine lstep 1 _ _ x1 (by omega) (by omega) e1 (by omega) (by omega) (by omega) (by omega) _ ?_
  refine lstep 0 _ _ x0 (by omega) (by omega) e0 (by omega) (by omega) (by omega) (by omega) _ ?_
  refine Ev.step (f := fun _ => some _) (fun k => ?_) (Ev.now _)
  simp only [regimenref02_Mod.l0]
  rw [if_neg (by omega)]
  congr 1
  rw [Prod.mk.injEq]
  constructor <;> omega
end Go.Proofs.Ytcgdhpnobgimfaa.Num
end
section
namespace Go.Proofs.Ytcgdhpnobgimfaa.Num
set_option linter.unusedVariables false
set_option linter.unusedSimpArgs false
open Go.RowKit Go.Proofs.Ytcgdhpnobgimfaa.PT Go.Proofs.YtcgdhpnobgimfaaW.PrintWords Go.Proofs.YtcgdhpnobgimfaaW.PrintMore

theorem wraps_u64 (n : Int) (h₀ : 0 ≤ n) (h₁ : n < 2 ^ 64) : IntKind.u64.wrap n = n := u64_id h₀ (by simpa using h₁)
theorem u64_lo32 {x : Int} (h0 : 0 ≤ x) (h1 : x < 18446744073709551616) : Go.bits .and .u64 x 4294967295 = x % 4294967296 := by
  have := bits_mask .u64 64 (by decide) wraps_u64 32 (by decide) x h0 (by simpa using h1)
  simpa using this
theorem u64_join (i : Nat) {x y : Int} (h0 : 0 ≤ x) (h : x % 2 ^ i = 0) (h1 : x < 18446744073709551616) (h2 : 0 ≤ y) (h3 : y < 2 ^ i) (h4 : y < 18446744073709551616) : Go.bits .or .u64 x y = x + y :=
  bits_join .u64 64 (by decide) wraps_u64 i x y h0 h (by simpa using h1) h2 h3 (by simpa using h4)

theorem pair_mul_ok {x y : Int} (hx0 : 0 ≤ x) (hx : x < 18446744073709551616) (hy0 : 0 ≤ y) (hy : y < 18446744073709551616) :
    pair_Mul.f x y = some (x * y / 18446744073709551616, x * y % 18446744073709551616) := by
  unfold pair_Mul.f
  rw [u64_lo32 hx0 hx, u64_lo32 hy0 hy]
  have ha : 0 ≤ x / 4294967296 ∧ x / 4294967296 ≤ 4294967295 := by omega
  have hb : 0 ≤ x % 4294967296 ∧ x % 4294967296 ≤ 4294967295 := by omega
  have hc : 0 ≤ y / 4294967296 ∧ y / 4294967296 ≤ 4294967295 := by omega
  have hd : 0 ≤ y % 4294967296 ∧ y % 4294967296 ≤ 4294967295 := by omega
  have e : x * y = (x / 4294967296) * (y / 4294967296) * 18446744073709551616 + ((x / 4294967296) * (y % 4294967296) + (x % 4294967296) * (y / 4294967296)) * 4294967296 + (x % 4294967296) * (y % 4294967296) := by
    have e1 : x = (x / 4294967296) * 4294967296 + x % 4294967296 := by omega
    have e2 : y = (y / 4294967296) * 4294967296 + y % 4294967296 := by omega
    generalize x / 4294967296 = a at *
    generalize x % 4294967296 = b at *
    generalize y / 4294967296 = c at *
    generalize y % 4294967296 = d at *
    rw [e1, e2, Int.mul_add, Int.add_mul, Int.add_mul, Int.add_mul]
    have f1 : a * 4294967296 * (c * 4294967296) = a * c * 18446744073709551616 := by
      rw [Int.mul_assoc a, Int.mul_left_comm 4294967296 c, ← Int.mul_assoc a c]
      simp only [Int.reduceMul]
    have f2 : b * (c * 4294967296) = b * c * 4294967296 := by rw [Int.mul_assoc]
    have f3 : a * 4294967296 * d = a * d * 4294967296 := by rw [Int.mul_assoc a, Int.mul_comm 4294967296 d, ← Int.mul_assoc]
    omega
  have p1 := mul_bd ha.1 ha.2 hc.1 hc.2
  have p2 := mul_bd ha.1 ha.2 hd.1 hd.2
  have p3 := mul_bd hb.1 hb.2 hc.1 hc.2
  have p4 := mul_bd hb.1 hb.2 hd.1 hd.2
  rw [e]
  clear e
  generalize (x / 4294967296) * (y / 4294967296) = P at *
  generalize (x / 4294967296) * (y % 4294967296) = Q at *
  generalize (x % 4294967296) * (y / 4294967296) = R at *
  generalize (x % 4294967296) * (y % 4294967296) = S at *
  clear ha hb hc hd
  rw [u64_id (x := P) (by omega) (by omega), u64_id (x := Q) (by omega) (by omega), u64_id (x := R) (by omega) (by omega), u64_id (x := S) (by omega) (by omega)]
  rw [u64_lo32 (x := Q) (by omega) (by omega), u64_lo32 (x := R) (by omega) (by omega), u64_lo32 (x := S) (by omega) (by omega)]
  rw [u64_id (x := S / 4294967296 + Q % 4294967296) (by omega) (by omega), u64_id (x := S / 4294967296 + Q % 4294967296 + R % 4294967296) (by omega) (by omega)]
  rw [u64_id (x := P + Q / 4294967296) (by omega) (by omega), u64_id (x := P + Q / 4294967296 + R / 4294967296) (by omega) (by omega)]
  rw [u64_mod ((S / 4294967296 + Q % 4294967296 + R % 4294967296) * 4294967296), u64_id (by omega) (by omega)]
  rw [u64_join 32 (by omega) (by omega) (by omega) (by omega) (by omega) (by omega)]
  rw [Option.some.injEq, Prod.mk.injEq]
  constructor <;> omega

end Go.Proofs.Ytcgdhpnobgimfaa.Num
end
section
namespace Go.Proofs.Ytcgdhpnobgimfaa.Num
set_option linter.unusedVariables false
set_option linter.unusedSimpArgs false
open Go.RowKit Go.Proofs.Ytcgdhpnobgimfaa.PT Go.Proofs.YtcgdhpnobgimfaaW.PrintWords Go.Proofs.YtcgdhpnobgimfaaW.PrintMore
attribute [local irreducible] shl shr

/-- How far a shift goes. -/
def held (n : Int) : Nat := min n.toNat 128
theorem held_le (n : Int) : held n ≤ 128 := Nat.min_le_right _ _
theorem pair_held_ok (n : Int) : pair_held.f n = some (held n : Int) := by
  unfold pair_held.f held mn mx
  congr 1
  by_cases h : n < 0
  · rw [if_pos h]; split <;> omega
  · rw [if_neg h]; split <;> omega

theorem p2_pos (k : Nat) : (0 : Int) < 2 ^ k := Int.pow_pos (by decide)
theorem p2_pred {m : Nat} (h : 1 ≤ m) : (2 : Int) ^ m = 2 ^ (m - 1) * 2 := by
  obtain ⟨j, rfl⟩ : ∃ j, m = j + 1 := ⟨m - 1, by omega⟩
  exact Int.pow_succ _ _
theorem p2_split (k : Nat) (h : k ≤ 64) : (2 : Int) ^ k * 2 ^ (64 - k) = 18446744073709551616 := by
  rw [← Int.pow_add, show k + (64 - k) = 64 by omega]
  rfl
theorem shl64 {x : Int} {k : Nat} (h : k ≤ 64) : shl .u64 x (k : Int) = (x * 2 ^ k) % 18446744073709551616 := by
  unfold shl
  rw [u64_mod, Int.toNat_natCast, show IntKind.u64.bits = 64 from rfl, Nat.min_eq_left h]
theorem shr64 {x : Int} {k : Nat} (h : k ≤ 64) : shr .u64 x (k : Int) = x / 2 ^ k := by
  unfold shr
  rw [Int.toNat_natCast, show IntKind.u64.bits = 64 from rfl, Nat.min_eq_left h]

theorem u64_or_comm {x y : Int} (h0 : 0 ≤ x) (h1 : x < 18446744073709551616) (h2 : 0 ≤ y) (h3 : y < 18446744073709551616) : Go.bits .or .u64 x y = Go.bits .or .u64 y x := by
  rw [u64_or x y h0 h1 h2 h3, u64_or y x h2 h3 h0 h1, Nat.or_comm]
/-- A number cut into what lies above k bits, and what is left. -/
theorem cut_ex (a P : Int) (h : 0 < P) : a = P * (a / P) + a % P ∧ 0 ≤ a % P ∧ a % P < P :=
  ⟨(Int.mul_ediv_add_emod a P).symm, Int.emod_nonneg a (by omega), Int.emod_lt_of_pos a h⟩
theorem div_uniq {a P q r : Int} (h : a = P * q + r) (h0 : 0 ≤ r) (h1 : r < P) : a / P = q ∧ a % P = r := by
  have hP : 0 < P := by omega
  subst h
  constructor
  · rw [Int.add_comm, Int.add_mul_ediv_left _ _ (by omega), Int.ediv_eq_zero_of_lt h0 h1]; omega
  · rw [Int.add_comm, Int.add_mul_emod_self_left, Int.emod_eq_of_lt h0 h1]

theorem shr_parts {P Q a0 a1 s t u r : Int} (hPQ : P * Q = 18446744073709551616) (hP : 0 < P) (hQ : 0 < Q) (e0 : a0 = P * s + t) (t0 : 0 ≤ t) (t1 : t < P) (e1 : a1 = P * u + r) (r0 : 0 ≤ r) (r1 : r < P) (u0 : 0 ≤ u) (u1 : u < Q) :
    (a1 + 18446744073709551616 * a0) / P = 18446744073709551616 * s + (t * Q + u) ∧ 0 ≤ t * Q + u ∧ t * Q + u < 18446744073709551616 := by
  have h1 : t * Q + u < P * Q := by
    have : (t + 1) * Q ≤ P * Q := Int.mul_le_mul_of_nonneg_right (by omega) (by omega)
    rw [Int.add_mul, Int.one_mul] at this
    omega
  have h2 : 0 ≤ t * Q := Int.mul_nonneg t0 (by omega)
  refine ⟨(div_uniq (q := 18446744073709551616 * s + (t * Q + u)) (r := r) ?_ r0 r1).1, by omega, by omega⟩
  rw [← hPQ, e0, e1]
  have f1 : P * (P * Q * s + (t * Q + u)) = P * Q * (P * s) + P * Q * t + P * u := by
    rw [Int.mul_add, Int.mul_add]
    have g1 : P * (P * Q * s) = P * Q * (P * s) := by rw [Int.mul_comm P (P * Q * s), Int.mul_assoc (P * Q) s P, Int.mul_comm s P]
    have g2 : P * (t * Q) = P * Q * t := by rw [Int.mul_comm t Q, Int.mul_assoc]
    omega
  rw [f1, Int.mul_add]
  omega

theorem wrap_nat {k : Nat} (h : k < 1000) : IntKind.u64.wrap (k : Int) = (k : Int) := u64_id (by omega) (by omega)
theorem wrap_sub {k : Nat} (h : k ≤ 64) : IntKind.u64.wrap (64 - (k : Int)) = ((64 - k : Nat) : Int) := by
  rw [u64_id (by omega) (by omega)]; omega
theorem wrap_sub2 {k : Nat} (h : 64 ≤ k) (h2 : k ≤ 128) : IntKind.u64.wrap ((k : Int) - 64) = ((k - 64 : Nat) : Int) := by
  rw [u64_id (by omega) (by omega)]; omega

theorem pair_shr_ok {a0 a1 : Int} (n : Int) (h1 : 0 ≤ a0 ∧ a0 < 18446744073709551616) (h2 : 0 ≤ a1 ∧ a1 < 18446744073709551616) :
    pair_Shr.f a0 a1 n = some ((a1 + 18446744073709551616 * a0) / 2 ^ held n / 18446744073709551616, (a1 + 18446744073709551616 * a0) / 2 ^ held n % 18446744073709551616) := by
  unfold pair_Shr.f
  rw [pair_held_ok]
  have hk := held_le n
  generalize held n = k at *
  simp only [Option.bind_some]
  rw [wrap_nat (by omega)]
  by_cases c : (k : Int) ≥ 64
  · rw [if_pos c, wrap_sub2 (by omega) hk, if_pos (by omega), shr64 (by omega), Option.some.injEq, Prod.mk.injEq]
    have e : (2 : Int) ^ k = 18446744073709551616 * 2 ^ (k - 64) := by
      rw [show k = 64 + (k - 64) by omega, Int.pow_add, show 64 + (k - 64) - 64 = k - 64 by omega]
      rfl
    have e2 : (a1 + 18446744073709551616 * a0) / 18446744073709551616 = a0 := by omega
    have e3 : 0 ≤ a0 / 2 ^ (k - 64) := Int.ediv_nonneg h1.1 (Int.le_of_lt (p2_pos _))
    have e4 : a0 / 2 ^ (k - 64) ≤ a0 := Int.ediv_le_self _ h1.1
    rw [e, ← Int.ediv_ediv_of_nonneg (by omega), e2]
    constructor <;> omega
  · rw [if_neg c, if_pos (by omega), wrap_sub (by omega), if_pos (by omega), shr64 (by omega), shr64 (by omega), shl64 (by omega), Option.some.injEq, Prod.mk.injEq]
    have hP := p2_pos k
    have hQ := p2_pos (64 - k)
    have hPQ := p2_split k (by omega)
    obtain ⟨e0, t0, t1⟩ := cut_ex a0 (2 ^ k) hP
    obtain ⟨e1, r0, r1⟩ := cut_ex a1 (2 ^ k) hP
    have u0 : 0 ≤ a1 / 2 ^ k := Int.ediv_nonneg h2.1 (Int.le_of_lt hP)
    have u1 : a1 / 2 ^ k < 2 ^ (64 - k) := by
      apply Int.ediv_lt_of_lt_mul hP
      rw [Int.mul_comm, hPQ]; exact h2.2
    have hj := fun h1 h2 h3 h4 h5 => u64_join (64 - k) (x := (a0 * 2 ^ (64 - k)) % 18446744073709551616) (y := a1 / 2 ^ k) h1 h2 h3 u0 h4 h5
    generalize hPe : (2 : Int) ^ k = P at *
    generalize hQe : (2 : Int) ^ (64 - k) = Q at *
    obtain ⟨g1, g2, g3⟩ := shr_parts hPQ hP hQ e0 t0 t1 e1 r0 r1 u0 u1
    have e5 : a0 * Q = 18446744073709551616 * (a0 / P) + a0 % P * Q := by
      have : a0 * Q = (P * (a0 / P) + a0 % P) * Q := by rw [← e0]
      rw [this, Int.add_mul, Int.mul_right_comm, hPQ]
    have hx0 : 0 ≤ a0 % P * Q := Int.mul_nonneg t0 (by omega)
    have e6 : (a0 * Q) % 18446744073709551616 = a0 % P * Q := (div_uniq e5 hx0 (by omega)).2
    rw [e6] at hj ⊢
    have hmul : a0 % P * Q % Q = 0 := Int.mul_emod_left _ _
    rw [u64_or_comm u0 (Int.lt_of_le_of_lt (Int.ediv_le_self _ h2.1) h2.2) hx0 (by omega), hj hx0 hmul (by omega) u1 (Int.lt_of_le_of_lt (Int.ediv_le_self _ h2.1) h2.2), g1]
    clear hj e0 e1 e5 e6 g1 hPQ hPe hQe hmul
    generalize a0 % P * Q = Z at *
    generalize a1 / P = U at *
    generalize a0 / P = S at *
    constructor <;> omega

theorem pair_shl_ok {a0 a1 : Int} (n : Int) (h1 : 0 ≤ a0 ∧ a0 < 18446744073709551616) (h2 : 0 ≤ a1 ∧ a1 < 18446744073709551616) :
    pair_Shl.f a0 a1 n = some ((a1 + 18446744073709551616 * a0) * 2 ^ held n / 18446744073709551616 % 18446744073709551616, (a1 + 18446744073709551616 * a0) * 2 ^ held n % 18446744073709551616, decide ((a1 + 18446744073709551616 * a0) * 2 ^ held n < 340282366920938463463374607431768211456)) := by
  have hk := held_le n
  have hP := p2_pos (held n)
  have hback : ∀ hi lo : Int, hi = (a1 + 18446744073709551616 * a0) * 2 ^ held n / 18446744073709551616 % 18446744073709551616 → lo = (a1 + 18446744073709551616 * a0) * 2 ^ held n % 18446744073709551616 →
      (pair_Shr.f hi lo n).bind (fun bt => some (hi, lo, (bt.1 == a0 && (bt.2 == a1)))) = some ((a1 + 18446744073709551616 * a0) * 2 ^ held n / 18446744073709551616 % 18446744073709551616, (a1 + 18446744073709551616 * a0) * 2 ^ held n % 18446744073709551616, decide ((a1 + 18446744073709551616 * a0) * 2 ^ held n < 340282366920938463463374607431768211456)) := by
    intro hi lo e1 e2
    rw [pair_shr_ok n (by omega) (by omega)]
    simp only [Option.bind_some]
    rw [← e1, ← e2]
    have hV : 0 ≤ a1 + 18446744073709551616 * a0 := by omega
    have hX : lo + 18446744073709551616 * hi = (a1 + 18446744073709551616 * a0) * 2 ^ held n % 340282366920938463463374607431768211456 := by omega
    have hVe : a0 = (a1 + 18446744073709551616 * a0) / 18446744073709551616 ∧ a1 = (a1 + 18446744073709551616 * a0) % 18446744073709551616 := by omega
    rw [hX]
    have key : ((a1 + 18446744073709551616 * a0) * 2 ^ held n % 340282366920938463463374607431768211456 / 2 ^ held n = a1 + 18446744073709551616 * a0) ↔ (a1 + 18446744073709551616 * a0) * 2 ^ held n < 340282366920938463463374607431768211456 := by
      have hVP : 0 ≤ (a1 + 18446744073709551616 * a0) * 2 ^ held n := Int.mul_nonneg hV (Int.le_of_lt hP)
      constructor
      · intro h
        by_cases c : (a1 + 18446744073709551616 * a0) * 2 ^ held n < 340282366920938463463374607431768211456
        · exact c
        · have h3 : (a1 + 18446744073709551616 * a0) * 2 ^ held n % 340282366920938463463374607431768211456 < (a1 + 18446744073709551616 * a0) * 2 ^ held n := by omega
          have h4 := Int.ediv_lt_of_lt_mul hP h3
          omega
      · intro h
        rw [Int.emod_eq_of_lt hVP h, Int.mul_ediv_cancel _ (by omega)]
    generalize (a1 + 18446744073709551616 * a0) * 2 ^ held n % 340282366920938463463374607431768211456 / 2 ^ held n = Y at *
    congr 3
    rw [Bool.eq_iff_iff, Bool.and_eq_true, beq_iff_eq, beq_iff_eq, decide_eq_true_iff, ← key]
    omega
  unfold pair_Shl.f
  rw [pair_held_ok]
  generalize held n = k at *
  simp only [Option.bind_some]
  rw [wrap_nat (by omega), if_pos (by omega)]
  have hw : 0 ≤ IntKind.u64.wrap (64 - (k : Int)) := by rw [u64_mod]; omega
  rw [if_pos hw]
  clear hw
  by_cases c : (k : Int) ≥ 64
  · rw [if_pos c, wrap_sub2 (by omega) hk, if_pos (by omega), shl64 (by omega)]
    have e : (2 : Int) ^ k = 18446744073709551616 * 2 ^ (k - 64) := by
      rw [show k = 64 + (k - 64) by omega, Int.pow_add, show 64 + (k - 64) - 64 = k - 64 by omega]
      rfl
    have e2 : (a1 + 18446744073709551616 * a0) * 2 ^ k = 18446744073709551616 * (a1 * 2 ^ (k - 64) + 18446744073709551616 * (a0 * 2 ^ (k - 64))) := by
      rw [e, Int.mul_left_comm, Int.add_mul, Int.mul_assoc 18446744073709551616 a0]
    refine hback _ _ ?_ ?_
    · rw [e2]; omega
    · rw [e2]; omega
  · rw [if_neg c, wrap_sub (by omega), shl64 (by omega), shl64 (by omega), shr64 (by omega)]
    have hQ := p2_pos (64 - k)
    have hPQ := p2_split k (by omega)
    have hj := u64_join k (x := (a0 * 2 ^ k) % 18446744073709551616) (y := a1 / 2 ^ (64 - k))
    generalize hPe : (2 : Int) ^ k = P at *
    generalize hQe : (2 : Int) ^ (64 - k) = Q at *
    obtain ⟨e0, t0, t1⟩ := cut_ex a0 Q hQ
    obtain ⟨e1, r0, r1⟩ := cut_ex a1 Q hQ
    have u0 : 0 ≤ a1 / Q := Int.ediv_nonneg h2.1 (Int.le_of_lt hQ)
    have u1 : a1 / Q < P := by
      apply Int.ediv_lt_of_lt_mul hQ
      rw [hPQ]; exact h2.2
    have f1 : a0 * P = 18446744073709551616 * (a0 / Q) + a0 % Q * P := by
      have : a0 * P = (Q * (a0 / Q) + a0 % Q) * P := by rw [← e0]
      rw [this, Int.add_mul, Int.mul_right_comm, Int.mul_comm Q P, hPQ]
    have f2 : a1 * P = 18446744073709551616 * (a1 / Q) + a1 % Q * P := by
      have : a1 * P = (Q * (a1 / Q) + a1 % Q) * P := by rw [← e1]
      rw [this, Int.add_mul, Int.mul_right_comm, Int.mul_comm Q P, hPQ]
    have b1 : a0 % Q * P + P ≤ 18446744073709551616 := by
      have : (a0 % Q + 1) * P ≤ Q * P := Int.mul_le_mul_of_nonneg_right (by omega) (by omega)
      rw [Int.add_mul, Int.one_mul, Int.mul_comm Q P, hPQ] at this
      exact this
    have b2 : a1 % Q * P + P ≤ 18446744073709551616 := by
      have : (a1 % Q + 1) * P ≤ Q * P := Int.mul_le_mul_of_nonneg_right (by omega) (by omega)
      rw [Int.add_mul, Int.one_mul, Int.mul_comm Q P, hPQ] at this
      exact this
    have z1 : 0 ≤ a0 % Q * P := Int.mul_nonneg t0 (by omega)
    have z2 : 0 ≤ a1 % Q * P := Int.mul_nonneg r0 (by omega)
    have m1 : (a0 * P) % 18446744073709551616 = a0 % Q * P := (div_uniq f1 z1 (by omega)).2
    have m2 : (a1 * P) % 18446744073709551616 = a1 % Q * P := (div_uniq f2 z2 (by omega)).2
    have u2 : a1 / Q < 18446744073709551616 := Int.lt_of_le_of_lt (Int.ediv_le_self _ h2.1) h2.2
    have e2 : (a1 + 18446744073709551616 * a0) * P = 18446744073709551616 * (a1 / Q + a0 * P) + a1 % Q * P := by
      rw [Int.add_mul, f2, Int.mul_assoc 18446744073709551616 a0, Int.mul_add]
      omega
    rw [m1] at hj ⊢
    rw [m2, hj z1 (Int.mul_emod_left _ _) (by omega) u0 u1 u2]
    clear hj hPe hQe hPQ e0 e1
    refine hback _ _ ?_ ?_
    · rw [e2, f1]
      generalize a0 % Q * P = Z0 at *
      generalize a1 % Q * P = Z1 at *
      generalize a1 / Q = U at *
      generalize a0 / Q = S at *
      clear hback e2 f1 f2 m1 m2
      omega
    · rw [e2]
      generalize a1 % Q * P = Z1 at *
      clear hback e2 f1 f2 m1 m2
      omega

end Go.Proofs.Ytcgdhpnobgimfaa.Num
end
section
namespace Go.Proofs.Ytcgdhpnobgimfaa.Num
set_option linter.unusedVariables false
set_option linter.unusedSimpArgs false
open Go.RowKit Go.Proofs.Ytcgdhpnobgimfaa.PT Go.Proofs.YtcgdhpnobgimfaaW.PrintWords Go.Proofs.YtcgdhpnobgimfaaW.PrintMore

def lenTab : ByteArray := ⟨#[0, 1, 2, 2, 3, 3, 3, 3, 4, 4, 4, 4, 4, 4, 4, 4, 5, 5, 5, 5, 5, 5, 5, 5, 5, 5, 5, 5, 5, 5, 5, 5, 6, 6, 6, 6, 6, 6, 6, 6, 6, 6, 6, 6, 6, 6, 6, 6, 6, 6, 6, 6, 6, 6, 6, 6, 6, 6, 6, 6, 6, 6, 6, 6, 7, 7, 7, 7, 7, 7, 7, 7, 7, 7, 7, 7, 7, 7, 7, 7, 7, 7, 7, 7, 7, 7, 7, 7, 7, 7, 7, 7, 7, 7, 7, 7, 7, 7, 7, 7, 7, 7, 7, 7, 7, 7, 7, 7, 7, 7, 7, 7, 7, 7, 7, 7, 7, 7, 7, 7, 7, 7, 7, 7, 7, 7, 7, 7, 8, 8, 8, 8, 8, 8, 8, 8, 8, 8, 8, 8, 8, 8, 8, 8, 8, 8, 8, 8, 8, 8, 8, 8, 8, 8, 8, 8, 8, 8, 8, 8, 8, 8, 8, 8, 8, 8, 8, 8, 8, 8, 8, 8, 8, 8, 8, 8, 8, 8, 8, 8, 8, 8, 8, 8, 8, 8, 8, 8, 8, 8, 8, 8, 8, 8, 8, 8, 8, 8, 8, 8, 8, 8, 8, 8, 8, 8, 8, 8, 8, 8, 8, 8, 8, 8, 8, 8, 8, 8, 8, 8, 8, 8, 8, 8, 8, 8, 8, 8, 8, 8, 8, 8, 8, 8, 8, 8, 8, 8, 8, 8, 8, 8, 8, 8, 8, 8, 8, 8, 8, 8, 8, 8, 8, 8, 8, 8]⟩
def lenOK : Bool := (List.range 256).all fun i => decide (0 ≤ bt lenTab i) && decide (bt lenTab i ≤ 8) && decide ((i : Int) < 2 ^ (bt lenTab i).toNat) && (i == 0 || (decide (1 ≤ bt lenTab i) && decide ((2 : Int) ^ ((bt lenTab i).toNat - 1) ≤ i)))
theorem lenOK_true : lenOK = true := by decide +kernel
theorem len_at (x : Int) (h0 : 0 ≤ x) (h1 : x < 256) : ∃ m : Nat, m ≤ 8 ∧ bt lenTab x = m ∧ x < 2 ^ m ∧ (1 ≤ x → 1 ≤ m ∧ 2 ^ (m - 1) ≤ x) := by
  obtain ⟨i, rfl⟩ := Int.eq_ofNat_of_zero_le h0
  have h := List.all_eq_true.1 lenOK_true i (List.mem_range.2 (by omega))
  simp only [Bool.and_eq_true, Bool.or_eq_true, decide_eq_true_eq, beq_iff_eq] at h
  obtain ⟨⟨⟨p1, p2⟩, p3⟩, p4⟩ := h
  refine ⟨(bt lenTab i).toNat, by omega, by omega, p3, fun hx => ?_⟩
  rcases p4 with p4 | p4
  · omega
  · exact ⟨by omega, p4.2⟩

set_option maxRecDepth 100000 in
theorem len64_j0 (x n : Int) (h0 : 0 ≤ x) (h1 : x < 4294967296) (n0 : 0 ≤ n) (n1 : n ≤ 32) : ∃ m : Nat, m ≤ 32 ∧ Ev (fun k => bits_Len64.j0 k x n) (n + m) ∧ x < 2 ^ m ∧ (1 ≤ x → 1 ≤ m ∧ 2 ^ (m - 1) ≤ x) := by
  have e : ∀ (m j : Nat), 1 ≤ m → (2 : Int) ^ (m + j - 1) = 2 ^ (m - 1) * 2 ^ j := by
    intro m j hm
    rw [← Int.pow_add, show m - 1 + j = m + j - 1 by omega]
  have T : ∀ z, bt (⟨#[0, 1, 2, 2, 3, 3, 3, 3, 4, 4, 4, 4, 4, 4, 4, 4, 5, 5, 5, 5, 5, 5, 5, 5, 5, 5, 5, 5, 5, 5, 5, 5, 6, 6, 6, 6, 6, 6, 6, 6, 6, 6, 6, 6, 6, 6, 6, 6, 6, 6, 6, 6, 6, 6, 6, 6, 6, 6, 6, 6, 6, 6, 6, 6, 7, 7, 7, 7, 7, 7, 7, 7, 7, 7, 7, 7, 7, 7, 7, 7, 7, 7, 7, 7, 7, 7, 7, 7, 7, 7, 7, 7, 7, 7, 7, 7, 7, 7, 7, 7, 7, 7, 7, 7, 7, 7, 7, 7, 7, 7, 7, 7, 7, 7, 7, 7, 7, 7, 7, 7, 7, 7, 7, 7, 7, 7, 7, 7, 8, 8, 8, 8, 8, 8, 8, 8, 8, 8, 8, 8, 8, 8, 8, 8, 8, 8, 8, 8, 8, 8, 8, 8, 8, 8, 8, 8, 8, 8, 8, 8, 8, 8, 8, 8, 8, 8, 8, 8, 8, 8, 8, 8, 8, 8, 8, 8, 8, 8, 8, 8, 8, 8, 8, 8, 8, 8, 8, 8, 8, 8, 8, 8, 8, 8, 8, 8, 8, 8, 8, 8, 8, 8, 8, 8, 8, 8, 8, 8, 8, 8, 8, 8, 8, 8, 8, 8, 8, 8, 8, 8, 8, 8, 8, 8, 8, 8, 8, 8, 8, 8, 8, 8, 8, 8, 8, 8, 8, 8, 8, 8, 8, 8, 8, 8, 8, 8, 8, 8, 8, 8, 8, 8, 8, 8, 8, 8]⟩ : ByteArray) z = bt lenTab z := fun _ => rfl
  by_cases c1 : x ≥ 65536
  · by_cases c2 : x / 65536 ≥ 256
    · obtain ⟨m, hm, hb, hx, hy⟩ := len_at (x / 65536 / 256 % 256) (by omega) (by omega)
      have hy := hy (by omega)
      refine ⟨m + 24, by omega, ?_, ?_, fun _ => ⟨by omega, ?_⟩⟩
      · refine Ev.step (f := fun _ => some (n + ((m + 24 : Nat) : Int))) (fun k => ?_) (Ev.now _)
        rw [bits_Len64.j0]
        rw [if_pos c1, if_pos c2, if_pos (by omega), if_pos (by omega), T, hb, w64_id (x := n + 16) (by omega) (by omega), w64_id (x := n + 16 + 8) (by omega) (by omega), w64_id (x := (m : Int)) (by omega) (by omega), w64_id (by omega) (by omega)]
        congr 1
        omega
      · rw [Int.pow_add]; simp only [Int.reducePow]; omega
      · rw [e m 24 hy.1]; simp only [Int.reducePow]; omega
    · obtain ⟨m, hm, hb, hx, hy⟩ := len_at (x / 65536 % 256) (by omega) (by omega)
      have hy := hy (by omega)
      refine ⟨m + 16, by omega, ?_, ?_, fun _ => ⟨by omega, ?_⟩⟩
      · refine Ev.step (f := fun _ => some (n + ((m + 16 : Nat) : Int))) (fun k => ?_) (Ev.now _)
        rw [bits_Len64.j0]
        rw [if_pos c1, if_neg c2, if_pos (by omega), if_pos (by omega), T, hb, w64_id (x := n + 16) (by omega) (by omega), w64_id (x := (m : Int)) (by omega) (by omega), w64_id (by omega) (by omega)]
        congr 1
        omega
      · rw [Int.pow_add]; simp only [Int.reducePow]; omega
      · rw [e m 16 hy.1]; simp only [Int.reducePow]; omega
  · by_cases c2 : x ≥ 256
    · obtain ⟨m, hm, hb, hx, hy⟩ := len_at (x / 256 % 256) (by omega) (by omega)
      have hy := hy (by omega)
      refine ⟨m + 8, by omega, ?_, ?_, fun _ => ⟨by omega, ?_⟩⟩
      · refine Ev.step (f := fun _ => some (n + ((m + 8 : Nat) : Int))) (fun k => ?_) (Ev.now _)
        rw [bits_Len64.j0]
        rw [if_neg c1, if_pos c2, if_pos (by omega), if_pos (by omega), T, hb, w64_id (x := n + 8) (by omega) (by omega), w64_id (x := (m : Int)) (by omega) (by omega), w64_id (by omega) (by omega)]
        congr 1
        omega
      · rw [Int.pow_add]; simp only [Int.reducePow]; omega
      · rw [e m 8 hy.1]; simp only [Int.reducePow]; omega
    · obtain ⟨m, hm, hb, hx, hy⟩ := len_at (x % 256) (by omega) (by omega)
      have ex : x % 256 = x := by omega
      rw [ex] at hb hx hy
      refine ⟨m, by omega, ?_, hx, hy⟩
      refine Ev.step (f := fun _ => some (n + (m : Int))) (fun k => ?_) (Ev.now _)
      rw [bits_Len64.j0]
      rw [if_neg c1, if_neg c2, if_pos (by omega), if_pos (by omega), ex, T, hb, w64_id (x := (m : Int)) (by omega) (by omega), w64_id (by omega) (by omega)]

theorem len64_ok (y : Int) (h0 : 1 ≤ y) (h1 : y < 18446744073709551616) : ∃ m : Nat, m ≤ 64 ∧ Ev (fun k => bits_Len64.f k y) (m : Int) ∧ y < 2 ^ m ∧ 1 ≤ m ∧ 2 ^ (m - 1) ≤ y := by
  by_cases c : y ≥ 4294967296
  · obtain ⟨m, hm, hr, hx, hy⟩ := len64_j0 (y / 4294967296) 32 (by omega) (by omega) (by omega) (by omega)
    have hy := hy (by omega)
    refine ⟨m + 32, by omega, ?_, ?_, by omega, ?_⟩
    · unfold bits_Len64.f
      refine evp c ?_
      rw [show ((m + 32 : Nat) : Int) = 32 + m by omega]
      exact hr
    · rw [Int.pow_add]; simp only [Int.reducePow]; omega
    · rw [show m + 32 - 1 = m - 1 + 32 by omega, Int.pow_add]; simp only [Int.reducePow]; omega
  · obtain ⟨m, hm, hr, hx, hy⟩ := len64_j0 y 0 (by omega) (by omega) (by omega) (by omega)
    have hy := hy (by omega)
    refine ⟨m, by omega, ?_, hx, hy.1, hy.2⟩
    unfold bits_Len64.f
    refine evn c ?_
    rw [Int.zero_add] at hr
    exact hr

/-! ### one digit of the quotient -/
theorem quo_bounds {N y Q : Int} (hy : 0 < y) (hQ : Q = N / y) : Q * y ≤ N ∧ N < Q * y + y := by
  have h1 := Int.mul_ediv_add_emod N y
  have h2 := Int.emod_nonneg N (show y ≠ 0 by omega)
  have h3 := Int.emod_lt_of_pos N hy
  subst hQ
  rw [Int.mul_comm]
  omega
theorem quo_lt {N y Q q : Int} (hy : 0 < y) (hQ : Q * y ≤ N) (h : N < q * y) : Q < q := Int.lt_of_mul_lt_mul_right (by omega) (Int.le_of_lt hy)
theorem quo_le {N y Q q : Int} (hy : 0 < y) (hQ : N < Q * y + y) (h : q * y ≤ N) : q ≤ Q := by
  have : q * y < (Q + 1) * y := by rw [Int.add_mul, Int.one_mul]; omega
  have := Int.lt_of_mul_lt_mul_right this (Int.le_of_lt hy)
  omega
theorem prod_split (q yn1 yn0 y : Int) (hy : y = yn1 * 4294967296 + yn0) : q * y = q * yn1 * 4294967296 + q * yn0 := by
  rw [hy, Int.mul_add, Int.mul_assoc]

theorem div_l0 (y s yn1 yn0 u v un0 Q : Int) (hy : y = yn1 * 4294967296 + yn0) (h1 : 2147483648 ≤ yn1) (h2 : yn1 < 4294967296) (h3 : 0 ≤ yn0) (h4 : yn0 < 4294967296) (hu0 : 0 ≤ u) (hu : u < y) (hv0 : 0 ≤ v) (hv : v < 4294967296) (hQ : Q = (u * 4294967296 + v) / y)
    {r : Int × Int} (H : Ev (fun k => bits_Div64.j2 k y s yn1 yn0 u v un0 Q) r) (d : Nat) :
    ∀ (q rh : Int), (q - Q).toNat = d → Q ≤ q → q ≤ 4294967297 → u = q * yn1 + rh → 0 ≤ rh → rh < 4294967296 → Ev (fun k => bits_Div64.l0 k y s yn1 yn0 u v un0 q rh) r := by
  have hyp : 0 < y := by omega
  obtain ⟨b1, b2⟩ := quo_bounds hyp hQ
  have hQ0 : 0 ≤ Q := by rw [hQ]; exact Int.ediv_nonneg (by omega) (by omega)
  have hQB : Q < 4294967296 := quo_lt (q := 4294967296) hyp b1 (by omega)
  induction d with
  | zero =>
    intro q rh hd hq1 hq2 he hr0 hr1
    have hqQ : q = Q := by omega
    subst hqQ
    have hs := prod_split q yn1 yn0 y hy
    have hp := mul_bd (x := q) (y := yn0) (M := 4294967295) (N := 4294967295) (by omega) (by omega) h3 (by omega)
    refine Ev.step (f := fun k => bits_Div64.j1 k y s yn1 yn0 u v un0 q rh false) (fun k => ?_) ?_
    · simp only [bits_Div64.l0]
      rw [if_neg (by omega), u64_id (x := q * yn0) (by omega) (by omega), u64_id (x := 4294967296 * rh) (by omega) (by omega), u64_id (by omega) (by omega), decide_eq_false (by omega)]
    · refine Ev.step (f := fun k => bits_Div64.j2 k y s yn1 yn0 u v un0 q) (fun k => ?_) H
      simp only [bits_Div64.j1]
      rw [if_neg (by simp)]
  | succ d ih =>
    intro q rh hd hq1 hq2 he hr0 hr1
    have hs := prod_split q yn1 yn0 y hy
    have hs1 : (q - 1) * yn1 = q * yn1 - yn1 := by rw [Int.sub_mul, Int.one_mul]
    have hs2 : (q - 1) * yn0 = q * yn0 - yn0 := by rw [Int.sub_mul, Int.one_mul]
    have hs3 : (q - 1) * y = q * y - y := by rw [Int.sub_mul, Int.one_mul]
    have hp := mul_bd (x := q - 1) (y := yn0) (M := 4294967296) (N := 4294967295) (by omega) (by omega) h3 (by omega)
    have hlt : u * 4294967296 + v < q * y := by
      have : (Q + 1) * y ≤ q * y := Int.mul_le_mul_of_nonneg_right (by omega) (by omega)
      rw [Int.add_mul, Int.one_mul] at this
      omega
    refine Ev.step (f := fun k => bits_Div64.j1 k y s yn1 yn0 u v un0 q rh true) (fun k => ?_) ?_
    · simp only [bits_Div64.l0]
      by_cases c : q ≥ 4294967296
      · rw [if_pos c]
      · rw [if_neg c, u64_id (x := q * yn0) (by omega) (by omega), u64_id (x := 4294967296 * rh) (by omega) (by omega), u64_id (by omega) (by omega), decide_eq_true (by omega)]
    · by_cases c : rh + yn1 ≥ 4294967296
      · have hq : q - 1 = Q := by
          have := quo_le hyp b2 (q := q - 1) (by omega)
          omega
        refine Ev.step (f := fun k => bits_Div64.j2 k y s yn1 yn0 u v un0 (q - 1)) (fun k => ?_) (by rw [hq]; exact H)
        simp only [bits_Div64.j1, if_true]
        rw [u64_id (x := rh + yn1) (by omega) (by omega), if_pos c, u64_id (by omega) (by omega)]
      · refine Ev.step (f := fun k => bits_Div64.l0 k y s yn1 yn0 u v un0 (q - 1) (rh + yn1)) (fun k => ?_) (ih (q - 1) (rh + yn1) (by omega) (by omega) (by omega) (by omega) (by omega) (by omega))
        simp only [bits_Div64.j1, if_true]
        rw [u64_id (x := rh + yn1) (by omega) (by omega), if_neg c, u64_id (by omega) (by omega)]

theorem div_l1 (y s yn1 yn0 u v q1 Q : Int) (hs0 : 0 ≤ s) (hy : y = yn1 * 4294967296 + yn0) (h1 : 2147483648 ≤ yn1) (h2 : yn1 < 4294967296) (h3 : 0 ≤ yn0) (h4 : yn0 < 4294967296) (hu0 : 0 ≤ u) (hu : u < y) (hv0 : 0 ≤ v) (hv : v < 4294967296) (hQ : Q = (u * 4294967296 + v) / y) (d : Nat) :
    ∀ (q rh : Int), (q - Q).toNat = d → Q ≤ q → q ≤ 4294967297 → u = q * yn1 + rh → 0 ≤ rh → rh < 4294967296 →
      Ev (fun k => bits_Div64.l1 k y s yn1 yn0 v q1 rh u q) (IntKind.u64.wrap (IntKind.u64.wrap (q1 * 4294967296) + Q), shr .u64 (IntKind.u64.wrap (IntKind.u64.wrap (IntKind.u64.wrap (u * 4294967296) + v) - IntKind.u64.wrap (Q * y))) s) := by
  have hyp : 0 < y := by omega
  obtain ⟨b1, b2⟩ := quo_bounds hyp hQ
  have hQ0 : 0 ≤ Q := by rw [hQ]; exact Int.ediv_nonneg (by omega) (by omega)
  have hQB : Q < 4294967296 := quo_lt (q := 4294967296) hyp b1 (by omega)
  induction d with
  | zero =>
    intro q rh hd hq1 hq2 he hr0 hr1
    have hqQ : q = Q := by omega
    subst hqQ
    have hs := prod_split q yn1 yn0 y hy
    have hp := mul_bd (x := q) (y := yn0) (M := 4294967295) (N := 4294967295) (by omega) (by omega) h3 (by omega)
    refine Ev.step (f := fun k => bits_Div64.j4 k y s yn1 yn0 v q1 rh u q false) (fun k => ?_) ?_
    · simp only [bits_Div64.l1]
      rw [if_neg (by omega), u64_id (x := q * yn0) (by omega) (by omega), u64_id (x := 4294967296 * rh) (by omega) (by omega), u64_id (by omega) (by omega), decide_eq_false (by omega)]
    · refine Ev.step (f := fun _ => some _) (fun k => ?_) (Ev.now _)
      simp only [bits_Div64.j4]
      rw [if_neg (by simp), if_pos hs0]
  | succ d ih =>
    intro q rh hd hq1 hq2 he hr0 hr1
    have hs := prod_split q yn1 yn0 y hy
    have hs1 : (q - 1) * yn1 = q * yn1 - yn1 := by rw [Int.sub_mul, Int.one_mul]
    have hs2 : (q - 1) * yn0 = q * yn0 - yn0 := by rw [Int.sub_mul, Int.one_mul]
    have hs3 : (q - 1) * y = q * y - y := by rw [Int.sub_mul, Int.one_mul]
    have hp := mul_bd (x := q - 1) (y := yn0) (M := 4294967296) (N := 4294967295) (by omega) (by omega) h3 (by omega)
    have hlt : u * 4294967296 + v < q * y := by
      have : (Q + 1) * y ≤ q * y := Int.mul_le_mul_of_nonneg_right (by omega) (by omega)
      rw [Int.add_mul, Int.one_mul] at this
      omega
    refine Ev.step (f := fun k => bits_Div64.j4 k y s yn1 yn0 v q1 rh u q true) (fun k => ?_) ?_
    · simp only [bits_Div64.l1]
      by_cases c : q ≥ 4294967296
      · rw [if_pos c]
      · rw [if_neg c, u64_id (x := q * yn0) (by omega) (by omega), u64_id (x := 4294967296 * rh) (by omega) (by omega), u64_id (by omega) (by omega), decide_eq_true (by omega)]
    · by_cases c : rh + yn1 ≥ 4294967296
      · have hq : q - 1 = Q := by
          have := quo_le hyp b2 (q := q - 1) (by omega)
          omega
        refine Ev.step (f := fun _ => some _) (fun k => ?_) (Ev.now _)
        simp only [bits_Div64.j4, if_true]
        rw [u64_id (x := rh + yn1) (by omega) (by omega), if_pos c, if_pos hs0, u64_id (x := q - 1) (by omega) (by omega), hq]
      · refine Ev.step (f := fun k => bits_Div64.l1 k y s yn1 yn0 v q1 (rh + yn1) u (q - 1)) (fun k => ?_) (ih (q - 1) (rh + yn1) (by omega) (by omega) (by omega) (by omega) (by omega) (by omega))
        simp only [bits_Div64.j4, if_true]
        rw [u64_id (x := rh + yn1) (by omega) (by omega), if_neg c, u64_id (x := q - 1) (by omega) (by omega)]

theorem div_guess {y yn1 yn0 u v Q : Int} (hy : y = yn1 * 4294967296 + yn0) (h1 : 2147483648 ≤ yn1) (h2 : yn1 < 4294967296) (h3 : 0 ≤ yn0) (h4 : yn0 < 4294967296) (hu0 : 0 ≤ u) (hu : u < y) (hv0 : 0 ≤ v) (hv : v < 4294967296) (hQ : Q = (u * 4294967296 + v) / y) :
    Q ≤ u / yn1 ∧ u / yn1 ≤ 4294967297 ∧ u / yn1 * yn1 ≤ u ∧ u < u / yn1 * yn1 + yn1 ∧ 0 ≤ u / yn1 := by
  have hyp : 0 < y := by omega
  obtain ⟨b1, b2⟩ := quo_bounds hyp hQ
  have hQ0 : 0 ≤ Q := by rw [hQ]; exact Int.ediv_nonneg (by omega) (by omega)
  obtain ⟨c1, c2⟩ := quo_bounds (N := u) (y := yn1) (by omega) rfl
  have hs := prod_split Q yn1 yn0 y hy
  have hp : 0 ≤ Q * yn0 := Int.mul_nonneg hQ0 h3
  refine ⟨Int.le_ediv_of_mul_le (by omega) (by omega), ?_, c1, c2, Int.ediv_nonneg hu0 (by omega)⟩
  have : u / yn1 < 4294967298 := Int.ediv_lt_of_lt_mul (by omega) (by omega)
  omega

theorem div64_norm (Y s U w : Int) (hs0 : 0 ≤ s) (hY1 : 9223372036854775808 ≤ Y) (hY2 : Y < 18446744073709551616) (hU0 : 0 ≤ U) (hU : U < Y) (hw0 : 0 ≤ w) (hw : w < 18446744073709551616) :
    ∃ Qt R : Int, Ev (fun k => bits_Div64.l0 k Y s (Y / 4294967296) (Y % 4294967296) U (w / 4294967296) (w % 4294967296) (U / (Y / 4294967296)) (U - U / (Y / 4294967296) * (Y / 4294967296))) (Qt, shr .u64 R s) ∧ U * 18446744073709551616 + w = Qt * Y + R ∧ 0 ≤ R ∧ R < Y ∧ 0 ≤ Qt ∧ Qt < 18446744073709551616 := by
  have hy : Y = Y / 4294967296 * 4294967296 + Y % 4294967296 := by omega
  have a1 : 2147483648 ≤ Y / 4294967296 := by omega
  have a2 : Y / 4294967296 < 4294967296 := by omega
  have a3 : 0 ≤ Y % 4294967296 := by omega
  have a4 : Y % 4294967296 < 4294967296 := by omega
  have a5 : 0 ≤ w / 4294967296 := by omega
  have a6 : w / 4294967296 < 4294967296 := by omega
  have a7 : 0 ≤ w % 4294967296 := by omega
  have a8 : w % 4294967296 < 4294967296 := by omega
  have hw3 : w = w / 4294967296 * 4294967296 + w % 4294967296 := by omega
  generalize Y / 4294967296 = yn1 at *
  generalize Y % 4294967296 = yn0 at *
  generalize w / 4294967296 = un1 at *
  generalize w % 4294967296 = un0 at *
  obtain ⟨Q1, hQ1⟩ : ∃ Q1, Q1 = (U * 4294967296 + un1) / Y := ⟨_, rfl⟩
  have hYp : 0 < Y := by omega
  obtain ⟨b1, b2⟩ := quo_bounds hYp hQ1
  have hQ10 : 0 ≤ Q1 := by rw [hQ1]; exact Int.ediv_nonneg (by omega) (by omega)
  have hQ1B : Q1 < 4294967296 := quo_lt (q := 4294967296) hYp b1 (by omega)
  obtain ⟨V, hV⟩ : ∃ V, V = U * 4294967296 + un1 - Q1 * Y := ⟨_, rfl⟩
  obtain ⟨Q0, hQ0⟩ : ∃ Q0, Q0 = (V * 4294967296 + un0) / Y := ⟨_, rfl⟩
  obtain ⟨d1, d2⟩ := quo_bounds hYp hQ0
  have hQ00 : 0 ≤ Q0 := by rw [hQ0]; exact Int.ediv_nonneg (by omega) (by omega)
  have hQ0B : Q0 < 4294967296 := quo_lt (q := 4294967296) hYp d1 (by omega)
  obtain ⟨g1, g2, g3, g4, g5⟩ := div_guess hy a1 a2 a3 a4 hU0 hU a5 a6 hQ1
  obtain ⟨f1, f2, f3, f4, f5⟩ := div_guess hy a1 a2 a3 a4 (u := V) (by omega) (by omega) a7 a8 hQ0
  have hl1 := div_l1 Y s yn1 yn0 V un0 Q1 Q0 hs0 hy a1 a2 a3 a4 (by omega) (by omega) a7 a8 hQ0 _ (V / yn1) (V - V / yn1 * yn1) rfl f1 f2 (by omega) (by omega) (by omega)
  have eq : (Q1 * 4294967296 + Q0) * Y = Q1 * Y * 4294967296 + Q0 * Y := by rw [Int.add_mul, Int.mul_right_comm]
  refine ⟨Q1 * 4294967296 + Q0, V * 4294967296 + un0 - Q0 * Y, ?_, by omega, by omega, by omega, by omega, by omega⟩
  refine div_l0 Y s yn1 yn0 U un1 un0 Q1 hy a1 a2 a3 a4 hU0 hU a5 a6 hQ1 ?_ _ (U / yn1) (U - U / yn1 * yn1) rfl g1 g2 (by omega) (by omega) (by omega)
  refine Ev.step (f := fun k => bits_Div64.l1 k Y s yn1 yn0 un0 Q1 (V - V / yn1 * yn1) V (V / yn1)) (fun k => ?_) ?_
  · have eV : IntKind.u64.wrap (IntKind.u64.wrap (IntKind.u64.wrap (U * 4294967296) + un1) - IntKind.u64.wrap (Q1 * Y)) = V := by
      simp only [u64_mod]
      omega
    simp only [bits_Div64.j2]
    rw [if_neg (by omega), eV, tdiv_pos (by omega), u64_id (x := V / yn1) (by omega) (by omega), u64_id (x := V / yn1 * yn1) (Int.mul_nonneg f5 (by omega)) (by omega), u64_id (by omega) (by omega)]
  · have e1 : IntKind.u64.wrap (IntKind.u64.wrap (Q1 * 4294967296) + Q0) = Q1 * 4294967296 + Q0 := by
      simp only [u64_mod]
      omega
    have e2 : IntKind.u64.wrap (IntKind.u64.wrap (IntKind.u64.wrap (V * 4294967296) + un0) - IntKind.u64.wrap (Q0 * Y)) = V * 4294967296 + un0 - Q0 * Y := by
      simp only [u64_mod]
      omega
    rw [e1, e2] at hl1
    exact hl1

theorem div64_ok {hi lo y : Int} (h0 : 0 ≤ hi) (h1 : hi < y) (h2 : y < 18446744073709551616) (h3 : 0 ≤ lo) (h4 : lo < 18446744073709551616) :
    Ev (fun k => bits_Div64.f k hi lo y) ((lo + 18446744073709551616 * hi) / y, (lo + 18446744073709551616 * hi) % y) := by
  unfold bits_Div64.f
  refine evn (by omega) ?_
  refine evn (by omega) ?_
  by_cases c : hi = 0
  · subst c
    refine evp rfl ?_
    refine Ev.congr (fun k => ?_) (Ev.now _)
    have b : lo / y ≤ lo := Int.ediv_le_self _ h3
    have b0 : 0 ≤ lo / y := Int.ediv_nonneg h3 (by omega)
    rw [tdiv_pos h3, tmod_pos h3, u64_id b0 (by omega)]
    simp
  · refine evn c ?_
    obtain ⟨m, hm, hlen, hm1, hm2, hm3⟩ := len64_ok y (by omega) h2
    have hlz : Ev (fun k => bits_LeadingZeros64.f k y) (((64 - m : Nat) : Int)) := by
      unfold bits_LeadingZeros64.f
      refine Ev.bind hlen ?_
      refine Ev.congr (fun k => ?_) (Ev.now _)
      rw [w64_id (by omega) (by omega)]
      congr 1
      omega
    refine Ev.bind hlz ?_
    have hk : 64 - m ≤ 64 := by omega
    have hPQ := p2_split (64 - m) hk
    rw [show 64 - (64 - m) = m by omega] at hPQ
    have hP := p2_pos (64 - m)
    have hQ := p2_pos m
    have hmm := p2_pred hm2
    rw [wrap_nat (by omega)]
    refine evp (by omega) ?_
    have hw64 : IntKind.u64.wrap (64 - ((64 - m : Nat) : Int)) = (m : Int) := by
      rw [u64_id (by omega) (by omega)]
      omega
    rw [hw64, shl64 hk, shl64 hk, shl64 hk, shr64 (k := m) (by omega)]
    refine evp (by omega) ?_
    have hj := u64_join (64 - m) (x := (hi * 2 ^ (64 - m)) % 18446744073709551616) (y := lo / 2 ^ m)
    have hsh : ∀ R : Int, shr .u64 R ((64 - m : Nat) : Int) = R / 2 ^ (64 - m) := fun R => shr64 hk
    have hs0 : 0 ≤ ((64 - m : Nat) : Int) := by omega
    clear hlz hlen hw64
    generalize ((64 - m : Nat) : Int) = s at *
    generalize hPe : (2 : Int) ^ (64 - m) = P at *
    generalize hQe : (2 : Int) ^ m = Q at *
    have hyP1 : y * P + P ≤ 18446744073709551616 := by
      have : (y + 1) * P ≤ Q * P := Int.mul_le_mul_of_nonneg_right (by omega) (by omega)
      rw [Int.add_mul, Int.one_mul, Int.mul_comm Q P, hPQ] at this
      exact this
    have hyP2 : 9223372036854775808 ≤ y * P := by
      have : 2 ^ (m - 1) * P ≤ y * P := Int.mul_le_mul_of_nonneg_right hm3 (by omega)
      have e : 2 ^ (m - 1) * P * 2 = 18446744073709551616 := by rw [Int.mul_right_comm, ← hmm, Int.mul_comm Q P, hPQ]
      omega
    have hhP0 : 0 ≤ hi * P := Int.mul_nonneg h0 (by omega)
    have hhP : hi * P + P ≤ y * P := by
      have : (hi + 1) * P ≤ y * P := Int.mul_le_mul_of_nonneg_right (by omega) (by omega)
      rw [Int.add_mul, Int.one_mul] at this
      exact this
    obtain ⟨e1, r0, r1⟩ := cut_ex lo Q hQ
    have u0 : 0 ≤ lo / Q := Int.ediv_nonneg h3 (by omega)
    have u1 : lo / Q < P := by
      apply Int.ediv_lt_of_lt_mul hQ
      rw [hPQ]; exact h4
    have fP : lo * P = 18446744073709551616 * (lo / Q) + lo % Q * P := by
      have : lo * P = (Q * (lo / Q) + lo % Q) * P := by rw [← e1]
      rw [this, Int.add_mul, Int.mul_right_comm, Int.mul_comm Q P, hPQ]
    have z2 : 0 ≤ lo % Q * P := Int.mul_nonneg r0 (by omega)
    have b2 : lo % Q * P + P ≤ 18446744073709551616 := by
      have : (lo % Q + 1) * P ≤ Q * P := Int.mul_le_mul_of_nonneg_right (by omega) (by omega)
      rw [Int.add_mul, Int.one_mul, Int.mul_comm Q P, hPQ] at this
      exact this
    have m1 : (hi * P) % 18446744073709551616 = hi * P := Int.emod_eq_of_lt hhP0 (by omega)
    have m2 : (lo * P) % 18446744073709551616 = lo % Q * P := (div_uniq fP z2 (by omega)).2
    have m3 : (y * P) % 18446744073709551616 = y * P := Int.emod_eq_of_lt (by omega) (by omega)
    rw [m1] at hj
    rw [m1, m2, m3, hj hhP0 (Int.mul_emod_left _ _) (by omega) u0 u1 (Int.lt_of_le_of_lt (Int.ediv_le_self _ h3) h4)]
    have eN : (lo + 18446744073709551616 * hi) * P = (hi * P + lo / Q) * 18446744073709551616 + lo % Q * P := by
      rw [Int.add_mul, fP, Int.mul_assoc 18446744073709551616 hi]
      omega
    clear hj m1 m2 m3 hPe hQe
    obtain ⟨Qt, R, hev, hN, hR0, hR1, hq0, hq1⟩ := div64_norm (y * P) s (hi * P + lo / Q) (lo % Q * P) hs0 hyP2 (by omega) (by omega) (by omega) z2 (by omega)
    have hg := div_guess (y := y * P) (yn1 := y * P / 4294967296) (yn0 := y * P % 4294967296) (u := hi * P + lo / Q) (v := 0) (by omega) (by omega) (by omega) (by omega) (by omega) (by omega) (by omega) (by omega) (by omega) rfl
    obtain ⟨_, g2, g3, g4, g5⟩ := hg
    refine evn (by omega) ?_
    have hNy : (lo + 18446744073709551616 * hi - Qt * y) * P = R := by
      rw [Int.sub_mul, eN, hN, Int.mul_assoc Qt y P]
      omega
    have t0 : 0 ≤ lo + 18446744073709551616 * hi - Qt * y := by
      by_cases h : lo + 18446744073709551616 * hi - Qt * y < 0
      · have := Int.mul_neg_of_neg_of_pos h hP
        omega
      · omega
    have t1 : lo + 18446744073709551616 * hi - Qt * y < y := by
      apply Int.lt_of_mul_lt_mul_right (a := P)
      · rw [hNy]; exact hR1
      · omega
    obtain ⟨q1, q2⟩ := div_uniq (a := lo + 18446744073709551616 * hi) (P := y) (q := Qt) (r := lo + 18446744073709551616 * hi - Qt * y) (by rw [Int.mul_comm y]; omega) t0 t1
    rw [q1, q2]
    rw [hsh, ← hNy, Int.mul_ediv_cancel _ (by omega)] at hev
    rw [u64_lo32 (x := y * P) (by omega) (by omega), u64_lo32 (x := lo % Q * P) z2 (by omega), tdiv_pos (a := hi * P + lo / Q) (by omega), u64_id (x := (hi * P + lo / Q) / (y * P / 4294967296)) g5 (by omega), u64_id (x := (hi * P + lo / Q) / (y * P / 4294967296) * (y * P / 4294967296)) (Int.mul_nonneg g5 (by omega)) (by omega), u64_id (by omega) (by omega)]
    exact hev
end Go.Proofs.Ytcgdhpnobgimfaa.Num
end
section
namespace Go.Proofs.Ytcgdhpnobgimfaa.Num
set_option linter.unusedVariables false
set_option linter.unusedSimpArgs false
open Go.RowKit Go.Proofs.Ytcgdhpnobgimfaa.PT Go.Proofs.YtcgdhpnobgimfaaW.PrintWords Go.Proofs.YtcgdhpnobgimfaaW.PrintMore

/-- The whole number nearest to a quotient, the even one of two. -/
def rnd (V d : Int) : Int := V / d + (if 2 * (V % d) > d ∨ (2 * (V % d) = d ∧ V / d % 2 = 1) then 1 else 0)
def near (V d : Int) : Int × Int := if d = 0 then (0, 5) else if rnd V d < 18446744073709551616 then (rnd V d, 0) else (0, 4)

theorem rnd_bounds (V d : Int) : V / d ≤ rnd V d ∧ rnd V d ≤ V / d + 1 := by
  unfold rnd
  split <;> omega

theorem half_over_ok {hi lo d : Int} (h0 : 0 ≤ hi) (h1 : hi < 18446744073709551616) (h2 : 0 ≤ lo) (h3 : lo < 18446744073709551616) (h4 : 0 ≤ d) (h5 : d < 18446744073709551616) :
    Ev (fun k => half_Over.f k hi lo d) (if d = 0 then (0, 0, 5) else if hi ≥ d then (0, 0, 4) else ((lo + 18446744073709551616 * hi) / d, (lo + 18446744073709551616 * hi) % d, 0)) := by
  unfold half_Over.f
  by_cases c : d = 0
  · rw [if_pos c]
    exact evp c (Ev.now _)
  · rw [if_neg c]
    refine evn c ?_
    by_cases c2 : hi ≥ d
    · rw [if_pos c2]
      exact evp c2 (Ev.now _)
    · rw [if_neg c2]
      refine evn c2 ?_
      exact Ev.bind (div64_ok h0 (by omega) h5 h2 h3) (Ev.now _)

theorem half_up_ok {q r d : Int} (hq : 0 ≤ q) (h0 : 0 ≤ r) (h1 : r < d) (h2 : d < 18446744073709551616) : half_up.f q r d = some (decide (2 * r > d ∨ (2 * r = d ∧ q % 2 = 1))) := by
  unfold half_up.f
  rw [u64_id (x := d - r) (by omega) (by omega), tmod_pos hq]
  by_cases c : r > d - r
  · rw [if_pos c, decide_eq_true (.inl (by omega))]
  · rw [if_neg c]
    by_cases c2 : r = d - r
    · rw [if_pos c2]
      congr 1
      rw [Bool.eq_iff_iff, beq_iff_eq, decide_eq_true_iff]
      omega
    · rw [if_neg c2, decide_eq_false (by omega)]

theorem half_near_ok {hi lo d : Int} (h0 : 0 ≤ hi) (h1 : hi < 18446744073709551616) (h2 : 0 ≤ lo) (h3 : lo < 18446744073709551616) (h4 : 0 ≤ d) (h5 : d < 18446744073709551616) :
    Ev (fun k => half_Near.f k hi lo d) (near (lo + 18446744073709551616 * hi) d) := by
  unfold half_Near.f
  have ho := half_over_ok h0 h1 h2 h3 h4 h5
  unfold near
  by_cases c : d = 0
  · rw [if_pos c] at ho
    rw [if_pos c]
    refine Ev.bind ho ?_
    refine evn (by simp) ?_
    exact Ev.step (f := fun _ => some _) (fun k => by simp [half_Near.j0]) (Ev.now _)
  · rw [if_neg c] at ho
    rw [if_neg c]
    obtain ⟨b1, b2⟩ := quo_bounds (N := lo + 18446744073709551616 * hi) (y := d) (by omega) rfl
    have hr := rnd_bounds (lo + 18446744073709551616 * hi) d
    by_cases c2 : hi ≥ d
    · rw [if_pos c2] at ho
      have : 18446744073709551616 ≤ (lo + 18446744073709551616 * hi) / d := Int.le_ediv_of_mul_le (by omega) (by omega)
      rw [if_neg (by omega)]
      refine Ev.bind ho ?_
      refine evn (by simp) ?_
      exact Ev.step (f := fun _ => some _) (fun k => by simp [half_Near.j0]) (Ev.now _)
    · rw [if_neg c2] at ho
      have hq0 : 0 ≤ (lo + 18446744073709551616 * hi) / d := Int.ediv_nonneg (by omega) (by omega)
      have hq1 : (lo + 18446744073709551616 * hi) / d < 18446744073709551616 := Int.ediv_lt_of_lt_mul (by omega) (by omega)
      have hr0 := Int.emod_nonneg (lo + 18446744073709551616 * hi) (show d ≠ 0 by omega)
      have hr1 := Int.emod_lt_of_pos (lo + 18446744073709551616 * hi) (show 0 < d by omega)
      have hu := half_up_ok hq0 hr0 hr1 h5
      refine Ev.bind ho ?_
      refine evp rfl ?_
      refine evs hu ?_
      unfold rnd
      by_cases cu : 2 * ((lo + 18446744073709551616 * hi) % d) > d ∨ (2 * ((lo + 18446744073709551616 * hi) % d) = d ∧ (lo + 18446744073709551616 * hi) / d % 2 = 1)
      · rw [if_pos cu]
        by_cases cw : (lo + 18446744073709551616 * hi) / d + 1 < 18446744073709551616
        · rw [if_pos cw]
          refine Ev.step (f := fun _ => some _) (fun k => ?_) (Ev.now _)
          simp only [half_Near.j0]
          rw [if_neg (by simp [cu]), u64_id (by omega) cw, if_neg (by omega)]
        · rw [if_neg cw]
          refine Ev.step (f := fun _ => some _) (fun k => ?_) (Ev.now _)
          simp only [half_Near.j0]
          rw [if_neg (by simp [cu]), u64_mod, if_pos (by omega)]
      · rw [if_neg cu, Int.add_zero, if_pos hq1]
        refine Ev.step (f := fun _ => some _) (fun k => ?_) (Ev.now _)
        simp only [half_Near.j0]
        rw [if_pos (by simp [cu])]

theorem half_shift_ok {hi lo : Int} (n : Int) (h1 : 0 ≤ hi ∧ hi < 18446744073709551616) (h2 : 0 ≤ lo ∧ lo < 18446744073709551616) :
    Ev (fun k => half_Shift.f k hi lo n) (near (lo + 18446744073709551616 * hi) (2 ^ min n.toNat 63)) := by
  have hm : mn (mx n 0) 63 = ((min n.toNat 63 : Nat) : Int) := by
    unfold mn mx
    by_cases h : n < 0
    · rw [if_pos h]; split <;> omega
    · rw [if_neg h]; split <;> omega
  have hs := pair_shl_ok (a0 := 0) (a1 := 1) ((min n.toNat 63 : Nat) : Int) (by omega) (by omega)
  have hk : min n.toNat 63 ≤ 63 := Nat.min_le_right _ _
  have he : held ((min n.toNat 63 : Nat) : Int) = min n.toNat 63 := by unfold held; omega
  rw [he] at hs
  generalize min n.toNat 63 = k at *
  have hp1 := p2_pos k
  have hp2 : (2 : Int) ^ k < 18446744073709551616 := by
    have h := p2_split k (by omega)
    have h2 := p2_pred (m := 64 - k) (by omega)
    have h3 := p2_pos (64 - k - 1)
    have h4 : (2 : Int) ^ k * 2 ≤ 2 ^ k * 2 ^ (64 - k) := Int.mul_le_mul_of_nonneg_left (by omega) (Int.le_of_lt hp1)
    omega
  have e1 : (1 + 18446744073709551616 * (0 : Int)) * 2 ^ k = 2 ^ k := by omega
  have hn := half_near_ok h1.1 h1.2 h2.1 h2.2 (Int.le_of_lt hp1) hp2
  rw [e1, Int.emod_eq_of_lt (a := 2 ^ k) (Int.le_of_lt hp1) hp2] at hs
  unfold half_Shift.f
  rw [hm]
  refine evs hs ?_
  exact Ev.bind hn (Ev.now _)

/-! ### the reference's quotient, bit by bit -/
theorem quot_step {T D q r b : Int} (hD : 0 < D) (hq : q = T / D) (hr : r = T % D) (hb0 : 0 ≤ b) (hb1 : b ≤ 1) :
    (2 * r + b ≥ D → (2 * T + b) / D = 2 * q + 1 ∧ (2 * T + b) % D = 2 * r + b - D) ∧ (2 * r + b < D → (2 * T + b) / D = 2 * q ∧ (2 * T + b) % D = 2 * r + b) := by
  obtain ⟨e, r0, r1⟩ := cut_ex T D hD
  rw [← hq, ← hr] at e
  rw [← hr] at r0 r1
  have e2 : D * (2 * q) = 2 * (D * q) := by rw [Int.mul_left_comm]
  constructor
  · intro h
    exact div_uniq (by rw [Int.mul_add, e2, Int.mul_one]; omega) (by omega) (by omega)
  · intro h
    exact div_uniq (by rw [e2]; omega) (by omega) (by omega)

theorem quot_bits (a : Int) (j : Nat) (hj : j < 16) : a / 2 ^ (15 - j) / 2 = a / 2 ^ (16 - j) ∧ a / 2 ^ (15 - j) % 2 + 2 * (a / 2 ^ (16 - j)) = a / 2 ^ (15 - j) := by
  have e : (2 : Int) ^ (16 - j) = 2 ^ (15 - j) * 2 := by
    have h := p2_pred (m := 16 - j) (by omega)
    rwa [show 16 - j - 1 = 15 - j by omega] at h
  have e2 : a / 2 ^ (16 - j) = a / 2 ^ (15 - j) / 2 := by rw [e, Int.ediv_ediv_of_nonneg (Int.le_of_lt (p2_pos _))]
  omega

theorem quot_l2 (a D q r : List Int) (hq : dok q) (tq : tg q) (hr : dok r) (hD : dok D) (N : Nat) (hlq : q.length ≤ N) (hlr : r.length ≤ N) (hlD : D.length ≤ N) (hN : N < 4000000) (hD0 : 0 < dv D) (T : Int) (eq : dv q = T / dv D) (er : dv r = T % dv D) (i x : Int) (hx0 : 0 ≤ x) (j : Nat) (hj : j < 16) (G : List Int → Prop)
    (H : ∀ q' r' : List Int, dok q' → tg q' → dok r' → q'.length ≤ N + 2 → r'.length ≤ N + 2 → dv q' = (2 * T + x / 2 ^ (15 - j) % 2) / dv D → dv r' = (2 * T + x / 2 ^ (15 - j) % 2) % dv D → ∃ z, Ev (fun k => regimenref03_Quotient.l1 k a D q' r' i ((j + 1 : Nat) : Int)) z ∧ G z) (d : Nat) :
    ∀ (m : Nat) (w : Int), 15 - m = d → j ≤ m → m ≤ 15 → w = x / 2 ^ (m - j) → x < 18446744073709551616 → ∃ z, Ev (fun k => regimenref03_Quotient.l2 k a D q r i (j : Int) w (m : Int)) z ∧ G z := by
  induction d with
  | zero =>
    intro m w hd hm hm2 hw hx1
    obtain rfl : m = 15 := by omega
    have hw0 : 0 ≤ w := by rw [hw]; exact Int.ediv_nonneg hx0 (Int.le_of_lt (p2_pos _))
    rw [hw]
    rw [hw] at hw0
    generalize hxx : x / 2 ^ (15 - j) = y at *
    have hb0 : 0 ≤ y % 2 ∧ y % 2 ≤ 1 := by omega
    obtain ⟨r2, hr2, dr2, vr2, lr2⟩ := plus_ok r r hr hr N hlr hlr (by omega)
    obtain ⟨r3, hr3, dr3, vr3, lr3⟩ := plus_ok r2 [y % 2] dr2 (dok_cons (by omega) dok_nil) (N + 1) lr2 (by simp) (by omega)
    obtain ⟨q2, hq2, dq2, vq2, lq2, tq2⟩ := tg_plus q q hq hq tq tq (by omega) (by omega) N hlq hlq
    have hc := cmp_ok r3 D dr3 hD (by omega) (by omega)
    have v3 : dv r3 = 2 * dv r + y % 2 := by rw [vr3, vr2]; simp [dv]; omega
    obtain ⟨s1, s2⟩ := quot_step hD0 eq er hb0.1 hb0.2
    by_cases c : dv r3 ≥ dv D
    · obtain ⟨r4, hr4, dr4, vr4, lr4⟩ := less_ok r3 D dr3 hD (by omega) c
      obtain ⟨q3, hq3, dq3, vq3, lq3, tq3⟩ := tg_plus q2 [1] dq2 (dok_cons (by omega) dok_nil) tq2 (.inl (by simp)) (by omega) (by simp) (N + 1) lq2 (by simp)
      obtain ⟨s3, s4⟩ := s1 (by omega)
      obtain ⟨z, hz, hG⟩ := H q3 r4 dq3 tq3 dr4 lq3 (by omega) (by rw [vq3, vq2, s3]; simp [dv]; omega) (by rw [vr4, v3, s4])
      refine ⟨z, ?_, hG⟩
      refine Ev.step (fun k => by rw [regimenref03_Quotient.l2]) ?_
      refine evn (by omega) ?_
      refine Ev.bind hr2 ?_
      rw [tmod_pos hw0]
      refine Ev.bind hr3 ?_
      refine Ev.bind hq2 ?_
      refine Ev.bind hc ?_
      refine evp (by rw [if_neg (by omega)]; split <;> omega) ?_
      refine Ev.bind hr4 ?_
      refine Ev.bind hq3 ?_
      rw [w64_succ (by omega)]
      exact hz
    · obtain ⟨s3, s4⟩ := s2 (by omega)
      obtain ⟨z, hz, hG⟩ := H q2 r3 dq2 tq2 dr3 (by omega) lr3 (by rw [vq2, s3]; omega) (by rw [v3, s4])
      refine ⟨z, ?_, hG⟩
      refine Ev.step (fun k => by rw [regimenref03_Quotient.l2]) ?_
      refine evn (by omega) ?_
      refine Ev.bind hr2 ?_
      rw [tmod_pos hw0]
      refine Ev.bind hr3 ?_
      refine Ev.bind hq2 ?_
      refine Ev.bind hc ?_
      refine evn (by rw [if_pos (by omega)]; omega) ?_
      rw [w64_succ (by omega)]
      exact hz
  | succ d ih =>
    intro m w hd hm hm2 hw hx1
    have hw0 : 0 ≤ w := by rw [hw]; exact Int.ediv_nonneg hx0 (Int.le_of_lt (p2_pos _))
    have hw1 : w ≤ x := by rw [hw]; exact Int.ediv_le_self _ hx0
    obtain ⟨z, hz, hG⟩ := ih (m + 1) (w / 2) (by omega) (by omega) (by omega) (by
      have h := p2_pred (m := m + 1 - j) (by omega)
      rw [show m + 1 - j - 1 = m - j by omega] at h
      rw [hw, Int.ediv_ediv_of_nonneg (Int.le_of_lt (p2_pos _)), ← h]) hx1
    refine ⟨z, ?_, hG⟩
    refine Ev.step (f := fun k => regimenref03_Quotient.l2 k a D q r i (j : Int) (w / 2) ((m + 1 : Nat) : Int)) (fun k => ?_) hz
    simp only [regimenref03_Quotient.l2]
    rw [if_pos (by omega), tdiv_pos hw0, u64_id (by omega) (by omega), w64_succ (by omega)]

theorem quot_l1 (a D : List Int) (ha : dok a) (hD : dok D) (hlD : D.length ≤ 1000) (hla : a.length ≤ 900) (hD0 : 0 < dv D) (i : Nat) (hi : i < a.length) (G : List Int → Prop)
    (H : ∀ q' r' : List Int, dok q' → tg q' → dok r' → q'.length ≤ 1000 + 32 * (a.length - i) → r'.length ≤ 1000 + 32 * (a.length - i) → dv q' = dv (a.drop i) / dv D → dv r' = dv (a.drop i) % dv D → ∃ z, Ev (fun k => regimenref03_Quotient.l0 k a D q' r' ((i : Int) - 1)) z ∧ G z) (d : Nat) :
    ∀ (j : Nat) (q r : List Int), 16 - j = d → j ≤ 16 → dok q → tg q → dok r → q.length ≤ 1000 + 32 * (a.length - (i + 1)) + 2 * j → r.length ≤ 1000 + 32 * (a.length - (i + 1)) + 2 * j →
      dv q = (dv (a.drop (i + 1)) * 2 ^ j + a.getD i 0 / 2 ^ (16 - j)) / dv D → dv r = (dv (a.drop (i + 1)) * 2 ^ j + a.getD i 0 / 2 ^ (16 - j)) % dv D →
      ∃ z, Ev (fun k => regimenref03_Quotient.l1 k a D q r (i : Int) (j : Int)) z ∧ G z := by
  have hA := dok_getD ha i
  have hdr : dv (a.drop i) = a.getD i 0 + 65536 * dv (a.drop (i + 1)) := by
    rw [List.drop_eq_getElem_cons hi, dv, List.getD_eq_getElem?_getD, List.getElem?_eq_getElem hi]
    rfl
  induction d with
  | zero =>
    intro j q r hd hj dq tq dr lq lr vq vr
    obtain rfl : j = 16 := by omega
    have e : dv (a.drop (i + 1)) * 2 ^ 16 + a.getD i 0 / 2 ^ (16 - 16) = dv (a.drop i) := by
      rw [hdr]; simp; omega
    rw [e] at vq vr
    obtain ⟨z, hz, hG⟩ := H q r dq tq dr (by omega) (by omega) vq vr
    refine ⟨z, ?_, hG⟩
    refine Ev.step (f := fun k => regimenref03_Quotient.l0 k a D q r ((i : Int) - 1)) (fun k => ?_) hz
    simp only [regimenref03_Quotient.l1]
    rw [if_neg (by omega), w64_id (by omega) (by omega)]
  | succ d ih =>
    intro j q r hd hj dq tq dr lq lr vq vr
    have hb := quot_bits (a.getD i 0) j (by omega)
    obtain ⟨z, hz, hG⟩ := quot_l2 a D q r dq tq dr hD (1000 + 32 * (a.length - (i + 1)) + 2 * j) lq lr (by omega) (by omega) hD0 _ vq vr (i : Int) (a.getD i 0) hA.1 j (by omega) G (fun q' r' g1 gt g2 g3 g4 g5 g6 => by
        have e : 2 * (dv (a.drop (i + 1)) * 2 ^ j + a.getD i 0 / 2 ^ (16 - j)) + a.getD i 0 / 2 ^ (15 - j) % 2 = dv (a.drop (i + 1)) * 2 ^ (j + 1) + a.getD i 0 / 2 ^ (16 - (j + 1)) := by
          rw [show 16 - (j + 1) = 15 - j by omega, Int.pow_succ, ← Int.mul_assoc]
          omega
        rw [e] at g5 g6
        exact ih (j + 1) q' r' (by omega) (by omega) g1 gt g2 (by omega) (by omega) g5 g6) _ j (a.getD i 0) rfl (Nat.le_refl _) (by omega) (by simp) (by omega)
    refine ⟨z, ?_, hG⟩
    refine Ev.step (f := fun k => regimenref03_Quotient.l2 k a D q r (i : Int) (j : Int) (a.getD i 0) (j : Int)) (fun k => ?_) hz
    simp only [regimenref03_Quotient.l1]
    rw [if_pos (by omega), if_pos (by omega), if_pos (by omega), rd_nat]

theorem quot_l0 (a D : List Int) (ha : dok a) (hD : dok D) (hlD : D.length ≤ 1000) (hla : a.length ≤ 900) (hD0 : 0 < dv D) (i : Nat) :
    ∀ (q r : List Int), i ≤ a.length → dok q → tg q → dok r → q.length ≤ 1000 + 32 * (a.length - i) → r.length ≤ 1000 + 32 * (a.length - i) → dv q = dv (a.drop i) / dv D → dv r = dv (a.drop i) % dv D →
      ∃ z, Ev (fun k => regimenref03_Quotient.l0 k a D q r ((i : Int) - 1)) z ∧ (dok z ∧ dv z = dv a / dv D ∧ z.length ≤ 1000 + 32 * a.length ∧ tg z) := by
  induction i with
  | zero =>
    intro q r hi dq tq dr lq lr vq vr
    refine ⟨q, ?_, dq, vq, lq, tq⟩
    refine Ev.step (f := fun _ => some q) (fun k => ?_) (Ev.now _)
    simp only [regimenref03_Quotient.l0]
    rw [if_neg (by omega)]
  | succ i ih =>
    intro q r hi dq tq dr lq lr vq vr
    have hA := dok_getD ha i
    have hz0 : a.getD i 0 / 65536 = 0 := Int.ediv_eq_zero_of_lt hA.1 hA.2
    obtain ⟨z, hz, hG⟩ := quot_l1 a D ha hD hlD hla hD0 i (by omega) (fun z => dok z ∧ dv z = dv a / dv D ∧ z.length ≤ 1000 + 32 * a.length ∧ tg z) (fun q' r' g1 gt g2 g3 g4 g5 g6 => ih q' r' (by omega) g1 gt g2 g3 g4 g5 g6) _ 0 q r rfl (by omega) dq tq dr (by omega) (by omega)
      (by rw [vq, Int.pow_zero, Int.mul_one, show (2 : Int) ^ (16 - 0) = 65536 from rfl, hz0, Int.add_zero]) (by rw [vr, Int.pow_zero, Int.mul_one, show (2 : Int) ^ (16 - 0) = 65536 from rfl, hz0, Int.add_zero])
    refine ⟨z, ?_, hG⟩
    refine Ev.step (f := fun k => regimenref03_Quotient.l1 k a D q r (i : Int) ((0 : Nat) : Int)) (fun k => ?_) hz
    simp only [regimenref03_Quotient.l0]
    rw [show (((i + 1 : Nat) : Int) - 1) = (i : Int) by omega, if_pos (by omega)]
    rfl

theorem quotient_ok (a D : List Int) (ha : dok a) (hD : dok D) (hlD : D.length ≤ 1000) (hla : a.length ≤ 900) (hD0 : 0 < dv D) :
    ∃ z, Ev (fun k => regimenref03_Quotient.f k a D) z ∧ dok z ∧ dv z = dv a / dv D ∧ z.length ≤ a.length + 1 := by
  obtain ⟨z, hz, h1, h2, h3, h4⟩ := quot_l0 a D ha hD hlD hla hD0 a.length [] [] (Nat.le_refl _) dok_nil (.inl (by simp)) dok_nil (by simp) (by simp) (by simp [dv]) (by simp [dv])
  refine ⟨z, ?_, h1, h2, ?_⟩
  · refine Ev.congr (fun k => ?_) hz
    unfold regimenref03_Quotient.f
    rw [w64_id (by omega) (by omega)]
  · refine tg_len h4 ?_
    have := dv_lt ha
    have : dv a / dv D ≤ dv a := Int.ediv_le_self _ (dv_nonneg ha)
    omega

theorem odd_ok (q : List Int) (hq : dok q) : regimenref03_Odd.f q = some (decide (dv q % 2 = 1)) := by
  unfold regimenref03_Odd.f
  cases q with
  | nil => simp [dv]
  | cons x l =>
    have hx := hq x List.mem_cons_self
    rw [if_pos (by simp), if_pos (by simp)]
    have e : rd (x :: l) 0 = x := rfl
    rw [e, tmod_pos hx.1]
    congr 1
    rw [Bool.eq_iff_iff, beq_iff_eq, decide_eq_true_iff]
    simp only [dv]
    omega

theorem rounded_t (a D : List Int) (ha : dok a) (hD : dok D) (hlD : D.length ≤ 1000) (hla : a.length ≤ 900) (hD0 : 0 < dv D) :
    ∃ z, Ev (fun k => regimenref03_Rounded.f k a D) z ∧ dok z ∧ dv z = rnd (dv a) (dv D) ∧ z.length ≤ a.length + 2 := by
  obtain ⟨q, hq, dq, vq, lq⟩ := quotient_ok a D ha hD hlD hla hD0
  obtain ⟨p, hp, dp, vp, lp⟩ := times_ok q D dq hD (by omega) (by omega)
  have da : dok (a ++ [0]) := dok_snoc ha (by omega)
  have va : dv (a ++ [0]) = dv a := by rw [dv_snoc]; simp
  obtain ⟨c1, c2, c3⟩ := cut_ex (dv a) (dv D) hD0
  have hpa : dv p + dv a % dv D = dv a := by rw [vp, vq, Int.mul_comm]; omega
  obtain ⟨r, hr, dr, vr, lr⟩ := less_ok (a ++ [0]) p da dp (by simp; omega) (by rw [va]; omega)
  obtain ⟨r2, hr2, dr2, vr2, lr2⟩ := plus_ok r r dr dr 1000 (by simp at lr; omega) (by simp at lr; omega) (by omega)
  have hc := cmp_ok r2 D dr2 hD (by omega) (by omega)
  obtain ⟨q1, hq1, dq1, vq1, lq1⟩ := plus_ok q [1] dq (dok_cons (by omega) dok_nil) (a.length + 1) (by omega) (by simp) (by omega)
  have ho := odd_ok q dq
  have v2 : dv r2 = 2 * (dv a % dv D) := by rw [vr2, vr, va]; omega
  rw [v2] at hc
  rw [vq] at ho
  have vq1 : dv q1 = dv a / dv D + 1 := by rw [vq1, vq]; simp [dv]
  have main : ∀ z, Ev (fun k => if (if 2 * (dv a % dv D) < dv D then (-1 : Int) else if 2 * (dv a % dv D) > dv D then 1 else 0) > 0 then (regimenref02_Plus.f k q ([1] : List Int)).bind fun t419 => some t419 else (if (if 2 * (dv a % dv D) < dv D then (-1 : Int) else if 2 * (dv a % dv D) > dv D then 1 else 0) = 0 then (regimenref03_Odd.f q).bind fun t422 => (if t422 = true then (regimenref02_Plus.f k q ([1] : List Int)).bind fun t426 => some t426 else some q) else some q)) z → Ev (fun k => regimenref03_Rounded.f k a D) z := by
    intro z hz
    unfold regimenref03_Rounded.f
    refine Ev.bind hq ?_
    refine evs rfl ?_
    refine evp (by simp; omega) ?_
    refine evs rfl ?_
    refine evp (by simp; omega) ?_
    refine Ev.bind hp ?_
    refine Ev.bind hr ?_
    refine Ev.bind hr2 ?_
    refine Ev.bind hc ?_
    exact hz
  unfold rnd
  by_cases k1 : 2 * (dv a % dv D) > dv D
  · refine ⟨q1, main q1 ?_, dq1, ?_, by omega⟩
    · refine evp (by rw [if_neg (by omega), if_pos k1]; omega) ?_
      exact Ev.bind hq1 (Ev.now _)
    · rw [if_pos (.inl k1), vq1]
  · by_cases k2 : 2 * (dv a % dv D) = dv D
    · by_cases k3 : dv a / dv D % 2 = 1
      · refine ⟨q1, main q1 ?_, dq1, ?_, by omega⟩
        · refine evn (by rw [if_neg (by omega), if_neg k1]; omega) ?_
          refine evp (by rw [if_neg (by omega), if_neg k1]) ?_
          refine evs ho ?_
          refine evp (by simp [k3]) ?_
          exact Ev.bind hq1 (Ev.now _)
        · rw [if_pos (.inr ⟨k2, k3⟩), vq1]
      · refine ⟨q, main q ?_, dq, ?_, by omega⟩
        · refine evn (by rw [if_neg (by omega), if_neg k1]; omega) ?_
          refine evp (by rw [if_neg (by omega), if_neg k1]) ?_
          refine evs ho ?_
          refine evn (by simp [k3]) ?_
          exact Ev.now _
        · rw [if_neg (by omega), vq, Int.add_zero]
    · refine ⟨q, main q ?_, dq, ?_, by omega⟩
      · refine evn (by rw [if_pos (by omega)]; omega) ?_
        refine evn (by rw [if_pos (by omega)]; omega) ?_
        exact Ev.now _
      · rw [if_neg (by omega), vq, Int.add_zero]
theorem rounded_ok (a D : List Int) (ha : dok a) (hD : dok D) (hlD : D.length ≤ 1000) (hla : a.length ≤ 900) (hD0 : 0 < dv D) :
    ∃ z, Ev (fun k => regimenref03_Rounded.f k a D) z ∧ dok z ∧ dv z = rnd (dv a) (dv D) ∧ z.length ≤ 5000 := by
  obtain ⟨z, h1, h2, h3, h4⟩ := rounded_t a D ha hD hlD hla hD0
  exact ⟨z, h1, h2, h3, by omega⟩
end Go.Proofs.Ytcgdhpnobgimfaa.Num
end
section
namespace Go.Proofs.Ytcgdhpnobgimfaa.Num
set_option linter.unusedVariables false
set_option linter.unusedSimpArgs false
open Go.RowKit Go.Proofs.Ytcgdhpnobgimfaa.PT Go.Proofs.YtcgdhpnobgimfaaW.PrintWords Go.Proofs.YtcgdhpnobgimfaaW.PrintMore

/-- How far a whole number is from 0. -/
def iabs (x : Int) : Int := if x < 0 then -x else x
/-- An int by its size and its sign, where there is one. -/
def sgn (u : Int) (neg : Bool) : Int × Int := if neg = true then (if u ≤ 9223372036854775808 then (-u, 0) else (0, 4)) else (if u < 9223372036854775808 then (u, 0) else (0, 4))
def opp (x y : Int) : Bool := decide (x < 0) != decide (y < 0)
def fdiv (x y : Int) : Int × Int := if y = 0 then (0, 5) else sgn (rnd (iabs x * 4294967296) (iabs y)) (opp x y)

theorem iabs_nonneg (x : Int) : 0 ≤ iabs x := by unfold iabs; split <;> omega
theorem iabs_lt {x : Int} (h : -9223372036854775808 ≤ x ∧ x < 9223372036854775808) : iabs x ≤ 9223372036854775808 := by unfold iabs; split <;> omega
theorem rnd_nonneg {V d : Int} (h0 : 0 ≤ V) (h1 : 0 < d) : 0 ≤ rnd V d := by
  have h := rnd_bounds V d
  have := Int.ediv_nonneg h0 (Int.le_of_lt h1)
  omega
theorem near_sgn {α : Type} {V d : Int} (hd : d ≠ 0) : near V d = if rnd V d < 18446744073709551616 then (rnd V d, 0) else (0, 4) := by
  unfold near
  rw [if_neg hd]

theorem wrap_abs {x : Int} (h : -9223372036854775808 ≤ x ∧ x < 9223372036854775808) : (x < 0 → IntKind.u64.wrap (-(IntKind.u64.wrap x)) = iabs x) ∧ (¬ x < 0 → IntKind.u64.wrap x = iabs x) := by
  unfold iabs
  constructor
  · intro hx
    rw [if_pos hx, u64_mod, u64_mod]
    omega
  · intro hx
    rw [if_neg hx, u64_id (by omega) (by omega)]
theorem fix_size_ok {x : Int} (h : -9223372036854775808 ≤ x ∧ x < 9223372036854775808) : fix_Size.f x = some (iabs x) := by
  unfold fix_Size.f
  by_cases c : x < 0
  · rw [if_pos c, (wrap_abs h).1 c]
  · rw [if_neg c, (wrap_abs h).2 c]
theorem ref_size_ok {x : Int} (h : -9223372036854775808 ≤ x ∧ x < 9223372036854775808) : ∃ l, regimenref02_Size.f x = some l ∧ dok l ∧ dv l = iabs x ∧ l.length = 4 := by
  obtain ⟨l, hl, p⟩ := word_ok (iabs x) (iabs_nonneg x) (by have := iabs_lt h; omega)
  refine ⟨l, ?_, p⟩
  unfold regimenref02_Size.f
  by_cases c : x < 0
  · rw [if_pos c, (wrap_abs h).1 c, hl]
    rfl
  · rw [if_neg c, (wrap_abs h).2 c, hl]
    rfl
theorem fix_signed_ok {u : Int} (neg : Bool) (h0 : 0 ≤ u) (h1 : u < 18446744073709551616) : Ev (fun k => fix_Signed.f k u neg) (sgn u neg) := by
  unfold fix_Signed.f sgn
  cases neg with
  | true =>
    refine evp rfl ?_
    rw [if_pos rfl]
    by_cases c : u ≤ 9223372036854775808
    · rw [if_pos c, decide_eq_true c]
      refine Ev.step (f := fun _ => some _) (fun k => ?_) (Ev.now _)
      rw [fix_Signed.j0, if_pos rfl]
      congr 2
      rw [u64_mod]
      unfold wrap64
      omega
    · rw [if_neg c, decide_eq_false c]
      refine Ev.step (f := fun _ => some _) (fun k => ?_) (Ev.now _)
      rw [fix_Signed.j0, if_neg (by simp), if_pos rfl]
  | false =>
    refine evn (by simp) ?_
    rw [if_neg (by simp)]
    by_cases c : u < 9223372036854775808
    · rw [if_pos c]
      refine Ev.step (f := fun _ => some _) (fun k => ?_) (Ev.now _)
      rw [fix_Signed.j0, if_neg (by simp), if_neg (by simp), if_pos c, w64_id (by omega) (by omega)]
    · rw [if_neg c]
      refine Ev.step (f := fun _ => some _) (fun k => ?_) (Ev.now _)
      rw [fix_Signed.j0, if_neg (by simp), if_neg (by simp), if_neg c]
theorem ref_signed_ok (a : List Int) (ha : dok a) (hl : a.length < 4294967296) (neg : Bool) : Ev (fun k => regimenref04_Signed.f k a neg) (sgn (dv a) neg) := by
  obtain ⟨t, ht, dt, vt, lt⟩ := twos_ok 63 (by omega)
  have vt : dv t = 9223372036854775808 := vt
  have lt : t.length ≤ 64 := lt
  have hc := cmp_ok a t ha dt hl (by omega)
  have hm := mod_ok a ha
  have h0 := dv_nonneg ha
  rw [vt] at hc
  unfold regimenref04_Signed.f
  refine Ev.bind ht ?_
  refine Ev.bind hc ?_
  by_cases c : dv a > 9223372036854775808
  · have e : sgn (dv a) neg = (0, 4) := by
      unfold sgn
      cases neg
      · rw [if_neg (by simp), if_neg (by omega)]
      · rw [if_pos rfl, if_neg (by omega)]
    rw [e]
    refine evp (by rw [if_neg (by omega), if_pos c]; omega) ?_
    refine Ev.step (f := fun _ => some _) (fun k => ?_) (Ev.now _)
    rw [regimenref04_Signed.j0, if_pos rfl]
  · have hmm : dv a % 18446744073709551616 = dv a := Int.emod_eq_of_lt h0 (by omega)
    rw [hmm] at hm
    have fin : ∀ b : Bool, (b = false → neg = true ∨ dv a < 9223372036854775808) → (b = true → neg = false ∧ dv a = 9223372036854775808) → Ev (fun k => regimenref04_Signed.j0 k a neg b) (sgn (dv a) neg) := by
      intro b hb1 hb2
      cases b with
      | true =>
        obtain ⟨g1, g2⟩ := hb2 rfl
        subst g1
        refine Ev.step (f := fun _ => some _) (fun k => ?_) (Ev.now _)
        rw [regimenref04_Signed.j0, if_pos rfl]
        unfold sgn
        rw [if_neg (by simp), if_neg (by omega)]
      | false =>
        refine Ev.step (fun k => by rw [regimenref04_Signed.j0]) ?_
        refine evn (by simp) ?_
        refine Ev.bind hm ?_
        cases neg with
        | true =>
          refine evp rfl ?_
          refine Ev.congr (fun k => ?_) (Ev.now _)
          unfold sgn
          rw [if_pos rfl, if_pos (by omega)]
          congr 2
          rw [u64_mod]
          unfold wrap64
          omega
        | false =>
          have := (hb1 rfl).resolve_left (by simp)
          refine evn (by simp) ?_
          refine Ev.congr (fun k => ?_) (Ev.now _)
          unfold sgn
          rw [if_neg (by simp), if_pos this, w64_id (by omega) (by omega)]
    by_cases c2 : dv a < 9223372036854775808
    · rw [if_pos c2]
      refine evn (by omega) ?_
      refine evn (by omega) ?_
      exact fin false (fun _ => .inr c2) (fun h => by cases h)
    · rw [if_neg c2, if_neg c]
      refine evn (by omega) ?_
      refine evp rfl ?_
      cases neg with
      | true => exact fin _ (fun _ => .inl rfl) (fun h => by cases h)
      | false => exact fin _ (fun h => by cases h) (fun _ => ⟨rfl, by omega⟩)
end Go.Proofs.Ytcgdhpnobgimfaa.Num
end
section
namespace Go.Proofs.Ytcgdhpnobgimfaa.Num
set_option linter.unusedVariables false

theorem rnd_exact (q : Int) {d : Int} (h : 0 < d) : rnd (q * d) d = q := by
  unfold rnd
  rw [Int.mul_ediv_cancel _ (by omega), Int.mul_emod_left, if_neg (by omega)]
  omega
theorem rnd_mono {V V' d : Int} (hd : 0 < d) (h : V ≤ V') : rnd V d ≤ rnd V' d := by
  obtain ⟨e, r0, r1⟩ := cut_ex V d hd
  obtain ⟨e', r0', r1'⟩ := cut_ex V' d hd
  have hq : V / d ≤ V' / d := Int.ediv_le_ediv hd h
  have hb := rnd_bounds V d
  have hb' := rnd_bounds V' d
  by_cases c : V / d = V' / d
  · unfold rnd
    rw [c] at e ⊢
    split
    · rw [if_pos (by omega)]
      omega
    · split <;> omega
  · omega
theorem rnd_le {V d q : Int} (hd : 0 < d) (h : V ≤ q * d) : rnd V d ≤ q := by
  have := rnd_mono hd h
  rwa [rnd_exact q hd] at this
end Go.Proofs.Ytcgdhpnobgimfaa.Num
end
section
namespace Go.Proofs.Ytcgdhpnobgimfaa.Num
set_option linter.unusedVariables false
set_option linter.unusedSimpArgs false
open Go.RowKit Go.Proofs.Ytcgdhpnobgimfaa.PT Go.Proofs.YtcgdhpnobgimfaaW.PrintWords Go.Proofs.YtcgdhpnobgimfaaW.PrintMore

/-- q is the nearest one to V / d; of two that are as near the even one. -/
def nearp (V d q : Int) : Prop := (2 * V - 2 * (q * d) < d ∧ -d < 2 * V - 2 * (q * d)) ∨ ((2 * V - 2 * (q * d) = d ∨ 2 * V - 2 * (q * d) = -d) ∧ q % 2 = 0)
theorem nearp_rnd {V d : Int} (hd : 0 < d) : nearp V d (rnd V d) := by
  obtain ⟨e, r0, r1⟩ := cut_ex V d hd
  unfold nearp rnd
  have h1 : (V / d + 1) * d = d * (V / d) + d := by rw [Int.add_mul, Int.one_mul, Int.mul_comm]
  have h2 : V / d * d = d * (V / d) := Int.mul_comm _ _
  split
  · rename_i c
    rw [h1]
    rcases c with c | c
    · left; omega
    · right; omega
  · rename_i c
    rw [Int.add_zero, h2]
    by_cases t : 2 * (V % d) = d
    · right; omega
    · left; omega
theorem nearp_uniq {V d q p : Int} (hd : 0 < d) (hq : nearp V d q) (hp : nearp V d p) : q = p := by
  have key : ∀ {q p : Int}, nearp V d q → nearp V d p → ¬ q < p := by
    intro q p hq hp h
    unfold nearp at hq hp
    have m : (q + 1) * d ≤ p * d := Int.mul_le_mul_of_nonneg_right (by omega) (by omega)
    rw [Int.add_mul, Int.one_mul] at m
    have e : p * d = q * d + d := by omega
    have e2 : p * d = (q + 1) * d := by rw [Int.add_mul, Int.one_mul]; exact e
    have e3 : p = q + 1 := Int.eq_of_mul_eq_mul_right (by omega) e2
    omega
  have h1 := key hq hp
  have h2 := key hp hq
  omega
theorem rnd_of {V d q : Int} (hd : 0 < d) (h : nearp V d q) : rnd V d = q := nearp_uniq hd (nearp_rnd hd) h
theorem rnd_shift {V d : Int} (q : Int) (hd : 0 < d) (hq : q % 2 = 0) : rnd (q * d + V) d = q + rnd V d := by
  refine rnd_of hd ?_
  have h := nearp_rnd (V := V) hd
  unfold nearp at *
  rw [Int.add_mul]
  omega
/-- The nearest decimal of so many digits is read as the number, if any one of so many is. -/
theorem short {f P F : Int} (hP : 0 < P) (h : rnd (F * 4294967296) P = f) : rnd (rnd (f * P) 4294967296 * 4294967296) P = f := by
  refine rnd_of hP ?_
  have h1 := nearp_rnd (V := F * 4294967296) hP
  rw [h] at h1
  have h2 := nearp_rnd (V := f * P) (d := 4294967296) (by omega)
  generalize rnd (f * P) 4294967296 = D at *
  unfold nearp at *
  rcases Int.lt_or_le D F with c | c
  · omega
  · rcases Int.lt_or_le F D with c2 | c2
    · omega
    · have : F = D := by omega
      subst this
      exact h1
theorem short_ten (f : Int) : rnd (rnd (f * 10000000000) 4294967296 * 4294967296) 10000000000 = f := by
  refine rnd_of (by omega) ?_
  have h2 := nearp_rnd (V := f * 10000000000) (d := 4294967296) (by omega)
  generalize rnd (f * 10000000000) 4294967296 = D at *
  unfold nearp at *
  omega
theorem ten_pos (n : Nat) : (0 : Int) < 10 ^ n := Int.pow_pos (by decide)
theorem ten_even {n : Nat} (h : 0 < n) : (10 : Int) ^ n % 2 = 0 := by
  obtain ⟨m, rfl⟩ : ∃ m, n = m + 1 := ⟨n - 1, by omega⟩
  rw [Int.pow_succ]
  omega
theorem mul_even {a b : Int} (h : b % 2 = 0) : a * b % 2 = 0 := by
  rw [Int.mul_emod, h]
  simp
theorem ten_mono {m n : Nat} (h : m ≤ n) : (10 : Int) ^ m ≤ 10 ^ n := by
  obtain ⟨d, rfl⟩ := Nat.exists_eq_add_of_le h
  rw [Int.pow_add]
  have h1 := ten_pos m
  have h2 := ten_pos d
  have := Int.mul_le_mul_of_nonneg_left (show (1 : Int) ≤ 10 ^ d from h2) (Int.le_of_lt h1)
  omega
/-! ### Digits of a given number of places -/
theorem valf_acc (l : List Int) : ∀ a : Int, valf a l = a * 10 ^ l.length + valf 0 l := by
  induction l with
  | nil => intro a; simp [valf]
  | cons x t ih =>
    intro a
    rw [valf_cons, valf_cons, ih, ih (10 * 0 + (x - 48)), List.length_cons, Int.pow_succ, Int.add_mul, Int.mul_zero, Int.zero_add, Int.add_assoc, Int.mul_comm 10 a, Int.mul_assoc, Int.mul_comm 10]
theorem valf_join (l m : List Int) : valf 0 (l ++ m) = valf 0 l * 10 ^ m.length + valf 0 m := by
  rw [valf_app, valf_acc]
theorem valf_bd {l : List Int} (h : ∀ x, x ∈ l → isDig x) : 0 ≤ valf 0 l ∧ valf 0 l < 10 ^ l.length := by
  have h1 := valf_mono h (Int.le_refl 0)
  have h2 := valf_lt h (a := 0) (i := 0) (by omega) (by decide)
  rw [Nat.zero_add] at h2
  exact ⟨h1, h2⟩
theorem valf_zeros (n : Nat) : valf 0 (List.replicate n 48) = 0 := by
  induction n with
  | zero => rfl
  | succ n ih =>
    rw [List.replicate_succ, valf_cons]
    exact ih
/-- A number's last n digits. -/
def padn : Nat → Int → List Int
  | 0, _ => []
  | n + 1, d => padn n (d / 10) ++ [48 + d % 10]
theorem padn_len (n : Nat) : ∀ d : Int, (padn n d).length = n := by
  induction n with
  | zero => intro d; rfl
  | succ n ih => intro d; simp [padn, ih]
theorem padn_dig (n : Nat) : ∀ d : Int, ∀ x, x ∈ padn n d → isDig x := by
  induction n with
  | zero => intro d x h; cases h
  | succ n ih =>
    intro d x h
    rcases List.mem_append.1 h with h | h
    · exact ih _ x h
    · rw [List.mem_singleton] at h
      unfold isDig
      omega
theorem snoc_ex {l : List Int} {n : Nat} (h : l.length = n + 1) : ∃ m x, l = m ++ [x] ∧ m.length = n := by
  refine ⟨l.dropLast, l.getLast (by intro e; rw [e] at h; simp at h), (List.dropLast_concat_getLast _).symm, ?_⟩
  rw [List.length_dropLast, h]
  rfl
theorem padn_of (n : Nat) : ∀ l : List Int, l.length = n → (∀ x, x ∈ l → isDig x) → l = padn n (valf 0 l) := by
  induction n with
  | zero =>
    intro l h _
    rw [List.length_eq_zero_iff.1 h]
    rfl
  | succ n ih =>
    intro l h hd
    obtain ⟨m, x, rfl, hm⟩ := snoc_ex h
    have hx := hd x (by simp)
    have x0 := hx.1
    have x1 := hx.2
    have e : valf 0 (m ++ [x]) = 10 * valf 0 m + (x - 48) := by
      rw [valf_app]
      rfl
    rw [e]
    show m ++ [x] = padn n ((10 * valf 0 m + (x - 48)) / 10) ++ [48 + (10 * valf 0 m + (x - 48)) % 10]
    rw [show (10 * valf 0 m + (x - 48)) / 10 = valf 0 m from by omega, show 48 + (10 * valf 0 m + (x - 48)) % 10 = x from by omega]
    rw [← ih m hm (fun y hy => hd y (by simp [hy]))]
/-- A number's digits. -/
def tell (u : Int) : List Int := dig 20 u []
theorem tell_ex {u : Int} (h0 : 0 ≤ u) (h1 : u < 100000000000000000000) : 0 < (tell u).length ∧ (tell u).length ≤ 20 ∧ (∀ x, x ∈ tell u → isDig x) ∧ valf 0 (tell u) = u ∧ (1 < (tell u).length → (tell u).getD 0 0 ≠ 48) := by
  obtain ⟨m, e, l0, l1, hd, hv, hz⟩ := dig_props 19 u [] h0 (by have : (10 : Int) ^ (19 + 1) = 100000000000000000000 := (by decide); omega)
  rw [List.append_nil] at e
  unfold tell
  rw [e]
  exact ⟨l0, l1, hd, hv, hz⟩
theorem tell_of {l : List Int} (hl : 0 < l.length) (h20 : l.length ≤ 20) (hd : ∀ x, x ∈ l → isDig x) (hz : l.length = 1 ∨ l.getD 0 0 ≠ 48) : tell (valf 0 l) = l := by
  have := dig_val (l.length - 1) l [] 20 (by omega) hd hz h20
  rw [List.append_nil] at this
  exact this
theorem tell_len {u : Int} {n : Nat} (h0 : 0 ≤ u) (hn : 0 < n) (h20 : n ≤ 20) (h1 : u < 10 ^ n) : (tell u).length ≤ n := by
  have hm := ten_mono h20
  have e20 : (10 : Int) ^ 20 = 100000000000000000000 := by decide
  obtain ⟨l0, l1, hd, hv, hz⟩ := tell_ex h0 (by omega)
  rcases Nat.lt_or_ge n (tell u).length with c | c
  · exfalso
    have z := hz (by omega)
    generalize tell u = l at *
    cases l with
    | nil => simp at l0
    | cons x t =>
      have hx := hd x (by simp)
      have x0 := hx.1
      have z : x ≠ 48 := z
      rw [valf_cons] at hv
      have g := valf_ge (l := t) (fun y hy => hd y (by simp [hy])) (a := 10 * 0 + (x - 48)) (by omega)
      have p := ten_mono (m := n) (n := t.length) (by simp at c; omega)
      have q : 1 * (10 : Int) ^ t.length ≤ (10 * 0 + (x - 48)) * 10 ^ t.length := Int.mul_le_mul_of_nonneg_right (by omega) (Int.le_of_lt (ten_pos _))
      omega
  · exact c
theorem dig_app {l m : List Int} (hl : ∀ x, x ∈ l → isDig x) (hm : ∀ x, x ∈ m → isDig x) : ∀ x, x ∈ l ++ m → isDig x := by
  intro x h
  rcases List.mem_append.1 h with h | h
  · exact hl x h
  · exact hm x h
theorem zeros_dig (n : Nat) : ∀ x, x ∈ List.replicate n (48 : Int) → isDig x := by
  intro x h
  rw [(List.mem_replicate.1 h).2]
  exact ⟨by omega, by omega⟩
/-- Zeros ahead of a number's digits, up to so many places. -/
theorem pad_zeros {u : Int} {n : Nat} (h0 : 0 ≤ u) (hn : 0 < n) (h20 : n ≤ 20) (h1 : u < 10 ^ n) : List.replicate (n - (tell u).length) 48 ++ tell u = padn n u := by
  have hm := ten_mono h20
  have e20 : (10 : Int) ^ 20 = 100000000000000000000 := by decide
  obtain ⟨l0, l1, hd, hv, hz⟩ := tell_ex h0 (by omega)
  have hl := tell_len h0 hn h20 h1
  have h := padn_of n (List.replicate (n - (tell u).length) 48 ++ tell u) (by simp; omega) (dig_app (zeros_dig _) hd)
  rw [valf_join, valf_zeros, hv, Int.zero_mul, Int.zero_add] at h
  exact h
/-- The text of W times 10 to the n and d, filled with zeros up to more than n places: W's digits and d's n places. -/
theorem split_text {W d : Int} {n : Nat} (hW : 0 ≤ W) (hW1 : W < 10000000000) (hn : 0 < n) (hn1 : n ≤ 10) (h0 : 0 ≤ d) (h1 : d < 10 ^ n) :
    List.replicate (n + 1 - (tell (W * 10 ^ n + d)).length) 48 ++ tell (W * 10 ^ n + d) = tell W ++ padn n d := by
  have hm := ten_mono hn1
  have e10 : (10 : Int) ^ 10 = 10000000000 := by decide
  have p := ten_pos n
  have hb : W * 10 ^ n ≤ 9999999999 * 10 ^ n := Int.mul_le_mul_of_nonneg_right (by omega) (by omega)
  have hb0 : 0 ≤ W * 10 ^ n := Int.mul_nonneg hW (by omega)
  obtain ⟨l0, l1, hd, hv, hz⟩ := tell_ex (u := W * 10 ^ n + d) (by omega) (by omega)
  generalize hT : tell (W * 10 ^ n + d) = T at *
  obtain ⟨Z, hZ⟩ : ∃ Z, Z = List.replicate (n + 1 - T.length) (48 : Int) ++ T := ⟨_, rfl⟩
  have hZd : ∀ x, x ∈ Z → isDig x := by rw [hZ]; exact dig_app (zeros_dig _) hd
  have hZv : valf 0 Z = W * 10 ^ n + d := by rw [hZ, valf_join, valf_zeros, hv, Int.zero_mul, Int.zero_add]
  have hZl : n + 1 ≤ Z.length := by rw [hZ]; simp; omega
  have hZl2 : Z.length ≤ 20 := by rw [hZ]; simp; omega
  rw [← hZ]
  have e := List.take_append_drop (Z.length - n) Z
  have hA : ∀ x, x ∈ Z.take (Z.length - n) → isDig x := fun x h => hZd x (List.mem_of_mem_take h)
  have hB : ∀ x, x ∈ Z.drop (Z.length - n) → isDig x := fun x h => hZd x (List.mem_of_mem_drop h)
  have lA : (Z.take (Z.length - n)).length = Z.length - n := by rw [List.length_take]; omega
  have lB : (Z.drop (Z.length - n)).length = n := by rw [List.length_drop]; omega
  have hAz : (Z.take (Z.length - n)).length = 1 ∨ (Z.take (Z.length - n)).getD 0 0 ≠ 48 := by
    by_cases c : Z.length = n + 1
    · left; omega
    · right
      have hzT : Z = T := by
        rw [hZ]
        have : n + 1 - T.length = 0 := by
          rw [hZ] at c
          simp at c
          omega
        rw [this]
        rfl
      have := hz (by rw [← hzT]; omega)
      rw [← hzT] at this
      rwa [List.getD_eq_getElem?_getD, List.getElem?_take_of_lt (by omega), ← List.getD_eq_getElem?_getD]
  have tA := tell_of (by omega) (by omega) hA hAz
  have pB := padn_of n _ lB hB
  have bB := valf_bd hB
  rw [lB] at bB
  have hv2 : valf 0 (Z.take (Z.length - n)) * 10 ^ n + valf 0 (Z.drop (Z.length - n)) = W * 10 ^ n + d := by
    have := valf_join (Z.take (Z.length - n)) (Z.drop (Z.length - n))
    rw [e, hZv, lB] at this
    exact this.symm
  have u1 := div_uniq (a := W * 10 ^ n + d) (P := 10 ^ n) (q := W) (r := d) (by rw [Int.mul_comm]) h0 h1
  have u2 := div_uniq (a := W * 10 ^ n + d) (P := 10 ^ n) (q := valf 0 (Z.take (Z.length - n))) (r := valf 0 (Z.drop (Z.length - n))) (by rw [← hv2, Int.mul_comm]) bB.1 bB.2
  rw [← e, ← tA, pB, ← u2.1, ← u2.2, u1.1, u1.2]
end Go.Proofs.Ytcgdhpnobgimfaa.Num
end
section
namespace Go.Proofs.Ytcgdhpnobgimfaa.Num
set_option linter.unusedVariables false
set_option linter.unusedSimpArgs false
open Go.RowKit Go.Proofs.Ytcgdhpnobgimfaa.PT Go.Proofs.YtcgdhpnobgimfaaW.PrintWords Go.Proofs.YtcgdhpnobgimfaaW.PrintMore

/-! ### The parts of a decimal -/
def isneg (l : List Int) : Bool := decide (0 < l.length ∧ l.getD 0 0 = 45)
def body (l : List Int) : List Int := if isneg l = true then l.drop 1 else l
def tailv (b : List Int) : Prop := lead b = b.length ∨ (b.getD (lead b) 0 = 46 ∧ lead b + 1 < b.length ∧ lead (b.drop (lead b + 1)) = b.length - (lead b + 1))
instance (b : List Int) : Decidable (tailv b) := by unfold tailv; infer_instance
def valid (b : List Int) : Prop := 0 < lead b ∧ ¬ (1 < lead b ∧ b.getD 0 0 = 48) ∧ tailv b
instance (b : List Int) : Decidable (valid b) := by unfold valid; infer_instance
def ahead (b : List Int) : List Int := b.take (lead b)
def frac (b : List Int) : List Int := b.drop (lead b + 1)
/-! ### What digits mean -/
theorem ten19 : (10 : Int) ^ 19 = 10000000000000000000 := by decide
theorem power_loop (n : Nat) (hn : n ≤ 19) (e : Nat) : ∀ i : Nat, i + e = n → Ev (fun k => dec_power.l0 k (10 ^ i) (n : Int) (i : Int)) (10 ^ n) := by
  induction e with
  | zero =>
    intro i h
    refine Ev.step (fun k => by rw [dec_power.l0]) ?_
    refine evn (by omega) ?_
    rw [show i = n from by omega]
    exact Ev.now _
  | succ e ih =>
    intro i h
    have hm := ten_mono (m := i + 1) (n := 19) (by omega)
    have hp : (10 : Int) ^ (i + 1) = 10 ^ i * 10 := Int.pow_succ ..
    have p := ten_pos i
    rw [ten19] at hm
    refine Ev.step (fun k => by rw [dec_power.l0]) ?_
    refine evp (by omega) ?_
    rw [← hp, u64_id (by omega) (by omega), w64_succ (by omega)]
    exact ih (i + 1) (by omega)
theorem power_ok (n : Nat) (hn : n ≤ 19) : Ev (fun k => dec_power.f k (n : Int)) (10 ^ n) := by
  unfold dec_power.f
  exact power_loop n hn n 0 (by omega)
theorem fraction_ok {D : Int} (n : Nat) (hn : n ≤ 19) (h0 : 0 ≤ D) (h1 : D ≤ 10 ^ n) : Ev (fun k => dec_fraction.f k D (n : Int)) (rnd (D * 4294967296) (10 ^ n)) := by
  have hm := ten_mono hn
  rw [ten19] at hm
  have hp := ten_pos n
  have hs := pair_shl_ok (a0 := 0) (a1 := D) 32 (by omega) (by omega)
  rw [show held 32 = 32 from rfl, show (2 : Int) ^ 32 = 4294967296 from by decide, Int.mul_zero, Int.add_zero] at hs
  have hN := half_near_ok (hi := D * 4294967296 / 18446744073709551616 % 18446744073709551616) (lo := D * 4294967296 % 18446744073709551616) (d := 10 ^ n) (by omega) (by omega) (by omega) (by omega) (by omega) (by omega)
  rw [show D * 4294967296 % 18446744073709551616 + 18446744073709551616 * (D * 4294967296 / 18446744073709551616 % 18446744073709551616) = D * 4294967296 from by omega] at hN
  have hr := rnd_le (V := D * 4294967296) (d := 10 ^ n) (q := 4294967296) hp (by omega)
  unfold near at hN
  rw [if_neg (by omega), if_pos (by omega)] at hN
  unfold dec_fraction.f
  refine evs hs ?_
  refine Ev.bind (power_ok n hn) ?_
  refine Ev.bind hN ?_
  exact Ev.now _
end Go.Proofs.Ytcgdhpnobgimfaa.Num
end
section
namespace Go.Proofs.Ytcgdhpnobgimfaa.Num
set_option linter.unusedVariables false
set_option linter.unusedSimpArgs false
open Go.RowKit Go.Proofs.Ytcgdhpnobgimfaa.PT Go.Proofs.YtcgdhpnobgimfaaW.PrintWords Go.Proofs.YtcgdhpnobgimfaaW.PrintMore

/-! ### How many places -/
/-! ### Tens, and what so many digits mean -/
theorem dok_one {x : Int} (h : 0 ≤ x ∧ x < 65536) : dok [x] := dok_cons h dok_nil
theorem tens_loop (n : Nat) (hn : n ≤ 100) (e : Nat) : ∀ (i : Nat) (a : List Int), i + e = n → dok a → dv a = 10 ^ i → a.length = i + 1 →
    ∃ l, Ev (fun k => regimenref05_Tens.l0 k (n : Int) a (i : Int)) l ∧ dok l ∧ dv l = 10 ^ n ∧ l.length = n + 1 := by
  induction e with
  | zero =>
    intro i a h da va la
    obtain rfl : i = n := by omega
    refine ⟨a, ?_, da, va, la⟩
    refine Ev.step (fun k => by rw [regimenref05_Tens.l0]) ?_
    exact evn (by omega) (Ev.now _)
  | succ e ih =>
    intro i a h da va la
    obtain ⟨p, hp, dp, vp, lp⟩ := times_ok a [10] da (dok_one (by omega)) (by omega) (by simp)
    obtain ⟨l, hl, r⟩ := ih (i + 1) p (by omega) dp (by rw [vp, va, Int.pow_succ]; simp [dv]) (by rw [lp, la]; simp)
    refine ⟨l, ?_, r⟩
    refine Ev.step (fun k => by rw [regimenref05_Tens.l0]) ?_
    refine evp (by omega) ?_
    refine Ev.bind hp ?_
    rw [w64_succ (by omega)]
    exact hl
theorem tens_ok (n : Nat) (hn : n ≤ 100) : ∃ l, Ev (fun k => regimenref05_Tens.f k (n : Int)) l ∧ dok l ∧ dv l = 10 ^ n ∧ l.length = n + 1 := by
  unfold regimenref05_Tens.f
  exact tens_loop n hn n 0 [1] (by omega) (dok_one (by omega)) (by simp [dv]) (by simp)
theorem read_ok5 (a : List Int) (n : Nat) (da : dok a) (hn : n ≤ 100) (la : a.length ≤ 800) : ∃ z, Ev (fun k => regimenref05_Read.f k a (n : Int)) z ∧ dok z ∧ dv z = rnd (dv a * 4294967296) (10 ^ n) ∧ z.length ≤ a.length + 40 := by
  obtain ⟨t, ht, dt, vt, lt⟩ := twos_ok 32 (by omega)
  rw [show (2 : Int) ^ (32 : Int).toNat = 4294967296 from by decide] at vt
  have lt : t.length ≤ 33 := lt
  obtain ⟨p, hp, dp, vp, lp⟩ := times_ok a t da dt (by omega) (by omega)
  obtain ⟨d, hd, dd, vd, ld⟩ := tens_ok n hn
  have hpos := ten_pos n
  obtain ⟨z, hz, dz, vz, lz⟩ := rounded_t p d dp dd (by omega) (by omega) (by omega)
  rw [vp, vt, vd] at vz
  refine ⟨z, ?_, dz, vz, by omega⟩
  unfold regimenref05_Read.f
  refine Ev.bind ht ?_
  refine Ev.bind hp ?_
  refine Ev.bind hd ?_
  exact Ev.bind hz (Ev.now _)
/-! ### The number that a decimal is read as -/
end Go.Proofs.Ytcgdhpnobgimfaa.Num
end
