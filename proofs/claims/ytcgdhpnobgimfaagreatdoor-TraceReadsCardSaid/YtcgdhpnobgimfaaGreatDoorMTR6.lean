/- The functions that these laws reach, each told by the evaluator: its plain text, and that a call of it comes to what the text says. What a Go value that can be read as data holds, told plainly: for the rows of laws. Numbers as digits to the base 2^16, the lowest first: plain facts on lists, no program. Texts as lists of bytes, by value. Counts as digits (layer 1): the program's and the reference's, by value. Which count a text is, and any number's digits (layer 1): the reference's, by value. What the reference's functions on digits (layer 2) come to: sums, products, differences, comparisons. What the functions on numbers of 128 bits (layer 2) come to: by their value, low + 2^64 * high. Shifts of numbers of 128 bits, and how many bits they have. -/
import Derived.Test.YtcgdhpnobgimfaaGreatDoorMTR5
import Derived.Test.YtcgdhpnobgimfaaGreatDoorMTR1
import Derived.ProofKit
import Derived.OpenShut
import Derived.SizedLaws
import Derived.Deep.Slices
import Derived.Test.YtcgdhpnobgimfaaGreatDoorMTR4
import Derived.Laws.BitsAllLaws
section
namespace Go.Proofs.YtcgdhpnobgimfaaGreatDoor.PR
open Go Go.Sym Go.Proofs Go.RowKit Go.Proofs.YtcgdhpnobgimfaaGreatDoorW.PrintWords
set_option maxRecDepth 100000
set_option linter.unusedVariables false
set_option linter.unusedSimpArgs false
def regimenref02_Size.c : Sym.Callee := ⟨(.cons (.int .i64) .nil), (.sl (.int .u64)), false, List Int, fun k x => regimenref02_Size.f x.1, fun z => z, []⟩
def regimenref02_Size.nf (k : Nat) (a0 : Int) : Option (List Int) := (if a0 < (0 : Int) then ((regimenref02_Word.f (IntKind.wrap .u64 ((0 : Int) - (IntKind.wrap .u64 (a0))))).bind fun t1 => (some t1)) else ((regimenref02_Word.f (IntKind.wrap .u64 (a0))).bind fun t2 => (some t2)))
noncomputable def regimenref02_Size.E : Env (List Int) := envOf tab Tryz.f76 false (.sl (.int .u64)) [] (fun y => y) [(103, regimenref02_Word.c)] [] []
theorem regimenref02_Size.h1 : obls regimenref02_Size.E Tryz.f76 = [] := by kernel_rfl
theorem regimenref02_Size.h2 : (fun k (x : El (.cons (.int .i64) .nil)) => regimenref02_Size.nf k x.1) = fun k x => mainK regimenref02_Size.E Tryz.f76 (.cons (.int .i64) .nil) k x := by kernel_rfl
set_option maxHeartbeats 2000000 in
theorem regimenref02_Size.bf (k : Nat) (a0 : Int) : Lo (regimenref02_Size.f a0) (regimenref02_Size.nf k a0) := by
  unfold regimenref02_Size.f regimenref02_Size.nf
  try simp only [Bool.false_xor, Bool.true_xor, wu8_64, wu8_u64, byL_nums, btS_bt, nil_tl, beq_decL, beq_decI]
  repeat' first
    | (with_reducible exact lo_refl _)
    | exact lo_none _
    | (with_reducible refine lo_lpos (by first | assumption | decide) ?_)
    | (with_reducible refine lo_lneg (by first | assumption | decide) ?_)
    | (with_reducible refine lo_ite (fun _ => ?_) (fun _ => ?_))
    | (with_reducible refine lo_bind (fun _ => ?_))
    | (with_reducible refine lo_left ?_)
    | (refine lo_neg (by decide) ?_)
    | (refine lo_pos (by first | assumption | omega) ?_)
    | (refine lo_neg (by first | assumption | omega) ?_)
    | (with_reducible refine lo_test (fun _ => by first | assumption | omega | (simp only [List.length_cons, List.length_nil]; omega) | decide) (fun _ => ?_))
    | (with_reducible refine lo_testn (fun _ => by first | assumption | omega) (fun _ => ?_))
    | (with_reducible refine lo_and (fun z => by first | exact z.1 | omega) (fun z => by first | exact z.2 | omega) (fun _ => ?_))
    | exact lo_refl _
    | (with_reducible refine lo_iff (by first | exact Iff.rfl | omega | (simp; done) | decide) (fun _ => ?_) (fun _ => ?_))
    | (with_reducible refine lo_iffn (by first | exact Iff.rfl | omega | (simp; done) | decide) (fun _ => ?_) (fun _ => ?_))
    | refine lo_ite (fun _ => ?_) (fun _ => ?_)
    | refine lo_bind (fun _ => ?_)
    | (refine lo_some ?_; first | rfl | (rw [Bool.false_xor]; rfl) | (rw [Bool.true_xor]; rfl) | (simp only [Bool.and_true]; rfl) | (simp; done))
    | (simp only [Int.zero_sub]; exact lo_refl _)
    | (with_reducible refine lo_lpos (by omega) ?_)
    | (with_reducible refine lo_lneg (by omega) ?_)
    | (with_reducible refine lo_lite (fun _ => ?_) (fun _ => ?_))
    | (with_reducible refine lo_rite (fun _ => ?_) (fun _ => ?_))
  all_goals (exfalso; first | omega | (simp_all; done) | (simp_all; omega))
theorem regimenref02_Size.al : AllLe (obls regimenref02_Size.E Tryz.f76) := by
  rw [regimenref02_Size.h1]
  exact .nil
theorem regimenref02_Size.ok : CalleeOk Tryz.prog 76 regimenref02_Size.c := fn_ok tabOk mixed (fun _ => rfl) Tryz.func76 rfl (by kernel_rfl) (ok_cons regimenref02_Word.ok ok_nil) regimenref02_Size.al (fun k x r h => (congrFun (congrFun regimenref02_Size.h2 k) x).symm.trans (regimenref02_Size.bf k _ r h))
def regimenref02_Times.c : Sym.Callee := ⟨(.cons (.sl (.int .u64)) (.cons (.sl (.int .u64)) .nil)), (.sl (.int .u64)), false, List Int, fun k x => regimenref02_Times.f k x.1 x.2.1, fun z => z, []⟩
def regimenref02_Times.nl0 (k : Nat) (x0 : List Int) (x1 : List Int) (r5 : List Int) (x6 : Int) : Option (List Int) := (if x6 < (x0.length : Int) then (regimenref02_Times.l1 k x0 x1 r5 x6 (0 : Int) (0 : Int)) else (some r5))
def regimenref02_Times.nl1 (k : Nat) (x0 : List Int) (x1 : List Int) (r5 : List Int) (x6 : Int) (x7 : Int) (x8 : Int) : Option (List Int) := (if x8 < (x1.length : Int) then (if 0 ≤ (wrap64 (x6 + x8)) then (if (wrap64 (x6 + x8)) < ((r5.length : Nat) : Int) then (if 0 ≤ x6 then (if x6 < (x0.length : Int) then (if 0 ≤ x8 then (if x8 < (x1.length : Int) then (if (65536 : Int) = 0 then none else (if 0 ≤ (wrap64 (x6 + x8)) then (if (wrap64 (x6 + x8)) < ((r5.length : Nat) : Int) then (if (65536 : Int) = 0 then none else (regimenref02_Times.l1 k x0 x1 (r5.set ((wrap64 (x6 + x8))).toNat (Int.tmod (IntKind.wrap .u64 ((IntKind.wrap .u64 ((r5.getD ((wrap64 (x6 + x8))).toNat 0) + (IntKind.wrap .u64 ((x0.getD (x6).toNat 0) * (x1.getD (x8).toNat 0))))) + x7)) (65536 : Int))) x6 (IntKind.wrap .u64 (Int.tdiv (IntKind.wrap .u64 ((IntKind.wrap .u64 ((r5.getD ((wrap64 (x6 + x8))).toNat 0) + (IntKind.wrap .u64 ((x0.getD (x6).toNat 0) * (x1.getD (x8).toNat 0))))) + x7)) (65536 : Int))) (wrap64 (x8 + (1 : Int))))) else none) else none)) else none) else none) else none) else none) else none) else none) else (if 0 ≤ (wrap64 (x6 + (x1.length : Int))) then (if (wrap64 (x6 + (x1.length : Int))) < ((r5.length : Nat) : Int) then (if 0 ≤ (wrap64 (x6 + (x1.length : Int))) then (if (wrap64 (x6 + (x1.length : Int))) < ((r5.length : Nat) : Int) then (regimenref02_Times.l0 k x0 x1 (r5.set ((wrap64 (x6 + (x1.length : Int)))).toNat (IntKind.wrap .u64 ((r5.getD ((wrap64 (x6 + (x1.length : Int)))).toNat 0) + x7))) (wrap64 (x6 + (1 : Int)))) else none) else none) else none) else none))
def regimenref02_Times.nf (k : Nat) (a0 : List Int) (a1 : List Int) : Option (List Int) := (if 0 ≤ (wrap64 ((a0.length : Int) + (a1.length : Int))) then (if (wrap64 ((a0.length : Int) + (a1.length : Int))) * ((8 : Nat) : Int) ≤ 281474976710656 then (regimenref02_Times.l0 k a0 a1 (List.replicate ((wrap64 ((a0.length : Int) + (a1.length : Int)))).toNat 0) (0 : Int)) else none) else none)
noncomputable def regimenref02_Times.E : Env (List Int) := envOf tab Tryz.f58 false (.sl (.int .u64)) [] (fun y => y) [] [⟨3, ⟨71, [(0, (.sl (.int .u64)), []), (1, (.sl (.int .u64)), []), (6, (.int .i64), [])], [], [(5, none, 99, (.int .u64))]⟩, fun k y => regimenref02_Times.l0 k y.1.1 y.1.2.1 y.2.2.1.1 y.1.2.2.1⟩, ⟨7, ⟨71, [(0, (.sl (.int .u64)), []), (1, (.sl (.int .u64)), []), (6, (.int .i64), []), (7, (.int .u64), []), (8, (.int .i64), [])], [], [(5, none, 99, (.int .u64))]⟩, fun k y => regimenref02_Times.l1 k y.1.1 y.1.2.1 y.2.2.1.1 y.1.2.2.1 y.1.2.2.2.1 y.1.2.2.2.2.1⟩] []
theorem regimenref02_Times.h1 : obls regimenref02_Times.E Tryz.f58 = [⟨(.cons (.cons (.sl (.int .u64)) (.cons (.sl (.int .u64)) (.cons (.int .i64) .nil))) (.cons .nil (.cons (.cons (.sl (.int .u64)) .nil) .nil))), fun k y => regimenref02_Times.l0 (k + 1) y.1.1 y.1.2.1 y.2.2.1.1 y.1.2.2.1, fun k y => regimenref02_Times.nl0 k y.1.1 y.1.2.1 y.2.2.1.1 y.1.2.2.1⟩, ⟨(.cons (.cons (.sl (.int .u64)) (.cons (.sl (.int .u64)) (.cons (.int .i64) .nil))) (.cons .nil (.cons (.cons (.sl (.int .u64)) .nil) .nil))), fun _ y => regimenref02_Times.l0 0 y.1.1 y.1.2.1 y.2.2.1.1 y.1.2.2.1, fun _ _ => none⟩, ⟨(.cons (.cons (.sl (.int .u64)) (.cons (.sl (.int .u64)) (.cons (.int .i64) (.cons (.int .u64) (.cons (.int .i64) .nil))))) (.cons .nil (.cons (.cons (.sl (.int .u64)) .nil) .nil))), fun k y => regimenref02_Times.l1 (k + 1) y.1.1 y.1.2.1 y.2.2.1.1 y.1.2.2.1 y.1.2.2.2.1 y.1.2.2.2.2.1, fun k y => regimenref02_Times.nl1 k y.1.1 y.1.2.1 y.2.2.1.1 y.1.2.2.1 y.1.2.2.2.1 y.1.2.2.2.2.1⟩, ⟨(.cons (.cons (.sl (.int .u64)) (.cons (.sl (.int .u64)) (.cons (.int .i64) (.cons (.int .u64) (.cons (.int .i64) .nil))))) (.cons .nil (.cons (.cons (.sl (.int .u64)) .nil) .nil))), fun _ y => regimenref02_Times.l1 0 y.1.1 y.1.2.1 y.2.2.1.1 y.1.2.2.1 y.1.2.2.2.1 y.1.2.2.2.2.1, fun _ _ => none⟩] := by kernel_rfl
theorem regimenref02_Times.h2 : (fun k (x : El (.cons (.sl (.int .u64)) (.cons (.sl (.int .u64)) .nil))) => regimenref02_Times.nf k x.1 x.2.1) = fun k x => mainK regimenref02_Times.E Tryz.f58 (.cons (.sl (.int .u64)) (.cons (.sl (.int .u64)) .nil)) k x := by kernel_rfl
theorem regimenref02_Times.bl0 (k : Nat) (x0 : List Int) (x1 : List Int) (r5 : List Int) (x6 : Int) : Lo (regimenref02_Times.l0 (k + 1) x0 x1 r5 x6) (regimenref02_Times.nl0 k x0 x1 r5 x6) := by
  rw [regimenref02_Times.l0]
  unfold regimenref02_Times.nl0
  try simp only [Bool.false_xor, Bool.true_xor, wu8_64, wu8_u64, byL_nums, btS_bt, nil_tl, beq_decL, beq_decI]
  repeat' first
    | (with_reducible exact lo_refl _)
    | exact lo_none _
    | (with_reducible refine lo_ite (fun _ => ?_) (fun _ => ?_))
    | (with_reducible refine lo_bind (fun _ => ?_))
    | (with_reducible refine lo_left ?_)
    | (refine lo_pos (by first | assumption | omega) ?_)
    | (refine lo_neg (by first | assumption | omega) ?_)
    | (with_reducible refine lo_test (fun _ => by first | assumption | omega) (fun _ => ?_))
    | exact lo_refl _
    | refine lo_ite (fun _ => ?_) (fun _ => ?_)
    | refine lo_bind (fun _ => ?_)
    | (refine lo_some ?_; first | rfl | (rw [Bool.false_xor]; rfl))
  all_goals (exfalso; first | omega | (simp_all; done) | (simp_all; omega))
theorem regimenref02_Times.bl1 (k : Nat) (x0 : List Int) (x1 : List Int) (r5 : List Int) (x6 : Int) (x7 : Int) (x8 : Int) : Lo (regimenref02_Times.l1 (k + 1) x0 x1 r5 x6 x7 x8) (regimenref02_Times.nl1 k x0 x1 r5 x6 x7 x8) := by
  rw [regimenref02_Times.l1]
  unfold regimenref02_Times.nl1
  try simp only [Bool.false_xor, Bool.true_xor, wu8_64, wu8_u64, byL_nums, btS_bt, nil_tl, beq_decL, beq_decI]
  repeat' first
    | (with_reducible exact lo_refl _)
    | exact lo_none _
    | (with_reducible refine lo_ite (fun _ => ?_) (fun _ => ?_))
    | (with_reducible refine lo_bind (fun _ => ?_))
    | (with_reducible refine lo_left ?_)
    | (refine lo_pos (by first | assumption | omega) ?_)
    | (refine lo_neg (by first | assumption | omega) ?_)
    | (with_reducible refine lo_test (fun _ => by first | assumption | omega) (fun _ => ?_))
    | exact lo_refl _
    | refine lo_ite (fun _ => ?_) (fun _ => ?_)
    | refine lo_bind (fun _ => ?_)
    | (refine lo_some ?_; first | rfl | (rw [Bool.false_xor]; rfl))
  all_goals (exfalso; first | omega | (simp_all; done) | (simp_all; omega))
set_option maxHeartbeats 2000000 in
theorem regimenref02_Times.bf (k : Nat) (a0 : List Int) (a1 : List Int) : Lo (regimenref02_Times.f k a0 a1) (regimenref02_Times.nf k a0 a1) := by
  unfold regimenref02_Times.f regimenref02_Times.nf
  try simp only [Bool.false_xor, Bool.true_xor, wu8_64, wu8_u64, byL_nums, btS_bt, nil_tl, beq_decL, beq_decI]
  repeat' first
    | (with_reducible exact lo_refl _)
    | exact lo_none _
    | (with_reducible refine lo_ite (fun _ => ?_) (fun _ => ?_))
    | (with_reducible refine lo_bind (fun _ => ?_))
    | (with_reducible refine lo_left ?_)
    | (refine lo_pos (by first | assumption | omega) ?_)
    | (refine lo_neg (by first | assumption | omega) ?_)
    | (with_reducible refine lo_test (fun _ => by first | assumption | omega) (fun _ => ?_))
    | exact lo_refl _
    | refine lo_ite (fun _ => ?_) (fun _ => ?_)
    | refine lo_bind (fun _ => ?_)
    | (refine lo_some ?_; first | rfl | (rw [Bool.false_xor]; rfl))
  all_goals (exfalso; first | omega | (simp_all; done) | (simp_all; omega))
theorem regimenref02_Times.al : AllLe (obls regimenref02_Times.E Tryz.f58) := by
  rw [regimenref02_Times.h1]
  exact (.cons (fun k y r h => regimenref02_Times.bl0 k y.1.1 y.1.2.1 y.2.2.1.1 y.1.2.2.1 r h) (.cons (fun _ y r h => by simp [regimenref02_Times.l0] at h) (.cons (fun k y r h => regimenref02_Times.bl1 k y.1.1 y.1.2.1 y.2.2.1.1 y.1.2.2.1 y.1.2.2.2.1 y.1.2.2.2.2.1 r h) (.cons (fun _ y r h => by simp [regimenref02_Times.l1] at h) .nil))))
theorem regimenref02_Times.ok : CalleeOk Tryz.prog 58 regimenref02_Times.c := fn_ok tabOk mixed (fun _ => rfl) Tryz.func58 rfl (by kernel_rfl) ok_nil regimenref02_Times.al (fun k x r h => (congrFun (congrFun regimenref02_Times.h2 k) x).symm.trans (regimenref02_Times.bf k _ _ r h))
def regimenref05_Tens.c : Sym.Callee := ⟨(.cons (.int .i64) .nil), (.sl (.int .u64)), false, List Int, fun k x => regimenref05_Tens.f k x.1, fun z => z, []⟩
def regimenref05_Tens.nl0 (k : Nat) (x0 : Int) (x3 : List Int) (x4 : Int) : Option (List Int) := (if x4 < x0 then ((regimenref02_Times.f k x3 [(10 : Int)]).bind fun t1 => (regimenref05_Tens.l0 k x0 t1 (wrap64 (x4 + (1 : Int))))) else (some x3))
def regimenref05_Tens.nf (k : Nat) (a0 : Int) : Option (List Int) := (regimenref05_Tens.l0 k a0 [(1 : Int)] (0 : Int))
noncomputable def regimenref05_Tens.E : Env (List Int) := envOf tab Tryz.f87 false (.sl (.int .u64)) [] (fun y => y) [(58, regimenref02_Times.c)] [⟨3, ⟨15, [(0, (.int .i64), []), (3, (.sl (.int .u64)), []), (4, (.int .i64), [])], [], []⟩, fun k y => regimenref05_Tens.l0 k y.1.1 y.1.2.1 y.1.2.2.1⟩] []
theorem regimenref05_Tens.h1 : obls regimenref05_Tens.E Tryz.f87 = [⟨(.cons (.cons (.int .i64) (.cons (.sl (.int .u64)) (.cons (.int .i64) .nil))) (.cons .nil (.cons .nil .nil))), fun k y => regimenref05_Tens.l0 (k + 1) y.1.1 y.1.2.1 y.1.2.2.1, fun k y => regimenref05_Tens.nl0 k y.1.1 y.1.2.1 y.1.2.2.1⟩, ⟨(.cons (.cons (.int .i64) (.cons (.sl (.int .u64)) (.cons (.int .i64) .nil))) (.cons .nil (.cons .nil .nil))), fun _ y => regimenref05_Tens.l0 0 y.1.1 y.1.2.1 y.1.2.2.1, fun _ _ => none⟩] := by kernel_rfl
theorem regimenref05_Tens.h2 : (fun k (x : El (.cons (.int .i64) .nil)) => regimenref05_Tens.nf k x.1) = fun k x => mainK regimenref05_Tens.E Tryz.f87 (.cons (.int .i64) .nil) k x := by kernel_rfl
theorem regimenref05_Tens.bl0 (k : Nat) (x0 : Int) (x3 : List Int) (x4 : Int) : Lo (regimenref05_Tens.l0 (k + 1) x0 x3 x4) (regimenref05_Tens.nl0 k x0 x3 x4) := by
  rw [regimenref05_Tens.l0]
  unfold regimenref05_Tens.nl0
  try simp only [Bool.false_xor, Bool.true_xor, wu8_64, wu8_u64, byL_nums, btS_bt, nil_tl, beq_decL, beq_decI]
  repeat' first
    | (with_reducible exact lo_refl _)
    | exact lo_none _
    | (with_reducible refine lo_ite (fun _ => ?_) (fun _ => ?_))
    | (with_reducible refine lo_bind (fun _ => ?_))
    | (with_reducible refine lo_left ?_)
    | (refine lo_pos (by first | assumption | omega) ?_)
    | (refine lo_neg (by first | assumption | omega) ?_)
    | (with_reducible refine lo_test (fun _ => by first | assumption | omega) (fun _ => ?_))
    | exact lo_refl _
    | refine lo_ite (fun _ => ?_) (fun _ => ?_)
    | refine lo_bind (fun _ => ?_)
    | (refine lo_some ?_; first | rfl | (rw [Bool.false_xor]; rfl))
  all_goals (exfalso; first | omega | (simp_all; done) | (simp_all; omega))
set_option maxHeartbeats 2000000 in
theorem regimenref05_Tens.bf (k : Nat) (a0 : Int) : Lo (regimenref05_Tens.f k a0) (regimenref05_Tens.nf k a0) := by
  unfold regimenref05_Tens.f regimenref05_Tens.nf
  try simp only [Bool.false_xor, Bool.true_xor, wu8_64, wu8_u64, byL_nums, btS_bt, nil_tl, beq_decL, beq_decI]
  repeat' first
    | (with_reducible exact lo_refl _)
    | exact lo_none _
    | (with_reducible refine lo_ite (fun _ => ?_) (fun _ => ?_))
    | (with_reducible refine lo_bind (fun _ => ?_))
    | (with_reducible refine lo_left ?_)
    | (refine lo_pos (by first | assumption | omega) ?_)
    | (refine lo_neg (by first | assumption | omega) ?_)
    | (with_reducible refine lo_test (fun _ => by first | assumption | omega) (fun _ => ?_))
    | exact lo_refl _
    | refine lo_ite (fun _ => ?_) (fun _ => ?_)
    | refine lo_bind (fun _ => ?_)
    | (refine lo_some ?_; first | rfl | (rw [Bool.false_xor]; rfl))
  all_goals (exfalso; first | omega | (simp_all; done) | (simp_all; omega))
theorem regimenref05_Tens.al : AllLe (obls regimenref05_Tens.E Tryz.f87) := by
  rw [regimenref05_Tens.h1]
  exact (.cons (fun k y r h => regimenref05_Tens.bl0 k y.1.1 y.1.2.1 y.1.2.2.1 r h) (.cons (fun _ y r h => by simp [regimenref05_Tens.l0] at h) .nil))
theorem regimenref05_Tens.ok : CalleeOk Tryz.prog 87 regimenref05_Tens.c := fn_ok tabOk mixed (fun _ => rfl) Tryz.func87 rfl (by kernel_rfl) (ok_cons regimenref02_Times.ok ok_nil) regimenref05_Tens.al (fun k x r h => (congrFun (congrFun regimenref05_Tens.h2 k) x).symm.trans (regimenref05_Tens.bf k _ r h))
def regimenref02_digit.c : Sym.Callee := ⟨(.cons (.sl (.int .u64)) (.cons (.int .i64) .nil)), (.int .u64), false, Int, fun k x => regimenref02_digit.f x.1 x.2.1, fun z => z, []⟩
def regimenref02_digit.nf (k : Nat) (a0 : List Int) (a1 : Int) : Option (Int) := (if a1 < (a0.length : Int) then (if 0 ≤ a1 then (if a1 < (a0.length : Int) then (some (a0.getD (a1).toNat 0)) else none) else none) else (some (0 : Int)))
noncomputable def regimenref02_digit.E : Env (Int) := envOf tab Tryz.f83 false (.int .u64) [] (fun y => y) [] [] []
theorem regimenref02_digit.h1 : obls regimenref02_digit.E Tryz.f83 = [] := by kernel_rfl
theorem regimenref02_digit.h2 : (fun k (x : El (.cons (.sl (.int .u64)) (.cons (.int .i64) .nil))) => regimenref02_digit.nf k x.1 x.2.1) = fun k x => mainK regimenref02_digit.E Tryz.f83 (.cons (.sl (.int .u64)) (.cons (.int .i64) .nil)) k x := by kernel_rfl
set_option maxHeartbeats 2000000 in
theorem regimenref02_digit.bf (k : Nat) (a0 : List Int) (a1 : Int) : Lo (regimenref02_digit.f a0 a1) (regimenref02_digit.nf k a0 a1) := by
  unfold regimenref02_digit.f regimenref02_digit.nf
  try simp only [Bool.false_xor, Bool.true_xor, wu8_64, wu8_u64, byL_nums, btS_bt, nil_tl, beq_decL, beq_decI]
  repeat' first
    | (with_reducible exact lo_refl _)
    | exact lo_none _
    | (with_reducible refine lo_ite (fun _ => ?_) (fun _ => ?_))
    | (with_reducible refine lo_bind (fun _ => ?_))
    | (with_reducible refine lo_left ?_)
    | (refine lo_pos (by first | assumption | omega) ?_)
    | (refine lo_neg (by first | assumption | omega) ?_)
    | (with_reducible refine lo_test (fun _ => by first | assumption | omega) (fun _ => ?_))
    | exact lo_refl _
    | refine lo_ite (fun _ => ?_) (fun _ => ?_)
    | refine lo_bind (fun _ => ?_)
    | (refine lo_some ?_; first | rfl | (rw [Bool.false_xor]; rfl))
  all_goals (exfalso; first | omega | (simp_all; done) | (simp_all; omega))
theorem regimenref02_digit.al : AllLe (obls regimenref02_digit.E Tryz.f83) := by
  rw [regimenref02_digit.h1]
  exact .nil
theorem regimenref02_digit.ok : CalleeOk Tryz.prog 83 regimenref02_digit.c := fn_ok tabOk mixed (fun _ => rfl) Tryz.func83 rfl (by kernel_rfl) ok_nil regimenref02_digit.al (fun k x r h => (congrFun (congrFun regimenref02_digit.h2 k) x).symm.trans (regimenref02_digit.bf k _ _ r h))
def regimenref02_Plus.c : Sym.Callee := ⟨(.cons (.sl (.int .u64)) (.cons (.sl (.int .u64)) .nil)), (.sl (.int .u64)), false, List Int, fun k x => regimenref02_Plus.f k x.1 x.2.1, fun z => z, []⟩
def regimenref02_Plus.nl0 (k : Nat) (x0 : List Int) (x1 : List Int) (x5 : List Int) (x6 : Int) (x7 : Int) : Option (List Int) := (if x7 < (x0.length : Int) then ((regimenref02_digit.f x0 x7).bind fun t1 => ((regimenref02_digit.f x1 x7).bind fun t2 => (if (65536 : Int) = 0 then none else (if (x5.length + [(Int.tmod (IntKind.wrap .u64 ((IntKind.wrap .u64 (t1 + t2)) + x6)) (65536 : Int))].length) * 8 ≤ 140737488355328 then (if (65536 : Int) = 0 then none else (regimenref02_Plus.l0 k x0 x1 (x5 ++ [(Int.tmod (IntKind.wrap .u64 ((IntKind.wrap .u64 (t1 + t2)) + x6)) (65536 : Int))]) (IntKind.wrap .u64 (Int.tdiv (IntKind.wrap .u64 ((IntKind.wrap .u64 (t1 + t2)) + x6)) (65536 : Int))) (wrap64 (x7 + (1 : Int))))) else none)))) else (if x7 < (x1.length : Int) then ((regimenref02_digit.f x0 x7).bind fun t3 => ((regimenref02_digit.f x1 x7).bind fun t4 => (if (65536 : Int) = 0 then none else (if (x5.length + [(Int.tmod (IntKind.wrap .u64 ((IntKind.wrap .u64 (t3 + t4)) + x6)) (65536 : Int))].length) * 8 ≤ 140737488355328 then (if (65536 : Int) = 0 then none else (regimenref02_Plus.l0 k x0 x1 (x5 ++ [(Int.tmod (IntKind.wrap .u64 ((IntKind.wrap .u64 (t3 + t4)) + x6)) (65536 : Int))]) (IntKind.wrap .u64 (Int.tdiv (IntKind.wrap .u64 ((IntKind.wrap .u64 (t3 + t4)) + x6)) (65536 : Int))) (wrap64 (x7 + (1 : Int))))) else none)))) else (if x6 > (0 : Int) then ((regimenref02_digit.f x0 x7).bind fun t5 => ((regimenref02_digit.f x1 x7).bind fun t6 => (if (65536 : Int) = 0 then none else (if (x5.length + [(Int.tmod (IntKind.wrap .u64 ((IntKind.wrap .u64 (t5 + t6)) + x6)) (65536 : Int))].length) * 8 ≤ 140737488355328 then (if (65536 : Int) = 0 then none else (regimenref02_Plus.l0 k x0 x1 (x5 ++ [(Int.tmod (IntKind.wrap .u64 ((IntKind.wrap .u64 (t5 + t6)) + x6)) (65536 : Int))]) (IntKind.wrap .u64 (Int.tdiv (IntKind.wrap .u64 ((IntKind.wrap .u64 (t5 + t6)) + x6)) (65536 : Int))) (wrap64 (x7 + (1 : Int))))) else none)))) else (some x5))))
def regimenref02_Plus.nf (k : Nat) (a0 : List Int) (a1 : List Int) : Option (List Int) := (regimenref02_Plus.l0 k a0 a1 ([] : List Int) (0 : Int) (0 : Int))
noncomputable def regimenref02_Plus.E : Env (List Int) := envOf tab Tryz.f57 false (.sl (.int .u64)) [] (fun y => y) [(83, regimenref02_digit.c)] [⟨4, ⟨43, [(0, (.sl (.int .u64)), []), (1, (.sl (.int .u64)), []), (5, (.sl (.int .u64)), [⟨0, 6, 99, 1⟩]), (6, (.int .u64), []), (7, (.int .i64), [])], [], []⟩, fun k y => regimenref02_Plus.l0 k y.1.1 y.1.2.1 y.1.2.2.1 y.1.2.2.2.1 y.1.2.2.2.2.1⟩] []
theorem regimenref02_Plus.h1 : obls regimenref02_Plus.E Tryz.f57 = [⟨(.cons (.cons (.sl (.int .u64)) (.cons (.sl (.int .u64)) (.cons (.sl (.int .u64)) (.cons (.int .u64) (.cons (.int .i64) .nil))))) (.cons .nil (.cons .nil .nil))), fun k y => regimenref02_Plus.l0 (k + 1) y.1.1 y.1.2.1 y.1.2.2.1 y.1.2.2.2.1 y.1.2.2.2.2.1, fun k y => regimenref02_Plus.nl0 k y.1.1 y.1.2.1 y.1.2.2.1 y.1.2.2.2.1 y.1.2.2.2.2.1⟩, ⟨(.cons (.cons (.sl (.int .u64)) (.cons (.sl (.int .u64)) (.cons (.sl (.int .u64)) (.cons (.int .u64) (.cons (.int .i64) .nil))))) (.cons .nil (.cons .nil .nil))), fun _ y => regimenref02_Plus.l0 0 y.1.1 y.1.2.1 y.1.2.2.1 y.1.2.2.2.1 y.1.2.2.2.2.1, fun _ _ => none⟩] := by kernel_rfl
theorem regimenref02_Plus.h2 : (fun k (x : El (.cons (.sl (.int .u64)) (.cons (.sl (.int .u64)) .nil))) => regimenref02_Plus.nf k x.1 x.2.1) = fun k x => mainK regimenref02_Plus.E Tryz.f57 (.cons (.sl (.int .u64)) (.cons (.sl (.int .u64)) .nil)) k x := by kernel_rfl
theorem regimenref02_Plus.bl0 (k : Nat) (x0 : List Int) (x1 : List Int) (x5 : List Int) (x6 : Int) (x7 : Int) : Lo (regimenref02_Plus.l0 (k + 1) x0 x1 x5 x6 x7) (regimenref02_Plus.nl0 k x0 x1 x5 x6 x7) := by
  rw [regimenref02_Plus.l0]
  unfold regimenref02_Plus.nl0
  try simp only [Bool.false_xor, Bool.true_xor, wu8_64, wu8_u64, byL_nums, btS_bt, nil_tl, beq_decL, beq_decI]
  repeat' first
    | (with_reducible exact lo_refl _)
    | exact lo_none _
    | (with_reducible refine lo_lpos (by first | assumption | decide) ?_)
    | (with_reducible refine lo_lneg (by first | assumption | decide) ?_)
    | (with_reducible refine lo_ite (fun _ => ?_) (fun _ => ?_))
    | (with_reducible refine lo_bind (fun _ => ?_))
    | (with_reducible refine lo_left ?_)
    | (refine lo_neg (by decide) ?_)
    | (refine lo_pos (by first | assumption | omega) ?_)
    | (refine lo_neg (by first | assumption | omega) ?_)
    | (refine lo_trans (fun r h => (regimenref02_Plus.mono_l _).2 _ _ _ _ _ _ r h) ?_; rw [regimenref02_Plus.j1]; try simp only [decide_eq_true_eq])
    | (with_reducible refine lo_test (fun _ => by first | assumption | omega | (simp only [List.length_cons, List.length_nil]; omega) | decide) (fun _ => ?_))
    | (with_reducible refine lo_testn (fun _ => by first | assumption | omega) (fun _ => ?_))
    | (with_reducible refine lo_and (fun z => by first | exact z.1 | omega) (fun z => by first | exact z.2 | omega) (fun _ => ?_))
    | exact lo_refl _
    | (with_reducible refine lo_iff (by first | exact Iff.rfl | omega | (simp; done) | decide) (fun _ => ?_) (fun _ => ?_))
    | (with_reducible refine lo_iffn (by first | exact Iff.rfl | omega | (simp; done) | decide) (fun _ => ?_) (fun _ => ?_))
    | refine lo_ite (fun _ => ?_) (fun _ => ?_)
    | refine lo_bind (fun _ => ?_)
    | (refine lo_some ?_; first | rfl | (rw [Bool.false_xor]; rfl) | (rw [Bool.true_xor]; rfl) | (simp only [Bool.and_true]; rfl) | (simp; done))
    | (simp only [Int.zero_sub]; exact lo_refl _)
    | (with_reducible refine lo_lpos (by omega) ?_)
    | (with_reducible refine lo_lneg (by omega) ?_)
    | (with_reducible refine lo_lite (fun _ => ?_) (fun _ => ?_))
    | (with_reducible refine lo_rite (fun _ => ?_) (fun _ => ?_))
  all_goals (exfalso; first | omega | (simp_all; done) | (simp_all; omega))
set_option maxHeartbeats 2000000 in
theorem regimenref02_Plus.bf (k : Nat) (a0 : List Int) (a1 : List Int) : Lo (regimenref02_Plus.f k a0 a1) (regimenref02_Plus.nf k a0 a1) := by
  unfold regimenref02_Plus.f regimenref02_Plus.nf
  try simp only [Bool.false_xor, Bool.true_xor, wu8_64, wu8_u64, byL_nums, btS_bt, nil_tl, beq_decL, beq_decI]
  repeat' first
    | (with_reducible exact lo_refl _)
    | exact lo_none _
    | (with_reducible refine lo_ite (fun _ => ?_) (fun _ => ?_))
    | (with_reducible refine lo_bind (fun _ => ?_))
    | (with_reducible refine lo_left ?_)
    | (refine lo_pos (by first | assumption | omega) ?_)
    | (refine lo_neg (by first | assumption | omega) ?_)
    | (with_reducible refine lo_test (fun _ => by first | assumption | omega) (fun _ => ?_))
    | exact lo_refl _
    | refine lo_ite (fun _ => ?_) (fun _ => ?_)
    | refine lo_bind (fun _ => ?_)
    | (refine lo_some ?_; first | rfl | (rw [Bool.false_xor]; rfl))
  all_goals (exfalso; first | omega | (simp_all; done) | (simp_all; omega))
theorem regimenref02_Plus.al : AllLe (obls regimenref02_Plus.E Tryz.f57) := by
  rw [regimenref02_Plus.h1]
  exact (.cons (fun k y r h => regimenref02_Plus.bl0 k y.1.1 y.1.2.1 y.1.2.2.1 y.1.2.2.2.1 y.1.2.2.2.2.1 r h) (.cons (fun _ y r h => by simp [regimenref02_Plus.l0] at h) .nil))
theorem regimenref02_Plus.ok : CalleeOk Tryz.prog 57 regimenref02_Plus.c := fn_ok tabOk mixed (fun _ => rfl) Tryz.func57 rfl (by kernel_rfl) (ok_cons regimenref02_digit.ok ok_nil) regimenref02_Plus.al (fun k x r h => (congrFun (congrFun regimenref02_Plus.h2 k) x).symm.trans (regimenref02_Plus.bf k _ _ r h))
def regimenref02_Twos.c : Sym.Callee := ⟨(.cons (.int .i64) .nil), (.sl (.int .u64)), false, List Int, fun k x => regimenref02_Twos.f k x.1, fun z => z, []⟩
def regimenref02_Twos.nl0 (k : Nat) (x0 : Int) (x3 : List Int) (x4 : Int) : Option (List Int) := (if x4 < x0 then ((regimenref02_Plus.f k x3 x3).bind fun t1 => (regimenref02_Twos.l0 k x0 t1 (wrap64 (x4 + (1 : Int))))) else (some x3))
def regimenref02_Twos.nf (k : Nat) (a0 : Int) : Option (List Int) := (regimenref02_Twos.l0 k a0 [(1 : Int)] (0 : Int))
noncomputable def regimenref02_Twos.E : Env (List Int) := envOf tab Tryz.f85 false (.sl (.int .u64)) [] (fun y => y) [(57, regimenref02_Plus.c)] [⟨3, ⟨15, [(0, (.int .i64), []), (3, (.sl (.int .u64)), []), (4, (.int .i64), [])], [], []⟩, fun k y => regimenref02_Twos.l0 k y.1.1 y.1.2.1 y.1.2.2.1⟩] []
theorem regimenref02_Twos.h1 : obls regimenref02_Twos.E Tryz.f85 = [⟨(.cons (.cons (.int .i64) (.cons (.sl (.int .u64)) (.cons (.int .i64) .nil))) (.cons .nil (.cons .nil .nil))), fun k y => regimenref02_Twos.l0 (k + 1) y.1.1 y.1.2.1 y.1.2.2.1, fun k y => regimenref02_Twos.nl0 k y.1.1 y.1.2.1 y.1.2.2.1⟩, ⟨(.cons (.cons (.int .i64) (.cons (.sl (.int .u64)) (.cons (.int .i64) .nil))) (.cons .nil (.cons .nil .nil))), fun _ y => regimenref02_Twos.l0 0 y.1.1 y.1.2.1 y.1.2.2.1, fun _ _ => none⟩] := by kernel_rfl
theorem regimenref02_Twos.h2 : (fun k (x : El (.cons (.int .i64) .nil)) => regimenref02_Twos.nf k x.1) = fun k x => mainK regimenref02_Twos.E Tryz.f85 (.cons (.int .i64) .nil) k x := by kernel_rfl
theorem regimenref02_Twos.bl0 (k : Nat) (x0 : Int) (x3 : List Int) (x4 : Int) : Lo (regimenref02_Twos.l0 (k + 1) x0 x3 x4) (regimenref02_Twos.nl0 k x0 x3 x4) := by
  rw [regimenref02_Twos.l0]
  unfold regimenref02_Twos.nl0
  try simp only [Bool.false_xor, Bool.true_xor, wu8_64, wu8_u64, byL_nums, btS_bt, nil_tl, beq_decL, beq_decI]
  repeat' first
    | (with_reducible exact lo_refl _)
    | exact lo_none _
    | (with_reducible refine lo_ite (fun _ => ?_) (fun _ => ?_))
    | (with_reducible refine lo_bind (fun _ => ?_))
    | (with_reducible refine lo_left ?_)
    | (refine lo_pos (by first | assumption | omega) ?_)
    | (refine lo_neg (by first | assumption | omega) ?_)
    | (with_reducible refine lo_test (fun _ => by first | assumption | omega) (fun _ => ?_))
    | exact lo_refl _
    | refine lo_ite (fun _ => ?_) (fun _ => ?_)
    | refine lo_bind (fun _ => ?_)
    | (refine lo_some ?_; first | rfl | (rw [Bool.false_xor]; rfl))
  all_goals (exfalso; first | omega | (simp_all; done) | (simp_all; omega))
set_option maxHeartbeats 2000000 in
theorem regimenref02_Twos.bf (k : Nat) (a0 : Int) : Lo (regimenref02_Twos.f k a0) (regimenref02_Twos.nf k a0) := by
  unfold regimenref02_Twos.f regimenref02_Twos.nf
  try simp only [Bool.false_xor, Bool.true_xor, wu8_64, wu8_u64, byL_nums, btS_bt, nil_tl, beq_decL, beq_decI]
  repeat' first
    | (with_reducible exact lo_refl _)
    | exact lo_none _
    | (with_reducible refine lo_ite (fun _ => ?_) (fun _ => ?_))
    | (with_reducible refine lo_bind (fun _ => ?_))
    | (with_reducible refine lo_left ?_)
    | (refine lo_pos (by first | assumption | omega) ?_)
    | (refine lo_neg (by first | assumption | omega) ?_)
    | (with_reducible refine lo_test (fun _ => by first | assumption | omega) (fun _ => ?_))
    | exact lo_refl _
    | refine lo_ite (fun _ => ?_) (fun _ => ?_)
    | refine lo_bind (fun _ => ?_)
    | (refine lo_some ?_; first | rfl | (rw [Bool.false_xor]; rfl))
  all_goals (exfalso; first | omega | (simp_all; done) | (simp_all; omega))
theorem regimenref02_Twos.al : AllLe (obls regimenref02_Twos.E Tryz.f85) := by
  rw [regimenref02_Twos.h1]
  exact (.cons (fun k y r h => regimenref02_Twos.bl0 k y.1.1 y.1.2.1 y.1.2.2.1 r h) (.cons (fun _ y r h => by simp [regimenref02_Twos.l0] at h) .nil))
theorem regimenref02_Twos.ok : CalleeOk Tryz.prog 85 regimenref02_Twos.c := fn_ok tabOk mixed (fun _ => rfl) Tryz.func85 rfl (by kernel_rfl) (ok_cons regimenref02_Plus.ok ok_nil) regimenref02_Twos.al (fun k x r h => (congrFun (congrFun regimenref02_Twos.h2 k) x).symm.trans (regimenref02_Twos.bf k _ r h))
def regimenref02_Cmp.c : Sym.Callee := ⟨(.cons (.sl (.int .u64)) (.cons (.sl (.int .u64)) .nil)), (.int .i64), false, Int, fun k x => regimenref02_Cmp.f k x.1 x.2.1, fun z => z, []⟩
def regimenref02_Cmp.nj0 (k : Nat) (x0 : List Int) (x1 : List Int) (x5 : Int) : Option (Int) := (regimenref02_Cmp.l0 k x0 x1 (wrap64 (x5 - (1 : Int))))
def regimenref02_Cmp.nl0 (k : Nat) (x0 : List Int) (x1 : List Int) (x6 : Int) : Option (Int) := (if x6 ≥ (0 : Int) then ((regimenref02_digit.f x0 x6).bind fun t1 => ((regimenref02_digit.f x1 x6).bind fun t2 => (if t1 < t2 then (some (-1 : Int)) else ((regimenref02_digit.f x0 x6).bind fun t3 => ((regimenref02_digit.f x1 x6).bind fun t4 => (if t3 > t4 then (some (1 : Int)) else (regimenref02_Cmp.l0 k x0 x1 (wrap64 (x6 - (1 : Int)))))))))) else (some (0 : Int)))
def regimenref02_Cmp.nf (k : Nat) (a0 : List Int) (a1 : List Int) : Option (Int) := (if (a1.length : Int) > (a0.length : Int) then (regimenref02_Cmp.j0 k a0 a1 (a1.length : Int)) else (regimenref02_Cmp.j0 k a0 a1 (a0.length : Int)))
noncomputable def regimenref02_Cmp.E : Env (Int) := envOf tab Tryz.f84 false (.int .i64) [] (fun y => y) [(83, regimenref02_digit.c)] [⟨5, ⟨35, [(0, (.sl (.int .u64)), []), (1, (.sl (.int .u64)), []), (6, (.int .i64), [])], [], []⟩, fun k y => regimenref02_Cmp.l0 k y.1.1 y.1.2.1 y.1.2.2.1⟩] [⟨4, ⟨35, [(0, (.sl (.int .u64)), []), (1, (.sl (.int .u64)), []), (5, (.int .i64), [])], [], []⟩, fun k y => regimenref02_Cmp.j0 k y.1.1 y.1.2.1 y.1.2.2.1⟩]
theorem regimenref02_Cmp.h1 : obls regimenref02_Cmp.E Tryz.f84 = [⟨(.cons (.cons (.sl (.int .u64)) (.cons (.sl (.int .u64)) (.cons (.int .i64) .nil))) (.cons .nil (.cons .nil .nil))), fun k y => regimenref02_Cmp.j0 (k + 1) y.1.1 y.1.2.1 y.1.2.2.1, fun k y => regimenref02_Cmp.nj0 k y.1.1 y.1.2.1 y.1.2.2.1⟩, ⟨(.cons (.cons (.sl (.int .u64)) (.cons (.sl (.int .u64)) (.cons (.int .i64) .nil))) (.cons .nil (.cons .nil .nil))), fun _ y => regimenref02_Cmp.j0 0 y.1.1 y.1.2.1 y.1.2.2.1, fun _ _ => none⟩, ⟨(.cons (.cons (.sl (.int .u64)) (.cons (.sl (.int .u64)) (.cons (.int .i64) .nil))) (.cons .nil (.cons .nil .nil))), fun k y => regimenref02_Cmp.l0 (k + 1) y.1.1 y.1.2.1 y.1.2.2.1, fun k y => regimenref02_Cmp.nl0 k y.1.1 y.1.2.1 y.1.2.2.1⟩, ⟨(.cons (.cons (.sl (.int .u64)) (.cons (.sl (.int .u64)) (.cons (.int .i64) .nil))) (.cons .nil (.cons .nil .nil))), fun _ y => regimenref02_Cmp.l0 0 y.1.1 y.1.2.1 y.1.2.2.1, fun _ _ => none⟩] := by kernel_rfl
theorem regimenref02_Cmp.h2 : (fun k (x : El (.cons (.sl (.int .u64)) (.cons (.sl (.int .u64)) .nil))) => regimenref02_Cmp.nf k x.1 x.2.1) = fun k x => mainK regimenref02_Cmp.E Tryz.f84 (.cons (.sl (.int .u64)) (.cons (.sl (.int .u64)) .nil)) k x := by kernel_rfl
theorem regimenref02_Cmp.bj0 (k : Nat) (x0 : List Int) (x1 : List Int) (x5 : Int) : Lo (regimenref02_Cmp.j0 (k + 1) x0 x1 x5) (regimenref02_Cmp.nj0 k x0 x1 x5) := by
  rw [regimenref02_Cmp.j0]
  unfold regimenref02_Cmp.nj0
  try simp only [Bool.false_xor, Bool.true_xor, wu8_64, wu8_u64, byL_nums, btS_bt, nil_tl, beq_decL, beq_decI]
  repeat' first
    | (with_reducible exact lo_refl _)
    | exact lo_none _
    | (with_reducible refine lo_ite (fun _ => ?_) (fun _ => ?_))
    | (with_reducible refine lo_bind (fun _ => ?_))
    | (with_reducible refine lo_left ?_)
    | (refine lo_pos (by first | assumption | omega) ?_)
    | (refine lo_neg (by first | assumption | omega) ?_)
    | (with_reducible refine lo_test (fun _ => by first | assumption | omega) (fun _ => ?_))
    | exact lo_refl _
    | refine lo_ite (fun _ => ?_) (fun _ => ?_)
    | refine lo_bind (fun _ => ?_)
    | (refine lo_some ?_; first | rfl | (rw [Bool.false_xor]; rfl))
  all_goals (exfalso; first | omega | (simp_all; done) | (simp_all; omega))
theorem regimenref02_Cmp.bl0 (k : Nat) (x0 : List Int) (x1 : List Int) (x6 : Int) : Lo (regimenref02_Cmp.l0 (k + 1) x0 x1 x6) (regimenref02_Cmp.nl0 k x0 x1 x6) := by
  rw [regimenref02_Cmp.l0]
  unfold regimenref02_Cmp.nl0
  try simp only [Bool.false_xor, Bool.true_xor, wu8_64, wu8_u64, byL_nums, btS_bt, nil_tl, beq_decL, beq_decI]
  repeat' first
    | (with_reducible exact lo_refl _)
    | exact lo_none _
    | (with_reducible refine lo_ite (fun _ => ?_) (fun _ => ?_))
    | (with_reducible refine lo_bind (fun _ => ?_))
    | (with_reducible refine lo_left ?_)
    | (refine lo_pos (by first | assumption | omega) ?_)
    | (refine lo_neg (by first | assumption | omega) ?_)
    | (with_reducible refine lo_test (fun _ => by first | assumption | omega) (fun _ => ?_))
    | exact lo_refl _
    | refine lo_ite (fun _ => ?_) (fun _ => ?_)
    | refine lo_bind (fun _ => ?_)
    | (refine lo_some ?_; first | rfl | (rw [Bool.false_xor]; rfl))
  all_goals (exfalso; first | omega | (simp_all; done) | (simp_all; omega))
set_option maxHeartbeats 2000000 in
theorem regimenref02_Cmp.bf (k : Nat) (a0 : List Int) (a1 : List Int) : Lo (regimenref02_Cmp.f k a0 a1) (regimenref02_Cmp.nf k a0 a1) := by
  unfold regimenref02_Cmp.f regimenref02_Cmp.nf
  try simp only [Bool.false_xor, Bool.true_xor, wu8_64, wu8_u64, byL_nums, btS_bt, nil_tl, beq_decL, beq_decI]
  repeat' first
    | (with_reducible exact lo_refl _)
    | exact lo_none _
    | (with_reducible refine lo_ite (fun _ => ?_) (fun _ => ?_))
    | (with_reducible refine lo_bind (fun _ => ?_))
    | (with_reducible refine lo_left ?_)
    | (refine lo_pos (by first | assumption | omega) ?_)
    | (refine lo_neg (by first | assumption | omega) ?_)
    | (with_reducible refine lo_test (fun _ => by first | assumption | omega) (fun _ => ?_))
    | exact lo_refl _
    | refine lo_ite (fun _ => ?_) (fun _ => ?_)
    | refine lo_bind (fun _ => ?_)
    | (refine lo_some ?_; first | rfl | (rw [Bool.false_xor]; rfl))
  all_goals (exfalso; first | omega | (simp_all; done) | (simp_all; omega))
theorem regimenref02_Cmp.al : AllLe (obls regimenref02_Cmp.E Tryz.f84) := by
  rw [regimenref02_Cmp.h1]
  exact (.cons (fun k y r h => regimenref02_Cmp.bj0 k y.1.1 y.1.2.1 y.1.2.2.1 r h) (.cons (fun _ y r h => by simp [regimenref02_Cmp.j0] at h) (.cons (fun k y r h => regimenref02_Cmp.bl0 k y.1.1 y.1.2.1 y.1.2.2.1 r h) (.cons (fun _ y r h => by simp [regimenref02_Cmp.l0] at h) .nil))))
theorem regimenref02_Cmp.ok : CalleeOk Tryz.prog 84 regimenref02_Cmp.c := fn_ok tabOk mixed (fun _ => rfl) Tryz.func84 rfl (by kernel_rfl) (ok_cons regimenref02_digit.ok ok_nil) regimenref02_Cmp.al (fun k x r h => (congrFun (congrFun regimenref02_Cmp.h2 k) x).symm.trans (regimenref02_Cmp.bf k _ _ r h))
def regimenref02_Less.c : Sym.Callee := ⟨(.cons (.sl (.int .u64)) (.cons (.sl (.int .u64)) .nil)), (.sl (.int .u64)), false, List Int, fun k x => regimenref02_Less.f k x.1 x.2.1, fun z => z, []⟩
def regimenref02_Less.nl0 (k : Nat) (x0 : List Int) (x1 : List Int) (x5 : List Int) (x6 : Int) (x7 : Int) : Option (List Int) := (if x7 < (x0.length : Int) then (if 0 ≤ x7 then (if x7 < (x0.length : Int) then ((regimenref02_digit.f x1 x7).bind fun t1 => (if (65536 : Int) = 0 then none else (if (x5.length + [(Int.tmod (IntKind.wrap .u64 ((IntKind.wrap .u64 ((IntKind.wrap .u64 ((65536 : Int) + (x0.getD (x7).toNat 0))) - t1)) - x6)) (65536 : Int))].length) * 8 ≤ 140737488355328 then (if (65536 : Int) = 0 then none else (regimenref02_Less.l0 k x0 x1 (x5 ++ [(Int.tmod (IntKind.wrap .u64 ((IntKind.wrap .u64 ((IntKind.wrap .u64 ((65536 : Int) + (x0.getD (x7).toNat 0))) - t1)) - x6)) (65536 : Int))]) (IntKind.wrap .u64 ((1 : Int) - (IntKind.wrap .u64 (Int.tdiv (IntKind.wrap .u64 ((IntKind.wrap .u64 ((IntKind.wrap .u64 ((65536 : Int) + (x0.getD (x7).toNat 0))) - t1)) - x6)) (65536 : Int))))) (wrap64 (x7 + (1 : Int))))) else none))) else none) else none) else (some x5))
def regimenref02_Less.nf (k : Nat) (a0 : List Int) (a1 : List Int) : Option (List Int) := (regimenref02_Less.l0 k a0 a1 ([] : List Int) (0 : Int) (0 : Int))
noncomputable def regimenref02_Less.E : Env (List Int) := envOf tab Tryz.f101 false (.sl (.int .u64)) [] (fun y => y) [(83, regimenref02_digit.c)] [⟨4, ⟨36, [(0, (.sl (.int .u64)), []), (1, (.sl (.int .u64)), []), (5, (.sl (.int .u64)), [⟨0, 6, 99, 1⟩]), (6, (.int .u64), []), (7, (.int .i64), [])], [], []⟩, fun k y => regimenref02_Less.l0 k y.1.1 y.1.2.1 y.1.2.2.1 y.1.2.2.2.1 y.1.2.2.2.2.1⟩] []
theorem regimenref02_Less.h1 : obls regimenref02_Less.E Tryz.f101 = [⟨(.cons (.cons (.sl (.int .u64)) (.cons (.sl (.int .u64)) (.cons (.sl (.int .u64)) (.cons (.int .u64) (.cons (.int .i64) .nil))))) (.cons .nil (.cons .nil .nil))), fun k y => regimenref02_Less.l0 (k + 1) y.1.1 y.1.2.1 y.1.2.2.1 y.1.2.2.2.1 y.1.2.2.2.2.1, fun k y => regimenref02_Less.nl0 k y.1.1 y.1.2.1 y.1.2.2.1 y.1.2.2.2.1 y.1.2.2.2.2.1⟩, ⟨(.cons (.cons (.sl (.int .u64)) (.cons (.sl (.int .u64)) (.cons (.sl (.int .u64)) (.cons (.int .u64) (.cons (.int .i64) .nil))))) (.cons .nil (.cons .nil .nil))), fun _ y => regimenref02_Less.l0 0 y.1.1 y.1.2.1 y.1.2.2.1 y.1.2.2.2.1 y.1.2.2.2.2.1, fun _ _ => none⟩] := by kernel_rfl
theorem regimenref02_Less.h2 : (fun k (x : El (.cons (.sl (.int .u64)) (.cons (.sl (.int .u64)) .nil))) => regimenref02_Less.nf k x.1 x.2.1) = fun k x => mainK regimenref02_Less.E Tryz.f101 (.cons (.sl (.int .u64)) (.cons (.sl (.int .u64)) .nil)) k x := by kernel_rfl
theorem regimenref02_Less.bl0 (k : Nat) (x0 : List Int) (x1 : List Int) (x5 : List Int) (x6 : Int) (x7 : Int) : Lo (regimenref02_Less.l0 (k + 1) x0 x1 x5 x6 x7) (regimenref02_Less.nl0 k x0 x1 x5 x6 x7) := by
  rw [regimenref02_Less.l0]
  unfold regimenref02_Less.nl0
  try simp only [Bool.false_xor, Bool.true_xor, wu8_64, wu8_u64, byL_nums, btS_bt, nil_tl, beq_decL, beq_decI]
  repeat' first
    | (with_reducible exact lo_refl _)
    | exact lo_none _
    | (with_reducible refine lo_lpos (by first | assumption | decide) ?_)
    | (with_reducible refine lo_lneg (by first | assumption | decide) ?_)
    | (with_reducible refine lo_ite (fun _ => ?_) (fun _ => ?_))
    | (with_reducible refine lo_bind (fun _ => ?_))
    | (with_reducible refine lo_left ?_)
    | (refine lo_neg (by decide) ?_)
    | (refine lo_pos (by first | assumption | omega) ?_)
    | (refine lo_neg (by first | assumption | omega) ?_)
    | (with_reducible refine lo_test (fun _ => by first | assumption | omega | (simp only [List.length_cons, List.length_nil]; omega) | decide) (fun _ => ?_))
    | (with_reducible refine lo_testn (fun _ => by first | assumption | omega) (fun _ => ?_))
    | (with_reducible refine lo_and (fun z => by first | exact z.1 | omega) (fun z => by first | exact z.2 | omega) (fun _ => ?_))
    | exact lo_refl _
    | (with_reducible refine lo_iff (by first | exact Iff.rfl | omega | (simp; done) | decide) (fun _ => ?_) (fun _ => ?_))
    | (with_reducible refine lo_iffn (by first | exact Iff.rfl | omega | (simp; done) | decide) (fun _ => ?_) (fun _ => ?_))
    | refine lo_ite (fun _ => ?_) (fun _ => ?_)
    | refine lo_bind (fun _ => ?_)
    | (refine lo_some ?_; first | rfl | (rw [Bool.false_xor]; rfl) | (rw [Bool.true_xor]; rfl) | (simp only [Bool.and_true]; rfl) | (simp; done))
    | (simp only [Int.zero_sub]; exact lo_refl _)
    | (with_reducible refine lo_lpos (by omega) ?_)
    | (with_reducible refine lo_lneg (by omega) ?_)
    | (with_reducible refine lo_lite (fun _ => ?_) (fun _ => ?_))
    | (with_reducible refine lo_rite (fun _ => ?_) (fun _ => ?_))
  all_goals (exfalso; first | omega | (simp_all; done) | (simp_all; omega))
set_option maxHeartbeats 2000000 in
theorem regimenref02_Less.bf (k : Nat) (a0 : List Int) (a1 : List Int) : Lo (regimenref02_Less.f k a0 a1) (regimenref02_Less.nf k a0 a1) := by
  unfold regimenref02_Less.f regimenref02_Less.nf
  try simp only [Bool.false_xor, Bool.true_xor, wu8_64, wu8_u64, byL_nums, btS_bt, nil_tl, beq_decL, beq_decI]
  repeat' first
    | (with_reducible exact lo_refl _)
    | exact lo_none _
    | (with_reducible refine lo_ite (fun _ => ?_) (fun _ => ?_))
    | (with_reducible refine lo_bind (fun _ => ?_))
    | (with_reducible refine lo_left ?_)
    | (refine lo_pos (by first | assumption | omega) ?_)
    | (refine lo_neg (by first | assumption | omega) ?_)
    | (with_reducible refine lo_test (fun _ => by first | assumption | omega) (fun _ => ?_))
    | exact lo_refl _
    | refine lo_ite (fun _ => ?_) (fun _ => ?_)
    | refine lo_bind (fun _ => ?_)
    | (refine lo_some ?_; first | rfl | (rw [Bool.false_xor]; rfl))
  all_goals (exfalso; first | omega | (simp_all; done) | (simp_all; omega))
theorem regimenref02_Less.al : AllLe (obls regimenref02_Less.E Tryz.f101) := by
  rw [regimenref02_Less.h1]
  exact (.cons (fun k y r h => regimenref02_Less.bl0 k y.1.1 y.1.2.1 y.1.2.2.1 y.1.2.2.2.1 y.1.2.2.2.2.1 r h) (.cons (fun _ y r h => by simp [regimenref02_Less.l0] at h) .nil))
theorem regimenref02_Less.ok : CalleeOk Tryz.prog 101 regimenref02_Less.c := fn_ok tabOk mixed (fun _ => rfl) Tryz.func101 rfl (by kernel_rfl) (ok_cons regimenref02_digit.ok ok_nil) regimenref02_Less.al (fun k x r h => (congrFun (congrFun regimenref02_Less.h2 k) x).symm.trans (regimenref02_Less.bf k _ _ r h))
def regimenref03_Quotient.c : Sym.Callee := ⟨(.cons (.sl (.int .u64)) (.cons (.sl (.int .u64)) .nil)), (.sl (.int .u64)), false, List Int, fun k x => regimenref03_Quotient.f k x.1 x.2.1, fun z => z, []⟩
def regimenref03_Quotient.nl0 (k : Nat) (x0 : List Int) (x1 : List Int) (x5 : List Int) (x6 : List Int) (x7 : Int) : Option (List Int) := (if x7 ≥ (0 : Int) then (regimenref03_Quotient.l1 k x0 x1 x5 x6 x7 (0 : Int)) else (some x5))
def regimenref03_Quotient.nl1 (k : Nat) (x0 : List Int) (x1 : List Int) (x5 : List Int) (x6 : List Int) (x7 : Int) (x8 : Int) : Option (List Int) := (if x8 < (16 : Int) then (if 0 ≤ x7 then (if x7 < (x0.length : Int) then (regimenref03_Quotient.l2 k x0 x1 x5 x6 x7 x8 (x0.getD (x7).toNat 0) x8) else none) else none) else (regimenref03_Quotient.l0 k x0 x1 x5 x6 (wrap64 (x7 - (1 : Int)))))
def regimenref03_Quotient.nl2 (k : Nat) (x0 : List Int) (x1 : List Int) (x5 : List Int) (x6 : List Int) (x7 : Int) (x8 : Int) (x9 : Int) (x10 : Int) : Option (List Int) := (if x10 < (15 : Int) then (if (2 : Int) = 0 then none else (regimenref03_Quotient.l2 k x0 x1 x5 x6 x7 x8 (IntKind.wrap .u64 (Int.tdiv x9 (2 : Int))) (wrap64 (x10 + (1 : Int))))) else ((regimenref02_Plus.f k x6 x6).bind fun t1 => (if (2 : Int) = 0 then none else ((regimenref02_Plus.f k t1 [(Int.tmod x9 (2 : Int))]).bind fun t2 => ((regimenref02_Plus.f k x5 x5).bind fun t3 => ((regimenref02_Cmp.f k t2 x1).bind fun t4 => (if t4 ≥ (0 : Int) then ((regimenref02_Less.f k t2 x1).bind fun t5 => ((regimenref02_Plus.f k t3 [(1 : Int)]).bind fun t6 => (regimenref03_Quotient.l1 k x0 x1 t6 t5 x7 (wrap64 (x8 + (1 : Int)))))) else (regimenref03_Quotient.l1 k x0 x1 t3 t2 x7 (wrap64 (x8 + (1 : Int)))))))))))
def regimenref03_Quotient.nf (k : Nat) (a0 : List Int) (a1 : List Int) : Option (List Int) := (regimenref03_Quotient.l0 k a0 a1 ([] : List Int) ([] : List Int) (wrap64 ((a0.length : Int) - (1 : Int))))
noncomputable def regimenref03_Quotient.E : Env (List Int) := envOf tab Tryz.f100 false (.sl (.int .u64)) [] (fun y => y) [(57, regimenref02_Plus.c), (84, regimenref02_Cmp.c), (101, regimenref02_Less.c)] [⟨4, ⟨56, [(0, (.sl (.int .u64)), []), (1, (.sl (.int .u64)), []), (5, (.sl (.int .u64)), []), (6, (.sl (.int .u64)), []), (7, (.int .i64), [])], [], []⟩, fun k y => regimenref03_Quotient.l0 k y.1.1 y.1.2.1 y.1.2.2.1 y.1.2.2.2.1 y.1.2.2.2.2.1⟩, ⟨7, ⟨56, [(0, (.sl (.int .u64)), []), (1, (.sl (.int .u64)), []), (5, (.sl (.int .u64)), []), (6, (.sl (.int .u64)), []), (7, (.int .i64), []), (8, (.int .i64), [])], [], []⟩, fun k y => regimenref03_Quotient.l1 k y.1.1 y.1.2.1 y.1.2.2.1 y.1.2.2.2.1 y.1.2.2.2.2.1 y.1.2.2.2.2.2.1⟩, ⟨11, ⟨56, [(0, (.sl (.int .u64)), []), (1, (.sl (.int .u64)), []), (5, (.sl (.int .u64)), []), (6, (.sl (.int .u64)), []), (7, (.int .i64), []), (8, (.int .i64), []), (9, (.int .u64), []), (10, (.int .i64), [])], [], []⟩, fun k y => regimenref03_Quotient.l2 k y.1.1 y.1.2.1 y.1.2.2.1 y.1.2.2.2.1 y.1.2.2.2.2.1 y.1.2.2.2.2.2.1 y.1.2.2.2.2.2.2.1 y.1.2.2.2.2.2.2.2.1⟩] []
theorem regimenref03_Quotient.h1 : obls regimenref03_Quotient.E Tryz.f100 = [⟨(.cons (.cons (.sl (.int .u64)) (.cons (.sl (.int .u64)) (.cons (.sl (.int .u64)) (.cons (.sl (.int .u64)) (.cons (.int .i64) .nil))))) (.cons .nil (.cons .nil .nil))), fun k y => regimenref03_Quotient.l0 (k + 1) y.1.1 y.1.2.1 y.1.2.2.1 y.1.2.2.2.1 y.1.2.2.2.2.1, fun k y => regimenref03_Quotient.nl0 k y.1.1 y.1.2.1 y.1.2.2.1 y.1.2.2.2.1 y.1.2.2.2.2.1⟩, ⟨(.cons (.cons (.sl (.int .u64)) (.cons (.sl (.int .u64)) (.cons (.sl (.int .u64)) (.cons (.sl (.int .u64)) (.cons (.int .i64) .nil))))) (.cons .nil (.cons .nil .nil))), fun _ y => regimenref03_Quotient.l0 0 y.1.1 y.1.2.1 y.1.2.2.1 y.1.2.2.2.1 y.1.2.2.2.2.1, fun _ _ => none⟩, ⟨(.cons (.cons (.sl (.int .u64)) (.cons (.sl (.int .u64)) (.cons (.sl (.int .u64)) (.cons (.sl (.int .u64)) (.cons (.int .i64) (.cons (.int .i64) .nil)))))) (.cons .nil (.cons .nil .nil))), fun k y => regimenref03_Quotient.l1 (k + 1) y.1.1 y.1.2.1 y.1.2.2.1 y.1.2.2.2.1 y.1.2.2.2.2.1 y.1.2.2.2.2.2.1, fun k y => regimenref03_Quotient.nl1 k y.1.1 y.1.2.1 y.1.2.2.1 y.1.2.2.2.1 y.1.2.2.2.2.1 y.1.2.2.2.2.2.1⟩, ⟨(.cons (.cons (.sl (.int .u64)) (.cons (.sl (.int .u64)) (.cons (.sl (.int .u64)) (.cons (.sl (.int .u64)) (.cons (.int .i64) (.cons (.int .i64) .nil)))))) (.cons .nil (.cons .nil .nil))), fun _ y => regimenref03_Quotient.l1 0 y.1.1 y.1.2.1 y.1.2.2.1 y.1.2.2.2.1 y.1.2.2.2.2.1 y.1.2.2.2.2.2.1, fun _ _ => none⟩, ⟨(.cons (.cons (.sl (.int .u64)) (.cons (.sl (.int .u64)) (.cons (.sl (.int .u64)) (.cons (.sl (.int .u64)) (.cons (.int .i64) (.cons (.int .i64) (.cons (.int .u64) (.cons (.int .i64) .nil)))))))) (.cons .nil (.cons .nil .nil))), fun k y => regimenref03_Quotient.l2 (k + 1) y.1.1 y.1.2.1 y.1.2.2.1 y.1.2.2.2.1 y.1.2.2.2.2.1 y.1.2.2.2.2.2.1 y.1.2.2.2.2.2.2.1 y.1.2.2.2.2.2.2.2.1, fun k y => regimenref03_Quotient.nl2 k y.1.1 y.1.2.1 y.1.2.2.1 y.1.2.2.2.1 y.1.2.2.2.2.1 y.1.2.2.2.2.2.1 y.1.2.2.2.2.2.2.1 y.1.2.2.2.2.2.2.2.1⟩, ⟨(.cons (.cons (.sl (.int .u64)) (.cons (.sl (.int .u64)) (.cons (.sl (.int .u64)) (.cons (.sl (.int .u64)) (.cons (.int .i64) (.cons (.int .i64) (.cons (.int .u64) (.cons (.int .i64) .nil)))))))) (.cons .nil (.cons .nil .nil))), fun _ y => regimenref03_Quotient.l2 0 y.1.1 y.1.2.1 y.1.2.2.1 y.1.2.2.2.1 y.1.2.2.2.2.1 y.1.2.2.2.2.2.1 y.1.2.2.2.2.2.2.1 y.1.2.2.2.2.2.2.2.1, fun _ _ => none⟩] := by kernel_rfl
theorem regimenref03_Quotient.h2 : (fun k (x : El (.cons (.sl (.int .u64)) (.cons (.sl (.int .u64)) .nil))) => regimenref03_Quotient.nf k x.1 x.2.1) = fun k x => mainK regimenref03_Quotient.E Tryz.f100 (.cons (.sl (.int .u64)) (.cons (.sl (.int .u64)) .nil)) k x := by kernel_rfl
theorem regimenref03_Quotient.bl0 (k : Nat) (x0 : List Int) (x1 : List Int) (x5 : List Int) (x6 : List Int) (x7 : Int) : Lo (regimenref03_Quotient.l0 (k + 1) x0 x1 x5 x6 x7) (regimenref03_Quotient.nl0 k x0 x1 x5 x6 x7) := by
  rw [regimenref03_Quotient.l0]
  unfold regimenref03_Quotient.nl0
  try simp only [Bool.false_xor, Bool.true_xor, wu8_64, wu8_u64, byL_nums, btS_bt, nil_tl, beq_decL, beq_decI]
  repeat' first
    | (with_reducible exact lo_refl _)
    | exact lo_none _
    | (with_reducible refine lo_ite (fun _ => ?_) (fun _ => ?_))
    | (with_reducible refine lo_bind (fun _ => ?_))
    | (with_reducible refine lo_left ?_)
    | (refine lo_pos (by first | assumption | omega) ?_)
    | (refine lo_neg (by first | assumption | omega) ?_)
    | (with_reducible refine lo_test (fun _ => by first | assumption | omega) (fun _ => ?_))
    | exact lo_refl _
    | refine lo_ite (fun _ => ?_) (fun _ => ?_)
    | refine lo_bind (fun _ => ?_)
    | (refine lo_some ?_; first | rfl | (rw [Bool.false_xor]; rfl))
  all_goals (exfalso; first | omega | (simp_all; done) | (simp_all; omega))
theorem regimenref03_Quotient.bl1 (k : Nat) (x0 : List Int) (x1 : List Int) (x5 : List Int) (x6 : List Int) (x7 : Int) (x8 : Int) : Lo (regimenref03_Quotient.l1 (k + 1) x0 x1 x5 x6 x7 x8) (regimenref03_Quotient.nl1 k x0 x1 x5 x6 x7 x8) := by
  rw [regimenref03_Quotient.l1]
  unfold regimenref03_Quotient.nl1
  try simp only [Bool.false_xor, Bool.true_xor, wu8_64, wu8_u64, byL_nums, btS_bt, nil_tl, beq_decL, beq_decI]
  repeat' first
    | (with_reducible exact lo_refl _)
    | exact lo_none _
    | (with_reducible refine lo_ite (fun _ => ?_) (fun _ => ?_))
    | (with_reducible refine lo_bind (fun _ => ?_))
    | (with_reducible refine lo_left ?_)
    | (refine lo_pos (by first | assumption | omega) ?_)
    | (refine lo_neg (by first | assumption | omega) ?_)
    | (with_reducible refine lo_test (fun _ => by first | assumption | omega) (fun _ => ?_))
    | exact lo_refl _
    | refine lo_ite (fun _ => ?_) (fun _ => ?_)
    | refine lo_bind (fun _ => ?_)
    | (refine lo_some ?_; first | rfl | (rw [Bool.false_xor]; rfl))
  all_goals (exfalso; first | omega | (simp_all; done) | (simp_all; omega))
theorem regimenref03_Quotient.bl2 (k : Nat) (x0 : List Int) (x1 : List Int) (x5 : List Int) (x6 : List Int) (x7 : Int) (x8 : Int) (x9 : Int) (x10 : Int) : Lo (regimenref03_Quotient.l2 (k + 1) x0 x1 x5 x6 x7 x8 x9 x10) (regimenref03_Quotient.nl2 k x0 x1 x5 x6 x7 x8 x9 x10) := by
  rw [regimenref03_Quotient.l2]
  unfold regimenref03_Quotient.nl2
  try simp only [Bool.false_xor, Bool.true_xor, wu8_64, wu8_u64, byL_nums, btS_bt, nil_tl, beq_decL, beq_decI]
  repeat' first
    | (with_reducible exact lo_refl _)
    | exact lo_none _
    | (with_reducible refine lo_ite (fun _ => ?_) (fun _ => ?_))
    | (with_reducible refine lo_bind (fun _ => ?_))
    | (with_reducible refine lo_left ?_)
    | (refine lo_pos (by first | assumption | omega) ?_)
    | (refine lo_neg (by first | assumption | omega) ?_)
    | (with_reducible refine lo_test (fun _ => by first | assumption | omega) (fun _ => ?_))
    | exact lo_refl _
    | refine lo_ite (fun _ => ?_) (fun _ => ?_)
    | refine lo_bind (fun _ => ?_)
    | (refine lo_some ?_; first | rfl | (rw [Bool.false_xor]; rfl))
  all_goals (exfalso; first | omega | (simp_all; done) | (simp_all; omega))
set_option maxHeartbeats 2000000 in
theorem regimenref03_Quotient.bf (k : Nat) (a0 : List Int) (a1 : List Int) : Lo (regimenref03_Quotient.f k a0 a1) (regimenref03_Quotient.nf k a0 a1) := by
  unfold regimenref03_Quotient.f regimenref03_Quotient.nf
  try simp only [Bool.false_xor, Bool.true_xor, wu8_64, wu8_u64, byL_nums, btS_bt, nil_tl, beq_decL, beq_decI]
  repeat' first
    | (with_reducible exact lo_refl _)
    | exact lo_none _
    | (with_reducible refine lo_ite (fun _ => ?_) (fun _ => ?_))
    | (with_reducible refine lo_bind (fun _ => ?_))
    | (with_reducible refine lo_left ?_)
    | (refine lo_pos (by first | assumption | omega) ?_)
    | (refine lo_neg (by first | assumption | omega) ?_)
    | (with_reducible refine lo_test (fun _ => by first | assumption | omega) (fun _ => ?_))
    | exact lo_refl _
    | refine lo_ite (fun _ => ?_) (fun _ => ?_)
    | refine lo_bind (fun _ => ?_)
    | (refine lo_some ?_; first | rfl | (rw [Bool.false_xor]; rfl))
  all_goals (exfalso; first | omega | (simp_all; done) | (simp_all; omega))
theorem regimenref03_Quotient.al : AllLe (obls regimenref03_Quotient.E Tryz.f100) := by
  rw [regimenref03_Quotient.h1]
  exact (.cons (fun k y r h => regimenref03_Quotient.bl0 k y.1.1 y.1.2.1 y.1.2.2.1 y.1.2.2.2.1 y.1.2.2.2.2.1 r h) (.cons (fun _ y r h => by simp [regimenref03_Quotient.l0] at h) (.cons (fun k y r h => regimenref03_Quotient.bl1 k y.1.1 y.1.2.1 y.1.2.2.1 y.1.2.2.2.1 y.1.2.2.2.2.1 y.1.2.2.2.2.2.1 r h) (.cons (fun _ y r h => by simp [regimenref03_Quotient.l1] at h) (.cons (fun k y r h => regimenref03_Quotient.bl2 k y.1.1 y.1.2.1 y.1.2.2.1 y.1.2.2.2.1 y.1.2.2.2.2.1 y.1.2.2.2.2.2.1 y.1.2.2.2.2.2.2.1 y.1.2.2.2.2.2.2.2.1 r h) (.cons (fun _ y r h => by simp [regimenref03_Quotient.l2] at h) .nil))))))
theorem regimenref03_Quotient.ok : CalleeOk Tryz.prog 100 regimenref03_Quotient.c := fn_ok tabOk mixed (fun _ => rfl) Tryz.func100 rfl (by kernel_rfl) (ok_cons regimenref02_Plus.ok (ok_cons regimenref02_Cmp.ok (ok_cons regimenref02_Less.ok ok_nil))) regimenref03_Quotient.al (fun k x r h => (congrFun (congrFun regimenref03_Quotient.h2 k) x).symm.trans (regimenref03_Quotient.bf k _ _ r h))
def regimenref03_Odd.c : Sym.Callee := ⟨(.cons (.sl (.int .u64)) .nil), .bool, false, Bool, fun k x => regimenref03_Odd.f x.1, fun z => z, []⟩
def regimenref03_Odd.nf (k : Nat) (a0 : List Int) : Option (Bool) := (if (a0.length : Int) > (0 : Int) then (if 0 ≤ (0 : Int) then (if (0 : Int) < (a0.length : Int) then (if (2 : Int) = 0 then none else (some (xor false (decide ((Int.tmod (a0.getD ((0 : Int)).toNat 0) (2 : Int)) = (1 : Int)))))) else none) else none) else (some false))
noncomputable def regimenref03_Odd.E : Env (Bool) := envOf tab Tryz.f102 false .bool [] (fun y => y) [] [] []
theorem regimenref03_Odd.h1 : obls regimenref03_Odd.E Tryz.f102 = [] := by kernel_rfl
theorem regimenref03_Odd.h2 : (fun k (x : El (.cons (.sl (.int .u64)) .nil)) => regimenref03_Odd.nf k x.1) = fun k x => mainK regimenref03_Odd.E Tryz.f102 (.cons (.sl (.int .u64)) .nil) k x := by kernel_rfl
set_option maxHeartbeats 2000000 in
theorem regimenref03_Odd.bf (k : Nat) (a0 : List Int) : Lo (regimenref03_Odd.f a0) (regimenref03_Odd.nf k a0) := by
  unfold regimenref03_Odd.f regimenref03_Odd.nf
  try simp only [Bool.false_xor, Bool.true_xor, wu8_64, wu8_u64, byL_nums, btS_bt, nil_tl, beq_decL, beq_decI]
  repeat' first
    | (with_reducible exact lo_refl _)
    | exact lo_none _
    | (with_reducible refine lo_ite (fun _ => ?_) (fun _ => ?_))
    | (with_reducible refine lo_bind (fun _ => ?_))
    | (with_reducible refine lo_left ?_)
    | (refine lo_pos (by first | assumption | omega) ?_)
    | (refine lo_neg (by first | assumption | omega) ?_)
    | (with_reducible refine lo_test (fun _ => by first | assumption | omega) (fun _ => ?_))
    | exact lo_refl _
    | refine lo_ite (fun _ => ?_) (fun _ => ?_)
    | refine lo_bind (fun _ => ?_)
    | (refine lo_some ?_; first | rfl | (rw [Bool.false_xor]; rfl))
  all_goals (exfalso; first | omega | (simp_all; done) | (simp_all; omega))
theorem regimenref03_Odd.al : AllLe (obls regimenref03_Odd.E Tryz.f102) := by
  rw [regimenref03_Odd.h1]
  exact .nil
theorem regimenref03_Odd.ok : CalleeOk Tryz.prog 102 regimenref03_Odd.c := fn_ok tabOk mixed (fun _ => rfl) Tryz.func102 rfl (by kernel_rfl) ok_nil regimenref03_Odd.al (fun k x r h => (congrFun (congrFun regimenref03_Odd.h2 k) x).symm.trans (regimenref03_Odd.bf k _ r h))
def regimenref03_Rounded.c : Sym.Callee := ⟨(.cons (.sl (.int .u64)) (.cons (.sl (.int .u64)) .nil)), (.sl (.int .u64)), false, List Int, fun k x => regimenref03_Rounded.f k x.1 x.2.1, fun z => z, []⟩
def regimenref03_Rounded.nf (k : Nat) (a0 : List Int) (a1 : List Int) : Option (List Int) := ((regimenref03_Quotient.f k a0 a1).bind fun t1 => (if (([] : List Int).length + a0.length) * 8 ≤ 140737488355328 then (if ((([] : List Int) ++ a0).length + [(0 : Int)].length) * 8 ≤ 140737488355328 then ((regimenref02_Times.f k t1 a1).bind fun t2 => ((regimenref02_Less.f k ((([] : List Int) ++ a0) ++ [(0 : Int)]) t2).bind fun t3 => ((regimenref02_Plus.f k t3 t3).bind fun t4 => ((regimenref02_Cmp.f k t4 a1).bind fun t5 => (if t5 > (0 : Int) then ((regimenref02_Plus.f k t1 [(1 : Int)]).bind fun t6 => (some t6)) else (if t5 = (0 : Int) then ((regimenref03_Odd.f t1).bind fun t7 => (if t7 = true then ((regimenref02_Plus.f k t1 [(1 : Int)]).bind fun t8 => (some t8)) else (some t1))) else (some t1))))))) else none) else none))
noncomputable def regimenref03_Rounded.E : Env (List Int) := envOf tab Tryz.f75 false (.sl (.int .u64)) [] (fun y => y) [(100, regimenref03_Quotient.c), (58, regimenref02_Times.c), (101, regimenref02_Less.c), (57, regimenref02_Plus.c), (84, regimenref02_Cmp.c), (102, regimenref03_Odd.c)] [] []
theorem regimenref03_Rounded.h1 : obls regimenref03_Rounded.E Tryz.f75 = [] := by kernel_rfl
theorem regimenref03_Rounded.h2 : (fun k (x : El (.cons (.sl (.int .u64)) (.cons (.sl (.int .u64)) .nil))) => regimenref03_Rounded.nf k x.1 x.2.1) = fun k x => mainK regimenref03_Rounded.E Tryz.f75 (.cons (.sl (.int .u64)) (.cons (.sl (.int .u64)) .nil)) k x := by kernel_rfl
set_option maxHeartbeats 2000000 in
theorem regimenref03_Rounded.bf (k : Nat) (a0 : List Int) (a1 : List Int) : Lo (regimenref03_Rounded.f k a0 a1) (regimenref03_Rounded.nf k a0 a1) := by
  unfold regimenref03_Rounded.f regimenref03_Rounded.nf
  try simp only [Bool.false_xor, Bool.true_xor, wu8_64, wu8_u64, byL_nums, btS_bt, nil_tl, beq_decL, beq_decI]
  repeat' first
    | (with_reducible exact lo_refl _)
    | exact lo_none _
    | (with_reducible refine lo_lpos (by first | assumption | decide) ?_)
    | (with_reducible refine lo_lneg (by first | assumption | decide) ?_)
    | (with_reducible refine lo_ite (fun _ => ?_) (fun _ => ?_))
    | (with_reducible refine lo_bind (fun _ => ?_))
    | (with_reducible refine lo_left ?_)
    | (refine lo_neg (by decide) ?_)
    | (refine lo_pos (by first | assumption | omega) ?_)
    | (refine lo_neg (by first | assumption | omega) ?_)
    | (with_reducible refine lo_test (fun _ => by first | assumption | omega | (simp only [List.length_cons, List.length_nil]; omega) | decide) (fun _ => ?_))
    | (with_reducible refine lo_testn (fun _ => by first | assumption | omega) (fun _ => ?_))
    | (with_reducible refine lo_and (fun z => by first | exact z.1 | omega) (fun z => by first | exact z.2 | omega) (fun _ => ?_))
    | exact lo_refl _
    | (with_reducible refine lo_iff (by first | exact Iff.rfl | omega | (simp; done) | decide) (fun _ => ?_) (fun _ => ?_))
    | (with_reducible refine lo_iffn (by first | exact Iff.rfl | omega | (simp; done) | decide) (fun _ => ?_) (fun _ => ?_))
    | refine lo_ite (fun _ => ?_) (fun _ => ?_)
    | refine lo_bind (fun _ => ?_)
    | (refine lo_some ?_; first | rfl | (rw [Bool.false_xor]; rfl) | (rw [Bool.true_xor]; rfl) | (simp only [Bool.and_true]; rfl) | (simp; done))
    | (simp only [Int.zero_sub]; exact lo_refl _)
    | (with_reducible refine lo_lpos (by omega) ?_)
    | (with_reducible refine lo_lneg (by omega) ?_)
    | (with_reducible refine lo_lite (fun _ => ?_) (fun _ => ?_))
    | (with_reducible refine lo_rite (fun _ => ?_) (fun _ => ?_))
  all_goals (exfalso; first | omega | (simp_all; done) | (simp_all; omega))
theorem regimenref03_Rounded.al : AllLe (obls regimenref03_Rounded.E Tryz.f75) := by
  rw [regimenref03_Rounded.h1]
  exact .nil
theorem regimenref03_Rounded.ok : CalleeOk Tryz.prog 75 regimenref03_Rounded.c := fn_ok tabOk mixed (fun _ => rfl) Tryz.func75 rfl (by kernel_rfl) (ok_cons regimenref03_Quotient.ok (ok_cons regimenref02_Times.ok (ok_cons regimenref02_Less.ok (ok_cons regimenref02_Plus.ok (ok_cons regimenref02_Cmp.ok (ok_cons regimenref03_Odd.ok ok_nil)))))) regimenref03_Rounded.al (fun k x r h => (congrFun (congrFun regimenref03_Rounded.h2 k) x).symm.trans (regimenref03_Rounded.bf k _ _ r h))
def regimenref05_Read.c : Sym.Callee := ⟨(.cons (.sl (.int .u64)) (.cons (.int .i64) .nil)), (.sl (.int .u64)), false, List Int, fun k x => regimenref05_Read.f k x.1 x.2.1, fun z => z, []⟩
def regimenref05_Read.nf (k : Nat) (a0 : List Int) (a1 : Int) : Option (List Int) := ((regimenref02_Twos.f k (32 : Int)).bind fun t1 => ((regimenref02_Times.f k a0 t1).bind fun t2 => ((regimenref05_Tens.f k a1).bind fun t3 => ((regimenref03_Rounded.f k t2 t3).bind fun t4 => (some t4)))))
noncomputable def regimenref05_Read.E : Env (List Int) := envOf tab Tryz.f60 false (.sl (.int .u64)) [] (fun y => y) [(85, regimenref02_Twos.c), (58, regimenref02_Times.c), (87, regimenref05_Tens.c), (75, regimenref03_Rounded.c)] [] []
theorem regimenref05_Read.h1 : obls regimenref05_Read.E Tryz.f60 = [] := by kernel_rfl
theorem regimenref05_Read.h2 : (fun k (x : El (.cons (.sl (.int .u64)) (.cons (.int .i64) .nil))) => regimenref05_Read.nf k x.1 x.2.1) = fun k x => mainK regimenref05_Read.E Tryz.f60 (.cons (.sl (.int .u64)) (.cons (.int .i64) .nil)) k x := by kernel_rfl
set_option maxHeartbeats 2000000 in
theorem regimenref05_Read.bf (k : Nat) (a0 : List Int) (a1 : Int) : Lo (regimenref05_Read.f k a0 a1) (regimenref05_Read.nf k a0 a1) := by
  unfold regimenref05_Read.f regimenref05_Read.nf
  try simp only [Bool.false_xor, Bool.true_xor, wu8_64, wu8_u64, byL_nums, btS_bt, nil_tl, beq_decL, beq_decI]
  repeat' first
    | (with_reducible exact lo_refl _)
    | exact lo_none _
    | (with_reducible refine lo_ite (fun _ => ?_) (fun _ => ?_))
    | (with_reducible refine lo_bind (fun _ => ?_))
    | (with_reducible refine lo_left ?_)
    | (refine lo_pos (by first | assumption | omega) ?_)
    | (refine lo_neg (by first | assumption | omega) ?_)
    | (with_reducible refine lo_test (fun _ => by first | assumption | omega) (fun _ => ?_))
    | exact lo_refl _
    | refine lo_ite (fun _ => ?_) (fun _ => ?_)
    | refine lo_bind (fun _ => ?_)
    | (refine lo_some ?_; first | rfl | (rw [Bool.false_xor]; rfl))
  all_goals (exfalso; first | omega | (simp_all; done) | (simp_all; omega))
theorem regimenref05_Read.al : AllLe (obls regimenref05_Read.E Tryz.f60) := by
  rw [regimenref05_Read.h1]
  exact .nil
theorem regimenref05_Read.ok : CalleeOk Tryz.prog 60 regimenref05_Read.c := fn_ok tabOk mixed (fun _ => rfl) Tryz.func60 rfl (by kernel_rfl) (ok_cons regimenref02_Twos.ok (ok_cons regimenref02_Times.ok (ok_cons regimenref05_Tens.ok (ok_cons regimenref03_Rounded.ok ok_nil)))) regimenref05_Read.al (fun k x r h => (congrFun (congrFun regimenref05_Read.h2 k) x).symm.trans (regimenref05_Read.bf k _ _ r h))
def regimenref05_Text.c : Sym.Callee := ⟨(.cons (.sl (.int .u64)) .nil), .str, false, ByteArray, fun k x => regimenref05_Text.f k x.1, fun z => z, []⟩
def regimenref05_Text.nl0 (k : Nat) (x0 : List Int) (x3 : ByteArray) (x4 : ByteArray) : Option (ByteArray) := (if (x4.size : Int) = (0 : Int) then ((regimenref03_Quotient.f k x0 [(10 : Int)]).bind fun t1 => (if (([] : List Int).length + x0.length) * 8 ≤ 140737488355328 then (if ((([] : List Int) ++ x0).length + [(0 : Int)].length) * 8 ≤ 140737488355328 then ((regimenref02_Times.f k t1 [(10 : Int)]).bind fun t2 => ((regimenref02_Less.f k ((([] : List Int) ++ x0) ++ [(0 : Int)]) t2).bind fun t3 => (if 0 ≤ (0 : Int) then (if (0 : Int) < (t3.length : Int) then (if 0 ≤ (0 : Int) then (if (0 : Int) < (t3.length : Int) then (if 0 ≤ (t3.getD ((0 : Int)).toNat 0) then (if (t3.getD ((0 : Int)).toNat 0) ≤ (IntKind.wrap .u64 ((t3.getD ((0 : Int)).toNat 0) + (1 : Int))) then (if (IntKind.wrap .u64 ((t3.getD ((0 : Int)).toNat 0) + (1 : Int))) ≤ (x3.size : Int) then (if (x3.extract ((t3.getD ((0 : Int)).toNat 0)).toNat ((IntKind.wrap .u64 ((t3.getD ((0 : Int)).toNat 0) + (1 : Int)))).toNat).size + x4.size ≤ 9223372036854775807 then (regimenref05_Text.l0 k t1 x3 ((x3.extract ((t3.getD ((0 : Int)).toNat 0)).toNat ((IntKind.wrap .u64 ((t3.getD ((0 : Int)).toNat 0) + (1 : Int)))).toNat) ++ x4)) else none) else none) else none) else none) else none) else none) else none) else none))) else none) else none)) else ((regimenref02_Cmp.f k x0 ([] : List Int)).bind fun t4 => (if t4 > (0 : Int) then ((regimenref03_Quotient.f k x0 [(10 : Int)]).bind fun t5 => (if (([] : List Int).length + x0.length) * 8 ≤ 140737488355328 then (if ((([] : List Int) ++ x0).length + [(0 : Int)].length) * 8 ≤ 140737488355328 then ((regimenref02_Times.f k t5 [(10 : Int)]).bind fun t6 => ((regimenref02_Less.f k ((([] : List Int) ++ x0) ++ [(0 : Int)]) t6).bind fun t7 => (if 0 ≤ (0 : Int) then (if (0 : Int) < (t7.length : Int) then (if 0 ≤ (0 : Int) then (if (0 : Int) < (t7.length : Int) then (if 0 ≤ (t7.getD ((0 : Int)).toNat 0) then (if (t7.getD ((0 : Int)).toNat 0) ≤ (IntKind.wrap .u64 ((t7.getD ((0 : Int)).toNat 0) + (1 : Int))) then (if (IntKind.wrap .u64 ((t7.getD ((0 : Int)).toNat 0) + (1 : Int))) ≤ (x3.size : Int) then (if (x3.extract ((t7.getD ((0 : Int)).toNat 0)).toNat ((IntKind.wrap .u64 ((t7.getD ((0 : Int)).toNat 0) + (1 : Int)))).toNat).size + x4.size ≤ 9223372036854775807 then (regimenref05_Text.l0 k t5 x3 ((x3.extract ((t7.getD ((0 : Int)).toNat 0)).toNat ((IntKind.wrap .u64 ((t7.getD ((0 : Int)).toNat 0) + (1 : Int)))).toNat) ++ x4)) else none) else none) else none) else none) else none) else none) else none) else none))) else none) else none)) else (some x4))))
def regimenref05_Text.nf (k : Nat) (a0 : List Int) : Option (ByteArray) := (regimenref05_Text.l0 k a0 (⟨#[48, 49, 50, 51, 52, 53, 54, 55, 56, 57]⟩ : ByteArray) (⟨#[]⟩ : ByteArray))
noncomputable def regimenref05_Text.E : Env (ByteArray) := envOf tab Tryz.f99 false .str [] (fun y => y) [(100, regimenref03_Quotient.c), (58, regimenref02_Times.c), (101, regimenref02_Less.c), (84, regimenref02_Cmp.c)] [⟨3, ⟨40, [(0, (.sl (.int .u64)), []), (3, .str, []), (4, .str, [])], [], []⟩, fun k y => regimenref05_Text.l0 k y.1.1 y.1.2.1 y.1.2.2.1⟩] []
theorem regimenref05_Text.h1 : obls regimenref05_Text.E Tryz.f99 = [⟨(.cons (.cons (.sl (.int .u64)) (.cons .str (.cons .str .nil))) (.cons .nil (.cons .nil .nil))), fun k y => regimenref05_Text.l0 (k + 1) y.1.1 y.1.2.1 y.1.2.2.1, fun k y => regimenref05_Text.nl0 k y.1.1 y.1.2.1 y.1.2.2.1⟩, ⟨(.cons (.cons (.sl (.int .u64)) (.cons .str (.cons .str .nil))) (.cons .nil (.cons .nil .nil))), fun _ y => regimenref05_Text.l0 0 y.1.1 y.1.2.1 y.1.2.2.1, fun _ _ => none⟩] := by kernel_rfl
theorem regimenref05_Text.h2 : (fun k (x : El (.cons (.sl (.int .u64)) .nil)) => regimenref05_Text.nf k x.1) = fun k x => mainK regimenref05_Text.E Tryz.f99 (.cons (.sl (.int .u64)) .nil) k x := by kernel_rfl
theorem regimenref05_Text.bl0 (k : Nat) (x0 : List Int) (x3 : ByteArray) (x4 : ByteArray) : Lo (regimenref05_Text.l0 (k + 1) x0 x3 x4) (regimenref05_Text.nl0 k x0 x3 x4) := by
  rw [regimenref05_Text.l0]
  unfold regimenref05_Text.nl0
  try simp only [Bool.false_xor, Bool.true_xor, wu8_64, wu8_u64, byL_nums, btS_bt, nil_tl, beq_decL, beq_decI]
  repeat' first
    | (with_reducible exact lo_refl _)
    | exact lo_none _
    | (with_reducible refine lo_lpos (by first | assumption | decide) ?_)
    | (with_reducible refine lo_lneg (by first | assumption | decide) ?_)
    | (with_reducible refine lo_ite (fun _ => ?_) (fun _ => ?_))
    | (with_reducible refine lo_bind (fun _ => ?_))
    | (with_reducible refine lo_left ?_)
    | (refine lo_neg (by decide) ?_)
    | (refine lo_pos (by first | assumption | omega) ?_)
    | (refine lo_neg (by first | assumption | omega) ?_)
    | (refine lo_trans (fun r h => (regimenref05_Text.mono_l _).2 _ _ _ _ r h) ?_; rw [regimenref05_Text.j1]; try simp only [decide_eq_true_eq])
    | (with_reducible refine lo_test (fun _ => by first | assumption | omega | (simp only [List.length_cons, List.length_nil]; omega) | decide) (fun _ => ?_))
    | (with_reducible refine lo_testn (fun _ => by first | assumption | omega) (fun _ => ?_))
    | (with_reducible refine lo_and (fun z => by first | exact z.1 | omega) (fun z => by first | exact z.2 | omega) (fun _ => ?_))
    | exact lo_refl _
    | (with_reducible refine lo_iff (by first | exact Iff.rfl | omega | (simp; done) | decide) (fun _ => ?_) (fun _ => ?_))
    | (with_reducible refine lo_iffn (by first | exact Iff.rfl | omega | (simp; done) | decide) (fun _ => ?_) (fun _ => ?_))
    | refine lo_ite (fun _ => ?_) (fun _ => ?_)
    | refine lo_bind (fun _ => ?_)
    | (refine lo_some ?_; first | rfl | (rw [Bool.false_xor]; rfl) | (rw [Bool.true_xor]; rfl) | (simp only [Bool.and_true]; rfl) | (simp; done))
    | (simp only [Int.zero_sub]; exact lo_refl _)
    | (with_reducible refine lo_lpos (by omega) ?_)
    | (with_reducible refine lo_lneg (by omega) ?_)
    | (with_reducible refine lo_lite (fun _ => ?_) (fun _ => ?_))
    | (with_reducible refine lo_rite (fun _ => ?_) (fun _ => ?_))
  all_goals (exfalso; first | omega | (simp_all; done) | (simp_all; omega))
set_option maxHeartbeats 2000000 in
theorem regimenref05_Text.bf (k : Nat) (a0 : List Int) : Lo (regimenref05_Text.f k a0) (regimenref05_Text.nf k a0) := by
  unfold regimenref05_Text.f regimenref05_Text.nf
  try simp only [Bool.false_xor, Bool.true_xor, wu8_64, wu8_u64, byL_nums, btS_bt, nil_tl, beq_decL, beq_decI]
  repeat' first
    | (with_reducible exact lo_refl _)
    | exact lo_none _
    | (with_reducible refine lo_ite (fun _ => ?_) (fun _ => ?_))
    | (with_reducible refine lo_bind (fun _ => ?_))
    | (with_reducible refine lo_left ?_)
    | (refine lo_pos (by first | assumption | omega) ?_)
    | (refine lo_neg (by first | assumption | omega) ?_)
    | (with_reducible refine lo_test (fun _ => by first | assumption | omega) (fun _ => ?_))
    | exact lo_refl _
    | refine lo_ite (fun _ => ?_) (fun _ => ?_)
    | refine lo_bind (fun _ => ?_)
    | (refine lo_some ?_; first | rfl | (rw [Bool.false_xor]; rfl))
  all_goals (exfalso; first | omega | (simp_all; done) | (simp_all; omega))
theorem regimenref05_Text.al : AllLe (obls regimenref05_Text.E Tryz.f99) := by
  rw [regimenref05_Text.h1]
  exact (.cons (fun k y r h => regimenref05_Text.bl0 k y.1.1 y.1.2.1 y.1.2.2.1 r h) (.cons (fun _ y r h => by simp [regimenref05_Text.l0] at h) .nil))
theorem regimenref05_Text.ok : CalleeOk Tryz.prog 99 regimenref05_Text.c := fn_ok tabOk mixed (fun _ => rfl) Tryz.func99 rfl (by kernel_rfl) (ok_cons regimenref03_Quotient.ok (ok_cons regimenref02_Times.ok (ok_cons regimenref02_Less.ok (ok_cons regimenref02_Cmp.ok ok_nil)))) regimenref05_Text.al (fun k x r h => (congrFun (congrFun regimenref05_Text.h2 k) x).symm.trans (regimenref05_Text.bf k _ r h))
def regimenref05_Put.c : Sym.Callee := ⟨(.cons (.int .i64) .nil), .str, false, ByteArray, fun k x => regimenref05_Put.f k x.1, fun z => z, []⟩
def regimenref05_Put.nj0 (k : Nat) (x3 : List Int) (x4 : ByteArray) : Option (ByteArray) := (regimenref05_Put.l0 k x3 x4 (0 : Int))
def regimenref05_Put.nl0 (k : Nat) (x3 : List Int) (x4 : ByteArray) (x5 : Int) : Option (ByteArray) := (if x5 ≤ (10 : Int) then ((regimenref05_Tens.f k x5).bind fun t2 => ((regimenref02_Times.f k x3 t2).bind fun t3 => ((regimenref02_Twos.f k (32 : Int)).bind fun t4 => ((regimenref03_Rounded.f k t3 t4).bind fun t5 => ((regimenref05_Read.f k t5 x5).bind fun t6 => ((regimenref02_Cmp.f k t6 x3).bind fun t7 => (if t7 = (0 : Int) then ((regimenref05_Text.f k t5).bind fun t8 => (regimenref05_Put.l1 k x4 x5 t8)) else (regimenref05_Put.l0 k x3 x4 (wrap64 (x5 + (1 : Int))))))))))) else (some (⟨#[]⟩ : ByteArray)))
def regimenref05_Put.nl1 (k : Nat) (x4 : ByteArray) (x5 : Int) (x7 : ByteArray) : Option (ByteArray) := (if (x7.size : Int) ≤ x5 then (if (⟨#[48]⟩ : ByteArray).size + x7.size ≤ 9223372036854775807 then (regimenref05_Put.l1 k x4 x5 ((⟨#[48]⟩ : ByteArray) ++ x7)) else none) else (if x5 = (0 : Int) then (if x4.size + x7.size ≤ 9223372036854775807 then (some (x4 ++ x7)) else none) else (if 0 ≤ (wrap64 ((x7.size : Int) - x5)) then (if (wrap64 ((x7.size : Int) - x5)) ≤ (x7.size : Int) then (if x4.size + (x7.extract 0 ((wrap64 ((x7.size : Int) - x5))).toNat).size ≤ 9223372036854775807 then (if (x4 ++ (x7.extract 0 ((wrap64 ((x7.size : Int) - x5))).toNat)).size + (⟨#[46]⟩ : ByteArray).size ≤ 9223372036854775807 then (if 0 ≤ (wrap64 ((x7.size : Int) - x5)) then (if (wrap64 ((x7.size : Int) - x5)) ≤ (x7.size : Int) then (if ((x4 ++ (x7.extract 0 ((wrap64 ((x7.size : Int) - x5))).toNat)) ++ (⟨#[46]⟩ : ByteArray)).size + (x7.extract ((wrap64 ((x7.size : Int) - x5))).toNat x7.size).size ≤ 9223372036854775807 then (some (((x4 ++ (x7.extract 0 ((wrap64 ((x7.size : Int) - x5))).toNat)) ++ (⟨#[46]⟩ : ByteArray)) ++ (x7.extract ((wrap64 ((x7.size : Int) - x5))).toNat x7.size))) else none) else none) else none) else none) else none) else none) else none)))
def regimenref05_Put.nf (k : Nat) (a0 : Int) : Option (ByteArray) := ((regimenref02_Size.f a0).bind fun t1 => (if a0 < (0 : Int) then (regimenref05_Put.j0 k t1 (⟨#[45]⟩ : ByteArray)) else (regimenref05_Put.j0 k t1 (⟨#[]⟩ : ByteArray))))
noncomputable def regimenref05_Put.E : Env (ByteArray) := envOf tab Tryz.f74 false .str [] (fun y => y) [(76, regimenref02_Size.c), (87, regimenref05_Tens.c), (58, regimenref02_Times.c), (85, regimenref02_Twos.c), (75, regimenref03_Rounded.c), (60, regimenref05_Read.c), (84, regimenref02_Cmp.c), (99, regimenref05_Text.c)] [⟨6, ⟨57, [(3, (.sl (.int .u64)), []), (4, .str, []), (5, (.int .i64), [])], [], []⟩, fun k y => regimenref05_Put.l0 k y.1.1 y.1.2.1 y.1.2.2.1⟩, ⟨11, ⟨57, [(4, .str, []), (5, (.int .i64), []), (7, .str, [])], [], []⟩, fun k y => regimenref05_Put.l1 k y.1.1 y.1.2.1 y.1.2.2.1⟩] [⟨5, ⟨57, [(3, (.sl (.int .u64)), []), (4, .str, [])], [], []⟩, fun k y => regimenref05_Put.j0 k y.1.1 y.1.2.1⟩]
theorem regimenref05_Put.h1 : obls regimenref05_Put.E Tryz.f74 = [⟨(.cons (.cons (.sl (.int .u64)) (.cons .str .nil)) (.cons .nil (.cons .nil .nil))), fun k y => regimenref05_Put.j0 (k + 1) y.1.1 y.1.2.1, fun k y => regimenref05_Put.nj0 k y.1.1 y.1.2.1⟩, ⟨(.cons (.cons (.sl (.int .u64)) (.cons .str .nil)) (.cons .nil (.cons .nil .nil))), fun _ y => regimenref05_Put.j0 0 y.1.1 y.1.2.1, fun _ _ => none⟩, ⟨(.cons (.cons (.sl (.int .u64)) (.cons .str (.cons (.int .i64) .nil))) (.cons .nil (.cons .nil .nil))), fun k y => regimenref05_Put.l0 (k + 1) y.1.1 y.1.2.1 y.1.2.2.1, fun k y => regimenref05_Put.nl0 k y.1.1 y.1.2.1 y.1.2.2.1⟩, ⟨(.cons (.cons (.sl (.int .u64)) (.cons .str (.cons (.int .i64) .nil))) (.cons .nil (.cons .nil .nil))), fun _ y => regimenref05_Put.l0 0 y.1.1 y.1.2.1 y.1.2.2.1, fun _ _ => none⟩, ⟨(.cons (.cons .str (.cons (.int .i64) (.cons .str .nil))) (.cons .nil (.cons .nil .nil))), fun k y => regimenref05_Put.l1 (k + 1) y.1.1 y.1.2.1 y.1.2.2.1, fun k y => regimenref05_Put.nl1 k y.1.1 y.1.2.1 y.1.2.2.1⟩, ⟨(.cons (.cons .str (.cons (.int .i64) (.cons .str .nil))) (.cons .nil (.cons .nil .nil))), fun _ y => regimenref05_Put.l1 0 y.1.1 y.1.2.1 y.1.2.2.1, fun _ _ => none⟩] := by kernel_rfl
theorem regimenref05_Put.h2 : (fun k (x : El (.cons (.int .i64) .nil)) => regimenref05_Put.nf k x.1) = fun k x => mainK regimenref05_Put.E Tryz.f74 (.cons (.int .i64) .nil) k x := by kernel_rfl
theorem regimenref05_Put.bj0 (k : Nat) (x3 : List Int) (x4 : ByteArray) : Lo (regimenref05_Put.j0 (k + 1) x3 x4) (regimenref05_Put.nj0 k x3 x4) := by
  rw [regimenref05_Put.j0]
  unfold regimenref05_Put.nj0
  try simp only [Bool.false_xor, Bool.true_xor, wu8_64, wu8_u64, byL_nums, btS_bt, nil_tl, beq_decL, beq_decI]
  repeat' first
    | (with_reducible exact lo_refl _)
    | exact lo_none _
    | (with_reducible refine lo_ite (fun _ => ?_) (fun _ => ?_))
    | (with_reducible refine lo_bind (fun _ => ?_))
    | (with_reducible refine lo_left ?_)
    | (refine lo_pos (by first | assumption | omega) ?_)
    | (refine lo_neg (by first | assumption | omega) ?_)
    | (with_reducible refine lo_test (fun _ => by first | assumption | omega) (fun _ => ?_))
    | exact lo_refl _
    | refine lo_ite (fun _ => ?_) (fun _ => ?_)
    | refine lo_bind (fun _ => ?_)
    | (refine lo_some ?_; first | rfl | (rw [Bool.false_xor]; rfl))
  all_goals (exfalso; first | omega | (simp_all; done) | (simp_all; omega))
theorem regimenref05_Put.bl0 (k : Nat) (x3 : List Int) (x4 : ByteArray) (x5 : Int) : Lo (regimenref05_Put.l0 (k + 1) x3 x4 x5) (regimenref05_Put.nl0 k x3 x4 x5) := by
  rw [regimenref05_Put.l0]
  unfold regimenref05_Put.nl0
  try simp only [Bool.false_xor, Bool.true_xor, wu8_64, wu8_u64, byL_nums, btS_bt, nil_tl, beq_decL, beq_decI]
  repeat' first
    | (with_reducible exact lo_refl _)
    | exact lo_none _
    | (with_reducible refine lo_ite (fun _ => ?_) (fun _ => ?_))
    | (with_reducible refine lo_bind (fun _ => ?_))
    | (with_reducible refine lo_left ?_)
    | (refine lo_pos (by first | assumption | omega) ?_)
    | (refine lo_neg (by first | assumption | omega) ?_)
    | (with_reducible refine lo_test (fun _ => by first | assumption | omega) (fun _ => ?_))
    | exact lo_refl _
    | refine lo_ite (fun _ => ?_) (fun _ => ?_)
    | refine lo_bind (fun _ => ?_)
    | (refine lo_some ?_; first | rfl | (rw [Bool.false_xor]; rfl))
  all_goals (exfalso; first | omega | (simp_all; done) | (simp_all; omega))
theorem regimenref05_Put.bl1 (k : Nat) (x4 : ByteArray) (x5 : Int) (x7 : ByteArray) : Lo (regimenref05_Put.l1 (k + 1) x4 x5 x7) (regimenref05_Put.nl1 k x4 x5 x7) := by
  rw [regimenref05_Put.l1]
  unfold regimenref05_Put.nl1
  try simp only [Bool.false_xor, Bool.true_xor, wu8_64, wu8_u64, byL_nums, btS_bt, nil_tl, beq_decL, beq_decI]
  repeat' first
    | (with_reducible exact lo_refl _)
    | exact lo_none _
    | (with_reducible refine lo_ite (fun _ => ?_) (fun _ => ?_))
    | (with_reducible refine lo_bind (fun _ => ?_))
    | (with_reducible refine lo_left ?_)
    | (refine lo_pos (by first | assumption | omega) ?_)
    | (refine lo_neg (by first | assumption | omega) ?_)
    | (with_reducible refine lo_test (fun _ => by first | assumption | omega) (fun _ => ?_))
    | exact lo_refl _
    | refine lo_ite (fun _ => ?_) (fun _ => ?_)
    | refine lo_bind (fun _ => ?_)
    | (refine lo_some ?_; first | rfl | (rw [Bool.false_xor]; rfl))
  all_goals (exfalso; first | omega | (simp_all; done) | (simp_all; omega))
set_option maxHeartbeats 2000000 in
theorem regimenref05_Put.bf (k : Nat) (a0 : Int) : Lo (regimenref05_Put.f k a0) (regimenref05_Put.nf k a0) := by
  unfold regimenref05_Put.f regimenref05_Put.nf
  try simp only [Bool.false_xor, Bool.true_xor, wu8_64, wu8_u64, byL_nums, btS_bt, nil_tl, beq_decL, beq_decI]
  repeat' first
    | (with_reducible exact lo_refl _)
    | exact lo_none _
    | (with_reducible refine lo_ite (fun _ => ?_) (fun _ => ?_))
    | (with_reducible refine lo_bind (fun _ => ?_))
    | (with_reducible refine lo_left ?_)
    | (refine lo_pos (by first | assumption | omega) ?_)
    | (refine lo_neg (by first | assumption | omega) ?_)
    | (with_reducible refine lo_test (fun _ => by first | assumption | omega) (fun _ => ?_))
    | exact lo_refl _
    | refine lo_ite (fun _ => ?_) (fun _ => ?_)
    | refine lo_bind (fun _ => ?_)
    | (refine lo_some ?_; first | rfl | (rw [Bool.false_xor]; rfl))
  all_goals (exfalso; first | omega | (simp_all; done) | (simp_all; omega))
theorem regimenref05_Put.al : AllLe (obls regimenref05_Put.E Tryz.f74) := by
  rw [regimenref05_Put.h1]
  exact (.cons (fun k y r h => regimenref05_Put.bj0 k y.1.1 y.1.2.1 r h) (.cons (fun _ y r h => by simp [regimenref05_Put.j0] at h) (.cons (fun k y r h => regimenref05_Put.bl0 k y.1.1 y.1.2.1 y.1.2.2.1 r h) (.cons (fun _ y r h => by simp [regimenref05_Put.l0] at h) (.cons (fun k y r h => regimenref05_Put.bl1 k y.1.1 y.1.2.1 y.1.2.2.1 r h) (.cons (fun _ y r h => by simp [regimenref05_Put.l1] at h) .nil))))))
theorem regimenref05_Put.ok : CalleeOk Tryz.prog 74 regimenref05_Put.c := fn_ok tabOk mixed (fun _ => rfl) Tryz.func74 rfl (by kernel_rfl) (ok_cons regimenref02_Size.ok (ok_cons regimenref05_Tens.ok (ok_cons regimenref02_Times.ok (ok_cons regimenref02_Twos.ok (ok_cons regimenref03_Rounded.ok (ok_cons regimenref05_Read.ok (ok_cons regimenref02_Cmp.ok (ok_cons regimenref05_Text.ok ok_nil)))))))) regimenref05_Put.al (fun k x r h => (congrFun (congrFun regimenref05_Put.h2 k) x).symm.trans (regimenref05_Put.bf k _ r h))
def regimenref45_tail.c : Sym.Callee := ⟨(.cons (.sl (.int .i64)) .nil), .str, false, ByteArray, fun k x => regimenref45_tail.f k x.1, fun z => z, []⟩
def regimenref45_tail.nl0 (k : Nat) (x0 : List Int) (x3 : ByteArray) (x4 : Int) : Option (ByteArray) := (if x4 < (x0.length : Int) then (if x3.size + (⟨#[32]⟩ : ByteArray).size ≤ 9223372036854775807 then (if 0 ≤ x4 then (if x4 < (x0.length : Int) then ((regimenref05_Put.f k (x0.getD (x4).toNat 0)).bind fun t1 => (if (x3 ++ (⟨#[32]⟩ : ByteArray)).size + t1.size ≤ 9223372036854775807 then (regimenref45_tail.l0 k x0 ((x3 ++ (⟨#[32]⟩ : ByteArray)) ++ t1) (wrap64 (x4 + (1 : Int)))) else none)) else none) else none) else none) else (some x3))
def regimenref45_tail.nf (k : Nat) (a0 : List Int) : Option (ByteArray) := (regimenref45_tail.l0 k a0 (⟨#[]⟩ : ByteArray) (0 : Int))
noncomputable def regimenref45_tail.E : Env (ByteArray) := envOf tab Tryz.f45 false .str [] (fun y => y) [(74, regimenref05_Put.c)] [⟨3, ⟨20, [(0, (.sl (.int .i64)), []), (3, .str, []), (4, (.int .i64), [])], [], []⟩, fun k y => regimenref45_tail.l0 k y.1.1 y.1.2.1 y.1.2.2.1⟩] []
theorem regimenref45_tail.h1 : obls regimenref45_tail.E Tryz.f45 = [⟨(.cons (.cons (.sl (.int .i64)) (.cons .str (.cons (.int .i64) .nil))) (.cons .nil (.cons .nil .nil))), fun k y => regimenref45_tail.l0 (k + 1) y.1.1 y.1.2.1 y.1.2.2.1, fun k y => regimenref45_tail.nl0 k y.1.1 y.1.2.1 y.1.2.2.1⟩, ⟨(.cons (.cons (.sl (.int .i64)) (.cons .str (.cons (.int .i64) .nil))) (.cons .nil (.cons .nil .nil))), fun _ y => regimenref45_tail.l0 0 y.1.1 y.1.2.1 y.1.2.2.1, fun _ _ => none⟩] := by kernel_rfl
theorem regimenref45_tail.h2 : (fun k (x : El (.cons (.sl (.int .i64)) .nil)) => regimenref45_tail.nf k x.1) = fun k x => mainK regimenref45_tail.E Tryz.f45 (.cons (.sl (.int .i64)) .nil) k x := by kernel_rfl
theorem regimenref45_tail.bl0 (k : Nat) (x0 : List Int) (x3 : ByteArray) (x4 : Int) : Lo (regimenref45_tail.l0 (k + 1) x0 x3 x4) (regimenref45_tail.nl0 k x0 x3 x4) := by
  rw [regimenref45_tail.l0]
  unfold regimenref45_tail.nl0
  try simp only [Bool.false_xor, Bool.true_xor, wu8_64, wu8_u64, byL_nums, btS_bt, nil_tl, beq_decL, beq_decI]
  repeat' first
    | (with_reducible exact lo_refl _)
    | exact lo_none _
    | (with_reducible refine lo_ite (fun _ => ?_) (fun _ => ?_))
    | (with_reducible refine lo_bind (fun _ => ?_))
    | (with_reducible refine lo_left ?_)
    | (refine lo_pos (by first | assumption | omega) ?_)
    | (refine lo_neg (by first | assumption | omega) ?_)
    | (with_reducible refine lo_test (fun _ => by first | assumption | omega) (fun _ => ?_))
    | exact lo_refl _
    | refine lo_ite (fun _ => ?_) (fun _ => ?_)
    | refine lo_bind (fun _ => ?_)
    | (refine lo_some ?_; first | rfl | (rw [Bool.false_xor]; rfl))
  all_goals (exfalso; first | omega | (simp_all; done) | (simp_all; omega))
set_option maxHeartbeats 2000000 in
theorem regimenref45_tail.bf (k : Nat) (a0 : List Int) : Lo (regimenref45_tail.f k a0) (regimenref45_tail.nf k a0) := by
  unfold regimenref45_tail.f regimenref45_tail.nf
  try simp only [Bool.false_xor, Bool.true_xor, wu8_64, wu8_u64, byL_nums, btS_bt, nil_tl, beq_decL, beq_decI]
  repeat' first
    | (with_reducible exact lo_refl _)
    | exact lo_none _
    | (with_reducible refine lo_ite (fun _ => ?_) (fun _ => ?_))
    | (with_reducible refine lo_bind (fun _ => ?_))
    | (with_reducible refine lo_left ?_)
    | (refine lo_pos (by first | assumption | omega) ?_)
    | (refine lo_neg (by first | assumption | omega) ?_)
    | (with_reducible refine lo_test (fun _ => by first | assumption | omega) (fun _ => ?_))
    | exact lo_refl _
    | refine lo_ite (fun _ => ?_) (fun _ => ?_)
    | refine lo_bind (fun _ => ?_)
    | (refine lo_some ?_; first | rfl | (rw [Bool.false_xor]; rfl))
  all_goals (exfalso; first | omega | (simp_all; done) | (simp_all; omega))
theorem regimenref45_tail.al : AllLe (obls regimenref45_tail.E Tryz.f45) := by
  rw [regimenref45_tail.h1]
  exact (.cons (fun k y r h => regimenref45_tail.bl0 k y.1.1 y.1.2.1 y.1.2.2.1 r h) (.cons (fun _ y r h => by simp [regimenref45_tail.l0] at h) .nil))
theorem regimenref45_tail.ok : CalleeOk Tryz.prog 45 regimenref45_tail.c := fn_ok tabOk mixed (fun _ => rfl) Tryz.func45 rfl (by kernel_rfl) (ok_cons regimenref05_Put.ok ok_nil) regimenref45_tail.al (fun k x r h => (congrFun (congrFun regimenref45_tail.h2 k) x).symm.trans (regimenref45_tail.bf k _ r h))
def regimenref36_Words.c : Sym.Callee := ⟨.nil, (.sl .str), false, List ByteArray, fun k x => regimenref36_Words.f, fun z => z, []⟩
def regimenref36_Words.nf (k : Nat) : Option (List ByteArray) := (some [(⟨#[]⟩ : ByteArray), (⟨#[112, 104, 97, 115, 101]⟩ : ByteArray), (⟨#[116, 104, 97, 119]⟩ : ByteArray), (⟨#[102, 114, 101, 101, 122, 101]⟩ : ByteArray), (⟨#[115, 119, 97]⟩ : ByteArray), (⟨#[102, 97, 105, 108]⟩ : ByteArray), (⟨#[109, 105, 115, 115]⟩ : ByteArray), (⟨#[107, 101, 101, 112]⟩ : ByteArray), (⟨#[100, 114, 111, 112]⟩ : ByteArray), (⟨#[99, 117, 116]⟩ : ByteArray), (⟨#[115, 116, 111, 112]⟩ : ByteArray), (⟨#[101, 110, 100]⟩ : ByteArray)])
noncomputable def regimenref36_Words.E : Env (List ByteArray) := envOf tab Tryz.f61 false (.sl .str) [] (fun y => y) [] [] []
theorem regimenref36_Words.h1 : obls regimenref36_Words.E Tryz.f61 = [] := by kernel_rfl
theorem regimenref36_Words.h2 : (fun k (x : El .nil) => regimenref36_Words.nf k) = fun k x => mainK regimenref36_Words.E Tryz.f61 .nil k x := by kernel_rfl
set_option maxHeartbeats 2000000 in
theorem regimenref36_Words.bf (k : Nat) : Lo (regimenref36_Words.f ) (regimenref36_Words.nf k ) := by
  unfold regimenref36_Words.f regimenref36_Words.nf
  try simp only [Bool.false_xor, Bool.true_xor, wu8_64, wu8_u64, byL_nums, btS_bt, nil_tl, beq_decL, beq_decI]
  repeat' first
    | (with_reducible exact lo_refl _)
    | exact lo_none _
    | (with_reducible refine lo_ite (fun _ => ?_) (fun _ => ?_))
    | (with_reducible refine lo_bind (fun _ => ?_))
    | (with_reducible refine lo_left ?_)
    | (refine lo_pos (by first | assumption | omega) ?_)
    | (refine lo_neg (by first | assumption | omega) ?_)
    | (with_reducible refine lo_test (fun _ => by first | assumption | omega) (fun _ => ?_))
    | exact lo_refl _
    | refine lo_ite (fun _ => ?_) (fun _ => ?_)
    | refine lo_bind (fun _ => ?_)
    | (refine lo_some ?_; first | rfl | (rw [Bool.false_xor]; rfl))
  all_goals (exfalso; first | omega | (simp_all; done) | (simp_all; omega))
theorem regimenref36_Words.al : AllLe (obls regimenref36_Words.E Tryz.f61) := by
  rw [regimenref36_Words.h1]
  exact .nil
theorem regimenref36_Words.ok : CalleeOk Tryz.prog 61 regimenref36_Words.c := fn_ok tabOk mixed (fun _ => rfl) Tryz.func61 rfl (by kernel_rfl) ok_nil regimenref36_Words.al (fun k x r h => (congrFun (congrFun regimenref36_Words.h2 k) x).symm.trans (regimenref36_Words.bf k r h))
def regimenref36_Line.c : Sym.Callee := ⟨(.cons (.cons (.int .i64) (.cons (.int .i64) (.cons (.int .i64) .nil))) .nil), .str, false, ByteArray, fun k x => regimenref36_Line.f k x.1.1 x.1.2.1 x.1.2.2.1, fun z => z, []⟩
def regimenref36_Line.nf (k : Nat) (a0_0 : Int) (a0_1 : Int) (a0_2 : Int) : Option (ByteArray) := (if a0_1 ≥ (1 : Int) then (if a0_1 ≤ (11 : Int) then ((regimenref36_Words.f).bind fun t1 => (if 0 ≤ a0_1 then (if a0_1 < (t1.length : Int) then (if (t1.getD (a0_1).toNat (⟨#[]⟩ : ByteArray)).size + (⟨#[32]⟩ : ByteArray).size ≤ 9223372036854775807 then ((regimenref01_Tell.f k a0_2).bind fun t2 => (if ((t1.getD (a0_1).toNat (⟨#[]⟩ : ByteArray)) ++ (⟨#[32]⟩ : ByteArray)).size + t2.size ≤ 9223372036854775807 then (some (((t1.getD (a0_1).toNat (⟨#[]⟩ : ByteArray)) ++ (⟨#[32]⟩ : ByteArray)) ++ t2)) else none)) else none) else none) else none)) else (if (⟨#[63]⟩ : ByteArray).size + (⟨#[32]⟩ : ByteArray).size ≤ 9223372036854775807 then ((regimenref01_Tell.f k a0_2).bind fun t3 => (if ((⟨#[63]⟩ : ByteArray) ++ (⟨#[32]⟩ : ByteArray)).size + t3.size ≤ 9223372036854775807 then (some (((⟨#[63]⟩ : ByteArray) ++ (⟨#[32]⟩ : ByteArray)) ++ t3)) else none)) else none)) else (if (⟨#[63]⟩ : ByteArray).size + (⟨#[32]⟩ : ByteArray).size ≤ 9223372036854775807 then ((regimenref01_Tell.f k a0_2).bind fun t4 => (if ((⟨#[63]⟩ : ByteArray) ++ (⟨#[32]⟩ : ByteArray)).size + t4.size ≤ 9223372036854775807 then (some (((⟨#[63]⟩ : ByteArray) ++ (⟨#[32]⟩ : ByteArray)) ++ t4)) else none)) else none))
noncomputable def regimenref36_Line.E : Env (ByteArray) := envOf tab Tryz.f55 false .str [] (fun y => y) [(61, regimenref36_Words.c), (44, regimenref01_Tell.c)] [] []
theorem regimenref36_Line.h1 : obls regimenref36_Line.E Tryz.f55 = [] := by kernel_rfl
theorem regimenref36_Line.h2 : (fun k (x : El (.cons (.cons (.int .i64) (.cons (.int .i64) (.cons (.int .i64) .nil))) .nil)) => regimenref36_Line.nf k x.1.1 x.1.2.1 x.1.2.2.1) = fun k x => mainK regimenref36_Line.E Tryz.f55 (.cons (.cons (.int .i64) (.cons (.int .i64) (.cons (.int .i64) .nil))) .nil) k x := by kernel_rfl
set_option maxHeartbeats 2000000 in
theorem regimenref36_Line.bf (k : Nat) (a0_0 : Int) (a0_1 : Int) (a0_2 : Int) : Lo (regimenref36_Line.f k a0_0 a0_1 a0_2) (regimenref36_Line.nf k a0_0 a0_1 a0_2) := by
  unfold regimenref36_Line.f regimenref36_Line.nf
  try simp only [Bool.false_xor, Bool.true_xor, wu8_64, wu8_u64, byL_nums, btS_bt, nil_tl, beq_decL, beq_decI]
  repeat' first
    | (with_reducible exact lo_refl _)
    | exact lo_none _
    | (with_reducible refine lo_lpos (by first | assumption | decide) ?_)
    | (with_reducible refine lo_lneg (by first | assumption | decide) ?_)
    | (with_reducible refine lo_ite (fun _ => ?_) (fun _ => ?_))
    | (with_reducible refine lo_bind (fun _ => ?_))
    | (with_reducible refine lo_left ?_)
    | (refine lo_neg (by decide) ?_)
    | (refine lo_pos (by first | assumption | omega) ?_)
    | (refine lo_neg (by first | assumption | omega) ?_)
    | (refine lo_trans (fun r h => (regimenref36_Line.mono_l _) _ _ _ _ _ r h) ?_; rw [regimenref36_Line.j0]; try simp only [decide_eq_true_eq])
    | (with_reducible refine lo_test (fun _ => by first | assumption | omega | (simp only [List.length_cons, List.length_nil]; omega) | decide) (fun _ => ?_))
    | (with_reducible refine lo_testn (fun _ => by first | assumption | omega) (fun _ => ?_))
    | (with_reducible refine lo_and (fun z => by first | exact z.1 | omega) (fun z => by first | exact z.2 | omega) (fun _ => ?_))
    | exact lo_refl _
    | (with_reducible refine lo_iff (by first | exact Iff.rfl | omega | (simp; done) | decide) (fun _ => ?_) (fun _ => ?_))
    | (with_reducible refine lo_iffn (by first | exact Iff.rfl | omega | (simp; done) | decide) (fun _ => ?_) (fun _ => ?_))
    | refine lo_ite (fun _ => ?_) (fun _ => ?_)
    | refine lo_bind (fun _ => ?_)
    | (refine lo_some ?_; first | rfl | (rw [Bool.false_xor]; rfl) | (rw [Bool.true_xor]; rfl) | (simp only [Bool.and_true]; rfl) | (simp; done))
    | (simp only [Int.zero_sub]; exact lo_refl _)
    | (with_reducible refine lo_lpos (by omega) ?_)
    | (with_reducible refine lo_lneg (by omega) ?_)
    | (with_reducible refine lo_lite (fun _ => ?_) (fun _ => ?_))
    | (with_reducible refine lo_rite (fun _ => ?_) (fun _ => ?_))
  all_goals (exfalso; first | omega | (simp_all; done) | (simp_all; omega))
theorem regimenref36_Line.al : AllLe (obls regimenref36_Line.E Tryz.f55) := by
  rw [regimenref36_Line.h1]
  exact .nil
theorem regimenref36_Line.ok : CalleeOk Tryz.prog 55 regimenref36_Line.c := fn_ok tabOk mixed (fun _ => rfl) Tryz.func55 rfl (by kernel_rfl) (ok_cons regimenref36_Words.ok (ok_cons regimenref01_Tell.ok ok_nil)) regimenref36_Line.al (fun k x r h => (congrFun (congrFun regimenref36_Line.h2 k) x).symm.trans (regimenref36_Line.bf k _ _ _ r h))
mutual
def regimenref45_Step_s.l3 : Nat → (List ByteArray) → Int → (Int × Int × (List Int) × (List Bool) × (List (Int × Int × Int × Unit)) × Int × Unit) → Option (List ByteArray)
  | 0, _, _, _ => none
  | k + 1, x3, x4, b1 => (if (wrap64 ((wrap64 ((3 : Int) * x4)) + (2 : Int))) < (b1.2.2.1.length : Int) then ((regimenref01_Tell.f k x4).bind fun t4 => (if (⟨#[32, 32, 103, 114, 111, 117, 112, 32]⟩ : ByteArray).size + t4.size ≤ 9223372036854775807 then (if 0 ≤ (wrap64 ((3 : Int) * x4)) then (if (wrap64 ((3 : Int) * x4)) ≤ (wrap64 ((wrap64 ((3 : Int) * x4)) + (3 : Int))) then (if (wrap64 ((wrap64 ((3 : Int) * x4)) + (3 : Int))) ≤ (b1.2.2.1.length : Int) then ((regimenref45_tail.f k ((b1.2.2.1.take ((wrap64 ((wrap64 ((3 : Int) * x4)) + (3 : Int)))).toNat).drop ((wrap64 ((3 : Int) * x4))).toNat)).bind fun t5 => (if ((⟨#[32, 32, 103, 114, 111, 117, 112, 32]⟩ : ByteArray) ++ t4).size + t5.size ≤ 9223372036854775807 then (if x4 < (b1.2.2.2.1.length : Int) then (if 0 ≤ x4 then (if x4 < (b1.2.2.2.1.length : Int) then (if (b1.2.2.2.1.getD (x4).toNat false) = true then (if (((⟨#[32, 32, 103, 114, 111, 117, 112, 32]⟩ : ByteArray) ++ t4) ++ t5).size + (⟨#[32, 102, 114, 111, 122, 101, 110]⟩ : ByteArray).size ≤ 9223372036854775807 then (regimenref45_Step_s.j8 k x3 x4 ((((⟨#[32, 32, 103, 114, 111, 117, 112, 32]⟩ : ByteArray) ++ t4) ++ t5) ++ (⟨#[32, 102, 114, 111, 122, 101, 110]⟩ : ByteArray)) b1) else none) else (regimenref45_Step_s.j8 k x3 x4 (((⟨#[32, 32, 103, 114, 111, 117, 112, 32]⟩ : ByteArray) ++ t4) ++ t5) b1)) else none) else none) else (regimenref45_Step_s.j8 k x3 x4 (((⟨#[32, 32, 103, 114, 111, 117, 112, 32]⟩ : ByteArray) ++ t4) ++ t5) b1)) else none)) else none) else none) else none) else none)) else (regimenref45_Step_s.l10 k x3 (0 : Int) b1))
def regimenref45_Step_s.j8 : Nat → (List ByteArray) → Int → ByteArray → (Int × Int × (List Int) × (List Bool) × (List (Int × Int × Int × Unit)) × Int × Unit) → Option (List ByteArray)
  | 0, _, _, _, _ => none
  | k + 1, x3, x4, x5, b1 => (if (x3.length + [x5].length) * 16 ≤ 140737488355328 then (regimenref45_Step_s.j4 k (x3 ++ [x5]) x4 b1) else none)
def regimenref45_Step_s.j4 : Nat → (List ByteArray) → Int → (Int × Int × (List Int) × (List Bool) × (List (Int × Int × Int × Unit)) × Int × Unit) → Option (List ByteArray)
  | 0, _, _, _ => none
  | k + 1, x3, x4, b1 => (regimenref45_Step_s.l3 k x3 (wrap64 (x4 + (1 : Int))) b1)
def regimenref45_Step_s.l10 : Nat → (List ByteArray) → Int → (Int × Int × (List Int) × (List Bool) × (List (Int × Int × Int × Unit)) × Int × Unit) → Option (List ByteArray)
  | 0, _, _, _ => none
  | k + 1, x3, x6, b1 => (if x6 < (b1.2.2.2.2.1.length : Int) then (if 0 ≤ x6 then (if x6 < (b1.2.2.2.2.1.length : Int) then ((regimenref36_Line.f k ((b1.2.2.2.2.1.getD (x6).toNat (0, 0, 0, ())).1) ((b1.2.2.2.2.1.getD (x6).toNat (0, 0, 0, ())).2.1) ((b1.2.2.2.2.1.getD (x6).toNat (0, 0, 0, ())).2.2.1)).bind fun t6 => (if (⟨#[32, 32]⟩ : ByteArray).size + t6.size ≤ 9223372036854775807 then (if (x3.length + [((⟨#[32, 32]⟩ : ByteArray) ++ t6)].length) * 16 ≤ 140737488355328 then (regimenref45_Step_s.l10 k (x3 ++ [((⟨#[32, 32]⟩ : ByteArray) ++ t6)]) (wrap64 (x6 + (1 : Int))) b1) else none) else none)) else none) else none) else (some x3))
end
def regimenref45_Step_s.f (k : Nat) (a0 : Int × Int × (List Int) × (List Bool) × (List (Int × Int × Int × Unit)) × Int × Unit) : Option (List ByteArray) := ((regimenref01_Tell.f k a0.1).bind fun t1 => (if (⟨#[115, 116, 101, 112, 32]⟩ : ByteArray).size + t1.size ≤ 9223372036854775807 then (if ((⟨#[115, 116, 101, 112, 32]⟩ : ByteArray) ++ t1).size + (⟨#[32, 112, 104, 97, 115, 101, 32]⟩ : ByteArray).size ≤ 9223372036854775807 then ((regimenref01_Tell.f k a0.2.1).bind fun t2 => (if (((⟨#[115, 116, 101, 112, 32]⟩ : ByteArray) ++ t1) ++ (⟨#[32, 112, 104, 97, 115, 101, 32]⟩ : ByteArray)).size + t2.size ≤ 9223372036854775807 then (if ((((⟨#[115, 116, 101, 112, 32]⟩ : ByteArray) ++ t1) ++ (⟨#[32, 112, 104, 97, 115, 101, 32]⟩ : ByteArray)) ++ t2).size + (⟨#[32]⟩ : ByteArray).size ≤ 9223372036854775807 then ((regimenref45_Word.f a0.2.2.2.2.2.1).bind fun t3 => (if (((((⟨#[115, 116, 101, 112, 32]⟩ : ByteArray) ++ t1) ++ (⟨#[32, 112, 104, 97, 115, 101, 32]⟩ : ByteArray)) ++ t2) ++ (⟨#[32]⟩ : ByteArray)).size + t3.size ≤ 9223372036854775807 then (regimenref45_Step_s.l3 k [((((((⟨#[115, 116, 101, 112, 32]⟩ : ByteArray) ++ t1) ++ (⟨#[32, 112, 104, 97, 115, 101, 32]⟩ : ByteArray)) ++ t2) ++ (⟨#[32]⟩ : ByteArray)) ++ t3)] (0 : Int) a0) else none)) else none) else none)) else none) else none))
def regimenref45_Step_s.c : Sym.Callee := ⟨(.cons (.cons (.int .i64) (.cons (.int .i64) (.cons (.sl (.int .i64)) (.cons (.sl .bool) (.cons (.sl (.cons (.int .i64) (.cons (.int .i64) (.cons (.int .i64) .nil)))) (.cons (.int .i64) .nil)))))) .nil), (.sl .str), false, El (.sl .str), fun k x => regimenref45_Step_s.f k x.1, fun y => y, []⟩
noncomputable def regimenref45_Step_s.E : Env (El (.sl .str)) := envOf tab Tryz.f26 false (.sl .str) [] (fun y => y) [(44, regimenref01_Tell.c), (25, regimenref45_Word.c), (45, regimenref45_tail.c), (55, regimenref36_Line.c)] [⟨3, ⟨80, [(3, (.sl .str), [⟨0, 4, 9, 1⟩]), (4, (.int .i64), [])], [(1, (.cons (.int .i64) (.cons (.int .i64) (.cons (.sl (.int .i64)) (.cons (.sl .bool) (.cons (.sl (.cons (.int .i64) (.cons (.int .i64) (.cons (.int .i64) .nil)))) (.cons (.int .i64) .nil)))))), [])], []⟩, fun k y => regimenref45_Step_s.l3 k y.1.1 y.1.2.1 y.2.1.1⟩, ⟨10, ⟨80, [(3, (.sl .str), [⟨0, 4, 9, 1⟩]), (6, (.int .i64), [])], [(1, (.cons (.int .i64) (.cons (.int .i64) (.cons (.sl (.int .i64)) (.cons (.sl .bool) (.cons (.sl (.cons (.int .i64) (.cons (.int .i64) (.cons (.int .i64) .nil)))) (.cons (.int .i64) .nil)))))), [])], []⟩, fun k y => regimenref45_Step_s.l10 k y.1.1 y.1.2.1 y.2.1.1⟩] [⟨8, ⟨80, [(3, (.sl .str), [⟨0, 4, 9, 1⟩]), (4, (.int .i64), []), (5, .str, [])], [(1, (.cons (.int .i64) (.cons (.int .i64) (.cons (.sl (.int .i64)) (.cons (.sl .bool) (.cons (.sl (.cons (.int .i64) (.cons (.int .i64) (.cons (.int .i64) .nil)))) (.cons (.int .i64) .nil)))))), [])], []⟩, fun k y => regimenref45_Step_s.j8 k y.1.1 y.1.2.1 y.1.2.2.1 y.2.1.1⟩, ⟨4, ⟨80, [(3, (.sl .str), [⟨0, 4, 9, 1⟩]), (4, (.int .i64), [])], [(1, (.cons (.int .i64) (.cons (.int .i64) (.cons (.sl (.int .i64)) (.cons (.sl .bool) (.cons (.sl (.cons (.int .i64) (.cons (.int .i64) (.cons (.int .i64) .nil)))) (.cons (.int .i64) .nil)))))), [])], []⟩, fun k y => regimenref45_Step_s.j4 k y.1.1 y.1.2.1 y.2.1.1⟩]
theorem regimenref45_Step_s.h1 : (obls regimenref45_Step_s.E Tryz.f26).map Ob.left = (obls regimenref45_Step_s.E Tryz.f26).map Ob.right := by kernel_rfl
theorem regimenref45_Step_s.h2 : (fun k x => regimenref45_Step_s.c.fn k x) = fun k x => mainK regimenref45_Step_s.E Tryz.f26 regimenref45_Step_s.c.dom k x := by kernel_rfl
theorem regimenref45_Step_s.ok : CalleeOk Tryz.prog 26 regimenref45_Step_s.c := fn_ok tabOk mixed (fun _ => rfl) Tryz.func26 rfl (by kernel_rfl) (ok_cons regimenref01_Tell.ok (ok_cons regimenref45_Word.ok (ok_cons regimenref45_tail.ok (ok_cons regimenref36_Line.ok ok_nil)))) (.of_eq regimenref45_Step_s.h1) (fun k x _ h => (congrFun (congrFun regimenref45_Step_s.h2 k) x).symm.trans h)
def regimenref05_Places.c : Sym.Callee := ⟨(.cons .str .nil), (.int .i64), false, Int, fun k x => regimenref05_Places.f k x.1, fun z => z, []⟩
def regimenref05_Places.nl0 (k : Nat) (x0 : ByteArray) (x3 : Int) (x4 : Int) : Option (Int) := (if x4 < (x0.size : Int) then (if 0 ≤ x4 then (if x4 < (x0.size : Int) then (if (btS x0 x4) = (46 : Int) then (if x3 = (x0.size : Int) then (regimenref05_Places.l0 k x0 x4 (wrap64 (x4 + (1 : Int)))) else (if 0 ≤ x4 then (if x4 < (x0.size : Int) then (if (btS x0 x4) < (48 : Int) then (some (-1 : Int)) else (if 0 ≤ x4 then (if x4 < (x0.size : Int) then (if (btS x0 x4) > (57 : Int) then (some (-1 : Int)) else (regimenref05_Places.l0 k x0 x3 (wrap64 (x4 + (1 : Int))))) else none) else none)) else none) else none)) else (if 0 ≤ x4 then (if x4 < (x0.size : Int) then (if (btS x0 x4) < (48 : Int) then (some (-1 : Int)) else (if 0 ≤ x4 then (if x4 < (x0.size : Int) then (if (btS x0 x4) > (57 : Int) then (some (-1 : Int)) else (regimenref05_Places.l0 k x0 x3 (wrap64 (x4 + (1 : Int))))) else none) else none)) else none) else none)) else none) else none) else (if x3 = (0 : Int) then (some (-1 : Int)) else (if x3 > (1 : Int) then (if 0 ≤ (0 : Int) then (if (0 : Int) < (x0.size : Int) then (if (btS x0 (0 : Int)) = (48 : Int) then (some (-1 : Int)) else (if x3 = (wrap64 ((x0.size : Int) - (1 : Int))) then (some (-1 : Int)) else (if x3 = (x0.size : Int) then (some (0 : Int)) else (some (wrap64 ((wrap64 ((x0.size : Int) - x3)) - (1 : Int))))))) else none) else none) else (if x3 = (wrap64 ((x0.size : Int) - (1 : Int))) then (some (-1 : Int)) else (if x3 = (x0.size : Int) then (some (0 : Int)) else (some (wrap64 ((wrap64 ((x0.size : Int) - x3)) - (1 : Int)))))))))
def regimenref05_Places.nf (k : Nat) (a0 : ByteArray) : Option (Int) := (if (a0.size : Int) > (0 : Int) then (if 0 ≤ (0 : Int) then (if (0 : Int) < (a0.size : Int) then (if (btS a0 (0 : Int)) = (45 : Int) then (if 0 ≤ (1 : Int) then (if (1 : Int) ≤ (a0.size : Int) then (regimenref05_Places.l0 k (a0.extract ((1 : Int)).toNat a0.size) ((a0.extract ((1 : Int)).toNat a0.size).size : Int) (0 : Int)) else none) else none) else (regimenref05_Places.l0 k a0 (a0.size : Int) (0 : Int))) else none) else none) else (regimenref05_Places.l0 k a0 (a0.size : Int) (0 : Int)))
noncomputable def regimenref05_Places.E : Env (Int) := envOf tab Tryz.f56 false (.int .i64) [] (fun y => y) [] [⟨5, ⟨71, [(0, .str, []), (3, (.int .i64), []), (4, (.int .i64), [])], [], []⟩, fun k y => regimenref05_Places.l0 k y.1.1 y.1.2.1 y.1.2.2.1⟩] []
theorem regimenref05_Places.h1 : obls regimenref05_Places.E Tryz.f56 = [⟨(.cons (.cons .str (.cons (.int .i64) (.cons (.int .i64) .nil))) (.cons .nil (.cons .nil .nil))), fun k y => regimenref05_Places.l0 (k + 1) y.1.1 y.1.2.1 y.1.2.2.1, fun k y => regimenref05_Places.nl0 k y.1.1 y.1.2.1 y.1.2.2.1⟩, ⟨(.cons (.cons .str (.cons (.int .i64) (.cons (.int .i64) .nil))) (.cons .nil (.cons .nil .nil))), fun _ y => regimenref05_Places.l0 0 y.1.1 y.1.2.1 y.1.2.2.1, fun _ _ => none⟩] := by kernel_rfl
theorem regimenref05_Places.h2 : (fun k (x : El (.cons .str .nil)) => regimenref05_Places.nf k x.1) = fun k x => mainK regimenref05_Places.E Tryz.f56 (.cons .str .nil) k x := by kernel_rfl
theorem regimenref05_Places.bl0 (k : Nat) (x0 : ByteArray) (x3 : Int) (x4 : Int) : Lo (regimenref05_Places.l0 (k + 1) x0 x3 x4) (regimenref05_Places.nl0 k x0 x3 x4) := by
  rw [regimenref05_Places.l0]
  unfold regimenref05_Places.nl0
  try simp only [Bool.false_xor, Bool.true_xor, wu8_64, wu8_u64, byL_nums, btS_bt, nil_tl, beq_decL, beq_decI]
  repeat' first
    | (with_reducible exact lo_refl _)
    | exact lo_none _
    | (with_reducible refine lo_lpos (by first | assumption | decide) ?_)
    | (with_reducible refine lo_lneg (by first | assumption | decide) ?_)
    | (with_reducible refine lo_ite (fun _ => ?_) (fun _ => ?_))
    | (with_reducible refine lo_bind (fun _ => ?_))
    | (with_reducible refine lo_left ?_)
    | (refine lo_neg (by decide) ?_)
    | (refine lo_pos (by first | assumption | omega) ?_)
    | (refine lo_neg (by first | assumption | omega) ?_)
    | (refine lo_trans (fun r h => (regimenref05_Places.mono_l _).1 _ _ r h) ?_; rw [regimenref05_Places.j0]; try simp only [decide_eq_true_eq])
    | (refine lo_trans (fun r h => (regimenref05_Places.mono_l _).2.1 _ r h) ?_; rw [regimenref05_Places.j1]; try simp only [decide_eq_true_eq])
    | (refine lo_trans (fun r h => (regimenref05_Places.mono_l _).2.2.2.1 _ _ _ _ r h) ?_; rw [regimenref05_Places.j3]; try simp only [decide_eq_true_eq])
    | (refine lo_trans (fun r h => (regimenref05_Places.mono_l _).2.2.2.2 _ _ _ r h) ?_; rw [regimenref05_Places.j4]; try simp only [decide_eq_true_eq])
    | (with_reducible refine lo_test (fun _ => by first | assumption | omega | (simp only [List.length_cons, List.length_nil]; omega) | decide) (fun _ => ?_))
    | (with_reducible refine lo_testn (fun _ => by first | assumption | omega) (fun _ => ?_))
    | (with_reducible refine lo_and (fun z => by first | exact z.1 | omega) (fun z => by first | exact z.2 | omega) (fun _ => ?_))
    | exact lo_refl _
    | (with_reducible refine lo_iff (by first | exact Iff.rfl | omega | (simp; done) | decide) (fun _ => ?_) (fun _ => ?_))
    | (with_reducible refine lo_iffn (by first | exact Iff.rfl | omega | (simp; done) | decide) (fun _ => ?_) (fun _ => ?_))
    | refine lo_ite (fun _ => ?_) (fun _ => ?_)
    | refine lo_bind (fun _ => ?_)
    | (refine lo_some ?_; first | rfl | (rw [Bool.false_xor]; rfl) | (rw [Bool.true_xor]; rfl) | (simp only [Bool.and_true]; rfl) | (simp; done))
    | (simp only [Int.zero_sub]; exact lo_refl _)
    | (with_reducible refine lo_lpos (by omega) ?_)
    | (with_reducible refine lo_lneg (by omega) ?_)
    | (with_reducible refine lo_lite (fun _ => ?_) (fun _ => ?_))
    | (with_reducible refine lo_rite (fun _ => ?_) (fun _ => ?_))
  all_goals (exfalso; first | omega | (simp_all; done) | (simp_all; omega))
set_option maxHeartbeats 2000000 in
theorem regimenref05_Places.bf (k : Nat) (a0 : ByteArray) : Lo (regimenref05_Places.f k a0) (regimenref05_Places.nf k a0) := by
  unfold regimenref05_Places.f regimenref05_Places.nf
  try simp only [Bool.false_xor, Bool.true_xor, wu8_64, wu8_u64, byL_nums, btS_bt, nil_tl, beq_decL, beq_decI]
  repeat' first
    | (with_reducible exact lo_refl _)
    | exact lo_none _
    | (with_reducible refine lo_lpos (by first | assumption | decide) ?_)
    | (with_reducible refine lo_lneg (by first | assumption | decide) ?_)
    | (with_reducible refine lo_ite (fun _ => ?_) (fun _ => ?_))
    | (with_reducible refine lo_bind (fun _ => ?_))
    | (with_reducible refine lo_left ?_)
    | (refine lo_neg (by decide) ?_)
    | (refine lo_pos (by first | assumption | omega) ?_)
    | (refine lo_neg (by first | assumption | omega) ?_)
    | (refine lo_trans (fun r h => (regimenref05_Places.mono_l _).1 _ _ r h) ?_; rw [regimenref05_Places.j0]; try simp only [decide_eq_true_eq])
    | (refine lo_trans (fun r h => (regimenref05_Places.mono_l _).2.1 _ r h) ?_; rw [regimenref05_Places.j1]; try simp only [decide_eq_true_eq])
    | (refine lo_trans (fun r h => (regimenref05_Places.mono_l _).2.2.2.1 _ _ _ _ r h) ?_; rw [regimenref05_Places.j3]; try simp only [decide_eq_true_eq])
    | (refine lo_trans (fun r h => (regimenref05_Places.mono_l _).2.2.2.2 _ _ _ r h) ?_; rw [regimenref05_Places.j4]; try simp only [decide_eq_true_eq])
    | (with_reducible refine lo_test (fun _ => by first | assumption | omega | (simp only [List.length_cons, List.length_nil]; omega) | decide) (fun _ => ?_))
    | (with_reducible refine lo_testn (fun _ => by first | assumption | omega) (fun _ => ?_))
    | (with_reducible refine lo_and (fun z => by first | exact z.1 | omega) (fun z => by first | exact z.2 | omega) (fun _ => ?_))
    | exact lo_refl _
    | (with_reducible refine lo_iff (by first | exact Iff.rfl | omega | (simp; done) | decide) (fun _ => ?_) (fun _ => ?_))
    | (with_reducible refine lo_iffn (by first | exact Iff.rfl | omega | (simp; done) | decide) (fun _ => ?_) (fun _ => ?_))
    | refine lo_ite (fun _ => ?_) (fun _ => ?_)
    | refine lo_bind (fun _ => ?_)
    | (refine lo_some ?_; first | rfl | (rw [Bool.false_xor]; rfl) | (rw [Bool.true_xor]; rfl) | (simp only [Bool.and_true]; rfl) | (simp; done))
    | (simp only [Int.zero_sub]; exact lo_refl _)
    | (with_reducible refine lo_lpos (by omega) ?_)
    | (with_reducible refine lo_lneg (by omega) ?_)
    | (with_reducible refine lo_lite (fun _ => ?_) (fun _ => ?_))
    | (with_reducible refine lo_rite (fun _ => ?_) (fun _ => ?_))
  all_goals (exfalso; first | omega | (simp_all; done) | (simp_all; omega))
theorem regimenref05_Places.al : AllLe (obls regimenref05_Places.E Tryz.f56) := by
  rw [regimenref05_Places.h1]
  exact (.cons (fun k y r h => regimenref05_Places.bl0 k y.1.1 y.1.2.1 y.1.2.2.1 r h) (.cons (fun _ y r h => by simp [regimenref05_Places.l0] at h) .nil))
theorem regimenref05_Places.ok : CalleeOk Tryz.prog 56 regimenref05_Places.c := fn_ok tabOk mixed (fun _ => rfl) Tryz.func56 rfl (by kernel_rfl) ok_nil regimenref05_Places.al (fun k x r h => (congrFun (congrFun regimenref05_Places.h2 k) x).symm.trans (regimenref05_Places.bf k _ r h))
def regimenref02_Mod.c : Sym.Callee := ⟨(.cons (.sl (.int .u64)) .nil), (.cons (.int .u64) (.cons (.int .u64) .nil)), false, Int × Int, fun k x => regimenref02_Mod.f k x.1, fun z => (z.1, z.2, ()), []⟩
def regimenref02_Mod.nl0 (k : Nat) (x0 : List Int) (x4 : Int) (b2_0 : Int) (b2_1 : Int) (b3_0 : Int) (b3_1 : Int) : Option (Int × Int) := (if x4 ≥ (0 : Int) then (if x4 ≥ (4 : Int) then (if 0 ≤ (0 : Int) then (if (0 : Int) < ((2 : Nat) : Int) then ((regimenref02_digit.f x0 x4).bind fun t1 => (if 0 ≤ (0 : Int) then (if (0 : Int) < ((2 : Nat) : Int) then (regimenref02_Mod.l0 k x0 (wrap64 (x4 - (1 : Int))) (IntKind.wrap .u64 ((IntKind.wrap .u64 (b3_0 * (65536 : Int))) + t1)) b3_1) else none) else none)) else none) else none) else (if 0 ≤ (1 : Int) then (if (1 : Int) < ((2 : Nat) : Int) then ((regimenref02_digit.f x0 x4).bind fun t2 => (if 0 ≤ (1 : Int) then (if (1 : Int) < ((2 : Nat) : Int) then (regimenref02_Mod.l0 k x0 (wrap64 (x4 - (1 : Int))) b3_0 (IntKind.wrap .u64 ((IntKind.wrap .u64 (b3_1 * (65536 : Int))) + t2))) else none) else none)) else none) else none)) else (some (b3_0, b3_1)))
def regimenref02_Mod.nf (k : Nat) (a0 : List Int) : Option (Int × Int) := (regimenref02_Mod.l0 k a0 (7 : Int) 0 0)
noncomputable def regimenref02_Mod.E : Env (Int × Int) := envOf tab Tryz.f86 false (.cons (.int .u64) (.cons (.int .u64) .nil)) [] (fun y => (y.1, y.2.1)) [(83, regimenref02_digit.c)] [⟨3, ⟨29, [(0, (.sl (.int .u64)), []), (4, (.int .i64), [])], [(2, (.cons (.int .u64) (.cons (.int .u64) .nil)), []), (3, (.cons (.int .u64) (.cons (.int .u64) .nil)), [])], []⟩, fun k y => regimenref02_Mod.l0 k y.1.1 y.1.2.1 y.2.1.2.1.1 y.2.1.2.1.2.1⟩] []
theorem regimenref02_Mod.h1 : obls regimenref02_Mod.E Tryz.f86 = [⟨(.cons (.cons (.sl (.int .u64)) (.cons (.int .i64) .nil)) (.cons (.cons (.cons (.int .u64) (.cons (.int .u64) .nil)) (.cons (.cons (.int .u64) (.cons (.int .u64) .nil)) .nil)) (.cons .nil .nil))), fun k y => regimenref02_Mod.l0 (k + 1) y.1.1 y.1.2.1 y.2.1.2.1.1 y.2.1.2.1.2.1, fun k y => regimenref02_Mod.nl0 k y.1.1 y.1.2.1 y.2.1.1.1 y.2.1.1.2.1 y.2.1.2.1.1 y.2.1.2.1.2.1⟩, ⟨(.cons (.cons (.sl (.int .u64)) (.cons (.int .i64) .nil)) (.cons (.cons (.cons (.int .u64) (.cons (.int .u64) .nil)) (.cons (.cons (.int .u64) (.cons (.int .u64) .nil)) .nil)) (.cons .nil .nil))), fun _ y => regimenref02_Mod.l0 0 y.1.1 y.1.2.1 y.2.1.2.1.1 y.2.1.2.1.2.1, fun _ _ => none⟩] := by kernel_rfl
theorem regimenref02_Mod.h2 : (fun k (x : El (.cons (.sl (.int .u64)) .nil)) => regimenref02_Mod.nf k x.1) = fun k x => mainK regimenref02_Mod.E Tryz.f86 (.cons (.sl (.int .u64)) .nil) k x := by kernel_rfl
theorem regimenref02_Mod.bl0 (k : Nat) (x0 : List Int) (x4 : Int) (b2_0 : Int) (b2_1 : Int) (b3_0 : Int) (b3_1 : Int) : Lo (regimenref02_Mod.l0 (k + 1) x0 x4 b3_0 b3_1) (regimenref02_Mod.nl0 k x0 x4 b2_0 b2_1 b3_0 b3_1) := by
  rw [regimenref02_Mod.l0]
  unfold regimenref02_Mod.nl0
  try simp only [Bool.false_xor, Bool.true_xor, wu8_64, wu8_u64, byL_nums, btS_bt, nil_tl, beq_decL, beq_decI]
  repeat' first
    | (with_reducible exact lo_refl _)
    | exact lo_none _
    | (with_reducible refine lo_ite (fun _ => ?_) (fun _ => ?_))
    | (with_reducible refine lo_bind (fun _ => ?_))
    | (with_reducible refine lo_left ?_)
    | (refine lo_pos (by first | assumption | omega) ?_)
    | (refine lo_neg (by first | assumption | omega) ?_)
    | (with_reducible refine lo_test (fun _ => by first | assumption | omega) (fun _ => ?_))
    | exact lo_refl _
    | refine lo_ite (fun _ => ?_) (fun _ => ?_)
    | refine lo_bind (fun _ => ?_)
    | (refine lo_some ?_; first | rfl | (rw [Bool.false_xor]; rfl))
  all_goals (exfalso; first | omega | (simp_all; done) | (simp_all; omega))
set_option maxHeartbeats 2000000 in
theorem regimenref02_Mod.bf (k : Nat) (a0 : List Int) : Lo (regimenref02_Mod.f k a0) (regimenref02_Mod.nf k a0) := by
  unfold regimenref02_Mod.f regimenref02_Mod.nf
  try simp only [Bool.false_xor, Bool.true_xor, wu8_64, wu8_u64, byL_nums, btS_bt, nil_tl, beq_decL, beq_decI]
  repeat' first
    | (with_reducible exact lo_refl _)
    | exact lo_none _
    | (with_reducible refine lo_ite (fun _ => ?_) (fun _ => ?_))
    | (with_reducible refine lo_bind (fun _ => ?_))
    | (with_reducible refine lo_left ?_)
    | (refine lo_pos (by first | assumption | omega) ?_)
    | (refine lo_neg (by first | assumption | omega) ?_)
    | (with_reducible refine lo_test (fun _ => by first | assumption | omega) (fun _ => ?_))
    | exact lo_refl _
    | refine lo_ite (fun _ => ?_) (fun _ => ?_)
    | refine lo_bind (fun _ => ?_)
    | (refine lo_some ?_; first | rfl | (rw [Bool.false_xor]; rfl))
  all_goals (exfalso; first | omega | (simp_all; done) | (simp_all; omega))
theorem regimenref02_Mod.al : AllLe (obls regimenref02_Mod.E Tryz.f86) := by
  rw [regimenref02_Mod.h1]
  exact (.cons (fun k y r h => regimenref02_Mod.bl0 k y.1.1 y.1.2.1 y.2.1.1.1 y.2.1.1.2.1 y.2.1.2.1.1 y.2.1.2.1.2.1 r h) (.cons (fun _ y r h => by simp [regimenref02_Mod.l0] at h) .nil))
theorem regimenref02_Mod.ok : CalleeOk Tryz.prog 86 regimenref02_Mod.c := fn_ok tabOk mixed (fun _ => rfl) Tryz.func86 rfl (by kernel_rfl) (ok_cons regimenref02_digit.ok ok_nil) regimenref02_Mod.al (fun k x r h => (congrFun (congrFun regimenref02_Mod.h2 k) x).symm.trans (regimenref02_Mod.bf k _ r h))
def regimenref04_Signed.c : Sym.Callee := ⟨(.cons (.sl (.int .u64)) (.cons .bool .nil)), (.cons (.int .i64) (.cons (.int .i64) .nil)), true, Int × Int, fun k x => regimenref04_Signed.f k x.1 x.2.1, fun z => (z.1, z.2, ()), []⟩
def regimenref04_Signed.nf (k : Nat) (a0 : List Int) (a1 : Bool) : Option (Int × Int) := ((regimenref02_Twos.f k (63 : Int)).bind fun t1 => ((regimenref02_Cmp.f k a0 t1).bind fun t2 => (if t2 > (0 : Int) then (some ((0 : Int), (4 : Int))) else (if t2 = (0 : Int) then (if (!a1) = true then (some ((0 : Int), (4 : Int))) else ((regimenref02_Mod.f k a0).bind fun t3 => (if 0 ≤ (1 : Int) then (if (1 : Int) < ((2 : Nat) : Int) then (if a1 = true then (some ((wrap64 ((IntKind.wrap .u64 ((0 : Int) - ([t3.1, t3.2].getD ((1 : Int)).toNat 0))))), (0 : Int))) else (some ((wrap64 (([t3.1, t3.2].getD ((1 : Int)).toNat 0))), (0 : Int)))) else none) else none))) else ((regimenref02_Mod.f k a0).bind fun t4 => (if 0 ≤ (1 : Int) then (if (1 : Int) < ((2 : Nat) : Int) then (if a1 = true then (some ((wrap64 ((IntKind.wrap .u64 ((0 : Int) - ([t4.1, t4.2].getD ((1 : Int)).toNat 0))))), (0 : Int))) else (some ((wrap64 (([t4.1, t4.2].getD ((1 : Int)).toNat 0))), (0 : Int)))) else none) else none))))))
noncomputable def regimenref04_Signed.E : Env (Int × Int) := envOf tab Tryz.f59 true (.cons (.int .i64) (.cons (.int .i64) .nil)) [] (fun y => (y.1, y.2.1)) [(85, regimenref02_Twos.c), (84, regimenref02_Cmp.c), (86, regimenref02_Mod.c)] [] []
theorem regimenref04_Signed.h1 : obls regimenref04_Signed.E Tryz.f59 = [] := by kernel_rfl
theorem regimenref04_Signed.h2 : (fun k (x : El (.cons (.sl (.int .u64)) (.cons .bool .nil))) => regimenref04_Signed.nf k x.1 x.2.1) = fun k x => mainK regimenref04_Signed.E Tryz.f59 (.cons (.sl (.int .u64)) (.cons .bool .nil)) k x := by kernel_rfl
set_option maxHeartbeats 2000000 in
theorem regimenref04_Signed.bf (k : Nat) (a0 : List Int) (a1 : Bool) : Lo (regimenref04_Signed.f k a0 a1) (regimenref04_Signed.nf k a0 a1) := by
  unfold regimenref04_Signed.f regimenref04_Signed.nf
  try simp only [Bool.false_xor, Bool.true_xor, wu8_64, wu8_u64, byL_nums, btS_bt, nil_tl, beq_decL, beq_decI]
  repeat' first
    | (with_reducible exact lo_refl _)
    | exact lo_none _
    | (with_reducible refine lo_lpos (by first | assumption | decide) ?_)
    | (with_reducible refine lo_lneg (by first | assumption | decide) ?_)
    | (with_reducible refine lo_ite (fun _ => ?_) (fun _ => ?_))
    | (with_reducible refine lo_bind (fun _ => ?_))
    | (with_reducible refine lo_left ?_)
    | (refine lo_neg (by decide) ?_)
    | (refine lo_pos (by first | assumption | omega) ?_)
    | (refine lo_neg (by first | assumption | omega) ?_)
    | (refine lo_trans (fun r h => (regimenref04_Signed.mono_l _) _ _ _ r h) ?_; rw [regimenref04_Signed.j0]; try simp only [decide_eq_true_eq])
    | (with_reducible refine lo_test (fun _ => by first | assumption | omega | (simp only [List.length_cons, List.length_nil]; omega) | decide) (fun _ => ?_))
    | (with_reducible refine lo_testn (fun _ => by first | assumption | omega) (fun _ => ?_))
    | (with_reducible refine lo_and (fun z => by first | exact z.1 | omega) (fun z => by first | exact z.2 | omega) (fun _ => ?_))
    | exact lo_refl _
    | (with_reducible refine lo_iff (by first | exact Iff.rfl | omega | (simp; done) | decide) (fun _ => ?_) (fun _ => ?_))
    | (with_reducible refine lo_iffn (by first | exact Iff.rfl | omega | (simp; done) | decide) (fun _ => ?_) (fun _ => ?_))
    | refine lo_ite (fun _ => ?_) (fun _ => ?_)
    | refine lo_bind (fun _ => ?_)
    | (refine lo_some ?_; first | rfl | (rw [Bool.false_xor]; rfl) | (rw [Bool.true_xor]; rfl) | (simp only [Bool.and_true]; rfl) | (simp; done))
    | (simp only [Int.zero_sub]; exact lo_refl _)
    | (with_reducible refine lo_lpos (by omega) ?_)
    | (with_reducible refine lo_lneg (by omega) ?_)
    | (with_reducible refine lo_lite (fun _ => ?_) (fun _ => ?_))
    | (with_reducible refine lo_rite (fun _ => ?_) (fun _ => ?_))
  all_goals (exfalso; first | omega | (simp_all; done) | (simp_all; omega))
theorem regimenref04_Signed.al : AllLe (obls regimenref04_Signed.E Tryz.f59) := by
  rw [regimenref04_Signed.h1]
  exact .nil
theorem regimenref04_Signed.ok : CalleeOk Tryz.prog 59 regimenref04_Signed.c := fn_ok tabOk mixed (fun _ => rfl) Tryz.func59 rfl (by kernel_rfl) (ok_cons regimenref02_Twos.ok (ok_cons regimenref02_Cmp.ok (ok_cons regimenref02_Mod.ok ok_nil))) regimenref04_Signed.al (fun k x r h => (congrFun (congrFun regimenref04_Signed.h2 k) x).symm.trans (regimenref04_Signed.bf k _ _ r h))
def regimenref05_Get.c : Sym.Callee := ⟨(.cons .str .nil), (.cons (.int .i64) (.cons (.int .i64) .nil)), true, Int × Int, fun k x => regimenref05_Get.f k x.1, fun z => (z.1, z.2, ()), []⟩
def regimenref05_Get.nl0 (k : Nat) (x0 : ByteArray) (x4 : Int) (x5 : List Int) (x6 : Int) : Option (Int × Int) := (if x6 < (x0.size : Int) then (if 0 ≤ x6 then (if x6 < (x0.size : Int) then (if (btS x0 x6) ≥ (48 : Int) then ((regimenref02_Times.f k x5 [(10 : Int)]).bind fun t2 => (if 0 ≤ x6 then (if x6 < (x0.size : Int) then ((regimenref02_Plus.f k t2 [(IntKind.wrap .u64 ((IntKind.wrap .u8 ((btS x0 x6) - (48 : Int)))))]).bind fun t3 => (regimenref05_Get.l0 k x0 x4 t3 (wrap64 (x6 + (1 : Int))))) else none) else none)) else (regimenref05_Get.l0 k x0 x4 x5 (wrap64 (x6 + (1 : Int))))) else none) else none) else ((regimenref05_Read.f k x5 x4).bind fun t4 => (if 0 ≤ (0 : Int) then (if (0 : Int) < (x0.size : Int) then ((regimenref04_Signed.f k t4 (xor false (decide ((btS x0 (0 : Int)) = (45 : Int))))).bind fun t5 => (if t5.2 = (0 : Int) then (some (t5.1, (0 : Int))) else (some ((0 : Int), (3 : Int))))) else none) else none)))
def regimenref05_Get.nf (k : Nat) (a0 : ByteArray) : Option (Int × Int) := ((regimenref05_Places.f k a0).bind fun t1 => (if t1 < (0 : Int) then (some ((0 : Int), (2 : Int))) else (if t1 > (19 : Int) then (some ((0 : Int), (6 : Int))) else (regimenref05_Get.l0 k a0 t1 [(0 : Int)] (0 : Int)))))
noncomputable def regimenref05_Get.E : Env (Int × Int) := envOf tab Tryz.f27 true (.cons (.int .i64) (.cons (.int .i64) .nil)) [] (fun y => (y.1, y.2.1)) [(56, regimenref05_Places.c), (58, regimenref02_Times.c), (57, regimenref02_Plus.c), (60, regimenref05_Read.c), (59, regimenref04_Signed.c)] [⟨8, ⟨49, [(0, .str, []), (4, (.int .i64), []), (5, (.sl (.int .u64)), []), (6, (.int .i64), [])], [], []⟩, fun k y => regimenref05_Get.l0 k y.1.1 y.1.2.1 y.1.2.2.1 y.1.2.2.2.1⟩] []
theorem regimenref05_Get.h1 : obls regimenref05_Get.E Tryz.f27 = [⟨(.cons (.cons .str (.cons (.int .i64) (.cons (.sl (.int .u64)) (.cons (.int .i64) .nil)))) (.cons .nil (.cons .nil .nil))), fun k y => regimenref05_Get.l0 (k + 1) y.1.1 y.1.2.1 y.1.2.2.1 y.1.2.2.2.1, fun k y => regimenref05_Get.nl0 k y.1.1 y.1.2.1 y.1.2.2.1 y.1.2.2.2.1⟩, ⟨(.cons (.cons .str (.cons (.int .i64) (.cons (.sl (.int .u64)) (.cons (.int .i64) .nil)))) (.cons .nil (.cons .nil .nil))), fun _ y => regimenref05_Get.l0 0 y.1.1 y.1.2.1 y.1.2.2.1 y.1.2.2.2.1, fun _ _ => none⟩] := by kernel_rfl
theorem regimenref05_Get.h2 : (fun k (x : El (.cons .str .nil)) => regimenref05_Get.nf k x.1) = fun k x => mainK regimenref05_Get.E Tryz.f27 (.cons .str .nil) k x := by kernel_rfl
theorem regimenref05_Get.bl0 (k : Nat) (x0 : ByteArray) (x4 : Int) (x5 : List Int) (x6 : Int) : Lo (regimenref05_Get.l0 (k + 1) x0 x4 x5 x6) (regimenref05_Get.nl0 k x0 x4 x5 x6) := by
  rw [regimenref05_Get.l0]
  unfold regimenref05_Get.nl0
  try simp only [Bool.false_xor, Bool.true_xor, wu8_64, wu8_u64, byL_nums, btS_bt, nil_tl, beq_decL, beq_decI]
  repeat' first
    | (with_reducible exact lo_refl _)
    | exact lo_none _
    | (with_reducible refine lo_ite (fun _ => ?_) (fun _ => ?_))
    | (with_reducible refine lo_bind (fun _ => ?_))
    | (with_reducible refine lo_left ?_)
    | (refine lo_pos (by first | assumption | omega) ?_)
    | (refine lo_neg (by first | assumption | omega) ?_)
    | (with_reducible refine lo_test (fun _ => by first | assumption | omega) (fun _ => ?_))
    | exact lo_refl _
    | refine lo_ite (fun _ => ?_) (fun _ => ?_)
    | refine lo_bind (fun _ => ?_)
    | (refine lo_some ?_; first | rfl | (rw [Bool.false_xor]; rfl))
  all_goals (exfalso; first | omega | (simp_all; done) | (simp_all; omega))
set_option maxHeartbeats 2000000 in
theorem regimenref05_Get.bf (k : Nat) (a0 : ByteArray) : Lo (regimenref05_Get.f k a0) (regimenref05_Get.nf k a0) := by
  unfold regimenref05_Get.f regimenref05_Get.nf
  try simp only [Bool.false_xor, Bool.true_xor, wu8_64, wu8_u64, byL_nums, btS_bt, nil_tl, beq_decL, beq_decI]
  repeat' first
    | (with_reducible exact lo_refl _)
    | exact lo_none _
    | (with_reducible refine lo_ite (fun _ => ?_) (fun _ => ?_))
    | (with_reducible refine lo_bind (fun _ => ?_))
    | (with_reducible refine lo_left ?_)
    | (refine lo_pos (by first | assumption | omega) ?_)
    | (refine lo_neg (by first | assumption | omega) ?_)
    | (with_reducible refine lo_test (fun _ => by first | assumption | omega) (fun _ => ?_))
    | exact lo_refl _
    | refine lo_ite (fun _ => ?_) (fun _ => ?_)
    | refine lo_bind (fun _ => ?_)
    | (refine lo_some ?_; first | rfl | (rw [Bool.false_xor]; rfl))
  all_goals (exfalso; first | omega | (simp_all; done) | (simp_all; omega))
theorem regimenref05_Get.al : AllLe (obls regimenref05_Get.E Tryz.f27) := by
  rw [regimenref05_Get.h1]
  exact (.cons (fun k y r h => regimenref05_Get.bl0 k y.1.1 y.1.2.1 y.1.2.2.1 y.1.2.2.2.1 r h) (.cons (fun _ y r h => by simp [regimenref05_Get.l0] at h) .nil))
theorem regimenref05_Get.ok : CalleeOk Tryz.prog 27 regimenref05_Get.c := fn_ok tabOk mixed (fun _ => rfl) Tryz.func27 rfl (by kernel_rfl) (ok_cons regimenref05_Places.ok (ok_cons regimenref02_Times.ok (ok_cons regimenref02_Plus.ok (ok_cons regimenref05_Read.ok (ok_cons regimenref04_Signed.ok ok_nil))))) regimenref05_Get.al (fun k x r h => (congrFun (congrFun regimenref05_Get.h2 k) x).symm.trans (regimenref05_Get.bf k _ r h))
def regimenref36_Parse.c : Sym.Callee := ⟨(.cons (.int .i64) (.cons .str .nil)), (.cons (.cons (.int .i64) (.cons (.int .i64) (.cons (.int .i64) .nil))) (.cons .bool .nil)), true, Int × Int × Int × Bool, fun k x => regimenref36_Parse.f k x.1 x.2.1, fun z => ((z.1, z.2.1, z.2.2.1, ()), z.2.2.2, ()), []⟩
def regimenref36_Parse.nl0 (k : Nat) (x0 : Int) (x1 : ByteArray) (x6 : Int) (b4_0 : Int) (b4_1 : Int) (b4_2 : Int) : Option (Int × Int × Int × Bool) := (if x6 ≤ (11 : Int) then ((regimenref36_Words.f).bind fun t1 => (if 0 ≤ x6 then (if x6 < (t1.length : Int) then (if (t1.getD (x6).toNat (⟨#[]⟩ : ByteArray)).size + (⟨#[32]⟩ : ByteArray).size ≤ 9223372036854775807 then (if (x1.size : Int) < (((t1.getD (x6).toNat (⟨#[]⟩ : ByteArray)) ++ (⟨#[32]⟩ : ByteArray)).size : Int) then (regimenref36_Parse.l0 k x0 x1 (wrap64 (x6 + (1 : Int)))) else (if 0 ≤ (((t1.getD (x6).toNat (⟨#[]⟩ : ByteArray)) ++ (⟨#[32]⟩ : ByteArray)).size : Int) then (if (((t1.getD (x6).toNat (⟨#[]⟩ : ByteArray)) ++ (⟨#[32]⟩ : ByteArray)).size : Int) ≤ (x1.size : Int) then (if (x1.extract 0 ((((t1.getD (x6).toNat (⟨#[]⟩ : ByteArray)) ++ (⟨#[32]⟩ : ByteArray)).size : Int)).toNat).toList = ((t1.getD (x6).toNat (⟨#[]⟩ : ByteArray)) ++ (⟨#[32]⟩ : ByteArray)).toList then (if 0 ≤ (((t1.getD (x6).toNat (⟨#[]⟩ : ByteArray)) ++ (⟨#[32]⟩ : ByteArray)).size : Int) then (if (((t1.getD (x6).toNat (⟨#[]⟩ : ByteArray)) ++ (⟨#[32]⟩ : ByteArray)).size : Int) ≤ (x1.size : Int) then ((regimenref01_Get.f k (x1.extract ((((t1.getD (x6).toNat (⟨#[]⟩ : ByteArray)) ++ (⟨#[32]⟩ : ByteArray)).size : Int)).toNat x1.size)).bind fun t2 => (if t2.2 = (0 : Int) then (some (x0, x6, t2.1, true)) else (regimenref36_Parse.l0 k x0 x1 (wrap64 (x6 + (1 : Int)))))) else none) else none) else (regimenref36_Parse.l0 k x0 x1 (wrap64 (x6 + (1 : Int))))) else none) else none)) else none) else none) else none)) else (some (0, 0, 0, false)))
def regimenref36_Parse.nf (k : Nat) (a0 : Int) (a1 : ByteArray) : Option (Int × Int × Int × Bool) := (regimenref36_Parse.l0 k a0 a1 (1 : Int))
noncomputable def regimenref36_Parse.E : Env (Int × Int × Int × Bool) := envOf tab Tryz.f28 true (.cons (.cons (.int .i64) (.cons (.int .i64) (.cons (.int .i64) .nil))) (.cons .bool .nil)) [] (fun y => (y.1.1, y.1.2.1, y.1.2.2.1, y.2.1)) [(61, regimenref36_Words.c), (24, regimenref01_Get.c)] [⟨2, ⟨47, [(0, (.int .i64), []), (1, .str, []), (6, (.int .i64), [])], [(4, (.cons (.int .i64) (.cons (.int .i64) (.cons (.int .i64) .nil))), [])], []⟩, fun k y => regimenref36_Parse.l0 k y.1.1 y.1.2.1 y.1.2.2.1⟩] []
theorem regimenref36_Parse.h1 : obls regimenref36_Parse.E Tryz.f28 = [⟨(.cons (.cons (.int .i64) (.cons .str (.cons (.int .i64) .nil))) (.cons (.cons (.cons (.int .i64) (.cons (.int .i64) (.cons (.int .i64) .nil))) .nil) (.cons .nil .nil))), fun k y => regimenref36_Parse.l0 (k + 1) y.1.1 y.1.2.1 y.1.2.2.1, fun k y => regimenref36_Parse.nl0 k y.1.1 y.1.2.1 y.1.2.2.1 y.2.1.1.1 y.2.1.1.2.1 y.2.1.1.2.2.1⟩, ⟨(.cons (.cons (.int .i64) (.cons .str (.cons (.int .i64) .nil))) (.cons (.cons (.cons (.int .i64) (.cons (.int .i64) (.cons (.int .i64) .nil))) .nil) (.cons .nil .nil))), fun _ y => regimenref36_Parse.l0 0 y.1.1 y.1.2.1 y.1.2.2.1, fun _ _ => none⟩] := by kernel_rfl
theorem regimenref36_Parse.h2 : (fun k (x : El (.cons (.int .i64) (.cons .str .nil))) => regimenref36_Parse.nf k x.1 x.2.1) = fun k x => mainK regimenref36_Parse.E Tryz.f28 (.cons (.int .i64) (.cons .str .nil)) k x := by kernel_rfl
theorem ps_32 : (⟨#[32]⟩ : ByteArray).size = 1 := rfl
theorem ps_sz (a : ByteArray) : (((a ++ (⟨#[32]⟩ : ByteArray)).size : Nat) : Int) = (a.size : Int) + 1 := by rw [ByteArray.size_append, ps_32]; omega
theorem ps_e : ByteArray.empty = (⟨#[]⟩ : ByteArray) := rfl
theorem regimenref36_Parse.bl0 (k : Nat) (x0 : Int) (x1 : ByteArray) (x6 : Int) (b4_0 : Int) (b4_1 : Int) (b4_2 : Int) : Lo (regimenref36_Parse.l0 (k + 1) x0 x1 x6) (regimenref36_Parse.nl0 k x0 x1 x6 b4_0 b4_1 b4_2) := by
  rw [regimenref36_Parse.l0]
  unfold regimenref36_Parse.nl0
  try simp only [ps_32, ps_sz, ps_e, bne, beq_decL, rdOf, ← decide_not]
  try simp only [Bool.false_xor, Bool.true_xor, wu8_64, wu8_u64, byL_nums, btS_bt, nil_tl, beq_decL, beq_decI]
  repeat' first
    | (with_reducible exact lo_refl _)
    | exact lo_none _
    | (with_reducible refine lo_lpos (by first | assumption | decide) ?_)
    | (with_reducible refine lo_lneg (by first | assumption | decide) ?_)
    | (with_reducible refine lo_ite (fun _ => ?_) (fun _ => ?_))
    | (with_reducible refine lo_bind (fun _ => ?_))
    | (with_reducible refine lo_left ?_)
    | (refine lo_neg (by decide) ?_)
    | (refine lo_pos (by first | assumption | omega) ?_)
    | (refine lo_neg (by first | assumption | omega) ?_)
    | (refine lo_trans (fun r h => (regimenref36_Parse.mono_l _).2 _ _ _ _ _ r h) ?_; rw [regimenref36_Parse.j1]; try simp only [decide_eq_true_eq, ps_sz, ps_e])
    | (with_reducible refine lo_test (fun _ => by first | assumption | omega | (simp only [List.length_cons, List.length_nil]; omega) | decide) (fun _ => ?_))
    | (with_reducible refine lo_testn (fun _ => by first | assumption | omega) (fun _ => ?_))
    | (with_reducible refine lo_and (fun z => by first | exact z.1 | omega) (fun z => by first | exact z.2 | omega) (fun _ => ?_))
    | exact lo_refl _
    | (with_reducible refine lo_iff (by first | exact Iff.rfl | omega | (simp; done) | decide) (fun _ => ?_) (fun _ => ?_))
    | (with_reducible refine lo_iffn (by first | exact Iff.rfl | omega | (simp; done) | decide) (fun _ => ?_) (fun _ => ?_))
    | refine lo_ite (fun _ => ?_) (fun _ => ?_)
    | refine lo_bind (fun _ => ?_)
    | (refine lo_some ?_; first | rfl | (rw [Bool.false_xor]; rfl) | (rw [Bool.true_xor]; rfl) | (simp only [Bool.and_true]; rfl) | (simp; done))
    | (simp only [Int.zero_sub]; exact lo_refl _)
    | (with_reducible refine lo_lpos (by omega) ?_)
    | (with_reducible refine lo_lneg (by omega) ?_)
    | (with_reducible refine lo_lite (fun _ => ?_) (fun _ => ?_))
    | (with_reducible refine lo_rite (fun _ => ?_) (fun _ => ?_))
  all_goals (exfalso; first | omega | (simp_all; done) | (simp_all; omega))
set_option maxHeartbeats 2000000 in
theorem regimenref36_Parse.bf (k : Nat) (a0 : Int) (a1 : ByteArray) : Lo (regimenref36_Parse.f k a0 a1) (regimenref36_Parse.nf k a0 a1) := by
  unfold regimenref36_Parse.f regimenref36_Parse.nf
  try simp only [ps_32, ps_sz, ps_e, bne, beq_decL, rdOf, ← decide_not]
  try simp only [Bool.false_xor, Bool.true_xor, wu8_64, wu8_u64, byL_nums, btS_bt, nil_tl, beq_decL, beq_decI]
  repeat' first
    | (with_reducible exact lo_refl _)
    | exact lo_none _
    | (with_reducible refine lo_ite (fun _ => ?_) (fun _ => ?_))
    | (with_reducible refine lo_bind (fun _ => ?_))
    | (with_reducible refine lo_left ?_)
    | (refine lo_pos (by first | assumption | omega) ?_)
    | (refine lo_neg (by first | assumption | omega) ?_)
    | (with_reducible refine lo_test (fun _ => by first | assumption | omega) (fun _ => ?_))
    | exact lo_refl _
    | refine lo_ite (fun _ => ?_) (fun _ => ?_)
    | refine lo_bind (fun _ => ?_)
    | (refine lo_some ?_; first | rfl | (rw [Bool.false_xor]; rfl))
  all_goals (exfalso; first | omega | (simp_all; done) | (simp_all; omega))
theorem regimenref36_Parse.al : AllLe (obls regimenref36_Parse.E Tryz.f28) := by
  rw [regimenref36_Parse.h1]
  exact (.cons (fun k y r h => regimenref36_Parse.bl0 k y.1.1 y.1.2.1 y.1.2.2.1 y.2.1.1.1 y.2.1.1.2.1 y.2.1.1.2.2.1 r h) (.cons (fun _ y r h => by simp [regimenref36_Parse.l0] at h) .nil))
theorem regimenref36_Parse.ok : CalleeOk Tryz.prog 28 regimenref36_Parse.c := fn_ok tabOk mixed (fun _ => rfl) Tryz.func28 rfl (by kernel_rfl) (ok_cons regimenref36_Words.ok (ok_cons regimenref01_Get.ok ok_nil)) regimenref36_Parse.al (fun k x r h => (congrFun (congrFun regimenref36_Parse.h2 k) x).symm.trans (regimenref36_Parse.bf k _ _ r h))
mutual
def regimenref57_One.l10 : Nat → (List ByteArray) → (List ByteArray) → Int → (Int × Int × (List Int) × (List Bool) × (List (Int × Int × Int × Unit)) × Int × Unit) → (Int × Int × (List Int) × (List Bool) × (List (Int × Int × Int × Unit)) × Int × Unit) → Option ((Int × Int × (List Int) × (List Bool) × (List (Int × Int × Int × Unit)) × Int × Unit) × Int × Unit)
  | 0, _, _, _, _, _ => none
  | k + 1, x0, x4, x6, b2, b5 => (if x6 ≤ (3 : Int) then (if 0 ≤ (4 : Int) then (if (4 : Int) < (x4.length : Int) then ((regimenref45_Word.f x6).bind fun t4 => (if (x4.getD ((4 : Int)).toNat (⟨#[]⟩ : ByteArray)).toList = t4.toList then (regimenref57_One.j11 k x0 x4 x6 b2 (b5.1, b5.2.1, b5.2.2.1, b5.2.2.2.1, b5.2.2.2.2.1, x6, b5.2.2.2.2.2.2)) else (regimenref57_One.j11 k x0 x4 x6 b2 b5))) else none) else none) else ((regimenref45_Step_s.f k b5).bind fun t5 => (if 0 ≤ (0 : Int) then (if (0 : Int) < (t5.length : Int) then (if 0 ≤ (0 : Int) then (if (0 : Int) < (x0.length : Int) then (if (t5.getD ((0 : Int)).toNat (⟨#[]⟩ : ByteArray)).toList = (x0.getD ((0 : Int)).toNat (⟨#[]⟩ : ByteArray)).toList then (regimenref57_One.l17 k x0 (1 : Int) b2 b5) else (some ((0, 0, ([] : List Int), ([] : List Bool), ([] : List (Int × Int × Int × Unit)), 0, ()), (0 : Int), ()))) else none) else none) else none) else none)))
def regimenref57_One.j11 : Nat → (List ByteArray) → (List ByteArray) → Int → (Int × Int × (List Int) × (List Bool) × (List (Int × Int × Int × Unit)) × Int × Unit) → (Int × Int × (List Int) × (List Bool) × (List (Int × Int × Int × Unit)) × Int × Unit) → Option ((Int × Int × (List Int) × (List Bool) × (List (Int × Int × Int × Unit)) × Int × Unit) × Int × Unit)
  | 0, _, _, _, _, _ => none
  | k + 1, x0, x4, x6, b2, b5 => (regimenref57_One.l10 k x0 x4 (wrap64 (x6 + (1 : Int))) b2 b5)
def regimenref57_One.l17 : Nat → (List ByteArray) → Int → (Int × Int × (List Int) × (List Bool) × (List (Int × Int × Int × Unit)) × Int × Unit) → (Int × Int × (List Int) × (List Bool) × (List (Int × Int × Int × Unit)) × Int × Unit) → Option ((Int × Int × (List Int) × (List Bool) × (List (Int × Int × Int × Unit)) × Int × Unit) × Int × Unit)
  | 0, _, _, _, _ => none
  | k + 1, x0, x7, b2, b5 => (if x7 < (x0.length : Int) then (if 0 ≤ x7 then (if x7 < (x0.length : Int) then ((regimenref57_words.f k (x0.getD (x7).toNat (⟨#[]⟩ : ByteArray))).bind fun t6 => (if (t6.length : Int) = (7 : Int) then (if (([] : List Int).length + b5.2.2.1.length) * 8 ≤ 140737488355328 then (if (([] : List Bool).length + b5.2.2.2.1.length) * 1 ≤ 140737488355328 then (if ((([] : List Bool) ++ b5.2.2.2.1).length + [(xor false (decide ((t6.length : Int) = (8 : Int))))].length) * 1 ≤ 140737488355328 then (regimenref57_One.l24 k x0 t6 x7 (4 : Int) b2 b5 (b5.1, b5.2.1, (([] : List Int) ++ b5.2.2.1), ((([] : List Bool) ++ b5.2.2.2.1) ++ [(xor false (decide ((t6.length : Int) = (8 : Int))))]), ([] : List (Int × Int × Int × Unit)), b5.2.2.2.2.2.1, ())) else none) else none) else none) else (if (t6.length : Int) = (8 : Int) then (if (([] : List Int).length + b5.2.2.1.length) * 8 ≤ 140737488355328 then (if (([] : List Bool).length + b5.2.2.2.1.length) * 1 ≤ 140737488355328 then (if ((([] : List Bool) ++ b5.2.2.2.1).length + [(xor false (decide ((t6.length : Int) = (8 : Int))))].length) * 1 ≤ 140737488355328 then (regimenref57_One.l24 k x0 t6 x7 (4 : Int) b2 b5 (b5.1, b5.2.1, (([] : List Int) ++ b5.2.2.1), ((([] : List Bool) ++ b5.2.2.2.1) ++ [(xor false (decide ((t6.length : Int) = (8 : Int))))]), ([] : List (Int × Int × Int × Unit)), b5.2.2.2.2.2.1, ())) else none) else none) else none) else (regimenref57_One.l32 k x0 x7 b2 b5)))) else none) else none) else (regimenref57_One.l32 k x0 x7 b2 b5))
def regimenref57_One.l24 : Nat → (List ByteArray) → (List ByteArray) → Int → Int → (Int × Int × (List Int) × (List Bool) × (List (Int × Int × Int × Unit)) × Int × Unit) → (Int × Int × (List Int) × (List Bool) × (List (Int × Int × Int × Unit)) × Int × Unit) → (Int × Int × (List Int) × (List Bool) × (List (Int × Int × Int × Unit)) × Int × Unit) → Option ((Int × Int × (List Int) × (List Bool) × (List (Int × Int × Int × Unit)) × Int × Unit) × Int × Unit)
  | 0, _, _, _, _, _, _, _ => none
  | k + 1, x0, x4, x7, x9, b2, b5, b8 => (if x9 < (7 : Int) then (if 0 ≤ x9 then (if x9 < (x4.length : Int) then ((regimenref05_Get.f k (x4.getD (x9).toNat (⟨#[]⟩ : ByteArray))).bind fun t7 => (if (b8.2.2.1.length + [t7.1].length) * 8 ≤ 140737488355328 then (regimenref57_One.l24 k x0 x4 x7 (wrap64 (x9 + (1 : Int))) b2 b5 (b8.1, b8.2.1, (b8.2.2.1 ++ [t7.1]), b8.2.2.2)) else none)) else none) else none) else ((regimenref45_Step_s.f k b8).bind fun t8 => (if 0 ≤ (wrap64 ((t8.length : Int) - (1 : Int))) then (if (wrap64 ((t8.length : Int) - (1 : Int))) < (t8.length : Int) then (if 0 ≤ x7 then (if x7 < (x0.length : Int) then (if (t8.getD ((wrap64 ((t8.length : Int) - (1 : Int)))).toNat (⟨#[]⟩ : ByteArray)).toList = (x0.getD (x7).toNat (⟨#[]⟩ : ByteArray)).toList then (regimenref57_One.l17 k x0 (wrap64 (x7 + (1 : Int))) b2 b8) else (regimenref57_One.l32 k x0 x7 b2 b5)) else none) else none) else none) else none)))
def regimenref57_One.l32 : Nat → (List ByteArray) → Int → (Int × Int × (List Int) × (List Bool) × (List (Int × Int × Int × Unit)) × Int × Unit) → (Int × Int × (List Int) × (List Bool) × (List (Int × Int × Int × Unit)) × Int × Unit) → Option ((Int × Int × (List Int) × (List Bool) × (List (Int × Int × Int × Unit)) × Int × Unit) × Int × Unit)
  | 0, _, _, _, _ => none
  | k + 1, x0, x7, b2, b5 => (if x7 < (x0.length : Int) then (if 0 ≤ x7 then (if x7 < (x0.length : Int) then (if ((x0.getD (x7).toNat (⟨#[]⟩ : ByteArray)).size : Int) < (2 : Int) then (regimenref57_One.j38 k x7 b2 b5) else (if 0 ≤ x7 then (if x7 < (x0.length : Int) then (if 0 ≤ (2 : Int) then (if (2 : Int) ≤ ((x0.getD (x7).toNat (⟨#[]⟩ : ByteArray)).size : Int) then (if ((x0.getD (x7).toNat (⟨#[]⟩ : ByteArray)).extract 0 ((2 : Int)).toNat).toList = (⟨#[32, 32]⟩ : ByteArray).toList then (if 0 ≤ x7 then (if x7 < (x0.length : Int) then (if 0 ≤ (2 : Int) then (if (2 : Int) ≤ ((x0.getD (x7).toNat (⟨#[]⟩ : ByteArray)).size : Int) then ((regimenref36_Parse.f k b5.1 ((x0.getD (x7).toNat (⟨#[]⟩ : ByteArray)).extract ((2 : Int)).toNat (x0.getD (x7).toNat (⟨#[]⟩ : ByteArray)).size)).bind fun t9 => (if (!t9.2.2.2) = true then (regimenref57_One.j38 k x7 b2 b5) else (if (b5.2.2.2.2.1.length + [(t9.1, t9.2.1, t9.2.2.1, ())].length) * 24 ≤ 140737488355328 then (regimenref57_One.l32 k x0 (wrap64 (x7 + (1 : Int))) b2 (b5.1, b5.2.1, b5.2.2.1, b5.2.2.2.1, (b5.2.2.2.2.1 ++ [(t9.1, t9.2.1, t9.2.2.1, ())]), b5.2.2.2.2.2)) else none))) else none) else none) else none) else none) else (regimenref57_One.j38 k x7 b2 b5)) else none) else none) else none) else none)) else none) else none) else (regimenref57_One.j38 k x7 b2 b5))
def regimenref57_One.j38 : Nat → Int → (Int × Int × (List Int) × (List Bool) × (List (Int × Int × Int × Unit)) × Int × Unit) → (Int × Int × (List Int) × (List Bool) × (List (Int × Int × Int × Unit)) × Int × Unit) → Option ((Int × Int × (List Int) × (List Bool) × (List (Int × Int × Int × Unit)) × Int × Unit) × Int × Unit)
  | 0, _, _, _ => none
  | k + 1, x7, b2, b5 => (some (b5, x7, ()))
end
def regimenref57_One.f (k : Nat) (a0 : List ByteArray) : Option ((Int × Int × (List Int) × (List Bool) × (List (Int × Int × Int × Unit)) × Int × Unit) × Int × Unit) := (if (a0.length : Int) = (0 : Int) then (some ((0, 0, ([] : List Int), ([] : List Bool), ([] : List (Int × Int × Int × Unit)), 0, ()), (0 : Int), ())) else (if 0 ≤ (0 : Int) then (if (0 : Int) < (a0.length : Int) then ((regimenref57_words.f k (a0.getD ((0 : Int)).toNat (⟨#[]⟩ : ByteArray))).bind fun t1 => (if (t1.length : Int) = (5 : Int) then (if 0 ≤ (1 : Int) then (if (1 : Int) < (t1.length : Int) then ((regimenref01_Get.f k (t1.getD ((1 : Int)).toNat (⟨#[]⟩ : ByteArray))).bind fun t2 => (if 0 ≤ (3 : Int) then (if (3 : Int) < (t1.length : Int) then ((regimenref01_Get.f k (t1.getD ((3 : Int)).toNat (⟨#[]⟩ : ByteArray))).bind fun t3 => (regimenref57_One.l10 k a0 t1 (1 : Int) (0, 0, ([] : List Int), ([] : List Bool), ([] : List (Int × Int × Int × Unit)), 0, ()) (t2.1, t3.1, ([] : List Int), ([] : List Bool), ([] : List (Int × Int × Int × Unit)), 0, ()))) else none) else none)) else none) else none) else (some ((0, 0, ([] : List Int), ([] : List Bool), ([] : List (Int × Int × Int × Unit)), 0, ()), (0 : Int), ())))) else none) else none))
def regimenref57_One.c : Sym.Callee := ⟨(.cons (.sl .str) .nil), (.cons (.cons (.int .i64) (.cons (.int .i64) (.cons (.sl (.int .i64)) (.cons (.sl .bool) (.cons (.sl (.cons (.int .i64) (.cons (.int .i64) (.cons (.int .i64) .nil)))) (.cons (.int .i64) .nil)))))) (.cons (.int .i64) .nil)), true, El (.cons (.cons (.int .i64) (.cons (.int .i64) (.cons (.sl (.int .i64)) (.cons (.sl .bool) (.cons (.sl (.cons (.int .i64) (.cons (.int .i64) (.cons (.int .i64) .nil)))) (.cons (.int .i64) .nil)))))) (.cons (.int .i64) .nil)), fun k x => regimenref57_One.f k x.1, fun y => y, []⟩
noncomputable def regimenref57_One.E : Env (El (.cons (.cons (.int .i64) (.cons (.int .i64) (.cons (.sl (.int .i64)) (.cons (.sl .bool) (.cons (.sl (.cons (.int .i64) (.cons (.int .i64) (.cons (.int .i64) .nil)))) (.cons (.int .i64) .nil)))))) (.cons (.int .i64) .nil))) := envOf tab Tryz.f7 true (.cons (.cons (.int .i64) (.cons (.int .i64) (.cons (.sl (.int .i64)) (.cons (.sl .bool) (.cons (.sl (.cons (.int .i64) (.cons (.int .i64) (.cons (.int .i64) .nil)))) (.cons (.int .i64) .nil)))))) (.cons (.int .i64) .nil)) [] (fun y => y) [(23, regimenref57_words.c), (24, regimenref01_Get.c), (25, regimenref45_Word.c), (26, regimenref45_Step_s.c), (27, regimenref05_Get.c), (28, regimenref36_Parse.c)] [⟨10, ⟨179, [(0, (.sl .str), []), (4, (.sl .str), []), (6, (.int .i64), [])], [(2, (.cons (.int .i64) (.cons (.int .i64) (.cons (.sl (.int .i64)) (.cons (.sl .bool) (.cons (.sl (.cons (.int .i64) (.cons (.int .i64) (.cons (.int .i64) .nil)))) (.cons (.int .i64) .nil)))))), [⟨2, 3, 3, 1⟩, ⟨3, 201, 4, 1⟩, ⟨4, 202, 57, 3⟩]), (5, (.cons (.int .i64) (.cons (.int .i64) (.cons (.sl (.int .i64)) (.cons (.sl .bool) (.cons (.sl (.cons (.int .i64) (.cons (.int .i64) (.cons (.int .i64) .nil)))) (.cons (.int .i64) .nil)))))), [⟨2, 6, 3, 1⟩, ⟨3, 231, 4, 1⟩, ⟨4, 232, 57, 3⟩])], []⟩, fun k y => regimenref57_One.l10 k y.1.1 y.1.2.1 y.1.2.2.1 y.2.1.1 y.2.1.2.1⟩, ⟨17, ⟨179, [(0, (.sl .str), []), (7, (.int .i64), [])], [(2, (.cons (.int .i64) (.cons (.int .i64) (.cons (.sl (.int .i64)) (.cons (.sl .bool) (.cons (.sl (.cons (.int .i64) (.cons (.int .i64) (.cons (.int .i64) .nil)))) (.cons (.int .i64) .nil)))))), [⟨2, 3, 3, 1⟩, ⟨3, 201, 4, 1⟩, ⟨4, 202, 57, 3⟩]), (5, (.cons (.int .i64) (.cons (.int .i64) (.cons (.sl (.int .i64)) (.cons (.sl .bool) (.cons (.sl (.cons (.int .i64) (.cons (.int .i64) (.cons (.int .i64) .nil)))) (.cons (.int .i64) .nil)))))), [⟨2, 6, 3, 1⟩, ⟨3, 231, 4, 1⟩, ⟨4, 232, 57, 3⟩])], []⟩, fun k y => regimenref57_One.l17 k y.1.1 y.1.2.1 y.2.1.1 y.2.1.2.1⟩, ⟨24, ⟨179, [(0, (.sl .str), []), (4, (.sl .str), []), (7, (.int .i64), []), (9, (.int .i64), [])], [(2, (.cons (.int .i64) (.cons (.int .i64) (.cons (.sl (.int .i64)) (.cons (.sl .bool) (.cons (.sl (.cons (.int .i64) (.cons (.int .i64) (.cons (.int .i64) .nil)))) (.cons (.int .i64) .nil)))))), [⟨2, 3, 3, 1⟩, ⟨3, 201, 4, 1⟩, ⟨4, 202, 57, 3⟩]), (5, (.cons (.int .i64) (.cons (.int .i64) (.cons (.sl (.int .i64)) (.cons (.sl .bool) (.cons (.sl (.cons (.int .i64) (.cons (.int .i64) (.cons (.int .i64) .nil)))) (.cons (.int .i64) .nil)))))), [⟨2, 6, 3, 1⟩, ⟨3, 231, 4, 1⟩, ⟨4, 232, 57, 3⟩]), (8, (.cons (.int .i64) (.cons (.int .i64) (.cons (.sl (.int .i64)) (.cons (.sl .bool) (.cons (.sl (.cons (.int .i64) (.cons (.int .i64) (.cons (.int .i64) .nil)))) (.cons (.int .i64) .nil)))))), [⟨4, 9, 57, 3⟩, ⟨2, 261, 3, 1⟩, ⟨3, 262, 4, 1⟩])], []⟩, fun k y => regimenref57_One.l24 k y.1.1 y.1.2.1 y.1.2.2.1 y.1.2.2.2.1 y.2.1.1 y.2.1.2.1 y.2.1.2.2.1⟩, ⟨32, ⟨179, [(0, (.sl .str), []), (7, (.int .i64), [])], [(2, (.cons (.int .i64) (.cons (.int .i64) (.cons (.sl (.int .i64)) (.cons (.sl .bool) (.cons (.sl (.cons (.int .i64) (.cons (.int .i64) (.cons (.int .i64) .nil)))) (.cons (.int .i64) .nil)))))), [⟨2, 3, 3, 1⟩, ⟨3, 201, 4, 1⟩, ⟨4, 202, 57, 3⟩]), (5, (.cons (.int .i64) (.cons (.int .i64) (.cons (.sl (.int .i64)) (.cons (.sl .bool) (.cons (.sl (.cons (.int .i64) (.cons (.int .i64) (.cons (.int .i64) .nil)))) (.cons (.int .i64) .nil)))))), [⟨2, 6, 3, 1⟩, ⟨3, 231, 4, 1⟩, ⟨4, 232, 57, 3⟩])], []⟩, fun k y => regimenref57_One.l32 k y.1.1 y.1.2.1 y.2.1.1 y.2.1.2.1⟩] [⟨11, ⟨179, [(0, (.sl .str), []), (4, (.sl .str), []), (6, (.int .i64), [])], [(2, (.cons (.int .i64) (.cons (.int .i64) (.cons (.sl (.int .i64)) (.cons (.sl .bool) (.cons (.sl (.cons (.int .i64) (.cons (.int .i64) (.cons (.int .i64) .nil)))) (.cons (.int .i64) .nil)))))), [⟨2, 3, 3, 1⟩, ⟨3, 201, 4, 1⟩, ⟨4, 202, 57, 3⟩]), (5, (.cons (.int .i64) (.cons (.int .i64) (.cons (.sl (.int .i64)) (.cons (.sl .bool) (.cons (.sl (.cons (.int .i64) (.cons (.int .i64) (.cons (.int .i64) .nil)))) (.cons (.int .i64) .nil)))))), [⟨2, 6, 3, 1⟩, ⟨3, 231, 4, 1⟩, ⟨4, 232, 57, 3⟩])], []⟩, fun k y => regimenref57_One.j11 k y.1.1 y.1.2.1 y.1.2.2.1 y.2.1.1 y.2.1.2.1⟩, ⟨38, ⟨179, [(7, (.int .i64), [])], [(2, (.cons (.int .i64) (.cons (.int .i64) (.cons (.sl (.int .i64)) (.cons (.sl .bool) (.cons (.sl (.cons (.int .i64) (.cons (.int .i64) (.cons (.int .i64) .nil)))) (.cons (.int .i64) .nil)))))), [⟨2, 3, 3, 1⟩, ⟨3, 201, 4, 1⟩, ⟨4, 202, 57, 3⟩]), (5, (.cons (.int .i64) (.cons (.int .i64) (.cons (.sl (.int .i64)) (.cons (.sl .bool) (.cons (.sl (.cons (.int .i64) (.cons (.int .i64) (.cons (.int .i64) .nil)))) (.cons (.int .i64) .nil)))))), [⟨2, 6, 3, 1⟩, ⟨3, 231, 4, 1⟩, ⟨4, 232, 57, 3⟩])], []⟩, fun k y => regimenref57_One.j38 k y.1.1 y.2.1.1 y.2.1.2.1⟩]
theorem regimenref57_One.h1 : (obls regimenref57_One.E Tryz.f7).map Ob.left = (obls regimenref57_One.E Tryz.f7).map Ob.right := by kernel_rfl
theorem regimenref57_One.h2 : (fun k x => regimenref57_One.c.fn k x) = fun k x => mainK regimenref57_One.E Tryz.f7 regimenref57_One.c.dom k x := by kernel_rfl
theorem regimenref57_One.ok : CalleeOk Tryz.prog 7 regimenref57_One.c := fn_ok tabOk mixed (fun _ => rfl) Tryz.func7 rfl (by kernel_rfl) (ok_cons regimenref57_words.ok (ok_cons regimenref01_Get.ok (ok_cons regimenref45_Word.ok (ok_cons regimenref45_Step_s.ok (ok_cons regimenref05_Get.ok (ok_cons regimenref36_Parse.ok ok_nil)))))) (.of_eq regimenref57_One.h1) (fun k x _ h => (congrFun (congrFun regimenref57_One.h2 k) x).symm.trans h)
def trace_All.l3 : Nat → (List ByteArray) → (List (Int × Int × (List Int) × (List Bool) × (List (Int × Int × Int × Unit)) × Int × Unit)) → Int → Option ((List (Int × Int × (List Int) × (List Bool) × (List (Int × Int × Int × Unit)) × Int × Unit)) × Int × Unit)
  | 0, _, _, _ => none
  | k + 1, x0, x4, x5 => (if 0 ≤ x5 then (if x5 ≤ (x0.length : Int) then ((trace_One.f k (x0.drop (x5).toNat)).bind fun t1 => (if t1.2.1 = (0 : Int) then (some (x4, x5, ())) else (if (x4.length + [t1.1].length) * 96 ≤ 140737488355328 then (trace_All.l3 k x0 (x4 ++ [t1.1]) (wrap64 (x5 + t1.2.1))) else none))) else none) else none)
def trace_All.f (k : Nat) (a0 : List ByteArray) : Option ((List (Int × Int × (List Int) × (List Bool) × (List (Int × Int × Int × Unit)) × Int × Unit)) × Int × Unit) := (trace_All.l3 k a0 ([] : List (Int × Int × (List Int) × (List Bool) × (List (Int × Int × Int × Unit)) × Int × Unit)) (0 : Int))
def trace_All.c : Sym.Callee := ⟨(.cons (.sl .str) .nil), (.cons (.sl (.cons (.int .i64) (.cons (.int .i64) (.cons (.sl (.int .i64)) (.cons (.sl .bool) (.cons (.sl (.cons (.int .i64) (.cons (.int .i64) (.cons (.int .i64) .nil)))) (.cons (.int .i64) .nil))))))) (.cons (.int .i64) .nil)), true, El (.cons (.sl (.cons (.int .i64) (.cons (.int .i64) (.cons (.sl (.int .i64)) (.cons (.sl .bool) (.cons (.sl (.cons (.int .i64) (.cons (.int .i64) (.cons (.int .i64) .nil)))) (.cons (.int .i64) .nil))))))) (.cons (.int .i64) .nil)), fun k x => trace_All.f k x.1, fun y => y, []⟩
noncomputable def trace_All.E : Env (El (.cons (.sl (.cons (.int .i64) (.cons (.int .i64) (.cons (.sl (.int .i64)) (.cons (.sl .bool) (.cons (.sl (.cons (.int .i64) (.cons (.int .i64) (.cons (.int .i64) .nil)))) (.cons (.int .i64) .nil))))))) (.cons (.int .i64) .nil))) := envOf tab Tryz.f8 true (.cons (.sl (.cons (.int .i64) (.cons (.int .i64) (.cons (.sl (.int .i64)) (.cons (.sl .bool) (.cons (.sl (.cons (.int .i64) (.cons (.int .i64) (.cons (.int .i64) .nil)))) (.cons (.int .i64) .nil))))))) (.cons (.int .i64) .nil)) [] (fun y => y) [(6, trace_One.c)] [⟨3, ⟨26, [(0, (.sl .str), []), (4, (.sl (.cons (.int .i64) (.cons (.int .i64) (.cons (.sl (.int .i64)) (.cons (.sl .bool) (.cons (.sl (.cons (.int .i64) (.cons (.int .i64) (.cons (.int .i64) .nil)))) (.cons (.int .i64) .nil))))))), [⟨0, 5, 28, 6⟩]), (5, (.int .i64), [])], [], []⟩, fun k y => trace_All.l3 k y.1.1 y.1.2.1 y.1.2.2.1⟩] []
theorem trace_All.h1 : (obls trace_All.E Tryz.f8).map Ob.left = (obls trace_All.E Tryz.f8).map Ob.right := by kernel_rfl
theorem trace_All.h2 : (fun k x => trace_All.c.fn k x) = fun k x => mainK trace_All.E Tryz.f8 trace_All.c.dom k x := by kernel_rfl
theorem trace_All.ok : CalleeOk Tryz.prog 8 trace_All.c := fn_ok tabOk mixed (fun _ => rfl) Tryz.func8 rfl (by kernel_rfl) (ok_cons trace_One.ok ok_nil) (.of_eq trace_All.h1) (fun k x _ h => (congrFun (congrFun trace_All.h2 k) x).symm.trans h)
def regimenref57_All.l3 : Nat → (List ByteArray) → (List (Int × Int × (List Int) × (List Bool) × (List (Int × Int × Int × Unit)) × Int × Unit)) → Int → Option ((List (Int × Int × (List Int) × (List Bool) × (List (Int × Int × Int × Unit)) × Int × Unit)) × Int × Unit)
  | 0, _, _, _ => none
  | k + 1, x0, x4, x5 => (if x5 < (x0.length : Int) then (if 0 ≤ x5 then (if x5 ≤ (x0.length : Int) then ((regimenref57_One.f k (x0.drop (x5).toNat)).bind fun t1 => (if t1.2.1 = (0 : Int) then (some (x4, x5, ())) else (if (x4.length + [t1.1].length) * 96 ≤ 140737488355328 then (regimenref57_All.l3 k x0 (x4 ++ [t1.1]) (wrap64 (x5 + t1.2.1))) else none))) else none) else none) else (some (x4, x5, ())))
def regimenref57_All.f (k : Nat) (a0 : List ByteArray) : Option ((List (Int × Int × (List Int) × (List Bool) × (List (Int × Int × Int × Unit)) × Int × Unit)) × Int × Unit) := (regimenref57_All.l3 k a0 ([] : List (Int × Int × (List Int) × (List Bool) × (List (Int × Int × Int × Unit)) × Int × Unit)) (0 : Int))
def regimenref57_All.c : Sym.Callee := ⟨(.cons (.sl .str) .nil), (.cons (.sl (.cons (.int .i64) (.cons (.int .i64) (.cons (.sl (.int .i64)) (.cons (.sl .bool) (.cons (.sl (.cons (.int .i64) (.cons (.int .i64) (.cons (.int .i64) .nil)))) (.cons (.int .i64) .nil))))))) (.cons (.int .i64) .nil)), true, El (.cons (.sl (.cons (.int .i64) (.cons (.int .i64) (.cons (.sl (.int .i64)) (.cons (.sl .bool) (.cons (.sl (.cons (.int .i64) (.cons (.int .i64) (.cons (.int .i64) .nil)))) (.cons (.int .i64) .nil))))))) (.cons (.int .i64) .nil)), fun k x => regimenref57_All.f k x.1, fun y => y, []⟩
noncomputable def regimenref57_All.E : Env (El (.cons (.sl (.cons (.int .i64) (.cons (.int .i64) (.cons (.sl (.int .i64)) (.cons (.sl .bool) (.cons (.sl (.cons (.int .i64) (.cons (.int .i64) (.cons (.int .i64) .nil)))) (.cons (.int .i64) .nil))))))) (.cons (.int .i64) .nil))) := envOf tab Tryz.f9 true (.cons (.sl (.cons (.int .i64) (.cons (.int .i64) (.cons (.sl (.int .i64)) (.cons (.sl .bool) (.cons (.sl (.cons (.int .i64) (.cons (.int .i64) (.cons (.int .i64) .nil)))) (.cons (.int .i64) .nil))))))) (.cons (.int .i64) .nil)) [] (fun y => y) [(7, regimenref57_One.c)] [⟨3, ⟨33, [(0, (.sl .str), []), (4, (.sl (.cons (.int .i64) (.cons (.int .i64) (.cons (.sl (.int .i64)) (.cons (.sl .bool) (.cons (.sl (.cons (.int .i64) (.cons (.int .i64) (.cons (.int .i64) .nil)))) (.cons (.int .i64) .nil))))))), [⟨0, 5, 28, 6⟩]), (5, (.int .i64), [])], [], []⟩, fun k y => regimenref57_All.l3 k y.1.1 y.1.2.1 y.1.2.2.1⟩] []
theorem regimenref57_All.h1 : (obls regimenref57_All.E Tryz.f9).map Ob.left = (obls regimenref57_All.E Tryz.f9).map Ob.right := by kernel_rfl
theorem regimenref57_All.h2 : (fun k x => regimenref57_All.c.fn k x) = fun k x => mainK regimenref57_All.E Tryz.f9 regimenref57_All.c.dom k x := by kernel_rfl
theorem regimenref57_All.ok : CalleeOk Tryz.prog 9 regimenref57_All.c := fn_ok tabOk mixed (fun _ => rfl) Tryz.func9 rfl (by kernel_rfl) (ok_cons regimenref57_One.ok ok_nil) (.of_eq regimenref57_All.h1) (fun k x _ h => (congrFun (congrFun regimenref57_All.h2 k) x).symm.trans h)
def regimenref01_Same.c : Sym.Callee := ⟨(.cons (.sl (.int .i64)) (.cons (.sl (.int .i64)) .nil)), .bool, false, Bool, fun k x => regimenref01_Same.f k x.1 x.2.1, fun z => z, []⟩
def regimenref01_Same.nl0 (k : Nat) (x0 : List Int) (x1 : List Int) (x5 : Int) : Option (Bool) := (if x5 < (x0.length : Int) then (if 0 ≤ x5 then (if x5 < (x0.length : Int) then (if 0 ≤ x5 then (if x5 < (x1.length : Int) then (if (x0.getD (x5).toNat 0) = (x1.getD (x5).toNat 0) then (regimenref01_Same.l0 k x0 x1 (wrap64 (x5 + (1 : Int)))) else (some false)) else none) else none) else none) else none) else (some true))
def regimenref01_Same.nf (k : Nat) (a0 : List Int) (a1 : List Int) : Option (Bool) := (if (a0.length : Int) = (a1.length : Int) then (regimenref01_Same.l0 k a0 a1 (0 : Int)) else (some false))
noncomputable def regimenref01_Same.E : Env (Bool) := envOf tab Tryz.f29 false .bool [] (fun y => y) [] [⟨4, ⟨26, [(0, (.sl (.int .i64)), []), (1, (.sl (.int .i64)), []), (5, (.int .i64), [])], [], []⟩, fun k y => regimenref01_Same.l0 k y.1.1 y.1.2.1 y.1.2.2.1⟩] []
theorem regimenref01_Same.h1 : obls regimenref01_Same.E Tryz.f29 = [⟨(.cons (.cons (.sl (.int .i64)) (.cons (.sl (.int .i64)) (.cons (.int .i64) .nil))) (.cons .nil (.cons .nil .nil))), fun k y => regimenref01_Same.l0 (k + 1) y.1.1 y.1.2.1 y.1.2.2.1, fun k y => regimenref01_Same.nl0 k y.1.1 y.1.2.1 y.1.2.2.1⟩, ⟨(.cons (.cons (.sl (.int .i64)) (.cons (.sl (.int .i64)) (.cons (.int .i64) .nil))) (.cons .nil (.cons .nil .nil))), fun _ y => regimenref01_Same.l0 0 y.1.1 y.1.2.1 y.1.2.2.1, fun _ _ => none⟩] := by kernel_rfl
theorem regimenref01_Same.h2 : (fun k (x : El (.cons (.sl (.int .i64)) (.cons (.sl (.int .i64)) .nil))) => regimenref01_Same.nf k x.1 x.2.1) = fun k x => mainK regimenref01_Same.E Tryz.f29 (.cons (.sl (.int .i64)) (.cons (.sl (.int .i64)) .nil)) k x := by kernel_rfl
theorem regimenref01_Same.bl0 (k : Nat) (x0 : List Int) (x1 : List Int) (x5 : Int) : Lo (regimenref01_Same.l0 (k + 1) x0 x1 x5) (regimenref01_Same.nl0 k x0 x1 x5) := by
  rw [regimenref01_Same.l0]
  unfold regimenref01_Same.nl0
  try simp only [Bool.false_xor, Bool.true_xor, wu8_64, wu8_u64, byL_nums, btS_bt, nil_tl, beq_decL, beq_decI]
  repeat' first
    | (with_reducible exact lo_refl _)
    | exact lo_none _
    | (with_reducible refine lo_ite (fun _ => ?_) (fun _ => ?_))
    | (with_reducible refine lo_bind (fun _ => ?_))
    | (with_reducible refine lo_left ?_)
    | (refine lo_pos (by first | assumption | omega) ?_)
    | (refine lo_neg (by first | assumption | omega) ?_)
    | (with_reducible refine lo_test (fun _ => by first | assumption | omega) (fun _ => ?_))
    | exact lo_refl _
    | refine lo_ite (fun _ => ?_) (fun _ => ?_)
    | refine lo_bind (fun _ => ?_)
    | (refine lo_some ?_; first | rfl | (rw [Bool.false_xor]; rfl))
  all_goals (exfalso; first | omega | (simp_all; done) | (simp_all; omega))
set_option maxHeartbeats 2000000 in
theorem regimenref01_Same.bf (k : Nat) (a0 : List Int) (a1 : List Int) : Lo (regimenref01_Same.f k a0 a1) (regimenref01_Same.nf k a0 a1) := by
  unfold regimenref01_Same.f regimenref01_Same.nf
  try simp only [Bool.false_xor, Bool.true_xor, wu8_64, wu8_u64, byL_nums, btS_bt, nil_tl, beq_decL, beq_decI]
  repeat' first
    | (with_reducible exact lo_refl _)
    | exact lo_none _
    | (with_reducible refine lo_ite (fun _ => ?_) (fun _ => ?_))
    | (with_reducible refine lo_bind (fun _ => ?_))
    | (with_reducible refine lo_left ?_)
    | (refine lo_pos (by first | assumption | omega) ?_)
    | (refine lo_neg (by first | assumption | omega) ?_)
    | (with_reducible refine lo_test (fun _ => by first | assumption | omega) (fun _ => ?_))
    | exact lo_refl _
    | refine lo_ite (fun _ => ?_) (fun _ => ?_)
    | refine lo_bind (fun _ => ?_)
    | (refine lo_some ?_; first | rfl | (rw [Bool.false_xor]; rfl))
  all_goals (exfalso; first | omega | (simp_all; done) | (simp_all; omega))
theorem regimenref01_Same.al : AllLe (obls regimenref01_Same.E Tryz.f29) := by
  rw [regimenref01_Same.h1]
  exact (.cons (fun k y r h => regimenref01_Same.bl0 k y.1.1 y.1.2.1 y.1.2.2.1 r h) (.cons (fun _ y r h => by simp [regimenref01_Same.l0] at h) .nil))
theorem regimenref01_Same.ok : CalleeOk Tryz.prog 29 regimenref01_Same.c := fn_ok tabOk mixed (fun _ => rfl) Tryz.func29 rfl (by kernel_rfl) ok_nil regimenref01_Same.al (fun k x r h => (congrFun (congrFun regimenref01_Same.h2 k) x).symm.trans (regimenref01_Same.bf k _ _ r h))
def regimenref27_Same_s.l4 : Nat → (List (Int × Int × Int × Unit)) → (List (Int × Int × Int × Unit)) → Int → Option Bool
  | 0, _, _, _ => none
  | k + 1, x0, x1, x5 => (if x5 < (x0.length : Int) then (if 0 ≤ x5 then (if x5 < (x0.length : Int) then (if 0 ≤ x5 then (if x5 < (x1.length : Int) then (if (!((decide ((x0.getD (x5).toNat (0, 0, 0, ())).1 = (x1.getD (x5).toNat (0, 0, 0, ())).1)) && ((decide ((x0.getD (x5).toNat (0, 0, 0, ())).2.1 = (x1.getD (x5).toNat (0, 0, 0, ())).2.1)) && ((decide ((x0.getD (x5).toNat (0, 0, 0, ())).2.2.1 = (x1.getD (x5).toNat (0, 0, 0, ())).2.2.1)) && true)))) = true then (some false) else (regimenref27_Same_s.l4 k x0 x1 (wrap64 (x5 + (1 : Int))))) else none) else none) else none) else none) else (some true))
def regimenref27_Same_s.f (k : Nat) (a0 : List (Int × Int × Int × Unit)) (a1 : List (Int × Int × Int × Unit)) : Option Bool := (if (a0.length : Int) = (a1.length : Int) then (regimenref27_Same_s.l4 k a0 a1 (0 : Int)) else (some false))
def regimenref27_Same_s.c : Sym.Callee := ⟨(.cons (.sl (.cons (.int .i64) (.cons (.int .i64) (.cons (.int .i64) .nil)))) (.cons (.sl (.cons (.int .i64) (.cons (.int .i64) (.cons (.int .i64) .nil)))) .nil)), .bool, false, El .bool, fun k x => regimenref27_Same_s.f k x.1 x.2.1, fun y => y, []⟩
noncomputable def regimenref27_Same_s.E : Env (El .bool) := envOf tab Tryz.f30 false .bool [] (fun y => y) [] [⟨4, ⟨26, [(0, (.sl (.cons (.int .i64) (.cons (.int .i64) (.cons (.int .i64) .nil)))), []), (1, (.sl (.cons (.int .i64) (.cons (.int .i64) (.cons (.int .i64) .nil)))), []), (5, (.int .i64), [])], [], []⟩, fun k y => regimenref27_Same_s.l4 k y.1.1 y.1.2.1 y.1.2.2.1⟩] []
theorem regimenref27_Same_s.h1 : (obls regimenref27_Same_s.E Tryz.f30).map Ob.left = (obls regimenref27_Same_s.E Tryz.f30).map Ob.right := by kernel_rfl
theorem regimenref27_Same_s.h2 : (fun k x => regimenref27_Same_s.c.fn k x) = fun k x => mainK regimenref27_Same_s.E Tryz.f30 regimenref27_Same_s.c.dom k x := by kernel_rfl
theorem regimenref27_Same_s.ok : CalleeOk Tryz.prog 30 regimenref27_Same_s.c := fn_ok tabOk mixed (fun _ => rfl) Tryz.func30 rfl (by kernel_rfl) ok_nil (.of_eq regimenref27_Same_s.h1) (fun k x _ h => (congrFun (congrFun regimenref27_Same_s.h2 k) x).symm.trans h)
def regimenref38_Same_s.l4 : Nat → Int → (Int × Int × (List Int) × (List Bool) × (List (Int × Int × Int × Unit)) × Int × Unit) → (Int × Int × (List Int) × (List Bool) × (List (Int × Int × Int × Unit)) × Int × Unit) → Option Bool
  | 0, _, _, _ => none
  | k + 1, x5, b2, b3 => (if x5 < (b2.2.2.2.1.length : Int) then (if 0 ≤ x5 then (if x5 < (b2.2.2.2.1.length : Int) then (if 0 ≤ x5 then (if x5 < (b3.2.2.2.1.length : Int) then (if (b2.2.2.2.1.getD (x5).toNat false) = (b3.2.2.2.1.getD (x5).toNat false) then (regimenref38_Same_s.l4 k (wrap64 (x5 + (1 : Int))) b2 b3) else (some false)) else none) else none) else none) else none) else ((regimenref01_Same.f k b2.2.2.1 b3.2.2.1).bind fun t1 => (if t1 = true then ((regimenref27_Same_s.f k b2.2.2.2.2.1 b3.2.2.2.2.1).bind fun t2 => (some t2)) else (some false))))
def regimenref38_Same_s.f (k : Nat) (a0 : Int × Int × (List Int) × (List Bool) × (List (Int × Int × Int × Unit)) × Int × Unit) (a1 : Int × Int × (List Int) × (List Bool) × (List (Int × Int × Int × Unit)) × Int × Unit) : Option Bool := (if a0.1 = a1.1 then (if a0.2.1 = a1.2.1 then (if a0.2.2.2.2.2.1 = a1.2.2.2.2.2.1 then (if (a0.2.2.2.1.length : Int) = (a1.2.2.2.1.length : Int) then (regimenref38_Same_s.l4 k (0 : Int) a0 a1) else (some false)) else (some false)) else (some false)) else (some false))
def regimenref38_Same_s.c : Sym.Callee := ⟨(.cons (.cons (.int .i64) (.cons (.int .i64) (.cons (.sl (.int .i64)) (.cons (.sl .bool) (.cons (.sl (.cons (.int .i64) (.cons (.int .i64) (.cons (.int .i64) .nil)))) (.cons (.int .i64) .nil)))))) (.cons (.cons (.int .i64) (.cons (.int .i64) (.cons (.sl (.int .i64)) (.cons (.sl .bool) (.cons (.sl (.cons (.int .i64) (.cons (.int .i64) (.cons (.int .i64) .nil)))) (.cons (.int .i64) .nil)))))) .nil)), .bool, false, El .bool, fun k x => regimenref38_Same_s.f k x.1 x.2.1, fun y => y, []⟩
noncomputable def regimenref38_Same_s.E : Env (El .bool) := envOf tab Tryz.f10 false .bool [] (fun y => y) [(29, regimenref01_Same.c), (30, regimenref27_Same_s.c)] [⟨4, ⟨64, [(5, (.int .i64), [])], [(2, (.cons (.int .i64) (.cons (.int .i64) (.cons (.sl (.int .i64)) (.cons (.sl .bool) (.cons (.sl (.cons (.int .i64) (.cons (.int .i64) (.cons (.int .i64) .nil)))) (.cons (.int .i64) .nil)))))), []), (3, (.cons (.int .i64) (.cons (.int .i64) (.cons (.sl (.int .i64)) (.cons (.sl .bool) (.cons (.sl (.cons (.int .i64) (.cons (.int .i64) (.cons (.int .i64) .nil)))) (.cons (.int .i64) .nil)))))), [])], []⟩, fun k y => regimenref38_Same_s.l4 k y.1.1 y.2.1.1 y.2.1.2.1⟩] []
theorem regimenref38_Same_s.h1 : (obls regimenref38_Same_s.E Tryz.f10).map Ob.left = (obls regimenref38_Same_s.E Tryz.f10).map Ob.right := by kernel_rfl
theorem regimenref38_Same_s.h2 : (fun k x => regimenref38_Same_s.c.fn k x) = fun k x => mainK regimenref38_Same_s.E Tryz.f10 regimenref38_Same_s.c.dom k x := by kernel_rfl
theorem regimenref38_Same_s.ok : CalleeOk Tryz.prog 10 regimenref38_Same_s.c := fn_ok tabOk mixed (fun _ => rfl) Tryz.func10 rfl (by kernel_rfl) (ok_cons regimenref01_Same.ok (ok_cons regimenref27_Same_s.ok ok_nil)) (.of_eq regimenref38_Same_s.h1) (fun k x _ h => (congrFun (congrFun regimenref38_Same_s.h2 k) x).symm.trans h)
def regimenref39_Same_s.l4 : Nat → (List (Int × Int × (List Int) × (List Bool) × (List (Int × Int × Int × Unit)) × Int × Unit)) → (List (Int × Int × (List Int) × (List Bool) × (List (Int × Int × Int × Unit)) × Int × Unit)) → Int → Option Bool
  | 0, _, _, _ => none
  | k + 1, x0, x1, x5 => (if x5 < (x0.length : Int) then (if 0 ≤ x5 then (if x5 < (x0.length : Int) then (if 0 ≤ x5 then (if x5 < (x1.length : Int) then ((regimenref38_Same_s.f k (x0.getD (x5).toNat (0, 0, ([] : List Int), ([] : List Bool), ([] : List (Int × Int × Int × Unit)), 0, ())) (x1.getD (x5).toNat (0, 0, ([] : List Int), ([] : List Bool), ([] : List (Int × Int × Int × Unit)), 0, ()))).bind fun t1 => (if (!t1) = true then (some false) else (regimenref39_Same_s.l4 k x0 x1 (wrap64 (x5 + (1 : Int)))))) else none) else none) else none) else none) else (some true))
def regimenref39_Same_s.f (k : Nat) (a0 : List (Int × Int × (List Int) × (List Bool) × (List (Int × Int × Int × Unit)) × Int × Unit)) (a1 : List (Int × Int × (List Int) × (List Bool) × (List (Int × Int × Int × Unit)) × Int × Unit)) : Option Bool := (if (a0.length : Int) = (a1.length : Int) then (regimenref39_Same_s.l4 k a0 a1 (0 : Int)) else (some false))
def regimenref39_Same_s.c : Sym.Callee := ⟨(.cons (.sl (.cons (.int .i64) (.cons (.int .i64) (.cons (.sl (.int .i64)) (.cons (.sl .bool) (.cons (.sl (.cons (.int .i64) (.cons (.int .i64) (.cons (.int .i64) .nil)))) (.cons (.int .i64) .nil))))))) (.cons (.sl (.cons (.int .i64) (.cons (.int .i64) (.cons (.sl (.int .i64)) (.cons (.sl .bool) (.cons (.sl (.cons (.int .i64) (.cons (.int .i64) (.cons (.int .i64) .nil)))) (.cons (.int .i64) .nil))))))) .nil)), .bool, false, El .bool, fun k x => regimenref39_Same_s.f k x.1 x.2.1, fun y => y, []⟩
noncomputable def regimenref39_Same_s.E : Env (El .bool) := envOf tab Tryz.f11 false .bool [] (fun y => y) [(10, regimenref38_Same_s.c)] [⟨4, ⟨27, [(0, (.sl (.cons (.int .i64) (.cons (.int .i64) (.cons (.sl (.int .i64)) (.cons (.sl .bool) (.cons (.sl (.cons (.int .i64) (.cons (.int .i64) (.cons (.int .i64) .nil)))) (.cons (.int .i64) .nil))))))), []), (1, (.sl (.cons (.int .i64) (.cons (.int .i64) (.cons (.sl (.int .i64)) (.cons (.sl .bool) (.cons (.sl (.cons (.int .i64) (.cons (.int .i64) (.cons (.int .i64) .nil)))) (.cons (.int .i64) .nil))))))), []), (5, (.int .i64), [])], [], []⟩, fun k y => regimenref39_Same_s.l4 k y.1.1 y.1.2.1 y.1.2.2.1⟩] []
theorem regimenref39_Same_s.h1 : (obls regimenref39_Same_s.E Tryz.f11).map Ob.left = (obls regimenref39_Same_s.E Tryz.f11).map Ob.right := by kernel_rfl
theorem regimenref39_Same_s.h2 : (fun k x => regimenref39_Same_s.c.fn k x) = fun k x => mainK regimenref39_Same_s.E Tryz.f11 regimenref39_Same_s.c.dom k x := by kernel_rfl
theorem regimenref39_Same_s.ok : CalleeOk Tryz.prog 11 regimenref39_Same_s.c := fn_ok tabOk mixed (fun _ => rfl) Tryz.func11 rfl (by kernel_rfl) (ok_cons regimenref38_Same_s.ok ok_nil) (.of_eq regimenref39_Same_s.h1) (fun k x _ h => (congrFun (congrFun regimenref39_Same_s.h2 k) x).symm.trans h)
def regimenlaw57_TraceReads.l4 : Nat → (List ByteArray) → Int → Option Bool
  | 0, _, _ => none
  | k + 1, x0, x3 => (if x3 < (x0.length : Int) then (if 0 ≤ x3 then (if x3 < (x0.length : Int) then (if ((x0.getD (x3).toNat (⟨#[]⟩ : ByteArray)).size : Int) > (200 : Int) then ((regimenlaw57_awake.f k).bind fun t2 => (some t2)) else (regimenlaw57_TraceReads.l4 k x0 (wrap64 (x3 + (1 : Int))))) else none) else none) else ((trace_One.f k x0).bind fun t3 => ((regimenref57_One.f k x0).bind fun t4 => ((trace_All.f k x0).bind fun t5 => ((regimenref57_All.f k x0).bind fun t6 => (if t3.2.1 = t4.2.1 then ((regimenref38_Same_s.f k t3.1 t4.1).bind fun t7 => (if t7 = true then (if t5.2.1 = t6.2.1 then ((regimenref39_Same_s.f k t5.1 t6.1).bind fun t8 => (if t8 = true then ((regimenlaw57_awake.f k).bind fun t9 => (some t9)) else (some false))) else (some false)) else (some false))) else (some false)))))))
def regimenlaw57_TraceReads.f (k : Nat) (a0 : List ByteArray) : Option Bool := (if (a0.length : Int) > (40 : Int) then ((regimenlaw57_awake.f k).bind fun t1 => (some t1)) else (regimenlaw57_TraceReads.l4 k a0 (0 : Int)))
def regimenlaw57_TraceReads.c : Sym.Callee := ⟨(.cons (.sl .str) .nil), .bool, false, El .bool, fun k x => regimenlaw57_TraceReads.f k x.1, fun y => y, []⟩
noncomputable def regimenlaw57_TraceReads.E : Env (El .bool) := envOf tab Tryz.f3 false .bool [] (fun y => y) [(5, regimenlaw57_awake.c), (6, trace_One.c), (7, regimenref57_One.c), (8, trace_All.c), (9, regimenref57_All.c), (10, regimenref38_Same_s.c), (11, regimenref39_Same_s.c)] [⟨4, ⟨70, [(0, (.sl .str), []), (3, (.int .i64), [])], [], []⟩, fun k y => regimenlaw57_TraceReads.l4 k y.1.1 y.1.2.1⟩] []
theorem regimenlaw57_TraceReads.h1 : (obls regimenlaw57_TraceReads.E Tryz.f3).map Ob.left = (obls regimenlaw57_TraceReads.E Tryz.f3).map Ob.right := by kernel_rfl
theorem regimenlaw57_TraceReads.h2 : (fun k x => regimenlaw57_TraceReads.c.fn k x) = fun k x => mainK regimenlaw57_TraceReads.E Tryz.f3 regimenlaw57_TraceReads.c.dom k x := by kernel_rfl
theorem regimenlaw57_TraceReads.ok : CalleeOk Tryz.prog 3 regimenlaw57_TraceReads.c := fn_ok tabOk mixed (fun _ => rfl) Tryz.func3 rfl (by kernel_rfl) (ok_cons regimenlaw57_awake.ok (ok_cons trace_One.ok (ok_cons regimenref57_One.ok (ok_cons trace_All.ok (ok_cons regimenref57_All.ok (ok_cons regimenref38_Same_s.ok (ok_cons regimenref39_Same_s.ok ok_nil))))))) (.of_eq regimenlaw57_TraceReads.h1) (fun k x _ h => (congrFun (congrFun regimenlaw57_TraceReads.h2 k) x).symm.trans h)
end Go.Proofs.YtcgdhpnobgimfaaGreatDoor.PR
end
section
namespace Go.Sym
open Go.RowKit Go.Deep
set_option linter.unusedVariables false
set_option linter.unusedSimpArgs false

/-- Bounds of data. -/
def Wf : (t : Ty) → El t → Prop
  | .int k, (x : Int) => (Lit.int k x).wf = true
  | .str, (s : ByteArray) => s.size ≤ 140737488351232
  | .sl e, (l : List (El e)) => l.length ≤ 140737488351232 ∧ ∀ x ∈ l, Wf e x
  | .cons a b, x => Wf a x.1 ∧ Wf b x.2
  | _, _ => True
/-- All that is there is settled. -/
def fullF (w : World) (b : Nat) : Nat := match w.heap[b]? with
  | some (.cells cs _ _) => cs.size
  | _ => 0
theorem fullF_fin {w : World} : ∀ b, 0 < fullF w b → b < w.heap.size := by
  intro b h
  unfold fullF at h
  split at h
  · rename_i cs t fr hh
    exact (Array.getElem?_eq_some_iff.1 hh).1
  · omega
theorem fullF_cell {w : World} {b o : Nat} {v : Value} (h : w.cell? ⟨b, o, none⟩ = some v) : o < fullF w b := by
  unfold World.cell? at h
  unfold fullF
  split at h
  · rename_i cs t fr hh
    rw [hh]
    simp only at h ⊢
    exact (Array.getElem?_eq_some_iff.1 h).1
  · cases h
def Opens (P : Program) (t : TypeId) (ty : Ty) : Prop :=
  ∀ (H : Type) (enc : TypeId × Value → H) (w : World) (spare : Nat → Bool) (held : Bool) (fuel : Nat) (cs : List Value) (x : DataW H × List MemPlace),
    DataW.trod enc P w 0 spare held fuel t cs = some x → (∀ n, n ∈ x.1.weights P t → n ≤ reachBytes) → ∃ y : El ty, Wf ty y ∧ RepC (fullF w) w ty y cs
def openT (T : Tab) : Nat → Nat → Bool
  | 0, _ => false
  | d + 1, t => match (T.row t).d with
    | .int _ => true
    | .bool => true
    | .str => true
    | .sl e => openT T d e && decide (0 < (T.row e).bytes)
    | .st fs => fs.all fun f => openT T d f.1
    | .arr _ e => openT T d e
    | _ => false
section
variable {P : Program} {T : Tab}
theorem cell_spot {w : World} {a : Addr} {v : Value} (h : w.cell? a = some v) : a = ⟨a.block, a.off, none⟩ := by
  obtain ⟨b, o, sp⟩ := a
  cases sp with
  | none => rfl
  | some s =>
    unfold World.cell? at h
    split at h
    · simp at h
    · cases h
theorem opens_sl (hT : TabOk P T) {t e : Nat} (hd : (T.row t).d = .sl e) (hb : 0 < (T.row e).bytes) (he : Opens P e (T.ty e)) : Opens P t (T.ty t) := by
  obtain ⟨hu, ht, h3, hs0⟩ := (hT.row (row_ne hd (by simp))).sl hd
  obtain ⟨inf, u, hi, _, hsz, hbt, _, _⟩ := (hT.row h3).ex
  have hce : P.cellsOf e = (T.ty e).size := by unfold Program.cellsOf; rw [hi]; exact hsz
  have hbe : P.bytesOf e = (T.row e).bytes := by unfold Program.bytesOf; rw [hi]; exact hbt
  rw [ht]
  intro H enc w spare held fuel cs x h hn
  rcases open_slice hu h with ⟨rfl, rfl⟩ | ⟨a, len, cap, m, n, D, Pl, rfl, _, hlc, hcm, hm, rfl, hel⟩
  · exact ⟨[], ⟨Nat.zero_le _, fun x hx => by cases hx⟩, none, 0, rfl, Nat.le_refl _, fun h => absurd h (by simp)⟩
  · have hlm : len ≤ m := by rw [hm]; split <;> omega
    have hw : ∀ i, i < len → ∀ k, k ∈ (D i).weights P e → k ≤ reachBytes := by
      intro i hi k hk
      refine hn k ?_
      simp only [DataW.weights, hu]
      refine List.mem_cons_of_mem _ (List.mem_append_left _ ?_)
      have : ∀ (L : List (DataW H)) (z : DataW H), z ∈ L → k ∈ z.weights P e → k ∈ DataW.weightsAll P e L := by
        intro L z hz hk
        induction L with
        | nil => cases hz
        | cons y L ih =>
          rw [DataW.weightsAll]
          rcases List.mem_cons.1 hz with rfl | hz
          · exact List.mem_append_left _ hk
          · exact List.mem_append_right _ (ih hz)
      exact this _ (D i) (List.mem_map.2 ⟨i, List.mem_range.2 hi, rfl⟩) hk
    have hb2 : len * P.bytesOf e ≤ 140737488351232 := by
      have h1 := hn ((((List.range len).map D).length + ((List.range (m - len)).map fun j => D (len + j)).length) * P.bytesOf e) (by simp only [DataW.weights, hu]; exact List.mem_cons_self)
      simp only [List.length_map, List.length_range] at h1
      exact Nat.le_trans (Nat.mul_le_mul_right _ (by omega)) h1
    have hlen : len ≤ 140737488351232 := by
      rw [hbe] at hb2
      exact Nat.le_trans (Nat.le_mul_of_pos_right _ hb) hb2
    have hall : ∀ j, j ≤ len → ∃ xs : List (El (T.ty e)), xs.length = j ∧ (∀ x ∈ xs, Wf (T.ty e) x) ∧ ∀ i p, xs[i]? = some p → ∃ ds, RepC (fullF w) w (T.ty e) p ds ∧ ∀ q u, ds[q]? = some u → w.cell? ((a.add (i * (T.ty e).size)).add q) = some u := by
      intro j
      induction j with
      | zero => exact fun _ => ⟨[], rfl, fun x hx => (by cases hx), fun i p h => (by simp at h)⟩
      | succ j ih =>
        intro hj
        obtain ⟨xs, h1, h2, h3⟩ := ih (by omega)
        obtain ⟨cs', hc1, hc2⟩ := hel j (by omega)
        obtain ⟨y, hy1, hy2⟩ := he H enc w spare held n cs' _ hc2 (hw j (by omega))
        refine ⟨xs ++ [y], by simp [h1], ?_, ?_⟩
        · intro x hx
          rcases List.mem_append.1 hx with hx | hx
          · exact h2 x hx
          · rw [List.mem_singleton.1 hx]; exact hy1
        · intro i p hp
          by_cases hi : i < xs.length
          · rw [List.getElem?_append_left hi] at hp
            exact h3 i p hp
          · have hi2 := (List.getElem?_eq_some_iff.1 hp).1
            rw [List.length_append, List.length_singleton] at hi2
            obtain rfl : i = j := by omega
            have : p = y := by
              rw [List.getElem?_append_right (by omega), h1, Nat.sub_self] at hp
              simpa using hp.symm
            subst this
            refine ⟨cs', hy2, fun q u hq => ?_⟩
            have hq2 := (List.getElem?_eq_some_iff.1 hq).1
            rw [hy2.len, ← hce] at hq2
            have h5 := (World.cells?_some hc1).2.2 q hq2
            rw [hq] at h5
            rw [← hce]
            exact h5
    obtain ⟨xs, h1, h2, h3⟩ := hall len (Nat.le_refl _)
    refine ⟨xs, ⟨by rw [h1]; exact hlen, h2⟩, some a, cap, by rw [h1], by rw [h1]; exact hlc, fun hp => ?_⟩
    have h0 : ∀ i p, xs[i]? = some p → ∃ ds, RepC (fullF w) w (T.ty e) p ds ∧ ∀ q u, ds[q]? = some u → w.cell? ((a.add (i * (T.ty e).size)).add q) = some u := h3
    obtain ⟨ds, r1, r2⟩ := h0 0 _ (List.getElem?_eq_getElem hp)
    have hq : 0 < ds.length := by rw [r1.len]; exact hs0
    have hc := r2 0 _ (List.getElem?_eq_getElem hq)
    have hspot : a = ⟨a.block, a.off, none⟩ := by
      have e0 : (a.add (0 * (T.ty e).size)).add 0 = a := by
        obtain ⟨b, o, sp⟩ := a
        unfold Addr.add
        simp
      rw [e0] at hc
      exact cell_spot hc
    generalize a.block = b, a.off = o at hspot
    subst hspot
    refine ⟨b, o, rfl, ?_, fun j x hj => ?_⟩
    · obtain ⟨ds, r1, r2⟩ := h0 (xs.length - 1) _ (List.getElem?_eq_getElem (by omega))
      have hq : (T.ty e).size - 1 < ds.length := by rw [r1.len]; omega
      have hc := r2 _ _ (List.getElem?_eq_getElem hq)
      rw [add_at, add_at] at hc
      have hlt := fullF_cell hc
      have : xs.length * (T.ty e).size = (xs.length - 1) * (T.ty e).size + (T.ty e).size := by
        rw [← Nat.succ_mul]
        congr 1
        omega
      omega
    · obtain ⟨ds, r1, r2⟩ := h0 j x hj
      refine ⟨ds, r1, fun i v hv => ?_⟩
      have := r2 i v hv
      rw [add_at, add_at] at this
      exact this
theorem opens_fields (hT : TabOk P T) : ∀ (fs : List Field) (off : Nat) (t : Ty), chain T (fs.map fun f => (f.type, f.offset)) off = some t → (∀ f ∈ fs, Opens P f.type (T.ty f.type)) →
    ∀ (H : Type) (enc : TypeId × Value → H) (w : World) (spare : Nat → Bool) (held : Bool) (m : Nat) (cs : List Value) (xs : List (DataW H × List MemPlace)),
      xs.length = fs.length → cs.length = off + t.size → (∀ (i : Nat) (f : Field), fs[i]? = some f → DataW.trod enc P w 0 spare held m f.type ((cs.drop f.offset).take (P.cellsOf f.type)) = xs[i]?) →
      (∀ n, n ∈ DataW.weightsEach P (fs.map (·.type)) (xs.map (·.1)) → n ≤ reachBytes) → ∃ y : El t, Wf t y ∧ RepC (fullF w) w t y (cs.drop off)
  | [], off, t, hc, ho, H, enc, w, spare, held, m, cs, xs, hl, hcs, hx, hn => by
    cases hc
    refine ⟨(), trivial, ?_⟩
    show cs.drop off = []
    exact List.drop_eq_nil_of_le (by rw [hcs]; exact Nat.le_refl _)
  | f :: r, off, t, hc, ho, H, enc, w, spare, held, m, cs, xs, hl, hcs, hx, hn => by
    rw [List.map_cons] at hc
    unfold chain at hc
    split at hc
    · rename_i q
      obtain ⟨q1, q2⟩ := q
      obtain ⟨t2, ht2, rfl⟩ := Option.map_eq_some_iff.1 hc
      obtain ⟨inf, u, hi, _, hsz, _, _, _⟩ := (hT.row q2).ex
      have hce : P.cellsOf f.type = (T.ty f.type).size := by unfold Program.cellsOf; rw [hi]; exact hsz
      match xs, hl with
      | x :: xs, hl =>
        have h := hx 0 f rfl
        rw [q1] at h
        obtain ⟨y, hy1, hy2⟩ := ho f List.mem_cons_self H enc w spare held m _ x h (fun n hm => hn n (by simp only [List.map_cons, DataW.weightsEach]; exact List.mem_append_left _ hm))
        have hsum : (Ty.cons (T.ty f.type) t2).size = (T.ty f.type).size + t2.size := rfl
        obtain ⟨z, hz1, hz2⟩ := opens_fields hT r (off + (T.ty f.type).size) t2 ht2 (fun g hg => ho g (List.mem_cons_of_mem _ hg)) H enc w spare held m cs xs (by simpa using hl) (by omega) (fun i g hg => hx (i + 1) g hg) (fun n hm => hn n (by simp only [List.map_cons, DataW.weightsEach]; exact List.mem_append_right _ hm))
        refine ⟨(y, z), ⟨hy1, hz1⟩, _, _, ?_, hy2, hz2⟩
        rw [hce, ← List.drop_drop, List.take_append_drop]
    · cases hc
theorem opens_items (hT : TabOk P T) {e : Nat} (h3 : (T.row e).d ≠ .other) (he : Opens P e (T.ty e)) : ∀ (k j : Nat) (H : Type) (enc : TypeId × Value → H) (w : World) (spare : Nat → Bool) (held : Bool) (m : Nat) (cs : List Value) (xs : List (DataW H × List MemPlace)),
      xs.length = j + k → cs.length = (j + k) * (T.ty e).size → (∀ (i : Nat), i < j + k → DataW.trod enc P w 0 spare held m e ((cs.drop (i * (T.ty e).size)).take (T.ty e).size) = xs[i]?) →
      (∀ x, x ∈ xs → ∀ n, n ∈ x.1.weights P e → n ≤ reachBytes) → ∃ y : El (rep (T.ty e) k), Wf (rep (T.ty e) k) y ∧ RepC (fullF w) w (rep (T.ty e) k) y (cs.drop (j * (T.ty e).size))
  | 0, j, H, enc, w, spare, held, m, cs, xs, hl, hcs, hx, hn => by
    refine ⟨(), trivial, ?_⟩
    show cs.drop _ = []
    exact List.drop_eq_nil_of_le (by rw [hcs]; exact Nat.le_refl _)
  | k + 1, j, H, enc, w, spare, held, m, cs, xs, hl, hcs, hx, hn => by
    have hj : j < xs.length := by omega
    have h := hx j (by omega)
    rw [List.getElem?_eq_getElem hj] at h
    obtain ⟨y, hy1, hy2⟩ := he H enc w spare held m _ _ h (hn _ (List.getElem_mem hj))
    obtain ⟨z, hz1, hz2⟩ := opens_items hT h3 he k (j + 1) H enc w spare held m cs xs (by omega) (by rw [hcs]; congr 1; omega) (fun i hi => hx i (by omega)) hn
    refine ⟨(y, z), ⟨hy1, hz1⟩, _, _, ?_, hy2, hz2⟩
    rw [Nat.succ_mul, ← List.drop_drop, List.take_append_drop]
theorem opens_tab (hT : TabOk P T) : ∀ (d t : Nat), openT T d t = true → Opens P t (T.ty t)
  | 0, t, h => by cases h
  | d + 1, t, h => by
    unfold openT at h
    split at h
    · rename_i k hd
      obtain ⟨hu, ht⟩ := (hT.row (row_ne hd (by simp))).int hd
      rw [ht]
      intro H enc w spare held fuel cs x h _
      obtain ⟨n, rfl, _, hw⟩ := DataW.trod_int hu h
      exact ⟨n, hw, rfl⟩
    · rename_i hd
      obtain ⟨hu, ht⟩ := (hT.row (row_ne hd (by simp))).boolu hd
      rw [ht]
      intro H enc w spare held fuel cs x h _
      obtain ⟨b, rfl, _⟩ := DataW.trod_bool hu h
      exact ⟨b, trivial, rfl⟩
    · rename_i hd
      obtain ⟨hu, ht⟩ := (hT.row (row_ne hd (by simp))).str hd
      rw [ht]
      intro H enc w spare held fuel cs x h hn
      obtain ⟨s, rfl, rfl, _⟩ := DataW.trod_string hu h
      have h1 := hn s.data.toList.length (by simp [DataW.weights])
      have h2 : s.size ≤ 140737488351232 := by simpa [reachBytes] using h1
      exact ⟨s, h2, rfl⟩
    · rename_i e hd
      rw [Bool.and_eq_true, decide_eq_true_eq] at h
      exact opens_sl hT hd h.2 (opens_tab hT d e h.1)
    · rename_i fs hd
      have hr := hT.row (row_ne hd (by simp))
      obtain ⟨l, hu, hl, hch⟩ := hr.st hd
      obtain ⟨inf, _, hi, _, hsz, _, _, _⟩ := hr.ex
      have hce : P.cellsOf t = (T.ty t).size := by unfold Program.cellsOf; rw [hi]; exact hsz
      intro H enc w spare held fuel cs x h2 hn
      obtain ⟨xs, n, _, rfl, hc, hlen, hx⟩ := DataW.trod_struct hu h2
      have := opens_fields hT l.toList 0 (T.ty t) (by rw [hl]; exact hch) (fun f hf => opens_tab hT d f.type (by
        have := List.all_eq_true.1 h (f.type, f.offset) (by rw [← hl]; exact List.mem_map.2 ⟨f, hf, rfl⟩)
        exact this)) H enc w spare held n cs xs (by simpa using hlen) (by rw [hc, hce]; omega) (fun i f hf => hx i f (by simpa using hf)) (fun n hm => hn n (by simp only [DataW.weights, hu]; exact hm))
      exact this
    · rename_i k e hd
      have hr := hT.row (row_ne hd (by simp))
      obtain ⟨hu, ht, h3, hs0⟩ := hr.arr hd
      obtain ⟨inf, _, hi, _, hsz, _, _, _⟩ := hr.ex
      have hce0 : P.cellsOf t = (T.ty t).size := by unfold Program.cellsOf; rw [hi]; exact hsz
      obtain ⟨infe, _, hie, _, hsze, _, _, _⟩ := (hT.row h3).ex
      have hce : P.cellsOf e = (T.ty e).size := by unfold Program.cellsOf; rw [hie]; exact hsze
      have hsz2 : ∀ n, (rep (T.ty e) n).size = n * (T.ty e).size := by
        intro n
        induction n with
        | zero => rw [Nat.zero_mul]; rfl
        | succ n ih =>
          show (T.ty e).size + (rep (T.ty e) n).size = _
          rw [ih, Nat.succ_mul]
          omega
      rw [ht]
      intro H enc w spare held fuel cs x h2 hn
      obtain ⟨xs, m, _, rfl, hc, hl, hx⟩ := DataW.trod_array hu h2
      have := opens_items hT h3 (opens_tab hT d e h) k 0 H enc w spare held m cs xs (by omega) (by rw [hc, hce0, ht, hsz2]; congr 1; omega) (fun i hi => by rw [← hce]; exact hx i (by omega)) (fun x hx n hm => hn n (by
        simp only [DataW.weights, hu]
        have : ∀ (L : List (DataW H)) (z : DataW H), z ∈ L → n ∈ z.weights P e → n ∈ DataW.weightsAll P e L := by
          intro L z hz hk
          induction L with
          | nil => cases hz
          | cons y L ih =>
            rw [DataW.weightsAll]
            rcases List.mem_cons.1 hz with rfl | hz
            · exact List.mem_append_left _ hk
            · exact List.mem_append_right _ (ih hz)
        exact this _ x.1 (List.mem_map.2 ⟨x, hx, rfl⟩) hm))
      simpa using this
    · cases h
theorem weights_at {H : Type} {P : Program} : ∀ {ts : List TypeId} {ds : List (DataW H)} {j : Nat} {t : TypeId} {D : DataW H}, (DataW.weightsEach P ts ds).all (· ≤ reachBytes) = true → ts[j]? = some t → ds[j]? = some D → ∀ n, n ∈ D.weights P t → n ≤ reachBytes
  | t :: ts, D :: ds, 0, _, _, h, ht, hd, n, hn => by
    simp at ht hd
    subst ht hd
    rw [DataW.weightsEach] at h
    have := List.all_eq_true.1 h n (List.mem_append_left _ hn)
    simpa using this
  | t :: ts, D :: ds, j + 1, _, _, h, ht, hd, n, hn => by
    simp at ht hd
    refine weights_at (ts := ts) (ds := ds) (j := j) ?_ ht hd n hn
    rw [DataW.weightsEach] at h
    exact List.all_eq_true.2 fun q hq => List.all_eq_true.1 h q (List.mem_append_right _ hq)
  | [], _, _, _, _, _, ht, _, _, _ => by simp at ht
  | _ :: _, [], _, _, _, _, _, hd, _, _ => by simp at hd
theorem agg_of {w : World} {r : Reach} {b : Nat} {t : Nat} {v : Value} {l : List Value} (hv : Value.okWide P w r b t v) (hu : (∃ fs, P.underlying t = some (.struct fs)) ∨ ∃ n e, P.underlying t = some (.array n e)) (h : v.cells.toList = l) : v = .agg l.toArray := by
  have : ∃ cs, v = .agg cs := by
    unfold Value.okWide at hv
    rcases hu with ⟨fs, hu⟩ | ⟨n, e, hu⟩ <;> (rw [hu] at hv; obtain ⟨cs, h1, _⟩ := hv; exact ⟨cs, h1⟩)
  obtain ⟨cs, rfl⟩ := this
  subst h
  simp [Value.cells]
theorem nonagg {w : World} {F : Nat → Nat} {ty : Ty} (ha : ty.agg = false) {y : El ty} {v : Value} (hv : ∀ cs, v ≠ .agg cs) (h : RepC F w ty y v.cells.toList) : RepV F w ty y v := by
  have hc : v.cells = #[v] := by cases v <;> first | rfl | exact absurd rfl (hv _)
  rw [hc] at h
  exact ⟨_, h, (pack_one ha).symm⟩
/-- An argument that can be read as data says a value. -/
theorem opens_arg (hT : TabOk P T) {t : Nat} (ho : openT T 20 t = true) {H : Type} {enc : TypeId × Value → H} {w : World} {r : Reach} {b : Nat} {spare : Nat → Bool} {held : Bool} {v : Value} {D : DataW H} {ps : List MemPlace} {ts : List TypeId} {ds : List (DataW H)} {j : Nat}
    (hok : Value.okWide P w r b t v) (hsz : (DataW.weightsEach P ts ds).all (· ≤ reachBytes) = true) (ht : ts[j]? = some t) (hD : ds[j]? = some D) (h : DataW.Trod enc P w 0 spare held t v D ps) : ∃ y : El (T.ty t), Wf (T.ty t) y ∧ RepV (fullF w) w (T.ty t) y v := by
  obtain ⟨fuel, hf⟩ := h
  obtain ⟨y, h1, h2⟩ := opens_tab hT 20 t ho H enc w spare held fuel _ _ hf (weights_at hsz ht hD)
  refine ⟨y, h1, ?_⟩
  have hna : ∀ {u : TypeDesc}, P.underlying t = some u → (match u with | .int _ => True | .bool => True | .string => True | .slice _ => True | _ => False) → ∀ cs, v ≠ .agg cs := by
    intro u hu hm cs e
    subst e
    unfold Value.okWide at hok
    rw [hu] at hok
    cases u <;> first
      | exact hm.elim
      | (have hok : Cell.okWide P w r b t (.agg cs) := hok
         unfold Cell.okWide at hok
         rw [hu] at hok
         have hok : Cell.ok P w r b t (.agg cs) := hok
         unfold Cell.ok at hok
         rw [hu] at hok
         simp at hok)
  unfold openT at ho
  split at ho
  · rename_i k hd
    obtain ⟨hu, hty⟩ := (hT.row (row_ne hd (by simp))).int hd
    exact nonagg (by rw [hty]; rfl) (hna hu trivial) h2
  · rename_i hd
    obtain ⟨hu, hty⟩ := (hT.row (row_ne hd (by simp))).boolu hd
    exact nonagg (by rw [hty]; rfl) (hna hu trivial) h2
  · rename_i hd
    obtain ⟨hu, hty⟩ := (hT.row (row_ne hd (by simp))).str hd
    exact nonagg (by rw [hty]; rfl) (hna hu trivial) h2
  · rename_i e hd
    obtain ⟨hu, hty, _⟩ := (hT.row (row_ne hd (by simp))).sl hd
    exact nonagg (by rw [hty]; rfl) (hna hu trivial) h2
  · rename_i fs hd
    obtain ⟨l, hu, _, hch⟩ := (hT.row (row_ne hd (by simp))).st hd
    have hv := agg_of hok (.inl ⟨l, hu⟩) rfl
    exact ⟨_, h2, by rw [pack_agg (chain_agg hch)]; exact hv⟩
  · rename_i k e hd
    obtain ⟨hu, hty, _⟩ := (hT.row (row_ne hd (by simp))).arr hd
    have hv := agg_of hok (.inr ⟨k, e, hu⟩) rfl
    exact ⟨_, h2, by rw [pack_agg (by rw [hty]; exact rep_agg _ _)]; exact hv⟩
  · cases ho
theorem opens_argT (hT : TabOk P T) {t : Nat} {ty : Ty} (hty : T.ty t = ty) (ho : openT T 20 t = true) {H : Type} {enc : TypeId × Value → H} {w : World} {r : Reach} {b : Nat} {spare : Nat → Bool} {held : Bool} {v : Value} {D : DataW H} {ps : List MemPlace} {ts : List TypeId} {ds : List (DataW H)} {j : Nat}
    (hok : Value.okWide P w r b t v) (hsz : (DataW.weightsEach P ts ds).all (· ≤ reachBytes) = true) (ht : ts[j]? = some t) (hD : ds[j]? = some D) (h : DataW.Trod enc P w 0 spare held t v D ps) : ∃ y : El ty, Wf ty y ∧ RepV (fullF w) w ty y v := by
  subst hty
  exact opens_arg hT ho hok hsz ht hD h
end
end Go.Sym
end
section
namespace Go.Proofs.YtcgdhpnobgimfaaGreatDoor.Num
set_option linter.unusedVariables false
set_option linter.unusedSimpArgs false
open Go.RowKit Go.Proofs.YtcgdhpnobgimfaaGreatDoor.PR Go.Proofs.YtcgdhpnobgimfaaGreatDoorW.PrintWords Go.Proofs.YtcgdhpnobgimfaaGreatDoorW.PrintMore

/-- The number that digits make. -/
def dv : List Int → Int
  | [] => 0
  | x :: xs => x + 65536 * dv xs

def dok (l : List Int) : Prop := ∀ x, x ∈ l → 0 ≤ x ∧ x < 65536

theorem dok_nil : dok [] := fun x h => by cases h
theorem dok_cons {x : Int} {l : List Int} (h : 0 ≤ x ∧ x < 65536) (hl : dok l) : dok (x :: l) := by
  intro y hy
  rcases List.mem_cons.1 hy with rfl | hy
  · exact h
  · exact hl y hy
theorem dok_append {a b : List Int} (ha : dok a) (hb : dok b) : dok (a ++ b) := by
  intro y hy
  rcases List.mem_append.1 hy with hy | hy
  · exact ha y hy
  · exact hb y hy
theorem dok_snoc {a : List Int} {x : Int} (ha : dok a) (h : 0 ≤ x ∧ x < 65536) : dok (a ++ [x]) := dok_append ha (dok_cons h dok_nil)
theorem dok_tail {x : Int} {l : List Int} (h : dok (x :: l)) : dok l := fun y hy => h y (List.mem_cons_of_mem _ hy)
theorem dok_getD {l : List Int} (h : dok l) (i : Nat) : 0 ≤ l.getD i 0 ∧ l.getD i 0 < 65536 := by
  by_cases hi : i < l.length
  · rw [List.getD_eq_getElem?_getD, List.getElem?_eq_getElem hi]
    exact h _ (List.getElem_mem hi)
  · rw [List.getD_eq_getElem?_getD, List.getElem?_eq_none (by omega)]
    exact ⟨by decide, by decide⟩
theorem dok_rep (n : Nat) : dok (List.replicate n 0) := by
  intro y hy
  rw [List.mem_replicate] at hy
  omega

theorem dv_append (a b : List Int) : dv (a ++ b) = dv a + 65536 ^ a.length * dv b := by
  induction a with
  | nil => simp [dv]
  | cons x a ih =>
    simp only [List.cons_append, dv, ih, List.length_cons, Int.pow_succ]
    rw [Int.mul_add, ← Int.mul_assoc, Int.mul_comm 65536 (65536 ^ a.length)]
    omega
theorem dv_snoc (a : List Int) (x : Int) : dv (a ++ [x]) = dv a + 65536 ^ a.length * x := by
  rw [dv_append]
  simp [dv]
theorem pow_pos' (n : Nat) : (0 : Int) < 65536 ^ n := Int.pow_pos (by decide)
theorem dv_nonneg {l : List Int} (h : dok l) : 0 ≤ dv l := by
  induction l with
  | nil => exact Int.le_refl _
  | cons x l ih =>
    have h1 := ih (dok_tail h)
    have h2 := h x List.mem_cons_self
    simp only [dv]
    omega
theorem dv_lt {l : List Int} (h : dok l) : dv l < 65536 ^ l.length := by
  induction l with
  | nil => simp [dv]
  | cons x l ih =>
    have h1 := ih (dok_tail h)
    have h2 := h x List.mem_cons_self
    simp only [dv, List.length_cons, Int.pow_succ]
    omega
theorem dv_take_succ (l : List Int) (i : Nat) : dv (l.take (i + 1)) = dv (l.take i) + 65536 ^ i * l.getD i 0 := by
  by_cases hi : i < l.length
  · rw [List.take_succ_eq_append_getElem hi, dv_snoc, List.length_take, Nat.min_eq_left (by omega)]
    rw [List.getD_eq_getElem?_getD, List.getElem?_eq_getElem hi]
    rfl
  · rw [List.take_of_length_le (by omega), List.take_of_length_le (by omega), List.getD_eq_getElem?_getD, List.getElem?_eq_none (by omega)]
    simp
theorem dv_take_all (l : List Int) (i : Nat) (h : l.length ≤ i) : dv (l.take i) = dv l := by rw [List.take_of_length_le h]
theorem dv_take_lt {l : List Int} (h : dok l) (i : Nat) : 0 ≤ dv (l.take i) ∧ dv (l.take i) < 65536 ^ i := by
  induction i with
  | zero => simp [dv]
  | succ i ih =>
    rw [dv_take_succ, Int.pow_succ]
    have h1 := dok_getD h i
    have h2 : 0 ≤ 65536 ^ i * l.getD i 0 := Int.mul_nonneg (Int.le_of_lt (pow_pos' i)) h1.1
    have h3 : 65536 ^ i * l.getD i 0 ≤ 65536 ^ i * 65535 := Int.mul_le_mul_of_nonneg_left (by omega) (Int.le_of_lt (pow_pos' i))
    omega
theorem dv_split (l : List Int) (i : Nat) (h : i ≤ l.length) : dv l = dv (l.take i) + 65536 ^ i * dv (l.drop i) := by
  have h1 := dv_append (l.take i) (l.drop i)
  rw [List.take_append_drop, List.length_take, Nat.min_eq_left h] at h1
  exact h1
theorem dv_set (l : List Int) (i : Nat) (v : Int) (h : i < l.length) : dv (l.set i v) = dv l + 65536 ^ i * (v - l.getD i 0) := by
  induction l generalizing i with
  | nil => simp at h
  | cons x l ih =>
    cases i with
    | zero => simp [dv]; omega
    | succ i =>
      simp only [List.set_cons_succ, dv, List.getD_cons_succ, Int.pow_succ]
      rw [ih i (by simpa using h), Int.mul_add, ← Int.mul_assoc, Int.mul_comm 65536 (65536 ^ i)]
      omega
theorem dv_rep (n : Nat) : dv (List.replicate n 0) = 0 := by
  induction n with
  | zero => rfl
  | succ n ih => simp [List.replicate_succ, dv, ih]
theorem dok_set {l : List Int} (h : dok l) (i : Nat) {v : Int} (hv : 0 ≤ v ∧ v < 65536) : dok (l.set i v) := by
  intro y hy
  rcases List.mem_or_eq_of_mem_set hy with hy | rfl
  · exact h y hy
  · exact hv
theorem rd_nat (l : List Int) (i : Nat) : rd l (i : Int) = l.getD i 0 := by simp [rd]
theorem u64_id {x : Int} (h0 : 0 ≤ x) (h1 : x < 18446744073709551616) : IntKind.u64.wrap x = x := by
  unfold IntKind.wrap
  simp [IntKind.bits, IntKind.signed]
  omega
theorem u64_mod (x : Int) : IntKind.u64.wrap x = x % 18446744073709551616 := by
  unfold IntKind.wrap
  simp [IntKind.bits, IntKind.signed]
theorem w64_id {x : Int} (h0 : -9223372036854775808 ≤ x) (h1 : x < 9223372036854775808) : wrap64 x = x := by
  unfold wrap64
  omega
theorem w64_succ {i : Nat} (h : i < 4611686018427387904) : wrap64 ((i : Int) + 1) = ((i + 1 : Nat) : Int) := by
  rw [w64_id (by omega) (by omega)]
  omega
theorem w64_add {i j : Nat} (h : i < 2305843009213693952) (h2 : j < 2305843009213693952) : wrap64 ((i : Int) + (j : Int)) = ((i + j : Nat) : Int) := by
  rw [w64_id (by omega) (by omega)]
  omega
theorem tmod_pos {a b : Int} (ha : 0 ≤ a) : Int.tmod a b = a % b := Int.tmod_eq_emod_of_nonneg ha
theorem tdiv_pos {a b : Int} (ha : 0 ≤ a) : Int.tdiv a b = a / b := Int.tdiv_eq_ediv_of_nonneg ha
theorem evp {α : Type} {c : Prop} [Decidable c] {g f : Nat → Option α} {r : α} (h : c) (k : Ev g r) : Ev (fun n => if c then g n else f n) r := Ev.congr (fun _ => if_pos h) k
theorem evs {α β : Type} {g : Option α} {f : Nat → α → Option β} {a : α} {r : β} (h : g = some a) (k : Ev (fun n => f n a) r) : Ev (fun n => g.bind (f n)) r := Ev.congr (fun n => by rw [h]; rfl) k
theorem evn {α : Type} {c : Prop} [Decidable c] {g f : Nat → Option α} {r : α} (h : ¬ c) (k : Ev f r) : Ev (fun n => if c then g n else f n) r := Ev.congr (fun _ => if_neg h) k
end Go.Proofs.YtcgdhpnobgimfaaGreatDoor.Num
end
section
namespace Go.Proofs.YtcgdhpnobgimfaaGreatDoor.Num
set_option linter.unusedVariables false
set_option linter.unusedSimpArgs false
open Go.RowKit Go.Proofs.YtcgdhpnobgimfaaGreatDoor.PR Go.Proofs.YtcgdhpnobgimfaaGreatDoorW.PrintWords Go.Proofs.YtcgdhpnobgimfaaGreatDoorW.PrintMore

/-! ### Bytes -/
theorem nums_byte (s : ByteArray) : ∀ x, x ∈ numsOf s → 0 ≤ x ∧ x < 256 := by
  intro x h
  obtain ⟨b, _, rfl⟩ := List.mem_map.1 h
  have := b.toNat_lt
  omega
theorem str_nums (s : ByteArray) : strOfNums (numsOf s) = s := by
  have h : (numsOf s).map (fun n => UInt8.ofNat n.toNat) = s.data.toList := by
    unfold numsOf
    rw [List.map_map]
    conv => rhs; rw [← List.map_id s.data.toList]
    refine List.map_congr_left fun b _ => ?_
    simp
  unfold strOfNums
  rw [h]
theorem nums_str {l : List Int} (h : ∀ x, x ∈ l → 0 ≤ x ∧ x < 256) : numsOf (strOfNums l) = l := by
  show ((l.map fun n => UInt8.ofNat n.toNat).toArray.toList).map (fun b => (b.toNat : Int)) = l
  rw [List.map_map]
  conv => rhs; rw [← List.map_id l]
  refine List.map_congr_left fun x hx => ?_
  have := h x hx
  have e : (UInt8.ofNat x.toNat).toNat = x.toNat % 256 := UInt8.toNat_ofNat' 
  simp only [Function.comp, id]
  rw [e]
  omega
theorem nums_len (s : ByteArray) : (numsOf s).length = s.size := numsOf_length s
theorem bt_nums (s : ByteArray) (i : Nat) : bt s (i : Int) = (numsOf s).getD i 0 := by
  unfold bt
  by_cases h : i < s.size
  · rw [dif_pos (by simpa using h)]
    have hl : i < (numsOf s).length := by rw [nums_len]; exact h
    rw [List.getD_eq_getElem?_getD, List.getElem?_eq_getElem hl]
    simp only [Option.getD_some, numsOf, List.getElem_map, Int.toNat_natCast]
    rfl
  · rw [dif_neg (by simpa using h), List.getD_eq_getElem?_getD, List.getElem?_eq_none (by rw [nums_len]; omega)]
    rfl
theorem str_app (a b : List Int) : strOfNums a ++ strOfNums b = strOfNums (a ++ b) := by
  apply ByteArray.ext
  show (strOfNums a ++ strOfNums b).data = _
  simp [strOfNums]
theorem digit_str : ∀ i : Nat, i < 10 → (⟨#[48, 49, 50, 51, 52, 53, 54, 55, 56, 57]⟩ : ByteArray).extract i (i + 1) = strOfNums [48 + (i : Int)] := by decide +kernel
theorem toList_nil (s : ByteArray) : s.toList = ([] : List UInt8) ↔ numsOf s = [] := by
  rw [ByteArray.toList_eq]
  unfold numsOf
  simp
theorem nums_drop (s : ByteArray) (p : Nat) : numsOf (s.extract p s.size) = (numsOf s).drop p := by
  unfold numsOf
  rw [← List.map_drop]
  congr 1
  rw [ByteArray.data_extract, Array.toList_extract]
  rw [List.extract_eq_take_drop]
  exact List.take_of_length_le (by rw [List.length_drop, Array.length_toList]; exact Nat.le_refl _)
theorem nums_app (a b : ByteArray) : numsOf (a ++ b) = numsOf a ++ numsOf b := by
  unfold numsOf
  rw [← List.map_append]
  congr 1
theorem bt0 (s : ByteArray) : bt s 0 = (numsOf s).getD 0 0 := bt_nums s 0
theorem nums_take (s : ByteArray) (p : Nat) : numsOf (s.extract 0 p) = (numsOf s).take p := by
  unfold numsOf
  rw [← List.map_take]
  congr 1
  rw [ByteArray.data_extract, Array.toList_extract]
  rw [List.extract_eq_take_drop]
  simp
end Go.Proofs.YtcgdhpnobgimfaaGreatDoor.Num
end
section
namespace Go.Proofs.YtcgdhpnobgimfaaGreatDoor.Num
set_option linter.unusedVariables false
set_option linter.unusedSimpArgs false
open Go.RowKit Go.Proofs.YtcgdhpnobgimfaaGreatDoor.PR Go.Proofs.YtcgdhpnobgimfaaGreatDoorW.PrintWords Go.Proofs.YtcgdhpnobgimfaaGreatDoorW.PrintMore

/-! ### Digits -/
def dig : Nat → Int → List Int → List Int
  | 0, _, l => l
  | k + 1, u, l => if u / 10 = 0 then (48 + u % 10) :: l else dig k (u / 10) ((48 + u % 10) :: l)
def isDig (x : Int) : Prop := 48 ≤ x ∧ x ≤ 57
instance (x : Int) : Decidable (isDig x) := by unfold isDig; infer_instance
def valf (a : Int) (l : List Int) : Int := l.foldl (fun a x => 10 * a + (x - 48)) a
theorem valf_app (a : Int) (l m : List Int) : valf a (l ++ m) = valf (valf a l) m := by
  unfold valf
  rw [List.foldl_append]
theorem valf_cons (a x : Int) (l : List Int) : valf a (x :: l) = valf (10 * a + (x - 48)) l := rfl
theorem valf_ge {l : List Int} (h : ∀ x, x ∈ l → isDig x) : ∀ {a : Int}, 0 ≤ a → a * 10 ^ l.length ≤ valf a l := by
  induction l with
  | nil => intro a _; simp [valf]
  | cons x t ih =>
    intro a ha
    have hx := h x (List.mem_cons_self)
    have ih := ih (fun y hy => h y (List.mem_cons_of_mem _ hy)) (a := 10 * a + (x - 48)) (by have := hx.1; omega)
    rw [valf_cons, List.length_cons, Int.pow_succ]
    have p : (0 : Int) ≤ 10 ^ t.length := Int.le_of_lt (Int.pow_pos (by decide))
    have q : a * (10 ^ t.length * 10) ≤ (10 * a + (x - 48)) * 10 ^ t.length := by
      rw [show a * (10 ^ t.length * 10) = (10 * a) * 10 ^ t.length from by rw [Int.mul_comm (10 ^ t.length) 10, ← Int.mul_assoc, Int.mul_comm a 10]]
      exact Int.mul_le_mul_of_nonneg_right (by have := hx.1; omega) p
    omega
theorem valf_mono {l : List Int} (h : ∀ x, x ∈ l → isDig x) {a : Int} (ha : 0 ≤ a) : a ≤ valf a l := by
  have g := valf_ge h ha
  have p : (1 : Int) ≤ 10 ^ l.length := Int.pow_pos (by decide)
  have q : a * 1 ≤ a * 10 ^ l.length := Int.mul_le_mul_of_nonneg_left p ha
  omega
theorem valf_lt {l : List Int} (h : ∀ x, x ∈ l → isDig x) : ∀ {a : Int} {i : Nat}, 0 ≤ a → a < 10 ^ i → valf a l < 10 ^ (i + l.length) := by
  induction l with
  | nil => intro a i _ h2; simpa [valf] using h2
  | cons x t ih =>
    intro a i ha h2
    have hx := h x (List.mem_cons_self)
    have h0 := hx.1
    have h1 := hx.2
    rw [valf_cons, List.length_cons, show i + (t.length + 1) = (i + 1) + t.length from by omega]
    refine ih (fun y hy => h y (List.mem_cons_of_mem _ hy)) (by omega) ?_
    rw [Int.pow_succ]
    omega
theorem dig_props (k : Nat) : ∀ (u : Int) (acc : List Int), 0 ≤ u → u < 10 ^ (k + 1) → ∃ m : List Int, dig (k + 1) u acc = m ++ acc ∧ 0 < m.length ∧ m.length ≤ k + 1 ∧ (∀ x, x ∈ m → isDig x) ∧ valf 0 m = u ∧ (1 < m.length → m.getD 0 0 ≠ 48) := by
  induction k with
  | zero =>
    intro u acc h0 h1
    have h1 : u < 10 := by simpa using h1
    refine ⟨[48 + u], ?_, by simp, by simp, ?_, ?_, by simp⟩
    · show (if u / 10 = 0 then _ else _) = _
      rw [if_pos (by omega), show u % 10 = u from by omega]
      rfl
    · intro x hx
      rw [List.mem_singleton] at hx
      unfold isDig
      omega
    · simp [valf]
      omega
  | succ k ih =>
    intro u acc h0 h1
    rw [show dig (k + 1 + 1) u acc = if u / 10 = 0 then (48 + u % 10) :: acc else dig (k + 1) (u / 10) ((48 + u % 10) :: acc) from rfl]
    by_cases c : u / 10 = 0
    · rw [if_pos c]
      refine ⟨[48 + u % 10], rfl, by simp, by simp, ?_, ?_, by simp⟩
      · intro x hx
        rw [List.mem_singleton] at hx
        unfold isDig
        omega
      · simp [valf]
        omega
    · rw [if_neg c]
      have hq : u / 10 < 10 ^ (k + 1) := by
        rw [Int.pow_succ] at h1
        omega
      obtain ⟨m, e, l0, l1, hd, hv, hz⟩ := ih (u / 10) ((48 + u % 10) :: acc) (by omega) hq
      refine ⟨m ++ [48 + u % 10], by rw [e]; simp, by simp, by simp; omega, ?_, ?_, ?_⟩
      · intro x hx
        rcases List.mem_append.1 hx with hx | hx
        · exact hd x hx
        · rw [List.mem_singleton] at hx
          unfold isDig
          omega
      · rw [valf_app, hv]
        show 10 * (u / 10) + (48 + u % 10 - 48) = u
        omega
      · intro _
        obtain ⟨x, t, rfl⟩ : ∃ x t, m = x :: t := by
          cases m with
          | nil => simp at l0
          | cons x t => exact ⟨x, t, rfl⟩
        show x ≠ 48
        cases t with
        | nil =>
          intro hx
          rw [hx] at hv
          simp [valf] at hv
          omega
        | cons y t => exact hz (by simp)
theorem dig_val (n : Nat) : ∀ (l acc : List Int) (k : Nat), l.length = n + 1 → (∀ x, x ∈ l → isDig x) → (l.length = 1 ∨ l.getD 0 0 ≠ 48) → l.length ≤ k → dig k (valf 0 l) acc = l ++ acc := by
  induction n with
  | zero =>
    intro l acc k hl hd _ hk
    obtain ⟨x, rfl⟩ := List.length_eq_one_iff.1 hl
    obtain ⟨k, rfl⟩ : ∃ j, k = j + 1 := ⟨k - 1, by simp at hk; omega⟩
    have hx := hd x (by simp)
    have h0 := hx.1
    have h1 := hx.2
    have e : valf 0 [x] = x - 48 := by simp [valf]
    rw [e]
    show (if (x - 48) / 10 = 0 then (48 + (x - 48) % 10) :: acc else _) = _
    rw [if_pos (by omega), show 48 + (x - 48) % 10 = x from by omega]
    rfl
  | succ n ih =>
    intro l acc k hl hd hz hk
    obtain ⟨m, x, rfl⟩ : ∃ m x, l = m ++ [x] := by
      refine ⟨l.dropLast, l.getLast (by intro e; rw [e] at hl; simp at hl), ?_⟩
      rw [List.dropLast_concat_getLast]
    have hm : m.length = n + 1 := by simpa using hl
    obtain ⟨k, rfl⟩ : ∃ j, k = j + 1 := ⟨k - 1, by simp at hk; omega⟩
    have hx := hd x (by simp)
    have h0 := hx.1
    have h1 := hx.2
    have hdm : ∀ y, y ∈ m → isDig y := fun y hy => hd y (by simp [hy])
    obtain ⟨y, t, rfl⟩ : ∃ y t, m = y :: t := by
      cases m with
      | nil => simp at hm
      | cons y t => exact ⟨y, t, rfl⟩
    have hy : y ≠ 48 := by
      rcases hz with hz | hz
      · simp at hz
      · exact hz
    have hyd := hdm y (by simp)
    have hv1 : 1 ≤ valf 0 (y :: t) := by
      rw [valf_cons]
      have := valf_mono (l := t) (fun z hz => hdm z (by simp [hz])) (a := 10 * 0 + (y - 48)) (by have := hyd.1; omega)
      have := hyd.1
      omega
    have e : valf 0 ((y :: t) ++ [x]) = 10 * valf 0 (y :: t) + (x - 48) := by
      rw [valf_app]
      rfl
    rw [e]
    rw [show dig (k + 1) (10 * valf 0 (y :: t) + (x - 48)) acc = if (10 * valf 0 (y :: t) + (x - 48)) / 10 = 0 then (48 + (10 * valf 0 (y :: t) + (x - 48)) % 10) :: acc else dig k ((10 * valf 0 (y :: t) + (x - 48)) / 10) ((48 + (10 * valf 0 (y :: t) + (x - 48)) % 10) :: acc) from rfl]
    rw [if_neg (by omega), show (10 * valf 0 (y :: t) + (x - 48)) / 10 = valf 0 (y :: t) from by omega, show 48 + (10 * valf 0 (y :: t) + (x - 48)) % 10 = x from by omega]
    rw [ih (y :: t) (x :: acc) k hm hdm (.inr hy) (by simp at hk hm ⊢; omega)]
    simp
theorem p20 : (18446744073709551616 : Int) < 10 ^ 20 := by decide
theorem digits_loop (m : Nat) : ∀ (u : Int) (l : List Int), l.length + (m + 1) = 20 → 0 ≤ u → u < 18446744073709551616 → u < 10 ^ (m + 1) → Ev (fun k => num_digits.l0 k u l) (strOfNums (dig (m + 1) u l)) := by
  induction m with
  | zero =>
    intro u l hl h0 h1 h2
    have h2 : u < 10 := by simpa using h2
    refine Ev.step (fun k => by rw [num_digits.l0]) ?_
    refine evp (by omega) ?_
    refine evp h0 ?_
    refine evp h1 ?_
    refine evp (by omega) ?_
    rw [show dig (0 + 1) u l = (48 + u % 10) :: l from if_pos (by omega)]
    exact Ev.now _
  | succ m ih =>
    intro u l hl h0 h1 h2
    refine Ev.step (fun k => by rw [num_digits.l0]) ?_
    refine evp (by omega) ?_
    refine evp h0 ?_
    refine evp h1 ?_
    by_cases c : u / 10 = 0
    · rw [show dig (m + 1 + 1) u l = (48 + u % 10) :: l from if_pos c]
      exact evp c (Ev.now _)
    · rw [show dig (m + 1 + 1) u l = dig (m + 1) (u / 10) ((48 + u % 10) :: l) from if_neg c]
      refine evn c (ih _ _ (by simp only [List.length_cons]; omega) (by omega) (by omega) ?_)
      rw [Int.pow_succ] at h2
      omega
theorem digits_ok {u : Int} (h0 : 0 ≤ u) (h1 : u < 18446744073709551616) : Ev (fun k => num_digits.f k u) (strOfNums (dig 20 u [])) := by
  unfold num_digits.f
  have := p20
  exact digits_loop 19 u [] rfl h0 h1 (by omega)
theorem text_loop (m : Nat) : ∀ (u : Int) (l : List Int), l.length + (m + 1) ≤ 30 → 0 ≤ u → u < 9223372036854775808 → u < 10 ^ (m + 1) →
    Ev (fun k => regimenref01_Text.l0 k u (⟨#[48, 49, 50, 51, 52, 53, 54, 55, 56, 57]⟩ : ByteArray) (strOfNums ((48 + u % 10) :: l))) (strOfNums (dig (m + 1) u l)) := by
  induction m with
  | zero =>
    intro u l hl h0 h1 h2
    have h2 : u < 10 := by simpa using h2
    refine Ev.step (fun k => by rw [regimenref01_Text.l0]) ?_
    refine evn (by omega) ?_
    rw [show dig (0 + 1) u l = (48 + u % 10) :: l from if_pos (by omega)]
    exact Ev.now _
  | succ m ih =>
    intro u l hl h0 h1 h2
    refine Ev.step (fun k => by rw [regimenref01_Text.l0]) ?_
    by_cases c : u / 10 = 0
    · rw [show dig (m + 1 + 1) u l = (48 + u % 10) :: l from if_pos c]
      exact evn (by omega) (Ev.now _)
    · rw [show dig (m + 1 + 1) u l = dig (m + 1) (u / 10) ((48 + u % 10) :: l) from if_neg c]
      refine evp (by omega) ?_
      rw [show Int.tdiv u 10 = u / 10 from Int.tdiv_eq_ediv_of_nonneg h0, w64_id (x := u / 10) (by omega) (by omega), show Int.tmod (u / 10) 10 = u / 10 % 10 from Int.tmod_eq_emod_of_nonneg (by omega), w64_id (x := u / 10 % 10 + 1) (by omega) (by omega)]
      have hn := digit_str (u / 10 % 10).toNat (by omega)
      have e : (⟨#[48, 49, 50, 51, 52, 53, 54, 55, 56, 57]⟩ : ByteArray).extract (u / 10 % 10).toNat (u / 10 % 10 + 1).toNat = strOfNums [48 + u / 10 % 10] := by
        rw [show (u / 10 % 10 + 1).toNat = (u / 10 % 10).toNat + 1 from by omega, hn, show ((u / 10 % 10).toNat : Int) = u / 10 % 10 from by omega]
      rw [e, str_app]
      refine evp (by omega) ?_
      refine evp (by omega) ?_
      refine evp (by show u / 10 % 10 + 1 ≤ 10; omega) ?_
      refine evp (by rw [strOfNums_size, strOfNums_size]; simp only [List.length_cons, List.length_nil]; omega) ?_
      refine ih (u / 10) ((48 + u % 10) :: l) (by simp only [List.length_cons]; omega) (by omega) (by omega) ?_
      rw [Int.pow_succ] at h2
      omega
theorem text_ok {u : Int} (h0 : 0 ≤ u) (h1 : u < 9223372036854775808) : Ev (fun k => regimenref01_Text.f k u) (strOfNums (dig 20 u [])) := by
  have := p20
  have t := text_loop 19 u [] (by simp) h0 h1 (by omega)
  unfold regimenref01_Text.f
  rw [show Int.tmod u 10 = u % 10 from Int.tmod_eq_emod_of_nonneg h0, w64_id (x := u % 10 + 1) (by omega) (by omega)]
  have hn := digit_str (u % 10).toNat (by omega)
  have e : (⟨#[48, 49, 50, 51, 52, 53, 54, 55, 56, 57]⟩ : ByteArray).extract (u % 10).toNat (u % 10 + 1).toNat = strOfNums [48 + u % 10] := by
    rw [show (u % 10 + 1).toNat = (u % 10).toNat + 1 from by omega, hn, show ((u % 10).toNat : Int) = u % 10 from by omega]
  rw [e]
  refine evp (by omega) ?_
  refine evp (by omega) ?_
  refine evp (by omega) ?_
  exact t
/-! ### Reading -/
def lead : List Int → Nat
  | [] => 0
  | x :: t => if isDig x then lead t + 1 else 0
theorem lead_le (l : List Int) : lead l ≤ l.length := by
  induction l with
  | nil => simp [lead]
  | cons x t ih =>
    unfold lead
    split
    · simp; omega
    · simp
theorem lead_all (l : List Int) : lead l = l.length ↔ ∀ x, x ∈ l → isDig x := by
  induction l with
  | nil => simp [lead]
  | cons x t ih =>
    unfold lead
    have := lead_le t
    by_cases c : isDig x
    · rw [if_pos c]
      simp only [List.length_cons, Nat.add_right_cancel_iff, List.mem_cons, forall_eq_or_imp]
      rw [ih]
      exact ⟨fun h => ⟨c, h⟩, fun h => h.2⟩
    · rw [if_neg c]
      simp only [List.length_cons, List.mem_cons, forall_eq_or_imp]
      exact ⟨fun h => by omega, fun h => absurd h.1 c⟩
theorem drop_getD (l : List Int) (i : Nat) (h : i < l.length) : l.drop i = l.getD i 0 :: l.drop (i + 1) := by
  rw [List.drop_eq_getElem_cons h, List.getD_eq_getElem?_getD, List.getElem?_eq_getElem h]
  rfl
theorem lead_loop (s : ByteArray) (hs : s.size < 1000000) (e : Nat) : ∀ i : Nat, i + e = s.size → Ev (fun k => num_Lead.l0 k s (numsOf s) ((numsOf s).length : Int) (i : Int)) ((i + lead ((numsOf s).drop i) : Nat) : Int) := by
  have hl := nums_len s
  induction e with
  | zero =>
    intro i h
    refine Ev.step (fun k => by rw [num_Lead.l0]) ?_
    refine evn (by omega) ?_
    rw [List.drop_eq_nil_of_le (by omega)]
    rw [show ((i + lead [] : Nat) : Int) = (s.size : Int) from by simp [lead]; omega]
    exact Ev.now _
  | succ e ih =>
    intro i h
    have nx := ih (i + 1) (by omega)
    refine Ev.step (fun k => by rw [num_Lead.l0]) ?_
    refine evp (by omega) ?_
    refine evp (by omega) ?_
    refine evp (by omega) ?_
    rw [rd_nat, drop_getD _ _ (by omega)]
    by_cases c : (numsOf s).getD i 0 < 48
    · rw [show lead ((numsOf s).getD i 0 :: (numsOf s).drop (i + 1)) = 0 from if_neg (by unfold isDig; omega)]
      exact evp c (Ev.now _)
    · refine evn c ?_
      by_cases d : (numsOf s).getD i 0 > 57
      · rw [show lead ((numsOf s).getD i 0 :: (numsOf s).drop (i + 1)) = 0 from if_neg (by unfold isDig; omega)]
        exact evp d (Ev.now _)
      · rw [show lead ((numsOf s).getD i 0 :: (numsOf s).drop (i + 1)) = lead ((numsOf s).drop (i + 1)) + 1 from if_pos (by unfold isDig; omega)]
        refine evn d ?_
        rw [w64_succ (by omega), show i + (lead ((numsOf s).drop (i + 1)) + 1) = i + 1 + lead ((numsOf s).drop (i + 1)) from by omega]
        exact nx
theorem lead_ok (s : ByteArray) (hs : s.size < 1000000) : Ev (fun k => num_Lead.f k s) (lead (numsOf s) : Int) := by
  unfold num_Lead.f
  refine evp (by omega) ?_
  unfold num_Lead.g
  have := lead_loop s hs s.size 0 (by omega)
  rw [List.drop_zero, Nat.zero_add] at this
  exact this
/-- Which count a text is; what is told. -/
def bad (l : List Int) : Prop := l = [] ∨ lead l < l.length ∨ (1 < l.length ∧ l.getD 0 0 = 48)
instance (l : List Int) : Decidable (bad l) := by unfold bad; infer_instance
def getv (l : List Int) : Int × Int := if bad l then (0, 2) else if valf 0 l > 1099511627776 then (0, 3) else (valf 0 l, 0)
theorem get_loop (l : List Int) (hl : l.length < 1000000) (hd : ∀ x, x ∈ l → isDig x) (e : Nat) : ∀ (i : Nat) (a : Int), i + e = l.length → 0 ≤ a → a ≤ 1099511627776 →
    Ev (fun k => num_Get.l0 k a l (l.length : Int) (i : Int)) (if valf a (l.drop i) > 1099511627776 then (0, 3) else (valf a (l.drop i), 0)) := by
  induction e with
  | zero =>
    intro i a h h0 h1
    refine Ev.step (fun k => by rw [num_Get.l0]) ?_
    refine evn (by omega) ?_
    rw [List.drop_eq_nil_of_le (by omega), show valf a [] = a from rfl, if_neg (by omega)]
    exact Ev.now _
  | succ e ih =>
    intro i a h h0 h1
    have hi : i < l.length := by omega
    have hx : isDig (l.getD i 0) := hd _ (by rw [List.getD_eq_getElem?_getD, List.getElem?_eq_getElem hi]; exact List.getElem_mem hi)
    have x0 := hx.1
    have x1 := hx.2
    refine Ev.step (fun k => by rw [num_Get.l0]) ?_
    refine evp (by omega) ?_
    refine evp (by omega) ?_
    refine evp (by omega) ?_
    rw [rd_nat, drop_getD _ _ hi, valf_cons, show (l.getD i 0 - 48) % 256 = l.getD i 0 - 48 from by omega, w64_id (x := 10 * a) (by omega) (by omega), w64_id (x := 10 * a + (l.getD i 0 - 48)) (by omega) (by omega)]
    by_cases c : 10 * a + (l.getD i 0 - 48) > 1099511627776
    · refine evp c ?_
      have m := valf_mono (l := l.drop (i + 1)) (fun y hy => hd y (List.mem_of_mem_drop hy)) (a := 10 * a + (l.getD i 0 - 48)) (by omega)
      rw [if_pos (by omega)]
      exact Ev.now _
    · refine evn c ?_
      rw [w64_succ (by omega)]
      exact ih (i + 1) _ (by omega) (by omega) (by omega)
theorem get_ok (s : ByteArray) (hs : s.size < 1000000) : Ev (fun k => num_Get.f k s) (getv (numsOf s)) := by
  have hl := nums_len s
  have j : ∀ b : Bool, (b = true ↔ bad (numsOf s)) → Ev (fun k => num_Get.j0 k (numsOf s) b) (getv (numsOf s)) := by
    intro b hb
    unfold getv
    refine Ev.step (fun k => by rw [num_Get.j0]) ?_
    by_cases c : b = true
    · rw [if_pos (hb.1 c)]
      exact evp c (Ev.now _)
    · have nb : ¬ bad (numsOf s) := fun h => c (hb.2 h)
      rw [if_neg nb]
      refine evn c ?_
      have hd := (lead_all (numsOf s)).1 (by
        have := lead_le (numsOf s)
        unfold bad at nb
        omega)
      have g := get_loop (numsOf s) (by omega) hd (numsOf s).length 0 0 (by omega) (by omega) (by omega)
      rw [List.drop_zero] at g
      exact g
  unfold num_Get.f
  refine evp (by omega) ?_
  unfold num_Get.g
  by_cases c1 : s.toList = ([] : List UInt8)
  · refine evp c1 (j true ?_)
    simp only [true_iff]
    exact .inl ((toList_nil s).1 c1)
  · have n1 : numsOf s ≠ [] := fun h => c1 ((toList_nil s).2 h)
    have l0 : 0 < (numsOf s).length := List.length_pos_iff.2 n1
    refine evn c1 ?_
    refine Ev.bind (lead_ok s hs) ?_
    by_cases c2 : (lead (numsOf s) : Int) < (s.size : Int)
    · refine evp c2 (j true ?_)
      simp only [true_iff]
      exact .inr (.inl (by omega))
    · refine evn c2 ?_
      refine evp (by omega) ?_
      rw [show (0 : Int) = ((0 : Nat) : Int) from rfl, bt_nums]
      by_cases c3 : (numsOf s).getD 0 0 = 48
      · refine evp c3 (j _ ?_)
        rw [decide_eq_true_eq]
        unfold bad
        constructor
        · intro h
          exact .inr (.inr ⟨by omega, c3⟩)
        · rintro (h | h | h)
          · exact absurd h n1
          · omega
          · omega
      · refine evn c3 (j _ ?_)
        simp only [Bool.false_eq_true, false_iff]
        rintro (h | h | h)
        · exact absurd h n1
        · omega
        · exact c3 h.2
end Go.Proofs.YtcgdhpnobgimfaaGreatDoor.Num
end
section
namespace Go.Proofs.YtcgdhpnobgimfaaGreatDoor.Num
set_option linter.unusedVariables false
set_option linter.unusedSimpArgs false
open Go.RowKit Go.Proofs.YtcgdhpnobgimfaaGreatDoor.PR Go.Proofs.YtcgdhpnobgimfaaGreatDoorW.PrintWords Go.Proofs.YtcgdhpnobgimfaaGreatDoorW.PrintMore

theorem pow_ge (n : Nat) (h : 13 ≤ n) : (10000000000000 : Int) ≤ 10 ^ n := by
  obtain ⟨d, rfl⟩ : ∃ d, n = 13 + d := ⟨n - 13, by omega⟩
  rw [Int.pow_add, show (10 : Int) ^ 13 = 10000000000000 from by decide]
  have p : (1 : Int) ≤ 10 ^ d := Int.pow_pos (by decide)
  omega
theorem pow_le : ∀ i : Nat, i < 13 → (10 : Int) ^ i ≤ 1000000000000 := by decide
theorem big_len {l : List Int} (hb : ¬ bad l) (h : 13 < l.length) : valf 0 l > 1099511627776 := by
  have hd := (lead_all l).1 (by
    have := lead_le l
    unfold bad at hb
    omega)
  obtain ⟨x, t, rfl⟩ : ∃ x t, l = x :: t := by
    cases l with
    | nil => simp at h
    | cons x t => exact ⟨x, t, rfl⟩
  have hx : x ≠ 48 := fun e => hb (.inr (.inr ⟨by omega, e⟩))
  have hxd := hd x (by simp)
  have x0 := hxd.1
  have ht : 13 ≤ t.length := by simp at h; omega
  have g := valf_ge (l := t) (fun y hy => hd y (by simp [hy])) (a := 10 * 0 + (x - 48)) (by omega)
  rw [valf_cons]
  have p := pow_ge t.length ht
  have q : 1 * (10 : Int) ^ t.length ≤ (10 * 0 + (x - 48)) * 10 ^ t.length := Int.mul_le_mul_of_nonneg_right (by omega) (by omega)
  omega
theorem lead_at (i : Nat) : ∀ l : List Int, i ≤ l.length → (∀ k, k < i → isDig (l.getD k 0)) → (i = l.length ∨ ¬ isDig (l.getD i 0)) → lead l = i := by
  induction i with
  | zero =>
    intro l hl hd hn
    cases l with
    | nil => rfl
    | cons x t =>
      rcases hn with h | h
      · simp at h
      · exact if_neg h
  | succ i ih =>
    intro l hl hd hn
    cases l with
    | nil => simp at hl
    | cons x t =>
      have hx : isDig x := hd 0 (by omega)
      rw [show lead (x :: t) = lead t + 1 from if_pos hx]
      rw [ih t (by simpa using hl) (fun k hk => hd (k + 1) (by omega)) (by
        rcases hn with h | h
        · exact .inl (by simpa using h)
        · exact .inr h)]
theorem ref_get_l1 (s : ByteArray) (hs : s.size ≤ 13) (hd : ∀ x, x ∈ numsOf s → isDig x) (e : Nat) : ∀ (i : Nat) (a : Int), i + e = s.size → 0 ≤ a → a < 10 ^ i →
    Ev (fun k => regimenref01_Get.l1 k s a (i : Int)) (if valf a ((numsOf s).drop i) > 1099511627776 then (0, 3) else (valf a ((numsOf s).drop i), 0)) := by
  have hl := nums_len s
  induction e with
  | zero =>
    intro i a h h0 h1
    refine Ev.step (fun k => by rw [regimenref01_Get.l1]) ?_
    refine evn (by omega) ?_
    rw [List.drop_eq_nil_of_le (by omega), show valf a [] = a from rfl]
    by_cases c : a > 1099511627776
    · refine evp c ?_
      rw [if_pos c]
      exact Ev.now _
    · refine evn c ?_
      rw [if_neg c]
      exact Ev.now _
  | succ e ih =>
    intro i a h h0 h1
    have hi : i < (numsOf s).length := by omega
    have hx : isDig ((numsOf s).getD i 0) := hd _ (by rw [List.getD_eq_getElem?_getD, List.getElem?_eq_getElem hi]; exact List.getElem_mem hi)
    have x0 := hx.1
    have x1 := hx.2
    have p := pow_le i (by omega)
    refine Ev.step (fun k => by rw [regimenref01_Get.l1]) ?_
    refine evp (by omega) ?_
    refine evp (by omega) ?_
    rw [bt_nums, drop_getD _ _ hi, valf_cons, show ((numsOf s).getD i 0 - 48) % 256 = (numsOf s).getD i 0 - 48 from by omega, w64_id (x := 10 * a) (by omega) (by omega), w64_id (x := 10 * a + ((numsOf s).getD i 0 - 48)) (by omega) (by omega), w64_succ (by omega)]
    refine ih (i + 1) _ (by omega) (by omega) ?_
    rw [Int.pow_succ]
    omega
theorem ref_get_j1 (s : ByteArray) (b : Bool) (hb : b = true ↔ bad (numsOf s)) : Ev (fun k => regimenref01_Get.j1 k s b) (getv (numsOf s)) := by
  have hl := nums_len s
  unfold getv
  refine Ev.step (fun k => by rw [regimenref01_Get.j1]) ?_
  by_cases c : b = true
  · rw [if_pos (hb.1 c)]
    exact evp c (Ev.now _)
  · have nb : ¬ bad (numsOf s) := fun h => c (hb.2 h)
    rw [if_neg nb]
    refine evn c ?_
    by_cases d : (s.size : Int) > 13
    · rw [if_pos (big_len nb (by omega))]
      exact evp d (Ev.now _)
    · refine evn d ?_
      have hd := (lead_all (numsOf s)).1 (by
        have := lead_le (numsOf s)
        unfold bad at nb
        omega)
      have g := ref_get_l1 s (by omega) hd s.size 0 0 (by omega) (by omega) (by simp)
      rw [List.drop_zero] at g
      exact g
theorem ref_get_l0 (s : ByteArray) (hs : s.size < 1000000) (e : Nat) : ∀ i : Nat, i + e = s.size → (∀ k, k < i → isDig ((numsOf s).getD k 0)) → Ev (fun k => regimenref01_Get.l0 k s (i : Int)) (getv (numsOf s)) := by
  have hl := nums_len s
  induction e with
  | zero =>
    intro i h hd
    have la := lead_at i (numsOf s) (by omega) hd (.inl (by omega))
    refine Ev.step (fun k => by rw [regimenref01_Get.l0]) ?_
    refine evn (by omega) ?_
    by_cases z : (s.size : Int) = 0
    · refine evp z (ref_get_j1 s true ?_)
      simp only [true_iff]
      exact .inl (List.eq_nil_of_length_eq_zero (by omega))
    · have nn : numsOf s ≠ [] := fun e => by rw [e] at hl; simp at hl; omega
      refine evn z ?_
      by_cases o : (s.size : Int) > 1
      · refine evp o ?_
        refine evp (by omega) (ref_get_j1 s _ ?_)
        rw [beq_iff_eq, show (0 : Int) = ((0 : Nat) : Int) from rfl, bt_nums]
        unfold bad
        constructor
        · intro h
          exact .inr (.inr ⟨by omega, h⟩)
        · rintro (h | h | h)
          · exact absurd h nn
          · omega
          · exact h.2
      · refine evn o (ref_get_j1 s false ?_)
        simp only [Bool.false_eq_true, false_iff]
        rintro (h | h | h)
        · exact nn h
        · omega
        · omega
  | succ e ih =>
    intro i h hd
    have no : ¬ isDig ((numsOf s).getD i 0) → getv (numsOf s) = (0, 2) := by
      intro hn
      have la := lead_at i (numsOf s) (by omega) hd (.inr hn)
      unfold getv
      rw [if_pos (.inr (.inl (by omega)))]
    refine Ev.step (fun k => by rw [regimenref01_Get.l0]) ?_
    refine evp (by omega) ?_
    refine evp (by omega) ?_
    rw [bt_nums]
    by_cases c : (numsOf s).getD i 0 < 48
    · rw [no (by unfold isDig; omega)]
      exact evp c (Ev.now _)
    · refine evn c ?_
      by_cases d : (numsOf s).getD i 0 > 57
      · rw [no (by unfold isDig; omega)]
        exact evp d (Ev.now _)
      · refine evn d ?_
        rw [w64_succ (by omega)]
        refine ih (i + 1) (by omega) (fun k hk => ?_)
        by_cases q : k = i
        · rw [q]
          unfold isDig
          omega
        · exact hd k (by omega)
theorem ref_get_ok (s : ByteArray) (hs : s.size < 1000000) : Ev (fun k => regimenref01_Get.f k s) (getv (numsOf s)) := by
  unfold regimenref01_Get.f
  exact ref_get_l0 s hs s.size 0 (by omega) (fun k hk => by omega)
theorem get_back {l : List Int} (h : (getv l).2 = 0) : ¬ bad l ∧ (getv l).1 = valf 0 l ∧ valf 0 l ≤ 1099511627776 ∧ 0 ≤ valf 0 l ∧ dig 20 (valf 0 l) [] = l := by
  unfold getv at *
  by_cases b : bad l
  · rw [if_pos b] at h
    exact absurd h (by decide)
  · rw [if_neg b] at *
    by_cases c : valf 0 l > 1099511627776
    · rw [if_pos c] at h
      exact absurd h (by decide)
    · rw [if_neg c]
      have hd := (lead_all l).1 (by
        have := lead_le l
        unfold bad at b
        omega)
      have ln : l.length ≤ 13 := Nat.le_of_not_lt fun q => c (big_len b q)
      have l0 : 0 < l.length := by
        refine List.length_pos_iff.2 fun e => b (.inl e)
      have dv := dig_val (l.length - 1) l [] 20 (by omega) hd (by
        by_cases q : l.length = 1
        · exact .inl q
        · exact .inr fun e => b (.inr (.inr ⟨by omega, e⟩))) (by omega)
      rw [List.append_nil] at dv
      exact ⟨b, rfl, by omega, valf_mono hd (by omega), dv⟩
theorem get_of {u : Int} (h0 : 0 ≤ u) (h1 : u ≤ 1099511627776) : getv (dig 20 u []) = (u, 0) ∧ numsOf (strOfNums (dig 20 u [])) = dig 20 u [] ∧ (dig 20 u []).length ≤ 20 := by
  obtain ⟨m, e, l0, l1, hd, hv, hz⟩ := dig_props 19 u [] h0 (by have := p20; omega)
  rw [List.append_nil] at e
  rw [e]
  refine ⟨?_, nums_str fun x hx => ?_, l1⟩
  · unfold getv
    have la := (lead_all m).2 hd
    have nb : ¬ bad m := by
      rintro (h | h | h)
      · rw [h] at l0
        simp at l0
      · omega
      · exact hz h.1 h.2
    rw [if_neg nb, hv, if_neg (by omega)]
  · have := hd x hx
    unfold isDig at this
    omega
/-- Any number's digits. -/
def tellv (n : Int) : ByteArray := if n < 0 then strOfNums (45 :: dig 20 (-n) []) else strOfNums (dig 20 n [])
theorem tell_ok {n : Int} (h : -9223372036854775808 ≤ n ∧ n < 9223372036854775808) : Ev (fun k => num_Tell.f k n) (tellv n) := by
  unfold num_Tell.f tellv
  by_cases c : n < 0
  · rw [if_pos c]
    refine evp c ?_
    rw [show IntKind.u64.wrap (-(IntKind.u64.wrap n)) = -n from by rw [u64_mod, u64_mod]; omega]
    refine Ev.bind (digits_ok (by omega) (by omega)) ?_
    obtain ⟨m, e, l0, l1, hd, hv, hz⟩ := dig_props 19 (-n) [] (by omega) (by have := p20; omega)
    rw [List.append_nil] at e
    refine evp (by rw [strOfNums_size, e]; omega) ?_
    rw [show (⟨#[45]⟩ : ByteArray) = strOfNums [45] from by decide +kernel, str_app]
    exact Ev.now _
  · rw [if_neg c]
    refine evn c ?_
    rw [u64_id (x := n) (by omega) (by omega)]
    refine Ev.bind (digits_ok (by omega) (by omega)) ?_
    exact Ev.now _
theorem ref_tell_ok {n : Int} (h : -9223372036854775808 ≤ n ∧ n < 9223372036854775808) : Ev (fun k => regimenref01_Tell.f k n) (tellv n) := by
  unfold regimenref01_Tell.f tellv
  by_cases c : n < 0
  · rw [if_pos c]
    obtain ⟨u, rfl⟩ : ∃ u, n = -u := ⟨-n, by omega⟩
    have tm : Int.tmod (-u) 10 = -(u % 10) := by rw [Int.neg_tmod, Int.tmod_eq_emod_of_nonneg (by omega)]
    have td : Int.tdiv (-u) 10 = -(u / 10) := by rw [Int.neg_tdiv, Int.tdiv_eq_ediv_of_nonneg (by omega)]
    rw [tm, td, Int.neg_neg, Int.neg_neg, w64_id (x := u % 10) (by omega) (by omega), w64_id (x := u % 10 + 1) (by omega) (by omega), w64_id (x := -(u / 10)) (by omega) (by omega), Int.neg_neg, w64_id (x := u / 10) (by omega) (by omega)]
    have hn := digit_str (u % 10).toNat (by omega)
    have e : (⟨#[48, 49, 50, 51, 52, 53, 54, 55, 56, 57]⟩ : ByteArray).extract (u % 10).toNat (u % 10 + 1).toNat = strOfNums [48 + u % 10] := by
      rw [show (u % 10 + 1).toNat = (u % 10).toNat + 1 from by omega, hn, show ((u % 10).toNat : Int) = u % 10 from by omega]
    rw [e]
    refine evn (by omega) ?_
    refine evp (by omega) ?_
    refine evp (by omega) ?_
    refine evp (by omega) ?_
    by_cases d : u / 10 = 0
    · refine evp (by omega) ?_
      refine evp (by rw [strOfNums_size]; simp) ?_
      rw [show (⟨#[45]⟩ : ByteArray) = strOfNums [45] from by decide +kernel, str_app, show dig 20 u [] = [48 + u % 10] from if_pos d]
      exact Ev.now _
    · refine evn (by omega) ?_
      refine Ev.bind (text_ok (u := u / 10) (by omega) (by omega)) ?_
      have p19 : (9223372036854775808 : Int) < 10 ^ 19 := by decide
      obtain ⟨m, em, l0, l1, hd, hv, hz⟩ := dig_props 18 (u / 10) [48 + u % 10] (by omega) (by omega)
      have dv := dig_val (m.length - 1) m [] 20 (by omega) hd (by
        by_cases q : m.length = 1
        · exact .inl q
        · exact .inr (hz (by omega))) (by omega)
      rw [hv, List.append_nil] at dv
      rw [dv]
      refine evp (by rw [strOfNums_size, strOfNums_size]; simp; omega) ?_
      rw [str_app]
      refine evp (by rw [strOfNums_size]; simp; omega) ?_
      rw [show (⟨#[45]⟩ : ByteArray) = strOfNums [45] from by decide +kernel, str_app, show dig 20 u [] = dig 19 (u / 10) [48 + u % 10] from if_neg d, em]
      exact Ev.now _
  · rw [if_neg c]
    refine evp (by omega) ?_
    refine Ev.bind (text_ok (by omega) h.2) ?_
    exact Ev.now _
end Go.Proofs.YtcgdhpnobgimfaaGreatDoor.Num
end
section
namespace Go.Proofs.YtcgdhpnobgimfaaGreatDoor.Num
set_option linter.unusedVariables false
set_option linter.unusedSimpArgs false
open Go.RowKit Go.Proofs.YtcgdhpnobgimfaaGreatDoor.PR Go.Proofs.YtcgdhpnobgimfaaGreatDoorW.PrintWords

theorem mul_bd {x y M N : Int} (hx0 : 0 ≤ x) (hx : x ≤ M) (hy0 : 0 ≤ y) (hy : y ≤ N) : 0 ≤ x * y ∧ x * y ≤ M * N :=
  ⟨Int.mul_nonneg hx0 hy0, Int.mul_le_mul hx hy hy0 (by omega)⟩

theorem digit_at (l : List Int) (i : Nat) : regimenref02_digit.f l (i : Int) = some (l.getD i 0) := by
  unfold regimenref02_digit.f
  by_cases h : (i : Int) < (l.length : Int)
  · rw [if_pos h, if_pos (by omega), rd_nat]
  · rw [if_neg h, List.getD_eq_getElem?_getD, List.getElem?_eq_none (by omega)]
    rfl
theorem getD_out (l : List Int) (i : Nat) (h : l.length ≤ i) : l.getD i 0 = 0 := by
  rw [List.getD_eq_getElem?_getD, List.getElem?_eq_none h]
  rfl

theorem word_ok (u : Int) (h0 : 0 ≤ u) (h1 : u < 18446744073709551616) : ∃ l, regimenref02_Word.f u = some l ∧ dok l ∧ dv l = u ∧ l.length = 4 := by
  have e1 := tmod_pos (b := 65536) h0
  have e2 := tdiv_pos (b := 65536) h0
  have e3 := tdiv_pos (b := 4294967296) h0
  have e4 := tdiv_pos (b := 281474976710656) h0
  have w2 : IntKind.u64.wrap (u / 65536) = u / 65536 := u64_id (by omega) (by omega)
  have w3 : IntKind.u64.wrap (u / 4294967296) = u / 4294967296 := u64_id (by omega) (by omega)
  have w4 : IntKind.u64.wrap (u / 281474976710656) = u / 281474976710656 := u64_id (by omega) (by omega)
  refine ⟨[u % 65536, u / 65536 % 65536, u / 4294967296 % 65536, u / 281474976710656], ?_, ?_, ?_, rfl⟩
  · unfold regimenref02_Word.f
    rw [e1, e2, e3, e4, w2, w3, w4, tmod_pos (by omega), tmod_pos (by omega)]
  · exact dok_cons (by omega) (dok_cons (by omega) (dok_cons (by omega) (dok_cons (by omega) dok_nil)))
  · simp only [dv]
    omega

/-! ### the sum -/
theorem plus_step {c d p q P x y n m r : Int} (h : c + P * d = p + q) (hn : n = x + y + d) (hm : n = 65536 * r + m) : c + P * m + P * 65536 * r = p + P * x + (q + P * y) := by
  have e : P * n = P * (65536 * r) + P * m := by rw [hm, Int.mul_add]
  have e2 : P * n = P * x + P * y + P * d := by rw [hn, Int.mul_add, Int.mul_add]
  rw [Int.mul_assoc]
  omega

theorem plus_loop (a b : List Int) (ha : dok a) (hb : dok b) (M : Nat) (hla : a.length ≤ M) (hlb : b.length ≤ M) (hM : M < 4294967296) (d : Nat) :
    ∀ (i : Nat) (out : List Int) (carry : Int), M + 2 - i = d → out.length = i → i ≤ M + 1 → dok out → 0 ≤ carry → carry ≤ 1 → (M < i → carry = 0) → (M < i → 65536 ^ M ≤ dv out) →
      dv out + 65536 ^ i * carry = dv (a.take i) + dv (b.take i) →
      ∃ r, Ev (fun k => regimenref02_Plus.l0 k a b out carry (i : Int)) r ∧ dok r ∧ dv r = dv a + dv b ∧ r.length ≤ M + 1 ∧ (M < r.length → 65536 ^ M ≤ dv r) := by
  induction d with
  | zero => intro i out carry hd hlen hi; omega
  | succ d ih =>
  intro i out carry hd hlen hi hout hc0 hc1 hM2 hM3 hv
  by_cases hgo : i < a.length ∨ i < b.length ∨ carry > 0
  · have h1 := dok_getD ha i
    have h2 := dok_getD hb i
    have hz1 : M < i + 1 → a.getD i 0 = 0 := fun h => getD_out a i (by omega)
    have hz2 : M < i + 1 → b.getD i 0 = 0 := fun h => getD_out b i (by omega)
    generalize hA : a.getD i 0 = A at h1 hz1
    generalize hB : b.getD i 0 = B at h2 hz2
    obtain ⟨r, hr, p⟩ := ih (i + 1) (out ++ [(A + B + carry) % 65536]) ((A + B + carry) / 65536) (by omega) (by simp [hlen]) (by omega) (dok_snoc hout (by omega)) (by omega) (by omega)
      (fun h => by have := hz1 h; have := hz2 h; omega) (fun h => by
        have e1 := hz1 h
        have e2 := hz2 h
        have e3 := hM2
        have hi : i = M := by omega
        have e4 : carry = 1 := by omega
        rw [dv_snoc, hlen, hi, e1, e2, e4]
        have := dv_nonneg hout
        have e5 : ((0 : Int) + 0 + 1) % 65536 = 1 := by decide
        rw [e5, Int.mul_one]
        omega) (by
        rw [dv_snoc, hlen, dv_take_succ, dv_take_succ, Int.pow_succ, hA, hB]
        exact plus_step hv rfl (by omega))
    refine ⟨r, ?_, p⟩
    refine Ev.step (f := fun k => regimenref02_Plus.j1 k a b out carry (i : Int) true) ?_ ?_
    · intro k
      simp only [regimenref02_Plus.l0]
      by_cases c1 : (i : Int) < (a.length : Int)
      · rw [if_pos c1]
      · rw [if_neg c1]
        by_cases c2 : (i : Int) < (b.length : Int)
        · rw [if_pos c2]
        · rw [if_neg c2, decide_eq_true (by omega)]
    · refine Ev.step (f := fun k => regimenref02_Plus.l0 k a b (out ++ [(A + B + carry) % 65536]) ((A + B + carry) / 65536) ((i + 1 : Nat) : Int)) ?_ hr
      intro k
      simp only [regimenref02_Plus.j1, if_true, digit_at, Option.bind_some, hA, hB]
      rw [if_pos (by omega), u64_id (x := A + B) (by omega) (by omega), u64_id (x := A + B + carry) (by omega) (by omega), tmod_pos (by omega), tdiv_pos (by omega), u64_id (x := (A + B + carry) / 65536) (by omega) (by omega), w64_succ (by omega)]
  · refine ⟨out, ?_, hout, ?_, by omega, by rw [hlen]; exact hM3⟩
    · refine Ev.step (f := fun k => regimenref02_Plus.j1 k a b out carry (i : Int) false) ?_ ?_
      · intro k
        simp only [regimenref02_Plus.l0]
        rw [if_neg (by omega), if_neg (by omega), decide_eq_false (by omega)]
      · exact Ev.step (f := fun _ => some out) (fun k => by simp [regimenref02_Plus.j1]) (Ev.now _)
    · have : carry = 0 := by omega
      rw [this, dv_take_all a i (by omega), dv_take_all b i (by omega)] at hv
      omega

theorem plus_t (a b : List Int) (ha : dok a) (hb : dok b) (M : Nat) (hla : a.length ≤ M) (hlb : b.length ≤ M) (hM : M < 4294967296) :
    ∃ r, Ev (fun k => regimenref02_Plus.f k a b) r ∧ dok r ∧ dv r = dv a + dv b ∧ r.length ≤ M + 1 ∧ (M < r.length → 65536 ^ M ≤ dv r) := by
  have := plus_loop a b ha hb M hla hlb hM (M + 2) 0 [] 0 (by omega) rfl (by omega) dok_nil (by omega) (by omega) (by omega) (by omega) (by simp [dv])
  exact this
theorem plus_ok (a b : List Int) (ha : dok a) (hb : dok b) (M : Nat) (hla : a.length ≤ M) (hlb : b.length ≤ M) (hM : M < 4294967296) :
    ∃ r, Ev (fun k => regimenref02_Plus.f k a b) r ∧ dok r ∧ dv r = dv a + dv b ∧ r.length ≤ M + 1 := by
  obtain ⟨r, h1, h2, h3, h4, _⟩ := plus_t a b ha hb M hla hlb hM
  exact ⟨r, h1, h2, h3, h4⟩
/-- A number of one digit, or whose highest digit is not 0. -/
def tg (l : List Int) : Prop := l.length ≤ 1 ∨ 65536 ^ (l.length - 1) ≤ dv l
theorem p16_mono {m n : Nat} (h : m ≤ n) : (65536 : Int) ^ m ≤ 65536 ^ n := by
  obtain ⟨d, rfl⟩ := Nat.exists_eq_add_of_le h
  rw [Int.pow_add]
  have h1 := pow_pos' m
  have h2 := pow_pos' d
  have := Int.mul_le_mul_of_nonneg_left (show (1 : Int) ≤ 65536 ^ d from h2) (Int.le_of_lt h1)
  omega
theorem tg_plus (a b : List Int) (ha : dok a) (hb : dok b) (ta : tg a) (tb : tg b) (hla : a.length < 4000000000) (hlb : b.length < 4000000000) (N : Nat) (hN1 : a.length ≤ N) (hN2 : b.length ≤ N) :
    ∃ r, Ev (fun k => regimenref02_Plus.f k a b) r ∧ dok r ∧ dv r = dv a + dv b ∧ r.length ≤ N + 1 ∧ tg r := by
  obtain ⟨r, h1, h2, h3, h4, h5⟩ := plus_t a b ha hb (max a.length b.length) (by omega) (by omega) (by omega)
  refine ⟨r, h1, h2, h3, by omega, ?_⟩
  have na := dv_nonneg ha
  have nb := dv_nonneg hb
  by_cases c : max a.length b.length < r.length
  · right
    have := h5 c
    rwa [show r.length - 1 = max a.length b.length from by omega]
  · by_cases c1 : r.length ≤ 1
    · exact .inl c1
    · right
      by_cases c2 : a.length ≤ b.length
      · rcases tb with t | t
        · omega
        · have := p16_mono (m := r.length - 1) (n := b.length - 1) (by omega)
          omega
      · rcases ta with t | t
        · omega
        · have := p16_mono (m := r.length - 1) (n := a.length - 1) (by omega)
          omega
theorem tg_len {l : List Int} (h : tg l) {n : Nat} (hv : dv l < 65536 ^ n) : l.length ≤ n + 1 := by
  rcases h with h | h
  · omega
  · rcases Nat.lt_or_ge n (l.length - 1) with c | c
    · have := p16_mono (m := n) (n := l.length - 1) (by omega)
      omega
    · omega

/-! ### the difference -/
theorem less_step {c d p q P x y n m r : Int} (h : c - P * d = p - q) (hn : n = 65536 + x - y - d) (hm : n = 65536 * r + m) : c + P * m - P * 65536 * (1 - r) = p + P * x - (q + P * y) := by
  have e : P * n = P * (65536 * r) + P * m := by rw [hm, Int.mul_add]
  have e2 : P * n = P * 65536 + P * x - P * y - P * d := by rw [hn, Int.mul_sub, Int.mul_sub, Int.mul_add]
  rw [Int.mul_sub, Int.mul_assoc, Int.mul_assoc]
  omega

theorem less_loop (a b : List Int) (ha : dok a) (hb : dok b) (hla : a.length < 4294967296) (d : Nat) :
    ∀ (i : Nat) (out : List Int) (bor : Int), a.length - i = d → out.length = i → i ≤ a.length → dok out → 0 ≤ bor → bor ≤ 1 →
      dv out - 65536 ^ i * bor = dv (a.take i) - dv (b.take i) →
      ∃ r c, Ev (fun k => regimenref02_Less.l0 k a b out bor (i : Int)) r ∧ dok r ∧ 0 ≤ c ∧ c ≤ 1 ∧ dv r - 65536 ^ a.length * c = dv a - dv (b.take a.length) ∧ r.length = a.length := by
  induction d with
  | zero =>
    intro i out bor hd hlen hi hout h0 h1 hv
    have : i = a.length := by omega
    subst this
    refine ⟨out, bor, ?_, hout, h0, h1, ?_, hlen⟩
    · refine Ev.step (f := fun _ => some out) (fun k => ?_) (Ev.now _)
      simp only [regimenref02_Less.l0]
      rw [if_neg (by omega)]
    · rw [dv_take_all a a.length (Nat.le_refl _)] at hv
      exact hv
  | succ d ih =>
    intro i out bor hd hlen hi hout h0 h1 hv
    have h2 := dok_getD ha i
    have h3 := dok_getD hb i
    generalize hA : a.getD i 0 = A at h2
    generalize hB : b.getD i 0 = B at h3
    obtain ⟨r, c, hr, p⟩ := ih (i + 1) (out ++ [(65536 + A - B - bor) % 65536]) (1 - (65536 + A - B - bor) / 65536) (by omega) (by simp [hlen]) (by omega) (dok_snoc hout (by omega)) (by omega) (by omega) (by
        rw [dv_snoc, hlen, dv_take_succ, dv_take_succ, Int.pow_succ, hA, hB]
        exact less_step hv rfl (by omega))
    refine ⟨r, c, ?_, p⟩
    refine Ev.step (f := fun k => regimenref02_Less.l0 k a b (out ++ [(65536 + A - B - bor) % 65536]) (1 - (65536 + A - B - bor) / 65536) ((i + 1 : Nat) : Int)) ?_ hr
    intro k
    simp only [regimenref02_Less.l0]
    rw [if_pos (by omega), if_pos (by omega), digit_at]
    simp only [Option.bind_some, rd_nat, hA, hB]
    rw [if_pos (by omega), u64_id (x := 65536 + A) (by omega) (by omega), u64_id (x := 65536 + A - B) (by omega) (by omega), u64_id (x := 65536 + A - B - bor) (by omega) (by omega), tmod_pos (by omega), tdiv_pos (by omega), u64_id (x := (65536 + A - B - bor) / 65536) (by omega) (by omega), u64_id (x := 1 - (65536 + A - B - bor) / 65536) (by omega) (by omega), w64_succ (by omega)]

theorem less_ok (a b : List Int) (ha : dok a) (hb : dok b) (hla : a.length < 4294967296) (hle : dv b ≤ dv a) :
    ∃ r, Ev (fun k => regimenref02_Less.f k a b) r ∧ dok r ∧ dv r = dv a - dv b ∧ r.length = a.length := by
  obtain ⟨r, c, hr, dr, c0, c1, hv, hl⟩ := less_loop a b ha hb hla a.length 0 [] 0 (by omega) rfl (by omega) dok_nil (by omega) (by omega) (by simp [dv])
  refine ⟨r, hr, dr, ?_, hl⟩
  have hb2 : dv (b.take a.length) = dv b := by
    by_cases hl2 : b.length ≤ a.length
    · exact dv_take_all b _ hl2
    · have h1 := dv_split b a.length (by omega)
      have h2 := dv_lt ha
      have h3 := dv_take_lt hb a.length
      have h4 : 0 ≤ dv (b.drop a.length) := dv_nonneg (fun y hy => hb y (List.mem_of_mem_drop hy))
      have h5 : dv (b.drop a.length) = 0 := by
        by_cases h6 : 1 ≤ dv (b.drop a.length)
        · have := Int.mul_le_mul_of_nonneg_left h6 (Int.le_of_lt (pow_pos' a.length))
          omega
        · omega
      rw [h5] at h1
      omega
  have h7 := dv_lt dr
  have h8 := dv_lt ha
  have h9 := dv_nonneg hb
  have hc : c = 0 := by
    by_cases h : c = 1
    · rw [hl] at h7
      rw [h, hb2] at hv
      omega
    · omega
  rw [hc, hb2] at hv
  omega

/-! ### how numbers compare -/
theorem cmp_loop (a b : List Int) (ha : dok a) (hb : dok b) (d : Nat) : ∀ (i : Int), i + 1 = d → i < 4294967296 → dv a - dv b = dv (a.take d) - dv (b.take d) →
    Ev (fun k => regimenref02_Cmp.l0 k a b i) (if dv a < dv b then -1 else if dv a > dv b then 1 else 0) := by
  induction d with
  | zero =>
    intro i hi _ hv
    have : dv a = dv b := by simp [dv] at hv; omega
    rw [if_neg (by omega), if_neg (by omega)]
    refine Ev.step (f := fun _ => some 0) (fun k => ?_) (Ev.now _)
    simp only [regimenref02_Cmp.l0]
    rw [if_neg (by omega)]
  | succ d ih =>
    intro i hi hi2 hv
    have hid : i = (d : Int) := by omega
    subst hid
    have h1 := dok_getD ha d
    have h2 := dok_getD hb d
    have h3 := dv_take_lt ha d
    have h4 := dv_take_lt hb d
    rw [dv_take_succ, dv_take_succ] at hv
    generalize hA : a.getD d 0 = A at h1 hv
    generalize hB : b.getD d 0 = B at h2 hv
    by_cases c1 : A < B
    · have : 65536 ^ d * (A + 1) ≤ 65536 ^ d * B := Int.mul_le_mul_of_nonneg_left (by omega) (Int.le_of_lt (pow_pos' d))
      rw [Int.mul_add] at this
      rw [if_pos (by omega)]
      refine Ev.step (f := fun _ => some (-1)) (fun k => ?_) (Ev.now _)
      simp only [regimenref02_Cmp.l0]
      rw [if_pos (by omega), digit_at, digit_at]
      simp only [Option.bind_some, hA, hB]
      rw [if_pos c1]
    · by_cases c2 : A > B
      · have : 65536 ^ d * (B + 1) ≤ 65536 ^ d * A := Int.mul_le_mul_of_nonneg_left (by omega) (Int.le_of_lt (pow_pos' d))
        rw [Int.mul_add] at this
        rw [if_neg (by omega), if_pos (by omega)]
        refine Ev.step (f := fun _ => some 1) (fun k => ?_) (Ev.now _)
        simp only [regimenref02_Cmp.l0]
        rw [if_pos (by omega), digit_at, digit_at]
        simp only [Option.bind_some, hA, hB]
        rw [if_neg c1, if_pos c2]
      · have hAB : A = B := by omega
        subst hAB
        refine Ev.step (f := fun k => regimenref02_Cmp.l0 k a b ((d : Int) - 1)) (fun k => ?_) (ih ((d : Int) - 1) (by omega) (by omega) (by omega))
        simp only [regimenref02_Cmp.l0]
        rw [if_pos (by omega), digit_at, digit_at]
        simp only [Option.bind_some, hA, hB]
        rw [if_neg c1, if_neg c2, w64_id (by omega) (by omega)]

theorem cmp_ok (a b : List Int) (ha : dok a) (hb : dok b) (hla : a.length < 4294967296) (hlb : b.length < 4294967296) :
    Ev (fun k => regimenref02_Cmp.f k a b) (if dv a < dv b then -1 else if dv a > dv b then 1 else 0) := by
  have key : ∀ n : Nat, a.length ≤ n → b.length ≤ n → n < 4294967296 → Ev (fun k => regimenref02_Cmp.j0 k a b (n : Int)) (if dv a < dv b then -1 else if dv a > dv b then 1 else 0) := by
    intro n h1 h2 h3
    refine Ev.step (f := fun k => regimenref02_Cmp.l0 k a b ((n : Int) - 1)) (fun k => ?_) (cmp_loop a b ha hb n _ (by omega) (by omega) ?_)
    · simp only [regimenref02_Cmp.j0]
      rw [w64_id (by omega) (by omega)]
    · rw [dv_take_all a n h1, dv_take_all b n h2]
  by_cases h : (b.length : Int) > (a.length : Int)
  · exact Ev.congr (fun k => by unfold regimenref02_Cmp.f; rw [if_pos h]) (key b.length (by omega) (Nat.le_refl _) hlb)
  · exact Ev.congr (fun k => by unfold regimenref02_Cmp.f; rw [if_neg h]) (key a.length (Nat.le_refl _) (by omega) hla)

/-! ### the product -/
theorem times_step {P Q X A B V c o n m r : Int} (h : X + c * (P * Q) = V + P * A * B) (bk : Int) (hn : n = o + A * bk + c) (hm : n = 65536 * r + m) :
    X + P * Q * (m - o) + r * (P * (Q * 65536)) = V + P * A * (B + Q * bk) := by
  have e1 : P * Q * n = P * Q * (65536 * r) + P * Q * m := by rw [hm, Int.mul_add]
  have e2 : P * Q * n = P * Q * o + P * Q * (A * bk) + P * Q * c := by rw [hn, Int.mul_add, Int.mul_add]
  have e3 : P * A * (Q * bk) = P * Q * (A * bk) := by rw [Int.mul_assoc, Int.mul_assoc, Int.mul_left_comm A Q bk]
  have e4 : r * (P * (Q * 65536)) = P * Q * (65536 * r) := by rw [Int.mul_comm r, Int.mul_assoc, Int.mul_assoc, Int.mul_assoc]
  rw [Int.mul_sub, Int.mul_add, e3, e4]
  rw [Int.mul_comm c] at h
  omega

theorem times_in (a b : List Int) (ha : dok a) (hb : dok b) (hla : a.length < 4294967296) (hlb : b.length < 4294967296) (i : Nat) (hi : i < a.length) (Q : List Int → Prop)
    (H : ∀ out : List Int, dok out → out.length = a.length + b.length → dv out = dv (a.take (i + 1)) * dv b → (∀ j, i + 1 + b.length ≤ j → out.getD j 0 = 0) → ∃ r, Ev (fun k => regimenref02_Times.l0 k a b out ((i + 1 : Nat) : Int)) r ∧ Q r) (d : Nat) :
    ∀ (j : Nat) (out : List Int) (c : Int), b.length - j = d → j ≤ b.length → dok out → out.length = a.length + b.length → 0 ≤ c → c < 65536 → (∀ q, i + b.length ≤ q → out.getD q 0 = 0) →
      dv out + c * 65536 ^ (i + j) = dv (a.take i) * dv b + 65536 ^ i * a.getD i 0 * dv (b.take j) →
      ∃ r, Ev (fun k => regimenref02_Times.l1 k a b out (i : Int) c (j : Int)) r ∧ Q r := by
  have h1 := dok_getD ha i
  generalize hA : a.getD i 0 = A at h1
  induction d with
  | zero =>
    intro j out c hd hj hout hlen hc0 hc1 hz hv
    obtain rfl : j = b.length := by omega
    have hzz := hz (i + b.length) (Nat.le_refl _)
    obtain ⟨r, hr, hq⟩ := H (out.set (i + b.length) c) (dok_set hout _ ⟨hc0, hc1⟩) (by rw [List.length_set]; exact hlen) (by
        rw [dv_set _ _ _ (by omega), hzz, dv_take_succ, hA, Int.sub_zero, Int.mul_comm _ c, hv, dv_take_all b _ (Nat.le_refl _), Int.add_mul]) (by
        intro q hq
        rw [List.getD_eq_getElem?_getD, List.getElem?_set_ne (by omega), ← List.getD_eq_getElem?_getD]
        exact hz q (by omega))
    refine ⟨r, ?_, hq⟩
    refine Ev.step (f := fun k => regimenref02_Times.l0 k a b (out.set (i + b.length) c) ((i + 1 : Nat) : Int)) ?_ hr
    intro k
    simp only [regimenref02_Times.l1]
    rw [if_neg (by omega), w64_add (by omega) (by omega), if_pos (by omega), if_pos (by omega), w64_succ (by omega), rd_nat, hzz, Int.zero_add, u64_id hc0 (by omega), Int.toNat_natCast]
  | succ d ih =>
    intro j out c hd hj hout hlen hc0 hc1 hz hv
    have h2 := dok_getD hb j
    have h3 := dok_getD hout (i + j)
    generalize hB : b.getD j 0 = B at h2
    generalize hO : out.getD (i + j) 0 = O at h3
    have hm := mul_bd (M := 65535) (N := 65535) h1.1 (by omega) h2.1 (by omega)
    obtain ⟨r, hr, hq⟩ := ih (j + 1) (out.set (i + j) ((O + A * B + c) % 65536)) ((O + A * B + c) / 65536) (by omega) (by omega) (dok_set hout _ (by omega)) (by rw [List.length_set]; exact hlen) (by omega) (by omega) (by
        intro q hq
        rw [List.getD_eq_getElem?_getD, List.getElem?_set_ne (by omega), ← List.getD_eq_getElem?_getD]
        exact hz q hq) (by
        rw [dv_set _ _ _ (by omega), hO, dv_take_succ, hB, Int.pow_add, show i + (j + 1) = i + j + 1 from rfl, Int.pow_succ, Int.pow_add, Int.mul_assoc (65536 ^ i) (65536 ^ j) 65536]
        rw [Int.pow_add] at hv
        exact times_step hv B rfl (by omega))
    refine ⟨r, ?_, hq⟩
    refine Ev.step (f := fun k => regimenref02_Times.l1 k a b (out.set (i + j) ((O + A * B + c) % 65536)) (i : Int) ((O + A * B + c) / 65536) ((j + 1 : Nat) : Int)) ?_ hr
    intro k
    simp only [regimenref02_Times.l1]
    rw [if_pos (by omega), w64_add (by omega) (by omega), if_pos (by omega), if_pos (by omega), if_pos (by omega), if_pos (by omega), if_pos (by omega), rd_nat, rd_nat, rd_nat, hA, hB, hO, u64_id (x := A * B) (by omega) (by omega), u64_id (x := O + A * B) (by omega) (by omega), u64_id (x := O + A * B + c) (by omega) (by omega), tmod_pos (by omega), tdiv_pos (by omega), u64_id (x := (O + A * B + c) / 65536) (by omega) (by omega), w64_succ (by omega), Int.toNat_natCast]

theorem times_loop (a b : List Int) (ha : dok a) (hb : dok b) (hla : a.length < 4294967296) (hlb : b.length < 4294967296) (d : Nat) :
    ∀ (i : Nat) (out : List Int), a.length - i = d → i ≤ a.length → dok out → out.length = a.length + b.length → dv out = dv (a.take i) * dv b → (∀ j, i + b.length ≤ j → out.getD j 0 = 0) →
      ∃ r, Ev (fun k => regimenref02_Times.l0 k a b out (i : Int)) r ∧ dok r ∧ dv r = dv a * dv b ∧ r.length = a.length + b.length := by
  induction d with
  | zero =>
    intro i out hd hi hout hlen hv hz
    refine ⟨out, ?_, hout, ?_, hlen⟩
    · refine Ev.step (f := fun _ => some out) (fun k => ?_) (Ev.now _)
      simp only [regimenref02_Times.l0]
      rw [if_neg (by omega)]
    · rw [hv, dv_take_all a i (by omega)]
  | succ d ih =>
    intro i out hd hi hout hlen hv hz
    obtain ⟨r, hr, hq⟩ := times_in a b ha hb hla hlb i (by omega) (fun r => dok r ∧ dv r = dv a * dv b ∧ r.length = a.length + b.length)
      (fun out' g1 g2 g3 g4 => ih (i + 1) out' (by omega) (by omega) g1 g2 g3 g4) b.length 0 out 0 (by omega) (by omega) hout hlen (by omega) (by omega) hz (by simp [dv, hv])
    refine ⟨r, ?_, hq⟩
    refine Ev.step (f := fun k => regimenref02_Times.l1 k a b out (i : Int) 0 0) (fun k => ?_) hr
    simp only [regimenref02_Times.l0]
    rw [if_pos (by omega)]

theorem times_ok (a b : List Int) (ha : dok a) (hb : dok b) (hla : a.length < 4294967296) (hlb : b.length < 4294967296) :
    ∃ r, Ev (fun k => regimenref02_Times.f k a b) r ∧ dok r ∧ dv r = dv a * dv b ∧ r.length = a.length + b.length := by
  obtain ⟨r, hr, h⟩ := times_loop a b ha hb hla hlb a.length 0 (List.replicate (a.length + b.length) 0) (by omega) (by omega) (dok_rep _) (by simp) (by simp [dv_rep, dv]) (fun j _ => by
    rw [List.getD_eq_getElem?_getD, List.getElem?_replicate]
    split <;> rfl)
  refine ⟨r, ?_, h⟩
  refine Ev.congr (fun k => ?_) hr
  unfold regimenref02_Times.f
  rw [w64_add (by omega) (by omega), if_pos (by omega), Int.toNat_natCast, if_pos (by omega)]
  rfl

/-! ### powers of two -/
theorem twos_loop (n : Int) (hn : n ≤ 1048576) (d : Nat) : ∀ (i : Nat) (out : List Int), (n - i).toNat = d → (i = 0 ∨ (i : Int) ≤ n) → dok out → dv out = 2 ^ i → out.length ≤ i + 1 →
    ∃ r, Ev (fun k => regimenref02_Twos.l0 k n out (i : Int)) r ∧ dok r ∧ dv r = 2 ^ n.toNat ∧ r.length ≤ n.toNat + 1 := by
  induction d with
  | zero =>
    intro i out hd hi hout hv hl
    have e : i = n.toNat := by omega
    refine ⟨out, ?_, hout, by rw [hv, e], by omega⟩
    refine Ev.step (f := fun _ => some out) (fun k => ?_) (Ev.now _)
    simp only [regimenref02_Twos.l0]
    rw [if_neg (by omega)]
  | succ d ih =>
    intro i out hd hi hout hv hl
    obtain ⟨s, hs, ds, vs, ls⟩ := plus_ok out out hout hout (i + 1) hl hl (by omega)
    obtain ⟨r, hr, p⟩ := ih (i + 1) s (by omega) (by omega) ds (by rw [vs, hv, Int.pow_succ]; omega) (by omega)
    refine ⟨r, ?_, p⟩
    refine Ev.step (f := fun k => (regimenref02_Plus.f k out out).bind fun t => regimenref02_Twos.l0 k n t ((i + 1 : Nat) : Int)) (fun k => ?_) (Ev.bind hs hr)
    simp only [regimenref02_Twos.l0]
    rw [if_pos (by omega), w64_succ (by omega)]
theorem twos_ok (n : Int) (hn : n ≤ 1048576) : ∃ r, Ev (fun k => regimenref02_Twos.f k n) r ∧ dok r ∧ dv r = 2 ^ n.toNat ∧ r.length ≤ n.toNat + 1 := by
  obtain ⟨r, hr, h⟩ := twos_loop n hn (n - (0 : Nat)).toNat 0 [1] rfl (.inl rfl) (dok_cons (by omega) dok_nil) (by simp [dv]) (by simp)
  exact ⟨r, hr, h⟩

/-! ### the lowest 128 bits -/
theorem mod_ok (l : List Int) (hl : dok l) : Ev (fun k => regimenref02_Mod.f k l) (dv l / 18446744073709551616 % 18446744073709551616, dv l % 18446744073709551616) := by
  have d0 := dok_getD hl 0
  have d1 := dok_getD hl 1
  have d2 := dok_getD hl 2
  have d3 := dok_getD hl 3
  have d4 := dok_getD hl 4
  have d5 := dok_getD hl 5
  have d6 := dok_getD hl 6
  have d7 := dok_getD hl 7
  have hq : ∃ q, dv l = dv (l.take 8) + 340282366920938463463374607431768211456 * q := by
    by_cases h : 8 ≤ l.length
    · exact ⟨_, dv_split l 8 h⟩
    · exact ⟨0, by rw [dv_take_all l 8 (by omega)]; simp⟩
  obtain ⟨q, hq⟩ := hq
  have hv : dv (l.take 8) = _ := dv_take_succ l 7
  rw [dv_take_succ l 6, dv_take_succ l 5, dv_take_succ l 4, dv_take_succ l 3, dv_take_succ l 2, dv_take_succ l 1, dv_take_succ l 0] at hv
  simp only [List.take_zero, dv, Int.reducePow] at hv
  have e : ∀ i : Nat, regimenref02_digit.f l (i : Int) = some (l.getD i 0) := digit_at l
  have e7 := e 7
  have e6 := e 6
  have e5 := e 5
  have e4 := e 4
  have e3 := e 3
  have e2 := e 2
  have e1 := e 1
  have e0 := e 0
  generalize l.getD 0 0 = x0 at *
  generalize l.getD 1 0 = x1 at *
  generalize l.getD 2 0 = x2 at *
  generalize l.getD 3 0 = x3 at *
  generalize l.getD 4 0 = x4 at *
  generalize l.getD 5 0 = x5 at *
  generalize l.getD 6 0 = x6 at *
  generalize l.getD 7 0 = x7 at *
  have hstep : ∀ (i : Int) (P Q x : Int), i ≥ 4 → i < 100 → regimenref02_digit.f l i = some x → 0 ≤ P → P < 281474976710656 → 0 ≤ x → x < 65536 → ∀ r, Ev (fun k => regimenref02_Mod.l0 k l (i - 1) (P * 65536 + x) Q) r → Ev (fun k => regimenref02_Mod.l0 k l i P Q) r := by
    intro i P Q x h1 h2 hx p0 p1 x0 x1 r h
    refine Ev.step (f := fun k => regimenref02_Mod.l0 k l (i - 1) (P * 65536 + x) Q) (fun k => ?_) h
    simp only [regimenref02_Mod.l0]
    rw [if_pos (by omega), if_pos h1, hx]
    simp only [Option.bind_some]
    rw [w64_id (by omega) (by omega), u64_id (x := P * 65536) (by omega) (by omega), u64_id (by omega) (by omega)]
  have lstep : ∀ (i : Int) (P Q x : Int), i ≥ 0 → i < 4 → regimenref02_digit.f l i = some x → 0 ≤ Q → Q < 281474976710656 → 0 ≤ x → x < 65536 → ∀ r, Ev (fun k => regimenref02_Mod.l0 k l (i - 1) P (Q * 65536 + x)) r → Ev (fun k => regimenref02_Mod.l0 k l i P Q) r := by
    intro i P Q x h1 h2 hx p0 p1 x0 x1 r h
    refine Ev.step (f := fun k => regimenref02_Mod.l0 k l (i - 1) P (Q * 65536 + x)) (fun k => ?_) h
    simp only [regimenref02_Mod.l0]
    rw [if_pos h1, if_neg (by omega), hx]
    simp only [Option.bind_some]
    rw [w64_id (by omega) (by omega), u64_id (x := Q * 65536) (by omega) (by omega), u64_id (by omega) (by omega)]
  unfold regimenref02_Mod.f
  refine hstep 7 _ _ x7 (by omega) (by omega) e7 (by omega) (by omega) (by omega) (by omega) _ ?_
  refine hstep 6 _ _ x6 (by omega) (by omega) e6 (by omega) (by omega) (by omega) (by omega) _ ?_
  refine hstep 5 _ _ x5 (by omega) (by omega) e5 (by omega) (by omega) (by omega) (by omega) _ ?_
  refine hstep 4 _ _ x4 (by omega) (by omega) e4 (by omega) (by omega) (by omega) (by omega) _ ?_
  refine lstep 3 _ _ x3 (by omega) (by omega) e3 (by omega) (by omega) (by omega) (by omega) _ ?_
  refine lstep 2 _ _ x2 (by omega) (by omega) e2 (by omega) (by omega) (by omega) (by omega) _ ?_
  refine lstep 1 _ _ x1 (by omega) (by omega) e1 (by omega) (by omega) (by omega) (by omega) _ ?_
  refine lstep 0 _ _ x0 (by omega) (by omega) e0 (by omega) (by omega) (by omega) (by omega) _ ?_
  refine Ev.step (f := fun _ => some _) (fun k => ?_) (Ev.now _)
  simp only [regimenref02_Mod.l0]
  rw [if_neg (by omega)]
  congr 1
  rw [Prod.mk.injEq]
  constructor <;> omega
end Go.Proofs.YtcgdhpnobgimfaaGreatDoor.Num
end
section
namespace Go.Proofs.YtcgdhpnobgimfaaGreatDoor.Num
set_option linter.unusedVariables false
set_option linter.unusedSimpArgs false
open Go.RowKit Go.Proofs.YtcgdhpnobgimfaaGreatDoor.PR Go.Proofs.YtcgdhpnobgimfaaGreatDoorW.PrintWords Go.Proofs.YtcgdhpnobgimfaaGreatDoorW.PrintMore

theorem wraps_u64 (n : Int) (h₀ : 0 ≤ n) (h₁ : n < 2 ^ 64) : IntKind.u64.wrap n = n := u64_id h₀ (by simpa using h₁)
theorem u64_lo32 {x : Int} (h0 : 0 ≤ x) (h1 : x < 18446744073709551616) : Go.bits .and .u64 x 4294967295 = x % 4294967296 := by
  have := bits_mask .u64 64 (by decide) wraps_u64 32 (by decide) x h0 (by simpa using h1)
  simpa using this
theorem u64_join (i : Nat) {x y : Int} (h0 : 0 ≤ x) (h : x % 2 ^ i = 0) (h1 : x < 18446744073709551616) (h2 : 0 ≤ y) (h3 : y < 2 ^ i) (h4 : y < 18446744073709551616) : Go.bits .or .u64 x y = x + y :=
  bits_join .u64 64 (by decide) wraps_u64 i x y h0 h (by simpa using h1) h2 h3 (by simpa using h4)

theorem pair_mul_ok {x y : Int} (hx0 : 0 ≤ x) (hx : x < 18446744073709551616) (hy0 : 0 ≤ y) (hy : y < 18446744073709551616) :
    pair_Mul.f x y = some (x * y / 18446744073709551616, x * y % 18446744073709551616) := by
  unfold pair_Mul.f
  rw [u64_lo32 hx0 hx, u64_lo32 hy0 hy]
  have ha : 0 ≤ x / 4294967296 ∧ x / 4294967296 ≤ 4294967295 := by omega
  have hb : 0 ≤ x % 4294967296 ∧ x % 4294967296 ≤ 4294967295 := by omega
  have hc : 0 ≤ y / 4294967296 ∧ y / 4294967296 ≤ 4294967295 := by omega
  have hd : 0 ≤ y % 4294967296 ∧ y % 4294967296 ≤ 4294967295 := by omega
  have e : x * y = (x / 4294967296) * (y / 4294967296) * 18446744073709551616 + ((x / 4294967296) * (y % 4294967296) + (x % 4294967296) * (y / 4294967296)) * 4294967296 + (x % 4294967296) * (y % 4294967296) := by
    have e1 : x = (x / 4294967296) * 4294967296 + x % 4294967296 := by omega
    have e2 : y = (y / 4294967296) * 4294967296 + y % 4294967296 := by omega
    generalize x / 4294967296 = a at *
    generalize x % 4294967296 = b at *
    generalize y / 4294967296 = c at *
    generalize y % 4294967296 = d at *
    rw [e1, e2, Int.mul_add, Int.add_mul, Int.add_mul, Int.add_mul]
    have f1 : a * 4294967296 * (c * 4294967296) = a * c * 18446744073709551616 := by
      rw [Int.mul_assoc a, Int.mul_left_comm 4294967296 c, ← Int.mul_assoc a c]
      simp only [Int.reduceMul]
    have f2 : b * (c * 4294967296) = b * c * 4294967296 := by rw [Int.mul_assoc]
    have f3 : a * 4294967296 * d = a * d * 4294967296 := by rw [Int.mul_assoc a, Int.mul_comm 4294967296 d, ← Int.mul_assoc]
    omega
  have p1 := mul_bd ha.1 ha.2 hc.1 hc.2
  have p2 := mul_bd ha.1 ha.2 hd.1 hd.2
  have p3 := mul_bd hb.1 hb.2 hc.1 hc.2
  have p4 := mul_bd hb.1 hb.2 hd.1 hd.2
  rw [e]
  clear e
  generalize (x / 4294967296) * (y / 4294967296) = P at *
  generalize (x / 4294967296) * (y % 4294967296) = Q at *
  generalize (x % 4294967296) * (y / 4294967296) = R at *
  generalize (x % 4294967296) * (y % 4294967296) = S at *
  clear ha hb hc hd
  rw [u64_id (x := P) (by omega) (by omega), u64_id (x := Q) (by omega) (by omega), u64_id (x := R) (by omega) (by omega), u64_id (x := S) (by omega) (by omega)]
  rw [u64_lo32 (x := Q) (by omega) (by omega), u64_lo32 (x := R) (by omega) (by omega), u64_lo32 (x := S) (by omega) (by omega)]
  rw [u64_id (x := S / 4294967296 + Q % 4294967296) (by omega) (by omega), u64_id (x := S / 4294967296 + Q % 4294967296 + R % 4294967296) (by omega) (by omega)]
  rw [u64_id (x := P + Q / 4294967296) (by omega) (by omega), u64_id (x := P + Q / 4294967296 + R / 4294967296) (by omega) (by omega)]
  rw [u64_mod ((S / 4294967296 + Q % 4294967296 + R % 4294967296) * 4294967296), u64_id (by omega) (by omega)]
  rw [u64_join 32 (by omega) (by omega) (by omega) (by omega) (by omega) (by omega)]
  rw [Option.some.injEq, Prod.mk.injEq]
  constructor <;> omega

end Go.Proofs.YtcgdhpnobgimfaaGreatDoor.Num
end
section
namespace Go.Proofs.YtcgdhpnobgimfaaGreatDoor.Num
set_option linter.unusedVariables false
set_option linter.unusedSimpArgs false
open Go.RowKit Go.Proofs.YtcgdhpnobgimfaaGreatDoor.PR Go.Proofs.YtcgdhpnobgimfaaGreatDoorW.PrintWords Go.Proofs.YtcgdhpnobgimfaaGreatDoorW.PrintMore
attribute [local irreducible] shl shr

/-- How far a shift goes. -/
def held (n : Int) : Nat := min n.toNat 128
theorem held_le (n : Int) : held n ≤ 128 := Nat.min_le_right _ _
theorem pair_held_ok (n : Int) : pair_held.f n = some (held n : Int) := by
  unfold pair_held.f held mn mx
  congr 1
  by_cases h : n < 0
  · rw [if_pos h]; split <;> omega
  · rw [if_neg h]; split <;> omega

theorem p2_pos (k : Nat) : (0 : Int) < 2 ^ k := Int.pow_pos (by decide)
theorem p2_pred {m : Nat} (h : 1 ≤ m) : (2 : Int) ^ m = 2 ^ (m - 1) * 2 := by
  obtain ⟨j, rfl⟩ : ∃ j, m = j + 1 := ⟨m - 1, by omega⟩
  exact Int.pow_succ _ _
theorem p2_split (k : Nat) (h : k ≤ 64) : (2 : Int) ^ k * 2 ^ (64 - k) = 18446744073709551616 := by
  rw [← Int.pow_add, show k + (64 - k) = 64 by omega]
  rfl
theorem shl64 {x : Int} {k : Nat} (h : k ≤ 64) : shl .u64 x (k : Int) = (x * 2 ^ k) % 18446744073709551616 := by
  unfold shl
  rw [u64_mod, Int.toNat_natCast, show IntKind.u64.bits = 64 from rfl, Nat.min_eq_left h]
theorem shr64 {x : Int} {k : Nat} (h : k ≤ 64) : shr .u64 x (k : Int) = x / 2 ^ k := by
  unfold shr
  rw [Int.toNat_natCast, show IntKind.u64.bits = 64 from rfl, Nat.min_eq_left h]

theorem u64_or_comm {x y : Int} (h0 : 0 ≤ x) (h1 : x < 18446744073709551616) (h2 : 0 ≤ y) (h3 : y < 18446744073709551616) : Go.bits .or .u64 x y = Go.bits .or .u64 y x := by
  rw [u64_or x y h0 h1 h2 h3, u64_or y x h2 h3 h0 h1, Nat.or_comm]
/-- A number cut into what lies above k bits, and what is left. -/
theorem cut_ex (a P : Int) (h : 0 < P) : a = P * (a / P) + a % P ∧ 0 ≤ a % P ∧ a % P < P :=
  ⟨(Int.mul_ediv_add_emod a P).symm, Int.emod_nonneg a (by omega), Int.emod_lt_of_pos a h⟩
theorem div_uniq {a P q r : Int} (h : a = P * q + r) (h0 : 0 ≤ r) (h1 : r < P) : a / P = q ∧ a % P = r := by
  have hP : 0 < P := by omega
  subst h
  constructor
  · rw [Int.add_comm, Int.add_mul_ediv_left _ _ (by omega), Int.ediv_eq_zero_of_lt h0 h1]; omega
  · rw [Int.add_comm, Int.add_mul_emod_self_left, Int.emod_eq_of_lt h0 h1]

theorem shr_parts {P Q a0 a1 s t u r : Int} (hPQ : P * Q = 18446744073709551616) (hP : 0 < P) (hQ : 0 < Q) (e0 : a0 = P * s + t) (t0 : 0 ≤ t) (t1 : t < P) (e1 : a1 = P * u + r) (r0 : 0 ≤ r) (r1 : r < P) (u0 : 0 ≤ u) (u1 : u < Q) :
    (a1 + 18446744073709551616 * a0) / P = 18446744073709551616 * s + (t * Q + u) ∧ 0 ≤ t * Q + u ∧ t * Q + u < 18446744073709551616 := by
  have h1 : t * Q + u < P * Q := by
    have : (t + 1) * Q ≤ P * Q := Int.mul_le_mul_of_nonneg_right (by omega) (by omega)
    rw [Int.add_mul, Int.one_mul] at this
    omega
  have h2 : 0 ≤ t * Q := Int.mul_nonneg t0 (by omega)
  refine ⟨(div_uniq (q := 18446744073709551616 * s + (t * Q + u)) (r := r) ?_ r0 r1).1, by omega, by omega⟩
  rw [← hPQ, e0, e1]
  have f1 : P * (P * Q * s + (t * Q + u)) = P * Q * (P * s) + P * Q * t + P * u := by
    rw [Int.mul_add, Int.mul_add]
    have g1 : P * (P * Q * s) = P * Q * (P * s) := by rw [Int.mul_comm P (P * Q * s), Int.mul_assoc (P * Q) s P, Int.mul_comm s P]
    have g2 : P * (t * Q) = P * Q * t := by rw [Int.mul_comm t Q, Int.mul_assoc]
    omega
  rw [f1, Int.mul_add]
  omega

theorem wrap_nat {k : Nat} (h : k < 1000) : IntKind.u64.wrap (k : Int) = (k : Int) := u64_id (by omega) (by omega)
theorem wrap_sub {k : Nat} (h : k ≤ 64) : IntKind.u64.wrap (64 - (k : Int)) = ((64 - k : Nat) : Int) := by
  rw [u64_id (by omega) (by omega)]; omega
theorem wrap_sub2 {k : Nat} (h : 64 ≤ k) (h2 : k ≤ 128) : IntKind.u64.wrap ((k : Int) - 64) = ((k - 64 : Nat) : Int) := by
  rw [u64_id (by omega) (by omega)]; omega

theorem pair_shr_ok {a0 a1 : Int} (n : Int) (h1 : 0 ≤ a0 ∧ a0 < 18446744073709551616) (h2 : 0 ≤ a1 ∧ a1 < 18446744073709551616) :
    pair_Shr.f a0 a1 n = some ((a1 + 18446744073709551616 * a0) / 2 ^ held n / 18446744073709551616, (a1 + 18446744073709551616 * a0) / 2 ^ held n % 18446744073709551616) := by
  unfold pair_Shr.f
  rw [pair_held_ok]
  have hk := held_le n
  generalize held n = k at *
  simp only [Option.bind_some]
  rw [wrap_nat (by omega)]
  by_cases c : (k : Int) ≥ 64
  · rw [if_pos c, wrap_sub2 (by omega) hk, if_pos (by omega), shr64 (by omega), Option.some.injEq, Prod.mk.injEq]
    have e : (2 : Int) ^ k = 18446744073709551616 * 2 ^ (k - 64) := by
      rw [show k = 64 + (k - 64) by omega, Int.pow_add, show 64 + (k - 64) - 64 = k - 64 by omega]
      rfl
    have e2 : (a1 + 18446744073709551616 * a0) / 18446744073709551616 = a0 := by omega
    have e3 : 0 ≤ a0 / 2 ^ (k - 64) := Int.ediv_nonneg h1.1 (Int.le_of_lt (p2_pos _))
    have e4 : a0 / 2 ^ (k - 64) ≤ a0 := Int.ediv_le_self _ h1.1
    rw [e, ← Int.ediv_ediv_of_nonneg (by omega), e2]
    constructor <;> omega
  · rw [if_neg c, if_pos (by omega), wrap_sub (by omega), if_pos (by omega), shr64 (by omega), shr64 (by omega), shl64 (by omega), Option.some.injEq, Prod.mk.injEq]
    have hP := p2_pos k
    have hQ := p2_pos (64 - k)
    have hPQ := p2_split k (by omega)
    obtain ⟨e0, t0, t1⟩ := cut_ex a0 (2 ^ k) hP
    obtain ⟨e1, r0, r1⟩ := cut_ex a1 (2 ^ k) hP
    have u0 : 0 ≤ a1 / 2 ^ k := Int.ediv_nonneg h2.1 (Int.le_of_lt hP)
    have u1 : a1 / 2 ^ k < 2 ^ (64 - k) := by
      apply Int.ediv_lt_of_lt_mul hP
      rw [Int.mul_comm, hPQ]; exact h2.2
    have hj := fun h1 h2 h3 h4 h5 => u64_join (64 - k) (x := (a0 * 2 ^ (64 - k)) % 18446744073709551616) (y := a1 / 2 ^ k) h1 h2 h3 u0 h4 h5
    generalize hPe : (2 : Int) ^ k = P at *
    generalize hQe : (2 : Int) ^ (64 - k) = Q at *
    obtain ⟨g1, g2, g3⟩ := shr_parts hPQ hP hQ e0 t0 t1 e1 r0 r1 u0 u1
    have e5 : a0 * Q = 18446744073709551616 * (a0 / P) + a0 % P * Q := by
      have : a0 * Q = (P * (a0 / P) + a0 % P) * Q := by rw [← e0]
      rw [this, Int.add_mul, Int.mul_right_comm, hPQ]
    have hx0 : 0 ≤ a0 % P * Q := Int.mul_nonneg t0 (by omega)
    have e6 : (a0 * Q) % 18446744073709551616 = a0 % P * Q := (div_uniq e5 hx0 (by omega)).2
    rw [e6] at hj ⊢
    have hmul : a0 % P * Q % Q = 0 := Int.mul_emod_left _ _
    rw [u64_or_comm u0 (Int.lt_of_le_of_lt (Int.ediv_le_self _ h2.1) h2.2) hx0 (by omega), hj hx0 hmul (by omega) u1 (Int.lt_of_le_of_lt (Int.ediv_le_self _ h2.1) h2.2), g1]
    clear hj e0 e1 e5 e6 g1 hPQ hPe hQe hmul
    generalize a0 % P * Q = Z at *
    generalize a1 / P = U at *
    generalize a0 / P = S at *
    constructor <;> omega

theorem pair_shl_ok {a0 a1 : Int} (n : Int) (h1 : 0 ≤ a0 ∧ a0 < 18446744073709551616) (h2 : 0 ≤ a1 ∧ a1 < 18446744073709551616) :
    pair_Shl.f a0 a1 n = some ((a1 + 18446744073709551616 * a0) * 2 ^ held n / 18446744073709551616 % 18446744073709551616, (a1 + 18446744073709551616 * a0) * 2 ^ held n % 18446744073709551616, decide ((a1 + 18446744073709551616 * a0) * 2 ^ held n < 340282366920938463463374607431768211456)) := by
  have hk := held_le n
  have hP := p2_pos (held n)
  have hback : ∀ hi lo : Int, hi = (a1 + 18446744073709551616 * a0) * 2 ^ held n / 18446744073709551616 % 18446744073709551616 → lo = (a1 + 18446744073709551616 * a0) * 2 ^ held n % 18446744073709551616 →
      (pair_Shr.f hi lo n).bind (fun bt => some (hi, lo, (bt.1 == a0 && (bt.2 == a1)))) = some ((a1 + 18446744073709551616 * a0) * 2 ^ held n / 18446744073709551616 % 18446744073709551616, (a1 + 18446744073709551616 * a0) * 2 ^ held n % 18446744073709551616, decide ((a1 + 18446744073709551616 * a0) * 2 ^ held n < 340282366920938463463374607431768211456)) := by
    intro hi lo e1 e2
    rw [pair_shr_ok n (by omega) (by omega)]
    simp only [Option.bind_some]
    rw [← e1, ← e2]
    have hV : 0 ≤ a1 + 18446744073709551616 * a0 := by omega
    have hX : lo + 18446744073709551616 * hi = (a1 + 18446744073709551616 * a0) * 2 ^ held n % 340282366920938463463374607431768211456 := by omega
    have hVe : a0 = (a1 + 18446744073709551616 * a0) / 18446744073709551616 ∧ a1 = (a1 + 18446744073709551616 * a0) % 18446744073709551616 := by omega
    rw [hX]
    have key : ((a1 + 18446744073709551616 * a0) * 2 ^ held n % 340282366920938463463374607431768211456 / 2 ^ held n = a1 + 18446744073709551616 * a0) ↔ (a1 + 18446744073709551616 * a0) * 2 ^ held n < 340282366920938463463374607431768211456 := by
      have hVP : 0 ≤ (a1 + 18446744073709551616 * a0) * 2 ^ held n := Int.mul_nonneg hV (Int.le_of_lt hP)
      constructor
      · intro h
        by_cases c : (a1 + 18446744073709551616 * a0) * 2 ^ held n < 340282366920938463463374607431768211456
        · exact c
        · have h3 : (a1 + 18446744073709551616 * a0) * 2 ^ held n % 340282366920938463463374607431768211456 < (a1 + 18446744073709551616 * a0) * 2 ^ held n := by omega
          have h4 := Int.ediv_lt_of_lt_mul hP h3
          omega
      · intro h
        rw [Int.emod_eq_of_lt hVP h, Int.mul_ediv_cancel _ (by omega)]
    generalize (a1 + 18446744073709551616 * a0) * 2 ^ held n % 340282366920938463463374607431768211456 / 2 ^ held n = Y at *
    congr 3
    rw [Bool.eq_iff_iff, Bool.and_eq_true, beq_iff_eq, beq_iff_eq, decide_eq_true_iff, ← key]
    omega
  unfold pair_Shl.f
  rw [pair_held_ok]
  generalize held n = k at *
  simp only [Option.bind_some]
  rw [wrap_nat (by omega), if_pos (by omega)]
  have hw : 0 ≤ IntKind.u64.wrap (64 - (k : Int)) := by rw [u64_mod]; omega
  rw [if_pos hw]
  clear hw
  by_cases c : (k : Int) ≥ 64
  · rw [if_pos c, wrap_sub2 (by omega) hk, if_pos (by omega), shl64 (by omega)]
    have e : (2 : Int) ^ k = 18446744073709551616 * 2 ^ (k - 64) := by
      rw [show k = 64 + (k - 64) by omega, Int.pow_add, show 64 + (k - 64) - 64 = k - 64 by omega]
      rfl
    have e2 : (a1 + 18446744073709551616 * a0) * 2 ^ k = 18446744073709551616 * (a1 * 2 ^ (k - 64) + 18446744073709551616 * (a0 * 2 ^ (k - 64))) := by
      rw [e, Int.mul_left_comm, Int.add_mul, Int.mul_assoc 18446744073709551616 a0]
    refine hback _ _ ?_ ?_
    · rw [e2]; omega
    · rw [e2]; omega
  · rw [if_neg c, wrap_sub (by omega), shl64 (by omega), shl64 (by omega), shr64 (by omega)]
    have hQ := p2_pos (64 - k)
    have hPQ := p2_split k (by omega)
    have hj := u64_join k (x := (a0 * 2 ^ k) % 18446744073709551616) (y := a1 / 2 ^ (64 - k))
    generalize hPe : (2 : Int) ^ k = P at *
    generalize hQe : (2 : Int) ^ (64 - k) = Q at *
    obtain ⟨e0, t0, t1⟩ := cut_ex a0 Q hQ
    obtain ⟨e1, r0, r1⟩ := cut_ex a1 Q hQ
    have u0 : 0 ≤ a1 / Q := Int.ediv_nonneg h2.1 (Int.le_of_lt hQ)
    have u1 : a1 / Q < P := by
      apply Int.ediv_lt_of_lt_mul hQ
      rw [hPQ]; exact h2.2
    have f1 : a0 * P = 18446744073709551616 * (a0 / Q) + a0 % Q * P := by
      have : a0 * P = (Q * (a0 / Q) + a0 % Q) * P := by rw [← e0]
      rw [this, Int.add_mul, Int.mul_right_comm, Int.mul_comm Q P, hPQ]
    have f2 : a1 * P = 18446744073709551616 * (a1 / Q) + a1 % Q * P := by
      have : a1 * P = (Q * (a1 / Q) + a1 % Q) * P := by rw [← e1]
      rw [this, Int.add_mul, Int.mul_right_comm, Int.mul_comm Q P, hPQ]
    have b1 : a0 % Q * P + P ≤ 18446744073709551616 := by
      have : (a0 % Q + 1) * P ≤ Q * P := Int.mul_le_mul_of_nonneg_right (by omega) (by omega)
      rw [Int.add_mul, Int.one_mul, Int.mul_comm Q P, hPQ] at this
      exact this
    have b2 : a1 % Q * P + P ≤ 18446744073709551616 := by
      have : (a1 % Q + 1) * P ≤ Q * P := Int.mul_le_mul_of_nonneg_right (by omega) (by omega)
      rw [Int.add_mul, Int.one_mul, Int.mul_comm Q P, hPQ] at this
      exact this
    have z1 : 0 ≤ a0 % Q * P := Int.mul_nonneg t0 (by omega)
    have z2 : 0 ≤ a1 % Q * P := Int.mul_nonneg r0 (by omega)
    have m1 : (a0 * P) % 18446744073709551616 = a0 % Q * P := (div_uniq f1 z1 (by omega)).2
    have m2 : (a1 * P) % 18446744073709551616 = a1 % Q * P := (div_uniq f2 z2 (by omega)).2
    have u2 : a1 / Q < 18446744073709551616 := Int.lt_of_le_of_lt (Int.ediv_le_self _ h2.1) h2.2
    have e2 : (a1 + 18446744073709551616 * a0) * P = 18446744073709551616 * (a1 / Q + a0 * P) + a1 % Q * P := by
      rw [Int.add_mul, f2, Int.mul_assoc 18446744073709551616 a0, Int.mul_add]
      omega
    rw [m1] at hj ⊢
    rw [m2, hj z1 (Int.mul_emod_left _ _) (by omega) u0 u1 u2]
    clear hj hPe hQe hPQ e0 e1
    refine hback _ _ ?_ ?_
    · rw [e2, f1]
      generalize a0 % Q * P = Z0 at *
      generalize a1 % Q * P = Z1 at *
      generalize a1 / Q = U at *
      generalize a0 / Q = S at *
      clear hback e2 f1 f2 m1 m2
      omega
    · rw [e2]
      generalize a1 % Q * P = Z1 at *
      clear hback e2 f1 f2 m1 m2
      omega

end Go.Proofs.YtcgdhpnobgimfaaGreatDoor.Num
end
