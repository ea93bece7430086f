/- The functions that these laws reach, each told by the evaluator: its plain text, and that a call of it comes to what the text says. -/
import Derived.Test.YtcgdhpnobgimfaaGreatDoorMTB2
import Derived.Test.YtcgdhpnobgimfaaGreatDoorMTB1
import Derived.Test.YtcgdhpnobgimfaaGreatDoorMTB4
import Derived.Shelf.Strings.OnBuilder
import Derived.Shelf.Strings.Repeat
import Derived.Shelf.Strings.SplitShaped
import Derived.Shelf.Strings.BuilderK
import Derived.WalkKit
import Derived.OwnWalk
section
namespace Go.Proofs.YtcgdhpnobgimfaaGreatDoor.PB
open Go Go.Sym Go.Proofs Go.RowKit Go.Proofs.YtcgdhpnobgimfaaGreatDoorW.PrintWords
set_option maxRecDepth 100000
set_option linter.unusedVariables false
set_option linter.unusedSimpArgs false
theorem lo_leo {α : Type} {a b : Option α} (h : LeO a b) : Lo a b := h
theorem wu8_64 (x : Int) : wrap64 (IntKind.wrap .u8 x) = x % 256 := by
  have e : IntKind.wrap .u8 x = x % 256 := rfl
  rw [e, sw64_id] <;> omega
theorem wu8_u64 (x : Int) : IntKind.wrap .u64 (IntKind.wrap .u8 x) = x % 256 := by
  have e : IntKind.wrap .u8 x = x % 256 := rfl
  rw [e, su64_id] <;> omega
theorem byL_nums (s : ByteArray) : byL s = numsOf s := rfl
theorem btS_bt (s : ByteArray) (i : Int) : btS s i = bt s i := rfl
theorem nil_tl : (⟨#[]⟩ : ByteArray).toList = [] := by rw [ByteArray.toList_eq]
theorem beq_decL (a b : List UInt8) : (a == b) = decide (a = b) := by
  by_cases h : a = b
  · rw [decide_eq_true h, beq_iff_eq.2 h]
  · rw [decide_eq_false h]
    exact beq_eq_false_iff_ne.2 h
theorem beq_decI (a b : Int) : (a == b) = decide (a = b) := by
  by_cases h : a = b
  · rw [decide_eq_true h, beq_iff_eq.2 h]
  · rw [decide_eq_false h]
    exact beq_eq_false_iff_ne.2 h
def laySplit_ren : Go.Shelf.Ren := ⟨fun | 146 => 43 | 221 => 72 | 268 => 96 | 138 => 97 | 143 => 98 | 195 => 116 | 197 => 117 | 218 => 118 | 219 => 119 | 260 => 126 | 217 => 127 | 225 => 128 | 224 => 129 | 267 => 130 | 266 => 137 | 314 => 138 | n => n, fun | 9 => 9 | 31 => 22 | 3 => 3 | 4 => 4 | 0 => 0 | 105 => 152 | 21 => 21 | 5 => 5 | 46 => 129 | 119 => 170 | 139 => 173 | 138 => 172 | 146 => 166 | 51 => 165 | n => n, fun | 1 => 0 | 3 => 3 | 4 => 4 | n => n⟩
theorem laySplit : Go.Proofs.LaysM.n146 Tryz.prog laySplit_ren := {
  mixed := by kernel_rfl
  f138 := Tryz.func97.trans (congrArg some (by kernel_rfl))
  f143 := Tryz.func98.trans (congrArg some (by kernel_rfl))
  f146 := Tryz.func43.trans (congrArg some (by kernel_rfl))
  f195 := Tryz.func116.trans (congrArg some (by kernel_rfl))
  f197 := Tryz.func117.trans (congrArg some (by kernel_rfl))
  f217 := Tryz.func127.trans (congrArg some (by kernel_rfl))
  f218 := Tryz.func118.trans (congrArg some (by kernel_rfl))
  f219 := Tryz.func119.trans (congrArg some (by kernel_rfl))
  f221 := Tryz.func72.trans (congrArg some (by kernel_rfl))
  f224 := Tryz.func129.trans (congrArg some (by kernel_rfl))
  f225 := Tryz.func128.trans (congrArg some (by kernel_rfl))
  f260 := Tryz.func126.trans (congrArg some (by kernel_rfl))
  f266 := Tryz.func137.trans (congrArg some (by kernel_rfl))
  f267 := Tryz.func130.trans (congrArg some (by kernel_rfl))
  f268 := Tryz.func96.trans (congrArg some (by kernel_rfl))
  f314 := Tryz.func138.trans (congrArg some (by kernel_rfl))
  t0 := Tryz.underlying0
  a0 := Tryz.isAgg0
  z0 := Tryz.sizeOf0
  v0 := Tryz.zeroValue0
  t3 := Tryz.underlying3
  a3 := Tryz.isAgg3
  z3 := Tryz.sizeOf3
  v3 := Tryz.zeroValue3
  t4 := Tryz.underlying4
  a4 := Tryz.isAgg4
  z4 := Tryz.sizeOf4
  v4 := Tryz.zeroValue4
  t5 := Tryz.underlying5
  a5 := Tryz.isAgg5
  z5 := Tryz.sizeOf5
  v5 := Tryz.zeroValue5
  t9 := Tryz.underlying9
  a9 := Tryz.isAgg9
  z9 := Tryz.sizeOf9
  v9 := Tryz.zeroValue9
  t21 := Tryz.underlying21
  a21 := Tryz.isAgg21
  z21 := Tryz.sizeOf21
  v21 := Tryz.zeroValue21
  t31 := Tryz.underlying22
  a31 := Tryz.isAgg22
  z31 := Tryz.sizeOf22
  v31 := Tryz.zeroValue22
  t46 := Tryz.underlying129
  a46 := Tryz.isAgg129
  z46 := Tryz.sizeOf129
  v46 := Tryz.zeroValue129
  t51 := Tryz.underlying165
  a51 := Tryz.isAgg165
  z51 := Tryz.sizeOf165
  v51 := Tryz.zeroValue165
  t105 := Tryz.underlying152
  a105 := Tryz.isAgg152
  z105 := Tryz.sizeOf152
  v105 := Tryz.zeroValue152
  t119 := Tryz.underlying170
  a119 := Tryz.isAgg170
  z119 := Tryz.sizeOf170
  t138 := Tryz.underlying172
  a138 := Tryz.isAgg172
  z138 := Tryz.sizeOf172
  v138 := Tryz.zeroValue172
  t139 := Tryz.underlying173
  a139 := Tryz.isAgg173
  z139 := Tryz.sizeOf173
  v139 := Tryz.zeroValue173
  t146 := Tryz.underlying166
  a146 := Tryz.isAgg166
  z146 := Tryz.sizeOf166
  v146 := Tryz.zeroValue166
  g1 := by kernel_rfl
  g3 := by kernel_rfl
  g4 := by kernel_rfl
  i0 := by kernel_rfl
  i3 := by kernel_rfl
  i4 := by kernel_rfl
  i5 := by kernel_rfl
  i9 := by kernel_rfl
  i21 := by kernel_rfl
  i31 := by kernel_rfl
  i46 := by kernel_rfl
  i51 := by kernel_rfl
  i105 := by kernel_rfl
  i138 := by kernel_rfl
  i139 := by kernel_rfl
  i146 := by kernel_rfl
  m1 := by kernel_rfl
  s1_3 := fun w h => Go.Proofs.cell_of_shapedOpen_int (zero := #[.int .i64 0]) (t := 3) h (of_decide_eq_true (by kernel_rfl)) (by kernel_rfl) rfl (by kernel_rfl) (by kernel_rfl) Tryz.underlying3
  m3 := by kernel_rfl
  m4 := by kernel_rfl }
theorem laySplitF : laySplit_ren.f 146 = 43 := by kernel_rfl
def strings_Split.f (k : Nat) (s sep : ByteArray) : Option (List ByteArray) := if s.size < 4294967281 ∧ 1 ≤ sep.size then some (Lib.splitB sep 0 (Lib.countB s sep) s) else none
theorem strings_Split.mono (k : Nat) (s sep : ByteArray) : Lo (strings_Split.f k s sep) (strings_Split.f (k + 1) s sep) := lo_refl _
def strings_Split.c : Sym.Callee := ⟨(.cons .str (.cons .str .nil)), (.sl .str), false, El (.sl .str), fun k x => strings_Split.f k x.1 x.2.1, fun y => y, []⟩
theorem strings_Split.ok : CalleeOk Tryz.prog 43 strings_Split.c where
  enter := enter_of Tryz.func43 rfl (by kernel_rfl)
  calls k w F vs x y hL hfin hx hy := by
    obtain ⟨v1, us, rfl, h1, v2, us2, rfl, h2, rfl⟩ := hx
    obtain rfl := rep_str h1
    obtain rfl := rep_str h2
    obtain ⟨s, sep, _⟩ := x
    have hy : strings_Split.f k s sep = some y := hy
    unfold strings_Split.f at hy
    split at hy
    case isFalse => cases hy
    case isTrue hq =>
      obtain rfl := Option.some.inj hy
      obtain ⟨_, g0, hg, hsame⟩ := hL
      obtain ⟨m, hm⟩ := laySplit.s1_3 g0 hg
      have hm' : w.cell? ⟨laySplit_ren.g 1, 0, none⟩ = some (.int .i64 m) := (World.cell?_of_block (hsame (laySplit_ren.g 1) (of_decide_eq_true (by kernel_rfl)))).trans hm
      have g := Go.Proofs.Any.strings_Split { laySplit with } laySplit.i9 s sep m w hq.1 hm' hq.2
      rw [laySplitF] at g
      refine g.mono fun e w' q => ?_
      obtain ⟨rfl, rfl⟩ := q
      have hlen : (Lib.splitB sep 0 (Lib.countB s sep) s).length = Lib.countB s sep + 1 := Lib.splitB_all sep hq.2 0 _ s rfl
      have R : RepR (fun b => if b = w.heap.size then (Lib.splitB sep 0 (Lib.countB s sep) s).length else F b) (w.alloc (.cells ((Lib.splitB sep 0 (Lib.countB s sep) s).map Value.string).toArray (laySplit_ren.t 9))) (.sl .str) false [] (Lib.splitB sep 0 (Lib.countB s sep) s) (.slice (some ⟨w.heap.size, 0, none⟩) (Lib.countB s sep + 1) (Lib.countB s sep + 1)) := by
        refine repR_one ⟨[.slice (some ⟨w.heap.size, 0, none⟩) (Lib.splitB sep 0 (Lib.countB s sep) s).length (Lib.countB s sep + 1)], ⟨some ⟨w.heap.size, 0, none⟩, Lib.countB s sep + 1, rfl, by omega, fun hp => ⟨w.heap.size, 0, rfl, ?_, fun j t hj => ⟨[.string t], rfl, ?_⟩⟩⟩, by rw [hlen]; rfl⟩
        · show 0 + (Lib.splitB sep 0 (Lib.countB s sep) s).length * 1 ≤ (if w.heap.size = w.heap.size then (Lib.splitB sep 0 (Lib.countB s sep) s).length else F w.heap.size)
          rw [if_pos rfl]
          omega
        · intro i v hv
          cases i with
          | succ i => simp at hv
          | zero =>
            simp only [List.getElem?_cons_zero, Option.some.injEq] at hv
            subst hv
            have hh := heap_alloc_new w (.cells ((Lib.splitB sep 0 (Lib.countB s sep) s).map Value.string).toArray (laySplit_ren.t 9))
            rw [show (0 + j * Ty.str.size + 0) = j from by show 0 + j * 1 + 0 = j; omega]
            unfold World.cell?
            simp only [hh]
            simp [hj]
      exact ⟨_, _, rfl, alloc_grow hfin _ _, alloc_fin hfin _ _, R⟩
def num_Lead.c : Sym.Callee := ⟨(.cons .str .nil), (.int .i64), false, Int, fun k x => num_Lead.f k x.1, fun z => z, []⟩
def num_Lead.nl0 (k : Nat) (x0 : ByteArray) (x6 : List Int) (x7 : Int) (x8 : Int) : Option (Int) := (if x8 < x7 then (if 0 ≤ x8 then (if x8 < (x6.length : Int) then (if (x6.getD (x8).toNat 0) < (48 : Int) then (some x8) else (if (x6.getD (x8).toNat 0) > (57 : Int) then (some x8) else (num_Lead.l0 k x0 x6 x7 (wrap64 (x8 + (1 : Int)))))) else none) else none) else (some (x0.size : Int)))
def num_Lead.nf (k : Nat) (a0 : ByteArray) : Option (Int) := (num_Lead.l0 k a0 (byL a0) ((byL a0).length : Int) (0 : Int))
noncomputable def num_Lead.E : Env (Int) := envOf tab Tryz.f77 false (.int .i64) [] (fun y => y) [] [⟨2, ⟨23, [(0, .str, []), (6, (.sl (.int .u8)), []), (7, (.int .i64), []), (8, (.int .i64), [])], [], []⟩, fun k y => num_Lead.l0 k y.1.1 y.1.2.1 y.1.2.2.1 y.1.2.2.2.1⟩] []
theorem num_Lead.h1 : obls num_Lead.E Tryz.f77 = [⟨(.cons (.cons .str (.cons (.sl (.int .u8)) (.cons (.int .i64) (.cons (.int .i64) .nil)))) (.cons .nil (.cons .nil .nil))), fun k y => num_Lead.l0 (k + 1) y.1.1 y.1.2.1 y.1.2.2.1 y.1.2.2.2.1, fun k y => num_Lead.nl0 k y.1.1 y.1.2.1 y.1.2.2.1 y.1.2.2.2.1⟩, ⟨(.cons (.cons .str (.cons (.sl (.int .u8)) (.cons (.int .i64) (.cons (.int .i64) .nil)))) (.cons .nil (.cons .nil .nil))), fun _ y => num_Lead.l0 0 y.1.1 y.1.2.1 y.1.2.2.1 y.1.2.2.2.1, fun _ _ => none⟩] := by kernel_rfl
theorem num_Lead.h2 : (fun k (x : El (.cons .str .nil)) => num_Lead.nf k x.1) = fun k x => mainK num_Lead.E Tryz.f77 (.cons .str .nil) k x := by kernel_rfl
theorem num_Lead.bl0 (k : Nat) (x0 : ByteArray) (x6 : List Int) (x7 : Int) (x8 : Int) : Lo (num_Lead.l0 (k + 1) x0 x6 x7 x8) (num_Lead.nl0 k x0 x6 x7 x8) := by
  rw [num_Lead.l0]
  unfold num_Lead.nl0
  try simp only [Bool.false_xor, Bool.true_xor, wu8_64, wu8_u64, byL_nums, btS_bt, nil_tl, beq_decL, beq_decI]
  repeat' first
    | (with_reducible exact lo_refl _)
    | exact lo_none _
    | (with_reducible refine lo_ite (fun _ => ?_) (fun _ => ?_))
    | (with_reducible refine lo_bind (fun _ => ?_))
    | (with_reducible refine lo_left ?_)
    | (refine lo_pos (by first | assumption | omega) ?_)
    | (refine lo_neg (by first | assumption | omega) ?_)
    | (with_reducible refine lo_test (fun _ => by first | assumption | omega) (fun _ => ?_))
    | exact lo_refl _
    | refine lo_ite (fun _ => ?_) (fun _ => ?_)
    | refine lo_bind (fun _ => ?_)
    | (refine lo_some ?_; first | rfl | (rw [Bool.false_xor]; rfl))
  all_goals (exfalso; first | omega | (simp_all; done) | (simp_all; omega))
set_option maxHeartbeats 2000000 in
theorem num_Lead.bf (k : Nat) (a0 : ByteArray) : Lo (num_Lead.f k a0) (num_Lead.nf k a0) := by
  unfold num_Lead.f num_Lead.nf
  refine lo_lite (fun _ => ?_) (fun _ => lo_none _)
  unfold num_Lead.g
  try simp only [Bool.false_xor, Bool.true_xor, wu8_64, wu8_u64, byL_nums, btS_bt, nil_tl, beq_decL, beq_decI]
  repeat' first
    | (with_reducible exact lo_refl _)
    | exact lo_none _
    | (with_reducible refine lo_ite (fun _ => ?_) (fun _ => ?_))
    | (with_reducible refine lo_bind (fun _ => ?_))
    | (with_reducible refine lo_left ?_)
    | (refine lo_pos (by first | assumption | omega) ?_)
    | (refine lo_neg (by first | assumption | omega) ?_)
    | (with_reducible refine lo_test (fun _ => by first | assumption | omega) (fun _ => ?_))
    | exact lo_refl _
    | refine lo_ite (fun _ => ?_) (fun _ => ?_)
    | refine lo_bind (fun _ => ?_)
    | (refine lo_some ?_; first | rfl | (rw [Bool.false_xor]; rfl))
  all_goals (exfalso; first | omega | (simp_all; done) | (simp_all; omega))
theorem num_Lead.al : AllLe (obls num_Lead.E Tryz.f77) := by
  rw [num_Lead.h1]
  exact (.cons (fun k y r h => num_Lead.bl0 k y.1.1 y.1.2.1 y.1.2.2.1 y.1.2.2.2.1 r h) (.cons (fun _ y r h => by simp [num_Lead.l0] at h) .nil))
theorem num_Lead.ok : CalleeOk Tryz.prog 77 num_Lead.c := fn_ok tabOk mixed (fun _ => rfl) Tryz.func77 rfl (by kernel_rfl) ok_nil num_Lead.al (fun k x r h => (congrFun (congrFun num_Lead.h2 k) x).symm.trans (num_Lead.bf k _ r h))
def num_Get.c : Sym.Callee := ⟨(.cons .str .nil), (.cons (.int .i64) (.cons (.int .i64) .nil)), true, Int × Int, fun k x => num_Get.f k x.1, fun z => (z.1, z.2, ()), []⟩
def num_Get.nl0 (k : Nat) (x4 : Int) (x27 : List Int) (x28 : Int) (x29 : Int) : Option (Int × Int) := (if x29 < x28 then (if 0 ≤ x29 then (if x29 < (x27.length : Int) then (if (wrap64 ((wrap64 ((10 : Int) * x4)) + (wrap64 ((IntKind.wrap .u8 ((x27.getD (x29).toNat 0) - (48 : Int))))))) > (1099511627776 : Int) then (some ((0 : Int), (3 : Int))) else (num_Get.l0 k (wrap64 ((wrap64 ((10 : Int) * x4)) + (wrap64 ((IntKind.wrap .u8 ((x27.getD (x29).toNat 0) - (48 : Int))))))) x27 x28 (wrap64 (x29 + (1 : Int))))) else none) else none) else (some (x4, (0 : Int))))
def num_Get.nf (k : Nat) (a0 : ByteArray) : Option (Int × Int) := (if a0.toList = (⟨#[]⟩ : ByteArray).toList then (some ((0 : Int), (2 : Int))) else ((num_Lead.f k a0).bind fun t1 => (if t1 < (a0.size : Int) then (some ((0 : Int), (2 : Int))) else (if 0 ≤ (0 : Int) then (if (0 : Int) < (a0.size : Int) then (if (btS a0 (0 : Int)) = (48 : Int) then (if (a0.size : Int) > (1 : Int) then (some ((0 : Int), (2 : Int))) else (num_Get.l0 k (0 : Int) (byL a0) ((byL a0).length : Int) (0 : Int))) else (num_Get.l0 k (0 : Int) (byL a0) ((byL a0).length : Int) (0 : Int))) else none) else none))))
noncomputable def num_Get.E : Env (Int × Int) := envOf tab Tryz.f48 true (.cons (.int .i64) (.cons (.int .i64) .nil)) [] (fun y => (y.1, y.2.1)) [(77, num_Lead.c)] [⟨5, ⟨43, [(4, (.int .i64), []), (27, (.sl (.int .u8)), []), (28, (.int .i64), []), (29, (.int .i64), [])], [], []⟩, fun k y => num_Get.l0 k y.1.1 y.1.2.1 y.1.2.2.1 y.1.2.2.2.1⟩] []
theorem num_Get.h1 : obls num_Get.E Tryz.f48 = [⟨(.cons (.cons (.int .i64) (.cons (.sl (.int .u8)) (.cons (.int .i64) (.cons (.int .i64) .nil)))) (.cons .nil (.cons .nil .nil))), fun k y => num_Get.l0 (k + 1) y.1.1 y.1.2.1 y.1.2.2.1 y.1.2.2.2.1, fun k y => num_Get.nl0 k y.1.1 y.1.2.1 y.1.2.2.1 y.1.2.2.2.1⟩, ⟨(.cons (.cons (.int .i64) (.cons (.sl (.int .u8)) (.cons (.int .i64) (.cons (.int .i64) .nil)))) (.cons .nil (.cons .nil .nil))), fun _ y => num_Get.l0 0 y.1.1 y.1.2.1 y.1.2.2.1 y.1.2.2.2.1, fun _ _ => none⟩] := by kernel_rfl
theorem num_Get.h2 : (fun k (x : El (.cons .str .nil)) => num_Get.nf k x.1) = fun k x => mainK num_Get.E Tryz.f48 (.cons .str .nil) k x := by kernel_rfl
theorem num_Get.bl0 (k : Nat) (x4 : Int) (x27 : List Int) (x28 : Int) (x29 : Int) : Lo (num_Get.l0 (k + 1) x4 x27 x28 x29) (num_Get.nl0 k x4 x27 x28 x29) := by
  rw [num_Get.l0]
  unfold num_Get.nl0
  try simp only [Bool.false_xor, Bool.true_xor, wu8_64, wu8_u64, byL_nums, btS_bt, nil_tl, beq_decL, beq_decI]
  repeat' first
    | (with_reducible exact lo_refl _)
    | exact lo_none _
    | (with_reducible refine lo_ite (fun _ => ?_) (fun _ => ?_))
    | (with_reducible refine lo_bind (fun _ => ?_))
    | (with_reducible refine lo_left ?_)
    | (refine lo_pos (by first | assumption | omega) ?_)
    | (refine lo_neg (by first | assumption | omega) ?_)
    | (with_reducible refine lo_test (fun _ => by first | assumption | omega) (fun _ => ?_))
    | exact lo_refl _
    | refine lo_ite (fun _ => ?_) (fun _ => ?_)
    | refine lo_bind (fun _ => ?_)
    | (refine lo_some ?_; first | rfl | (rw [Bool.false_xor]; rfl))
  all_goals (exfalso; first | omega | (simp_all; done) | (simp_all; omega))
set_option maxHeartbeats 2000000 in
theorem num_Get.bf (k : Nat) (a0 : ByteArray) : Lo (num_Get.f k a0) (num_Get.nf k a0) := by
  unfold num_Get.f num_Get.nf
  refine lo_lite (fun _ => ?_) (fun _ => lo_none _)
  unfold num_Get.g
  try simp only [Bool.false_xor, Bool.true_xor, wu8_64, wu8_u64, byL_nums, btS_bt, nil_tl, beq_decL, beq_decI]
  repeat' first
    | (with_reducible exact lo_refl _)
    | exact lo_none _
    | (with_reducible refine lo_lpos (by first | assumption | decide) ?_)
    | (with_reducible refine lo_lneg (by first | assumption | decide) ?_)
    | (with_reducible refine lo_ite (fun _ => ?_) (fun _ => ?_))
    | (with_reducible refine lo_bind (fun _ => ?_))
    | (with_reducible refine lo_left ?_)
    | (refine lo_neg (by decide) ?_)
    | (refine lo_pos (by first | assumption | omega) ?_)
    | (refine lo_neg (by first | assumption | omega) ?_)
    | (refine lo_trans (fun r h => (num_Get.mono_l _).1 _ _ r h) ?_; rw [num_Get.j0]; try simp only [decide_eq_true_eq])
    | (with_reducible refine lo_test (fun _ => by first | assumption | omega | (simp only [List.length_cons, List.length_nil]; omega) | decide) (fun _ => ?_))
    | (with_reducible refine lo_testn (fun _ => by first | assumption | omega) (fun _ => ?_))
    | (with_reducible refine lo_and (fun z => by first | exact z.1 | omega) (fun z => by first | exact z.2 | omega) (fun _ => ?_))
    | exact lo_refl _
    | (with_reducible refine lo_iff (by first | exact Iff.rfl | omega | (simp; done) | decide) (fun _ => ?_) (fun _ => ?_))
    | (with_reducible refine lo_iffn (by first | exact Iff.rfl | omega | (simp; done) | decide) (fun _ => ?_) (fun _ => ?_))
    | refine lo_ite (fun _ => ?_) (fun _ => ?_)
    | refine lo_bind (fun _ => ?_)
    | (refine lo_some ?_; first | rfl | (rw [Bool.false_xor]; rfl) | (rw [Bool.true_xor]; rfl) | (simp only [Bool.and_true]; rfl) | (simp; done))
    | (simp only [Int.zero_sub]; exact lo_refl _)
    | (with_reducible refine lo_lpos (by omega) ?_)
    | (with_reducible refine lo_lneg (by omega) ?_)
    | (with_reducible refine lo_lite (fun _ => ?_) (fun _ => ?_))
    | (with_reducible refine lo_rite (fun _ => ?_) (fun _ => ?_))
  all_goals (exfalso; first | omega | (simp_all; done) | (simp_all; omega))
theorem num_Get.al : AllLe (obls num_Get.E Tryz.f48) := by
  rw [num_Get.h1]
  exact (.cons (fun k y r h => num_Get.bl0 k y.1.1 y.1.2.1 y.1.2.2.1 y.1.2.2.2.1 r h) (.cons (fun _ y r h => by simp [num_Get.l0] at h) .nil))
theorem num_Get.ok : CalleeOk Tryz.prog 48 num_Get.c := fn_ok tabOk mixed (fun _ => rfl) Tryz.func48 rfl (by kernel_rfl) (ok_cons num_Lead.ok ok_nil) num_Get.al (fun k x r h => (congrFun (congrFun num_Get.h2 k) x).symm.trans (num_Get.bf k _ r h))
def slices_Index___string_string_.l2 : Nat → (List ByteArray) → ByteArray → Int → Int → Option Int
  | 0, _, _, _, _ => none
  | k + 1, x0, x1, x7, x8 => (if x8 < x7 then (if 0 ≤ x8 then (if x8 < (x0.length : Int) then (if x1.toList = (x0.getD (x8).toNat (⟨#[]⟩ : ByteArray)).toList then (some x8) else (slices_Index___string_string_.l2 k x0 x1 x7 (wrap64 (x8 + (1 : Int))))) else none) else none) else (some (-1 : Int)))
def slices_Index___string_string_.f (k : Nat) (a0 : List ByteArray) (a1 : ByteArray) : Option Int := (slices_Index___string_string_.l2 k a0 a1 (a0.length : Int) (0 : Int))
def slices_Index___string_string_.c : Sym.Callee := ⟨(.cons (.sl .str) (.cons .str .nil)), (.int .i64), false, El (.int .i64), fun k x => slices_Index___string_string_.f k x.1 x.2.1, fun y => y, []⟩
noncomputable def slices_Index___string_string_.E : Env (El (.int .i64)) := envOf tab Tryz.f78 false (.int .i64) [] (fun y => y) [] [⟨2, ⟨19, [(0, (.sl .str), []), (1, .str, []), (7, (.int .i64), []), (8, (.int .i64), [])], [], []⟩, fun k y => slices_Index___string_string_.l2 k y.1.1 y.1.2.1 y.1.2.2.1 y.1.2.2.2.1⟩] []
theorem slices_Index___string_string_.h1 : (obls slices_Index___string_string_.E Tryz.f78).map Ob.left = (obls slices_Index___string_string_.E Tryz.f78).map Ob.right := by kernel_rfl
theorem slices_Index___string_string_.h2 : (fun k x => slices_Index___string_string_.c.fn k x) = fun k x => mainK slices_Index___string_string_.E Tryz.f78 slices_Index___string_string_.c.dom k x := by kernel_rfl
theorem slices_Index___string_string_.ok : CalleeOk Tryz.prog 78 slices_Index___string_string_.c := fn_ok tabOk mixed (fun _ => rfl) Tryz.func78 rfl (by kernel_rfl) ok_nil (.of_eq slices_Index___string_string_.h1) (fun k x _ h => (congrFun (congrFun slices_Index___string_string_.h2 k) x).symm.trans h)
theorem slices_Index___string_string_.mono_c : ∀ k, (∀ x0 x1 x7 x8, Lo (slices_Index___string_string_.l2 k x0 x1 x7 x8) (slices_Index___string_string_.l2 (k + 1) x0 x1 x7 x8)) ∧ True
  | 0 => ⟨fun _ _ _ _ => by rw [slices_Index___string_string_.l2]; exact lo_none _, trivial⟩
  | k + 1 => by
    obtain ⟨h_l2, _⟩ := slices_Index___string_string_.mono_c k
    exact ⟨fun _ _ _ _ => by rw [slices_Index___string_string_.l2, slices_Index___string_string_.l2]; repeat' first | (with_reducible exact lo_refl _) | (with_reducible exact h_l2 _ _ _ _) | (with_reducible refine lo_ite (fun _ => ?_) (fun _ => ?_)) | (with_reducible refine lo_bind2 ?_ (fun _ => ?_)), trivial⟩
theorem slices_Index___string_string_.mono : ∀ k a0 a1, Lo (slices_Index___string_string_.f k a0 a1) (slices_Index___string_string_.f (k + 1) a0 a1) := by
  intro k a0 a1
  obtain ⟨h_l2, _⟩ := slices_Index___string_string_.mono_c k
  unfold slices_Index___string_string_.f
  repeat' first | (with_reducible exact lo_refl _) | (with_reducible exact h_l2 _ _ _ _) | (with_reducible refine lo_ite (fun _ => ?_) (fun _ => ?_)) | (with_reducible refine lo_bind2 ?_ (fun _ => ?_))
def trace_status.f (k : Nat) (a0 : ByteArray) : Option Int := ((slices_Index___string_string_.f k (([(⟨#[103, 111, 101, 115]⟩ : ByteArray), (⟨#[100, 111, 110, 101]⟩ : ByteArray), (⟨#[115, 116, 111, 112, 112, 101, 100]⟩ : ByteArray), (⟨#[102, 97, 105, 108, 101, 100]⟩ : ByteArray)].drop 0).take 4) a0).bind fun t1 => (some t1))
def trace_status.c : Sym.Callee := ⟨(.cons .str .nil), (.int .i64), false, El (.int .i64), fun k x => trace_status.f k x.1, fun y => y, []⟩
noncomputable def trace_status.E : Env (El (.int .i64)) := envOf tab Tryz.f49 false (.int .i64) [] (fun y => y) [(78, slices_Index___string_string_.c)] [] []
theorem trace_status.h1 : (obls trace_status.E Tryz.f49).map Ob.left = (obls trace_status.E Tryz.f49).map Ob.right := by kernel_rfl
theorem trace_status.h2 : (fun k x => trace_status.c.fn k x) = fun k x => mainK trace_status.E Tryz.f49 trace_status.c.dom k x := by kernel_rfl
theorem trace_status.ok : CalleeOk Tryz.prog 49 trace_status.c := fn_ok tabOk mixed (fun _ => rfl) Tryz.func49 rfl (by kernel_rfl) (ok_cons slices_Index___string_string_.ok ok_nil) (.of_eq trace_status.h1) (fun k x _ h => (congrFun (congrFun trace_status.h2 k) x).symm.trans h)
theorem trace_status.mono : ∀ k a0, Lo (trace_status.f k a0) (trace_status.f (k + 1) a0) := by
  intro k a0
  unfold trace_status.f
  repeat' first | (with_reducible exact lo_refl _) | (with_reducible refine lo_ite (fun _ => ?_) (fun _ => ?_)) | (with_reducible refine lo_bind2 ?_ (fun _ => ?_)) | (with_reducible exact lo_of (slices_Index___string_string_.mono _ _ _))
def trace_head.f (k : Nat) (a0 : ByteArray) : Option ((Int × Int × (List Int) × (List Bool) × (List (Int × Int × Int × Unit)) × Int × Unit) × Bool × Unit) := ((strings_Split.f k a0 (⟨#[32]⟩ : ByteArray)).bind fun t1 => (if (t1.length : Int) = (5 : Int) then (if 0 ≤ (0 : Int) then (if (0 : Int) < (t1.length : Int) then (if (t1.getD ((0 : Int)).toNat (⟨#[]⟩ : ByteArray)).toList = (⟨#[115, 116, 101, 112]⟩ : ByteArray).toList then (if 0 ≤ (2 : Int) then (if (2 : Int) < (t1.length : Int) then (if (t1.getD ((2 : Int)).toNat (⟨#[]⟩ : ByteArray)).toList = (⟨#[112, 104, 97, 115, 101]⟩ : ByteArray).toList then (if 0 ≤ (1 : Int) then (if (1 : Int) < (t1.length : Int) then ((num_Get.f k (t1.getD ((1 : Int)).toNat (⟨#[]⟩ : ByteArray))).bind fun t2 => (if 0 ≤ (3 : Int) then (if (3 : Int) < (t1.length : Int) then ((num_Get.f k (t1.getD ((3 : Int)).toNat (⟨#[]⟩ : ByteArray))).bind fun t3 => (if 0 ≤ (4 : Int) then (if (4 : Int) < (t1.length : Int) then ((trace_status.f k (t1.getD ((4 : Int)).toNat (⟨#[]⟩ : ByteArray))).bind fun t4 => (if t2.2 = (0 : Int) then (if t3.2 = (0 : Int) then (if t4 < (0 : Int) then (some ((0, 0, ([] : List Int), ([] : List Bool), ([] : List (Int × Int × Int × Unit)), 0, ()), false, ())) else (some ((t2.1, t3.1, ([] : List Int), ([] : List Bool), ([] : List (Int × Int × Int × Unit)), t4, ()), true, ()))) else (some ((0, 0, ([] : List Int), ([] : List Bool), ([] : List (Int × Int × Int × Unit)), 0, ()), false, ()))) else (some ((0, 0, ([] : List Int), ([] : List Bool), ([] : List (Int × Int × Int × Unit)), 0, ()), false, ())))) else none) else none)) else none) else none)) else none) else none) else (some ((0, 0, ([] : List Int), ([] : List Bool), ([] : List (Int × Int × Int × Unit)), 0, ()), false, ()))) else none) else none) else (some ((0, 0, ([] : List Int), ([] : List Bool), ([] : List (Int × Int × Int × Unit)), 0, ()), false, ()))) else none) else none) else (some ((0, 0, ([] : List Int), ([] : List Bool), ([] : List (Int × Int × Int × Unit)), 0, ()), false, ()))))
def trace_head.c : Sym.Callee := ⟨(.cons .str .nil), (.cons (.cons (.int .i64) (.cons (.int .i64) (.cons (.sl (.int .i64)) (.cons (.sl .bool) (.cons (.sl (.cons (.int .i64) (.cons (.int .i64) (.cons (.int .i64) .nil)))) (.cons (.int .i64) .nil)))))) (.cons .bool .nil)), true, El (.cons (.cons (.int .i64) (.cons (.int .i64) (.cons (.sl (.int .i64)) (.cons (.sl .bool) (.cons (.sl (.cons (.int .i64) (.cons (.int .i64) (.cons (.int .i64) .nil)))) (.cons (.int .i64) .nil)))))) (.cons .bool .nil)), fun k x => trace_head.f k x.1, fun y => y, [(0, ⟨2, 0, 3, 1⟩), (0, ⟨3, 0, 4, 1⟩), (0, ⟨4, 0, 57, 3⟩)]⟩
noncomputable def trace_head.E : Env (El (.cons (.cons (.int .i64) (.cons (.int .i64) (.cons (.sl (.int .i64)) (.cons (.sl .bool) (.cons (.sl (.cons (.int .i64) (.cons (.int .i64) (.cons (.int .i64) .nil)))) (.cons (.int .i64) .nil)))))) (.cons .bool .nil))) := envOf tab Tryz.f20 true (.cons (.cons (.int .i64) (.cons (.int .i64) (.cons (.sl (.int .i64)) (.cons (.sl .bool) (.cons (.sl (.cons (.int .i64) (.cons (.int .i64) (.cons (.int .i64) .nil)))) (.cons (.int .i64) .nil)))))) (.cons .bool .nil)) [(0, ⟨2, 0, 3, 1⟩), (0, ⟨3, 0, 4, 1⟩), (0, ⟨4, 0, 57, 3⟩)] (fun y => y) [(43, strings_Split.c), (48, num_Get.c), (49, trace_status.c)] [] []
theorem trace_head.h1 : (obls trace_head.E Tryz.f20).map Ob.left = (obls trace_head.E Tryz.f20).map Ob.right := by kernel_rfl
theorem trace_head.h2 : (fun k x => trace_head.c.fn k x) = fun k x => mainK trace_head.E Tryz.f20 trace_head.c.dom k x := by kernel_rfl
theorem trace_head.ok : CalleeOk Tryz.prog 20 trace_head.c := fn_ok tabOk mixed (fun _ => rfl) Tryz.func20 rfl (by kernel_rfl) (ok_cons strings_Split.ok (ok_cons num_Get.ok (ok_cons trace_status.ok ok_nil))) (.of_eq trace_head.h1) (fun k x _ h => (congrFun (congrFun trace_head.h2 k) x).symm.trans h)
theorem trace_head.mono : ∀ k a0, Lo (trace_head.f k a0) (trace_head.f (k + 1) a0) := by
  intro k a0
  unfold trace_head.f
  repeat' first | (with_reducible exact lo_refl _) | (with_reducible refine lo_ite (fun _ => ?_) (fun _ => ?_)) | (with_reducible refine lo_bind2 ?_ (fun _ => ?_)) | (with_reducible exact lo_of (strings_Split.mono _ _ _)) | (with_reducible exact lo_leo (num_Get.mono _ _)) | (with_reducible exact lo_of (trace_status.mono _ _))
def num_digitsN.l3 : Nat → Int → Int → (List Int) → Option ByteArray
  | 0, _, _, _ => none
  | k + 1, x0, x4, r3 => (if (10 : Int) = 0 then none else (if 0 ≤ (wrap64 (x4 - (1 : Int))) then (if (wrap64 (x4 - (1 : Int))) < ((20 : Nat) : Int) then (if (10 : Int) = 0 then none else (if (IntKind.wrap .u64 (Int.tdiv x0 (10 : Int))) = (0 : Int) then (if 0 ≤ (wrap64 (x4 - (1 : Int))) then (if (wrap64 (x4 - (1 : Int))) ≤ ((20 : Nat) : Int) then (some (strOfNums (((r3.set ((wrap64 (x4 - (1 : Int)))).toNat (IntKind.wrap .u8 ((48 : Int) + (IntKind.wrap .u8 ((Int.tmod x0 (10 : Int))))))).drop (0 + ((wrap64 (x4 - (1 : Int)))).toNat)).take (20 - ((wrap64 (x4 - (1 : Int)))).toNat)))) else none) else none) else (num_digitsN.l3 k (IntKind.wrap .u64 (Int.tdiv x0 (10 : Int))) (wrap64 (x4 - (1 : Int))) (r3.set ((wrap64 (x4 - (1 : Int)))).toNat (IntKind.wrap .u8 ((48 : Int) + (IntKind.wrap .u8 ((Int.tmod x0 (10 : Int)))))))))) else none) else none))
def num_digitsN.f (k : Nat) (a0 : Int) : Option ByteArray := (num_digitsN.l3 k a0 (20 : Int) (List.replicate 20 0))
def num_digitsN.c : Sym.Callee := ⟨(.cons (.int .u64) .nil), .str, false, El .str, fun k x => num_digitsN.f k x.1, fun y => y, []⟩
noncomputable def num_digitsN.E : Env (El .str) := envOf tab Tryz.f80 false .str [] (fun y => y) [] [⟨3, ⟨20, [(0, (.int .u64), []), (4, (.int .i64), [])], [], [(3, some 20, 0, (.int .u8))]⟩, fun k y => num_digitsN.l3 k y.1.1 y.1.2.1 y.2.2.1.1⟩] []
theorem num_digitsN.h1 : (obls num_digitsN.E Tryz.f80).map Ob.left = (obls num_digitsN.E Tryz.f80).map Ob.right := by kernel_rfl
theorem num_digitsN.h2 : (fun k x => num_digitsN.c.fn k x) = fun k x => mainK num_digitsN.E Tryz.f80 num_digitsN.c.dom k x := by kernel_rfl
theorem num_digitsN.ok : CalleeOk Tryz.prog 80 num_digitsN.c := fn_ok tabOk mixed (fun _ => rfl) Tryz.func80 rfl (by kernel_rfl) ok_nil (.of_eq num_digitsN.h1) (fun k x _ h => (congrFun (congrFun num_digitsN.h2 k) x).symm.trans h)
theorem num_digits.bl : ∀ (k : Nat) (u : Int) (l r : List Int) (s : ByteArray), r.length = 20 → l.length ≤ 20 → r.drop (20 - l.length) = l → num_digits.l0 k u l = some s → num_digitsN.l3 k u (20 - (l.length : Int)) r = some s
  | 0, u, l, r, s, _, _, _, h => by simp [num_digits.l0] at h
  | k + 1, u, l, r, s, hr, hl, hd, h => by
    rw [num_digits.l0] at h
    split at h
    · rename_i h1
      split at h
      · rename_i h2
        split at h
        · rename_i h3
          have e1 : wrap64 (20 - (l.length : Int) - 1) = 19 - (l.length : Int) := by rw [sw64_id] <;> omega
          have e2 : ((19 : Int) - (l.length : Int)).toNat = 19 - l.length := by omega
          have e3 : Int.tmod u 10 = u % 10 := Int.tmod_eq_emod_of_nonneg h2
          have e4 : Int.tdiv u 10 = u / 10 := Int.tdiv_eq_ediv_of_nonneg h2
          have e5 : IntKind.wrap .u64 (u / 10) = u / 10 := su64_id (by omega) (by omega)
          have e6 : IntKind.wrap .u8 ((48 : Int) + IntKind.wrap .u8 (u % 10)) = 48 + u % 10 := by
            show (48 + u % 10 % 256) % 256 = _
            omega
          have hset : (r.set (19 - l.length) (48 + u % 10)).drop (19 - l.length) = (48 + u % 10) :: l := by
            apply List.ext_getElem?
            intro i
            rw [List.getElem?_drop, List.getElem?_set]
            cases i with
            | zero => rw [if_pos (by omega), if_pos (by omega)]; rfl
            | succ i =>
              rw [if_neg (by omega), List.getElem?_cons_succ, ← hd, List.getElem?_drop]
              congr 1
              simp only [hd]
              omega
          rw [num_digitsN.l3]
          rw [if_neg (by decide : ¬ (10 : Int) = 0), e1, if_pos (by omega), if_pos (by omega), if_neg (by decide : ¬ (10 : Int) = 0), e3, e4, e5, e6, e2]
          split at h
          · rename_i h4
            rw [if_pos h4, if_pos (by omega), if_pos (by omega)]
            rw [← h, Nat.zero_add, hset, List.take_of_length_le (by simp; omega)]
          · rename_i h4
            rw [if_neg h4]
            have := num_digits.bl k (u / 10) ((48 + u % 10) :: l) (r.set (19 - l.length) (48 + u % 10)) s (by rw [List.length_set, hr]) (by simp; omega) (by rw [List.length_cons, show 20 - (l.length + 1) = 19 - l.length from by omega]; exact hset) h
            rw [List.length_cons, show (20 : Int) - ((l.length + 1 : Nat) : Int) = 19 - (l.length : Int) from by omega] at this
            exact this
        · cases h
      · cases h
    · cases h
def num_digits.c : Sym.Callee := ⟨(.cons (.int .u64) .nil), .str, false, ByteArray, fun k x => num_digits.f k x.1, fun y => y, []⟩
theorem num_digits.ok : CalleeOk Tryz.prog 80 num_digits.c := num_digitsN.ok.weaken fun k x r h => num_digits.bl k x.1 [] (List.replicate 20 0) r (by simp) (by simp) (by simp) h
def num_Tell.c : Sym.Callee := ⟨(.cons (.int .i64) .nil), .str, false, ByteArray, fun k x => num_Tell.f k x.1, fun z => z, []⟩
def num_Tell.nf (k : Nat) (a0 : Int) : Option (ByteArray) := (if a0 < (0 : Int) then ((num_digits.f k (IntKind.wrap .u64 (-(IntKind.wrap .u64 (a0))))).bind fun t1 => (if (⟨#[45]⟩ : ByteArray).size + t1.size ≤ 9223372036854775807 then (some ((⟨#[45]⟩ : ByteArray) ++ t1)) else none)) else ((num_digits.f k (IntKind.wrap .u64 (a0))).bind fun t2 => (some t2)))
noncomputable def num_Tell.E : Env (ByteArray) := envOf tab Tryz.f51 false .str [] (fun y => y) [(80, num_digits.c)] [] []
theorem num_Tell.h1 : obls num_Tell.E Tryz.f51 = [] := by kernel_rfl
theorem num_Tell.h2 : (fun k (x : El (.cons (.int .i64) .nil)) => num_Tell.nf k x.1) = fun k x => mainK num_Tell.E Tryz.f51 (.cons (.int .i64) .nil) k x := by kernel_rfl
set_option maxHeartbeats 2000000 in
theorem num_Tell.bf (k : Nat) (a0 : Int) : Lo (num_Tell.f k a0) (num_Tell.nf k a0) := by
  unfold num_Tell.f num_Tell.nf
  try simp only [Bool.false_xor, Bool.true_xor, wu8_64, wu8_u64, byL_nums, btS_bt, nil_tl, beq_decL, beq_decI]
  repeat' first
    | (with_reducible exact lo_refl _)
    | exact lo_none _
    | (with_reducible refine lo_ite (fun _ => ?_) (fun _ => ?_))
    | (with_reducible refine lo_bind (fun _ => ?_))
    | (with_reducible refine lo_left ?_)
    | (refine lo_pos (by first | assumption | omega) ?_)
    | (refine lo_neg (by first | assumption | omega) ?_)
    | (with_reducible refine lo_test (fun _ => by first | assumption | omega) (fun _ => ?_))
    | exact lo_refl _
    | refine lo_ite (fun _ => ?_) (fun _ => ?_)
    | refine lo_bind (fun _ => ?_)
    | (refine lo_some ?_; first | rfl | (rw [Bool.false_xor]; rfl))
  all_goals (exfalso; first | omega | (simp_all; done) | (simp_all; omega))
theorem num_Tell.al : AllLe (obls num_Tell.E Tryz.f51) := by
  rw [num_Tell.h1]
  exact .nil
theorem num_Tell.ok : CalleeOk Tryz.prog 51 num_Tell.c := fn_ok tabOk mixed (fun _ => rfl) Tryz.func51 rfl (by kernel_rfl) (ok_cons num_digits.ok ok_nil) num_Tell.al (fun k x r h => (congrFun (congrFun num_Tell.h2 k) x).symm.trans (num_Tell.bf k _ r h))
def stringslite_HasPrefix.c : Sym.Callee := ⟨(.cons .str (.cons .str .nil)), .bool, false, Bool, fun k x => stringslite_HasPrefix.f x.1 x.2.1, fun z => z, []⟩
def stringslite_HasPrefix.nf (k : Nat) (a0 : ByteArray) (a1 : ByteArray) : Option (Bool) := (if (a0.size : Int) ≥ (a1.size : Int) then (if 0 ≤ (a1.size : Int) then (if (a1.size : Int) ≤ (a0.size : Int) then (some (xor false (decide ((a0.extract 0 ((a1.size : Int)).toNat).toList = a1.toList)))) else none) else none) else (some false))
noncomputable def stringslite_HasPrefix.E : Env (Bool) := envOf tab Tryz.f104 false .bool [] (fun y => y) [] [] []
theorem stringslite_HasPrefix.h1 : obls stringslite_HasPrefix.E Tryz.f104 = [] := by kernel_rfl
theorem stringslite_HasPrefix.h2 : (fun k (x : El (.cons .str (.cons .str .nil))) => stringslite_HasPrefix.nf k x.1 x.2.1) = fun k x => mainK stringslite_HasPrefix.E Tryz.f104 (.cons .str (.cons .str .nil)) k x := by kernel_rfl
set_option maxHeartbeats 2000000 in
theorem stringslite_HasPrefix.bf (k : Nat) (a0 : ByteArray) (a1 : ByteArray) : Lo (stringslite_HasPrefix.f a0 a1) (stringslite_HasPrefix.nf k a0 a1) := by
  unfold stringslite_HasPrefix.f stringslite_HasPrefix.nf
  try simp only [Bool.false_xor, Bool.true_xor, wu8_64, wu8_u64, byL_nums, btS_bt, nil_tl, beq_decL, beq_decI]
  repeat' first
    | (with_reducible exact lo_refl _)
    | exact lo_none _
    | (with_reducible refine lo_ite (fun _ => ?_) (fun _ => ?_))
    | (with_reducible refine lo_bind (fun _ => ?_))
    | (with_reducible refine lo_left ?_)
    | (refine lo_pos (by first | assumption | omega) ?_)
    | (refine lo_neg (by first | assumption | omega) ?_)
    | (with_reducible refine lo_test (fun _ => by first | assumption | omega) (fun _ => ?_))
    | exact lo_refl _
    | refine lo_ite (fun _ => ?_) (fun _ => ?_)
    | refine lo_bind (fun _ => ?_)
    | (refine lo_some ?_; first | rfl | (rw [Bool.false_xor]; rfl))
  all_goals (exfalso; first | omega | (simp_all; done) | (simp_all; omega))
theorem stringslite_HasPrefix.al : AllLe (obls stringslite_HasPrefix.E Tryz.f104) := by
  rw [stringslite_HasPrefix.h1]
  exact .nil
theorem stringslite_HasPrefix.ok : CalleeOk Tryz.prog 104 stringslite_HasPrefix.c := fn_ok tabOk mixed (fun _ => rfl) Tryz.func104 rfl (by kernel_rfl) ok_nil stringslite_HasPrefix.al (fun k x r h => (congrFun (congrFun stringslite_HasPrefix.h2 k) x).symm.trans (stringslite_HasPrefix.bf k _ _ r h))
def stringslite_CutPrefix.c : Sym.Callee := ⟨(.cons .str (.cons .str .nil)), (.cons .str (.cons .bool .nil)), true, ByteArray × Bool, fun k x => stringslite_CutPrefix.f x.1 x.2.1, fun z => (z.1, z.2, ()), []⟩
def stringslite_CutPrefix.nf (k : Nat) (a0 : ByteArray) (a1 : ByteArray) : Option (ByteArray × Bool) := ((stringslite_HasPrefix.f a0 a1).bind fun t1 => (if (!t1) = true then (some (a0, false)) else (if 0 ≤ (a1.size : Int) then (if (a1.size : Int) ≤ (a0.size : Int) then (some ((a0.extract ((a1.size : Int)).toNat a0.size), true)) else none) else none)))
noncomputable def stringslite_CutPrefix.E : Env (ByteArray × Bool) := envOf tab Tryz.f79 true (.cons .str (.cons .bool .nil)) [] (fun y => (y.1, y.2.1)) [(104, stringslite_HasPrefix.c)] [] []
theorem stringslite_CutPrefix.h1 : obls stringslite_CutPrefix.E Tryz.f79 = [] := by kernel_rfl
theorem stringslite_CutPrefix.h2 : (fun k (x : El (.cons .str (.cons .str .nil))) => stringslite_CutPrefix.nf k x.1 x.2.1) = fun k x => mainK stringslite_CutPrefix.E Tryz.f79 (.cons .str (.cons .str .nil)) k x := by kernel_rfl
set_option maxHeartbeats 2000000 in
theorem stringslite_CutPrefix.bf (k : Nat) (a0 : ByteArray) (a1 : ByteArray) : Lo (stringslite_CutPrefix.f a0 a1) (stringslite_CutPrefix.nf k a0 a1) := by
  unfold stringslite_CutPrefix.f stringslite_CutPrefix.nf
  try simp only [Bool.false_xor, Bool.true_xor, wu8_64, wu8_u64, byL_nums, btS_bt, nil_tl, beq_decL, beq_decI]
  repeat' first
    | (with_reducible exact lo_refl _)
    | exact lo_none _
    | (with_reducible refine lo_lpos (by first | assumption | decide) ?_)
    | (with_reducible refine lo_lneg (by first | assumption | decide) ?_)
    | (with_reducible refine lo_ite (fun _ => ?_) (fun _ => ?_))
    | (with_reducible refine lo_bind (fun _ => ?_))
    | (with_reducible refine lo_left ?_)
    | (refine lo_neg (by decide) ?_)
    | (refine lo_pos (by first | assumption | omega) ?_)
    | (refine lo_neg (by first | assumption | omega) ?_)
    | (with_reducible refine lo_test (fun _ => by first | assumption | omega | (simp only [List.length_cons, List.length_nil]; omega) | decide) (fun _ => ?_))
    | (with_reducible refine lo_testn (fun _ => by first | assumption | omega) (fun _ => ?_))
    | (with_reducible refine lo_and (fun z => by first | exact z.1 | omega) (fun z => by first | exact z.2 | omega) (fun _ => ?_))
    | exact lo_refl _
    | (with_reducible refine lo_iff (by first | exact Iff.rfl | omega | (simp; done) | decide) (fun _ => ?_) (fun _ => ?_))
    | (with_reducible refine lo_iffn (by first | exact Iff.rfl | omega | (simp; done) | decide) (fun _ => ?_) (fun _ => ?_))
    | refine lo_ite (fun _ => ?_) (fun _ => ?_)
    | refine lo_bind (fun _ => ?_)
    | (refine lo_some ?_; first | rfl | (rw [Bool.false_xor]; rfl) | (rw [Bool.true_xor]; rfl) | (simp only [Bool.and_true]; rfl) | (simp; done))
    | (simp only [Int.zero_sub]; exact lo_refl _)
    | (with_reducible refine lo_lpos (by omega) ?_)
    | (with_reducible refine lo_lneg (by omega) ?_)
    | (with_reducible refine lo_lite (fun _ => ?_) (fun _ => ?_))
    | (with_reducible refine lo_rite (fun _ => ?_) (fun _ => ?_))
  all_goals (exfalso; first | omega | (simp_all; done) | (simp_all; omega))
theorem stringslite_CutPrefix.al : AllLe (obls stringslite_CutPrefix.E Tryz.f79) := by
  rw [stringslite_CutPrefix.h1]
  exact .nil
theorem stringslite_CutPrefix.ok : CalleeOk Tryz.prog 79 stringslite_CutPrefix.c := fn_ok tabOk mixed (fun _ => rfl) Tryz.func79 rfl (by kernel_rfl) (ok_cons stringslite_HasPrefix.ok ok_nil) stringslite_CutPrefix.al (fun k x r h => (congrFun (congrFun stringslite_CutPrefix.h2 k) x).symm.trans (stringslite_CutPrefix.bf k _ _ r h))
def strings_CutPrefix.c : Sym.Callee := ⟨(.cons .str (.cons .str .nil)), (.cons .str (.cons .bool .nil)), true, ByteArray × Bool, fun k x => strings_CutPrefix.f x.1 x.2.1, fun z => (z.1, z.2, ()), []⟩
def strings_CutPrefix.nf (k : Nat) (a0 : ByteArray) (a1 : ByteArray) : Option (ByteArray × Bool) := ((stringslite_CutPrefix.f a0 a1).bind fun t1 => (some (t1.1, t1.2)))
noncomputable def strings_CutPrefix.E : Env (ByteArray × Bool) := envOf tab Tryz.f50 true (.cons .str (.cons .bool .nil)) [] (fun y => (y.1, y.2.1)) [(79, stringslite_CutPrefix.c)] [] []
theorem strings_CutPrefix.h1 : obls strings_CutPrefix.E Tryz.f50 = [] := by kernel_rfl
theorem strings_CutPrefix.h2 : (fun k (x : El (.cons .str (.cons .str .nil))) => strings_CutPrefix.nf k x.1 x.2.1) = fun k x => mainK strings_CutPrefix.E Tryz.f50 (.cons .str (.cons .str .nil)) k x := by kernel_rfl
set_option maxHeartbeats 2000000 in
theorem strings_CutPrefix.bf (k : Nat) (a0 : ByteArray) (a1 : ByteArray) : Lo (strings_CutPrefix.f a0 a1) (strings_CutPrefix.nf k a0 a1) := by
  unfold strings_CutPrefix.f strings_CutPrefix.nf
  try simp only [Bool.false_xor, Bool.true_xor, wu8_64, wu8_u64, byL_nums, btS_bt, nil_tl, beq_decL, beq_decI]
  repeat' first
    | (with_reducible exact lo_refl _)
    | exact lo_none _
    | (with_reducible refine lo_ite (fun _ => ?_) (fun _ => ?_))
    | (with_reducible refine lo_bind (fun _ => ?_))
    | (with_reducible refine lo_left ?_)
    | (refine lo_pos (by first | assumption | omega) ?_)
    | (refine lo_neg (by first | assumption | omega) ?_)
    | (with_reducible refine lo_test (fun _ => by first | assumption | omega) (fun _ => ?_))
    | exact lo_refl _
    | refine lo_ite (fun _ => ?_) (fun _ => ?_)
    | refine lo_bind (fun _ => ?_)
    | (refine lo_some ?_; first | rfl | (rw [Bool.false_xor]; rfl))
  all_goals (exfalso; first | omega | (simp_all; done) | (simp_all; omega))
theorem strings_CutPrefix.al : AllLe (obls strings_CutPrefix.E Tryz.f50) := by
  rw [strings_CutPrefix.h1]
  exact .nil
theorem strings_CutPrefix.ok : CalleeOk Tryz.prog 50 strings_CutPrefix.c := fn_ok tabOk mixed (fun _ => rfl) Tryz.func50 rfl (by kernel_rfl) (ok_cons stringslite_CutPrefix.ok ok_nil) strings_CutPrefix.al (fun k x r h => (congrFun (congrFun strings_CutPrefix.h2 k) x).symm.trans (strings_CutPrefix.bf k _ _ r h))
def stringslite_HasSuffix.c : Sym.Callee := ⟨(.cons .str (.cons .str .nil)), .bool, false, Bool, fun k x => stringslite_HasSuffix.f x.1 x.2.1, fun z => z, []⟩
def stringslite_HasSuffix.nf (k : Nat) (a0 : ByteArray) (a1 : ByteArray) : Option (Bool) := (if (a0.size : Int) ≥ (a1.size : Int) then (if 0 ≤ (wrap64 ((a0.size : Int) - (a1.size : Int))) then (if (wrap64 ((a0.size : Int) - (a1.size : Int))) ≤ (a0.size : Int) then (some (xor false (decide ((a0.extract ((wrap64 ((a0.size : Int) - (a1.size : Int)))).toNat a0.size).toList = a1.toList)))) else none) else none) else (some false))
noncomputable def stringslite_HasSuffix.E : Env (Bool) := envOf tab Tryz.f95 false .bool [] (fun y => y) [] [] []
theorem stringslite_HasSuffix.h1 : obls stringslite_HasSuffix.E Tryz.f95 = [] := by kernel_rfl
theorem stringslite_HasSuffix.h2 : (fun k (x : El (.cons .str (.cons .str .nil))) => stringslite_HasSuffix.nf k x.1 x.2.1) = fun k x => mainK stringslite_HasSuffix.E Tryz.f95 (.cons .str (.cons .str .nil)) k x := by kernel_rfl
set_option maxHeartbeats 2000000 in
theorem stringslite_HasSuffix.bf (k : Nat) (a0 : ByteArray) (a1 : ByteArray) : Lo (stringslite_HasSuffix.f a0 a1) (stringslite_HasSuffix.nf k a0 a1) := by
  unfold stringslite_HasSuffix.f stringslite_HasSuffix.nf
  try simp only [Bool.false_xor, Bool.true_xor, wu8_64, wu8_u64, byL_nums, btS_bt, nil_tl, beq_decL, beq_decI]
  repeat' first
    | (with_reducible exact lo_refl _)
    | exact lo_none _
    | (with_reducible refine lo_ite (fun _ => ?_) (fun _ => ?_))
    | (with_reducible refine lo_bind (fun _ => ?_))
    | (with_reducible refine lo_left ?_)
    | (refine lo_pos (by first | assumption | omega) ?_)
    | (refine lo_neg (by first | assumption | omega) ?_)
    | (with_reducible refine lo_test (fun _ => by first | assumption | omega) (fun _ => ?_))
    | exact lo_refl _
    | refine lo_ite (fun _ => ?_) (fun _ => ?_)
    | refine lo_bind (fun _ => ?_)
    | (refine lo_some ?_; first | rfl | (rw [Bool.false_xor]; rfl))
  all_goals (exfalso; first | omega | (simp_all; done) | (simp_all; omega))
theorem stringslite_HasSuffix.al : AllLe (obls stringslite_HasSuffix.E Tryz.f95) := by
  rw [stringslite_HasSuffix.h1]
  exact .nil
theorem stringslite_HasSuffix.ok : CalleeOk Tryz.prog 95 stringslite_HasSuffix.c := fn_ok tabOk mixed (fun _ => rfl) Tryz.func95 rfl (by kernel_rfl) ok_nil stringslite_HasSuffix.al (fun k x r h => (congrFun (congrFun stringslite_HasSuffix.h2 k) x).symm.trans (stringslite_HasSuffix.bf k _ _ r h))
def stringslite_CutSuffix.c : Sym.Callee := ⟨(.cons .str (.cons .str .nil)), (.cons .str (.cons .bool .nil)), true, ByteArray × Bool, fun k x => stringslite_CutSuffix.f x.1 x.2.1, fun z => (z.1, z.2, ()), []⟩
def stringslite_CutSuffix.nf (k : Nat) (a0 : ByteArray) (a1 : ByteArray) : Option (ByteArray × Bool) := ((stringslite_HasSuffix.f a0 a1).bind fun t1 => (if (!t1) = true then (some (a0, false)) else (if 0 ≤ (wrap64 ((a0.size : Int) - (a1.size : Int))) then (if (wrap64 ((a0.size : Int) - (a1.size : Int))) ≤ (a0.size : Int) then (some ((a0.extract 0 ((wrap64 ((a0.size : Int) - (a1.size : Int)))).toNat), true)) else none) else none)))
noncomputable def stringslite_CutSuffix.E : Env (ByteArray × Bool) := envOf tab Tryz.f71 true (.cons .str (.cons .bool .nil)) [] (fun y => (y.1, y.2.1)) [(95, stringslite_HasSuffix.c)] [] []
theorem stringslite_CutSuffix.h1 : obls stringslite_CutSuffix.E Tryz.f71 = [] := by kernel_rfl
theorem stringslite_CutSuffix.h2 : (fun k (x : El (.cons .str (.cons .str .nil))) => stringslite_CutSuffix.nf k x.1 x.2.1) = fun k x => mainK stringslite_CutSuffix.E Tryz.f71 (.cons .str (.cons .str .nil)) k x := by kernel_rfl
set_option maxHeartbeats 2000000 in
theorem stringslite_CutSuffix.bf (k : Nat) (a0 : ByteArray) (a1 : ByteArray) : Lo (stringslite_CutSuffix.f a0 a1) (stringslite_CutSuffix.nf k a0 a1) := by
  unfold stringslite_CutSuffix.f stringslite_CutSuffix.nf
  try simp only [Bool.false_xor, Bool.true_xor, wu8_64, wu8_u64, byL_nums, btS_bt, nil_tl, beq_decL, beq_decI]
  repeat' first
    | (with_reducible exact lo_refl _)
    | exact lo_none _
    | (with_reducible refine lo_lpos (by first | assumption | decide) ?_)
    | (with_reducible refine lo_lneg (by first | assumption | decide) ?_)
    | (with_reducible refine lo_ite (fun _ => ?_) (fun _ => ?_))
    | (with_reducible refine lo_bind (fun _ => ?_))
    | (with_reducible refine lo_left ?_)
    | (refine lo_neg (by decide) ?_)
    | (refine lo_pos (by first | assumption | omega) ?_)
    | (refine lo_neg (by first | assumption | omega) ?_)
    | (with_reducible refine lo_test (fun _ => by first | assumption | omega | (simp only [List.length_cons, List.length_nil]; omega) | decide) (fun _ => ?_))
    | (with_reducible refine lo_testn (fun _ => by first | assumption | omega) (fun _ => ?_))
    | (with_reducible refine lo_and (fun z => by first | exact z.1 | omega) (fun z => by first | exact z.2 | omega) (fun _ => ?_))
    | exact lo_refl _
    | (with_reducible refine lo_iff (by first | exact Iff.rfl | omega | (simp; done) | decide) (fun _ => ?_) (fun _ => ?_))
    | (with_reducible refine lo_iffn (by first | exact Iff.rfl | omega | (simp; done) | decide) (fun _ => ?_) (fun _ => ?_))
    | refine lo_ite (fun _ => ?_) (fun _ => ?_)
    | refine lo_bind (fun _ => ?_)
    | (refine lo_some ?_; first | rfl | (rw [Bool.false_xor]; rfl) | (rw [Bool.true_xor]; rfl) | (simp only [Bool.and_true]; rfl) | (simp; done))
    | (simp only [Int.zero_sub]; exact lo_refl _)
    | (with_reducible refine lo_lpos (by omega) ?_)
    | (with_reducible refine lo_lneg (by omega) ?_)
    | (with_reducible refine lo_lite (fun _ => ?_) (fun _ => ?_))
    | (with_reducible refine lo_rite (fun _ => ?_) (fun _ => ?_))
  all_goals (exfalso; first | omega | (simp_all; done) | (simp_all; omega))
theorem stringslite_CutSuffix.al : AllLe (obls stringslite_CutSuffix.E Tryz.f71) := by
  rw [stringslite_CutSuffix.h1]
  exact .nil
theorem stringslite_CutSuffix.ok : CalleeOk Tryz.prog 71 stringslite_CutSuffix.c := fn_ok tabOk mixed (fun _ => rfl) Tryz.func71 rfl (by kernel_rfl) (ok_cons stringslite_HasSuffix.ok ok_nil) stringslite_CutSuffix.al (fun k x r h => (congrFun (congrFun stringslite_CutSuffix.h2 k) x).symm.trans (stringslite_CutSuffix.bf k _ _ r h))
def strings_CutSuffix.c : Sym.Callee := ⟨(.cons .str (.cons .str .nil)), (.cons .str (.cons .bool .nil)), true, ByteArray × Bool, fun k x => strings_CutSuffix.f x.1 x.2.1, fun z => (z.1, z.2, ()), []⟩
def strings_CutSuffix.nf (k : Nat) (a0 : ByteArray) (a1 : ByteArray) : Option (ByteArray × Bool) := ((stringslite_CutSuffix.f a0 a1).bind fun t1 => (some (t1.1, t1.2)))
noncomputable def strings_CutSuffix.E : Env (ByteArray × Bool) := envOf tab Tryz.f42 true (.cons .str (.cons .bool .nil)) [] (fun y => (y.1, y.2.1)) [(71, stringslite_CutSuffix.c)] [] []
theorem strings_CutSuffix.h1 : obls strings_CutSuffix.E Tryz.f42 = [] := by kernel_rfl
theorem strings_CutSuffix.h2 : (fun k (x : El (.cons .str (.cons .str .nil))) => strings_CutSuffix.nf k x.1 x.2.1) = fun k x => mainK strings_CutSuffix.E Tryz.f42 (.cons .str (.cons .str .nil)) k x := by kernel_rfl
set_option maxHeartbeats 2000000 in
theorem strings_CutSuffix.bf (k : Nat) (a0 : ByteArray) (a1 : ByteArray) : Lo (strings_CutSuffix.f a0 a1) (strings_CutSuffix.nf k a0 a1) := by
  unfold strings_CutSuffix.f strings_CutSuffix.nf
  try simp only [Bool.false_xor, Bool.true_xor, wu8_64, wu8_u64, byL_nums, btS_bt, nil_tl, beq_decL, beq_decI]
  repeat' first
    | (with_reducible exact lo_refl _)
    | exact lo_none _
    | (with_reducible refine lo_ite (fun _ => ?_) (fun _ => ?_))
    | (with_reducible refine lo_bind (fun _ => ?_))
    | (with_reducible refine lo_left ?_)
    | (refine lo_pos (by first | assumption | omega) ?_)
    | (refine lo_neg (by first | assumption | omega) ?_)
    | (with_reducible refine lo_test (fun _ => by first | assumption | omega) (fun _ => ?_))
    | exact lo_refl _
    | refine lo_ite (fun _ => ?_) (fun _ => ?_)
    | refine lo_bind (fun _ => ?_)
    | (refine lo_some ?_; first | rfl | (rw [Bool.false_xor]; rfl))
  all_goals (exfalso; first | omega | (simp_all; done) | (simp_all; omega))
theorem strings_CutSuffix.al : AllLe (obls strings_CutSuffix.E Tryz.f42) := by
  rw [strings_CutSuffix.h1]
  exact .nil
theorem strings_CutSuffix.ok : CalleeOk Tryz.prog 42 strings_CutSuffix.c := fn_ok tabOk mixed (fun _ => rfl) Tryz.func42 rfl (by kernel_rfl) (ok_cons stringslite_CutSuffix.ok ok_nil) strings_CutSuffix.al (fun k x r h => (congrFun (congrFun strings_CutSuffix.h2 k) x).symm.trans (strings_CutSuffix.bf k _ _ r h))
def dec_parted.c : Sym.Callee := ⟨(.cons .str .nil), (.cons .bool (.cons .str (.cons .str (.cons .bool .nil)))), true, Bool × ByteArray × ByteArray × Bool, fun k x => dec_parted.f k x.1, fun z => (z.1, z.2.1, z.2.2.1, z.2.2.2, ()), []⟩
def dec_parted.nf (k : Nat) (a0 : ByteArray) : Option (Bool × ByteArray × ByteArray × Bool) := ((strings_CutPrefix.f a0 (⟨#[45]⟩ : ByteArray)).bind fun t1 => ((num_Lead.f k t1.1).bind fun t2 => (if 0 ≤ t2 then (if t2 ≤ (t1.1.size : Int) then (if 0 ≤ t2 then (if t2 ≤ (t1.1.size : Int) then (if t2 = (0 : Int) then (some (false, (⟨#[]⟩ : ByteArray), (⟨#[]⟩ : ByteArray), false)) else (if t2 > (1 : Int) then (if 0 ≤ (0 : Int) then (if (0 : Int) < (t1.1.size : Int) then (if (btS t1.1 (0 : Int)) = (48 : Int) then (some (false, (⟨#[]⟩ : ByteArray), (⟨#[]⟩ : ByteArray), false)) else (if (t1.1.extract (t2).toNat t1.1.size).toList = (⟨#[]⟩ : ByteArray).toList then (some (t1.2, (t1.1.extract 0 (t2).toNat), (⟨#[]⟩ : ByteArray), true)) else ((strings_CutPrefix.f (t1.1.extract (t2).toNat t1.1.size) (⟨#[46]⟩ : ByteArray)).bind fun t3 => (if (!t3.2) = true then (some (false, (⟨#[]⟩ : ByteArray), (⟨#[]⟩ : ByteArray), false)) else (if t3.1.toList = (⟨#[]⟩ : ByteArray).toList then (some (false, (⟨#[]⟩ : ByteArray), (⟨#[]⟩ : ByteArray), false)) else ((num_Lead.f k t3.1).bind fun t4 => (if t4 < (t3.1.size : Int) then (some (false, (⟨#[]⟩ : ByteArray), (⟨#[]⟩ : ByteArray), false)) else (some (t1.2, (t1.1.extract 0 (t2).toNat), t3.1, true))))))))) else none) else none) else (if (t1.1.extract (t2).toNat t1.1.size).toList = (⟨#[]⟩ : ByteArray).toList then (some (t1.2, (t1.1.extract 0 (t2).toNat), (⟨#[]⟩ : ByteArray), true)) else ((strings_CutPrefix.f (t1.1.extract (t2).toNat t1.1.size) (⟨#[46]⟩ : ByteArray)).bind fun t5 => (if (!t5.2) = true then (some (false, (⟨#[]⟩ : ByteArray), (⟨#[]⟩ : ByteArray), false)) else (if t5.1.toList = (⟨#[]⟩ : ByteArray).toList then (some (false, (⟨#[]⟩ : ByteArray), (⟨#[]⟩ : ByteArray), false)) else ((num_Lead.f k t5.1).bind fun t6 => (if t6 < (t5.1.size : Int) then (some (false, (⟨#[]⟩ : ByteArray), (⟨#[]⟩ : ByteArray), false)) else (some (t1.2, (t1.1.extract 0 (t2).toNat), t5.1, true)))))))))) else none) else none) else none) else none)))
noncomputable def dec_parted.E : Env (Bool × ByteArray × ByteArray × Bool) := envOf tab Tryz.f105 true (.cons .bool (.cons .str (.cons .str (.cons .bool .nil)))) [] (fun y => (y.1, y.2.1, y.2.2.1, y.2.2.2.1)) [(50, strings_CutPrefix.c), (77, num_Lead.c)] [] []
theorem dec_parted.h1 : obls dec_parted.E Tryz.f105 = [] := by kernel_rfl
theorem dec_parted.h2 : (fun k (x : El (.cons .str .nil)) => dec_parted.nf k x.1) = fun k x => mainK dec_parted.E Tryz.f105 (.cons .str .nil) k x := by kernel_rfl
set_option maxHeartbeats 2000000 in
theorem dec_parted.bf (k : Nat) (a0 : ByteArray) : Lo (dec_parted.f k a0) (dec_parted.nf k a0) := by
  unfold dec_parted.f dec_parted.nf
  try simp only [Bool.false_xor, Bool.true_xor, wu8_64, wu8_u64, byL_nums, btS_bt, nil_tl, beq_decL, beq_decI]
  repeat' first
    | (with_reducible exact lo_refl _)
    | exact lo_none _
    | (with_reducible refine lo_lpos (by first | assumption | decide) ?_)
    | (with_reducible refine lo_lneg (by first | assumption | decide) ?_)
    | (with_reducible refine lo_ite (fun _ => ?_) (fun _ => ?_))
    | (with_reducible refine lo_bind (fun _ => ?_))
    | (with_reducible refine lo_left ?_)
    | (refine lo_neg (by decide) ?_)
    | (refine lo_pos (by first | assumption | omega) ?_)
    | (refine lo_neg (by first | assumption | omega) ?_)
    | (refine lo_trans (fun r h => (dec_parted.mono_l _) _ _ _ _ r h) ?_; rw [dec_parted.j0]; try simp only [decide_eq_true_eq])
    | (with_reducible refine lo_test (fun _ => by first | assumption | omega | (simp only [List.length_cons, List.length_nil]; omega) | decide) (fun _ => ?_))
    | (with_reducible refine lo_testn (fun _ => by first | assumption | omega) (fun _ => ?_))
    | (with_reducible refine lo_and (fun z => by first | exact z.1 | omega) (fun z => by first | exact z.2 | omega) (fun _ => ?_))
    | exact lo_refl _
    | (with_reducible refine lo_iff (by first | exact Iff.rfl | omega | (simp; done) | decide) (fun _ => ?_) (fun _ => ?_))
    | (with_reducible refine lo_iffn (by first | exact Iff.rfl | omega | (simp; done) | decide) (fun _ => ?_) (fun _ => ?_))
    | refine lo_ite (fun _ => ?_) (fun _ => ?_)
    | refine lo_bind (fun _ => ?_)
    | (refine lo_some ?_; first | rfl | (rw [Bool.false_xor]; rfl) | (rw [Bool.true_xor]; rfl) | (simp only [Bool.and_true]; rfl) | (simp; done))
    | (simp only [Int.zero_sub]; exact lo_refl _)
    | (with_reducible refine lo_lpos (by omega) ?_)
    | (with_reducible refine lo_lneg (by omega) ?_)
    | (with_reducible refine lo_lite (fun _ => ?_) (fun _ => ?_))
    | (with_reducible refine lo_rite (fun _ => ?_) (fun _ => ?_))
  all_goals (exfalso; first | omega | (simp_all; done) | (simp_all; omega))
theorem dec_parted.al : AllLe (obls dec_parted.E Tryz.f105) := by
  rw [dec_parted.h1]
  exact .nil
theorem dec_parted.ok : CalleeOk Tryz.prog 105 dec_parted.c := fn_ok tabOk mixed (fun _ => rfl) Tryz.func105 rfl (by kernel_rfl) (ok_cons strings_CutPrefix.ok (ok_cons num_Lead.ok ok_nil)) dec_parted.al (fun k x r h => (congrFun (congrFun dec_parted.h2 k) x).symm.trans (dec_parted.bf k _ r h))
def dec_count.c : Sym.Callee := ⟨(.cons .str .nil), (.int .u64), false, Int, fun k x => dec_count.f k x.1, fun z => z, []⟩
def dec_count.nl0 (k : Nat) (x3 : Int) (x7 : List Int) (x8 : Int) (x9 : Int) : Option (Int) := (if x9 < x8 then (if 0 ≤ x9 then (if x9 < (x7.length : Int) then (dec_count.l0 k (IntKind.wrap .u64 ((IntKind.wrap .u64 ((10 : Int) * x3)) + (IntKind.wrap .u64 ((IntKind.wrap .u8 ((x7.getD (x9).toNat 0) - (48 : Int))))))) x7 x8 (wrap64 (x9 + (1 : Int)))) else none) else none) else (some x3))
def dec_count.nf (k : Nat) (a0 : ByteArray) : Option (Int) := (dec_count.l0 k (0 : Int) (byL a0) ((byL a0).length : Int) (0 : Int))
noncomputable def dec_count.E : Env (Int) := envOf tab Tryz.f106 false (.int .u64) [] (fun y => y) [] [⟨3, ⟨21, [(3, (.int .u64), []), (7, (.sl (.int .u8)), []), (8, (.int .i64), []), (9, (.int .i64), [])], [], []⟩, fun k y => dec_count.l0 k y.1.1 y.1.2.1 y.1.2.2.1 y.1.2.2.2.1⟩] []
theorem dec_count.h1 : obls dec_count.E Tryz.f106 = [⟨(.cons (.cons (.int .u64) (.cons (.sl (.int .u8)) (.cons (.int .i64) (.cons (.int .i64) .nil)))) (.cons .nil (.cons .nil .nil))), fun k y => dec_count.l0 (k + 1) y.1.1 y.1.2.1 y.1.2.2.1 y.1.2.2.2.1, fun k y => dec_count.nl0 k y.1.1 y.1.2.1 y.1.2.2.1 y.1.2.2.2.1⟩, ⟨(.cons (.cons (.int .u64) (.cons (.sl (.int .u8)) (.cons (.int .i64) (.cons (.int .i64) .nil)))) (.cons .nil (.cons .nil .nil))), fun _ y => dec_count.l0 0 y.1.1 y.1.2.1 y.1.2.2.1 y.1.2.2.2.1, fun _ _ => none⟩] := by kernel_rfl
theorem dec_count.h2 : (fun k (x : El (.cons .str .nil)) => dec_count.nf k x.1) = fun k x => mainK dec_count.E Tryz.f106 (.cons .str .nil) k x := by kernel_rfl
theorem dec_count.bl0 (k : Nat) (x3 : Int) (x7 : List Int) (x8 : Int) (x9 : Int) : Lo (dec_count.l0 (k + 1) x3 x7 x8 x9) (dec_count.nl0 k x3 x7 x8 x9) := by
  rw [dec_count.l0]
  unfold dec_count.nl0
  try simp only [Bool.false_xor, Bool.true_xor, wu8_64, wu8_u64, byL_nums, btS_bt, nil_tl, beq_decL, beq_decI]
  repeat' first
    | (with_reducible exact lo_refl _)
    | exact lo_none _
    | (with_reducible refine lo_ite (fun _ => ?_) (fun _ => ?_))
    | (with_reducible refine lo_bind (fun _ => ?_))
    | (with_reducible refine lo_left ?_)
    | (refine lo_pos (by first | assumption | omega) ?_)
    | (refine lo_neg (by first | assumption | omega) ?_)
    | (with_reducible refine lo_test (fun _ => by first | assumption | omega) (fun _ => ?_))
    | exact lo_refl _
    | refine lo_ite (fun _ => ?_) (fun _ => ?_)
    | refine lo_bind (fun _ => ?_)
    | (refine lo_some ?_; first | rfl | (rw [Bool.false_xor]; rfl))
  all_goals (exfalso; first | omega | (simp_all; done) | (simp_all; omega))
set_option maxHeartbeats 2000000 in
theorem dec_count.bf (k : Nat) (a0 : ByteArray) : Lo (dec_count.f k a0) (dec_count.nf k a0) := by
  unfold dec_count.f dec_count.nf
  refine lo_lite (fun _ => ?_) (fun _ => lo_none _)
  unfold dec_count.g
  try simp only [Bool.false_xor, Bool.true_xor, wu8_64, wu8_u64, byL_nums, btS_bt, nil_tl, beq_decL, beq_decI]
  repeat' first
    | (with_reducible exact lo_refl _)
    | exact lo_none _
    | (with_reducible refine lo_ite (fun _ => ?_) (fun _ => ?_))
    | (with_reducible refine lo_bind (fun _ => ?_))
    | (with_reducible refine lo_left ?_)
    | (refine lo_pos (by first | assumption | omega) ?_)
    | (refine lo_neg (by first | assumption | omega) ?_)
    | (with_reducible refine lo_test (fun _ => by first | assumption | omega) (fun _ => ?_))
    | exact lo_refl _
    | refine lo_ite (fun _ => ?_) (fun _ => ?_)
    | refine lo_bind (fun _ => ?_)
    | (refine lo_some ?_; first | rfl | (rw [Bool.false_xor]; rfl))
  all_goals (exfalso; first | omega | (simp_all; done) | (simp_all; omega))
theorem dec_count.al : AllLe (obls dec_count.E Tryz.f106) := by
  rw [dec_count.h1]
  exact (.cons (fun k y r h => dec_count.bl0 k y.1.1 y.1.2.1 y.1.2.2.1 y.1.2.2.2.1 r h) (.cons (fun _ y r h => by simp [dec_count.l0] at h) .nil))
theorem dec_count.ok : CalleeOk Tryz.prog 106 dec_count.c := fn_ok tabOk mixed (fun _ => rfl) Tryz.func106 rfl (by kernel_rfl) ok_nil dec_count.al (fun k x r h => (congrFun (congrFun dec_count.h2 k) x).symm.trans (dec_count.bf k _ r h))
def pair_held.c : Sym.Callee := ⟨(.cons (.int .i64) .nil), (.int .i64), false, Int, fun k x => pair_held.f x.1, fun z => z, []⟩
def pair_held.nf (k : Nat) (a0 : Int) : Option (Int) := (some (if (128 : Int) < (if a0 < (0 : Int) then (0 : Int) else a0) then (128 : Int) else (if a0 < (0 : Int) then (0 : Int) else a0)))
noncomputable def pair_held.E : Env (Int) := envOf tab Tryz.f131 false (.int .i64) [] (fun y => y) [] [] []
theorem pair_held.h1 : obls pair_held.E Tryz.f131 = [] := by kernel_rfl
theorem pair_held.h2 : (fun k (x : El (.cons (.int .i64) .nil)) => pair_held.nf k x.1) = fun k x => mainK pair_held.E Tryz.f131 (.cons (.int .i64) .nil) k x := by kernel_rfl
set_option maxHeartbeats 2000000 in
theorem pair_held.bf (k : Nat) (a0 : Int) : Lo (pair_held.f a0) (pair_held.nf k a0) := by
  unfold pair_held.f pair_held.nf
  try simp only [Bool.false_xor, Bool.true_xor, wu8_64, wu8_u64, byL_nums, btS_bt, nil_tl, beq_decL, beq_decI]
  repeat' first
    | (with_reducible exact lo_refl _)
    | exact lo_none _
    | (with_reducible refine lo_ite (fun _ => ?_) (fun _ => ?_))
    | (with_reducible refine lo_bind (fun _ => ?_))
    | (with_reducible refine lo_left ?_)
    | (refine lo_pos (by first | assumption | omega) ?_)
    | (refine lo_neg (by first | assumption | omega) ?_)
    | (with_reducible refine lo_test (fun _ => by first | assumption | omega) (fun _ => ?_))
    | exact lo_refl _
    | refine lo_ite (fun _ => ?_) (fun _ => ?_)
    | refine lo_bind (fun _ => ?_)
    | (refine lo_some ?_; first | rfl | (rw [Bool.false_xor]; rfl))
  all_goals (exfalso; first | omega | (simp_all; done) | (simp_all; omega))
theorem pair_held.al : AllLe (obls pair_held.E Tryz.f131) := by
  rw [pair_held.h1]
  exact .nil
theorem pair_held.ok : CalleeOk Tryz.prog 131 pair_held.c := fn_ok tabOk mixed (fun _ => rfl) Tryz.func131 rfl (by kernel_rfl) ok_nil pair_held.al (fun k x r h => (congrFun (congrFun pair_held.h2 k) x).symm.trans (pair_held.bf k _ r h))
def pair_Shr.c : Sym.Callee := ⟨(.cons (.cons (.int .u64) (.cons (.int .u64) .nil)) (.cons (.int .i64) .nil)), (.cons (.int .u64) (.cons (.int .u64) .nil)), false, Int × Int, fun k x => pair_Shr.f x.1.1 x.1.2.1 x.2.1, fun z => (z.1, z.2, ()), []⟩
def pair_Shr.nf (k : Nat) (a0_0 : Int) (a0_1 : Int) (a1 : Int) : Option (Int × Int) := ((pair_held.f a1).bind fun t1 => (if (IntKind.wrap .u64 (t1)) ≥ (64 : Int) then (if 0 ≤ (0 : Int) then (if (0 : Int) < ((2 : Nat) : Int) then (if (IntKind.wrap .u64 ((IntKind.wrap .u64 (t1)) - (64 : Int))) < 0 then none else (some ((0 : Int), (a0_0 / 2 ^ (min ((IntKind.wrap .u64 ((IntKind.wrap .u64 (t1)) - (64 : Int)))).toNat 64))))) else none) else none) else (if 0 ≤ (0 : Int) then (if (0 : Int) < ((2 : Nat) : Int) then (if (IntKind.wrap .u64 (t1)) < 0 then none else (if 0 ≤ (1 : Int) then (if (1 : Int) < ((2 : Nat) : Int) then (if (IntKind.wrap .u64 (t1)) < 0 then none else (if 0 ≤ (0 : Int) then (if (0 : Int) < ((2 : Nat) : Int) then (if (IntKind.wrap .u64 ((64 : Int) - (IntKind.wrap .u64 (t1)))) < 0 then none else (some ((a0_0 / 2 ^ (min ((IntKind.wrap .u64 (t1))).toNat 64)), (Go.bits .or .u64 (a0_1 / 2 ^ (min ((IntKind.wrap .u64 (t1))).toNat 64)) (IntKind.wrap .u64 (a0_0 * 2 ^ (min ((IntKind.wrap .u64 ((64 : Int) - (IntKind.wrap .u64 (t1))))).toNat 64))))))) else none) else none)) else none) else none)) else none) else none)))
noncomputable def pair_Shr.E : Env (Int × Int) := envOf tab Tryz.f132 false (.cons (.int .u64) (.cons (.int .u64) .nil)) [] (fun y => (y.1, y.2.1)) [(131, pair_held.c)] [] []
theorem pair_Shr.h1 : obls pair_Shr.E Tryz.f132 = [] := by kernel_rfl
theorem pair_Shr.h2 : (fun k (x : El (.cons (.cons (.int .u64) (.cons (.int .u64) .nil)) (.cons (.int .i64) .nil))) => pair_Shr.nf k x.1.1 x.1.2.1 x.2.1) = fun k x => mainK pair_Shr.E Tryz.f132 (.cons (.cons (.int .u64) (.cons (.int .u64) .nil)) (.cons (.int .i64) .nil)) k x := by kernel_rfl
set_option maxHeartbeats 2000000 in
theorem pair_Shr.bf (k : Nat) (a0_0 : Int) (a0_1 : Int) (a1 : Int) : Lo (pair_Shr.f a0_0 a0_1 a1) (pair_Shr.nf k a0_0 a0_1 a1) := by
  unfold pair_Shr.f pair_Shr.nf
  try simp only [Bool.false_xor, Bool.true_xor, wu8_64, wu8_u64, byL_nums, btS_bt, nil_tl, beq_decL, beq_decI]
  repeat' first
    | (with_reducible exact lo_refl _)
    | exact lo_none _
    | (with_reducible refine lo_lpos (by first | assumption | decide) ?_)
    | (with_reducible refine lo_lneg (by first | assumption | decide) ?_)
    | (with_reducible refine lo_ite (fun _ => ?_) (fun _ => ?_))
    | (with_reducible refine lo_bind (fun _ => ?_))
    | (with_reducible refine lo_left ?_)
    | (refine lo_neg (by decide) ?_)
    | (refine lo_pos (by first | assumption | omega) ?_)
    | (refine lo_neg (by first | assumption | omega) ?_)
    | (with_reducible refine lo_test (fun _ => by first | assumption | omega | (simp only [List.length_cons, List.length_nil]; omega) | decide) (fun _ => ?_))
    | (with_reducible refine lo_testn (fun _ => by first | assumption | omega) (fun _ => ?_))
    | (with_reducible refine lo_and (fun z => by first | exact z.1 | omega) (fun z => by first | exact z.2 | omega) (fun _ => ?_))
    | exact lo_refl _
    | (with_reducible refine lo_iff (by first | exact Iff.rfl | omega | (simp; done) | decide) (fun _ => ?_) (fun _ => ?_))
    | (with_reducible refine lo_iffn (by first | exact Iff.rfl | omega | (simp; done) | decide) (fun _ => ?_) (fun _ => ?_))
    | refine lo_ite (fun _ => ?_) (fun _ => ?_)
    | refine lo_bind (fun _ => ?_)
    | (refine lo_some ?_; first | rfl | (rw [Bool.false_xor]; rfl) | (rw [Bool.true_xor]; rfl) | (simp only [Bool.and_true]; rfl) | (simp; done))
    | (simp only [Int.zero_sub]; exact lo_refl _)
    | (with_reducible refine lo_lpos (by omega) ?_)
    | (with_reducible refine lo_lneg (by omega) ?_)
    | (with_reducible refine lo_lite (fun _ => ?_) (fun _ => ?_))
    | (with_reducible refine lo_rite (fun _ => ?_) (fun _ => ?_))
  all_goals (exfalso; first | omega | (simp_all; done) | (simp_all; omega))
theorem pair_Shr.al : AllLe (obls pair_Shr.E Tryz.f132) := by
  rw [pair_Shr.h1]
  exact .nil
theorem pair_Shr.ok : CalleeOk Tryz.prog 132 pair_Shr.c := fn_ok tabOk mixed (fun _ => rfl) Tryz.func132 rfl (by kernel_rfl) (ok_cons pair_held.ok ok_nil) pair_Shr.al (fun k x r h => (congrFun (congrFun pair_Shr.h2 k) x).symm.trans (pair_Shr.bf k _ _ _ r h))
def pair_Shl.c : Sym.Callee := ⟨(.cons (.cons (.int .u64) (.cons (.int .u64) .nil)) (.cons (.int .i64) .nil)), (.cons (.cons (.int .u64) (.cons (.int .u64) .nil)) (.cons .bool .nil)), true, Int × Int × Bool, fun k x => pair_Shl.f x.1.1 x.1.2.1 x.2.1, fun z => ((z.1, z.2.1, ()), z.2.2, ()), []⟩
def pair_Shl.nf (k : Nat) (a0_0 : Int) (a0_1 : Int) (a1 : Int) : Option (Int × Int × Bool) := ((pair_held.f a1).bind fun t1 => (if 0 ≤ (0 : Int) then (if (0 : Int) < ((2 : Nat) : Int) then (if (IntKind.wrap .u64 (t1)) < 0 then none else (if 0 ≤ (1 : Int) then (if (1 : Int) < ((2 : Nat) : Int) then (if (IntKind.wrap .u64 ((64 : Int) - (IntKind.wrap .u64 (t1)))) < 0 then none else (if 0 ≤ (1 : Int) then (if (1 : Int) < ((2 : Nat) : Int) then (if (IntKind.wrap .u64 (t1)) < 0 then none else (if (IntKind.wrap .u64 (t1)) ≥ (64 : Int) then (if 0 ≤ (1 : Int) then (if (1 : Int) < ((2 : Nat) : Int) then (if (IntKind.wrap .u64 ((IntKind.wrap .u64 (t1)) - (64 : Int))) < 0 then none else ((pair_Shr.f (IntKind.wrap .u64 (a0_1 * 2 ^ (min ((IntKind.wrap .u64 ((IntKind.wrap .u64 (t1)) - (64 : Int)))).toNat 64))) (0 : Int) a1).bind fun t2 => (some ((IntKind.wrap .u64 (a0_1 * 2 ^ (min ((IntKind.wrap .u64 ((IntKind.wrap .u64 (t1)) - (64 : Int)))).toNat 64))), (0 : Int), ((decide (t2.1 = a0_0)) && ((decide (t2.2 = a0_1)) && true)))))) else none) else none) else ((pair_Shr.f (Go.bits .or .u64 (IntKind.wrap .u64 (a0_0 * 2 ^ (min ((IntKind.wrap .u64 (t1))).toNat 64))) (a0_1 / 2 ^ (min ((IntKind.wrap .u64 ((64 : Int) - (IntKind.wrap .u64 (t1))))).toNat 64))) (IntKind.wrap .u64 (a0_1 * 2 ^ (min ((IntKind.wrap .u64 (t1))).toNat 64))) a1).bind fun t3 => (some ((Go.bits .or .u64 (IntKind.wrap .u64 (a0_0 * 2 ^ (min ((IntKind.wrap .u64 (t1))).toNat 64))) (a0_1 / 2 ^ (min ((IntKind.wrap .u64 ((64 : Int) - (IntKind.wrap .u64 (t1))))).toNat 64))), (IntKind.wrap .u64 (a0_1 * 2 ^ (min ((IntKind.wrap .u64 (t1))).toNat 64))), ((decide (t3.1 = a0_0)) && ((decide (t3.2 = a0_1)) && true))))))) else none) else none)) else none) else none)) else none) else none))
noncomputable def pair_Shl.E : Env (Int × Int × Bool) := envOf tab Tryz.f120 true (.cons (.cons (.int .u64) (.cons (.int .u64) .nil)) (.cons .bool .nil)) [] (fun y => (y.1.1, y.1.2.1, y.2.1)) [(131, pair_held.c), (132, pair_Shr.c)] [] []
theorem pair_Shl.h1 : obls pair_Shl.E Tryz.f120 = [] := by kernel_rfl
theorem pair_Shl.h2 : (fun k (x : El (.cons (.cons (.int .u64) (.cons (.int .u64) .nil)) (.cons (.int .i64) .nil))) => pair_Shl.nf k x.1.1 x.1.2.1 x.2.1) = fun k x => mainK pair_Shl.E Tryz.f120 (.cons (.cons (.int .u64) (.cons (.int .u64) .nil)) (.cons (.int .i64) .nil)) k x := by kernel_rfl
set_option maxHeartbeats 2000000 in
theorem pair_Shl.bf (k : Nat) (a0_0 : Int) (a0_1 : Int) (a1 : Int) : Lo (pair_Shl.f a0_0 a0_1 a1) (pair_Shl.nf k a0_0 a0_1 a1) := by
  unfold pair_Shl.f pair_Shl.nf
  try simp only [Bool.false_xor, Bool.true_xor, wu8_64, wu8_u64, byL_nums, btS_bt, nil_tl, beq_decL, beq_decI]
  repeat' first
    | (with_reducible exact lo_refl _)
    | exact lo_none _
    | (with_reducible refine lo_lpos (by first | assumption | decide) ?_)
    | (with_reducible refine lo_lneg (by first | assumption | decide) ?_)
    | (with_reducible refine lo_ite (fun _ => ?_) (fun _ => ?_))
    | (with_reducible refine lo_bind (fun _ => ?_))
    | (with_reducible refine lo_left ?_)
    | (refine lo_neg (by decide) ?_)
    | (refine lo_pos (by first | assumption | omega) ?_)
    | (refine lo_neg (by first | assumption | omega) ?_)
    | (with_reducible refine lo_test (fun _ => by first | assumption | omega | (simp only [List.length_cons, List.length_nil]; omega) | decide) (fun _ => ?_))
    | (with_reducible refine lo_testn (fun _ => by first | assumption | omega) (fun _ => ?_))
    | (with_reducible refine lo_and (fun z => by first | exact z.1 | omega) (fun z => by first | exact z.2 | omega) (fun _ => ?_))
    | exact lo_refl _
    | (with_reducible refine lo_iff (by first | exact Iff.rfl | omega | (simp; done) | decide) (fun _ => ?_) (fun _ => ?_))
    | (with_reducible refine lo_iffn (by first | exact Iff.rfl | omega | (simp; done) | decide) (fun _ => ?_) (fun _ => ?_))
    | refine lo_ite (fun _ => ?_) (fun _ => ?_)
    | refine lo_bind (fun _ => ?_)
    | (refine lo_some ?_; first | rfl | (rw [Bool.false_xor]; rfl) | (rw [Bool.true_xor]; rfl) | (simp only [Bool.and_true]; rfl) | (simp; done))
    | (simp only [Int.zero_sub]; exact lo_refl _)
    | (with_reducible refine lo_lpos (by omega) ?_)
    | (with_reducible refine lo_lneg (by omega) ?_)
    | (with_reducible refine lo_lite (fun _ => ?_) (fun _ => ?_))
    | (with_reducible refine lo_rite (fun _ => ?_) (fun _ => ?_))
  all_goals (exfalso; first | omega | (simp_all; done) | (simp_all; omega))
theorem pair_Shl.al : AllLe (obls pair_Shl.E Tryz.f120) := by
  rw [pair_Shl.h1]
  exact .nil
theorem pair_Shl.ok : CalleeOk Tryz.prog 120 pair_Shl.c := fn_ok tabOk mixed (fun _ => rfl) Tryz.func120 rfl (by kernel_rfl) (ok_cons pair_held.ok (ok_cons pair_Shr.ok ok_nil)) pair_Shl.al (fun k x r h => (congrFun (congrFun pair_Shl.h2 k) x).symm.trans (pair_Shl.bf k _ _ _ r h))
def dec_power.c : Sym.Callee := ⟨(.cons (.int .i64) .nil), (.int .u64), false, Int, fun k x => dec_power.f k x.1, fun z => z, []⟩
def dec_power.nl0 (k : Nat) (x3 : Int) (x4 : Int) (x5 : Int) : Option (Int) := (if x5 < x4 then (dec_power.l0 k (IntKind.wrap .u64 (x3 * (10 : Int))) x4 (wrap64 (x5 + (1 : Int)))) else (some x3))
def dec_power.nf (k : Nat) (a0 : Int) : Option (Int) := (dec_power.l0 k (1 : Int) a0 (0 : Int))
noncomputable def dec_power.E : Env (Int) := envOf tab Tryz.f112 false (.int .u64) [] (fun y => y) [] [⟨3, ⟨11, [(3, (.int .u64), []), (4, (.int .i64), []), (5, (.int .i64), [])], [], []⟩, fun k y => dec_power.l0 k y.1.1 y.1.2.1 y.1.2.2.1⟩] []
theorem dec_power.h1 : obls dec_power.E Tryz.f112 = [⟨(.cons (.cons (.int .u64) (.cons (.int .i64) (.cons (.int .i64) .nil))) (.cons .nil (.cons .nil .nil))), fun k y => dec_power.l0 (k + 1) y.1.1 y.1.2.1 y.1.2.2.1, fun k y => dec_power.nl0 k y.1.1 y.1.2.1 y.1.2.2.1⟩, ⟨(.cons (.cons (.int .u64) (.cons (.int .i64) (.cons (.int .i64) .nil))) (.cons .nil (.cons .nil .nil))), fun _ y => dec_power.l0 0 y.1.1 y.1.2.1 y.1.2.2.1, fun _ _ => none⟩] := by kernel_rfl
theorem dec_power.h2 : (fun k (x : El (.cons (.int .i64) .nil)) => dec_power.nf k x.1) = fun k x => mainK dec_power.E Tryz.f112 (.cons (.int .i64) .nil) k x := by kernel_rfl
theorem dec_power.bl0 (k : Nat) (x3 : Int) (x4 : Int) (x5 : Int) : Lo (dec_power.l0 (k + 1) x3 x4 x5) (dec_power.nl0 k x3 x4 x5) := by
  rw [dec_power.l0]
  unfold dec_power.nl0
  try simp only [Bool.false_xor, Bool.true_xor, wu8_64, wu8_u64, byL_nums, btS_bt, nil_tl, beq_decL, beq_decI]
  repeat' first
    | (with_reducible exact lo_refl _)
    | exact lo_none _
    | (with_reducible refine lo_ite (fun _ => ?_) (fun _ => ?_))
    | (with_reducible refine lo_bind (fun _ => ?_))
    | (with_reducible refine lo_left ?_)
    | (refine lo_pos (by first | assumption | omega) ?_)
    | (refine lo_neg (by first | assumption | omega) ?_)
    | (with_reducible refine lo_test (fun _ => by first | assumption | omega) (fun _ => ?_))
    | exact lo_refl _
    | refine lo_ite (fun _ => ?_) (fun _ => ?_)
    | refine lo_bind (fun _ => ?_)
    | (refine lo_some ?_; first | rfl | (rw [Bool.false_xor]; rfl))
  all_goals (exfalso; first | omega | (simp_all; done) | (simp_all; omega))
set_option maxHeartbeats 2000000 in
theorem dec_power.bf (k : Nat) (a0 : Int) : Lo (dec_power.f k a0) (dec_power.nf k a0) := by
  unfold dec_power.f dec_power.nf
  try simp only [Bool.false_xor, Bool.true_xor, wu8_64, wu8_u64, byL_nums, btS_bt, nil_tl, beq_decL, beq_decI]
  repeat' first
    | (with_reducible exact lo_refl _)
    | exact lo_none _
    | (with_reducible refine lo_ite (fun _ => ?_) (fun _ => ?_))
    | (with_reducible refine lo_bind (fun _ => ?_))
    | (with_reducible refine lo_left ?_)
    | (refine lo_pos (by first | assumption | omega) ?_)
    | (refine lo_neg (by first | assumption | omega) ?_)
    | (with_reducible refine lo_test (fun _ => by first | assumption | omega) (fun _ => ?_))
    | exact lo_refl _
    | refine lo_ite (fun _ => ?_) (fun _ => ?_)
    | refine lo_bind (fun _ => ?_)
    | (refine lo_some ?_; first | rfl | (rw [Bool.false_xor]; rfl))
  all_goals (exfalso; first | omega | (simp_all; done) | (simp_all; omega))
theorem dec_power.al : AllLe (obls dec_power.E Tryz.f112) := by
  rw [dec_power.h1]
  exact (.cons (fun k y r h => dec_power.bl0 k y.1.1 y.1.2.1 y.1.2.2.1 r h) (.cons (fun _ y r h => by simp [dec_power.l0] at h) .nil))
theorem dec_power.ok : CalleeOk Tryz.prog 112 dec_power.c := fn_ok tabOk mixed (fun _ => rfl) Tryz.func112 rfl (by kernel_rfl) ok_nil dec_power.al (fun k x r h => (congrFun (congrFun dec_power.h2 k) x).symm.trans (dec_power.bf k _ r h))
def bits_Len64.c : Sym.Callee := ⟨(.cons (.int .u64) .nil), (.int .i64), false, Int, fun k x => bits_Len64.f k x.1, fun z => z, []⟩
def bits_Len64.nj0 (k : Nat) (x0 : Int) (x2 : Int) : Option (Int) := (if x0 ≥ (65536 : Int) then (if (16 : Int) < 0 then none else (if (x0 / 2 ^ (min ((16 : Int)).toNat 64)) ≥ (256 : Int) then (if (8 : Int) < 0 then none else (if 0 ≤ (IntKind.wrap .u8 (((x0 / 2 ^ (min ((16 : Int)).toNat 64)) / 2 ^ (min ((8 : Int)).toNat 64)))) then (if (IntKind.wrap .u8 (((x0 / 2 ^ (min ((16 : Int)).toNat 64)) / 2 ^ (min ((8 : Int)).toNat 64)))) < ((⟨#[0, 1, 2, 2, 3, 3, 3, 3, 4, 4, 4, 4, 4, 4, 4, 4, 5, 5, 5, 5, 5, 5, 5, 5, 5, 5, 5, 5, 5, 5, 5, 5, 6, 6, 6, 6, 6, 6, 6, 6, 6, 6, 6, 6, 6, 6, 6, 6, 6, 6, 6, 6, 6, 6, 6, 6, 6, 6, 6, 6, 6, 6, 6, 6, 7, 7, 7, 7, 7, 7, 7, 7, 7, 7, 7, 7, 7, 7, 7, 7, 7, 7, 7, 7, 7, 7, 7, 7, 7, 7, 7, 7, 7, 7, 7, 7, 7, 7, 7, 7, 7, 7, 7, 7, 7, 7, 7, 7, 7, 7, 7, 7, 7, 7, 7, 7, 7, 7, 7, 7, 7, 7, 7, 7, 7, 7, 7, 7, 8, 8, 8, 8, 8, 8, 8, 8, 8, 8, 8, 8, 8, 8, 8, 8, 8, 8, 8, 8, 8, 8, 8, 8, 8, 8, 8, 8, 8, 8, 8, 8, 8, 8, 8, 8, 8, 8, 8, 8, 8, 8, 8, 8, 8, 8, 8, 8, 8, 8, 8, 8, 8, 8, 8, 8, 8, 8, 8, 8, 8, 8, 8, 8, 8, 8, 8, 8, 8, 8, 8, 8, 8, 8, 8, 8, 8, 8, 8, 8, 8, 8, 8, 8, 8, 8, 8, 8, 8, 8, 8, 8, 8, 8, 8, 8, 8, 8, 8, 8, 8, 8, 8, 8, 8, 8, 8, 8, 8, 8, 8, 8, 8, 8, 8, 8, 8, 8, 8, 8, 8, 8, 8, 8, 8, 8, 8, 8]⟩ : ByteArray).size : Int) then (some (wrap64 ((wrap64 ((wrap64 (x2 + (16 : Int))) + (8 : Int))) + (wrap64 ((btS (⟨#[0, 1, 2, 2, 3, 3, 3, 3, 4, 4, 4, 4, 4, 4, 4, 4, 5, 5, 5, 5, 5, 5, 5, 5, 5, 5, 5, 5, 5, 5, 5, 5, 6, 6, 6, 6, 6, 6, 6, 6, 6, 6, 6, 6, 6, 6, 6, 6, 6, 6, 6, 6, 6, 6, 6, 6, 6, 6, 6, 6, 6, 6, 6, 6, 7, 7, 7, 7, 7, 7, 7, 7, 7, 7, 7, 7, 7, 7, 7, 7, 7, 7, 7, 7, 7, 7, 7, 7, 7, 7, 7, 7, 7, 7, 7, 7, 7, 7, 7, 7, 7, 7, 7, 7, 7, 7, 7, 7, 7, 7, 7, 7, 7, 7, 7, 7, 7, 7, 7, 7, 7, 7, 7, 7, 7, 7, 7, 7, 8, 8, 8, 8, 8, 8, 8, 8, 8, 8, 8, 8, 8, 8, 8, 8, 8, 8, 8, 8, 8, 8, 8, 8, 8, 8, 8, 8, 8, 8, 8, 8, 8, 8, 8, 8, 8, 8, 8, 8, 8, 8, 8, 8, 8, 8, 8, 8, 8, 8, 8, 8, 8, 8, 8, 8, 8, 8, 8, 8, 8, 8, 8, 8, 8, 8, 8, 8, 8, 8, 8, 8, 8, 8, 8, 8, 8, 8, 8, 8, 8, 8, 8, 8, 8, 8, 8, 8, 8, 8, 8, 8, 8, 8, 8, 8, 8, 8, 8, 8, 8, 8, 8, 8, 8, 8, 8, 8, 8, 8, 8, 8, 8, 8, 8, 8, 8, 8, 8, 8, 8, 8, 8, 8, 8, 8, 8, 8]⟩ : ByteArray) (IntKind.wrap .u8 (((x0 / 2 ^ (min ((16 : Int)).toNat 64)) / 2 ^ (min ((8 : Int)).toNat 64)))))))))) else none) else none)) else (if 0 ≤ (IntKind.wrap .u8 ((x0 / 2 ^ (min ((16 : Int)).toNat 64)))) then (if (IntKind.wrap .u8 ((x0 / 2 ^ (min ((16 : Int)).toNat 64)))) < ((⟨#[0, 1, 2, 2, 3, 3, 3, 3, 4, 4, 4, 4, 4, 4, 4, 4, 5, 5, 5, 5, 5, 5, 5, 5, 5, 5, 5, 5, 5, 5, 5, 5, 6, 6, 6, 6, 6, 6, 6, 6, 6, 6, 6, 6, 6, 6, 6, 6, 6, 6, 6, 6, 6, 6, 6, 6, 6, 6, 6, 6, 6, 6, 6, 6, 7, 7, 7, 7, 7, 7, 7, 7, 7, 7, 7, 7, 7, 7, 7, 7, 7, 7, 7, 7, 7, 7, 7, 7, 7, 7, 7, 7, 7, 7, 7, 7, 7, 7, 7, 7, 7, 7, 7, 7, 7, 7, 7, 7, 7, 7, 7, 7, 7, 7, 7, 7, 7, 7, 7, 7, 7, 7, 7, 7, 7, 7, 7, 7, 8, 8, 8, 8, 8, 8, 8, 8, 8, 8, 8, 8, 8, 8, 8, 8, 8, 8, 8, 8, 8, 8, 8, 8, 8, 8, 8, 8, 8, 8, 8, 8, 8, 8, 8, 8, 8, 8, 8, 8, 8, 8, 8, 8, 8, 8, 8, 8, 8, 8, 8, 8, 8, 8, 8, 8, 8, 8, 8, 8, 8, 8, 8, 8, 8, 8, 8, 8, 8, 8, 8, 8, 8, 8, 8, 8, 8, 8, 8, 8, 8, 8, 8, 8, 8, 8, 8, 8, 8, 8, 8, 8, 8, 8, 8, 8, 8, 8, 8, 8, 8, 8, 8, 8, 8, 8, 8, 8, 8, 8, 8, 8, 8, 8, 8, 8, 8, 8, 8, 8, 8, 8, 8, 8, 8, 8, 8, 8]⟩ : ByteArray).size : Int) then (some (wrap64 ((wrap64 (x2 + (16 : Int))) + (wrap64 ((btS (⟨#[0, 1, 2, 2, 3, 3, 3, 3, 4, 4, 4, 4, 4, 4, 4, 4, 5, 5, 5, 5, 5, 5, 5, 5, 5, 5, 5, 5, 5, 5, 5, 5, 6, 6, 6, 6, 6, 6, 6, 6, 6, 6, 6, 6, 6, 6, 6, 6, 6, 6, 6, 6, 6, 6, 6, 6, 6, 6, 6, 6, 6, 6, 6, 6, 7, 7, 7, 7, 7, 7, 7, 7, 7, 7, 7, 7, 7, 7, 7, 7, 7, 7, 7, 7, 7, 7, 7, 7, 7, 7, 7, 7, 7, 7, 7, 7, 7, 7, 7, 7, 7, 7, 7, 7, 7, 7, 7, 7, 7, 7, 7, 7, 7, 7, 7, 7, 7, 7, 7, 7, 7, 7, 7, 7, 7, 7, 7, 7, 8, 8, 8, 8, 8, 8, 8, 8, 8, 8, 8, 8, 8, 8, 8, 8, 8, 8, 8, 8, 8, 8, 8, 8, 8, 8, 8, 8, 8, 8, 8, 8, 8, 8, 8, 8, 8, 8, 8, 8, 8, 8, 8, 8, 8, 8, 8, 8, 8, 8, 8, 8, 8, 8, 8, 8, 8, 8, 8, 8, 8, 8, 8, 8, 8, 8, 8, 8, 8, 8, 8, 8, 8, 8, 8, 8, 8, 8, 8, 8, 8, 8, 8, 8, 8, 8, 8, 8, 8, 8, 8, 8, 8, 8, 8, 8, 8, 8, 8, 8, 8, 8, 8, 8, 8, 8, 8, 8, 8, 8, 8, 8, 8, 8, 8, 8, 8, 8, 8, 8, 8, 8, 8, 8, 8, 8, 8, 8]⟩ : ByteArray) (IntKind.wrap .u8 ((x0 / 2 ^ (min ((16 : Int)).toNat 64)))))))))) else none) else none))) else (if x0 ≥ (256 : Int) then (if (8 : Int) < 0 then none else (if 0 ≤ (IntKind.wrap .u8 ((x0 / 2 ^ (min ((8 : Int)).toNat 64)))) then (if (IntKind.wrap .u8 ((x0 / 2 ^ (min ((8 : Int)).toNat 64)))) < ((⟨#[0, 1, 2, 2, 3, 3, 3, 3, 4, 4, 4, 4, 4, 4, 4, 4, 5, 5, 5, 5, 5, 5, 5, 5, 5, 5, 5, 5, 5, 5, 5, 5, 6, 6, 6, 6, 6, 6, 6, 6, 6, 6, 6, 6, 6, 6, 6, 6, 6, 6, 6, 6, 6, 6, 6, 6, 6, 6, 6, 6, 6, 6, 6, 6, 7, 7, 7, 7, 7, 7, 7, 7, 7, 7, 7, 7, 7, 7, 7, 7, 7, 7, 7, 7, 7, 7, 7, 7, 7, 7, 7, 7, 7, 7, 7, 7, 7, 7, 7, 7, 7, 7, 7, 7, 7, 7, 7, 7, 7, 7, 7, 7, 7, 7, 7, 7, 7, 7, 7, 7, 7, 7, 7, 7, 7, 7, 7, 7, 8, 8, 8, 8, 8, 8, 8, 8, 8, 8, 8, 8, 8, 8, 8, 8, 8, 8, 8, 8, 8, 8, 8, 8, 8, 8, 8, 8, 8, 8, 8, 8, 8, 8, 8, 8, 8, 8, 8, 8, 8, 8, 8, 8, 8, 8, 8, 8, 8, 8, 8, 8, 8, 8, 8, 8, 8, 8, 8, 8, 8, 8, 8, 8, 8, 8, 8, 8, 8, 8, 8, 8, 8, 8, 8, 8, 8, 8, 8, 8, 8, 8, 8, 8, 8, 8, 8, 8, 8, 8, 8, 8, 8, 8, 8, 8, 8, 8, 8, 8, 8, 8, 8, 8, 8, 8, 8, 8, 8, 8, 8, 8, 8, 8, 8, 8, 8, 8, 8, 8, 8, 8, 8, 8, 8, 8, 8, 8]⟩ : ByteArray).size : Int) then (some (wrap64 ((wrap64 (x2 + (8 : Int))) + (wrap64 ((btS (⟨#[0, 1, 2, 2, 3, 3, 3, 3, 4, 4, 4, 4, 4, 4, 4, 4, 5, 5, 5, 5, 5, 5, 5, 5, 5, 5, 5, 5, 5, 5, 5, 5, 6, 6, 6, 6, 6, 6, 6, 6, 6, 6, 6, 6, 6, 6, 6, 6, 6, 6, 6, 6, 6, 6, 6, 6, 6, 6, 6, 6, 6, 6, 6, 6, 7, 7, 7, 7, 7, 7, 7, 7, 7, 7, 7, 7, 7, 7, 7, 7, 7, 7, 7, 7, 7, 7, 7, 7, 7, 7, 7, 7, 7, 7, 7, 7, 7, 7, 7, 7, 7, 7, 7, 7, 7, 7, 7, 7, 7, 7, 7, 7, 7, 7, 7, 7, 7, 7, 7, 7, 7, 7, 7, 7, 7, 7, 7, 7, 8, 8, 8, 8, 8, 8, 8, 8, 8, 8, 8, 8, 8, 8, 8, 8, 8, 8, 8, 8, 8, 8, 8, 8, 8, 8, 8, 8, 8, 8, 8, 8, 8, 8, 8, 8, 8, 8, 8, 8, 8, 8, 8, 8, 8, 8, 8, 8, 8, 8, 8, 8, 8, 8, 8, 8, 8, 8, 8, 8, 8, 8, 8, 8, 8, 8, 8, 8, 8, 8, 8, 8, 8, 8, 8, 8, 8, 8, 8, 8, 8, 8, 8, 8, 8, 8, 8, 8, 8, 8, 8, 8, 8, 8, 8, 8, 8, 8, 8, 8, 8, 8, 8, 8, 8, 8, 8, 8, 8, 8, 8, 8, 8, 8, 8, 8, 8, 8, 8, 8, 8, 8, 8, 8, 8, 8, 8, 8]⟩ : ByteArray) (IntKind.wrap .u8 ((x0 / 2 ^ (min ((8 : Int)).toNat 64)))))))))) else none) else none)) else (if 0 ≤ (IntKind.wrap .u8 (x0)) then (if (IntKind.wrap .u8 (x0)) < ((⟨#[0, 1, 2, 2, 3, 3, 3, 3, 4, 4, 4, 4, 4, 4, 4, 4, 5, 5, 5, 5, 5, 5, 5, 5, 5, 5, 5, 5, 5, 5, 5, 5, 6, 6, 6, 6, 6, 6, 6, 6, 6, 6, 6, 6, 6, 6, 6, 6, 6, 6, 6, 6, 6, 6, 6, 6, 6, 6, 6, 6, 6, 6, 6, 6, 7, 7, 7, 7, 7, 7, 7, 7, 7, 7, 7, 7, 7, 7, 7, 7, 7, 7, 7, 7, 7, 7, 7, 7, 7, 7, 7, 7, 7, 7, 7, 7, 7, 7, 7, 7, 7, 7, 7, 7, 7, 7, 7, 7, 7, 7, 7, 7, 7, 7, 7, 7, 7, 7, 7, 7, 7, 7, 7, 7, 7, 7, 7, 7, 8, 8, 8, 8, 8, 8, 8, 8, 8, 8, 8, 8, 8, 8, 8, 8, 8, 8, 8, 8, 8, 8, 8, 8, 8, 8, 8, 8, 8, 8, 8, 8, 8, 8, 8, 8, 8, 8, 8, 8, 8, 8, 8, 8, 8, 8, 8, 8, 8, 8, 8, 8, 8, 8, 8, 8, 8, 8, 8, 8, 8, 8, 8, 8, 8, 8, 8, 8, 8, 8, 8, 8, 8, 8, 8, 8, 8, 8, 8, 8, 8, 8, 8, 8, 8, 8, 8, 8, 8, 8, 8, 8, 8, 8, 8, 8, 8, 8, 8, 8, 8, 8, 8, 8, 8, 8, 8, 8, 8, 8, 8, 8, 8, 8, 8, 8, 8, 8, 8, 8, 8, 8, 8, 8, 8, 8, 8, 8]⟩ : ByteArray).size : Int) then (some (wrap64 (x2 + (wrap64 ((btS (⟨#[0, 1, 2, 2, 3, 3, 3, 3, 4, 4, 4, 4, 4, 4, 4, 4, 5, 5, 5, 5, 5, 5, 5, 5, 5, 5, 5, 5, 5, 5, 5, 5, 6, 6, 6, 6, 6, 6, 6, 6, 6, 6, 6, 6, 6, 6, 6, 6, 6, 6, 6, 6, 6, 6, 6, 6, 6, 6, 6, 6, 6, 6, 6, 6, 7, 7, 7, 7, 7, 7, 7, 7, 7, 7, 7, 7, 7, 7, 7, 7, 7, 7, 7, 7, 7, 7, 7, 7, 7, 7, 7, 7, 7, 7, 7, 7, 7, 7, 7, 7, 7, 7, 7, 7, 7, 7, 7, 7, 7, 7, 7, 7, 7, 7, 7, 7, 7, 7, 7, 7, 7, 7, 7, 7, 7, 7, 7, 7, 8, 8, 8, 8, 8, 8, 8, 8, 8, 8, 8, 8, 8, 8, 8, 8, 8, 8, 8, 8, 8, 8, 8, 8, 8, 8, 8, 8, 8, 8, 8, 8, 8, 8, 8, 8, 8, 8, 8, 8, 8, 8, 8, 8, 8, 8, 8, 8, 8, 8, 8, 8, 8, 8, 8, 8, 8, 8, 8, 8, 8, 8, 8, 8, 8, 8, 8, 8, 8, 8, 8, 8, 8, 8, 8, 8, 8, 8, 8, 8, 8, 8, 8, 8, 8, 8, 8, 8, 8, 8, 8, 8, 8, 8, 8, 8, 8, 8, 8, 8, 8, 8, 8, 8, 8, 8, 8, 8, 8, 8, 8, 8, 8, 8, 8, 8, 8, 8, 8, 8, 8, 8, 8, 8, 8, 8, 8, 8]⟩ : ByteArray) (IntKind.wrap .u8 (x0)))))))) else none) else none)))
def bits_Len64.nf (k : Nat) (a0 : Int) : Option (Int) := (if a0 ≥ (4294967296 : Int) then (if (32 : Int) < 0 then none else (bits_Len64.j0 k (a0 / 2 ^ (min ((32 : Int)).toNat 64)) (32 : Int))) else (bits_Len64.j0 k a0 (0 : Int)))
noncomputable def bits_Len64.E : Env (Int) := envOf tab Tryz.f139 false (.int .i64) [] (fun y => y) [] [] [⟨4, ⟨25, [(0, (.int .u64), []), (2, (.int .i64), [])], [], []⟩, fun k y => bits_Len64.j0 k y.1.1 y.1.2.1⟩]
theorem bits_Len64.h1 : obls bits_Len64.E Tryz.f139 = [⟨(.cons (.cons (.int .u64) (.cons (.int .i64) .nil)) (.cons .nil (.cons .nil .nil))), fun k y => bits_Len64.j0 (k + 1) y.1.1 y.1.2.1, fun k y => bits_Len64.nj0 k y.1.1 y.1.2.1⟩, ⟨(.cons (.cons (.int .u64) (.cons (.int .i64) .nil)) (.cons .nil (.cons .nil .nil))), fun _ y => bits_Len64.j0 0 y.1.1 y.1.2.1, fun _ _ => none⟩] := by kernel_rfl
theorem bits_Len64.h2 : (fun k (x : El (.cons (.int .u64) .nil)) => bits_Len64.nf k x.1) = fun k x => mainK bits_Len64.E Tryz.f139 (.cons (.int .u64) .nil) k x := by kernel_rfl
theorem len_p32 : (2 : Int) ^ (min ((32 : Int)).toNat 64) = 4294967296 := rfl
theorem len_p16 : (2 : Int) ^ (min ((16 : Int)).toNat 64) = 65536 := rfl
theorem len_p8 : (2 : Int) ^ (min ((8 : Int)).toNat 64) = 256 := rfl
theorem len_w8 (x : Int) : IntKind.wrap .u8 x = x % 256 := rfl
theorem len_bt (s : ByteArray) (i : Int) : btS s i = bt s i := rfl
theorem bits_Len64.bj0 (k : Nat) (x0 : Int) (x2 : Int) : Lo (bits_Len64.j0 (k + 1) x0 x2) (bits_Len64.nj0 k x0 x2) := by
  rw [bits_Len64.j0]
  unfold bits_Len64.nj0
  simp only [len_p32, len_p16, len_p8, len_w8, len_bt]
  try simp only [Bool.false_xor, Bool.true_xor, wu8_64, wu8_u64, byL_nums, btS_bt, nil_tl, beq_decL, beq_decI]
  repeat' first
    | (with_reducible exact lo_refl _)
    | exact lo_none _
    | (with_reducible refine lo_lpos (by first | assumption | decide) ?_)
    | (with_reducible refine lo_lneg (by first | assumption | decide) ?_)
    | (with_reducible refine lo_ite (fun _ => ?_) (fun _ => ?_))
    | (with_reducible refine lo_bind (fun _ => ?_))
    | (with_reducible refine lo_left ?_)
    | (refine lo_neg (by decide) ?_)
    | (refine lo_pos (by first | assumption | omega) ?_)
    | (refine lo_neg (by first | assumption | omega) ?_)
    | (refine lo_trans (fun r h => (bits_Len64.mono_l _) _ _ r h) ?_; rw [bits_Len64.j0]; try simp only [decide_eq_true_eq])
    | (with_reducible refine lo_test (fun _ => by first | assumption | omega | (simp only [List.length_cons, List.length_nil]; omega) | decide) (fun _ => ?_))
    | (with_reducible refine lo_testn (fun _ => by first | assumption | omega) (fun _ => ?_))
    | (with_reducible refine lo_and (fun z => by first | exact z.1 | omega) (fun z => by first | exact z.2 | omega) (fun _ => ?_))
    | exact lo_refl _
    | (with_reducible refine lo_iff (by first | exact Iff.rfl | omega | (simp; done) | decide) (fun _ => ?_) (fun _ => ?_))
    | (with_reducible refine lo_iffn (by first | exact Iff.rfl | omega | (simp; done) | decide) (fun _ => ?_) (fun _ => ?_))
    | refine lo_ite (fun _ => ?_) (fun _ => ?_)
    | refine lo_bind (fun _ => ?_)
    | (refine lo_some ?_; first | rfl | (rw [Bool.false_xor]; rfl) | (rw [Bool.true_xor]; rfl) | (simp only [Bool.and_true]; rfl) | (simp; done))
    | (simp only [Int.zero_sub]; exact lo_refl _)
    | (with_reducible refine lo_lpos (by omega) ?_)
    | (with_reducible refine lo_lneg (by omega) ?_)
    | (with_reducible refine lo_lite (fun _ => ?_) (fun _ => ?_))
    | (with_reducible refine lo_rite (fun _ => ?_) (fun _ => ?_))
  all_goals (exfalso; first | omega | (simp_all; done) | (simp_all; omega))
set_option maxHeartbeats 2000000 in
theorem bits_Len64.bf (k : Nat) (a0 : Int) : Lo (bits_Len64.f k a0) (bits_Len64.nf k a0) := by
  unfold bits_Len64.f bits_Len64.nf
  simp only [len_p32, len_p16, len_p8, len_w8, len_bt]
  try simp only [Bool.false_xor, Bool.true_xor, wu8_64, wu8_u64, byL_nums, btS_bt, nil_tl, beq_decL, beq_decI]
  repeat' first
    | (with_reducible exact lo_refl _)
    | exact lo_none _
    | (with_reducible refine lo_ite (fun _ => ?_) (fun _ => ?_))
    | (with_reducible refine lo_bind (fun _ => ?_))
    | (with_reducible refine lo_left ?_)
    | (refine lo_pos (by first | assumption | omega) ?_)
    | (refine lo_neg (by first | assumption | omega) ?_)
    | (with_reducible refine lo_test (fun _ => by first | assumption | omega) (fun _ => ?_))
    | exact lo_refl _
    | refine lo_ite (fun _ => ?_) (fun _ => ?_)
    | refine lo_bind (fun _ => ?_)
    | (refine lo_some ?_; first | rfl | (rw [Bool.false_xor]; rfl))
  all_goals (exfalso; first | omega | (simp_all; done) | (simp_all; omega))
theorem bits_Len64.al : AllLe (obls bits_Len64.E Tryz.f139) := by
  rw [bits_Len64.h1]
  exact (.cons (fun k y r h => bits_Len64.bj0 k y.1.1 y.1.2.1 r h) (.cons (fun _ y r h => by simp [bits_Len64.j0] at h) .nil))
theorem bits_Len64.ok : CalleeOk Tryz.prog 139 bits_Len64.c := fn_ok tabOk mixed (fun _ => rfl) Tryz.func139 rfl (by kernel_rfl) ok_nil bits_Len64.al (fun k x r h => (congrFun (congrFun bits_Len64.h2 k) x).symm.trans (bits_Len64.bf k _ r h))
def bits_LeadingZeros64.c : Sym.Callee := ⟨(.cons (.int .u64) .nil), (.int .i64), false, Int, fun k x => bits_LeadingZeros64.f k x.1, fun z => z, []⟩
def bits_LeadingZeros64.nf (k : Nat) (a0 : Int) : Option (Int) := ((bits_Len64.f k a0).bind fun t1 => (some (wrap64 ((64 : Int) - t1))))
noncomputable def bits_LeadingZeros64.E : Env (Int) := envOf tab Tryz.f136 false (.int .i64) [] (fun y => y) [(139, bits_Len64.c)] [] []
theorem bits_LeadingZeros64.h1 : obls bits_LeadingZeros64.E Tryz.f136 = [] := by kernel_rfl
theorem bits_LeadingZeros64.h2 : (fun k (x : El (.cons (.int .u64) .nil)) => bits_LeadingZeros64.nf k x.1) = fun k x => mainK bits_LeadingZeros64.E Tryz.f136 (.cons (.int .u64) .nil) k x := by kernel_rfl
set_option maxHeartbeats 2000000 in
theorem bits_LeadingZeros64.bf (k : Nat) (a0 : Int) : Lo (bits_LeadingZeros64.f k a0) (bits_LeadingZeros64.nf k a0) := by
  unfold bits_LeadingZeros64.f bits_LeadingZeros64.nf
  try simp only [Bool.false_xor, Bool.true_xor, wu8_64, wu8_u64, byL_nums, btS_bt, nil_tl, beq_decL, beq_decI]
  repeat' first
    | (with_reducible exact lo_refl _)
    | exact lo_none _
    | (with_reducible refine lo_ite (fun _ => ?_) (fun _ => ?_))
    | (with_reducible refine lo_bind (fun _ => ?_))
    | (with_reducible refine lo_left ?_)
    | (refine lo_pos (by first | assumption | omega) ?_)
    | (refine lo_neg (by first | assumption | omega) ?_)
    | (with_reducible refine lo_test (fun _ => by first | assumption | omega) (fun _ => ?_))
    | exact lo_refl _
    | refine lo_ite (fun _ => ?_) (fun _ => ?_)
    | refine lo_bind (fun _ => ?_)
    | (refine lo_some ?_; first | rfl | (rw [Bool.false_xor]; rfl))
  all_goals (exfalso; first | omega | (simp_all; done) | (simp_all; omega))
theorem bits_LeadingZeros64.al : AllLe (obls bits_LeadingZeros64.E Tryz.f136) := by
  rw [bits_LeadingZeros64.h1]
  exact .nil
theorem bits_LeadingZeros64.ok : CalleeOk Tryz.prog 136 bits_LeadingZeros64.c := fn_ok tabOk mixed (fun _ => rfl) Tryz.func136 rfl (by kernel_rfl) (ok_cons bits_Len64.ok ok_nil) bits_LeadingZeros64.al (fun k x r h => (congrFun (congrFun bits_LeadingZeros64.h2 k) x).symm.trans (bits_LeadingZeros64.bf k _ r h))
def bits_Div64.c : Sym.Callee := ⟨(.cons (.int .u64) (.cons (.int .u64) (.cons (.int .u64) .nil))), (.cons (.int .u64) (.cons (.int .u64) .nil)), true, Int × Int, fun k x => bits_Div64.f k x.1 x.2.1 x.2.2.1, fun z => (z.1, z.2, ()), []⟩
def bits_Div64.nl0 (k : Nat) (x2 : Int) (x8 : Int) (x9 : Int) (x10 : Int) (x11 : Int) (x13 : Int) (x14 : Int) (x15 : Int) (x16 : Int) : Option (Int × Int) := (if x15 ≥ (4294967296 : Int) then (if (IntKind.wrap .u64 (x16 + x9)) ≥ (4294967296 : Int) then (if x9 = 0 then none else (bits_Div64.l1 k x2 x8 x9 x10 x14 (IntKind.wrap .u64 (x15 - (1 : Int))) (IntKind.wrap .u64 ((IntKind.wrap .u64 ((IntKind.wrap .u64 ((IntKind.wrap .u64 (x11 * (4294967296 : Int))) + x13)) - (IntKind.wrap .u64 ((IntKind.wrap .u64 (x15 - (1 : Int))) * x2)))) - (IntKind.wrap .u64 ((IntKind.wrap .u64 (Int.tdiv (IntKind.wrap .u64 ((IntKind.wrap .u64 ((IntKind.wrap .u64 (x11 * (4294967296 : Int))) + x13)) - (IntKind.wrap .u64 ((IntKind.wrap .u64 (x15 - (1 : Int))) * x2)))) x9)) * x9)))) (IntKind.wrap .u64 ((IntKind.wrap .u64 ((IntKind.wrap .u64 (x11 * (4294967296 : Int))) + x13)) - (IntKind.wrap .u64 ((IntKind.wrap .u64 (x15 - (1 : Int))) * x2)))) (IntKind.wrap .u64 (Int.tdiv (IntKind.wrap .u64 ((IntKind.wrap .u64 ((IntKind.wrap .u64 (x11 * (4294967296 : Int))) + x13)) - (IntKind.wrap .u64 ((IntKind.wrap .u64 (x15 - (1 : Int))) * x2)))) x9)))) else (bits_Div64.l0 k x2 x8 x9 x10 x11 x13 x14 (IntKind.wrap .u64 (x15 - (1 : Int))) (IntKind.wrap .u64 (x16 + x9)))) else (if (IntKind.wrap .u64 (x15 * x10)) > (IntKind.wrap .u64 ((IntKind.wrap .u64 ((4294967296 : Int) * x16)) + x13)) then (if (IntKind.wrap .u64 (x16 + x9)) ≥ (4294967296 : Int) then (if x9 = 0 then none else (bits_Div64.l1 k x2 x8 x9 x10 x14 (IntKind.wrap .u64 (x15 - (1 : Int))) (IntKind.wrap .u64 ((IntKind.wrap .u64 ((IntKind.wrap .u64 ((IntKind.wrap .u64 (x11 * (4294967296 : Int))) + x13)) - (IntKind.wrap .u64 ((IntKind.wrap .u64 (x15 - (1 : Int))) * x2)))) - (IntKind.wrap .u64 ((IntKind.wrap .u64 (Int.tdiv (IntKind.wrap .u64 ((IntKind.wrap .u64 ((IntKind.wrap .u64 (x11 * (4294967296 : Int))) + x13)) - (IntKind.wrap .u64 ((IntKind.wrap .u64 (x15 - (1 : Int))) * x2)))) x9)) * x9)))) (IntKind.wrap .u64 ((IntKind.wrap .u64 ((IntKind.wrap .u64 (x11 * (4294967296 : Int))) + x13)) - (IntKind.wrap .u64 ((IntKind.wrap .u64 (x15 - (1 : Int))) * x2)))) (IntKind.wrap .u64 (Int.tdiv (IntKind.wrap .u64 ((IntKind.wrap .u64 ((IntKind.wrap .u64 (x11 * (4294967296 : Int))) + x13)) - (IntKind.wrap .u64 ((IntKind.wrap .u64 (x15 - (1 : Int))) * x2)))) x9)))) else (bits_Div64.l0 k x2 x8 x9 x10 x11 x13 x14 (IntKind.wrap .u64 (x15 - (1 : Int))) (IntKind.wrap .u64 (x16 + x9)))) else (if x9 = 0 then none else (bits_Div64.l1 k x2 x8 x9 x10 x14 x15 (IntKind.wrap .u64 ((IntKind.wrap .u64 ((IntKind.wrap .u64 ((IntKind.wrap .u64 (x11 * (4294967296 : Int))) + x13)) - (IntKind.wrap .u64 (x15 * x2)))) - (IntKind.wrap .u64 ((IntKind.wrap .u64 (Int.tdiv (IntKind.wrap .u64 ((IntKind.wrap .u64 ((IntKind.wrap .u64 (x11 * (4294967296 : Int))) + x13)) - (IntKind.wrap .u64 (x15 * x2)))) x9)) * x9)))) (IntKind.wrap .u64 ((IntKind.wrap .u64 ((IntKind.wrap .u64 (x11 * (4294967296 : Int))) + x13)) - (IntKind.wrap .u64 (x15 * x2)))) (IntKind.wrap .u64 (Int.tdiv (IntKind.wrap .u64 ((IntKind.wrap .u64 ((IntKind.wrap .u64 (x11 * (4294967296 : Int))) + x13)) - (IntKind.wrap .u64 (x15 * x2)))) x9))))))
def bits_Div64.nl1 (k : Nat) (x2 : Int) (x8 : Int) (x9 : Int) (x10 : Int) (x14 : Int) (x15 : Int) (x16 : Int) (x17 : Int) (x18 : Int) : Option (Int × Int) := (if x18 ≥ (4294967296 : Int) then (if (IntKind.wrap .u64 (x16 + x9)) ≥ (4294967296 : Int) then (if x8 < 0 then none else (some ((IntKind.wrap .u64 ((IntKind.wrap .u64 (x15 * (4294967296 : Int))) + (IntKind.wrap .u64 (x18 - (1 : Int))))), ((IntKind.wrap .u64 ((IntKind.wrap .u64 ((IntKind.wrap .u64 (x17 * (4294967296 : Int))) + x14)) - (IntKind.wrap .u64 ((IntKind.wrap .u64 (x18 - (1 : Int))) * x2)))) / 2 ^ (min (x8).toNat 64))))) else (bits_Div64.l1 k x2 x8 x9 x10 x14 x15 (IntKind.wrap .u64 (x16 + x9)) x17 (IntKind.wrap .u64 (x18 - (1 : Int))))) else (if (IntKind.wrap .u64 (x18 * x10)) > (IntKind.wrap .u64 ((IntKind.wrap .u64 ((4294967296 : Int) * x16)) + x14)) then (if (IntKind.wrap .u64 (x16 + x9)) ≥ (4294967296 : Int) then (if x8 < 0 then none else (some ((IntKind.wrap .u64 ((IntKind.wrap .u64 (x15 * (4294967296 : Int))) + (IntKind.wrap .u64 (x18 - (1 : Int))))), ((IntKind.wrap .u64 ((IntKind.wrap .u64 ((IntKind.wrap .u64 (x17 * (4294967296 : Int))) + x14)) - (IntKind.wrap .u64 ((IntKind.wrap .u64 (x18 - (1 : Int))) * x2)))) / 2 ^ (min (x8).toNat 64))))) else (bits_Div64.l1 k x2 x8 x9 x10 x14 x15 (IntKind.wrap .u64 (x16 + x9)) x17 (IntKind.wrap .u64 (x18 - (1 : Int))))) else (if x8 < 0 then none else (some ((IntKind.wrap .u64 ((IntKind.wrap .u64 (x15 * (4294967296 : Int))) + x18)), ((IntKind.wrap .u64 ((IntKind.wrap .u64 ((IntKind.wrap .u64 (x17 * (4294967296 : Int))) + x14)) - (IntKind.wrap .u64 (x18 * x2)))) / 2 ^ (min (x8).toNat 64)))))))
def bits_Div64.nf (k : Nat) (a0 : Int) (a1 : Int) (a2 : Int) : Option (Int × Int) := (if a2 = (0 : Int) then none else (if a2 ≤ a0 then none else (if a0 = (0 : Int) then (if a2 = 0 then none else (if a2 = 0 then none else (some ((IntKind.wrap .u64 (Int.tdiv a1 a2)), (Int.tmod a1 a2))))) else ((bits_LeadingZeros64.f k a2).bind fun t1 => (if (IntKind.wrap .u64 (t1)) < 0 then none else (if (32 : Int) < 0 then none else (if (IntKind.wrap .u64 (t1)) < 0 then none else (if (IntKind.wrap .u64 ((64 : Int) - (IntKind.wrap .u64 (t1)))) < 0 then none else (if (IntKind.wrap .u64 (t1)) < 0 then none else (if (32 : Int) < 0 then none else (if ((IntKind.wrap .u64 (a2 * 2 ^ (min ((IntKind.wrap .u64 (t1))).toNat 64))) / 2 ^ (min ((32 : Int)).toNat 64)) = 0 then none else (bits_Div64.l0 k (IntKind.wrap .u64 (a2 * 2 ^ (min ((IntKind.wrap .u64 (t1))).toNat 64))) (IntKind.wrap .u64 (t1)) ((IntKind.wrap .u64 (a2 * 2 ^ (min ((IntKind.wrap .u64 (t1))).toNat 64))) / 2 ^ (min ((32 : Int)).toNat 64)) (Go.bits .and .u64 (IntKind.wrap .u64 (a2 * 2 ^ (min ((IntKind.wrap .u64 (t1))).toNat 64))) (4294967295 : Int)) (Go.bits .or .u64 (IntKind.wrap .u64 (a0 * 2 ^ (min ((IntKind.wrap .u64 (t1))).toNat 64))) (a1 / 2 ^ (min ((IntKind.wrap .u64 ((64 : Int) - (IntKind.wrap .u64 (t1))))).toNat 64))) ((IntKind.wrap .u64 (a1 * 2 ^ (min ((IntKind.wrap .u64 (t1))).toNat 64))) / 2 ^ (min ((32 : Int)).toNat 64)) (Go.bits .and .u64 (IntKind.wrap .u64 (a1 * 2 ^ (min ((IntKind.wrap .u64 (t1))).toNat 64))) (4294967295 : Int)) (IntKind.wrap .u64 (Int.tdiv (Go.bits .or .u64 (IntKind.wrap .u64 (a0 * 2 ^ (min ((IntKind.wrap .u64 (t1))).toNat 64))) (a1 / 2 ^ (min ((IntKind.wrap .u64 ((64 : Int) - (IntKind.wrap .u64 (t1))))).toNat 64))) ((IntKind.wrap .u64 (a2 * 2 ^ (min ((IntKind.wrap .u64 (t1))).toNat 64))) / 2 ^ (min ((32 : Int)).toNat 64)))) (IntKind.wrap .u64 ((Go.bits .or .u64 (IntKind.wrap .u64 (a0 * 2 ^ (min ((IntKind.wrap .u64 (t1))).toNat 64))) (a1 / 2 ^ (min ((IntKind.wrap .u64 ((64 : Int) - (IntKind.wrap .u64 (t1))))).toNat 64))) - (IntKind.wrap .u64 ((IntKind.wrap .u64 (Int.tdiv (Go.bits .or .u64 (IntKind.wrap .u64 (a0 * 2 ^ (min ((IntKind.wrap .u64 (t1))).toNat 64))) (a1 / 2 ^ (min ((IntKind.wrap .u64 ((64 : Int) - (IntKind.wrap .u64 (t1))))).toNat 64))) ((IntKind.wrap .u64 (a2 * 2 ^ (min ((IntKind.wrap .u64 (t1))).toNat 64))) / 2 ^ (min ((32 : Int)).toNat 64)))) * ((IntKind.wrap .u64 (a2 * 2 ^ (min ((IntKind.wrap .u64 (t1))).toNat 64))) / 2 ^ (min ((32 : Int)).toNat 64))))))))))))))))))
noncomputable def bits_Div64.E : Env (Int × Int) := envOf tab Tryz.f125 true (.cons (.int .u64) (.cons (.int .u64) .nil)) [] (fun y => (y.1, y.2.1)) [(136, bits_LeadingZeros64.c)] [⟨17, ⟨135, [(2, (.int .u64), []), (8, (.int .u64), []), (9, (.int .u64), []), (10, (.int .u64), []), (11, (.int .u64), []), (13, (.int .u64), []), (14, (.int .u64), []), (15, (.int .u64), []), (16, (.int .u64), [])], [], []⟩, fun k y => bits_Div64.l0 k y.1.1 y.1.2.1 y.1.2.2.1 y.1.2.2.2.1 y.1.2.2.2.2.1 y.1.2.2.2.2.2.1 y.1.2.2.2.2.2.2.1 y.1.2.2.2.2.2.2.2.1 y.1.2.2.2.2.2.2.2.2.1⟩, ⟨24, ⟨135, [(2, (.int .u64), []), (8, (.int .u64), []), (9, (.int .u64), []), (10, (.int .u64), []), (14, (.int .u64), []), (15, (.int .u64), []), (16, (.int .u64), []), (17, (.int .u64), []), (18, (.int .u64), [])], [], []⟩, fun k y => bits_Div64.l1 k y.1.1 y.1.2.1 y.1.2.2.1 y.1.2.2.2.1 y.1.2.2.2.2.1 y.1.2.2.2.2.2.1 y.1.2.2.2.2.2.2.1 y.1.2.2.2.2.2.2.2.1 y.1.2.2.2.2.2.2.2.2.1⟩] []
theorem bits_Div64.h1 : obls bits_Div64.E Tryz.f125 = [⟨(.cons (.cons (.int .u64) (.cons (.int .u64) (.cons (.int .u64) (.cons (.int .u64) (.cons (.int .u64) (.cons (.int .u64) (.cons (.int .u64) (.cons (.int .u64) (.cons (.int .u64) .nil))))))))) (.cons .nil (.cons .nil .nil))), fun k y => bits_Div64.l0 (k + 1) y.1.1 y.1.2.1 y.1.2.2.1 y.1.2.2.2.1 y.1.2.2.2.2.1 y.1.2.2.2.2.2.1 y.1.2.2.2.2.2.2.1 y.1.2.2.2.2.2.2.2.1 y.1.2.2.2.2.2.2.2.2.1, fun k y => bits_Div64.nl0 k y.1.1 y.1.2.1 y.1.2.2.1 y.1.2.2.2.1 y.1.2.2.2.2.1 y.1.2.2.2.2.2.1 y.1.2.2.2.2.2.2.1 y.1.2.2.2.2.2.2.2.1 y.1.2.2.2.2.2.2.2.2.1⟩, ⟨(.cons (.cons (.int .u64) (.cons (.int .u64) (.cons (.int .u64) (.cons (.int .u64) (.cons (.int .u64) (.cons (.int .u64) (.cons (.int .u64) (.cons (.int .u64) (.cons (.int .u64) .nil))))))))) (.cons .nil (.cons .nil .nil))), fun _ y => bits_Div64.l0 0 y.1.1 y.1.2.1 y.1.2.2.1 y.1.2.2.2.1 y.1.2.2.2.2.1 y.1.2.2.2.2.2.1 y.1.2.2.2.2.2.2.1 y.1.2.2.2.2.2.2.2.1 y.1.2.2.2.2.2.2.2.2.1, fun _ _ => none⟩, ⟨(.cons (.cons (.int .u64) (.cons (.int .u64) (.cons (.int .u64) (.cons (.int .u64) (.cons (.int .u64) (.cons (.int .u64) (.cons (.int .u64) (.cons (.int .u64) (.cons (.int .u64) .nil))))))))) (.cons .nil (.cons .nil .nil))), fun k y => bits_Div64.l1 (k + 1) y.1.1 y.1.2.1 y.1.2.2.1 y.1.2.2.2.1 y.1.2.2.2.2.1 y.1.2.2.2.2.2.1 y.1.2.2.2.2.2.2.1 y.1.2.2.2.2.2.2.2.1 y.1.2.2.2.2.2.2.2.2.1, fun k y => bits_Div64.nl1 k y.1.1 y.1.2.1 y.1.2.2.1 y.1.2.2.2.1 y.1.2.2.2.2.1 y.1.2.2.2.2.2.1 y.1.2.2.2.2.2.2.1 y.1.2.2.2.2.2.2.2.1 y.1.2.2.2.2.2.2.2.2.1⟩, ⟨(.cons (.cons (.int .u64) (.cons (.int .u64) (.cons (.int .u64) (.cons (.int .u64) (.cons (.int .u64) (.cons (.int .u64) (.cons (.int .u64) (.cons (.int .u64) (.cons (.int .u64) .nil))))))))) (.cons .nil (.cons .nil .nil))), fun _ y => bits_Div64.l1 0 y.1.1 y.1.2.1 y.1.2.2.1 y.1.2.2.2.1 y.1.2.2.2.2.1 y.1.2.2.2.2.2.1 y.1.2.2.2.2.2.2.1 y.1.2.2.2.2.2.2.2.1 y.1.2.2.2.2.2.2.2.2.1, fun _ _ => none⟩] := by kernel_rfl
theorem bits_Div64.h2 : (fun k (x : El (.cons (.int .u64) (.cons (.int .u64) (.cons (.int .u64) .nil)))) => bits_Div64.nf k x.1 x.2.1 x.2.2.1) = fun k x => mainK bits_Div64.E Tryz.f125 (.cons (.int .u64) (.cons (.int .u64) (.cons (.int .u64) .nil))) k x := by kernel_rfl
theorem bits_Div64.bl0 (k : Nat) (x2 : Int) (x8 : Int) (x9 : Int) (x10 : Int) (x11 : Int) (x13 : Int) (x14 : Int) (x15 : Int) (x16 : Int) : Lo (bits_Div64.l0 (k + 1) x2 x8 x9 x10 x11 x13 x14 x15 x16) (bits_Div64.nl0 k x2 x8 x9 x10 x11 x13 x14 x15 x16) := by
  rw [bits_Div64.l0]
  unfold bits_Div64.nl0
  try simp only [Bool.false_xor, Bool.true_xor, wu8_64, wu8_u64, byL_nums, btS_bt, nil_tl, beq_decL, beq_decI]
  repeat' first
    | (with_reducible exact lo_refl _)
    | exact lo_none _
    | (with_reducible refine lo_lpos (by first | assumption | decide) ?_)
    | (with_reducible refine lo_lneg (by first | assumption | decide) ?_)
    | (with_reducible refine lo_ite (fun _ => ?_) (fun _ => ?_))
    | (with_reducible refine lo_bind (fun _ => ?_))
    | (with_reducible refine lo_left ?_)
    | (refine lo_neg (by decide) ?_)
    | (refine lo_pos (by first | assumption | omega) ?_)
    | (refine lo_neg (by first | assumption | omega) ?_)
    | (refine lo_trans (fun r h => (bits_Div64.mono_l _).1 _ _ _ _ _ _ _ _ r h) ?_; rw [bits_Div64.j2]; try simp only [decide_eq_true_eq])
    | (refine lo_trans (fun r h => (bits_Div64.mono_l _).2.2.1 _ _ _ _ _ _ _ _ _ _ r h) ?_; rw [bits_Div64.j4]; try simp only [decide_eq_true_eq])
    | (refine lo_trans (fun r h => (bits_Div64.mono_l _).2.2.2.2 _ _ _ _ _ _ _ _ _ _ r h) ?_; rw [bits_Div64.j1]; try simp only [decide_eq_true_eq])
    | (with_reducible refine lo_test (fun _ => by first | assumption | omega | (simp only [List.length_cons, List.length_nil]; omega) | decide) (fun _ => ?_))
    | (with_reducible refine lo_testn (fun _ => by first | assumption | omega) (fun _ => ?_))
    | (with_reducible refine lo_and (fun z => by first | exact z.1 | omega) (fun z => by first | exact z.2 | omega) (fun _ => ?_))
    | exact lo_refl _
    | (with_reducible refine lo_iff (by first | exact Iff.rfl | omega | (simp; done) | decide) (fun _ => ?_) (fun _ => ?_))
    | (with_reducible refine lo_iffn (by first | exact Iff.rfl | omega | (simp; done) | decide) (fun _ => ?_) (fun _ => ?_))
    | refine lo_ite (fun _ => ?_) (fun _ => ?_)
    | refine lo_bind (fun _ => ?_)
    | (refine lo_some ?_; first | rfl | (rw [Bool.false_xor]; rfl) | (rw [Bool.true_xor]; rfl) | (simp only [Bool.and_true]; rfl) | (simp; done))
    | (simp only [Int.zero_sub]; exact lo_refl _)
    | (with_reducible refine lo_lpos (by omega) ?_)
    | (with_reducible refine lo_lneg (by omega) ?_)
    | (with_reducible refine lo_lite (fun _ => ?_) (fun _ => ?_))
    | (with_reducible refine lo_rite (fun _ => ?_) (fun _ => ?_))
  all_goals (exfalso; first | omega | (simp_all; done) | (simp_all; omega))
theorem bits_Div64.bl1 (k : Nat) (x2 : Int) (x8 : Int) (x9 : Int) (x10 : Int) (x14 : Int) (x15 : Int) (x16 : Int) (x17 : Int) (x18 : Int) : Lo (bits_Div64.l1 (k + 1) x2 x8 x9 x10 x14 x15 x16 x17 x18) (bits_Div64.nl1 k x2 x8 x9 x10 x14 x15 x16 x17 x18) := by
  rw [bits_Div64.l1]
  unfold bits_Div64.nl1
  try simp only [Bool.false_xor, Bool.true_xor, wu8_64, wu8_u64, byL_nums, btS_bt, nil_tl, beq_decL, beq_decI]
  repeat' first
    | (with_reducible exact lo_refl _)
    | exact lo_none _
    | (with_reducible refine lo_lpos (by first | assumption | decide) ?_)
    | (with_reducible refine lo_lneg (by first | assumption | decide) ?_)
    | (with_reducible refine lo_ite (fun _ => ?_) (fun _ => ?_))
    | (with_reducible refine lo_bind (fun _ => ?_))
    | (with_reducible refine lo_left ?_)
    | (refine lo_neg (by decide) ?_)
    | (refine lo_pos (by first | assumption | omega) ?_)
    | (refine lo_neg (by first | assumption | omega) ?_)
    | (refine lo_trans (fun r h => (bits_Div64.mono_l _).1 _ _ _ _ _ _ _ _ r h) ?_; rw [bits_Div64.j2]; try simp only [decide_eq_true_eq])
    | (refine lo_trans (fun r h => (bits_Div64.mono_l _).2.2.1 _ _ _ _ _ _ _ _ _ _ r h) ?_; rw [bits_Div64.j4]; try simp only [decide_eq_true_eq])
    | (refine lo_trans (fun r h => (bits_Div64.mono_l _).2.2.2.2 _ _ _ _ _ _ _ _ _ _ r h) ?_; rw [bits_Div64.j1]; try simp only [decide_eq_true_eq])
    | (with_reducible refine lo_test (fun _ => by first | assumption | omega | (simp only [List.length_cons, List.length_nil]; omega) | decide) (fun _ => ?_))
    | (with_reducible refine lo_testn (fun _ => by first | assumption | omega) (fun _ => ?_))
    | (with_reducible refine lo_and (fun z => by first | exact z.1 | omega) (fun z => by first | exact z.2 | omega) (fun _ => ?_))
    | exact lo_refl _
    | (with_reducible refine lo_iff (by first | exact Iff.rfl | omega | (simp; done) | decide) (fun _ => ?_) (fun _ => ?_))
    | (with_reducible refine lo_iffn (by first | exact Iff.rfl | omega | (simp; done) | decide) (fun _ => ?_) (fun _ => ?_))
    | refine lo_ite (fun _ => ?_) (fun _ => ?_)
    | refine lo_bind (fun _ => ?_)
    | (refine lo_some ?_; first | rfl | (rw [Bool.false_xor]; rfl) | (rw [Bool.true_xor]; rfl) | (simp only [Bool.and_true]; rfl) | (simp; done))
    | (simp only [Int.zero_sub]; exact lo_refl _)
    | (with_reducible refine lo_lpos (by omega) ?_)
    | (with_reducible refine lo_lneg (by omega) ?_)
    | (with_reducible refine lo_lite (fun _ => ?_) (fun _ => ?_))
    | (with_reducible refine lo_rite (fun _ => ?_) (fun _ => ?_))
  all_goals (exfalso; first | omega | (simp_all; done) | (simp_all; omega))
set_option maxHeartbeats 2000000 in
theorem bits_Div64.bf (k : Nat) (a0 : Int) (a1 : Int) (a2 : Int) : Lo (bits_Div64.f k a0 a1 a2) (bits_Div64.nf k a0 a1 a2) := by
  unfold bits_Div64.f bits_Div64.nf
  try simp only [Bool.false_xor, Bool.true_xor, wu8_64, wu8_u64, byL_nums, btS_bt, nil_tl, beq_decL, beq_decI]
  repeat' first
    | (with_reducible exact lo_refl _)
    | exact lo_none _
    | (with_reducible refine lo_lpos (by first | assumption | decide) ?_)
    | (with_reducible refine lo_lneg (by first | assumption | decide) ?_)
    | (with_reducible refine lo_ite (fun _ => ?_) (fun _ => ?_))
    | (with_reducible refine lo_bind (fun _ => ?_))
    | (with_reducible refine lo_left ?_)
    | (refine lo_neg (by decide) ?_)
    | (refine lo_pos (by first | assumption | omega) ?_)
    | (refine lo_neg (by first | assumption | omega) ?_)
    | (refine lo_trans (fun r h => (bits_Div64.mono_l _).1 _ _ _ _ _ _ _ _ r h) ?_; rw [bits_Div64.j2]; try simp only [decide_eq_true_eq])
    | (refine lo_trans (fun r h => (bits_Div64.mono_l _).2.2.1 _ _ _ _ _ _ _ _ _ _ r h) ?_; rw [bits_Div64.j4]; try simp only [decide_eq_true_eq])
    | (refine lo_trans (fun r h => (bits_Div64.mono_l _).2.2.2.2 _ _ _ _ _ _ _ _ _ _ r h) ?_; rw [bits_Div64.j1]; try simp only [decide_eq_true_eq])
    | (with_reducible refine lo_test (fun _ => by first | assumption | omega | (simp only [List.length_cons, List.length_nil]; omega) | decide) (fun _ => ?_))
    | (with_reducible refine lo_testn (fun _ => by first | assumption | omega) (fun _ => ?_))
    | (with_reducible refine lo_and (fun z => by first | exact z.1 | omega) (fun z => by first | exact z.2 | omega) (fun _ => ?_))
    | exact lo_refl _
    | (with_reducible refine lo_iff (by first | exact Iff.rfl | omega | (simp; done) | decide) (fun _ => ?_) (fun _ => ?_))
    | (with_reducible refine lo_iffn (by first | exact Iff.rfl | omega | (simp; done) | decide) (fun _ => ?_) (fun _ => ?_))
    | refine lo_ite (fun _ => ?_) (fun _ => ?_)
    | refine lo_bind (fun _ => ?_)
    | (refine lo_some ?_; first | rfl | (rw [Bool.false_xor]; rfl) | (rw [Bool.true_xor]; rfl) | (simp only [Bool.and_true]; rfl) | (simp; done))
    | (simp only [Int.zero_sub]; exact lo_refl _)
    | (with_reducible refine lo_lpos (by omega) ?_)
    | (with_reducible refine lo_lneg (by omega) ?_)
    | (with_reducible refine lo_lite (fun _ => ?_) (fun _ => ?_))
    | (with_reducible refine lo_rite (fun _ => ?_) (fun _ => ?_))
  all_goals (exfalso; first | omega | (simp_all; done) | (simp_all; omega))
theorem bits_Div64.al : AllLe (obls bits_Div64.E Tryz.f125) := by
  rw [bits_Div64.h1]
  exact (.cons (fun k y r h => bits_Div64.bl0 k y.1.1 y.1.2.1 y.1.2.2.1 y.1.2.2.2.1 y.1.2.2.2.2.1 y.1.2.2.2.2.2.1 y.1.2.2.2.2.2.2.1 y.1.2.2.2.2.2.2.2.1 y.1.2.2.2.2.2.2.2.2.1 r h) (.cons (fun _ y r h => by simp [bits_Div64.l0] at h) (.cons (fun k y r h => bits_Div64.bl1 k y.1.1 y.1.2.1 y.1.2.2.1 y.1.2.2.2.1 y.1.2.2.2.2.1 y.1.2.2.2.2.2.1 y.1.2.2.2.2.2.2.1 y.1.2.2.2.2.2.2.2.1 y.1.2.2.2.2.2.2.2.2.1 r h) (.cons (fun _ y r h => by simp [bits_Div64.l1] at h) .nil))))
theorem bits_Div64.ok : CalleeOk Tryz.prog 125 bits_Div64.c := fn_ok tabOk mixed (fun _ => rfl) Tryz.func125 rfl (by kernel_rfl) (ok_cons bits_LeadingZeros64.ok ok_nil) bits_Div64.al (fun k x r h => (congrFun (congrFun bits_Div64.h2 k) x).symm.trans (bits_Div64.bf k _ _ _ r h))
def half_Over.c : Sym.Callee := ⟨(.cons (.cons (.int .u64) (.cons (.int .u64) .nil)) (.cons (.int .u64) .nil)), (.cons (.int .u64) (.cons (.int .u64) (.cons (.int .i64) .nil))), true, Int × Int × Int, fun k x => half_Over.f k x.1.1 x.1.2.1 x.2.1, fun z => (z.1, z.2.1, z.2.2, ()), []⟩
def half_Over.nf (k : Nat) (a0_0 : Int) (a0_1 : Int) (a1 : Int) : Option (Int × Int × Int) := (if a1 = (0 : Int) then (some ((0 : Int), (0 : Int), (5 : Int))) else (if 0 ≤ (0 : Int) then (if (0 : Int) < ((2 : Nat) : Int) then (if a0_0 ≥ a1 then (some ((0 : Int), (0 : Int), (4 : Int))) else (if 0 ≤ (0 : Int) then (if (0 : Int) < ((2 : Nat) : Int) then (if 0 ≤ (1 : Int) then (if (1 : Int) < ((2 : Nat) : Int) then ((bits_Div64.f k a0_0 a0_1 a1).bind fun t1 => (some (t1.1, t1.2, (0 : Int)))) else none) else none) else none) else none)) else none) else none))
noncomputable def half_Over.E : Env (Int × Int × Int) := envOf tab Tryz.f114 true (.cons (.int .u64) (.cons (.int .u64) (.cons (.int .i64) .nil))) [] (fun y => (y.1, y.2.1, y.2.2.1)) [(125, bits_Div64.c)] [] []
theorem half_Over.h1 : obls half_Over.E Tryz.f114 = [] := by kernel_rfl
theorem half_Over.h2 : (fun k (x : El (.cons (.cons (.int .u64) (.cons (.int .u64) .nil)) (.cons (.int .u64) .nil))) => half_Over.nf k x.1.1 x.1.2.1 x.2.1) = fun k x => mainK half_Over.E Tryz.f114 (.cons (.cons (.int .u64) (.cons (.int .u64) .nil)) (.cons (.int .u64) .nil)) k x := by kernel_rfl
set_option maxHeartbeats 2000000 in
theorem half_Over.bf (k : Nat) (a0_0 : Int) (a0_1 : Int) (a1 : Int) : Lo (half_Over.f k a0_0 a0_1 a1) (half_Over.nf k a0_0 a0_1 a1) := by
  unfold half_Over.f half_Over.nf
  try simp only [Bool.false_xor, Bool.true_xor, wu8_64, wu8_u64, byL_nums, btS_bt, nil_tl, beq_decL, beq_decI]
  repeat' first
    | (with_reducible exact lo_refl _)
    | exact lo_none _
    | (with_reducible refine lo_ite (fun _ => ?_) (fun _ => ?_))
    | (with_reducible refine lo_bind (fun _ => ?_))
    | (with_reducible refine lo_left ?_)
    | (refine lo_pos (by first | assumption | omega) ?_)
    | (refine lo_neg (by first | assumption | omega) ?_)
    | (with_reducible refine lo_test (fun _ => by first | assumption | omega) (fun _ => ?_))
    | exact lo_refl _
    | refine lo_ite (fun _ => ?_) (fun _ => ?_)
    | refine lo_bind (fun _ => ?_)
    | (refine lo_some ?_; first | rfl | (rw [Bool.false_xor]; rfl))
  all_goals (exfalso; first | omega | (simp_all; done) | (simp_all; omega))
theorem half_Over.al : AllLe (obls half_Over.E Tryz.f114) := by
  rw [half_Over.h1]
  exact .nil
theorem half_Over.ok : CalleeOk Tryz.prog 114 half_Over.c := fn_ok tabOk mixed (fun _ => rfl) Tryz.func114 rfl (by kernel_rfl) (ok_cons bits_Div64.ok ok_nil) half_Over.al (fun k x r h => (congrFun (congrFun half_Over.h2 k) x).symm.trans (half_Over.bf k _ _ _ r h))
def half_up.c : Sym.Callee := ⟨(.cons (.int .u64) (.cons (.int .u64) (.cons (.int .u64) .nil))), .bool, false, Bool, fun k x => half_up.f x.1 x.2.1 x.2.2.1, fun z => z, []⟩
def half_up.nf (k : Nat) (a0 : Int) (a1 : Int) (a2 : Int) : Option (Bool) := (if a1 > (IntKind.wrap .u64 (a2 - a1)) then (some true) else (if a1 = (IntKind.wrap .u64 (a2 - a1)) then (if (2 : Int) = 0 then none else (some (xor false (decide ((Int.tmod a0 (2 : Int)) = (1 : Int)))))) else (some false)))
noncomputable def half_up.E : Env (Bool) := envOf tab Tryz.f115 false .bool [] (fun y => y) [] [] []
theorem half_up.h1 : obls half_up.E Tryz.f115 = [] := by kernel_rfl
theorem half_up.h2 : (fun k (x : El (.cons (.int .u64) (.cons (.int .u64) (.cons (.int .u64) .nil)))) => half_up.nf k x.1 x.2.1 x.2.2.1) = fun k x => mainK half_up.E Tryz.f115 (.cons (.int .u64) (.cons (.int .u64) (.cons (.int .u64) .nil))) k x := by kernel_rfl
set_option maxHeartbeats 2000000 in
theorem half_up.bf (k : Nat) (a0 : Int) (a1 : Int) (a2 : Int) : Lo (half_up.f a0 a1 a2) (half_up.nf k a0 a1 a2) := by
  unfold half_up.f half_up.nf
  try simp only [Bool.false_xor, Bool.true_xor, wu8_64, wu8_u64, byL_nums, btS_bt, nil_tl, beq_decL, beq_decI]
  repeat' first
    | (with_reducible exact lo_refl _)
    | exact lo_none _
    | (with_reducible refine lo_ite (fun _ => ?_) (fun _ => ?_))
    | (with_reducible refine lo_bind (fun _ => ?_))
    | (with_reducible refine lo_left ?_)
    | (refine lo_pos (by first | assumption | omega) ?_)
    | (refine lo_neg (by first | assumption | omega) ?_)
    | (with_reducible refine lo_test (fun _ => by first | assumption | omega) (fun _ => ?_))
    | exact lo_refl _
    | refine lo_ite (fun _ => ?_) (fun _ => ?_)
    | refine lo_bind (fun _ => ?_)
    | (refine lo_some ?_; first | rfl | (rw [Bool.false_xor]; rfl))
  all_goals (exfalso; first | omega | (simp_all; done) | (simp_all; omega))
theorem half_up.al : AllLe (obls half_up.E Tryz.f115) := by
  rw [half_up.h1]
  exact .nil
theorem half_up.ok : CalleeOk Tryz.prog 115 half_up.c := fn_ok tabOk mixed (fun _ => rfl) Tryz.func115 rfl (by kernel_rfl) ok_nil half_up.al (fun k x r h => (congrFun (congrFun half_up.h2 k) x).symm.trans (half_up.bf k _ _ _ r h))
def half_Near.c : Sym.Callee := ⟨(.cons (.cons (.int .u64) (.cons (.int .u64) .nil)) (.cons (.int .u64) .nil)), (.cons (.int .u64) (.cons (.int .i64) .nil)), true, Int × Int, fun k x => half_Near.f k x.1.1 x.1.2.1 x.2.1, fun z => (z.1, z.2, ()), []⟩
def half_Near.nf (k : Nat) (a0_0 : Int) (a0_1 : Int) (a1 : Int) : Option (Int × Int) := ((half_Over.f k a0_0 a0_1 a1).bind fun t1 => (if t1.2.2 = (0 : Int) then ((half_up.f t1.1 t1.2.1 a1).bind fun t2 => (if (!t2) = true then (some (t1.1, t1.2.2)) else (if (IntKind.wrap .u64 (t1.1 + (1 : Int))) = (0 : Int) then (some ((0 : Int), (4 : Int))) else (some ((IntKind.wrap .u64 (t1.1 + (1 : Int))), (0 : Int)))))) else (some (t1.1, t1.2.2))))
noncomputable def half_Near.E : Env (Int × Int) := envOf tab Tryz.f93 true (.cons (.int .u64) (.cons (.int .i64) .nil)) [] (fun y => (y.1, y.2.1)) [(114, half_Over.c), (115, half_up.c)] [] []
theorem half_Near.h1 : obls half_Near.E Tryz.f93 = [] := by kernel_rfl
theorem half_Near.h2 : (fun k (x : El (.cons (.cons (.int .u64) (.cons (.int .u64) .nil)) (.cons (.int .u64) .nil))) => half_Near.nf k x.1.1 x.1.2.1 x.2.1) = fun k x => mainK half_Near.E Tryz.f93 (.cons (.cons (.int .u64) (.cons (.int .u64) .nil)) (.cons (.int .u64) .nil)) k x := by kernel_rfl
set_option maxHeartbeats 2000000 in
theorem half_Near.bf (k : Nat) (a0_0 : Int) (a0_1 : Int) (a1 : Int) : Lo (half_Near.f k a0_0 a0_1 a1) (half_Near.nf k a0_0 a0_1 a1) := by
  unfold half_Near.f half_Near.nf
  try simp only [Bool.false_xor, Bool.true_xor, wu8_64, wu8_u64, byL_nums, btS_bt, nil_tl, beq_decL, beq_decI]
  repeat' first
    | (with_reducible exact lo_refl _)
    | exact lo_none _
    | (with_reducible refine lo_lpos (by first | assumption | decide) ?_)
    | (with_reducible refine lo_lneg (by first | assumption | decide) ?_)
    | (with_reducible refine lo_ite (fun _ => ?_) (fun _ => ?_))
    | (with_reducible refine lo_bind (fun _ => ?_))
    | (with_reducible refine lo_left ?_)
    | (refine lo_neg (by decide) ?_)
    | (refine lo_pos (by first | assumption | omega) ?_)
    | (refine lo_neg (by first | assumption | omega) ?_)
    | (refine lo_trans (fun r h => (half_Near.mono_l _) _ _ _ r h) ?_; rw [half_Near.j0]; try simp only [decide_eq_true_eq])
    | (with_reducible refine lo_test (fun _ => by first | assumption | omega | (simp only [List.length_cons, List.length_nil]; omega) | decide) (fun _ => ?_))
    | (with_reducible refine lo_testn (fun _ => by first | assumption | omega) (fun _ => ?_))
    | (with_reducible refine lo_and (fun z => by first | exact z.1 | omega) (fun z => by first | exact z.2 | omega) (fun _ => ?_))
    | exact lo_refl _
    | (with_reducible refine lo_iff (by first | exact Iff.rfl | omega | (simp; done) | decide) (fun _ => ?_) (fun _ => ?_))
    | (with_reducible refine lo_iffn (by first | exact Iff.rfl | omega | (simp; done) | decide) (fun _ => ?_) (fun _ => ?_))
    | refine lo_ite (fun _ => ?_) (fun _ => ?_)
    | refine lo_bind (fun _ => ?_)
    | (refine lo_some ?_; first | rfl | (rw [Bool.false_xor]; rfl) | (rw [Bool.true_xor]; rfl) | (simp only [Bool.and_true]; rfl) | (simp; done))
    | (simp only [Int.zero_sub]; exact lo_refl _)
    | (with_reducible refine lo_lpos (by omega) ?_)
    | (with_reducible refine lo_lneg (by omega) ?_)
    | (with_reducible refine lo_lite (fun _ => ?_) (fun _ => ?_))
    | (with_reducible refine lo_rite (fun _ => ?_) (fun _ => ?_))
  all_goals (exfalso; first | omega | (simp_all; done) | (simp_all; omega))
theorem half_Near.al : AllLe (obls half_Near.E Tryz.f93) := by
  rw [half_Near.h1]
  exact .nil
theorem half_Near.ok : CalleeOk Tryz.prog 93 half_Near.c := fn_ok tabOk mixed (fun _ => rfl) Tryz.func93 rfl (by kernel_rfl) (ok_cons half_Over.ok (ok_cons half_up.ok ok_nil)) half_Near.al (fun k x r h => (congrFun (congrFun half_Near.h2 k) x).symm.trans (half_Near.bf k _ _ _ r h))
def dec_fraction.c : Sym.Callee := ⟨(.cons (.int .u64) (.cons (.int .i64) .nil)), (.int .u64), false, Int, fun k x => dec_fraction.f k x.1 x.2.1, fun z => z, []⟩
def dec_fraction.nf (k : Nat) (a0 : Int) (a1 : Int) : Option (Int) := ((pair_Shl.f (0 : Int) a0 (32 : Int)).bind fun t1 => ((dec_power.f k a1).bind fun t2 => ((half_Near.f k t1.1 t1.2.1 t2).bind fun t3 => (some t3.1))))
noncomputable def dec_fraction.E : Env (Int) := envOf tab Tryz.f107 false (.int .u64) [] (fun y => y) [(120, pair_Shl.c), (112, dec_power.c), (93, half_Near.c)] [] []
theorem dec_fraction.h1 : obls dec_fraction.E Tryz.f107 = [] := by kernel_rfl
theorem dec_fraction.h2 : (fun k (x : El (.cons (.int .u64) (.cons (.int .i64) .nil))) => dec_fraction.nf k x.1 x.2.1) = fun k x => mainK dec_fraction.E Tryz.f107 (.cons (.int .u64) (.cons (.int .i64) .nil)) k x := by kernel_rfl
set_option maxHeartbeats 2000000 in
theorem dec_fraction.bf (k : Nat) (a0 : Int) (a1 : Int) : Lo (dec_fraction.f k a0 a1) (dec_fraction.nf k a0 a1) := by
  unfold dec_fraction.f dec_fraction.nf
  try simp only [Bool.false_xor, Bool.true_xor, wu8_64, wu8_u64, byL_nums, btS_bt, nil_tl, beq_decL, beq_decI]
  repeat' first
    | (with_reducible exact lo_refl _)
    | exact lo_none _
    | (with_reducible refine lo_ite (fun _ => ?_) (fun _ => ?_))
    | (with_reducible refine lo_bind (fun _ => ?_))
    | (with_reducible refine lo_left ?_)
    | (refine lo_pos (by first | assumption | omega) ?_)
    | (refine lo_neg (by first | assumption | omega) ?_)
    | (with_reducible refine lo_test (fun _ => by first | assumption | omega) (fun _ => ?_))
    | exact lo_refl _
    | refine lo_ite (fun _ => ?_) (fun _ => ?_)
    | refine lo_bind (fun _ => ?_)
    | (refine lo_some ?_; first | rfl | (rw [Bool.false_xor]; rfl))
  all_goals (exfalso; first | omega | (simp_all; done) | (simp_all; omega))
theorem dec_fraction.al : AllLe (obls dec_fraction.E Tryz.f107) := by
  rw [dec_fraction.h1]
  exact .nil
theorem dec_fraction.ok : CalleeOk Tryz.prog 107 dec_fraction.c := fn_ok tabOk mixed (fun _ => rfl) Tryz.func107 rfl (by kernel_rfl) (ok_cons pair_Shl.ok (ok_cons dec_power.ok (ok_cons half_Near.ok ok_nil))) dec_fraction.al (fun k x r h => (congrFun (congrFun dec_fraction.h2 k) x).symm.trans (dec_fraction.bf k _ _ r h))
def fix_Signed.c : Sym.Callee := ⟨(.cons (.int .u64) (.cons .bool .nil)), (.cons (.int .i64) (.cons (.int .i64) .nil)), true, Int × Int, fun k x => fix_Signed.f k x.1 x.2.1, fun z => (z.1, z.2, ()), []⟩
def fix_Signed.nf (k : Nat) (a0 : Int) (a1 : Bool) : Option (Int × Int) := (if a1 = true then (if a0 ≤ (9223372036854775808 : Int) then (some ((wrap64 ((IntKind.wrap .u64 (-a0)))), (0 : Int))) else (if (!a1) = true then (if a0 < (9223372036854775808 : Int) then (some ((wrap64 (a0)), (0 : Int))) else (some ((0 : Int), (4 : Int)))) else (some ((0 : Int), (4 : Int))))) else (if (!a1) = true then (if a0 < (9223372036854775808 : Int) then (some ((wrap64 (a0)), (0 : Int))) else (some ((0 : Int), (4 : Int)))) else (some ((0 : Int), (4 : Int)))))
noncomputable def fix_Signed.E : Env (Int × Int) := envOf tab Tryz.f94 true (.cons (.int .i64) (.cons (.int .i64) .nil)) [] (fun y => (y.1, y.2.1)) [] [] []
theorem fix_Signed.h1 : obls fix_Signed.E Tryz.f94 = [] := by kernel_rfl
theorem fix_Signed.h2 : (fun k (x : El (.cons (.int .u64) (.cons .bool .nil))) => fix_Signed.nf k x.1 x.2.1) = fun k x => mainK fix_Signed.E Tryz.f94 (.cons (.int .u64) (.cons .bool .nil)) k x := by kernel_rfl
set_option maxHeartbeats 2000000 in
theorem fix_Signed.bf (k : Nat) (a0 : Int) (a1 : Bool) : Lo (fix_Signed.f k a0 a1) (fix_Signed.nf k a0 a1) := by
  unfold fix_Signed.f fix_Signed.nf
  try simp only [Bool.false_xor, Bool.true_xor, wu8_64, wu8_u64, byL_nums, btS_bt, nil_tl, beq_decL, beq_decI]
  repeat' first
    | (with_reducible exact lo_refl _)
    | exact lo_none _
    | (with_reducible refine lo_lpos (by first | assumption | decide) ?_)
    | (with_reducible refine lo_lneg (by first | assumption | decide) ?_)
    | (with_reducible refine lo_ite (fun _ => ?_) (fun _ => ?_))
    | (with_reducible refine lo_bind (fun _ => ?_))
    | (with_reducible refine lo_left ?_)
    | (refine lo_neg (by decide) ?_)
    | (refine lo_pos (by first | assumption | omega) ?_)
    | (refine lo_neg (by first | assumption | omega) ?_)
    | (refine lo_trans (fun r h => (fix_Signed.mono_l _) _ _ _ r h) ?_; rw [fix_Signed.j0]; try simp only [decide_eq_true_eq])
    | (with_reducible refine lo_test (fun _ => by first | assumption | omega | (simp only [List.length_cons, List.length_nil]; omega) | decide) (fun _ => ?_))
    | (with_reducible refine lo_testn (fun _ => by first | assumption | omega) (fun _ => ?_))
    | (with_reducible refine lo_and (fun z => by first | exact z.1 | omega) (fun z => by first | exact z.2 | omega) (fun _ => ?_))
    | exact lo_refl _
    | (with_reducible refine lo_iff (by first | exact Iff.rfl | omega | (simp; done) | decide) (fun _ => ?_) (fun _ => ?_))
    | (with_reducible refine lo_iffn (by first | exact Iff.rfl | omega | (simp; done) | decide) (fun _ => ?_) (fun _ => ?_))
    | refine lo_ite (fun _ => ?_) (fun _ => ?_)
    | refine lo_bind (fun _ => ?_)
    | (refine lo_some ?_; first | rfl | (rw [Bool.false_xor]; rfl) | (rw [Bool.true_xor]; rfl) | (simp only [Bool.and_true]; rfl) | (simp; done))
    | (simp only [Int.zero_sub]; exact lo_refl _)
    | (with_reducible refine lo_lpos (by omega) ?_)
    | (with_reducible refine lo_lneg (by omega) ?_)
    | (with_reducible refine lo_lite (fun _ => ?_) (fun _ => ?_))
    | (with_reducible refine lo_rite (fun _ => ?_) (fun _ => ?_))
  all_goals (exfalso; first | omega | (simp_all; done) | (simp_all; omega))
theorem fix_Signed.al : AllLe (obls fix_Signed.E Tryz.f94) := by
  rw [fix_Signed.h1]
  exact .nil
theorem fix_Signed.ok : CalleeOk Tryz.prog 94 fix_Signed.c := fn_ok tabOk mixed (fun _ => rfl) Tryz.func94 rfl (by kernel_rfl) ok_nil fix_Signed.al (fun k x r h => (congrFun (congrFun fix_Signed.h2 k) x).symm.trans (fix_Signed.bf k _ _ r h))
def dec_Get.c : Sym.Callee := ⟨(.cons .str .nil), (.cons (.int .i64) (.cons (.int .i64) .nil)), true, Int × Int, fun k x => dec_Get.f k x.1, fun z => (z.1, z.2, ()), []⟩
def dec_Get.nf (k : Nat) (a0 : ByteArray) : Option (Int × Int) := ((dec_parted.f k a0).bind fun t1 => (if (!t1.2.2.2) = true then (some ((0 : Int), (2 : Int))) else (if (t1.2.2.1.size : Int) > (19 : Int) then (some ((0 : Int), (6 : Int))) else (if (t1.2.1.size : Int) > (10 : Int) then (some ((0 : Int), (3 : Int))) else ((dec_count.f k t1.2.1).bind fun t2 => (if t2 > (2147483648 : Int) then (some ((0 : Int), (3 : Int))) else ((dec_count.f k t1.2.1).bind fun t3 => (if (32 : Int) < 0 then none else ((dec_count.f k t1.2.2.1).bind fun t4 => ((dec_fraction.f k t4 (t1.2.2.1.size : Int)).bind fun t5 => ((fix_Signed.f k (IntKind.wrap .u64 ((IntKind.wrap .u64 (t3 * 2 ^ (min ((32 : Int)).toNat 64))) + t5)) t1.1).bind fun t6 => (if t6.2 = (0 : Int) then (some (t6.1, (0 : Int))) else (some ((0 : Int), (3 : Int)))))))))))))))
noncomputable def dec_Get.E : Env (Int × Int) := envOf tab Tryz.f81 true (.cons (.int .i64) (.cons (.int .i64) .nil)) [] (fun y => (y.1, y.2.1)) [(105, dec_parted.c), (106, dec_count.c), (107, dec_fraction.c), (94, fix_Signed.c)] [] []
theorem dec_Get.h1 : obls dec_Get.E Tryz.f81 = [] := by kernel_rfl
theorem dec_Get.h2 : (fun k (x : El (.cons .str .nil)) => dec_Get.nf k x.1) = fun k x => mainK dec_Get.E Tryz.f81 (.cons .str .nil) k x := by kernel_rfl
set_option maxHeartbeats 2000000 in
theorem dec_Get.bf (k : Nat) (a0 : ByteArray) : Lo (dec_Get.f k a0) (dec_Get.nf k a0) := by
  unfold dec_Get.f dec_Get.nf
  try simp only [Bool.false_xor, Bool.true_xor, wu8_64, wu8_u64, byL_nums, btS_bt, nil_tl, beq_decL, beq_decI]
  repeat' first
    | (with_reducible exact lo_refl _)
    | exact lo_none _
    | (with_reducible refine lo_lpos (by first | assumption | decide) ?_)
    | (with_reducible refine lo_lneg (by first | assumption | decide) ?_)
    | (with_reducible refine lo_ite (fun _ => ?_) (fun _ => ?_))
    | (with_reducible refine lo_bind (fun _ => ?_))
    | (with_reducible refine lo_left ?_)
    | (refine lo_neg (by decide) ?_)
    | (refine lo_pos (by first | assumption | omega) ?_)
    | (refine lo_neg (by first | assumption | omega) ?_)
    | (with_reducible refine lo_test (fun _ => by first | assumption | omega | (simp only [List.length_cons, List.length_nil]; omega) | decide) (fun _ => ?_))
    | (with_reducible refine lo_testn (fun _ => by first | assumption | omega) (fun _ => ?_))
    | (with_reducible refine lo_and (fun z => by first | exact z.1 | omega) (fun z => by first | exact z.2 | omega) (fun _ => ?_))
    | exact lo_refl _
    | (with_reducible refine lo_iff (by first | exact Iff.rfl | omega | (simp; done) | decide) (fun _ => ?_) (fun _ => ?_))
    | (with_reducible refine lo_iffn (by first | exact Iff.rfl | omega | (simp; done) | decide) (fun _ => ?_) (fun _ => ?_))
    | refine lo_ite (fun _ => ?_) (fun _ => ?_)
    | refine lo_bind (fun _ => ?_)
    | (refine lo_some ?_; first | rfl | (rw [Bool.false_xor]; rfl) | (rw [Bool.true_xor]; rfl) | (simp only [Bool.and_true]; rfl) | (simp; done))
    | (simp only [Int.zero_sub]; exact lo_refl _)
    | (with_reducible refine lo_lpos (by omega) ?_)
    | (with_reducible refine lo_lneg (by omega) ?_)
    | (with_reducible refine lo_lite (fun _ => ?_) (fun _ => ?_))
    | (with_reducible refine lo_rite (fun _ => ?_) (fun _ => ?_))
  all_goals (exfalso; first | omega | (simp_all; done) | (simp_all; omega))
theorem dec_Get.al : AllLe (obls dec_Get.E Tryz.f81) := by
  rw [dec_Get.h1]
  exact .nil
theorem dec_Get.ok : CalleeOk Tryz.prog 81 dec_Get.c := fn_ok tabOk mixed (fun _ => rfl) Tryz.func81 rfl (by kernel_rfl) (ok_cons dec_parted.ok (ok_cons dec_count.ok (ok_cons dec_fraction.ok (ok_cons fix_Signed.ok ok_nil)))) dec_Get.al (fun k x r h => (congrFun (congrFun dec_Get.h2 k) x).symm.trans (dec_Get.bf k _ r h))
def fix_Size.c : Sym.Callee := ⟨(.cons (.int .i64) .nil), (.int .u64), false, Int, fun k x => fix_Size.f x.1, fun z => z, []⟩
def fix_Size.nf (k : Nat) (a0 : Int) : Option (Int) := (if a0 < (0 : Int) then (some (IntKind.wrap .u64 (-(IntKind.wrap .u64 (a0))))) else (some (IntKind.wrap .u64 (a0))))
noncomputable def fix_Size.E : Env (Int) := envOf tab Tryz.f90 false (.int .u64) [] (fun y => y) [] [] []
theorem fix_Size.h1 : obls fix_Size.E Tryz.f90 = [] := by kernel_rfl
theorem fix_Size.h2 : (fun k (x : El (.cons (.int .i64) .nil)) => fix_Size.nf k x.1) = fun k x => mainK fix_Size.E Tryz.f90 (.cons (.int .i64) .nil) k x := by kernel_rfl
set_option maxHeartbeats 2000000 in
theorem fix_Size.bf (k : Nat) (a0 : Int) : Lo (fix_Size.f a0) (fix_Size.nf k a0) := by
  unfold fix_Size.f fix_Size.nf
  try simp only [Bool.false_xor, Bool.true_xor, wu8_64, wu8_u64, byL_nums, btS_bt, nil_tl, beq_decL, beq_decI]
  repeat' first
    | (with_reducible exact lo_refl _)
    | exact lo_none _
    | (with_reducible refine lo_ite (fun _ => ?_) (fun _ => ?_))
    | (with_reducible refine lo_bind (fun _ => ?_))
    | (with_reducible refine lo_left ?_)
    | (refine lo_pos (by first | assumption | omega) ?_)
    | (refine lo_neg (by first | assumption | omega) ?_)
    | (with_reducible refine lo_test (fun _ => by first | assumption | omega) (fun _ => ?_))
    | exact lo_refl _
    | refine lo_ite (fun _ => ?_) (fun _ => ?_)
    | refine lo_bind (fun _ => ?_)
    | (refine lo_some ?_; first | rfl | (rw [Bool.false_xor]; rfl))
  all_goals (exfalso; first | omega | (simp_all; done) | (simp_all; omega))
theorem fix_Size.al : AllLe (obls fix_Size.E Tryz.f90) := by
  rw [fix_Size.h1]
  exact .nil
theorem fix_Size.ok : CalleeOk Tryz.prog 90 fix_Size.c := fn_ok tabOk mixed (fun _ => rfl) Tryz.func90 rfl (by kernel_rfl) ok_nil fix_Size.al (fun k x r h => (congrFun (congrFun fix_Size.h2 k) x).symm.trans (fix_Size.bf k _ r h))
def pair_Mul.c : Sym.Callee := ⟨(.cons (.int .u64) (.cons (.int .u64) .nil)), (.cons (.int .u64) (.cons (.int .u64) .nil)), false, Int × Int, fun k x => pair_Mul.f x.1 x.2.1, fun z => (z.1, z.2, ()), []⟩
def pair_Mul.nf (k : Nat) (a0 : Int) (a1 : Int) : Option (Int × Int) := (if (32 : Int) < 0 then none else (if (32 : Int) < 0 then none else (if (32 : Int) < 0 then none else (if (32 : Int) < 0 then none else (if (32 : Int) < 0 then none else (if (32 : Int) < 0 then none else (if (32 : Int) < 0 then none else (some ((IntKind.wrap .u64 ((IntKind.wrap .u64 ((IntKind.wrap .u64 ((IntKind.wrap .u64 ((a0 / 2 ^ (min ((32 : Int)).toNat 64)) * (a1 / 2 ^ (min ((32 : Int)).toNat 64)))) + ((IntKind.wrap .u64 ((a0 / 2 ^ (min ((32 : Int)).toNat 64)) * (Go.bits .and .u64 a1 (4294967295 : Int)))) / 2 ^ (min ((32 : Int)).toNat 64)))) + ((IntKind.wrap .u64 ((Go.bits .and .u64 a0 (4294967295 : Int)) * (a1 / 2 ^ (min ((32 : Int)).toNat 64)))) / 2 ^ (min ((32 : Int)).toNat 64)))) + ((IntKind.wrap .u64 ((IntKind.wrap .u64 (((IntKind.wrap .u64 ((Go.bits .and .u64 a0 (4294967295 : Int)) * (Go.bits .and .u64 a1 (4294967295 : Int)))) / 2 ^ (min ((32 : Int)).toNat 64)) + (Go.bits .and .u64 (IntKind.wrap .u64 ((a0 / 2 ^ (min ((32 : Int)).toNat 64)) * (Go.bits .and .u64 a1 (4294967295 : Int)))) (4294967295 : Int)))) + (Go.bits .and .u64 (IntKind.wrap .u64 ((Go.bits .and .u64 a0 (4294967295 : Int)) * (a1 / 2 ^ (min ((32 : Int)).toNat 64)))) (4294967295 : Int)))) / 2 ^ (min ((32 : Int)).toNat 64)))), (Go.bits .or .u64 (IntKind.wrap .u64 ((IntKind.wrap .u64 ((IntKind.wrap .u64 (((IntKind.wrap .u64 ((Go.bits .and .u64 a0 (4294967295 : Int)) * (Go.bits .and .u64 a1 (4294967295 : Int)))) / 2 ^ (min ((32 : Int)).toNat 64)) + (Go.bits .and .u64 (IntKind.wrap .u64 ((a0 / 2 ^ (min ((32 : Int)).toNat 64)) * (Go.bits .and .u64 a1 (4294967295 : Int)))) (4294967295 : Int)))) + (Go.bits .and .u64 (IntKind.wrap .u64 ((Go.bits .and .u64 a0 (4294967295 : Int)) * (a1 / 2 ^ (min ((32 : Int)).toNat 64)))) (4294967295 : Int)))) * 2 ^ (min ((32 : Int)).toNat 64))) (Go.bits .and .u64 (IntKind.wrap .u64 ((Go.bits .and .u64 a0 (4294967295 : Int)) * (Go.bits .and .u64 a1 (4294967295 : Int)))) (4294967295 : Int))))))))))))
noncomputable def pair_Mul.E : Env (Int × Int) := envOf tab Tryz.f111 false (.cons (.int .u64) (.cons (.int .u64) .nil)) [] (fun y => (y.1, y.2.1)) [] [] []
theorem pair_Mul.h1 : obls pair_Mul.E Tryz.f111 = [] := by kernel_rfl
theorem pair_Mul.h2 : (fun k (x : El (.cons (.int .u64) (.cons (.int .u64) .nil))) => pair_Mul.nf k x.1 x.2.1) = fun k x => mainK pair_Mul.E Tryz.f111 (.cons (.int .u64) (.cons (.int .u64) .nil)) k x := by kernel_rfl
set_option maxHeartbeats 2000000 in
theorem pair_Mul.bf (k : Nat) (a0 : Int) (a1 : Int) : Lo (pair_Mul.f a0 a1) (pair_Mul.nf k a0 a1) := by
  unfold pair_Mul.f pair_Mul.nf
  try simp only [Bool.false_xor, Bool.true_xor, wu8_64, wu8_u64, byL_nums, btS_bt, nil_tl, beq_decL, beq_decI]
  repeat' first
    | (with_reducible exact lo_refl _)
    | exact lo_none _
    | (with_reducible refine lo_ite (fun _ => ?_) (fun _ => ?_))
    | (with_reducible refine lo_bind (fun _ => ?_))
    | (with_reducible refine lo_left ?_)
    | (refine lo_pos (by first | assumption | omega) ?_)
    | (refine lo_neg (by first | assumption | omega) ?_)
    | (with_reducible refine lo_test (fun _ => by first | assumption | omega) (fun _ => ?_))
    | exact lo_refl _
    | refine lo_ite (fun _ => ?_) (fun _ => ?_)
    | refine lo_bind (fun _ => ?_)
    | (refine lo_some ?_; first | rfl | (rw [Bool.false_xor]; rfl))
  all_goals (exfalso; first | omega | (simp_all; done) | (simp_all; omega))
theorem pair_Mul.al : AllLe (obls pair_Mul.E Tryz.f111) := by
  rw [pair_Mul.h1]
  exact .nil
theorem pair_Mul.ok : CalleeOk Tryz.prog 111 pair_Mul.c := fn_ok tabOk mixed (fun _ => rfl) Tryz.func111 rfl (by kernel_rfl) ok_nil pair_Mul.al (fun k x r h => (congrFun (congrFun pair_Mul.h2 k) x).symm.trans (pair_Mul.bf k _ _ r h))
def half_Shift.c : Sym.Callee := ⟨(.cons (.cons (.int .u64) (.cons (.int .u64) .nil)) (.cons (.int .i64) .nil)), (.cons (.int .u64) (.cons (.int .i64) .nil)), true, Int × Int, fun k x => half_Shift.f k x.1.1 x.1.2.1 x.2.1, fun z => (z.1, z.2, ()), []⟩
def half_Shift.nf (k : Nat) (a0_0 : Int) (a0_1 : Int) (a1 : Int) : Option (Int × Int) := ((pair_Shl.f (0 : Int) (1 : Int) (if (63 : Int) < (if a1 < (0 : Int) then (0 : Int) else a1) then (63 : Int) else (if a1 < (0 : Int) then (0 : Int) else a1))).bind fun t1 => (if 0 ≤ (1 : Int) then (if (1 : Int) < ((2 : Nat) : Int) then ((half_Near.f k a0_0 a0_1 t1.2.1).bind fun t2 => (some (t2.1, t2.2))) else none) else none))
noncomputable def half_Shift.E : Env (Int × Int) := envOf tab Tryz.f110 true (.cons (.int .u64) (.cons (.int .i64) .nil)) [] (fun y => (y.1, y.2.1)) [(120, pair_Shl.c), (93, half_Near.c)] [] []
theorem half_Shift.h1 : obls half_Shift.E Tryz.f110 = [] := by kernel_rfl
theorem half_Shift.h2 : (fun k (x : El (.cons (.cons (.int .u64) (.cons (.int .u64) .nil)) (.cons (.int .i64) .nil))) => half_Shift.nf k x.1.1 x.1.2.1 x.2.1) = fun k x => mainK half_Shift.E Tryz.f110 (.cons (.cons (.int .u64) (.cons (.int .u64) .nil)) (.cons (.int .i64) .nil)) k x := by kernel_rfl
set_option maxHeartbeats 2000000 in
theorem half_Shift.bf (k : Nat) (a0_0 : Int) (a0_1 : Int) (a1 : Int) : Lo (half_Shift.f k a0_0 a0_1 a1) (half_Shift.nf k a0_0 a0_1 a1) := by
  unfold half_Shift.f half_Shift.nf
  try simp only [Bool.false_xor, Bool.true_xor, wu8_64, wu8_u64, byL_nums, btS_bt, nil_tl, beq_decL, beq_decI]
  repeat' first
    | (with_reducible exact lo_refl _)
    | exact lo_none _
    | (with_reducible refine lo_ite (fun _ => ?_) (fun _ => ?_))
    | (with_reducible refine lo_bind (fun _ => ?_))
    | (with_reducible refine lo_left ?_)
    | (refine lo_pos (by first | assumption | omega) ?_)
    | (refine lo_neg (by first | assumption | omega) ?_)
    | (with_reducible refine lo_test (fun _ => by first | assumption | omega) (fun _ => ?_))
    | exact lo_refl _
    | refine lo_ite (fun _ => ?_) (fun _ => ?_)
    | refine lo_bind (fun _ => ?_)
    | (refine lo_some ?_; first | rfl | (rw [Bool.false_xor]; rfl))
  all_goals (exfalso; first | omega | (simp_all; done) | (simp_all; omega))
theorem half_Shift.al : AllLe (obls half_Shift.E Tryz.f110) := by
  rw [half_Shift.h1]
  exact .nil
theorem half_Shift.ok : CalleeOk Tryz.prog 110 half_Shift.c := fn_ok tabOk mixed (fun _ => rfl) Tryz.func110 rfl (by kernel_rfl) (ok_cons pair_Shl.ok (ok_cons half_Near.ok ok_nil)) half_Shift.al (fun k x r h => (congrFun (congrFun half_Shift.h2 k) x).symm.trans (half_Shift.bf k _ _ _ r h))
def layRep_ren : Go.Shelf.Ren := ⟨fun | 105 => 113 | 212 => 122 | 99 => 123 | 165 => 109 | 166 => 37 | 170 => 124 | 169 => 41 | 263 => 134 | 264 => 135 | 206 => 104 | 240 => 63 | 241 => 121 | 276 => 88 | 277 => 133 | n => n, fun | 9 => 9 | 3 => 3 | 4 => 4 | 20 => 20 | 0 => 0 | 46 => 129 | 109 => 157 | 5 => 5 | 72 => 78 | 76 => 81 | 51 => 165 | 146 => 166 | 53 => 99 | 148 => 160 | 70 => 75 | 37 => 76 | 75 => 80 | 127 => 112 | 164 => 125 | 80 => 85 | n => n, fun | n => n⟩
theorem layRep : Go.Proofs.Lays.n105 Tryz.prog layRep_ren := {
  mixed := by kernel_rfl
  f99 := Tryz.func123.trans (congrArg some (by kernel_rfl))
  f105 := Tryz.func113.trans (congrArg some (by kernel_rfl))
  f165 := Tryz.func109.trans (congrArg some (by kernel_rfl))
  f166 := Tryz.func37.trans (congrArg some (by kernel_rfl))
  f169 := Tryz.func41.trans (congrArg some (by kernel_rfl))
  f170 := Tryz.func124.trans (congrArg some (by kernel_rfl))
  f206 := Tryz.func104.trans (congrArg some (by kernel_rfl))
  f212 := Tryz.func122.trans (congrArg some (by kernel_rfl))
  f240 := Tryz.func63.trans (congrArg some (by kernel_rfl))
  f241 := Tryz.func121.trans (congrArg some (by kernel_rfl))
  f263 := Tryz.func134.trans (congrArg some (by kernel_rfl))
  f264 := Tryz.func135.trans (congrArg some (by kernel_rfl))
  f276 := Tryz.func88.trans (congrArg some (by kernel_rfl))
  f277 := Tryz.func133.trans (congrArg some (by kernel_rfl))
  t0 := Tryz.underlying0
  a0 := Tryz.isAgg0
  z0 := Tryz.sizeOf0
  v0 := Tryz.zeroValue0
  t3 := Tryz.underlying3
  a3 := Tryz.isAgg3
  z3 := Tryz.sizeOf3
  v3 := Tryz.zeroValue3
  t4 := Tryz.underlying4
  a4 := Tryz.isAgg4
  z4 := Tryz.sizeOf4
  v4 := Tryz.zeroValue4
  t5 := Tryz.underlying5
  a5 := Tryz.isAgg5
  z5 := Tryz.sizeOf5
  v5 := Tryz.zeroValue5
  t9 := Tryz.underlying9
  a9 := Tryz.isAgg9
  z9 := Tryz.sizeOf9
  v9 := Tryz.zeroValue9
  t20 := Tryz.underlying20
  a20 := Tryz.isAgg20
  z20 := Tryz.sizeOf20
  v20 := Tryz.zeroValue20
  t37 := Tryz.underlying76
  a37 := Tryz.isAgg76
  z37 := Tryz.sizeOf76
  v37 := Tryz.zeroValue76
  t46 := Tryz.underlying129
  a46 := Tryz.isAgg129
  z46 := Tryz.sizeOf129
  v46 := Tryz.zeroValue129
  t51 := Tryz.underlying165
  a51 := Tryz.isAgg165
  z51 := Tryz.sizeOf165
  v51 := Tryz.zeroValue165
  t53 := Tryz.underlying99
  a53 := Tryz.isAgg99
  z53 := Tryz.sizeOf99
  v53 := Tryz.zeroValue99
  t70 := Tryz.underlying75
  a70 := Tryz.isAgg75
  z70 := Tryz.sizeOf75
  v70 := Tryz.zeroValue75
  t72 := Tryz.underlying78
  a72 := Tryz.isAgg78
  z72 := Tryz.sizeOf78
  v72 := Tryz.zeroValue78
  t75 := Tryz.underlying80
  a75 := Tryz.isAgg80
  z75 := Tryz.sizeOf80
  v75 := Tryz.zeroValue80
  t76 := Tryz.underlying81
  a76 := Tryz.isAgg81
  z76 := Tryz.sizeOf81
  v76 := Tryz.zeroValue81
  t109 := Tryz.underlying157
  a109 := Tryz.isAgg157
  z109 := Tryz.sizeOf157
  v109 := Tryz.zeroValue157
  t127 := Tryz.underlying112
  a127 := Tryz.isAgg112
  z127 := Tryz.sizeOf112
  v127 := Tryz.zeroValue112
  t146 := Tryz.underlying166
  a146 := Tryz.isAgg166
  z146 := Tryz.sizeOf166
  v146 := Tryz.zeroValue166
  t148 := Tryz.underlying160
  a148 := Tryz.isAgg160
  z148 := Tryz.sizeOf160
  v148 := Tryz.zeroValue160
  t164 := Tryz.underlying125
  a164 := Tryz.isAgg125
  z164 := Tryz.sizeOf125
  v164 := Tryz.zeroValue125 }
theorem layRepX : Go.Proofs.Builder.Extra Tryz.prog layRep_ren := {
  sizeBuilder := by kernel_rfl
  liesBuilder := by kernel_rfl
  t5 := layRep.t5
  a5 := layRep.a5
  z5 := layRep.z5
  v5 := layRep.v5
  infoByte := by kernel_rfl
  cellsByte := by kernel_rfl
  sizeByte := by kernel_rfl
  neB5 := by decide }
theorem layRepF : layRep_ren.f 105 = 113 := by kernel_rfl

def strings_Repeat.c : Sym.Callee := ⟨(.cons .str (.cons (.int .i64) .nil)), .str, false, ByteArray, fun k x => strings_Repeat.f x.1 x.2.1, fun y => y, []⟩
theorem strings_Repeat.ok : CalleeOk Tryz.prog 113 strings_Repeat.c where
  enter := enter_of Tryz.func113 rfl (by kernel_rfl)
  calls k w F vs x y hL hfin hx hy := by
    obtain ⟨v1, us, rfl, h1, v2, us2, rfl, h2, rfl⟩ := hx
    obtain rfl := rep_str h1
    obtain rfl := rep_int h2
    obtain ⟨a0, a1, _⟩ := x
    have hy : strings_Repeat.f a0 a1 = some y := hy
    unfold strings_Repeat.f at hy
    split at hy
    case isFalse => cases hy
    case isTrue hq =>
      obtain rfl := Option.some.inj hy
      obtain ⟨c, rfl⟩ : ∃ c : Nat, a1 = (c : Int) := ⟨a1.toNat, (Int.toNat_of_nonneg hq.1).symm⟩
      simp only [Int.toNat_natCast] at hq ⊢
      have g := Go.Proofs.Any.strings_Repeat layRep layRepX a0 c w (by omega) hq.2.2
      rw [layRepF] at g
      exact g.mono fun e w' q => ⟨_, F, q.1, ⟨q.2, fun _ _ => rfl⟩, fun b hb2 => Nat.lt_of_lt_of_le (hfin b hb2) q.2.size, repR_one mk_str⟩
def dec_behind.c : Sym.Callee := ⟨(.cons (.int .u64) .nil), .str, false, ByteArray, fun k x => dec_behind.f k x.1, fun z => z, []⟩
def dec_behind.nl0 (k : Nat) (x0 : Int) (x3 : Int) : Option (ByteArray) := (if x3 ≤ (10 : Int) then ((dec_power.f k x3).bind fun t1 => ((pair_Mul.f x0 t1).bind fun t2 => ((half_Shift.f k t2.1 t2.2 (32 : Int)).bind fun t3 => ((dec_fraction.f k t3.1 x3).bind fun t4 => (if t4 = x0 then ((num_Tell.f k (wrap64 (t3.1))).bind fun t5 => ((strings_Repeat.f (⟨#[48]⟩ : ByteArray) (wrap64 (x3 - (t5.size : Int)))).bind fun t6 => (if t6.size + t5.size ≤ 9223372036854775807 then (some (t6 ++ t5)) else none))) else (dec_behind.l0 k x0 (wrap64 (x3 + (1 : Int))))))))) else (some (⟨#[]⟩ : ByteArray)))
def dec_behind.nf (k : Nat) (a0 : Int) : Option (ByteArray) := (dec_behind.l0 k a0 (1 : Int))
noncomputable def dec_behind.E : Env (ByteArray) := envOf tab Tryz.f91 false .str [] (fun y => y) [(112, dec_power.c), (111, pair_Mul.c), (110, half_Shift.c), (107, dec_fraction.c), (51, num_Tell.c), (113, strings_Repeat.c)] [⟨2, ⟨34, [(0, (.int .u64), []), (3, (.int .i64), [])], [], []⟩, fun k y => dec_behind.l0 k y.1.1 y.1.2.1⟩] []
theorem dec_behind.h1 : obls dec_behind.E Tryz.f91 = [⟨(.cons (.cons (.int .u64) (.cons (.int .i64) .nil)) (.cons .nil (.cons .nil .nil))), fun k y => dec_behind.l0 (k + 1) y.1.1 y.1.2.1, fun k y => dec_behind.nl0 k y.1.1 y.1.2.1⟩, ⟨(.cons (.cons (.int .u64) (.cons (.int .i64) .nil)) (.cons .nil (.cons .nil .nil))), fun _ y => dec_behind.l0 0 y.1.1 y.1.2.1, fun _ _ => none⟩] := by kernel_rfl
theorem dec_behind.h2 : (fun k (x : El (.cons (.int .u64) .nil)) => dec_behind.nf k x.1) = fun k x => mainK dec_behind.E Tryz.f91 (.cons (.int .u64) .nil) k x := by kernel_rfl
theorem dec_behind.bl0 (k : Nat) (x0 : Int) (x3 : Int) : Lo (dec_behind.l0 (k + 1) x0 x3) (dec_behind.nl0 k x0 x3) := by
  rw [dec_behind.l0]
  unfold dec_behind.nl0
  try simp only [Bool.false_xor, Bool.true_xor, wu8_64, wu8_u64, byL_nums, btS_bt, nil_tl, beq_decL, beq_decI]
  repeat' first
    | (with_reducible exact lo_refl _)
    | exact lo_none _
    | (with_reducible refine lo_ite (fun _ => ?_) (fun _ => ?_))
    | (with_reducible refine lo_bind (fun _ => ?_))
    | (with_reducible refine lo_left ?_)
    | (refine lo_pos (by first | assumption | omega) ?_)
    | (refine lo_neg (by first | assumption | omega) ?_)
    | (with_reducible refine lo_test (fun _ => by first | assumption | omega) (fun _ => ?_))
    | exact lo_refl _
    | refine lo_ite (fun _ => ?_) (fun _ => ?_)
    | refine lo_bind (fun _ => ?_)
    | (refine lo_some ?_; first | rfl | (rw [Bool.false_xor]; rfl))
  all_goals (exfalso; first | omega | (simp_all; done) | (simp_all; omega))
set_option maxHeartbeats 2000000 in
theorem dec_behind.bf (k : Nat) (a0 : Int) : Lo (dec_behind.f k a0) (dec_behind.nf k a0) := by
  unfold dec_behind.f dec_behind.nf
  try simp only [Bool.false_xor, Bool.true_xor, wu8_64, wu8_u64, byL_nums, btS_bt, nil_tl, beq_decL, beq_decI]
  repeat' first
    | (with_reducible exact lo_refl _)
    | exact lo_none _
    | (with_reducible refine lo_ite (fun _ => ?_) (fun _ => ?_))
    | (with_reducible refine lo_bind (fun _ => ?_))
    | (with_reducible refine lo_left ?_)
    | (refine lo_pos (by first | assumption | omega) ?_)
    | (refine lo_neg (by first | assumption | omega) ?_)
    | (with_reducible refine lo_test (fun _ => by first | assumption | omega) (fun _ => ?_))
    | exact lo_refl _
    | refine lo_ite (fun _ => ?_) (fun _ => ?_)
    | refine lo_bind (fun _ => ?_)
    | (refine lo_some ?_; first | rfl | (rw [Bool.false_xor]; rfl))
  all_goals (exfalso; first | omega | (simp_all; done) | (simp_all; omega))
theorem dec_behind.al : AllLe (obls dec_behind.E Tryz.f91) := by
  rw [dec_behind.h1]
  exact (.cons (fun k y r h => dec_behind.bl0 k y.1.1 y.1.2.1 r h) (.cons (fun _ y r h => by simp [dec_behind.l0] at h) .nil))
theorem dec_behind.ok : CalleeOk Tryz.prog 91 dec_behind.c := fn_ok tabOk mixed (fun _ => rfl) Tryz.func91 rfl (by kernel_rfl) (ok_cons dec_power.ok (ok_cons pair_Mul.ok (ok_cons half_Shift.ok (ok_cons dec_fraction.ok (ok_cons num_Tell.ok (ok_cons strings_Repeat.ok ok_nil)))))) dec_behind.al (fun k x r h => (congrFun (congrFun dec_behind.h2 k) x).symm.trans (dec_behind.bf k _ r h))
def dec_Put.c : Sym.Callee := ⟨(.cons (.int .i64) .nil), .str, false, ByteArray, fun k x => dec_Put.f k x.1, fun z => z, []⟩
def dec_Put.nf (k : Nat) (a0 : Int) : Option (ByteArray) := ((fix_Size.f a0).bind fun t1 => (if (32 : Int) < 0 then none else ((num_Tell.f k (wrap64 ((t1 / 2 ^ (min ((32 : Int)).toNat 64))))).bind fun t2 => (if a0 < (0 : Int) then (if (⟨#[45]⟩ : ByteArray).size + t2.size ≤ 9223372036854775807 then (if (Go.bits .and .u64 t1 (4294967295 : Int)) = (0 : Int) then (some ((⟨#[45]⟩ : ByteArray) ++ t2)) else ((dec_behind.f k (Go.bits .and .u64 t1 (4294967295 : Int))).bind fun t3 => (if (⟨#[46]⟩ : ByteArray).size + t3.size ≤ 9223372036854775807 then (if ((⟨#[45]⟩ : ByteArray) ++ t2).size + ((⟨#[46]⟩ : ByteArray) ++ t3).size ≤ 9223372036854775807 then (some (((⟨#[45]⟩ : ByteArray) ++ t2) ++ ((⟨#[46]⟩ : ByteArray) ++ t3))) else none) else none))) else none) else (if (Go.bits .and .u64 t1 (4294967295 : Int)) = (0 : Int) then (some t2) else ((dec_behind.f k (Go.bits .and .u64 t1 (4294967295 : Int))).bind fun t4 => (if (⟨#[46]⟩ : ByteArray).size + t4.size ≤ 9223372036854775807 then (if t2.size + ((⟨#[46]⟩ : ByteArray) ++ t4).size ≤ 9223372036854775807 then (some (t2 ++ ((⟨#[46]⟩ : ByteArray) ++ t4))) else none) else none)))))))
noncomputable def dec_Put.E : Env (ByteArray) := envOf tab Tryz.f68 false .str [] (fun y => y) [(90, fix_Size.c), (51, num_Tell.c), (91, dec_behind.c)] [] []
theorem dec_Put.h1 : obls dec_Put.E Tryz.f68 = [] := by kernel_rfl
theorem dec_Put.h2 : (fun k (x : El (.cons (.int .i64) .nil)) => dec_Put.nf k x.1) = fun k x => mainK dec_Put.E Tryz.f68 (.cons (.int .i64) .nil) k x := by kernel_rfl
set_option maxHeartbeats 2000000 in
theorem dec_Put.bf (k : Nat) (a0 : Int) : Lo (dec_Put.f k a0) (dec_Put.nf k a0) := by
  unfold dec_Put.f dec_Put.nf
  try simp only [Bool.false_xor, Bool.true_xor, wu8_64, wu8_u64, byL_nums, btS_bt, nil_tl, beq_decL, beq_decI]
  repeat' first
    | (with_reducible exact lo_refl _)
    | exact lo_none _
    | (with_reducible refine lo_ite (fun _ => ?_) (fun _ => ?_))
    | (with_reducible refine lo_bind (fun _ => ?_))
    | (with_reducible refine lo_left ?_)
    | (refine lo_pos (by first | assumption | omega) ?_)
    | (refine lo_neg (by first | assumption | omega) ?_)
    | (with_reducible refine lo_test (fun _ => by first | assumption | omega) (fun _ => ?_))
    | exact lo_refl _
    | refine lo_ite (fun _ => ?_) (fun _ => ?_)
    | refine lo_bind (fun _ => ?_)
    | (refine lo_some ?_; first | rfl | (rw [Bool.false_xor]; rfl))
  all_goals (exfalso; first | omega | (simp_all; done) | (simp_all; omega))
theorem dec_Put.al : AllLe (obls dec_Put.E Tryz.f68) := by
  rw [dec_Put.h1]
  exact .nil
theorem dec_Put.ok : CalleeOk Tryz.prog 68 dec_Put.c := fn_ok tabOk mixed (fun _ => rfl) Tryz.func68 rfl (by kernel_rfl) (ok_cons fix_Size.ok (ok_cons num_Tell.ok (ok_cons dec_behind.ok ok_nil))) dec_Put.al (fun k x r h => (congrFun (congrFun dec_Put.h2 k) x).symm.trans (dec_Put.bf k _ r h))
def trace_value.c : Sym.Callee := ⟨(.cons .str .nil), (.cons (.int .i64) (.cons .bool .nil)), true, Int × Bool, fun k x => trace_value.f k x.1, fun z => (z.1, z.2, ()), []⟩
def trace_value.nf (k : Nat) (a0 : ByteArray) : Option (Int × Bool) := ((dec_Get.f k a0).bind fun t1 => (if t1.2 = (0 : Int) then ((dec_Put.f k t1.1).bind fun t2 => (some (t1.1, (xor false (decide (t2.toList = a0.toList)))))) else (some (t1.1, false))))
noncomputable def trace_value.E : Env (Int × Bool) := envOf tab Tryz.f52 true (.cons (.int .i64) (.cons .bool .nil)) [] (fun y => (y.1, y.2.1)) [(81, dec_Get.c), (68, dec_Put.c)] [] []
theorem trace_value.h1 : obls trace_value.E Tryz.f52 = [] := by kernel_rfl
theorem trace_value.h2 : (fun k (x : El (.cons .str .nil)) => trace_value.nf k x.1) = fun k x => mainK trace_value.E Tryz.f52 (.cons .str .nil) k x := by kernel_rfl
set_option maxHeartbeats 2000000 in
theorem trace_value.bf (k : Nat) (a0 : ByteArray) : Lo (trace_value.f k a0) (trace_value.nf k a0) := by
  unfold trace_value.f trace_value.nf
  try simp only [Bool.false_xor, Bool.true_xor, wu8_64, wu8_u64, byL_nums, btS_bt, nil_tl, beq_decL, beq_decI]
  repeat' first
    | (with_reducible exact lo_refl _)
    | exact lo_none _
    | (with_reducible refine lo_ite (fun _ => ?_) (fun _ => ?_))
    | (with_reducible refine lo_bind (fun _ => ?_))
    | (with_reducible refine lo_left ?_)
    | (refine lo_pos (by first | assumption | omega) ?_)
    | (refine lo_neg (by first | assumption | omega) ?_)
    | (with_reducible refine lo_test (fun _ => by first | assumption | omega) (fun _ => ?_))
    | exact lo_refl _
    | refine lo_ite (fun _ => ?_) (fun _ => ?_)
    | refine lo_bind (fun _ => ?_)
    | (refine lo_some ?_; first | rfl | (rw [Bool.false_xor]; rfl))
  all_goals (exfalso; first | omega | (simp_all; done) | (simp_all; omega))
theorem trace_value.al : AllLe (obls trace_value.E Tryz.f52) := by
  rw [trace_value.h1]
  exact .nil
theorem trace_value.ok : CalleeOk Tryz.prog 52 trace_value.c := fn_ok tabOk mixed (fun _ => rfl) Tryz.func52 rfl (by kernel_rfl) (ok_cons dec_Get.ok (ok_cons dec_Put.ok ok_nil)) trace_value.al (fun k x r h => (congrFun (congrFun trace_value.h2 k) x).symm.trans (trace_value.bf k _ r h))
def trace_group.l6 : Nat → (List Int) → Bool → (List ByteArray) → Int → Int → Option ((List Int) × Bool × Bool × Unit)
  | 0, _, _, _, _, _ => none
  | k + 1, x4, x5, x29, x30, x31 => (if x31 < x30 then (if 0 ≤ x31 then (if x31 < (x29.length : Int) then ((trace_value.f k (x29.getD (x31).toNat (⟨#[]⟩ : ByteArray))).bind fun t5 => (if (!t5.2) = true then (some (([] : List Int), false, false, ())) else (if (x4.length + [t5.1].length) * 8 ≤ 140737488355328 then (trace_group.l6 k (x4 ++ [t5.1]) x5 x29 x30 (wrap64 (x31 + (1 : Int)))) else none))) else none) else none) else (some (x4, x5, (xor false (decide ((x4.length : Int) = (3 : Int)))), ())))
def trace_group.f (k : Nat) (a0 : ByteArray) (a1 : Int) : Option ((List Int) × Bool × Bool × Unit) := ((num_Tell.f k a1).bind fun t1 => (if (⟨#[32, 32, 103, 114, 111, 117, 112, 32]⟩ : ByteArray).size + t1.size ≤ 9223372036854775807 then (if ((⟨#[32, 32, 103, 114, 111, 117, 112, 32]⟩ : ByteArray) ++ t1).size + (⟨#[32]⟩ : ByteArray).size ≤ 9223372036854775807 then ((strings_CutPrefix.f a0 (((⟨#[32, 32, 103, 114, 111, 117, 112, 32]⟩ : ByteArray) ++ t1) ++ (⟨#[32]⟩ : ByteArray))).bind fun t2 => (if (!t2.2) = true then (some (([] : List Int), false, false, ())) else ((strings_CutSuffix.f t2.1 (⟨#[32, 102, 114, 111, 122, 101, 110]⟩ : ByteArray)).bind fun t3 => ((strings_Split.f k t3.1 (⟨#[32]⟩ : ByteArray)).bind fun t4 => (trace_group.l6 k ([] : List Int) t3.2 t4 (t4.length : Int) (0 : Int)))))) else none) else none))
def trace_group.c : Sym.Callee := ⟨(.cons .str (.cons (.int .i64) .nil)), (.cons (.sl (.int .i64)) (.cons .bool (.cons .bool .nil))), true, El (.cons (.sl (.int .i64)) (.cons .bool (.cons .bool .nil))), fun k x => trace_group.f k x.1 x.2.1, fun y => y, []⟩
noncomputable def trace_group.E : Env (El (.cons (.sl (.int .i64)) (.cons .bool (.cons .bool .nil)))) := envOf tab Tryz.f21 true (.cons (.sl (.int .i64)) (.cons .bool (.cons .bool .nil))) [] (fun y => y) [(51, num_Tell.c), (50, strings_CutPrefix.c), (42, strings_CutSuffix.c), (43, strings_Split.c), (52, trace_value.c)] [⟨6, ⟨52, [(4, (.sl (.int .i64)), [⟨0, 5, 3, 1⟩]), (5, .bool, []), (29, (.sl .str), []), (30, (.int .i64), []), (31, (.int .i64), [])], [], []⟩, fun k y => trace_group.l6 k y.1.1 y.1.2.1 y.1.2.2.1 y.1.2.2.2.1 y.1.2.2.2.2.1⟩] []
theorem trace_group.h1 : (obls trace_group.E Tryz.f21).map Ob.left = (obls trace_group.E Tryz.f21).map Ob.right := by kernel_rfl
theorem trace_group.h2 : (fun k x => trace_group.c.fn k x) = fun k x => mainK trace_group.E Tryz.f21 trace_group.c.dom k x := by kernel_rfl
theorem trace_group.ok : CalleeOk Tryz.prog 21 trace_group.c := fn_ok tabOk mixed (fun _ => rfl) Tryz.func21 rfl (by kernel_rfl) (ok_cons num_Tell.ok (ok_cons strings_CutPrefix.ok (ok_cons strings_CutSuffix.ok (ok_cons strings_Split.ok (ok_cons trace_value.ok ok_nil))))) (.of_eq trace_group.h1) (fun k x _ h => (congrFun (congrFun trace_group.h2 k) x).symm.trans h)
theorem trace_group.mono_c : ∀ k, (∀ x4 x5 x29 x30 x31, Lo (trace_group.l6 k x4 x5 x29 x30 x31) (trace_group.l6 (k + 1) x4 x5 x29 x30 x31)) ∧ True
  | 0 => ⟨fun _ _ _ _ _ => by rw [trace_group.l6]; exact lo_none _, trivial⟩
  | k + 1 => by
    obtain ⟨h_l6, _⟩ := trace_group.mono_c k
    exact ⟨fun _ _ _ _ _ => by rw [trace_group.l6, trace_group.l6]; repeat' first | (with_reducible exact lo_refl _) | (with_reducible exact h_l6 _ _ _ _ _) | (with_reducible refine lo_ite (fun _ => ?_) (fun _ => ?_)) | (with_reducible refine lo_bind2 ?_ (fun _ => ?_)) | (with_reducible exact lo_of (strings_Split.mono _ _ _)) | (with_reducible exact lo_leo (num_Tell.mono _ _)) | (with_reducible exact lo_leo (trace_value.mono _ _)), trivial⟩
theorem trace_group.mono : ∀ k a0 a1, Lo (trace_group.f k a0 a1) (trace_group.f (k + 1) a0 a1) := by
  intro k a0 a1
  obtain ⟨h_l6, _⟩ := trace_group.mono_c k
  unfold trace_group.f
  repeat' first | (with_reducible exact lo_refl _) | (with_reducible exact h_l6 _ _ _ _ _) | (with_reducible refine lo_ite (fun _ => ?_) (fun _ => ?_)) | (with_reducible refine lo_bind2 ?_ (fun _ => ?_)) | (with_reducible exact lo_of (strings_Split.mono _ _ _)) | (with_reducible exact lo_leo (num_Tell.mono _ _)) | (with_reducible exact lo_leo (trace_value.mono _ _))
set_option maxHeartbeats 1000000 in
set_option maxRecDepth 100000 in
theorem stringslite_IndexByte.calls0 (a0 : ByteArray) (a1 : Int) (w : World) :
    Calls Tryz.prog 127 #[.string a0, .int .u8 a1] w fun e w' => e = .returned (.int .i64 (Lib.indexByte a0.data.toList a1.toNat.toUInt8)) ∧ w' = w := by
  go_enter Tryz.func127, Tryz.ntmps127
  go_wp2
  rw [run_callFunc_extern Tryz.func137 (by kernel_rfl) (by kernel_rfl) (by kernel_rfl) (e := Extern.BytealgIndexByte.indexByte) (by kernel_rfl), Lib.run_indexByteString]
  simp only [Result.andThen]
  rw [Oper.upon_value]
  go_wp2
  go_ret
  exact ⟨rfl, rfl⟩
theorem stringslite_Index.self (a : ByteArray) (h : a.size = 1) : Lib.indexByte a.data.toList (bt a 0).toNat.toUInt8 = 0 := by
  obtain ⟨⟨l⟩⟩ := a
  match l, h with
  | [b], _ =>
    have e : bt (⟨⟨[b]⟩⟩ : ByteArray) 0 = (b.toNat : Int) := rfl
    rw [e]
    simp [Lib.indexByte]
set_option maxHeartbeats 1000000 in
set_option maxRecDepth 100000 in
theorem stringslite_Index.calls (a0 a1 : ByteArray) (r : Int) (w : World) (h : stringslite_Index.f a0 a1 = some r) :
    Calls Tryz.prog 119 #[.string a0, .string a1] w fun e w' => e = .returned (.int .i64 r) ∧ Drawn0 w w' := by
  unfold stringslite_Index.f at h
  split at h
  case isFalse => cases h
  case isTrue hc =>
    obtain rfl := Option.some.inj h
    have hx : ∀ h : 0 < a1.size, ((a1[0]'h).toNat : Int) = bt a1 0 := bt_at a1 0
    have q1 : (0 < a1.size) = True := eq_true (by omega)
    have q2 : ((0 : Int) < (a1.size : Int)) = True := eq_true (by omega)
    have hc1 := eq_true hc
    go_enter Tryz.func119, Tryz.ntmps119
    go_wp2_with (go_at_call 127; refine (stringslite_IndexByte.calls0 _ _ _).mono ?_; rintro e w' ⟨rfl, rfl⟩)
    · have h : (a1.toList == a0.toList) = true := by assumption
      have e : a1 = a0 := by
        have h1 := beq_iff_eq.1 h
        rw [ByteArray.toList_eq, ByteArray.toList_eq] at h1
        exact ByteArray.ext (Array.ext' h1)
      go_ret
      refine ⟨?_, Drawn0.refl _⟩
      rw [show Lib.indexByte a0.data.toList (bt a1 0).toNat.toUInt8 = 0 from by rw [e]; exact stringslite_Index.self a0 (e ▸ hc)]
      rfl
    · go_ret
      exact ⟨rfl, Drawn0.refl _⟩


def stringslite_Index.c : Sym.Callee := ⟨(.cons .str (.cons .str .nil)), (.int .i64), false, Int, fun k x => stringslite_Index.f x.1 x.2.1, fun y => y, []⟩
theorem stringslite_Index.ok : CalleeOk Tryz.prog 119 stringslite_Index.c where
  enter := enter_of Tryz.func119 rfl (by kernel_rfl)
  calls k w F vs x y hL hfin hx hy := by
    obtain ⟨v1, us, rfl, h1, v2, us2, rfl, h2, rfl⟩ := hx
    obtain rfl := rep_str h1
    obtain rfl := rep_str h2
    obtain ⟨a0, a1, _⟩ := x
    have hy : stringslite_Index.f a0 a1 = some y := hy
    exact (stringslite_Index.calls a0 a1 y w hy).mono fun e w' q => ⟨_, F, q.1, ⟨q.2.below, fun _ _ => rfl⟩, fun b hb2 => Nat.lt_of_lt_of_le (hfin b hb2) q.2.below.size, repR_one mk_int⟩
def stringslite_Cut.c : Sym.Callee := ⟨(.cons .str (.cons .str .nil)), (.cons .str (.cons .str (.cons .bool .nil))), true, ByteArray × ByteArray × Bool, fun k x => stringslite_Cut.f x.1 x.2.1, fun z => (z.1, z.2.1, z.2.2, ()), []⟩
def stringslite_Cut.nf (k : Nat) (a0 : ByteArray) (a1 : ByteArray) : Option (ByteArray × ByteArray × Bool) := ((stringslite_Index.f a0 a1).bind fun t1 => (if t1 ≥ (0 : Int) then (if 0 ≤ t1 then (if t1 ≤ (a0.size : Int) then (if 0 ≤ (wrap64 (t1 + (a1.size : Int))) then (if (wrap64 (t1 + (a1.size : Int))) ≤ (a0.size : Int) then (some ((a0.extract 0 (t1).toNat), (a0.extract ((wrap64 (t1 + (a1.size : Int)))).toNat a0.size), true)) else none) else none) else none) else none) else (some (a0, (⟨#[]⟩ : ByteArray), false))))
noncomputable def stringslite_Cut.E : Env (ByteArray × ByteArray × Bool) := envOf tab Tryz.f108 true (.cons .str (.cons .str (.cons .bool .nil))) [] (fun y => (y.1, y.2.1, y.2.2.1)) [(119, stringslite_Index.c)] [] []
theorem stringslite_Cut.h1 : obls stringslite_Cut.E Tryz.f108 = [] := by kernel_rfl
theorem stringslite_Cut.h2 : (fun k (x : El (.cons .str (.cons .str .nil))) => stringslite_Cut.nf k x.1 x.2.1) = fun k x => mainK stringslite_Cut.E Tryz.f108 (.cons .str (.cons .str .nil)) k x := by kernel_rfl
set_option maxHeartbeats 2000000 in
theorem stringslite_Cut.bf (k : Nat) (a0 : ByteArray) (a1 : ByteArray) : Lo (stringslite_Cut.f a0 a1) (stringslite_Cut.nf k a0 a1) := by
  unfold stringslite_Cut.f stringslite_Cut.nf
  try simp only [Bool.false_xor, Bool.true_xor, wu8_64, wu8_u64, byL_nums, btS_bt, nil_tl, beq_decL, beq_decI]
  repeat' first
    | (with_reducible exact lo_refl _)
    | exact lo_none _
    | (with_reducible refine lo_ite (fun _ => ?_) (fun _ => ?_))
    | (with_reducible refine lo_bind (fun _ => ?_))
    | (with_reducible refine lo_left ?_)
    | (refine lo_pos (by first | assumption | omega) ?_)
    | (refine lo_neg (by first | assumption | omega) ?_)
    | (with_reducible refine lo_test (fun _ => by first | assumption | omega) (fun _ => ?_))
    | exact lo_refl _
    | refine lo_ite (fun _ => ?_) (fun _ => ?_)
    | refine lo_bind (fun _ => ?_)
    | (refine lo_some ?_; first | rfl | (rw [Bool.false_xor]; rfl))
  all_goals (exfalso; first | omega | (simp_all; done) | (simp_all; omega))
theorem stringslite_Cut.al : AllLe (obls stringslite_Cut.E Tryz.f108) := by
  rw [stringslite_Cut.h1]
  exact .nil
theorem stringslite_Cut.ok : CalleeOk Tryz.prog 108 stringslite_Cut.c := fn_ok tabOk mixed (fun _ => rfl) Tryz.func108 rfl (by kernel_rfl) (ok_cons stringslite_Index.ok ok_nil) stringslite_Cut.al (fun k x r h => (congrFun (congrFun stringslite_Cut.h2 k) x).symm.trans (stringslite_Cut.bf k _ _ r h))
def strings_Cut.c : Sym.Callee := ⟨(.cons .str (.cons .str .nil)), (.cons .str (.cons .str (.cons .bool .nil))), true, ByteArray × ByteArray × Bool, fun k x => strings_Cut.f x.1 x.2.1, fun z => (z.1, z.2.1, z.2.2, ()), []⟩
def strings_Cut.nf (k : Nat) (a0 : ByteArray) (a1 : ByteArray) : Option (ByteArray × ByteArray × Bool) := ((stringslite_Cut.f a0 a1).bind fun t1 => (some (t1.1, t1.2.1, t1.2.2)))
noncomputable def strings_Cut.E : Env (ByteArray × ByteArray × Bool) := envOf tab Tryz.f82 true (.cons .str (.cons .str (.cons .bool .nil))) [] (fun y => (y.1, y.2.1, y.2.2.1)) [(108, stringslite_Cut.c)] [] []
theorem strings_Cut.h1 : obls strings_Cut.E Tryz.f82 = [] := by kernel_rfl
theorem strings_Cut.h2 : (fun k (x : El (.cons .str (.cons .str .nil))) => strings_Cut.nf k x.1 x.2.1) = fun k x => mainK strings_Cut.E Tryz.f82 (.cons .str (.cons .str .nil)) k x := by kernel_rfl
set_option maxHeartbeats 2000000 in
theorem strings_Cut.bf (k : Nat) (a0 : ByteArray) (a1 : ByteArray) : Lo (strings_Cut.f a0 a1) (strings_Cut.nf k a0 a1) := by
  unfold strings_Cut.f strings_Cut.nf
  try simp only [Bool.false_xor, Bool.true_xor, wu8_64, wu8_u64, byL_nums, btS_bt, nil_tl, beq_decL, beq_decI]
  repeat' first
    | (with_reducible exact lo_refl _)
    | exact lo_none _
    | (with_reducible refine lo_ite (fun _ => ?_) (fun _ => ?_))
    | (with_reducible refine lo_bind (fun _ => ?_))
    | (with_reducible refine lo_left ?_)
    | (refine lo_pos (by first | assumption | omega) ?_)
    | (refine lo_neg (by first | assumption | omega) ?_)
    | (with_reducible refine lo_test (fun _ => by first | assumption | omega) (fun _ => ?_))
    | exact lo_refl _
    | refine lo_ite (fun _ => ?_) (fun _ => ?_)
    | refine lo_bind (fun _ => ?_)
    | (refine lo_some ?_; first | rfl | (rw [Bool.false_xor]; rfl))
  all_goals (exfalso; first | omega | (simp_all; done) | (simp_all; omega))
theorem strings_Cut.al : AllLe (obls strings_Cut.E Tryz.f82) := by
  rw [strings_Cut.h1]
  exact .nil
theorem strings_Cut.ok : CalleeOk Tryz.prog 82 strings_Cut.c := fn_ok tabOk mixed (fun _ => rfl) Tryz.func82 rfl (by kernel_rfl) (ok_cons stringslite_Cut.ok ok_nil) strings_Cut.al (fun k x r h => (congrFun (congrFun strings_Cut.h2 k) x).symm.trans (strings_Cut.bf k _ _ r h))
def events_Word.c : Sym.Callee := ⟨(.cons (.int .i64) .nil), .str, false, ByteArray, fun k x => events_Word.f x.1, fun z => z, []⟩
def events_Word.nf (k : Nat) (a0 : Int) : Option (ByteArray) := (if a0 < (0 : Int) then (some (⟨#[]⟩ : ByteArray)) else (if a0 ≥ (12 : Int) then (some (⟨#[]⟩ : ByteArray)) else (if 0 ≤ a0 then (if a0 < ((12 : Nat) : Int) then (some ([(⟨#[]⟩ : ByteArray), (⟨#[112, 104, 97, 115, 101]⟩ : ByteArray), (⟨#[116, 104, 97, 119]⟩ : ByteArray), (⟨#[102, 114, 101, 101, 122, 101]⟩ : ByteArray), (⟨#[115, 119, 97]⟩ : ByteArray), (⟨#[102, 97, 105, 108]⟩ : ByteArray), (⟨#[109, 105, 115, 115]⟩ : ByteArray), (⟨#[107, 101, 101, 112]⟩ : ByteArray), (⟨#[100, 114, 111, 112]⟩ : ByteArray), (⟨#[99, 117, 116]⟩ : ByteArray), (⟨#[115, 116, 111, 112]⟩ : ByteArray), (⟨#[101, 110, 100]⟩ : ByteArray)].getD (a0).toNat (⟨#[]⟩ : ByteArray))) else none) else none)))
noncomputable def events_Word.E : Env (ByteArray) := envOf tab Tryz.f35 false .str [] (fun y => y) [] [] []
theorem events_Word.h1 : obls events_Word.E Tryz.f35 = [] := by kernel_rfl
theorem events_Word.h2 : (fun k (x : El (.cons (.int .i64) .nil)) => events_Word.nf k x.1) = fun k x => mainK events_Word.E Tryz.f35 (.cons (.int .i64) .nil) k x := by kernel_rfl
set_option maxHeartbeats 2000000 in
theorem events_Word.bf (k : Nat) (a0 : Int) : Lo (events_Word.f a0) (events_Word.nf k a0) := by
  unfold events_Word.f events_Word.nf
  try simp only [Bool.false_xor, Bool.true_xor, wu8_64, wu8_u64, byL_nums, btS_bt, nil_tl, beq_decL, beq_decI]
  repeat' first
    | (with_reducible exact lo_refl _)
    | exact lo_none _
    | (with_reducible refine lo_lpos (by first | assumption | decide) ?_)
    | (with_reducible refine lo_lneg (by first | assumption | decide) ?_)
    | (with_reducible refine lo_ite (fun _ => ?_) (fun _ => ?_))
    | (with_reducible refine lo_bind (fun _ => ?_))
    | (with_reducible refine lo_left ?_)
    | (refine lo_neg (by decide) ?_)
    | (refine lo_pos (by first | assumption | omega) ?_)
    | (refine lo_neg (by first | assumption | omega) ?_)
    | (with_reducible refine lo_test (fun _ => by first | assumption | omega | (simp only [List.length_cons, List.length_nil]; omega) | decide) (fun _ => ?_))
    | (with_reducible refine lo_testn (fun _ => by first | assumption | omega) (fun _ => ?_))
    | (with_reducible refine lo_and (fun z => by first | exact z.1 | omega) (fun z => by first | exact z.2 | omega) (fun _ => ?_))
    | exact lo_refl _
    | (with_reducible refine lo_iff (by first | exact Iff.rfl | omega | (simp; done) | decide) (fun _ => ?_) (fun _ => ?_))
    | (with_reducible refine lo_iffn (by first | exact Iff.rfl | omega | (simp; done) | decide) (fun _ => ?_) (fun _ => ?_))
    | refine lo_ite (fun _ => ?_) (fun _ => ?_)
    | refine lo_bind (fun _ => ?_)
    | (refine lo_some ?_; first | rfl | (rw [Bool.false_xor]; rfl) | (rw [Bool.true_xor]; rfl) | (simp only [Bool.and_true]; rfl) | (simp; done))
    | (simp only [Int.zero_sub]; exact lo_refl _)
    | (with_reducible refine lo_lpos (by omega) ?_)
    | (with_reducible refine lo_lneg (by omega) ?_)
    | (with_reducible refine lo_lite (fun _ => ?_) (fun _ => ?_))
    | (with_reducible refine lo_rite (fun _ => ?_) (fun _ => ?_))
  all_goals (exfalso; first | omega | (simp_all; done) | (simp_all; omega))
theorem events_Word.al : AllLe (obls events_Word.E Tryz.f35) := by
  rw [events_Word.h1]
  exact .nil
theorem events_Word.ok : CalleeOk Tryz.prog 35 events_Word.c := fn_ok tabOk mixed (fun _ => rfl) Tryz.func35 rfl (by kernel_rfl) ok_nil events_Word.al (fun k x r h => (congrFun (congrFun events_Word.h2 k) x).symm.trans (events_Word.bf k _ r h))
def events_Parse.c : Sym.Callee := ⟨(.cons (.int .i64) (.cons .str .nil)), (.cons (.cons (.int .i64) (.cons (.int .i64) (.cons (.int .i64) .nil))) (.cons .bool .nil)), true, Int × Int × Int × Bool, fun k x => events_Parse.f k x.1 x.2.1, fun z => ((z.1, z.2.1, z.2.2.1, ()), z.2.2.2, ()), []⟩
def events_Parse.nl0 (k : Nat) (x0 : Int) (x6 : ByteArray) (x9 : Int) (x11 : Int) (b4_0 : Int) (b4_1 : Int) (b4_2 : Int) : Option (Int × Int × Int × Bool) := (if x11 ≤ (11 : Int) then ((events_Word.f x11).bind fun t3 => (if t3.toList = x6.toList then (some (x0, x11, x9, true)) else (events_Parse.l0 k x0 x6 x9 (wrap64 (x11 + (1 : Int)))))) else (some (0, 0, 0, false)))
def events_Parse.nf (k : Nat) (a0 : Int) (a1 : ByteArray) : Option (Int × Int × Int × Bool) := ((strings_Cut.f a1 (⟨#[32]⟩ : ByteArray)).bind fun t1 => ((num_Get.f k t1.2.1).bind fun t2 => (if (!t1.2.2) = true then (some (0, 0, 0, false)) else (if t2.2 = (0 : Int) then (events_Parse.l0 k a0 t1.1 t2.1 (1 : Int)) else (some (0, 0, 0, false))))))
noncomputable def events_Parse.E : Env (Int × Int × Int × Bool) := envOf tab Tryz.f53 true (.cons (.cons (.int .i64) (.cons (.int .i64) (.cons (.int .i64) .nil))) (.cons .bool .nil)) [] (fun y => (y.1.1, y.1.2.1, y.1.2.2.1, y.2.1)) [(82, strings_Cut.c), (48, num_Get.c), (35, events_Word.c)] [⟨6, ⟨43, [(0, (.int .i64), []), (6, .str, []), (9, (.int .i64), []), (11, (.int .i64), [])], [(4, (.cons (.int .i64) (.cons (.int .i64) (.cons (.int .i64) .nil))), [])], []⟩, fun k y => events_Parse.l0 k y.1.1 y.1.2.1 y.1.2.2.1 y.1.2.2.2.1⟩] []
theorem events_Parse.h1 : obls events_Parse.E Tryz.f53 = [⟨(.cons (.cons (.int .i64) (.cons .str (.cons (.int .i64) (.cons (.int .i64) .nil)))) (.cons (.cons (.cons (.int .i64) (.cons (.int .i64) (.cons (.int .i64) .nil))) .nil) (.cons .nil .nil))), fun k y => events_Parse.l0 (k + 1) y.1.1 y.1.2.1 y.1.2.2.1 y.1.2.2.2.1, fun k y => events_Parse.nl0 k y.1.1 y.1.2.1 y.1.2.2.1 y.1.2.2.2.1 y.2.1.1.1 y.2.1.1.2.1 y.2.1.1.2.2.1⟩, ⟨(.cons (.cons (.int .i64) (.cons .str (.cons (.int .i64) (.cons (.int .i64) .nil)))) (.cons (.cons (.cons (.int .i64) (.cons (.int .i64) (.cons (.int .i64) .nil))) .nil) (.cons .nil .nil))), fun _ y => events_Parse.l0 0 y.1.1 y.1.2.1 y.1.2.2.1 y.1.2.2.2.1, fun _ _ => none⟩] := by kernel_rfl
theorem events_Parse.h2 : (fun k (x : El (.cons (.int .i64) (.cons .str .nil))) => events_Parse.nf k x.1 x.2.1) = fun k x => mainK events_Parse.E Tryz.f53 (.cons (.int .i64) (.cons .str .nil)) k x := by kernel_rfl
theorem events_Parse.bl0 (k : Nat) (x0 : Int) (x6 : ByteArray) (x9 : Int) (x11 : Int) (b4_0 : Int) (b4_1 : Int) (b4_2 : Int) : Lo (events_Parse.l0 (k + 1) x0 x6 x9 x11) (events_Parse.nl0 k x0 x6 x9 x11 b4_0 b4_1 b4_2) := by
  rw [events_Parse.l0]
  unfold events_Parse.nl0
  try simp only [Bool.false_xor, Bool.true_xor, wu8_64, wu8_u64, byL_nums, btS_bt, nil_tl, beq_decL, beq_decI]
  repeat' first
    | (with_reducible exact lo_refl _)
    | exact lo_none _
    | (with_reducible refine lo_ite (fun _ => ?_) (fun _ => ?_))
    | (with_reducible refine lo_bind (fun _ => ?_))
    | (with_reducible refine lo_left ?_)
    | (refine lo_pos (by first | assumption | omega) ?_)
    | (refine lo_neg (by first | assumption | omega) ?_)
    | (with_reducible refine lo_test (fun _ => by first | assumption | omega) (fun _ => ?_))
    | exact lo_refl _
    | refine lo_ite (fun _ => ?_) (fun _ => ?_)
    | refine lo_bind (fun _ => ?_)
    | (refine lo_some ?_; first | rfl | (rw [Bool.false_xor]; rfl))
  all_goals (exfalso; first | omega | (simp_all; done) | (simp_all; omega))
set_option maxHeartbeats 2000000 in
theorem events_Parse.bf (k : Nat) (a0 : Int) (a1 : ByteArray) : Lo (events_Parse.f k a0 a1) (events_Parse.nf k a0 a1) := by
  unfold events_Parse.f events_Parse.nf
  try simp only [Bool.false_xor, Bool.true_xor, wu8_64, wu8_u64, byL_nums, btS_bt, nil_tl, beq_decL, beq_decI]
  repeat' first
    | (with_reducible exact lo_refl _)
    | exact lo_none _
    | (with_reducible refine lo_lpos (by first | assumption | decide) ?_)
    | (with_reducible refine lo_lneg (by first | assumption | decide) ?_)
    | (with_reducible refine lo_ite (fun _ => ?_) (fun _ => ?_))
    | (with_reducible refine lo_bind (fun _ => ?_))
    | (with_reducible refine lo_left ?_)
    | (refine lo_neg (by decide) ?_)
    | (refine lo_pos (by first | assumption | omega) ?_)
    | (refine lo_neg (by first | assumption | omega) ?_)
    | (refine lo_trans (fun r h => (events_Parse.mono_l _).1 _ _ _ _ r h) ?_; rw [events_Parse.j0]; try simp only [decide_eq_true_eq])
    | (with_reducible refine lo_test (fun _ => by first | assumption | omega | (simp only [List.length_cons, List.length_nil]; omega) | decide) (fun _ => ?_))
    | (with_reducible refine lo_testn (fun _ => by first | assumption | omega) (fun _ => ?_))
    | (with_reducible refine lo_and (fun z => by first | exact z.1 | omega) (fun z => by first | exact z.2 | omega) (fun _ => ?_))
    | exact lo_refl _
    | (with_reducible refine lo_iff (by first | exact Iff.rfl | omega | (simp; done) | decide) (fun _ => ?_) (fun _ => ?_))
    | (with_reducible refine lo_iffn (by first | exact Iff.rfl | omega | (simp; done) | decide) (fun _ => ?_) (fun _ => ?_))
    | refine lo_ite (fun _ => ?_) (fun _ => ?_)
    | refine lo_bind (fun _ => ?_)
    | (refine lo_some ?_; first | rfl | (rw [Bool.false_xor]; rfl) | (rw [Bool.true_xor]; rfl) | (simp only [Bool.and_true]; rfl) | (simp; done))
    | (simp only [Int.zero_sub]; exact lo_refl _)
    | (with_reducible refine lo_lpos (by omega) ?_)
    | (with_reducible refine lo_lneg (by omega) ?_)
    | (with_reducible refine lo_lite (fun _ => ?_) (fun _ => ?_))
    | (with_reducible refine lo_rite (fun _ => ?_) (fun _ => ?_))
  all_goals (exfalso; first | omega | (simp_all; done) | (simp_all; omega))
theorem events_Parse.al : AllLe (obls events_Parse.E Tryz.f53) := by
  rw [events_Parse.h1]
  exact (.cons (fun k y r h => events_Parse.bl0 k y.1.1 y.1.2.1 y.1.2.2.1 y.1.2.2.2.1 y.2.1.1.1 y.2.1.1.2.1 y.2.1.1.2.2.1 r h) (.cons (fun _ y r h => by simp [events_Parse.l0] at h) .nil))
theorem events_Parse.ok : CalleeOk Tryz.prog 53 events_Parse.c := fn_ok tabOk mixed (fun _ => rfl) Tryz.func53 rfl (by kernel_rfl) (ok_cons strings_Cut.ok (ok_cons num_Get.ok (ok_cons events_Word.ok ok_nil))) events_Parse.al (fun k x r h => (congrFun (congrFun events_Parse.h2 k) x).symm.trans (events_Parse.bf k _ _ r h))
def trace_event.c : Sym.Callee := ⟨(.cons .str (.cons (.int .i64) .nil)), (.cons (.cons (.int .i64) (.cons (.int .i64) (.cons (.int .i64) .nil))) (.cons .bool .nil)), true, Int × Int × Int × Bool, fun k x => trace_event.f k x.1 x.2.1, fun z => ((z.1, z.2.1, z.2.2.1, ()), z.2.2.2, ()), []⟩
def trace_event.nf (k : Nat) (a0 : ByteArray) (a1 : Int) : Option (Int × Int × Int × Bool) := ((strings_CutPrefix.f a0 (⟨#[32, 32]⟩ : ByteArray)).bind fun t1 => (if (!t1.2) = true then (some (0, 0, 0, false)) else ((events_Parse.f k a1 t1.1).bind fun t2 => (some (t2.1, t2.2.1, t2.2.2.1, t2.2.2.2)))))
noncomputable def trace_event.E : Env (Int × Int × Int × Bool) := envOf tab Tryz.f22 true (.cons (.cons (.int .i64) (.cons (.int .i64) (.cons (.int .i64) .nil))) (.cons .bool .nil)) [] (fun y => (y.1.1, y.1.2.1, y.1.2.2.1, y.2.1)) [(50, strings_CutPrefix.c), (53, events_Parse.c)] [] []
theorem trace_event.h1 : obls trace_event.E Tryz.f22 = [] := by kernel_rfl
theorem trace_event.h2 : (fun k (x : El (.cons .str (.cons (.int .i64) .nil))) => trace_event.nf k x.1 x.2.1) = fun k x => mainK trace_event.E Tryz.f22 (.cons .str (.cons (.int .i64) .nil)) k x := by kernel_rfl
set_option maxHeartbeats 2000000 in
theorem trace_event.bf (k : Nat) (a0 : ByteArray) (a1 : Int) : Lo (trace_event.f k a0 a1) (trace_event.nf k a0 a1) := by
  unfold trace_event.f trace_event.nf
  try simp only [Bool.false_xor, Bool.true_xor, wu8_64, wu8_u64, byL_nums, btS_bt, nil_tl, beq_decL, beq_decI]
  repeat' first
    | (with_reducible exact lo_refl _)
    | exact lo_none _
    | (with_reducible refine lo_lpos (by first | assumption | decide) ?_)
    | (with_reducible refine lo_lneg (by first | assumption | decide) ?_)
    | (with_reducible refine lo_ite (fun _ => ?_) (fun _ => ?_))
    | (with_reducible refine lo_bind (fun _ => ?_))
    | (with_reducible refine lo_left ?_)
    | (refine lo_neg (by decide) ?_)
    | (refine lo_pos (by first | assumption | omega) ?_)
    | (refine lo_neg (by first | assumption | omega) ?_)
    | (with_reducible refine lo_test (fun _ => by first | assumption | omega | (simp only [List.length_cons, List.length_nil]; omega) | decide) (fun _ => ?_))
    | (with_reducible refine lo_testn (fun _ => by first | assumption | omega) (fun _ => ?_))
    | (with_reducible refine lo_and (fun z => by first | exact z.1 | omega) (fun z => by first | exact z.2 | omega) (fun _ => ?_))
    | exact lo_refl _
    | (with_reducible refine lo_iff (by first | exact Iff.rfl | omega | (simp; done) | decide) (fun _ => ?_) (fun _ => ?_))
    | (with_reducible refine lo_iffn (by first | exact Iff.rfl | omega | (simp; done) | decide) (fun _ => ?_) (fun _ => ?_))
    | refine lo_ite (fun _ => ?_) (fun _ => ?_)
    | refine lo_bind (fun _ => ?_)
    | (refine lo_some ?_; first | rfl | (rw [Bool.false_xor]; rfl) | (rw [Bool.true_xor]; rfl) | (simp only [Bool.and_true]; rfl) | (simp; done))
    | (simp only [Int.zero_sub]; exact lo_refl _)
    | (with_reducible refine lo_lpos (by omega) ?_)
    | (with_reducible refine lo_lneg (by omega) ?_)
    | (with_reducible refine lo_lite (fun _ => ?_) (fun _ => ?_))
    | (with_reducible refine lo_rite (fun _ => ?_) (fun _ => ?_))
  all_goals (exfalso; first | omega | (simp_all; done) | (simp_all; omega))
theorem trace_event.al : AllLe (obls trace_event.E Tryz.f22) := by
  rw [trace_event.h1]
  exact .nil
theorem trace_event.ok : CalleeOk Tryz.prog 22 trace_event.c := fn_ok tabOk mixed (fun _ => rfl) Tryz.func22 rfl (by kernel_rfl) (ok_cons strings_CutPrefix.ok (ok_cons events_Parse.ok ok_nil)) trace_event.al (fun k x r h => (congrFun (congrFun trace_event.h2 k) x).symm.trans (trace_event.bf k _ _ r h))
mutual
def trace_One.l7 : Nat → (List ByteArray) → Int → (Int × Int × (List Int) × (List Bool) × (List (Int × Int × Int × Unit)) × Int × Unit) → (Int × Int × (List Int) × (List Bool) × (List (Int × Int × Int × Unit)) × Int × Unit) → Option ((Int × Int × (List Int) × (List Bool) × (List (Int × Int × Int × Unit)) × Int × Unit) × Int × Unit)
  | 0, _, _, _, _ => none
  | k + 1, x0, x6, b2, b4 => (if x6 < (x0.length : Int) then (if 0 ≤ x6 then (if x6 < (x0.length : Int) then ((trace_group.f k (x0.getD (x6).toNat (⟨#[]⟩ : ByteArray)) (b4.2.2.2.1.length : Int)).bind fun t2 => (if (!t2.2.2.1) = true then (trace_One.l12 k x0 x6 b2 b4) else (if (b4.2.2.1.length + t2.1.length) * 8 ≤ 140737488355328 then (if (b4.2.2.2.1.length + [t2.2.1].length) * 1 ≤ 140737488355328 then (trace_One.l7 k x0 (wrap64 (x6 + (1 : Int))) b2 (b4.1, b4.2.1, (b4.2.2.1 ++ t2.1), (b4.2.2.2.1 ++ [t2.2.1]), b4.2.2.2.2)) else none) else none))) else none) else none) else (trace_One.l12 k x0 x6 b2 b4))
def trace_One.l12 : Nat → (List ByteArray) → Int → (Int × Int × (List Int) × (List Bool) × (List (Int × Int × Int × Unit)) × Int × Unit) → (Int × Int × (List Int) × (List Bool) × (List (Int × Int × Int × Unit)) × Int × Unit) → Option ((Int × Int × (List Int) × (List Bool) × (List (Int × Int × Int × Unit)) × Int × Unit) × Int × Unit)
  | 0, _, _, _, _ => none
  | k + 1, x0, x6, b2, b4 => (if x6 < (x0.length : Int) then (if 0 ≤ x6 then (if x6 < (x0.length : Int) then ((trace_event.f k (x0.getD (x6).toNat (⟨#[]⟩ : ByteArray)) b4.1).bind fun t3 => (if (!t3.2.2.2) = true then (trace_One.j17 k x6 b2 b4) else (if (b4.2.2.2.2.1.length + [(t3.1, t3.2.1, t3.2.2.1, ())].length) * 24 ≤ 140737488355328 then (trace_One.l12 k x0 (wrap64 (x6 + (1 : Int))) b2 (b4.1, b4.2.1, b4.2.2.1, b4.2.2.2.1, (b4.2.2.2.2.1 ++ [(t3.1, t3.2.1, t3.2.2.1, ())]), b4.2.2.2.2.2)) else none))) else none) else none) else (trace_One.j17 k x6 b2 b4))
def trace_One.j17 : Nat → Int → (Int × Int × (List Int) × (List Bool) × (List (Int × Int × Int × Unit)) × Int × Unit) → (Int × Int × (List Int) × (List Bool) × (List (Int × Int × Int × Unit)) × Int × Unit) → Option ((Int × Int × (List Int) × (List Bool) × (List (Int × Int × Int × Unit)) × Int × Unit) × Int × Unit)
  | 0, _, _, _ => none
  | k + 1, x6, b2, b4 => (some (b4, x6, ()))
end
def trace_One.f (k : Nat) (a0 : List ByteArray) : Option ((Int × Int × (List Int) × (List Bool) × (List (Int × Int × Int × Unit)) × Int × Unit) × Int × Unit) := (if (a0.length : Int) = (0 : Int) then (some ((0, 0, ([] : List Int), ([] : List Bool), ([] : List (Int × Int × Int × Unit)), 0, ()), (0 : Int), ())) else (if 0 ≤ (0 : Int) then (if (0 : Int) < (a0.length : Int) then ((trace_head.f k (a0.getD ((0 : Int)).toNat (⟨#[]⟩ : ByteArray))).bind fun t1 => (if (!t1.2.1) = true then (some ((0, 0, ([] : List Int), ([] : List Bool), ([] : List (Int × Int × Int × Unit)), 0, ()), (0 : Int), ())) else (trace_One.l7 k a0 (1 : Int) (0, 0, ([] : List Int), ([] : List Bool), ([] : List (Int × Int × Int × Unit)), 0, ()) t1.1))) else none) else none))
def trace_One.c : Sym.Callee := ⟨(.cons (.sl .str) .nil), (.cons (.cons (.int .i64) (.cons (.int .i64) (.cons (.sl (.int .i64)) (.cons (.sl .bool) (.cons (.sl (.cons (.int .i64) (.cons (.int .i64) (.cons (.int .i64) .nil)))) (.cons (.int .i64) .nil)))))) (.cons (.int .i64) .nil)), true, El (.cons (.cons (.int .i64) (.cons (.int .i64) (.cons (.sl (.int .i64)) (.cons (.sl .bool) (.cons (.sl (.cons (.int .i64) (.cons (.int .i64) (.cons (.int .i64) .nil)))) (.cons (.int .i64) .nil)))))) (.cons (.int .i64) .nil)), fun k x => trace_One.f k x.1, fun y => y, []⟩
noncomputable def trace_One.E : Env (El (.cons (.cons (.int .i64) (.cons (.int .i64) (.cons (.sl (.int .i64)) (.cons (.sl .bool) (.cons (.sl (.cons (.int .i64) (.cons (.int .i64) (.cons (.int .i64) .nil)))) (.cons (.int .i64) .nil)))))) (.cons (.int .i64) .nil))) := envOf tab Tryz.f6 true (.cons (.cons (.int .i64) (.cons (.int .i64) (.cons (.sl (.int .i64)) (.cons (.sl .bool) (.cons (.sl (.cons (.int .i64) (.cons (.int .i64) (.cons (.int .i64) .nil)))) (.cons (.int .i64) .nil)))))) (.cons (.int .i64) .nil)) [] (fun y => y) [(20, trace_head.c), (21, trace_group.c), (22, trace_event.c)] [⟨7, ⟨83, [(0, (.sl .str), []), (6, (.int .i64), [])], [(2, (.cons (.int .i64) (.cons (.int .i64) (.cons (.sl (.int .i64)) (.cons (.sl .bool) (.cons (.sl (.cons (.int .i64) (.cons (.int .i64) (.cons (.int .i64) .nil)))) (.cons (.int .i64) .nil)))))), [⟨2, 3, 3, 1⟩, ⟨3, 105, 4, 1⟩, ⟨4, 106, 57, 3⟩]), (4, (.cons (.int .i64) (.cons (.int .i64) (.cons (.sl (.int .i64)) (.cons (.sl .bool) (.cons (.sl (.cons (.int .i64) (.cons (.int .i64) (.cons (.int .i64) .nil)))) (.cons (.int .i64) .nil)))))), [⟨2, 5, 3, 1⟩, ⟨3, 125, 4, 1⟩, ⟨4, 126, 57, 3⟩])], []⟩, fun k y => trace_One.l7 k y.1.1 y.1.2.1 y.2.1.1 y.2.1.2.1⟩, ⟨12, ⟨83, [(0, (.sl .str), []), (6, (.int .i64), [])], [(2, (.cons (.int .i64) (.cons (.int .i64) (.cons (.sl (.int .i64)) (.cons (.sl .bool) (.cons (.sl (.cons (.int .i64) (.cons (.int .i64) (.cons (.int .i64) .nil)))) (.cons (.int .i64) .nil)))))), [⟨2, 3, 3, 1⟩, ⟨3, 105, 4, 1⟩, ⟨4, 106, 57, 3⟩]), (4, (.cons (.int .i64) (.cons (.int .i64) (.cons (.sl (.int .i64)) (.cons (.sl .bool) (.cons (.sl (.cons (.int .i64) (.cons (.int .i64) (.cons (.int .i64) .nil)))) (.cons (.int .i64) .nil)))))), [⟨2, 5, 3, 1⟩, ⟨3, 125, 4, 1⟩, ⟨4, 126, 57, 3⟩])], []⟩, fun k y => trace_One.l12 k y.1.1 y.1.2.1 y.2.1.1 y.2.1.2.1⟩] [⟨17, ⟨83, [(6, (.int .i64), [])], [(2, (.cons (.int .i64) (.cons (.int .i64) (.cons (.sl (.int .i64)) (.cons (.sl .bool) (.cons (.sl (.cons (.int .i64) (.cons (.int .i64) (.cons (.int .i64) .nil)))) (.cons (.int .i64) .nil)))))), [⟨2, 3, 3, 1⟩, ⟨3, 105, 4, 1⟩, ⟨4, 106, 57, 3⟩]), (4, (.cons (.int .i64) (.cons (.int .i64) (.cons (.sl (.int .i64)) (.cons (.sl .bool) (.cons (.sl (.cons (.int .i64) (.cons (.int .i64) (.cons (.int .i64) .nil)))) (.cons (.int .i64) .nil)))))), [⟨2, 5, 3, 1⟩, ⟨3, 125, 4, 1⟩, ⟨4, 126, 57, 3⟩])], []⟩, fun k y => trace_One.j17 k y.1.1 y.2.1.1 y.2.1.2.1⟩]
theorem trace_One.h1 : (obls trace_One.E Tryz.f6).map Ob.left = (obls trace_One.E Tryz.f6).map Ob.right := by kernel_rfl
theorem trace_One.h2 : (fun k x => trace_One.c.fn k x) = fun k x => mainK trace_One.E Tryz.f6 trace_One.c.dom k x := by kernel_rfl
theorem trace_One.ok : CalleeOk Tryz.prog 6 trace_One.c := fn_ok tabOk mixed (fun _ => rfl) Tryz.func6 rfl (by kernel_rfl) (ok_cons trace_head.ok (ok_cons trace_group.ok (ok_cons trace_event.ok ok_nil))) (.of_eq trace_One.h1) (fun k x _ h => (congrFun (congrFun trace_One.h2 k) x).symm.trans h)
theorem trace_One.mono_c : ∀ k, (∀ x0 x6 b2 b4, Lo (trace_One.l7 k x0 x6 b2 b4) (trace_One.l7 (k + 1) x0 x6 b2 b4)) ∧ (∀ x0 x6 b2 b4, Lo (trace_One.l12 k x0 x6 b2 b4) (trace_One.l12 (k + 1) x0 x6 b2 b4)) ∧ (∀ x6 b2 b4, Lo (trace_One.j17 k x6 b2 b4) (trace_One.j17 (k + 1) x6 b2 b4)) ∧ True
  | 0 => ⟨fun _ _ _ _ => by rw [trace_One.l7]; exact lo_none _, fun _ _ _ _ => by rw [trace_One.l12]; exact lo_none _, fun _ _ _ => by rw [trace_One.j17]; exact lo_none _, trivial⟩
  | k + 1 => by
    obtain ⟨h_l7, h_l12, h_j17, _⟩ := trace_One.mono_c k
    exact ⟨fun _ _ _ _ => by rw [trace_One.l7, trace_One.l7]; repeat' first | (with_reducible exact lo_refl _) | (with_reducible exact h_l7 _ _ _ _) | (with_reducible exact h_l12 _ _ _ _) | (with_reducible exact h_j17 _ _ _) | (with_reducible refine lo_ite (fun _ => ?_) (fun _ => ?_)) | (with_reducible refine lo_bind2 ?_ (fun _ => ?_)) | (with_reducible exact lo_of (trace_head.mono _ _)) | (with_reducible exact lo_of (trace_group.mono _ _ _)) | (with_reducible exact lo_leo (trace_event.mono _ _ _)), fun _ _ _ _ => by rw [trace_One.l12, trace_One.l12]; repeat' first | (with_reducible exact lo_refl _) | (with_reducible exact h_l7 _ _ _ _) | (with_reducible exact h_l12 _ _ _ _) | (with_reducible exact h_j17 _ _ _) | (with_reducible refine lo_ite (fun _ => ?_) (fun _ => ?_)) | (with_reducible refine lo_bind2 ?_ (fun _ => ?_)) | (with_reducible exact lo_of (trace_head.mono _ _)) | (with_reducible exact lo_of (trace_group.mono _ _ _)) | (with_reducible exact lo_leo (trace_event.mono _ _ _)), fun _ _ _ => by rw [trace_One.j17, trace_One.j17]; repeat' first | (with_reducible exact lo_refl _) | (with_reducible exact h_l7 _ _ _ _) | (with_reducible exact h_l12 _ _ _ _) | (with_reducible exact h_j17 _ _ _) | (with_reducible refine lo_ite (fun _ => ?_) (fun _ => ?_)) | (with_reducible refine lo_bind2 ?_ (fun _ => ?_)) | (with_reducible exact lo_of (trace_head.mono _ _)) | (with_reducible exact lo_of (trace_group.mono _ _ _)) | (with_reducible exact lo_leo (trace_event.mono _ _ _)), trivial⟩
theorem trace_One.mono : ∀ k a0, Lo (trace_One.f k a0) (trace_One.f (k + 1) a0) := by
  intro k a0
  obtain ⟨h_l7, h_l12, h_j17, _⟩ := trace_One.mono_c k
  unfold trace_One.f
  repeat' first | (with_reducible exact lo_refl _) | (with_reducible exact h_l7 _ _ _ _) | (with_reducible exact h_l12 _ _ _ _) | (with_reducible exact h_j17 _ _ _) | (with_reducible refine lo_ite (fun _ => ?_) (fun _ => ?_)) | (with_reducible refine lo_bind2 ?_ (fun _ => ?_)) | (with_reducible exact lo_of (trace_head.mono _ _)) | (with_reducible exact lo_of (trace_group.mono _ _ _)) | (with_reducible exact lo_leo (trace_event.mono _ _ _))
def trace_count.c : Sym.Callee := ⟨(.cons (.int .i64) .nil), .bool, false, Bool, fun k x => trace_count.f x.1, fun z => z, []⟩
def trace_count.nf (k : Nat) (a0 : Int) : Option (Bool) := (if a0 ≥ (0 : Int) then (some (xor false (decide (a0 ≤ (1099511627776 : Int))))) else (some false))
noncomputable def trace_count.E : Env (Bool) := envOf tab Tryz.f32 false .bool [] (fun y => y) [] [] []
theorem trace_count.h1 : obls trace_count.E Tryz.f32 = [] := by kernel_rfl
theorem trace_count.h2 : (fun k (x : El (.cons (.int .i64) .nil)) => trace_count.nf k x.1) = fun k x => mainK trace_count.E Tryz.f32 (.cons (.int .i64) .nil) k x := by kernel_rfl
set_option maxHeartbeats 2000000 in
theorem trace_count.bf (k : Nat) (a0 : Int) : Lo (trace_count.f a0) (trace_count.nf k a0) := by
  unfold trace_count.f trace_count.nf
  try simp only [Bool.false_xor, Bool.true_xor, wu8_64, wu8_u64, byL_nums, btS_bt, nil_tl, beq_decL, beq_decI]
  repeat' first
    | (with_reducible exact lo_refl _)
    | exact lo_none _
    | (with_reducible refine lo_ite (fun _ => ?_) (fun _ => ?_))
    | (with_reducible refine lo_bind (fun _ => ?_))
    | (with_reducible refine lo_left ?_)
    | (refine lo_pos (by first | assumption | omega) ?_)
    | (refine lo_neg (by first | assumption | omega) ?_)
    | (with_reducible refine lo_test (fun _ => by first | assumption | omega) (fun _ => ?_))
    | exact lo_refl _
    | refine lo_ite (fun _ => ?_) (fun _ => ?_)
    | refine lo_bind (fun _ => ?_)
    | (refine lo_some ?_; first | rfl | (rw [Bool.false_xor]; rfl))
  all_goals (exfalso; first | omega | (simp_all; done) | (simp_all; omega))
theorem trace_count.al : AllLe (obls trace_count.E Tryz.f32) := by
  rw [trace_count.h1]
  exact .nil
theorem trace_count.ok : CalleeOk Tryz.prog 32 trace_count.c := fn_ok tabOk mixed (fun _ => rfl) Tryz.func32 rfl (by kernel_rfl) ok_nil trace_count.al (fun k x r h => (congrFun (congrFun trace_count.h2 k) x).symm.trans (trace_count.bf k _ r h))
def trace_Check_c1.f (k : Nat) (a0 : Int × Int × Int × Unit) (a1 : Int × Int × (List Int) × (List Bool) × (List (Int × Int × Int × Unit)) × Int × Unit) : Option Bool := (if a0.1 = a1.1 then ((events_Word.f a0.2.1).bind fun t1 => (if t1.toList = (⟨#[]⟩ : ByteArray).toList then (some true) else ((trace_count.f a0.2.2.1).bind fun t2 => (some (!t2))))) else (some true))
def trace_Check_c1.c : Sym.Callee := ⟨(.cons (.cons (.int .i64) (.cons (.int .i64) (.cons (.int .i64) .nil))) (.cons (.ref (.cons (.int .i64) (.cons (.int .i64) (.cons (.sl (.int .i64)) (.cons (.sl .bool) (.cons (.sl (.cons (.int .i64) (.cons (.int .i64) (.cons (.int .i64) .nil)))) (.cons (.int .i64) .nil))))))) .nil)), .bool, false, El .bool, fun k x => trace_Check_c1.f k x.1 x.2.1, fun y => y, []⟩
noncomputable def trace_Check_c1.E : Env (El .bool) := envOf tab Tryz.f34 false .bool [] (fun y => y) [(35, events_Word.c), (32, trace_count.c)] [] []
theorem trace_Check_c1.h1 : (obls trace_Check_c1.E Tryz.f34).map Ob.left = (obls trace_Check_c1.E Tryz.f34).map Ob.right := by kernel_rfl
theorem trace_Check_c1.h2 : (fun k x => trace_Check_c1.c.fn k x) = fun k x => mainK trace_Check_c1.E Tryz.f34 trace_Check_c1.c.dom k x := by kernel_rfl
theorem trace_Check_c1.ok : CalleeOk Tryz.prog 34 trace_Check_c1.c := fn_ok tabOk mixed (fun _ => rfl) Tryz.func34 rfl (by kernel_rfl) (ok_cons events_Word.ok (ok_cons trace_count.ok ok_nil)) (.of_eq trace_Check_c1.h1) (fun k x _ h => (congrFun (congrFun trace_Check_c1.h2 k) x).symm.trans h)
theorem trace_Check_c1.mono : ∀ k a0 a1, Lo (trace_Check_c1.f k a0 a1) (trace_Check_c1.f (k + 1) a0 a1) := by
  intro k a0 a1
  unfold trace_Check_c1.f
  repeat' first | (with_reducible exact lo_refl _) | (with_reducible refine lo_ite (fun _ => ?_) (fun _ => ?_)) | (with_reducible refine lo_bind2 ?_ (fun _ => ?_))
def slices_IndexFunc___api_Event_api_Event__34.l2 : Nat → (List (Int × Int × Int × Unit)) → (Option ((Int × Int × (List Int) × (List Bool) × (List (Int × Int × Int × Unit)) × Int × Unit) × Unit)) → Int → Int → Option Int
  | 0, _, _, _, _ => none
  | k + 1, x0, x1, x7, x8 => (if x8 < x7 then (if 0 ≤ x8 then (if x8 < (x0.length : Int) then (x1.bind fun t1 => ((trace_Check_c1.f k (x0.getD (x8).toNat (0, 0, 0, ())) t1.1).bind fun t2 => (if t2 = true then (some x8) else (slices_IndexFunc___api_Event_api_Event__34.l2 k x0 x1 x7 (wrap64 (x8 + (1 : Int))))))) else none) else none) else (some (-1 : Int)))
def slices_IndexFunc___api_Event_api_Event__34.f (k : Nat) (a0 : List (Int × Int × Int × Unit)) (a1 : Option ((Int × Int × (List Int) × (List Bool) × (List (Int × Int × Int × Unit)) × Int × Unit) × Unit)) : Option Int := (slices_IndexFunc___api_Event_api_Event__34.l2 k a0 a1 (a0.length : Int) (0 : Int))
def slices_IndexFunc___api_Event_api_Event__34.c : Sym.Callee := ⟨(.cons (.sl (.cons (.int .i64) (.cons (.int .i64) (.cons (.int .i64) .nil)))) (.cons (.clo 34 (.cons (.ref (.cons (.int .i64) (.cons (.int .i64) (.cons (.sl (.int .i64)) (.cons (.sl .bool) (.cons (.sl (.cons (.int .i64) (.cons (.int .i64) (.cons (.int .i64) .nil)))) (.cons (.int .i64) .nil))))))) .nil)) .nil)), (.int .i64), false, El (.int .i64), fun k x => slices_IndexFunc___api_Event_api_Event__34.f k x.1 x.2.1, fun y => y, []⟩
noncomputable def slices_IndexFunc___api_Event_api_Event__34.E : Env (El (.int .i64)) := envOf tab Tryz.f62 false (.int .i64) [] (fun y => y) [(34, trace_Check_c1.c)] [⟨2, ⟨19, [(0, (.sl (.cons (.int .i64) (.cons (.int .i64) (.cons (.int .i64) .nil)))), []), (1, (.clo 34 (.cons (.ref (.cons (.int .i64) (.cons (.int .i64) (.cons (.sl (.int .i64)) (.cons (.sl .bool) (.cons (.sl (.cons (.int .i64) (.cons (.int .i64) (.cons (.int .i64) .nil)))) (.cons (.int .i64) .nil))))))) .nil)), []), (7, (.int .i64), []), (8, (.int .i64), [])], [], []⟩, fun k y => slices_IndexFunc___api_Event_api_Event__34.l2 k y.1.1 y.1.2.1 y.1.2.2.1 y.1.2.2.2.1⟩] []
theorem slices_IndexFunc___api_Event_api_Event__34.h1 : (obls slices_IndexFunc___api_Event_api_Event__34.E Tryz.f62).map Ob.left = (obls slices_IndexFunc___api_Event_api_Event__34.E Tryz.f62).map Ob.right := by kernel_rfl
theorem slices_IndexFunc___api_Event_api_Event__34.h2 : (fun k x => slices_IndexFunc___api_Event_api_Event__34.c.fn k x) = fun k x => mainK slices_IndexFunc___api_Event_api_Event__34.E Tryz.f62 slices_IndexFunc___api_Event_api_Event__34.c.dom k x := by kernel_rfl
theorem slices_IndexFunc___api_Event_api_Event__34.ok : CalleeOk Tryz.prog 62 slices_IndexFunc___api_Event_api_Event__34.c := fn_ok tabOk mixed (fun _ => rfl) Tryz.func62 rfl (by kernel_rfl) (ok_cons trace_Check_c1.ok ok_nil) (.of_eq slices_IndexFunc___api_Event_api_Event__34.h1) (fun k x _ h => (congrFun (congrFun slices_IndexFunc___api_Event_api_Event__34.h2 k) x).symm.trans h)
theorem slices_IndexFunc___api_Event_api_Event__34.mono_c : ∀ k, (∀ x0 x1 x7 x8, Lo (slices_IndexFunc___api_Event_api_Event__34.l2 k x0 x1 x7 x8) (slices_IndexFunc___api_Event_api_Event__34.l2 (k + 1) x0 x1 x7 x8)) ∧ True
  | 0 => ⟨fun _ _ _ _ => by rw [slices_IndexFunc___api_Event_api_Event__34.l2]; exact lo_none _, trivial⟩
  | k + 1 => by
    obtain ⟨h_l2, _⟩ := slices_IndexFunc___api_Event_api_Event__34.mono_c k
    exact ⟨fun _ _ _ _ => by rw [slices_IndexFunc___api_Event_api_Event__34.l2, slices_IndexFunc___api_Event_api_Event__34.l2]; repeat' first | (with_reducible exact lo_refl _) | (with_reducible exact h_l2 _ _ _ _) | (with_reducible refine lo_ite (fun _ => ?_) (fun _ => ?_)) | (with_reducible refine lo_bind2 ?_ (fun _ => ?_)) | (with_reducible exact lo_of (trace_Check_c1.mono _ _ _)), trivial⟩
theorem slices_IndexFunc___api_Event_api_Event__34.mono : ∀ k a0 a1, Lo (slices_IndexFunc___api_Event_api_Event__34.f k a0 a1) (slices_IndexFunc___api_Event_api_Event__34.f (k + 1) a0 a1) := by
  intro k a0 a1
  obtain ⟨h_l2, _⟩ := slices_IndexFunc___api_Event_api_Event__34.mono_c k
  unfold slices_IndexFunc___api_Event_api_Event__34.f
  repeat' first | (with_reducible exact lo_refl _) | (with_reducible exact h_l2 _ _ _ _) | (with_reducible refine lo_ite (fun _ => ?_) (fun _ => ?_)) | (with_reducible refine lo_bind2 ?_ (fun _ => ?_)) | (with_reducible exact lo_of (trace_Check_c1.mono _ _ _))
def slices_ContainsFunc___api_Event_api_Event__34.f (k : Nat) (a0 : List (Int × Int × Int × Unit)) (a1 : Option ((Int × Int × (List Int) × (List Bool) × (List (Int × Int × Int × Unit)) × Int × Unit) × Unit)) : Option Bool := ((slices_IndexFunc___api_Event_api_Event__34.f k a0 a1).bind fun t1 => (some (xor false (decide (t1 ≥ (0 : Int))))))
def slices_ContainsFunc___api_Event_api_Event__34.c : Sym.Callee := ⟨(.cons (.sl (.cons (.int .i64) (.cons (.int .i64) (.cons (.int .i64) .nil)))) (.cons (.clo 34 (.cons (.ref (.cons (.int .i64) (.cons (.int .i64) (.cons (.sl (.int .i64)) (.cons (.sl .bool) (.cons (.sl (.cons (.int .i64) (.cons (.int .i64) (.cons (.int .i64) .nil)))) (.cons (.int .i64) .nil))))))) .nil)) .nil)), .bool, false, El .bool, fun k x => slices_ContainsFunc___api_Event_api_Event__34.f k x.1 x.2.1, fun y => y, []⟩
noncomputable def slices_ContainsFunc___api_Event_api_Event__34.E : Env (El .bool) := envOf tab Tryz.f33 false .bool [] (fun y => y) [(62, slices_IndexFunc___api_Event_api_Event__34.c)] [] []
theorem slices_ContainsFunc___api_Event_api_Event__34.h1 : (obls slices_ContainsFunc___api_Event_api_Event__34.E Tryz.f33).map Ob.left = (obls slices_ContainsFunc___api_Event_api_Event__34.E Tryz.f33).map Ob.right := by kernel_rfl
theorem slices_ContainsFunc___api_Event_api_Event__34.h2 : (fun k x => slices_ContainsFunc___api_Event_api_Event__34.c.fn k x) = fun k x => mainK slices_ContainsFunc___api_Event_api_Event__34.E Tryz.f33 slices_ContainsFunc___api_Event_api_Event__34.c.dom k x := by kernel_rfl
theorem slices_ContainsFunc___api_Event_api_Event__34.ok : CalleeOk Tryz.prog 33 slices_ContainsFunc___api_Event_api_Event__34.c := fn_ok tabOk mixed (fun _ => rfl) Tryz.func33 rfl (by kernel_rfl) (ok_cons slices_IndexFunc___api_Event_api_Event__34.ok ok_nil) (.of_eq slices_ContainsFunc___api_Event_api_Event__34.h1) (fun k x _ h => (congrFun (congrFun slices_ContainsFunc___api_Event_api_Event__34.h2 k) x).symm.trans h)
theorem slices_ContainsFunc___api_Event_api_Event__34.mono : ∀ k a0 a1, Lo (slices_ContainsFunc___api_Event_api_Event__34.f k a0 a1) (slices_ContainsFunc___api_Event_api_Event__34.f (k + 1) a0 a1) := by
  intro k a0 a1
  unfold slices_ContainsFunc___api_Event_api_Event__34.f
  repeat' first | (with_reducible exact lo_refl _) | (with_reducible refine lo_ite (fun _ => ?_) (fun _ => ?_)) | (with_reducible refine lo_bind2 ?_ (fun _ => ?_)) | (with_reducible exact lo_of (slices_IndexFunc___api_Event_api_Event__34.mono _ _ _))
def trace_Check.f (k : Nat) (a0 : Int × Int × (List Int) × (List Bool) × (List (Int × Int × Int × Unit)) × Int × Unit) : Option Int := ((trace_count.f a0.1).bind fun t1 => (if (!t1) = true then (some (1 : Int)) else ((trace_count.f a0.2.1).bind fun t2 => (if (!t2) = true then (some (1 : Int)) else (if a0.2.2.2.2.2.1 < (0 : Int) then (some (1 : Int)) else (if a0.2.2.2.2.2.1 > (3 : Int) then (some (1 : Int)) else (if (a0.2.2.1.length : Int) = (wrap64 ((3 : Int) * (a0.2.2.2.1.length : Int))) then ((slices_ContainsFunc___api_Event_api_Event__34.f k a0.2.2.2.2.1 (some (a0, ()))).bind fun t3 => (if t3 = true then (some (1 : Int)) else (some (0 : Int)))) else (some (1 : Int)))))))))
def trace_Check.c : Sym.Callee := ⟨(.cons (.cons (.int .i64) (.cons (.int .i64) (.cons (.sl (.int .i64)) (.cons (.sl .bool) (.cons (.sl (.cons (.int .i64) (.cons (.int .i64) (.cons (.int .i64) .nil)))) (.cons (.int .i64) .nil)))))) .nil), (.int .i64), false, El (.int .i64), fun k x => trace_Check.f k x.1, fun y => y, []⟩
noncomputable def trace_Check.E : Env (El (.int .i64)) := envOf tab Tryz.f15 false (.int .i64) [] (fun y => y) [(32, trace_count.c), (33, slices_ContainsFunc___api_Event_api_Event__34.c)] [] []
theorem trace_Check.h1 : (obls trace_Check.E Tryz.f15).map Ob.left = (obls trace_Check.E Tryz.f15).map Ob.right := by kernel_rfl
theorem trace_Check.h2 : (fun k x => trace_Check.c.fn k x) = fun k x => mainK trace_Check.E Tryz.f15 trace_Check.c.dom k x := by kernel_rfl
theorem trace_Check.ok : CalleeOk Tryz.prog 15 trace_Check.c := fn_ok tabOk mixed (fun _ => rfl) Tryz.func15 rfl (by kernel_rfl) (ok_cons trace_count.ok (ok_cons slices_ContainsFunc___api_Event_api_Event__34.ok ok_nil)) (.of_eq trace_Check.h1) (fun k x _ h => (congrFun (congrFun trace_Check.h2 k) x).symm.trans h)
theorem trace_Check.mono : ∀ k a0, Lo (trace_Check.f k a0) (trace_Check.f (k + 1) a0) := by
  intro k a0
  unfold trace_Check.f
  repeat' first | (with_reducible exact lo_refl _) | (with_reducible refine lo_ite (fun _ => ?_) (fun _ => ?_)) | (with_reducible refine lo_bind2 ?_ (fun _ => ?_)) | (with_reducible exact lo_of (slices_ContainsFunc___api_Event_api_Event__34.mono _ _ _))
def regimenlaw57_awake.f (k : Nat) : Option Bool := ((trace_One.f k [(⟨#[115, 116, 101, 112, 32, 51, 32, 112, 104, 97, 115, 101, 32, 48, 32, 103, 111, 101, 115]⟩ : ByteArray), (⟨#[32, 32, 103, 114, 111, 117, 112, 32, 48, 32, 48, 46, 53, 32, 48, 32, 48, 32, 102, 114, 111, 122, 101, 110]⟩ : ByteArray), (⟨#[32, 32, 107, 101, 101, 112, 32, 51]⟩ : ByteArray), (⟨#[115, 116, 97, 116, 101, 32, 103, 111, 101, 115, 32, 52]⟩ : ByteArray)]).bind fun t1 => ((trace_One.f k [(⟨#[115, 116, 101, 112, 32, 48, 51, 32, 112, 104, 97, 115, 101, 32, 48, 32, 103, 111, 101, 115]⟩ : ByteArray)]).bind fun t2 => (if t1.2.1 = (3 : Int) then (if t1.1.1 = (3 : Int) then (if (t1.1.2.2.1.length : Int) = (3 : Int) then (if 0 ≤ (0 : Int) then (if (0 : Int) < (t1.1.2.2.1.length : Int) then (if (t1.1.2.2.1.getD ((0 : Int)).toNat 0) = (2147483648 : Int) then (if (t1.1.2.2.2.1.length : Int) = (1 : Int) then (if 0 ≤ (0 : Int) then (if (0 : Int) < (t1.1.2.2.2.1.length : Int) then (if (t1.1.2.2.2.1.getD ((0 : Int)).toNat false) = true then (if (t1.1.2.2.2.2.1.length : Int) = (1 : Int) then (if 0 ≤ (0 : Int) then (if (0 : Int) < (t1.1.2.2.2.2.1.length : Int) then (if ((decide ((t1.1.2.2.2.2.1.getD ((0 : Int)).toNat (0, 0, 0, ())).1 = (3 : Int))) && ((decide ((t1.1.2.2.2.2.1.getD ((0 : Int)).toNat (0, 0, 0, ())).2.1 = (7 : Int))) && ((decide ((t1.1.2.2.2.2.1.getD ((0 : Int)).toNat (0, 0, 0, ())).2.2.1 = (3 : Int))) && true))) = true then (if t2.2.1 = (0 : Int) then ((trace_Check.f k t1.1).bind fun t3 => (some (xor false (decide (t3 = (0 : Int)))))) else (some false)) else (some false)) else none) else none) else (some false)) else (some false)) else none) else none) else (some false)) else (some false)) else none) else none) else (some false)) else (some false)) else (some false))))
def regimenlaw57_awake.c : Sym.Callee := ⟨.nil, .bool, false, El .bool, fun k x => regimenlaw57_awake.f k, fun y => y, []⟩
noncomputable def regimenlaw57_awake.E : Env (El .bool) := envOf tab Tryz.f5 false .bool [] (fun y => y) [(6, trace_One.c), (15, trace_Check.c)] [] []
theorem regimenlaw57_awake.h1 : (obls regimenlaw57_awake.E Tryz.f5).map Ob.left = (obls regimenlaw57_awake.E Tryz.f5).map Ob.right := by kernel_rfl
theorem regimenlaw57_awake.h2 : (fun k x => regimenlaw57_awake.c.fn k x) = fun k x => mainK regimenlaw57_awake.E Tryz.f5 regimenlaw57_awake.c.dom k x := by kernel_rfl
theorem regimenlaw57_awake.ok : CalleeOk Tryz.prog 5 regimenlaw57_awake.c := fn_ok tabOk mixed (fun _ => rfl) Tryz.func5 rfl (by kernel_rfl) (ok_cons trace_One.ok (ok_cons trace_Check.ok ok_nil)) (.of_eq regimenlaw57_awake.h1) (fun k x _ h => (congrFun (congrFun regimenlaw57_awake.h2 k) x).symm.trans h)
theorem regimenlaw57_awake.mono : ∀ k, Lo (regimenlaw57_awake.f k) (regimenlaw57_awake.f (k + 1)) := by
  intro k
  unfold regimenlaw57_awake.f
  repeat' first | (with_reducible exact lo_refl _) | (with_reducible refine lo_ite (fun _ => ?_) (fun _ => ?_)) | (with_reducible refine lo_bind2 ?_ (fun _ => ?_)) | (with_reducible exact lo_of (trace_One.mono _ _)) | (with_reducible exact lo_of (trace_Check.mono _ _))
def regimenlaw37_Light_s.f (k : Nat) (a0 : Int × Int × Int × (Bool × Int × Int × Unit) × ((Bool × Int × Int × Unit) × Int × Int × Unit) × (List (Int × Int × Unit)) × (List Int) × (Int × (List Int) × Unit) × Unit) : Option Bool := (if (a0.2.2.2.2.2.1.length : Int) ≤ (30 : Int) then (if (a0.2.2.2.2.2.2.1.length : Int) ≤ (30 : Int) then (some (xor false (decide ((a0.2.2.2.2.2.2.2.1.2.1.length : Int) ≤ (30 : Int))))) else (some false)) else (some false))
def regimenlaw37_Light_s.c : Sym.Callee := ⟨(.cons (.cons (.int .i64) (.cons (.int .i64) (.cons (.int .i64) (.cons (.cons .bool (.cons (.int .i64) (.cons (.int .i64) .nil))) (.cons (.cons (.cons .bool (.cons (.int .i64) (.cons (.int .i64) .nil))) (.cons (.int .i64) (.cons (.int .i64) .nil))) (.cons (.sl (.cons (.int .i64) (.cons (.int .i64) .nil))) (.cons (.sl (.int .i64)) (.cons (.cons (.int .i64) (.cons (.sl (.int .i64)) .nil)) .nil)))))))) .nil), .bool, false, El .bool, fun k x => regimenlaw37_Light_s.f k x.1, fun y => y, []⟩
noncomputable def regimenlaw37_Light_s.E : Env (El .bool) := envOf tab Tryz.f12 false .bool [] (fun y => y) [] [] []
theorem regimenlaw37_Light_s.h1 : (obls regimenlaw37_Light_s.E Tryz.f12).map Ob.left = (obls regimenlaw37_Light_s.E Tryz.f12).map Ob.right := by kernel_rfl
theorem regimenlaw37_Light_s.h2 : (fun k x => regimenlaw37_Light_s.c.fn k x) = fun k x => mainK regimenlaw37_Light_s.E Tryz.f12 regimenlaw37_Light_s.c.dom k x := by kernel_rfl
theorem regimenlaw37_Light_s.ok : CalleeOk Tryz.prog 12 regimenlaw37_Light_s.c := fn_ok tabOk mixed (fun _ => rfl) Tryz.func12 rfl (by kernel_rfl) ok_nil (.of_eq regimenlaw37_Light_s.h1) (fun k x _ h => (congrFun (congrFun regimenlaw37_Light_s.h2 k) x).symm.trans h)
def regimenlaw57_small_s.f (k : Nat) (a0 : Int × Int × (List Int) × (List Bool) × (List (Int × Int × Int × Unit)) × Int × Unit) : Option Bool := (if (a0.2.2.1.length : Int) ≤ (30 : Int) then (if (a0.2.2.2.1.length : Int) ≤ (30 : Int) then (some (xor false (decide ((a0.2.2.2.2.1.length : Int) ≤ (30 : Int))))) else (some false)) else (some false))
def regimenlaw57_small_s.c : Sym.Callee := ⟨(.cons (.cons (.int .i64) (.cons (.int .i64) (.cons (.sl (.int .i64)) (.cons (.sl .bool) (.cons (.sl (.cons (.int .i64) (.cons (.int .i64) (.cons (.int .i64) .nil)))) (.cons (.int .i64) .nil)))))) .nil), .bool, false, El .bool, fun k x => regimenlaw57_small_s.f k x.1, fun y => y, []⟩
noncomputable def regimenlaw57_small_s.E : Env (El .bool) := envOf tab Tryz.f13 false .bool [] (fun y => y) [] [] []
theorem regimenlaw57_small_s.h1 : (obls regimenlaw57_small_s.E Tryz.f13).map Ob.left = (obls regimenlaw57_small_s.E Tryz.f13).map Ob.right := by kernel_rfl
theorem regimenlaw57_small_s.h2 : (fun k x => regimenlaw57_small_s.c.fn k x) = fun k x => mainK regimenlaw57_small_s.E Tryz.f13 regimenlaw57_small_s.c.dom k x := by kernel_rfl
theorem regimenlaw57_small_s.ok : CalleeOk Tryz.prog 13 regimenlaw57_small_s.c := fn_ok tabOk mixed (fun _ => rfl) Tryz.func13 rfl (by kernel_rfl) ok_nil (.of_eq regimenlaw57_small_s.h1) (fun k x _ h => (congrFun (congrFun regimenlaw57_small_s.h2 k) x).symm.trans h)
def regimenref57_count.c : Sym.Callee := ⟨(.cons (.int .i64) .nil), .bool, false, Bool, fun k x => regimenref57_count.f x.1, fun z => z, []⟩
def regimenref57_count.nf (k : Nat) (a0 : Int) : Option (Bool) := (if a0 ≥ (0 : Int) then (some (xor false (decide (a0 ≤ (1099511627776 : Int))))) else (some false))
noncomputable def regimenref57_count.E : Env (Bool) := envOf tab Tryz.f31 false .bool [] (fun y => y) [] [] []
theorem regimenref57_count.h1 : obls regimenref57_count.E Tryz.f31 = [] := by kernel_rfl
theorem regimenref57_count.h2 : (fun k (x : El (.cons (.int .i64) .nil)) => regimenref57_count.nf k x.1) = fun k x => mainK regimenref57_count.E Tryz.f31 (.cons (.int .i64) .nil) k x := by kernel_rfl
set_option maxHeartbeats 2000000 in
theorem regimenref57_count.bf (k : Nat) (a0 : Int) : Lo (regimenref57_count.f a0) (regimenref57_count.nf k a0) := by
  unfold regimenref57_count.f regimenref57_count.nf
  try simp only [Bool.false_xor, Bool.true_xor, wu8_64, wu8_u64, byL_nums, btS_bt, nil_tl, beq_decL, beq_decI]
  repeat' first
    | (with_reducible exact lo_refl _)
    | exact lo_none _
    | (with_reducible refine lo_ite (fun _ => ?_) (fun _ => ?_))
    | (with_reducible refine lo_bind (fun _ => ?_))
    | (with_reducible refine lo_left ?_)
    | (refine lo_pos (by first | assumption | omega) ?_)
    | (refine lo_neg (by first | assumption | omega) ?_)
    | (with_reducible refine lo_test (fun _ => by first | assumption | omega) (fun _ => ?_))
    | exact lo_refl _
    | refine lo_ite (fun _ => ?_) (fun _ => ?_)
    | refine lo_bind (fun _ => ?_)
    | (refine lo_some ?_; first | rfl | (rw [Bool.false_xor]; rfl))
  all_goals (exfalso; first | omega | (simp_all; done) | (simp_all; omega))
theorem regimenref57_count.al : AllLe (obls regimenref57_count.E Tryz.f31) := by
  rw [regimenref57_count.h1]
  exact .nil
theorem regimenref57_count.ok : CalleeOk Tryz.prog 31 regimenref57_count.c := fn_ok tabOk mixed (fun _ => rfl) Tryz.func31 rfl (by kernel_rfl) ok_nil regimenref57_count.al (fun k x r h => (congrFun (congrFun regimenref57_count.h2 k) x).symm.trans (regimenref57_count.bf k _ r h))
def regimenref57_May_s.l2 : Nat → Int → (Int × Int × (List Int) × (List Bool) × (List (Int × Int × Int × Unit)) × Int × Unit) → Option Bool
  | 0, _, _ => none
  | k + 1, x3, b1 => (if x3 < (b1.2.2.2.2.1.length : Int) then (if 0 ≤ x3 then (if x3 < (b1.2.2.2.2.1.length : Int) then (if (b1.2.2.2.2.1.getD (x3).toNat (0, 0, 0, ())).1 = b1.1 then (if (b1.2.2.2.2.1.getD (x3).toNat (0, 0, 0, ())).2.1 < (1 : Int) then (some false) else (if (b1.2.2.2.2.1.getD (x3).toNat (0, 0, 0, ())).2.1 > (11 : Int) then (some false) else ((regimenref57_count.f ((b1.2.2.2.2.1.getD (x3).toNat (0, 0, 0, ())).2.2.1)).bind fun t1 => (if (!t1) = true then (some false) else (regimenref57_May_s.l2 k (wrap64 (x3 + (1 : Int))) b1))))) else (some false)) else none) else none) else ((regimenref57_count.f b1.1).bind fun t2 => (if t2 = true then ((regimenref57_count.f b1.2.1).bind fun t3 => (if t3 = true then (if b1.2.2.2.2.2.1 ≥ (0 : Int) then (if b1.2.2.2.2.2.1 ≤ (3 : Int) then (if (3 : Int) = 0 then none else (if (Int.tmod (b1.2.2.1.length : Int) (3 : Int)) = (0 : Int) then (if (3 : Int) = 0 then none else (some (xor false (decide ((b1.2.2.2.1.length : Int) = (wrap64 (Int.tdiv (b1.2.2.1.length : Int) (3 : Int)))))))) else (some false))) else (some false)) else (some false)) else (some false))) else (some false))))
def regimenref57_May_s.f (k : Nat) (a0 : Int × Int × (List Int) × (List Bool) × (List (Int × Int × Int × Unit)) × Int × Unit) : Option Bool := (regimenref57_May_s.l2 k (0 : Int) a0)
def regimenref57_May_s.c : Sym.Callee := ⟨(.cons (.cons (.int .i64) (.cons (.int .i64) (.cons (.sl (.int .i64)) (.cons (.sl .bool) (.cons (.sl (.cons (.int .i64) (.cons (.int .i64) (.cons (.int .i64) .nil)))) (.cons (.int .i64) .nil)))))) .nil), .bool, false, El .bool, fun k x => regimenref57_May_s.f k x.1, fun y => y, []⟩
noncomputable def regimenref57_May_s.E : Env (El .bool) := envOf tab Tryz.f14 false .bool [] (fun y => y) [(31, regimenref57_count.c)] [⟨2, ⟨73, [(3, (.int .i64), [])], [(1, (.cons (.int .i64) (.cons (.int .i64) (.cons (.sl (.int .i64)) (.cons (.sl .bool) (.cons (.sl (.cons (.int .i64) (.cons (.int .i64) (.cons (.int .i64) .nil)))) (.cons (.int .i64) .nil)))))), [])], []⟩, fun k y => regimenref57_May_s.l2 k y.1.1 y.2.1.1⟩] []
theorem regimenref57_May_s.h1 : (obls regimenref57_May_s.E Tryz.f14).map Ob.left = (obls regimenref57_May_s.E Tryz.f14).map Ob.right := by kernel_rfl
theorem regimenref57_May_s.h2 : (fun k x => regimenref57_May_s.c.fn k x) = fun k x => mainK regimenref57_May_s.E Tryz.f14 regimenref57_May_s.c.dom k x := by kernel_rfl
theorem regimenref57_May_s.ok : CalleeOk Tryz.prog 14 regimenref57_May_s.c := fn_ok tabOk mixed (fun _ => rfl) Tryz.func14 rfl (by kernel_rfl) (ok_cons regimenref57_count.ok ok_nil) (.of_eq regimenref57_May_s.h1) (fun k x _ h => (congrFun (congrFun regimenref57_May_s.h2 k) x).symm.trans h)
def output_Word.c : Sym.Callee := ⟨(.cons (.int .i64) .nil), .str, false, ByteArray, fun k x => output_Word.f x.1, fun z => z, []⟩
def output_Word.nf (k : Nat) (a0 : Int) : Option (ByteArray) := (if a0 = (0 : Int) then (some (⟨#[103, 111, 101, 115]⟩ : ByteArray)) else (if a0 = (1 : Int) then (some (⟨#[100, 111, 110, 101]⟩ : ByteArray)) else (if a0 = (2 : Int) then (some (⟨#[115, 116, 111, 112, 112, 101, 100]⟩ : ByteArray)) else (if a0 = (3 : Int) then (some (⟨#[102, 97, 105, 108, 101, 100]⟩ : ByteArray)) else (some (⟨#[63]⟩ : ByteArray))))))
noncomputable def output_Word.E : Env (ByteArray) := envOf tab Tryz.f65 false .str [] (fun y => y) [] [] []
theorem output_Word.h1 : obls output_Word.E Tryz.f65 = [] := by kernel_rfl
theorem output_Word.h2 : (fun k (x : El (.cons (.int .i64) .nil)) => output_Word.nf k x.1) = fun k x => mainK output_Word.E Tryz.f65 (.cons (.int .i64) .nil) k x := by kernel_rfl
set_option maxHeartbeats 2000000 in
theorem output_Word.bf (k : Nat) (a0 : Int) : Lo (output_Word.f a0) (output_Word.nf k a0) := by
  unfold output_Word.f output_Word.nf
  try simp only [Bool.false_xor, Bool.true_xor, wu8_64, wu8_u64, byL_nums, btS_bt, nil_tl, beq_decL, beq_decI]
  repeat' first
    | (with_reducible exact lo_refl _)
    | exact lo_none _
    | (with_reducible refine lo_ite (fun _ => ?_) (fun _ => ?_))
    | (with_reducible refine lo_bind (fun _ => ?_))
    | (with_reducible refine lo_left ?_)
    | (refine lo_pos (by first | assumption | omega) ?_)
    | (refine lo_neg (by first | assumption | omega) ?_)
    | (with_reducible refine lo_test (fun _ => by first | assumption | omega) (fun _ => ?_))
    | exact lo_refl _
    | refine lo_ite (fun _ => ?_) (fun _ => ?_)
    | refine lo_bind (fun _ => ?_)
    | (refine lo_some ?_; first | rfl | (rw [Bool.false_xor]; rfl))
  all_goals (exfalso; first | omega | (simp_all; done) | (simp_all; omega))
theorem output_Word.al : AllLe (obls output_Word.E Tryz.f65) := by
  rw [output_Word.h1]
  exact .nil
theorem output_Word.ok : CalleeOk Tryz.prog 65 output_Word.c := fn_ok tabOk mixed (fun _ => rfl) Tryz.func65 rfl (by kernel_rfl) ok_nil output_Word.al (fun k x r h => (congrFun (congrFun output_Word.h2 k) x).symm.trans (output_Word.bf k _ r h))
def layJoin_ren : Go.Shelf.Ren := ⟨fun | 156 => 89 | 165 => 109 | 166 => 37 | 169 => 41 | 240 => 63 | 241 => 121 | 276 => 88 | 277 => 133 | n => n, fun | 31 => 22 | 9 => 9 | 3 => 3 | 4 => 4 | 0 => 0 | 20 => 20 | 72 => 78 | 76 => 81 | 70 => 75 | 37 => 76 | 75 => 80 | 127 => 112 | 164 => 125 | 5 => 5 | 80 => 85 | n => n, fun | n => n⟩
theorem layJoin : Go.Proofs.Lays.n156 Tryz.prog layJoin_ren := {
  mixed := by kernel_rfl
  f156 := Tryz.func89.trans (congrArg some (by kernel_rfl))
  f165 := Tryz.func109.trans (congrArg some (by kernel_rfl))
  f166 := Tryz.func37.trans (congrArg some (by kernel_rfl))
  f169 := Tryz.func41.trans (congrArg some (by kernel_rfl))
  f240 := Tryz.func63.trans (congrArg some (by kernel_rfl))
  f241 := Tryz.func121.trans (congrArg some (by kernel_rfl))
  f276 := Tryz.func88.trans (congrArg some (by kernel_rfl))
  f277 := Tryz.func133.trans (congrArg some (by kernel_rfl))
  t0 := Tryz.underlying0
  a0 := Tryz.isAgg0
  z0 := Tryz.sizeOf0
  v0 := Tryz.zeroValue0
  t3 := Tryz.underlying3
  a3 := Tryz.isAgg3
  z3 := Tryz.sizeOf3
  v3 := Tryz.zeroValue3
  t4 := Tryz.underlying4
  a4 := Tryz.isAgg4
  z4 := Tryz.sizeOf4
  v4 := Tryz.zeroValue4
  t9 := Tryz.underlying9
  a9 := Tryz.isAgg9
  z9 := Tryz.sizeOf9
  v9 := Tryz.zeroValue9
  t20 := Tryz.underlying20
  a20 := Tryz.isAgg20
  z20 := Tryz.sizeOf20
  v20 := Tryz.zeroValue20
  t31 := Tryz.underlying22
  a31 := Tryz.isAgg22
  z31 := Tryz.sizeOf22
  v31 := Tryz.zeroValue22
  t37 := Tryz.underlying76
  a37 := Tryz.isAgg76
  z37 := Tryz.sizeOf76
  v37 := Tryz.zeroValue76
  t70 := Tryz.underlying75
  a70 := Tryz.isAgg75
  z70 := Tryz.sizeOf75
  v70 := Tryz.zeroValue75
  t72 := Tryz.underlying78
  a72 := Tryz.isAgg78
  z72 := Tryz.sizeOf78
  v72 := Tryz.zeroValue78
  t75 := Tryz.underlying80
  a75 := Tryz.isAgg80
  z75 := Tryz.sizeOf80
  v75 := Tryz.zeroValue80
  t76 := Tryz.underlying81
  a76 := Tryz.isAgg81
  z76 := Tryz.sizeOf81
  v76 := Tryz.zeroValue81
  t127 := Tryz.underlying112
  a127 := Tryz.isAgg112
  z127 := Tryz.sizeOf112
  v127 := Tryz.zeroValue112
  t164 := Tryz.underlying125
  a164 := Tryz.isAgg125
  z164 := Tryz.sizeOf125
  v164 := Tryz.zeroValue125 }
theorem layJoinX : Go.Proofs.Builder.Extra Tryz.prog layJoin_ren := {
  sizeBuilder := by kernel_rfl
  liesBuilder := by kernel_rfl
  t5 := Tryz.underlying5
  a5 := Tryz.isAgg5
  z5 := Tryz.sizeOf5
  v5 := Tryz.zeroValue5
  infoByte := by kernel_rfl
  cellsByte := by kernel_rfl
  sizeByte := by kernel_rfl
  neB5 := by decide }
theorem layJoinF : layJoin_ren.f 156 = 89 := by kernel_rfl

def strings_Join.c : Sym.Callee := ⟨(.cons (.sl .str) (.cons .str .nil)), .str, false, ByteArray, fun k x => strings_Join.f x.1 x.2.1, fun y => y, []⟩
theorem strings_Join.ok : CalleeOk Tryz.prog 89 strings_Join.c where
  enter := enter_of Tryz.func89 rfl (by kernel_rfl)
  calls k w F vs x y hL hfin hx hy := by
    obtain ⟨v1, us, rfl, h1, v2, us2, rfl, h2, rfl⟩ := hx
    obtain ⟨A, c, rfl, hc, hr⟩ := rep_sl h1
    obtain rfl := rep_str h2
    have fin : ∀ (r : ByteArray) (e : Ending) (w' : World), e = .returned (.string r) → Below w.heap.size w w' → Sym.Ends F w Ty.str false [] r e w' := fun r e w' he hb =>
      ⟨_, F, he, ⟨hb, fun _ _ => rfl⟩, fun b hb2 => Nat.lt_of_lt_of_le (hfin b hb2) hb.size, repR_one mk_str⟩
    have hy : strings_Join.f x.1 x.2.1 = some y := hy
    unfold strings_Join.f at hy
    split at hy
    case isFalse => cases hy
    case isTrue hq =>
      obtain rfl := Option.some.inj hy
      rcases Nat.eq_zero_or_pos (List.length x.1) with z | z
      · have hnil : x.1 = [] := List.length_eq_zero_iff.1 z
        have g := Go.Proofs.Any.strings_Join_none layJoin layJoinX A c x.2.1 w
        rw [layJoinF] at g
        rw [hnil]
        exact g.mono fun e w' q => fin _ _ _ q.1 (q.2 ▸ Below.refl _ _)
      · obtain ⟨b, o, rfl, _, hcell⟩ := hr z
        have at_ : ∀ (j : Nat) (s : ByteArray), x.1[j]? = some s → w.cell? ⟨b, o + j, none⟩ = some (.string s) := by
          intro j s hj
          obtain ⟨ds, k1, k2⟩ := hcell j s hj
          have := k2 0 (.string s) (by rw [show ds = _ from k1]; rfl)
          simpa [show Ty.str.size = 1 from rfl] using this
        have g := Go.Proofs.Any.strings_Join layJoin layJoinX b o c x.1 x.2.1 w at_ (cell_lt (at_ 0 _ (List.getElem?_eq_getElem z))) hq.1 hc hq.2
        rw [layJoinF] at g
        exact g.mono fun e w' q => fin _ _ _ q.1 q.2
def output_line.c : Sym.Callee := ⟨(.cons (.sl .str) .nil), .str, false, ByteArray, fun k x => output_line.f x.1, fun z => z, []⟩
def output_line.nf (k : Nat) (a0 : List ByteArray) : Option (ByteArray) := ((strings_Join.f a0 (⟨#[32]⟩ : ByteArray)).bind fun t1 => (some t1))
noncomputable def output_line.E : Env (ByteArray) := envOf tab Tryz.f64 false .str [] (fun y => y) [(89, strings_Join.c)] [] []
theorem output_line.h1 : obls output_line.E Tryz.f64 = [] := by kernel_rfl
theorem output_line.h2 : (fun k (x : El (.cons (.sl .str) .nil)) => output_line.nf k x.1) = fun k x => mainK output_line.E Tryz.f64 (.cons (.sl .str) .nil) k x := by kernel_rfl
set_option maxHeartbeats 2000000 in
theorem output_line.bf (k : Nat) (a0 : List ByteArray) : Lo (output_line.f a0) (output_line.nf k a0) := by
  unfold output_line.f output_line.nf
  try simp only [Bool.false_xor, Bool.true_xor, wu8_64, wu8_u64, byL_nums, btS_bt, nil_tl, beq_decL, beq_decI]
  repeat' first
    | (with_reducible exact lo_refl _)
    | exact lo_none _
    | (with_reducible refine lo_ite (fun _ => ?_) (fun _ => ?_))
    | (with_reducible refine lo_bind (fun _ => ?_))
    | (with_reducible refine lo_left ?_)
    | (refine lo_pos (by first | assumption | omega) ?_)
    | (refine lo_neg (by first | assumption | omega) ?_)
    | (with_reducible refine lo_test (fun _ => by first | assumption | omega) (fun _ => ?_))
    | exact lo_refl _
    | refine lo_ite (fun _ => ?_) (fun _ => ?_)
    | refine lo_bind (fun _ => ?_)
    | (refine lo_some ?_; first | rfl | (rw [Bool.false_xor]; rfl))
  all_goals (exfalso; first | omega | (simp_all; done) | (simp_all; omega))
theorem output_line.al : AllLe (obls output_line.E Tryz.f64) := by
  rw [output_line.h1]
  exact .nil
theorem output_line.ok : CalleeOk Tryz.prog 64 output_line.c := fn_ok tabOk mixed (fun _ => rfl) Tryz.func64 rfl (by kernel_rfl) (ok_cons strings_Join.ok ok_nil) output_line.al (fun k x r h => (congrFun (congrFun output_line.h2 k) x).symm.trans (output_line.bf k _ r h))
def output_decimals.c : Sym.Callee := ⟨(.cons (.sl (.int .i64)) .nil), (.sl .str), false, List ByteArray, fun k x => output_decimals.f k x.1, fun z => z, []⟩
def output_decimals.nl0 (k : Nat) (x3 : List ByteArray) (x6 : List Int) (x7 : Int) (x8 : Int) : Option (List ByteArray) := (if x8 < x7 then (if 0 ≤ x8 then (if x8 < (x6.length : Int) then ((dec_Put.f k (x6.getD (x8).toNat 0)).bind fun t1 => (if (x3.length + [t1].length) * 16 ≤ 140737488355328 then (output_decimals.l0 k (x3 ++ [t1]) x6 x7 (wrap64 (x8 + (1 : Int)))) else none)) else none) else none) else (some x3))
def output_decimals.nf (k : Nat) (a0 : List Int) : Option (List ByteArray) := (output_decimals.l0 k ([] : List ByteArray) a0 (a0.length : Int) (0 : Int))
noncomputable def output_decimals.E : Env (List ByteArray) := envOf tab Tryz.f69 false (.sl .str) [] (fun y => y) [(68, dec_Put.c)] [⟨3, ⟨19, [(3, (.sl .str), [⟨0, 4, 9, 1⟩]), (6, (.sl (.int .i64)), []), (7, (.int .i64), []), (8, (.int .i64), [])], [], []⟩, fun k y => output_decimals.l0 k y.1.1 y.1.2.1 y.1.2.2.1 y.1.2.2.2.1⟩] []
theorem output_decimals.h1 : obls output_decimals.E Tryz.f69 = [⟨(.cons (.cons (.sl .str) (.cons (.sl (.int .i64)) (.cons (.int .i64) (.cons (.int .i64) .nil)))) (.cons .nil (.cons .nil .nil))), fun k y => output_decimals.l0 (k + 1) y.1.1 y.1.2.1 y.1.2.2.1 y.1.2.2.2.1, fun k y => output_decimals.nl0 k y.1.1 y.1.2.1 y.1.2.2.1 y.1.2.2.2.1⟩, ⟨(.cons (.cons (.sl .str) (.cons (.sl (.int .i64)) (.cons (.int .i64) (.cons (.int .i64) .nil)))) (.cons .nil (.cons .nil .nil))), fun _ y => output_decimals.l0 0 y.1.1 y.1.2.1 y.1.2.2.1 y.1.2.2.2.1, fun _ _ => none⟩] := by kernel_rfl
theorem output_decimals.h2 : (fun k (x : El (.cons (.sl (.int .i64)) .nil)) => output_decimals.nf k x.1) = fun k x => mainK output_decimals.E Tryz.f69 (.cons (.sl (.int .i64)) .nil) k x := by kernel_rfl
theorem output_decimals.bl0 (k : Nat) (x3 : List ByteArray) (x6 : List Int) (x7 : Int) (x8 : Int) : Lo (output_decimals.l0 (k + 1) x3 x6 x7 x8) (output_decimals.nl0 k x3 x6 x7 x8) := by
  rw [output_decimals.l0]
  unfold output_decimals.nl0
  try simp only [Bool.false_xor, Bool.true_xor, wu8_64, wu8_u64, byL_nums, btS_bt, nil_tl, beq_decL, beq_decI]
  repeat' first
    | (with_reducible exact lo_refl _)
    | exact lo_none _
    | (with_reducible refine lo_lpos (by first | assumption | decide) ?_)
    | (with_reducible refine lo_lneg (by first | assumption | decide) ?_)
    | (with_reducible refine lo_ite (fun _ => ?_) (fun _ => ?_))
    | (with_reducible refine lo_bind (fun _ => ?_))
    | (with_reducible refine lo_left ?_)
    | (refine lo_neg (by decide) ?_)
    | (refine lo_pos (by first | assumption | omega) ?_)
    | (refine lo_neg (by first | assumption | omega) ?_)
    | (with_reducible refine lo_test (fun _ => by first | assumption | omega | (simp only [List.length_cons, List.length_nil]; omega) | decide) (fun _ => ?_))
    | (with_reducible refine lo_testn (fun _ => by first | assumption | omega) (fun _ => ?_))
    | (with_reducible refine lo_and (fun z => by first | exact z.1 | omega) (fun z => by first | exact z.2 | omega) (fun _ => ?_))
    | exact lo_refl _
    | (with_reducible refine lo_iff (by first | exact Iff.rfl | omega | (simp; done) | decide) (fun _ => ?_) (fun _ => ?_))
    | (with_reducible refine lo_iffn (by first | exact Iff.rfl | omega | (simp; done) | decide) (fun _ => ?_) (fun _ => ?_))
    | refine lo_ite (fun _ => ?_) (fun _ => ?_)
    | refine lo_bind (fun _ => ?_)
    | (refine lo_some ?_; first | rfl | (rw [Bool.false_xor]; rfl) | (rw [Bool.true_xor]; rfl) | (simp only [Bool.and_true]; rfl) | (simp; done))
    | (simp only [Int.zero_sub]; exact lo_refl _)
    | (with_reducible refine lo_lpos (by omega) ?_)
    | (with_reducible refine lo_lneg (by omega) ?_)
    | (with_reducible refine lo_lite (fun _ => ?_) (fun _ => ?_))
    | (with_reducible refine lo_rite (fun _ => ?_) (fun _ => ?_))
  all_goals (exfalso; first | omega | (simp_all; done) | (simp_all; omega))
set_option maxHeartbeats 2000000 in
theorem output_decimals.bf (k : Nat) (a0 : List Int) : Lo (output_decimals.f k a0) (output_decimals.nf k a0) := by
  unfold output_decimals.f output_decimals.nf
  try simp only [Bool.false_xor, Bool.true_xor, wu8_64, wu8_u64, byL_nums, btS_bt, nil_tl, beq_decL, beq_decI]
  repeat' first
    | (with_reducible exact lo_refl _)
    | exact lo_none _
    | (with_reducible refine lo_ite (fun _ => ?_) (fun _ => ?_))
    | (with_reducible refine lo_bind (fun _ => ?_))
    | (with_reducible refine lo_left ?_)
    | (refine lo_pos (by first | assumption | omega) ?_)
    | (refine lo_neg (by first | assumption | omega) ?_)
    | (with_reducible refine lo_test (fun _ => by first | assumption | omega) (fun _ => ?_))
    | exact lo_refl _
    | refine lo_ite (fun _ => ?_) (fun _ => ?_)
    | refine lo_bind (fun _ => ?_)
    | (refine lo_some ?_; first | rfl | (rw [Bool.false_xor]; rfl))
  all_goals (exfalso; first | omega | (simp_all; done) | (simp_all; omega))
theorem output_decimals.al : AllLe (obls output_decimals.E Tryz.f69) := by
  rw [output_decimals.h1]
  exact (.cons (fun k y r h => output_decimals.bl0 k y.1.1 y.1.2.1 y.1.2.2.1 y.1.2.2.2.1 r h) (.cons (fun _ y r h => by simp [output_decimals.l0] at h) .nil))
theorem output_decimals.ok : CalleeOk Tryz.prog 69 output_decimals.c := fn_ok tabOk mixed (fun _ => rfl) Tryz.func69 rfl (by kernel_rfl) (ok_cons dec_Put.ok ok_nil) output_decimals.al (fun k x r h => (congrFun (congrFun output_decimals.h2 k) x).symm.trans (output_decimals.bf k _ r h))
def output_group_s.j4 : Nat → (List ByteArray) → Option ByteArray
  | 0, _ => none
  | k + 1, x5 => ((output_line.f x5).bind fun t3 => (some t3))
def output_group_s.f (k : Nat) (a0 : Int × Int × (List Int) × (List Bool) × (List (Int × Int × Int × Unit)) × Int × Unit) (a1 : Int) : Option ByteArray := ((num_Tell.f k a1).bind fun t1 => (if 0 ≤ (wrap64 ((3 : Int) * a1)) then (if (wrap64 ((3 : Int) * a1)) ≤ (wrap64 ((3 : Int) * (wrap64 (a1 + (1 : Int))))) then (if (wrap64 ((3 : Int) * (wrap64 (a1 + (1 : Int))))) ≤ (a0.2.2.1.length : Int) then ((output_decimals.f k ((a0.2.2.1.take ((wrap64 ((3 : Int) * (wrap64 (a1 + (1 : Int)))))).toNat).drop ((wrap64 ((3 : Int) * a1))).toNat)).bind fun t2 => (if ([(⟨#[32, 32, 103, 114, 111, 117, 112]⟩ : ByteArray), t1].length + t2.length) * 16 ≤ 140737488355328 then (if a1 < (a0.2.2.2.1.length : Int) then (if 0 ≤ a1 then (if a1 < (a0.2.2.2.1.length : Int) then (if (a0.2.2.2.1.getD (a1).toNat false) = true then (if (([(⟨#[32, 32, 103, 114, 111, 117, 112]⟩ : ByteArray), t1] ++ t2).length + [(⟨#[102, 114, 111, 122, 101, 110]⟩ : ByteArray)].length) * 16 ≤ 140737488355328 then (output_group_s.j4 k (([(⟨#[32, 32, 103, 114, 111, 117, 112]⟩ : ByteArray), t1] ++ t2) ++ [(⟨#[102, 114, 111, 122, 101, 110]⟩ : ByteArray)])) else none) else (output_group_s.j4 k ([(⟨#[32, 32, 103, 114, 111, 117, 112]⟩ : ByteArray), t1] ++ t2))) else none) else none) else (output_group_s.j4 k ([(⟨#[32, 32, 103, 114, 111, 117, 112]⟩ : ByteArray), t1] ++ t2))) else none)) else none) else none) else none))
def output_group_s.c : Sym.Callee := ⟨(.cons (.cons (.int .i64) (.cons (.int .i64) (.cons (.sl (.int .i64)) (.cons (.sl .bool) (.cons (.sl (.cons (.int .i64) (.cons (.int .i64) (.cons (.int .i64) .nil)))) (.cons (.int .i64) .nil)))))) (.cons (.int .i64) .nil)), .str, false, El .str, fun k x => output_group_s.f k x.1 x.2.1, fun y => y, []⟩
noncomputable def output_group_s.E : Env (El .str) := envOf tab Tryz.f66 false .str [] (fun y => y) [(51, num_Tell.c), (69, output_decimals.c), (64, output_line.c)] [] [⟨4, ⟨36, [(5, (.sl .str), [⟨0, 6, 9, 1⟩])], [], []⟩, fun k y => output_group_s.j4 k y.1.1⟩]
theorem output_group_s.h1 : (obls output_group_s.E Tryz.f66).map Ob.left = (obls output_group_s.E Tryz.f66).map Ob.right := by kernel_rfl
theorem output_group_s.h2 : (fun k x => output_group_s.c.fn k x) = fun k x => mainK output_group_s.E Tryz.f66 output_group_s.c.dom k x := by kernel_rfl
theorem output_group_s.ok : CalleeOk Tryz.prog 66 output_group_s.c := fn_ok tabOk mixed (fun _ => rfl) Tryz.func66 rfl (by kernel_rfl) (ok_cons num_Tell.ok (ok_cons output_decimals.ok (ok_cons output_line.ok ok_nil))) (.of_eq output_group_s.h1) (fun k x _ h => (congrFun (congrFun output_group_s.h2 k) x).symm.trans h)
def events_Line.c : Sym.Callee := ⟨(.cons (.cons (.int .i64) (.cons (.int .i64) (.cons (.int .i64) .nil))) .nil), .str, false, ByteArray, fun k x => events_Line.f k x.1.1 x.1.2.1 x.1.2.2.1, fun z => z, []⟩
def events_Line.nf (k : Nat) (a0_0 : Int) (a0_1 : Int) (a0_2 : Int) : Option (ByteArray) := ((events_Word.f a0_1).bind fun t1 => (if t1.toList = (⟨#[]⟩ : ByteArray).toList then (if (⟨#[63]⟩ : ByteArray).size + (⟨#[32]⟩ : ByteArray).size ≤ 9223372036854775807 then ((num_Tell.f k a0_2).bind fun t2 => (if ((⟨#[63]⟩ : ByteArray) ++ (⟨#[32]⟩ : ByteArray)).size + t2.size ≤ 9223372036854775807 then (some (((⟨#[63]⟩ : ByteArray) ++ (⟨#[32]⟩ : ByteArray)) ++ t2)) else none)) else none) else (if t1.size + (⟨#[32]⟩ : ByteArray).size ≤ 9223372036854775807 then ((num_Tell.f k a0_2).bind fun t3 => (if (t1 ++ (⟨#[32]⟩ : ByteArray)).size + t3.size ≤ 9223372036854775807 then (some ((t1 ++ (⟨#[32]⟩ : ByteArray)) ++ t3)) else none)) else none)))
noncomputable def events_Line.E : Env (ByteArray) := envOf tab Tryz.f67 false .str [] (fun y => y) [(35, events_Word.c), (51, num_Tell.c)] [] []
theorem events_Line.h1 : obls events_Line.E Tryz.f67 = [] := by kernel_rfl
theorem events_Line.h2 : (fun k (x : El (.cons (.cons (.int .i64) (.cons (.int .i64) (.cons (.int .i64) .nil))) .nil)) => events_Line.nf k x.1.1 x.1.2.1 x.1.2.2.1) = fun k x => mainK events_Line.E Tryz.f67 (.cons (.cons (.int .i64) (.cons (.int .i64) (.cons (.int .i64) .nil))) .nil) k x := by kernel_rfl
set_option maxHeartbeats 2000000 in
theorem events_Line.bf (k : Nat) (a0_0 : Int) (a0_1 : Int) (a0_2 : Int) : Lo (events_Line.f k a0_0 a0_1 a0_2) (events_Line.nf k a0_0 a0_1 a0_2) := by
  unfold events_Line.f events_Line.nf
  try simp only [Bool.false_xor, Bool.true_xor, wu8_64, wu8_u64, byL_nums, btS_bt, nil_tl, beq_decL, beq_decI]
  repeat' first
    | (with_reducible exact lo_refl _)
    | exact lo_none _
    | (with_reducible refine lo_ite (fun _ => ?_) (fun _ => ?_))
    | (with_reducible refine lo_bind (fun _ => ?_))
    | (with_reducible refine lo_left ?_)
    | (refine lo_pos (by first | assumption | omega) ?_)
    | (refine lo_neg (by first | assumption | omega) ?_)
    | (with_reducible refine lo_test (fun _ => by first | assumption | omega) (fun _ => ?_))
    | exact lo_refl _
    | refine lo_ite (fun _ => ?_) (fun _ => ?_)
    | refine lo_bind (fun _ => ?_)
    | (refine lo_some ?_; first | rfl | (rw [Bool.false_xor]; rfl))
  all_goals (exfalso; first | omega | (simp_all; done) | (simp_all; omega))
theorem events_Line.al : AllLe (obls events_Line.E Tryz.f67) := by
  rw [events_Line.h1]
  exact .nil
theorem events_Line.ok : CalleeOk Tryz.prog 67 events_Line.c := fn_ok tabOk mixed (fun _ => rfl) Tryz.func67 rfl (by kernel_rfl) (ok_cons events_Word.ok (ok_cons num_Tell.ok ok_nil)) events_Line.al (fun k x r h => (congrFun (congrFun events_Line.h2 k) x).symm.trans (events_Line.bf k _ _ _ r h))
mutual
def output_Step_s.l3 : Nat → (List ByteArray) → Int → Int → (Int × Int × (List Int) × (List Bool) × (List (Int × Int × Int × Unit)) × Int × Unit) → Option (List ByteArray)
  | 0, _, _, _, _ => none
  | k + 1, x3, x22, x23, b1 => (if x23 < x22 then ((output_group_s.f k b1 x23).bind fun t5 => (if (x3.length + [t5].length) * 16 ≤ 140737488355328 then (output_Step_s.l3 k (x3 ++ [t5]) x22 (wrap64 (x23 + (1 : Int))) b1) else none)) else (output_Step_s.l8 k x3 b1.2.2.2.2.1 (b1.2.2.2.2.1.length : Int) (0 : Int)))
def output_Step_s.l8 : Nat → (List ByteArray) → (List (Int × Int × Int × Unit)) → Int → Int → Option (List ByteArray)
  | 0, _, _, _, _ => none
  | k + 1, x3, x34, x35, x36 => (if x36 < x35 then (if 0 ≤ x36 then (if x36 < (x34.length : Int) then ((events_Line.f k ((x34.getD (x36).toNat (0, 0, 0, ())).1) ((x34.getD (x36).toNat (0, 0, 0, ())).2.1) ((x34.getD (x36).toNat (0, 0, 0, ())).2.2.1)).bind fun t6 => (if (⟨#[32, 32]⟩ : ByteArray).size + t6.size ≤ 9223372036854775807 then (if (x3.length + [((⟨#[32, 32]⟩ : ByteArray) ++ t6)].length) * 16 ≤ 140737488355328 then (output_Step_s.l8 k (x3 ++ [((⟨#[32, 32]⟩ : ByteArray) ++ t6)]) x34 x35 (wrap64 (x36 + (1 : Int)))) else none) else none)) else none) else none) else (some x3))
end
def output_Step_s.f (k : Nat) (a0 : Int × Int × (List Int) × (List Bool) × (List (Int × Int × Int × Unit)) × Int × Unit) : Option (List ByteArray) := ((num_Tell.f k a0.1).bind fun t1 => ((num_Tell.f k a0.2.1).bind fun t2 => ((output_Word.f a0.2.2.2.2.2.1).bind fun t3 => ((output_line.f [(⟨#[115, 116, 101, 112]⟩ : ByteArray), t1, (⟨#[112, 104, 97, 115, 101]⟩ : ByteArray), t2, t3]).bind fun t4 => (if (3 : Int) = 0 then none else (output_Step_s.l3 k [t4] (wrap64 (Int.tdiv (a0.2.2.1.length : Int) (3 : Int))) (0 : Int) a0))))))
def output_Step_s.c : Sym.Callee := ⟨(.cons (.cons (.int .i64) (.cons (.int .i64) (.cons (.sl (.int .i64)) (.cons (.sl .bool) (.cons (.sl (.cons (.int .i64) (.cons (.int .i64) (.cons (.int .i64) .nil)))) (.cons (.int .i64) .nil)))))) .nil), (.sl .str), false, El (.sl .str), fun k x => output_Step_s.f k x.1, fun y => y, []⟩
noncomputable def output_Step_s.E : Env (El (.sl .str)) := envOf tab Tryz.f39 false (.sl .str) [] (fun y => y) [(51, num_Tell.c), (65, output_Word.c), (64, output_line.c), (66, output_group_s.c), (67, events_Line.c)] [⟨3, ⟨48, [(3, (.sl .str), [⟨0, 4, 9, 1⟩]), (22, (.int .i64), []), (23, (.int .i64), [])], [(1, (.cons (.int .i64) (.cons (.int .i64) (.cons (.sl (.int .i64)) (.cons (.sl .bool) (.cons (.sl (.cons (.int .i64) (.cons (.int .i64) (.cons (.int .i64) .nil)))) (.cons (.int .i64) .nil)))))), [])], []⟩, fun k y => output_Step_s.l3 k y.1.1 y.1.2.1 y.1.2.2.1 y.2.1.1⟩, ⟨8, ⟨48, [(3, (.sl .str), [⟨0, 4, 9, 1⟩]), (34, (.sl (.cons (.int .i64) (.cons (.int .i64) (.cons (.int .i64) .nil)))), []), (35, (.int .i64), []), (36, (.int .i64), [])], [], []⟩, fun k y => output_Step_s.l8 k y.1.1 y.1.2.1 y.1.2.2.1 y.1.2.2.2.1⟩] []
theorem output_Step_s.h1 : (obls output_Step_s.E Tryz.f39).map Ob.left = (obls output_Step_s.E Tryz.f39).map Ob.right := by kernel_rfl
theorem output_Step_s.h2 : (fun k x => output_Step_s.c.fn k x) = fun k x => mainK output_Step_s.E Tryz.f39 output_Step_s.c.dom k x := by kernel_rfl
theorem output_Step_s.ok : CalleeOk Tryz.prog 39 output_Step_s.c := fn_ok tabOk mixed (fun _ => rfl) Tryz.func39 rfl (by kernel_rfl) (ok_cons num_Tell.ok (ok_cons output_Word.ok (ok_cons output_line.ok (ok_cons output_group_s.ok (ok_cons events_Line.ok ok_nil))))) (.of_eq output_Step_s.h1) (fun k x _ h => (congrFun (congrFun output_Step_s.h2 k) x).symm.trans h)
end Go.Proofs.YtcgdhpnobgimfaaGreatDoor.PB
end
