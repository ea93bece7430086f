/- The functions that these laws reach, each told by the evaluator: its plain text, and that a call of it comes to what the text says. -/
import Derived.Test.YtcgdhpnobgimfaaDoorMTP2
import Derived.Test.YtcgdhpnobgimfaaDoorMTP1
import Derived.Test.YtcgdhpnobgimfaaDoorMTP4
import Derived.Shelf.Strings.OnBuilder
import Derived.Shelf.Strings.Repeat
import Derived.Shelf.Strings.SplitShaped
import Derived.RangeFuncKeeps
import Derived.RangeFuncLeaves
import Derived.RangeFuncCalls
import Derived.RangeFuncBox
import Derived.OwnWalkIn
import Derived.TacticsInMore
import Derived.LoopNIn
import Derived.LoopIn
import Derived.Maps.AppendAt
section
namespace Go.Proofs.YtcgdhpnobgimfaaDoor.PI
open Go Go.Sym Go.Proofs Go.RowKit Go.Proofs.YtcgdhpnobgimfaaDoorW.PrintWords
set_option maxRecDepth 100000
set_option linter.unusedVariables false
set_option linter.unusedSimpArgs false
theorem lo_leo {α : Type} {a b : Option α} (h : LeO a b) : Lo a b := h
theorem wu8_64 (x : Int) : wrap64 (IntKind.wrap .u8 x) = x % 256 := by
  have e : IntKind.wrap .u8 x = x % 256 := rfl
  rw [e, sw64_id] <;> omega
theorem wu8_u64 (x : Int) : IntKind.wrap .u64 (IntKind.wrap .u8 x) = x % 256 := by
  have e : IntKind.wrap .u8 x = x % 256 := rfl
  rw [e, su64_id] <;> omega
theorem byL_nums (s : ByteArray) : byL s = numsOf s := rfl
theorem btS_bt (s : ByteArray) (i : Int) : btS s i = bt s i := rfl
theorem nil_tl : (⟨#[]⟩ : ByteArray).toList = [] := by rw [ByteArray.toList_eq]
theorem beq_decL (a b : List UInt8) : (a == b) = decide (a = b) := by
  by_cases h : a = b
  · rw [decide_eq_true h, beq_iff_eq.2 h]
  · rw [decide_eq_false h]
    exact beq_eq_false_iff_ne.2 h
theorem beq_decI (a b : Int) : (a == b) = decide (a = b) := by
  by_cases h : a = b
  · rw [decide_eq_true h, beq_iff_eq.2 h]
  · rw [decide_eq_false h]
    exact beq_eq_false_iff_ne.2 h
def laySplit_ren : Go.Shelf.Ren := ⟨fun | 146 => 45 | 221 => 76 | 268 => 98 | 138 => 99 | 143 => 100 | 195 => 112 | 197 => 113 | 218 => 114 | 219 => 115 | 260 => 118 | 217 => 91 | 225 => 119 | 224 => 120 | 267 => 121 | 266 => 108 | 314 => 123 | n => n, fun | 9 => 9 | 31 => 35 | 3 => 3 | 4 => 4 | 0 => 0 | 105 => 157 | 21 => 21 | 5 => 5 | 46 => 79 | 119 => 161 | 139 => 164 | 138 => 163 | 146 => 153 | 51 => 152 | n => n, fun | 1 => 0 | 3 => 3 | 4 => 4 | n => n⟩
theorem laySplit : Go.Proofs.LaysM.n146 Tryd.prog laySplit_ren := {
  mixed := by kernel_rfl
  f138 := Tryd.func99.trans (congrArg some (by kernel_rfl))
  f143 := Tryd.func100.trans (congrArg some (by kernel_rfl))
  f146 := Tryd.func45.trans (congrArg some (by kernel_rfl))
  f195 := Tryd.func112.trans (congrArg some (by kernel_rfl))
  f197 := Tryd.func113.trans (congrArg some (by kernel_rfl))
  f217 := Tryd.func91.trans (congrArg some (by kernel_rfl))
  f218 := Tryd.func114.trans (congrArg some (by kernel_rfl))
  f219 := Tryd.func115.trans (congrArg some (by kernel_rfl))
  f221 := Tryd.func76.trans (congrArg some (by kernel_rfl))
  f224 := Tryd.func120.trans (congrArg some (by kernel_rfl))
  f225 := Tryd.func119.trans (congrArg some (by kernel_rfl))
  f260 := Tryd.func118.trans (congrArg some (by kernel_rfl))
  f266 := Tryd.func108.trans (congrArg some (by kernel_rfl))
  f267 := Tryd.func121.trans (congrArg some (by kernel_rfl))
  f268 := Tryd.func98.trans (congrArg some (by kernel_rfl))
  f314 := Tryd.func123.trans (congrArg some (by kernel_rfl))
  t0 := Tryd.underlying0
  a0 := Tryd.isAgg0
  z0 := Tryd.sizeOf0
  v0 := Tryd.zeroValue0
  t3 := Tryd.underlying3
  a3 := Tryd.isAgg3
  z3 := Tryd.sizeOf3
  v3 := Tryd.zeroValue3
  t4 := Tryd.underlying4
  a4 := Tryd.isAgg4
  z4 := Tryd.sizeOf4
  v4 := Tryd.zeroValue4
  t5 := Tryd.underlying5
  a5 := Tryd.isAgg5
  z5 := Tryd.sizeOf5
  v5 := Tryd.zeroValue5
  t9 := Tryd.underlying9
  a9 := Tryd.isAgg9
  z9 := Tryd.sizeOf9
  v9 := Tryd.zeroValue9
  t21 := Tryd.underlying21
  a21 := Tryd.isAgg21
  z21 := Tryd.sizeOf21
  v21 := Tryd.zeroValue21
  t31 := Tryd.underlying35
  a31 := Tryd.isAgg35
  z31 := Tryd.sizeOf35
  v31 := Tryd.zeroValue35
  t46 := Tryd.underlying79
  a46 := Tryd.isAgg79
  z46 := Tryd.sizeOf79
  v46 := Tryd.zeroValue79
  t51 := Tryd.underlying152
  a51 := Tryd.isAgg152
  z51 := Tryd.sizeOf152
  v51 := Tryd.zeroValue152
  t105 := Tryd.underlying157
  a105 := Tryd.isAgg157
  z105 := Tryd.sizeOf157
  v105 := Tryd.zeroValue157
  t119 := Tryd.underlying161
  a119 := Tryd.isAgg161
  z119 := Tryd.sizeOf161
  t138 := Tryd.underlying163
  a138 := Tryd.isAgg163
  z138 := Tryd.sizeOf163
  v138 := Tryd.zeroValue163
  t139 := Tryd.underlying164
  a139 := Tryd.isAgg164
  z139 := Tryd.sizeOf164
  v139 := Tryd.zeroValue164
  t146 := Tryd.underlying153
  a146 := Tryd.isAgg153
  z146 := Tryd.sizeOf153
  v146 := Tryd.zeroValue153
  g1 := by kernel_rfl
  g3 := by kernel_rfl
  g4 := by kernel_rfl
  i0 := by kernel_rfl
  i3 := by kernel_rfl
  i4 := by kernel_rfl
  i5 := by kernel_rfl
  i9 := by kernel_rfl
  i21 := by kernel_rfl
  i31 := by kernel_rfl
  i46 := by kernel_rfl
  i51 := by kernel_rfl
  i105 := by kernel_rfl
  i138 := by kernel_rfl
  i139 := by kernel_rfl
  i146 := by kernel_rfl
  m1 := by kernel_rfl
  s1_3 := fun w h => Go.Proofs.cell_of_shapedOpen_int (zero := #[.int .i64 0]) (t := 3) h (of_decide_eq_true (by kernel_rfl)) (by kernel_rfl) rfl (by kernel_rfl) (by kernel_rfl) Tryd.underlying3
  m3 := by kernel_rfl
  m4 := by kernel_rfl }
theorem laySplitF : laySplit_ren.f 146 = 45 := by kernel_rfl
def strings_Split.f (k : Nat) (s sep : ByteArray) : Option (List ByteArray) := if s.size < 4294967281 ∧ 1 ≤ sep.size then some (Lib.splitB sep 0 (Lib.countB s sep) s) else none
theorem strings_Split.mono (k : Nat) (s sep : ByteArray) : Lo (strings_Split.f k s sep) (strings_Split.f (k + 1) s sep) := lo_refl _
def strings_Split.c : Sym.Callee := ⟨(.cons .str (.cons .str .nil)), (.sl .str), false, El (.sl .str), fun k x => strings_Split.f k x.1 x.2.1, fun y => y, []⟩
theorem strings_Split.ok : CalleeOk Tryd.prog 45 strings_Split.c where
  enter := enter_of Tryd.func45 rfl (by kernel_rfl)
  calls k w F vs x y hL hfin hx hy := by
    obtain ⟨v1, us, rfl, h1, v2, us2, rfl, h2, rfl⟩ := hx
    obtain rfl := rep_str h1
    obtain rfl := rep_str h2
    obtain ⟨s, sep, _⟩ := x
    have hy : strings_Split.f k s sep = some y := hy
    unfold strings_Split.f at hy
    split at hy
    case isFalse => cases hy
    case isTrue hq =>
      obtain rfl := Option.some.inj hy
      obtain ⟨_, g0, hg, hsame⟩ := hL
      obtain ⟨m, hm⟩ := laySplit.s1_3 g0 hg
      have hm' : w.cell? ⟨laySplit_ren.g 1, 0, none⟩ = some (.int .i64 m) := (World.cell?_of_block (hsame (laySplit_ren.g 1) (of_decide_eq_true (by kernel_rfl)))).trans hm
      have g := Go.Proofs.Any.strings_Split { laySplit with } laySplit.i9 s sep m w hq.1 hm' hq.2
      rw [laySplitF] at g
      refine g.mono fun e w' q => ?_
      obtain ⟨rfl, rfl⟩ := q
      have hlen : (Lib.splitB sep 0 (Lib.countB s sep) s).length = Lib.countB s sep + 1 := Lib.splitB_all sep hq.2 0 _ s rfl
      have R : RepR (fun b => if b = w.heap.size then (Lib.splitB sep 0 (Lib.countB s sep) s).length else F b) (w.alloc (.cells ((Lib.splitB sep 0 (Lib.countB s sep) s).map Value.string).toArray (laySplit_ren.t 9))) (.sl .str) false [] (Lib.splitB sep 0 (Lib.countB s sep) s) (.slice (some ⟨w.heap.size, 0, none⟩) (Lib.countB s sep + 1) (Lib.countB s sep + 1)) := by
        refine repR_one ⟨[.slice (some ⟨w.heap.size, 0, none⟩) (Lib.splitB sep 0 (Lib.countB s sep) s).length (Lib.countB s sep + 1)], ⟨some ⟨w.heap.size, 0, none⟩, Lib.countB s sep + 1, rfl, by omega, fun hp => ⟨w.heap.size, 0, rfl, ?_, fun j t hj => ⟨[.string t], rfl, ?_⟩⟩⟩, by rw [hlen]; rfl⟩
        · show 0 + (Lib.splitB sep 0 (Lib.countB s sep) s).length * 1 ≤ (if w.heap.size = w.heap.size then (Lib.splitB sep 0 (Lib.countB s sep) s).length else F w.heap.size)
          rw [if_pos rfl]
          omega
        · intro i v hv
          cases i with
          | succ i => simp at hv
          | zero =>
            simp only [List.getElem?_cons_zero, Option.some.injEq] at hv
            subst hv
            have hh := heap_alloc_new w (.cells ((Lib.splitB sep 0 (Lib.countB s sep) s).map Value.string).toArray (laySplit_ren.t 9))
            rw [show (0 + j * Ty.str.size + 0) = j from by show 0 + j * 1 + 0 = j; omega]
            unfold World.cell?
            simp only [hh]
            simp [hj]
      exact ⟨_, _, rfl, alloc_grow hfin _ _, alloc_fin hfin _ _, R⟩
mutual
def input_parts.l3 : Nat → (List ByteArray) → (List ByteArray) → Int → (List ByteArray) → Int → Int → Option ((List ByteArray) × (List ByteArray) × Bool × Unit)
  | 0, _, _, _, _, _, _ => none
  | k + 1, x2, x3, x5, x9, x10, x11 => (if x11 < x10 then (if 0 ≤ x11 then (if x11 < (x9.length : Int) then (if (x9.getD (x11).toNat (⟨#[]⟩ : ByteArray)).toList = (⟨#[124]⟩ : ByteArray).toList then (input_parts.j10 k x2 x3 (wrap64 (x5 + (1 : Int))) x9 x10 x11) else (if x5 = (0 : Int) then (if (x2.length + [(x9.getD (x11).toNat (⟨#[]⟩ : ByteArray))].length) * 16 ≤ 140737488355328 then (input_parts.j10 k (x2 ++ [(x9.getD (x11).toNat (⟨#[]⟩ : ByteArray))]) x3 x5 x9 x10 x11) else none) else (if (x3.length + [(x9.getD (x11).toNat (⟨#[]⟩ : ByteArray))].length) * 16 ≤ 140737488355328 then (input_parts.j10 k x2 (x3 ++ [(x9.getD (x11).toNat (⟨#[]⟩ : ByteArray))]) x5 x9 x10 x11) else none))) else none) else none) else (some (x2, x3, (xor false (decide (x5 = (1 : Int)))), ())))
def input_parts.j10 : Nat → (List ByteArray) → (List ByteArray) → Int → (List ByteArray) → Int → Int → Option ((List ByteArray) × (List ByteArray) × Bool × Unit)
  | 0, _, _, _, _, _, _ => none
  | k + 1, x2, x3, x5, x9, x10, x11 => (input_parts.l3 k x2 x3 x5 x9 x10 (wrap64 (x11 + (1 : Int))))
end
def input_parts.f (k : Nat) (a0 : ByteArray) : Option ((List ByteArray) × (List ByteArray) × Bool × Unit) := ((strings_Split.f k a0 (⟨#[32]⟩ : ByteArray)).bind fun t1 => (input_parts.l3 k ([] : List ByteArray) ([] : List ByteArray) (0 : Int) t1 (t1.length : Int) (0 : Int)))
def input_parts.c : Sym.Callee := ⟨(.cons .str .nil), (.cons (.sl .str) (.cons (.sl .str) (.cons .bool .nil))), true, El (.cons (.sl .str) (.cons (.sl .str) (.cons .bool .nil))), fun k x => input_parts.f k x.1, fun y => y, []⟩
noncomputable def input_parts.E : Env (El (.cons (.sl .str) (.cons (.sl .str) (.cons .bool .nil)))) := envOf tab Tryd.f21 true (.cons (.sl .str) (.cons (.sl .str) (.cons .bool .nil))) [] (fun y => y) [(45, strings_Split.c)] [⟨3, ⟨36, [(2, (.sl .str), [⟨0, 3, 9, 1⟩]), (3, (.sl .str), [⟨0, 4, 9, 1⟩]), (5, (.int .i64), []), (9, (.sl .str), []), (10, (.int .i64), []), (11, (.int .i64), [])], [], []⟩, fun k y => input_parts.l3 k y.1.1 y.1.2.1 y.1.2.2.1 y.1.2.2.2.1 y.1.2.2.2.2.1 y.1.2.2.2.2.2.1⟩] [⟨10, ⟨36, [(2, (.sl .str), [⟨0, 3, 9, 1⟩]), (3, (.sl .str), [⟨0, 4, 9, 1⟩]), (5, (.int .i64), []), (9, (.sl .str), []), (10, (.int .i64), []), (11, (.int .i64), [])], [], []⟩, fun k y => input_parts.j10 k y.1.1 y.1.2.1 y.1.2.2.1 y.1.2.2.2.1 y.1.2.2.2.2.1 y.1.2.2.2.2.2.1⟩]
theorem input_parts.h1 : (obls input_parts.E Tryd.f21).map Ob.left = (obls input_parts.E Tryd.f21).map Ob.right := by kernel_rfl
theorem input_parts.h2 : (fun k x => input_parts.c.fn k x) = fun k x => mainK input_parts.E Tryd.f21 input_parts.c.dom k x := by kernel_rfl
theorem input_parts.ok : CalleeOk Tryd.prog 21 input_parts.c := fn_ok tabOk mixed (fun _ => rfl) Tryd.func21 rfl (by kernel_rfl) (ok_cons strings_Split.ok ok_nil) (.of_eq input_parts.h1) (fun k x _ h => (congrFun (congrFun input_parts.h2 k) x).symm.trans h)
theorem input_parts.mono_c : ∀ k, (∀ x2 x3 x5 x9 x10 x11, Lo (input_parts.l3 k x2 x3 x5 x9 x10 x11) (input_parts.l3 (k + 1) x2 x3 x5 x9 x10 x11)) ∧ (∀ x2 x3 x5 x9 x10 x11, Lo (input_parts.j10 k x2 x3 x5 x9 x10 x11) (input_parts.j10 (k + 1) x2 x3 x5 x9 x10 x11)) ∧ True
  | 0 => ⟨fun _ _ _ _ _ _ => by rw [input_parts.l3]; exact lo_none _, fun _ _ _ _ _ _ => by rw [input_parts.j10]; exact lo_none _, trivial⟩
  | k + 1 => by
    obtain ⟨h_l3, h_j10, _⟩ := input_parts.mono_c k
    exact ⟨fun _ _ _ _ _ _ => by rw [input_parts.l3, input_parts.l3]; repeat' first | (with_reducible exact lo_refl _) | (with_reducible exact h_l3 _ _ _ _ _ _) | (with_reducible exact h_j10 _ _ _ _ _ _) | (with_reducible refine lo_ite (fun _ => ?_) (fun _ => ?_)) | (with_reducible refine lo_bind2 ?_ (fun _ => ?_)) | (with_reducible exact lo_of (strings_Split.mono _ _ _)), fun _ _ _ _ _ _ => by rw [input_parts.j10, input_parts.j10]; repeat' first | (with_reducible exact lo_refl _) | (with_reducible exact h_l3 _ _ _ _ _ _) | (with_reducible exact h_j10 _ _ _ _ _ _) | (with_reducible refine lo_ite (fun _ => ?_) (fun _ => ?_)) | (with_reducible refine lo_bind2 ?_ (fun _ => ?_)) | (with_reducible exact lo_of (strings_Split.mono _ _ _)), trivial⟩
theorem input_parts.mono : ∀ k a0, Lo (input_parts.f k a0) (input_parts.f (k + 1) a0) := by
  intro k a0
  obtain ⟨h_l3, h_j10, _⟩ := input_parts.mono_c k
  unfold input_parts.f
  repeat' first | (with_reducible exact lo_refl _) | (with_reducible exact h_l3 _ _ _ _ _ _) | (with_reducible exact h_j10 _ _ _ _ _ _) | (with_reducible refine lo_ite (fun _ => ?_) (fun _ => ?_)) | (with_reducible refine lo_bind2 ?_ (fun _ => ?_)) | (with_reducible exact lo_of (strings_Split.mono _ _ _))
def stringslite_HasPrefix.c : Sym.Callee := ⟨(.cons .str (.cons .str .nil)), .bool, false, Bool, fun k x => stringslite_HasPrefix.f x.1 x.2.1, fun z => z, []⟩
def stringslite_HasPrefix.nf (k : Nat) (a0 : ByteArray) (a1 : ByteArray) : Option (Bool) := (if (a0.size : Int) ≥ (a1.size : Int) then (if 0 ≤ (a1.size : Int) then (if (a1.size : Int) ≤ (a0.size : Int) then (some (xor false (decide ((a0.extract 0 ((a1.size : Int)).toNat).toList = a1.toList)))) else none) else none) else (some false))
noncomputable def stringslite_HasPrefix.E : Env (Bool) := envOf tab Tryd.f111 false .bool [] (fun y => y) [] [] []
theorem stringslite_HasPrefix.h1 : obls stringslite_HasPrefix.E Tryd.f111 = [] := by kernel_rfl
theorem stringslite_HasPrefix.h2 : (fun k (x : El (.cons .str (.cons .str .nil))) => stringslite_HasPrefix.nf k x.1 x.2.1) = fun k x => mainK stringslite_HasPrefix.E Tryd.f111 (.cons .str (.cons .str .nil)) k x := by kernel_rfl
set_option maxHeartbeats 2000000 in
theorem stringslite_HasPrefix.bf (k : Nat) (a0 : ByteArray) (a1 : ByteArray) : Lo (stringslite_HasPrefix.f a0 a1) (stringslite_HasPrefix.nf k a0 a1) := by
  unfold stringslite_HasPrefix.f stringslite_HasPrefix.nf
  try simp only [Bool.false_xor, Bool.true_xor, wu8_64, wu8_u64, byL_nums, btS_bt, nil_tl, beq_decL, beq_decI]
  repeat' first
    | (with_reducible exact lo_refl _)
    | exact lo_none _
    | (with_reducible refine lo_lpos (by first | assumption | decide) ?_)
    | (with_reducible refine lo_lneg (by first | assumption | decide) ?_)
    | (with_reducible refine lo_ite (fun _ => ?_) (fun _ => ?_))
    | (with_reducible refine lo_bind (fun _ => ?_))
    | (with_reducible refine lo_left ?_)
    | (refine lo_neg (by decide) ?_)
    | (refine lo_pos (by first | assumption | omega) ?_)
    | (refine lo_neg (by first | assumption | omega) ?_)
    | (with_reducible refine lo_test (fun _ => by first | assumption | omega | (simp only [List.length_cons, List.length_nil]; omega) | decide) (fun _ => ?_))
    | (with_reducible refine lo_testn (fun _ => by first | assumption | omega) (fun _ => ?_))
    | (with_reducible refine lo_and (fun z => by first | exact z.1 | omega) (fun z => by first | exact z.2 | omega) (fun _ => ?_))
    | exact lo_refl _
    | (with_reducible refine lo_iff (by first | exact Iff.rfl | omega | (simp; done) | decide) (fun _ => ?_) (fun _ => ?_))
    | (with_reducible refine lo_iffn (by first | exact Iff.rfl | omega | (simp; done) | decide) (fun _ => ?_) (fun _ => ?_))
    | refine lo_ite (fun _ => ?_) (fun _ => ?_)
    | refine lo_bind (fun _ => ?_)
    | (refine lo_some ?_; first | rfl | (rw [Bool.false_xor]; rfl) | (rw [Bool.true_xor]; rfl) | (simp only [Bool.and_true]; rfl) | (simp; done))
    | (simp only [Int.zero_sub]; exact lo_refl _)
    | (with_reducible refine lo_lpos (by omega) ?_)
    | (with_reducible refine lo_lneg (by omega) ?_)
    | (with_reducible refine lo_lite (fun _ => ?_) (fun _ => ?_))
    | (with_reducible refine lo_rite (fun _ => ?_) (fun _ => ?_))
  all_goals (exfalso; first | omega | (simp_all; done) | (simp_all; omega))
theorem stringslite_HasPrefix.al : AllLe (obls stringslite_HasPrefix.E Tryd.f111) := by
  rw [stringslite_HasPrefix.h1]
  exact .nil
theorem stringslite_HasPrefix.ok : CalleeOk Tryd.prog 111 stringslite_HasPrefix.c := fn_ok tabOk mixed (fun _ => rfl) Tryd.func111 rfl (by kernel_rfl) ok_nil stringslite_HasPrefix.al (fun k x r h => (congrFun (congrFun stringslite_HasPrefix.h2 k) x).symm.trans (stringslite_HasPrefix.bf k _ _ r h))
def stringslite_CutPrefix.c : Sym.Callee := ⟨(.cons .str (.cons .str .nil)), (.cons .str (.cons .bool .nil)), true, ByteArray × Bool, fun k x => stringslite_CutPrefix.f x.1 x.2.1, fun z => (z.1, z.2, ()), []⟩
def stringslite_CutPrefix.nf (k : Nat) (a0 : ByteArray) (a1 : ByteArray) : Option (ByteArray × Bool) := ((stringslite_HasPrefix.f a0 a1).bind fun t1 => (if (!t1) = true then (some (a0, false)) else (if 0 ≤ (a1.size : Int) then (if (a1.size : Int) ≤ (a0.size : Int) then (some ((a0.extract ((a1.size : Int)).toNat a0.size), true)) else none) else none)))
noncomputable def stringslite_CutPrefix.E : Env (ByteArray × Bool) := envOf tab Tryd.f101 true (.cons .str (.cons .bool .nil)) [] (fun y => (y.1, y.2.1)) [(111, stringslite_HasPrefix.c)] [] []
theorem stringslite_CutPrefix.h1 : obls stringslite_CutPrefix.E Tryd.f101 = [] := by kernel_rfl
theorem stringslite_CutPrefix.h2 : (fun k (x : El (.cons .str (.cons .str .nil))) => stringslite_CutPrefix.nf k x.1 x.2.1) = fun k x => mainK stringslite_CutPrefix.E Tryd.f101 (.cons .str (.cons .str .nil)) k x := by kernel_rfl
set_option maxHeartbeats 2000000 in
theorem stringslite_CutPrefix.bf (k : Nat) (a0 : ByteArray) (a1 : ByteArray) : Lo (stringslite_CutPrefix.f a0 a1) (stringslite_CutPrefix.nf k a0 a1) := by
  unfold stringslite_CutPrefix.f stringslite_CutPrefix.nf
  try simp only [Bool.false_xor, Bool.true_xor, wu8_64, wu8_u64, byL_nums, btS_bt, nil_tl, beq_decL, beq_decI]
  repeat' first
    | (with_reducible exact lo_refl _)
    | exact lo_none _
    | (with_reducible refine lo_lpos (by first | assumption | decide) ?_)
    | (with_reducible refine lo_lneg (by first | assumption | decide) ?_)
    | (with_reducible refine lo_ite (fun _ => ?_) (fun _ => ?_))
    | (with_reducible refine lo_bind (fun _ => ?_))
    | (with_reducible refine lo_left ?_)
    | (refine lo_neg (by decide) ?_)
    | (refine lo_pos (by first | assumption | omega) ?_)
    | (refine lo_neg (by first | assumption | omega) ?_)
    | (with_reducible refine lo_test (fun _ => by first | assumption | omega | (simp only [List.length_cons, List.length_nil]; omega) | decide) (fun _ => ?_))
    | (with_reducible refine lo_testn (fun _ => by first | assumption | omega) (fun _ => ?_))
    | (with_reducible refine lo_and (fun z => by first | exact z.1 | omega) (fun z => by first | exact z.2 | omega) (fun _ => ?_))
    | exact lo_refl _
    | (with_reducible refine lo_iff (by first | exact Iff.rfl | omega | (simp; done) | decide) (fun _ => ?_) (fun _ => ?_))
    | (with_reducible refine lo_iffn (by first | exact Iff.rfl | omega | (simp; done) | decide) (fun _ => ?_) (fun _ => ?_))
    | refine lo_ite (fun _ => ?_) (fun _ => ?_)
    | refine lo_bind (fun _ => ?_)
    | (refine lo_some ?_; first | rfl | (rw [Bool.false_xor]; rfl) | (rw [Bool.true_xor]; rfl) | (simp only [Bool.and_true]; rfl) | (simp; done))
    | (simp only [Int.zero_sub]; exact lo_refl _)
    | (with_reducible refine lo_lpos (by omega) ?_)
    | (with_reducible refine lo_lneg (by omega) ?_)
    | (with_reducible refine lo_lite (fun _ => ?_) (fun _ => ?_))
    | (with_reducible refine lo_rite (fun _ => ?_) (fun _ => ?_))
  all_goals (exfalso; first | omega | (simp_all; done) | (simp_all; omega))
theorem stringslite_CutPrefix.al : AllLe (obls stringslite_CutPrefix.E Tryd.f101) := by
  rw [stringslite_CutPrefix.h1]
  exact .nil
theorem stringslite_CutPrefix.ok : CalleeOk Tryd.prog 101 stringslite_CutPrefix.c := fn_ok tabOk mixed (fun _ => rfl) Tryd.func101 rfl (by kernel_rfl) (ok_cons stringslite_HasPrefix.ok ok_nil) stringslite_CutPrefix.al (fun k x r h => (congrFun (congrFun stringslite_CutPrefix.h2 k) x).symm.trans (stringslite_CutPrefix.bf k _ _ r h))
def strings_CutPrefix.c : Sym.Callee := ⟨(.cons .str (.cons .str .nil)), (.cons .str (.cons .bool .nil)), true, ByteArray × Bool, fun k x => strings_CutPrefix.f x.1 x.2.1, fun z => (z.1, z.2, ()), []⟩
def strings_CutPrefix.nf (k : Nat) (a0 : ByteArray) (a1 : ByteArray) : Option (ByteArray × Bool) := ((stringslite_CutPrefix.f a0 a1).bind fun t1 => (some (t1.1, t1.2)))
noncomputable def strings_CutPrefix.E : Env (ByteArray × Bool) := envOf tab Tryd.f77 true (.cons .str (.cons .bool .nil)) [] (fun y => (y.1, y.2.1)) [(101, stringslite_CutPrefix.c)] [] []
theorem strings_CutPrefix.h1 : obls strings_CutPrefix.E Tryd.f77 = [] := by kernel_rfl
theorem strings_CutPrefix.h2 : (fun k (x : El (.cons .str (.cons .str .nil))) => strings_CutPrefix.nf k x.1 x.2.1) = fun k x => mainK strings_CutPrefix.E Tryd.f77 (.cons .str (.cons .str .nil)) k x := by kernel_rfl
set_option maxHeartbeats 2000000 in
theorem strings_CutPrefix.bf (k : Nat) (a0 : ByteArray) (a1 : ByteArray) : Lo (strings_CutPrefix.f a0 a1) (strings_CutPrefix.nf k a0 a1) := by
  unfold strings_CutPrefix.f strings_CutPrefix.nf
  try simp only [Bool.false_xor, Bool.true_xor, wu8_64, wu8_u64, byL_nums, btS_bt, nil_tl, beq_decL, beq_decI]
  repeat' first
    | (with_reducible exact lo_refl _)
    | exact lo_none _
    | (with_reducible refine lo_lpos (by first | assumption | decide) ?_)
    | (with_reducible refine lo_lneg (by first | assumption | decide) ?_)
    | (with_reducible refine lo_ite (fun _ => ?_) (fun _ => ?_))
    | (with_reducible refine lo_bind (fun _ => ?_))
    | (with_reducible refine lo_left ?_)
    | (refine lo_neg (by decide) ?_)
    | (refine lo_pos (by first | assumption | omega) ?_)
    | (refine lo_neg (by first | assumption | omega) ?_)
    | (with_reducible refine lo_test (fun _ => by first | assumption | omega | (simp only [List.length_cons, List.length_nil]; omega) | decide) (fun _ => ?_))
    | (with_reducible refine lo_testn (fun _ => by first | assumption | omega) (fun _ => ?_))
    | (with_reducible refine lo_and (fun z => by first | exact z.1 | omega) (fun z => by first | exact z.2 | omega) (fun _ => ?_))
    | exact lo_refl _
    | (with_reducible refine lo_iff (by first | exact Iff.rfl | omega | (simp; done) | decide) (fun _ => ?_) (fun _ => ?_))
    | (with_reducible refine lo_iffn (by first | exact Iff.rfl | omega | (simp; done) | decide) (fun _ => ?_) (fun _ => ?_))
    | refine lo_ite (fun _ => ?_) (fun _ => ?_)
    | refine lo_bind (fun _ => ?_)
    | (refine lo_some ?_; first | rfl | (rw [Bool.false_xor]; rfl) | (rw [Bool.true_xor]; rfl) | (simp only [Bool.and_true]; rfl) | (simp; done))
    | (simp only [Int.zero_sub]; exact lo_refl _)
    | (with_reducible refine lo_lpos (by omega) ?_)
    | (with_reducible refine lo_lneg (by omega) ?_)
    | (with_reducible refine lo_lite (fun _ => ?_) (fun _ => ?_))
    | (with_reducible refine lo_rite (fun _ => ?_) (fun _ => ?_))
  all_goals (exfalso; first | omega | (simp_all; done) | (simp_all; omega))
theorem strings_CutPrefix.al : AllLe (obls strings_CutPrefix.E Tryd.f77) := by
  rw [strings_CutPrefix.h1]
  exact .nil
theorem strings_CutPrefix.ok : CalleeOk Tryd.prog 77 strings_CutPrefix.c := fn_ok tabOk mixed (fun _ => rfl) Tryd.func77 rfl (by kernel_rfl) (ok_cons stringslite_CutPrefix.ok ok_nil) strings_CutPrefix.al (fun k x r h => (congrFun (congrFun strings_CutPrefix.h2 k) x).symm.trans (strings_CutPrefix.bf k _ _ r h))
def num_Lead.c : Sym.Callee := ⟨(.cons .str .nil), (.int .i64), false, Int, fun k x => num_Lead.f k x.1, fun z => z, []⟩
def num_Lead.nl0 (k : Nat) (x0 : ByteArray) (x6 : List Int) (x7 : Int) (x8 : Int) : Option (Int) := (if x8 < x7 then (if 0 ≤ x8 then (if x8 < (x6.length : Int) then (if (x6.getD (x8).toNat 0) < (48 : Int) then (some x8) else (if (x6.getD (x8).toNat 0) > (57 : Int) then (some x8) else (num_Lead.l0 k x0 x6 x7 (wrap64 (x8 + (1 : Int)))))) else none) else none) else (some (x0.size : Int)))
def num_Lead.nf (k : Nat) (a0 : ByteArray) : Option (Int) := (num_Lead.l0 k a0 (byL a0) ((byL a0).length : Int) (0 : Int))
noncomputable def num_Lead.E : Env (Int) := envOf tab Tryd.f78 false (.int .i64) [] (fun y => y) [] [⟨2, ⟨23, [(0, .str, []), (6, (.sl (.int .u8)), []), (7, (.int .i64), []), (8, (.int .i64), [])], [], []⟩, fun k y => num_Lead.l0 k y.1.1 y.1.2.1 y.1.2.2.1 y.1.2.2.2.1⟩] []
theorem num_Lead.h1 : obls num_Lead.E Tryd.f78 = [⟨(.cons (.cons .str (.cons (.sl (.int .u8)) (.cons (.int .i64) (.cons (.int .i64) .nil)))) (.cons .nil (.cons .nil .nil))), fun k y => num_Lead.l0 (k + 1) y.1.1 y.1.2.1 y.1.2.2.1 y.1.2.2.2.1, fun k y => num_Lead.nl0 k y.1.1 y.1.2.1 y.1.2.2.1 y.1.2.2.2.1⟩, ⟨(.cons (.cons .str (.cons (.sl (.int .u8)) (.cons (.int .i64) (.cons (.int .i64) .nil)))) (.cons .nil (.cons .nil .nil))), fun _ y => num_Lead.l0 0 y.1.1 y.1.2.1 y.1.2.2.1 y.1.2.2.2.1, fun _ _ => none⟩] := by kernel_rfl
theorem num_Lead.h2 : (fun k (x : El (.cons .str .nil)) => num_Lead.nf k x.1) = fun k x => mainK num_Lead.E Tryd.f78 (.cons .str .nil) k x := by kernel_rfl
theorem num_Lead.bl0 (k : Nat) (x0 : ByteArray) (x6 : List Int) (x7 : Int) (x8 : Int) : Lo (num_Lead.l0 (k + 1) x0 x6 x7 x8) (num_Lead.nl0 k x0 x6 x7 x8) := by
  rw [num_Lead.l0]
  unfold num_Lead.nl0
  try simp only [Bool.false_xor, Bool.true_xor, wu8_64, wu8_u64, byL_nums, btS_bt, nil_tl, beq_decL, beq_decI]
  repeat' first
    | (with_reducible exact lo_refl _)
    | exact lo_none _
    | (with_reducible refine lo_lpos (by first | assumption | decide) ?_)
    | (with_reducible refine lo_lneg (by first | assumption | decide) ?_)
    | (with_reducible refine lo_ite (fun _ => ?_) (fun _ => ?_))
    | (with_reducible refine lo_bind (fun _ => ?_))
    | (with_reducible refine lo_left ?_)
    | (refine lo_neg (by decide) ?_)
    | (refine lo_pos (by first | assumption | omega) ?_)
    | (refine lo_neg (by first | assumption | omega) ?_)
    | (with_reducible refine lo_test (fun _ => by first | assumption | omega | (simp only [List.length_cons, List.length_nil]; omega) | decide) (fun _ => ?_))
    | (with_reducible refine lo_testn (fun _ => by first | assumption | omega) (fun _ => ?_))
    | (with_reducible refine lo_and (fun z => by first | exact z.1 | omega) (fun z => by first | exact z.2 | omega) (fun _ => ?_))
    | exact lo_refl _
    | (with_reducible refine lo_iff (by first | exact Iff.rfl | omega | (simp; done) | decide) (fun _ => ?_) (fun _ => ?_))
    | (with_reducible refine lo_iffn (by first | exact Iff.rfl | omega | (simp; done) | decide) (fun _ => ?_) (fun _ => ?_))
    | refine lo_ite (fun _ => ?_) (fun _ => ?_)
    | refine lo_bind (fun _ => ?_)
    | (refine lo_some ?_; first | rfl | (rw [Bool.false_xor]; rfl) | (rw [Bool.true_xor]; rfl) | (simp only [Bool.and_true]; rfl) | (simp; done))
    | (simp only [Int.zero_sub]; exact lo_refl _)
    | (with_reducible refine lo_lpos (by omega) ?_)
    | (with_reducible refine lo_lneg (by omega) ?_)
    | (with_reducible refine lo_lite (fun _ => ?_) (fun _ => ?_))
    | (with_reducible refine lo_rite (fun _ => ?_) (fun _ => ?_))
  all_goals (exfalso; first | omega | (simp_all; done) | (simp_all; omega))
set_option maxHeartbeats 2000000 in
theorem num_Lead.bf (k : Nat) (a0 : ByteArray) : Lo (num_Lead.f k a0) (num_Lead.nf k a0) := by
  unfold num_Lead.f num_Lead.nf
  refine lo_lite (fun _ => ?_) (fun _ => lo_none _)
  unfold num_Lead.g
  try simp only [Bool.false_xor, Bool.true_xor, wu8_64, wu8_u64, byL_nums, btS_bt, nil_tl, beq_decL, beq_decI]
  repeat' first
    | (with_reducible exact lo_refl _)
    | exact lo_none _
    | (with_reducible refine lo_lpos (by first | assumption | decide) ?_)
    | (with_reducible refine lo_lneg (by first | assumption | decide) ?_)
    | (with_reducible refine lo_ite (fun _ => ?_) (fun _ => ?_))
    | (with_reducible refine lo_bind (fun _ => ?_))
    | (with_reducible refine lo_left ?_)
    | (refine lo_neg (by decide) ?_)
    | (refine lo_pos (by first | assumption | omega) ?_)
    | (refine lo_neg (by first | assumption | omega) ?_)
    | (with_reducible refine lo_test (fun _ => by first | assumption | omega | (simp only [List.length_cons, List.length_nil]; omega) | decide) (fun _ => ?_))
    | (with_reducible refine lo_testn (fun _ => by first | assumption | omega) (fun _ => ?_))
    | (with_reducible refine lo_and (fun z => by first | exact z.1 | omega) (fun z => by first | exact z.2 | omega) (fun _ => ?_))
    | exact lo_refl _
    | (with_reducible refine lo_iff (by first | exact Iff.rfl | omega | (simp; done) | decide) (fun _ => ?_) (fun _ => ?_))
    | (with_reducible refine lo_iffn (by first | exact Iff.rfl | omega | (simp; done) | decide) (fun _ => ?_) (fun _ => ?_))
    | refine lo_ite (fun _ => ?_) (fun _ => ?_)
    | refine lo_bind (fun _ => ?_)
    | (refine lo_some ?_; first | rfl | (rw [Bool.false_xor]; rfl) | (rw [Bool.true_xor]; rfl) | (simp only [Bool.and_true]; rfl) | (simp; done))
    | (simp only [Int.zero_sub]; exact lo_refl _)
    | (with_reducible refine lo_lpos (by omega) ?_)
    | (with_reducible refine lo_lneg (by omega) ?_)
    | (with_reducible refine lo_lite (fun _ => ?_) (fun _ => ?_))
    | (with_reducible refine lo_rite (fun _ => ?_) (fun _ => ?_))
  all_goals (exfalso; first | omega | (simp_all; done) | (simp_all; omega))
theorem num_Lead.al : AllLe (obls num_Lead.E Tryd.f78) := by
  rw [num_Lead.h1]
  exact (.cons (fun k y r h => num_Lead.bl0 k y.1.1 y.1.2.1 y.1.2.2.1 y.1.2.2.2.1 r h) (.cons (fun _ y r h => by simp [num_Lead.l0] at h) .nil))
theorem num_Lead.ok : CalleeOk Tryd.prog 78 num_Lead.c := fn_ok tabOk mixed (fun _ => rfl) Tryd.func78 rfl (by kernel_rfl) ok_nil num_Lead.al (fun k x r h => (congrFun (congrFun num_Lead.h2 k) x).symm.trans (num_Lead.bf k _ r h))
def dec_parted.c : Sym.Callee := ⟨(.cons .str .nil), (.cons .bool (.cons .str (.cons .str (.cons .bool .nil)))), true, Bool × ByteArray × ByteArray × Bool, fun k x => dec_parted.f k x.1, fun z => (z.1, z.2.1, z.2.2.1, z.2.2.2, ()), []⟩
def dec_parted.nf (k : Nat) (a0 : ByteArray) : Option (Bool × ByteArray × ByteArray × Bool) := ((strings_CutPrefix.f a0 (⟨#[45]⟩ : ByteArray)).bind fun t1 => ((num_Lead.f k t1.1).bind fun t2 => (if 0 ≤ t2 then (if t2 ≤ (t1.1.size : Int) then (if 0 ≤ t2 then (if t2 ≤ (t1.1.size : Int) then (if t2 = (0 : Int) then (some (false, (⟨#[]⟩ : ByteArray), (⟨#[]⟩ : ByteArray), false)) else (if t2 > (1 : Int) then (if 0 ≤ (0 : Int) then (if (0 : Int) < (t1.1.size : Int) then (if (btS t1.1 (0 : Int)) = (48 : Int) then (some (false, (⟨#[]⟩ : ByteArray), (⟨#[]⟩ : ByteArray), false)) else (if (t1.1.extract (t2).toNat t1.1.size).toList = (⟨#[]⟩ : ByteArray).toList then (some (t1.2, (t1.1.extract 0 (t2).toNat), (⟨#[]⟩ : ByteArray), true)) else ((strings_CutPrefix.f (t1.1.extract (t2).toNat t1.1.size) (⟨#[46]⟩ : ByteArray)).bind fun t3 => (if (!t3.2) = true then (some (false, (⟨#[]⟩ : ByteArray), (⟨#[]⟩ : ByteArray), false)) else (if t3.1.toList = (⟨#[]⟩ : ByteArray).toList then (some (false, (⟨#[]⟩ : ByteArray), (⟨#[]⟩ : ByteArray), false)) else ((num_Lead.f k t3.1).bind fun t4 => (if t4 < (t3.1.size : Int) then (some (false, (⟨#[]⟩ : ByteArray), (⟨#[]⟩ : ByteArray), false)) else (some (t1.2, (t1.1.extract 0 (t2).toNat), t3.1, true))))))))) else none) else none) else (if (t1.1.extract (t2).toNat t1.1.size).toList = (⟨#[]⟩ : ByteArray).toList then (some (t1.2, (t1.1.extract 0 (t2).toNat), (⟨#[]⟩ : ByteArray), true)) else ((strings_CutPrefix.f (t1.1.extract (t2).toNat t1.1.size) (⟨#[46]⟩ : ByteArray)).bind fun t5 => (if (!t5.2) = true then (some (false, (⟨#[]⟩ : ByteArray), (⟨#[]⟩ : ByteArray), false)) else (if t5.1.toList = (⟨#[]⟩ : ByteArray).toList then (some (false, (⟨#[]⟩ : ByteArray), (⟨#[]⟩ : ByteArray), false)) else ((num_Lead.f k t5.1).bind fun t6 => (if t6 < (t5.1.size : Int) then (some (false, (⟨#[]⟩ : ByteArray), (⟨#[]⟩ : ByteArray), false)) else (some (t1.2, (t1.1.extract 0 (t2).toNat), t5.1, true)))))))))) else none) else none) else none) else none)))
noncomputable def dec_parted.E : Env (Bool × ByteArray × ByteArray × Bool) := envOf tab Tryd.f46 true (.cons .bool (.cons .str (.cons .str (.cons .bool .nil)))) [] (fun y => (y.1, y.2.1, y.2.2.1, y.2.2.2.1)) [(77, strings_CutPrefix.c), (78, num_Lead.c)] [] []
theorem dec_parted.h1 : obls dec_parted.E Tryd.f46 = [] := by kernel_rfl
theorem dec_parted.h2 : (fun k (x : El (.cons .str .nil)) => dec_parted.nf k x.1) = fun k x => mainK dec_parted.E Tryd.f46 (.cons .str .nil) k x := by kernel_rfl
set_option maxHeartbeats 2000000 in
theorem dec_parted.bf (k : Nat) (a0 : ByteArray) : Lo (dec_parted.f k a0) (dec_parted.nf k a0) := by
  unfold dec_parted.f dec_parted.nf
  try simp only [Bool.false_xor, Bool.true_xor, wu8_64, wu8_u64, byL_nums, btS_bt, nil_tl, beq_decL, beq_decI]
  repeat' first
    | (with_reducible exact lo_refl _)
    | exact lo_none _
    | (with_reducible refine lo_lpos (by first | assumption | decide) ?_)
    | (with_reducible refine lo_lneg (by first | assumption | decide) ?_)
    | (with_reducible refine lo_ite (fun _ => ?_) (fun _ => ?_))
    | (with_reducible refine lo_bind (fun _ => ?_))
    | (with_reducible refine lo_left ?_)
    | (refine lo_neg (by decide) ?_)
    | (refine lo_pos (by first | assumption | omega) ?_)
    | (refine lo_neg (by first | assumption | omega) ?_)
    | (refine lo_trans (fun r h => (dec_parted.mono_l _) _ _ _ _ r h) ?_; rw [dec_parted.j0]; try simp only [decide_eq_true_eq])
    | (with_reducible refine lo_test (fun _ => by first | assumption | omega | (simp only [List.length_cons, List.length_nil]; omega) | decide) (fun _ => ?_))
    | (with_reducible refine lo_testn (fun _ => by first | assumption | omega) (fun _ => ?_))
    | (with_reducible refine lo_and (fun z => by first | exact z.1 | omega) (fun z => by first | exact z.2 | omega) (fun _ => ?_))
    | exact lo_refl _
    | (with_reducible refine lo_iff (by first | exact Iff.rfl | omega | (simp; done) | decide) (fun _ => ?_) (fun _ => ?_))
    | (with_reducible refine lo_iffn (by first | exact Iff.rfl | omega | (simp; done) | decide) (fun _ => ?_) (fun _ => ?_))
    | refine lo_ite (fun _ => ?_) (fun _ => ?_)
    | refine lo_bind (fun _ => ?_)
    | (refine lo_some ?_; first | rfl | (rw [Bool.false_xor]; rfl) | (rw [Bool.true_xor]; rfl) | (simp only [Bool.and_true]; rfl) | (simp; done))
    | (simp only [Int.zero_sub]; exact lo_refl _)
    | (with_reducible refine lo_lpos (by omega) ?_)
    | (with_reducible refine lo_lneg (by omega) ?_)
    | (with_reducible refine lo_lite (fun _ => ?_) (fun _ => ?_))
    | (with_reducible refine lo_rite (fun _ => ?_) (fun _ => ?_))
  all_goals (exfalso; first | omega | (simp_all; done) | (simp_all; omega))
theorem dec_parted.al : AllLe (obls dec_parted.E Tryd.f46) := by
  rw [dec_parted.h1]
  exact .nil
theorem dec_parted.ok : CalleeOk Tryd.prog 46 dec_parted.c := fn_ok tabOk mixed (fun _ => rfl) Tryd.func46 rfl (by kernel_rfl) (ok_cons strings_CutPrefix.ok (ok_cons num_Lead.ok ok_nil)) dec_parted.al (fun k x r h => (congrFun (congrFun dec_parted.h2 k) x).symm.trans (dec_parted.bf k _ r h))
def dec_count.c : Sym.Callee := ⟨(.cons .str .nil), (.int .u64), false, Int, fun k x => dec_count.f k x.1, fun z => z, []⟩
def dec_count.nl0 (k : Nat) (x3 : Int) (x7 : List Int) (x8 : Int) (x9 : Int) : Option (Int) := (if x9 < x8 then (if 0 ≤ x9 then (if x9 < (x7.length : Int) then (dec_count.l0 k (IntKind.wrap .u64 ((IntKind.wrap .u64 ((10 : Int) * x3)) + (IntKind.wrap .u64 ((IntKind.wrap .u8 ((x7.getD (x9).toNat 0) - (48 : Int))))))) x7 x8 (wrap64 (x9 + (1 : Int)))) else none) else none) else (some x3))
def dec_count.nf (k : Nat) (a0 : ByteArray) : Option (Int) := (dec_count.l0 k (0 : Int) (byL a0) ((byL a0).length : Int) (0 : Int))
noncomputable def dec_count.E : Env (Int) := envOf tab Tryd.f47 false (.int .u64) [] (fun y => y) [] [⟨3, ⟨21, [(3, (.int .u64), []), (7, (.sl (.int .u8)), []), (8, (.int .i64), []), (9, (.int .i64), [])], [], []⟩, fun k y => dec_count.l0 k y.1.1 y.1.2.1 y.1.2.2.1 y.1.2.2.2.1⟩] []
theorem dec_count.h1 : obls dec_count.E Tryd.f47 = [⟨(.cons (.cons (.int .u64) (.cons (.sl (.int .u8)) (.cons (.int .i64) (.cons (.int .i64) .nil)))) (.cons .nil (.cons .nil .nil))), fun k y => dec_count.l0 (k + 1) y.1.1 y.1.2.1 y.1.2.2.1 y.1.2.2.2.1, fun k y => dec_count.nl0 k y.1.1 y.1.2.1 y.1.2.2.1 y.1.2.2.2.1⟩, ⟨(.cons (.cons (.int .u64) (.cons (.sl (.int .u8)) (.cons (.int .i64) (.cons (.int .i64) .nil)))) (.cons .nil (.cons .nil .nil))), fun _ y => dec_count.l0 0 y.1.1 y.1.2.1 y.1.2.2.1 y.1.2.2.2.1, fun _ _ => none⟩] := by kernel_rfl
theorem dec_count.h2 : (fun k (x : El (.cons .str .nil)) => dec_count.nf k x.1) = fun k x => mainK dec_count.E Tryd.f47 (.cons .str .nil) k x := by kernel_rfl
theorem dec_count.bl0 (k : Nat) (x3 : Int) (x7 : List Int) (x8 : Int) (x9 : Int) : Lo (dec_count.l0 (k + 1) x3 x7 x8 x9) (dec_count.nl0 k x3 x7 x8 x9) := by
  rw [dec_count.l0]
  unfold dec_count.nl0
  try simp only [Bool.false_xor, Bool.true_xor, wu8_64, wu8_u64, byL_nums, btS_bt, nil_tl, beq_decL, beq_decI]
  repeat' first
    | (with_reducible exact lo_refl _)
    | exact lo_none _
    | (with_reducible refine lo_lpos (by first | assumption | decide) ?_)
    | (with_reducible refine lo_lneg (by first | assumption | decide) ?_)
    | (with_reducible refine lo_ite (fun _ => ?_) (fun _ => ?_))
    | (with_reducible refine lo_bind (fun _ => ?_))
    | (with_reducible refine lo_left ?_)
    | (refine lo_neg (by decide) ?_)
    | (refine lo_pos (by first | assumption | omega) ?_)
    | (refine lo_neg (by first | assumption | omega) ?_)
    | (with_reducible refine lo_test (fun _ => by first | assumption | omega | (simp only [List.length_cons, List.length_nil]; omega) | decide) (fun _ => ?_))
    | (with_reducible refine lo_testn (fun _ => by first | assumption | omega) (fun _ => ?_))
    | (with_reducible refine lo_and (fun z => by first | exact z.1 | omega) (fun z => by first | exact z.2 | omega) (fun _ => ?_))
    | exact lo_refl _
    | (with_reducible refine lo_iff (by first | exact Iff.rfl | omega | (simp; done) | decide) (fun _ => ?_) (fun _ => ?_))
    | (with_reducible refine lo_iffn (by first | exact Iff.rfl | omega | (simp; done) | decide) (fun _ => ?_) (fun _ => ?_))
    | refine lo_ite (fun _ => ?_) (fun _ => ?_)
    | refine lo_bind (fun _ => ?_)
    | (refine lo_some ?_; first | rfl | (rw [Bool.false_xor]; rfl) | (rw [Bool.true_xor]; rfl) | (simp only [Bool.and_true]; rfl) | (simp; done))
    | (simp only [Int.zero_sub]; exact lo_refl _)
    | (with_reducible refine lo_lpos (by omega) ?_)
    | (with_reducible refine lo_lneg (by omega) ?_)
    | (with_reducible refine lo_lite (fun _ => ?_) (fun _ => ?_))
    | (with_reducible refine lo_rite (fun _ => ?_) (fun _ => ?_))
  all_goals (exfalso; first | omega | (simp_all; done) | (simp_all; omega))
set_option maxHeartbeats 2000000 in
theorem dec_count.bf (k : Nat) (a0 : ByteArray) : Lo (dec_count.f k a0) (dec_count.nf k a0) := by
  unfold dec_count.f dec_count.nf
  refine lo_lite (fun _ => ?_) (fun _ => lo_none _)
  unfold dec_count.g
  try simp only [Bool.false_xor, Bool.true_xor, wu8_64, wu8_u64, byL_nums, btS_bt, nil_tl, beq_decL, beq_decI]
  repeat' first
    | (with_reducible exact lo_refl _)
    | exact lo_none _
    | (with_reducible refine lo_lpos (by first | assumption | decide) ?_)
    | (with_reducible refine lo_lneg (by first | assumption | decide) ?_)
    | (with_reducible refine lo_ite (fun _ => ?_) (fun _ => ?_))
    | (with_reducible refine lo_bind (fun _ => ?_))
    | (with_reducible refine lo_left ?_)
    | (refine lo_neg (by decide) ?_)
    | (refine lo_pos (by first | assumption | omega) ?_)
    | (refine lo_neg (by first | assumption | omega) ?_)
    | (with_reducible refine lo_test (fun _ => by first | assumption | omega | (simp only [List.length_cons, List.length_nil]; omega) | decide) (fun _ => ?_))
    | (with_reducible refine lo_testn (fun _ => by first | assumption | omega) (fun _ => ?_))
    | (with_reducible refine lo_and (fun z => by first | exact z.1 | omega) (fun z => by first | exact z.2 | omega) (fun _ => ?_))
    | exact lo_refl _
    | (with_reducible refine lo_iff (by first | exact Iff.rfl | omega | (simp; done) | decide) (fun _ => ?_) (fun _ => ?_))
    | (with_reducible refine lo_iffn (by first | exact Iff.rfl | omega | (simp; done) | decide) (fun _ => ?_) (fun _ => ?_))
    | refine lo_ite (fun _ => ?_) (fun _ => ?_)
    | refine lo_bind (fun _ => ?_)
    | (refine lo_some ?_; first | rfl | (rw [Bool.false_xor]; rfl) | (rw [Bool.true_xor]; rfl) | (simp only [Bool.and_true]; rfl) | (simp; done))
    | (simp only [Int.zero_sub]; exact lo_refl _)
    | (with_reducible refine lo_lpos (by omega) ?_)
    | (with_reducible refine lo_lneg (by omega) ?_)
    | (with_reducible refine lo_lite (fun _ => ?_) (fun _ => ?_))
    | (with_reducible refine lo_rite (fun _ => ?_) (fun _ => ?_))
  all_goals (exfalso; first | omega | (simp_all; done) | (simp_all; omega))
theorem dec_count.al : AllLe (obls dec_count.E Tryd.f47) := by
  rw [dec_count.h1]
  exact (.cons (fun k y r h => dec_count.bl0 k y.1.1 y.1.2.1 y.1.2.2.1 y.1.2.2.2.1 r h) (.cons (fun _ y r h => by simp [dec_count.l0] at h) .nil))
theorem dec_count.ok : CalleeOk Tryd.prog 47 dec_count.c := fn_ok tabOk mixed (fun _ => rfl) Tryd.func47 rfl (by kernel_rfl) ok_nil dec_count.al (fun k x r h => (congrFun (congrFun dec_count.h2 k) x).symm.trans (dec_count.bf k _ r h))
def pair_held.c : Sym.Callee := ⟨(.cons (.int .i64) .nil), (.int .i64), false, Int, fun k x => pair_held.f x.1, fun z => z, []⟩
def pair_held.nf (k : Nat) (a0 : Int) : Option (Int) := (some (if (128 : Int) < (if a0 < (0 : Int) then (0 : Int) else a0) then (128 : Int) else (if a0 < (0 : Int) then (0 : Int) else a0)))
noncomputable def pair_held.E : Env (Int) := envOf tab Tryd.f102 false (.int .i64) [] (fun y => y) [] [] []
theorem pair_held.h1 : obls pair_held.E Tryd.f102 = [] := by kernel_rfl
theorem pair_held.h2 : (fun k (x : El (.cons (.int .i64) .nil)) => pair_held.nf k x.1) = fun k x => mainK pair_held.E Tryd.f102 (.cons (.int .i64) .nil) k x := by kernel_rfl
set_option maxHeartbeats 2000000 in
theorem pair_held.bf (k : Nat) (a0 : Int) : Lo (pair_held.f a0) (pair_held.nf k a0) := by
  unfold pair_held.f pair_held.nf
  try simp only [Bool.false_xor, Bool.true_xor, wu8_64, wu8_u64, byL_nums, btS_bt, nil_tl, beq_decL, beq_decI]
  repeat' first
    | (with_reducible exact lo_refl _)
    | exact lo_none _
    | (with_reducible refine lo_lpos (by first | assumption | decide) ?_)
    | (with_reducible refine lo_lneg (by first | assumption | decide) ?_)
    | (with_reducible refine lo_ite (fun _ => ?_) (fun _ => ?_))
    | (with_reducible refine lo_bind (fun _ => ?_))
    | (with_reducible refine lo_left ?_)
    | (refine lo_neg (by decide) ?_)
    | (refine lo_pos (by first | assumption | omega) ?_)
    | (refine lo_neg (by first | assumption | omega) ?_)
    | (with_reducible refine lo_test (fun _ => by first | assumption | omega | (simp only [List.length_cons, List.length_nil]; omega) | decide) (fun _ => ?_))
    | (with_reducible refine lo_testn (fun _ => by first | assumption | omega) (fun _ => ?_))
    | (with_reducible refine lo_and (fun z => by first | exact z.1 | omega) (fun z => by first | exact z.2 | omega) (fun _ => ?_))
    | exact lo_refl _
    | (with_reducible refine lo_iff (by first | exact Iff.rfl | omega | (simp; done) | decide) (fun _ => ?_) (fun _ => ?_))
    | (with_reducible refine lo_iffn (by first | exact Iff.rfl | omega | (simp; done) | decide) (fun _ => ?_) (fun _ => ?_))
    | refine lo_ite (fun _ => ?_) (fun _ => ?_)
    | refine lo_bind (fun _ => ?_)
    | (refine lo_some ?_; first | rfl | (rw [Bool.false_xor]; rfl) | (rw [Bool.true_xor]; rfl) | (simp only [Bool.and_true]; rfl) | (simp; done))
    | (simp only [Int.zero_sub]; exact lo_refl _)
    | (with_reducible refine lo_lpos (by omega) ?_)
    | (with_reducible refine lo_lneg (by omega) ?_)
    | (with_reducible refine lo_lite (fun _ => ?_) (fun _ => ?_))
    | (with_reducible refine lo_rite (fun _ => ?_) (fun _ => ?_))
  all_goals (exfalso; first | omega | (simp_all; done) | (simp_all; omega))
theorem pair_held.al : AllLe (obls pair_held.E Tryd.f102) := by
  rw [pair_held.h1]
  exact .nil
theorem pair_held.ok : CalleeOk Tryd.prog 102 pair_held.c := fn_ok tabOk mixed (fun _ => rfl) Tryd.func102 rfl (by kernel_rfl) ok_nil pair_held.al (fun k x r h => (congrFun (congrFun pair_held.h2 k) x).symm.trans (pair_held.bf k _ r h))
def pair_Shr.c : Sym.Callee := ⟨(.cons (.cons (.int .u64) (.cons (.int .u64) .nil)) (.cons (.int .i64) .nil)), (.cons (.int .u64) (.cons (.int .u64) .nil)), false, Int × Int, fun k x => pair_Shr.f x.1.1 x.1.2.1 x.2.1, fun z => (z.1, z.2, ()), []⟩
def pair_Shr.nf (k : Nat) (a0_0 : Int) (a0_1 : Int) (a1 : Int) : Option (Int × Int) := ((pair_held.f a1).bind fun t1 => (if (IntKind.wrap .u64 (t1)) ≥ (64 : Int) then (if 0 ≤ (0 : Int) then (if (0 : Int) < ((2 : Nat) : Int) then (if (IntKind.wrap .u64 ((IntKind.wrap .u64 (t1)) - (64 : Int))) < 0 then none else (some ((0 : Int), (a0_0 / 2 ^ (min ((IntKind.wrap .u64 ((IntKind.wrap .u64 (t1)) - (64 : Int)))).toNat 64))))) else none) else none) else (if 0 ≤ (0 : Int) then (if (0 : Int) < ((2 : Nat) : Int) then (if (IntKind.wrap .u64 (t1)) < 0 then none else (if 0 ≤ (1 : Int) then (if (1 : Int) < ((2 : Nat) : Int) then (if (IntKind.wrap .u64 (t1)) < 0 then none else (if 0 ≤ (0 : Int) then (if (0 : Int) < ((2 : Nat) : Int) then (if (IntKind.wrap .u64 ((64 : Int) - (IntKind.wrap .u64 (t1)))) < 0 then none else (some ((a0_0 / 2 ^ (min ((IntKind.wrap .u64 (t1))).toNat 64)), (Go.bits .or .u64 (a0_1 / 2 ^ (min ((IntKind.wrap .u64 (t1))).toNat 64)) (IntKind.wrap .u64 (a0_0 * 2 ^ (min ((IntKind.wrap .u64 ((64 : Int) - (IntKind.wrap .u64 (t1))))).toNat 64))))))) else none) else none)) else none) else none)) else none) else none)))
noncomputable def pair_Shr.E : Env (Int × Int) := envOf tab Tryd.f103 false (.cons (.int .u64) (.cons (.int .u64) .nil)) [] (fun y => (y.1, y.2.1)) [(102, pair_held.c)] [] []
theorem pair_Shr.h1 : obls pair_Shr.E Tryd.f103 = [] := by kernel_rfl
theorem pair_Shr.h2 : (fun k (x : El (.cons (.cons (.int .u64) (.cons (.int .u64) .nil)) (.cons (.int .i64) .nil))) => pair_Shr.nf k x.1.1 x.1.2.1 x.2.1) = fun k x => mainK pair_Shr.E Tryd.f103 (.cons (.cons (.int .u64) (.cons (.int .u64) .nil)) (.cons (.int .i64) .nil)) k x := by kernel_rfl
set_option maxHeartbeats 2000000 in
theorem pair_Shr.bf (k : Nat) (a0_0 : Int) (a0_1 : Int) (a1 : Int) : Lo (pair_Shr.f a0_0 a0_1 a1) (pair_Shr.nf k a0_0 a0_1 a1) := by
  unfold pair_Shr.f pair_Shr.nf
  try simp only [Bool.false_xor, Bool.true_xor, wu8_64, wu8_u64, byL_nums, btS_bt, nil_tl, beq_decL, beq_decI]
  repeat' first
    | (with_reducible exact lo_refl _)
    | exact lo_none _
    | (with_reducible refine lo_lpos (by first | assumption | decide) ?_)
    | (with_reducible refine lo_lneg (by first | assumption | decide) ?_)
    | (with_reducible refine lo_ite (fun _ => ?_) (fun _ => ?_))
    | (with_reducible refine lo_bind (fun _ => ?_))
    | (with_reducible refine lo_left ?_)
    | (refine lo_neg (by decide) ?_)
    | (refine lo_pos (by first | assumption | omega) ?_)
    | (refine lo_neg (by first | assumption | omega) ?_)
    | (with_reducible refine lo_test (fun _ => by first | assumption | omega | (simp only [List.length_cons, List.length_nil]; omega) | decide) (fun _ => ?_))
    | (with_reducible refine lo_testn (fun _ => by first | assumption | omega) (fun _ => ?_))
    | (with_reducible refine lo_and (fun z => by first | exact z.1 | omega) (fun z => by first | exact z.2 | omega) (fun _ => ?_))
    | exact lo_refl _
    | (with_reducible refine lo_iff (by first | exact Iff.rfl | omega | (simp; done) | decide) (fun _ => ?_) (fun _ => ?_))
    | (with_reducible refine lo_iffn (by first | exact Iff.rfl | omega | (simp; done) | decide) (fun _ => ?_) (fun _ => ?_))
    | refine lo_ite (fun _ => ?_) (fun _ => ?_)
    | refine lo_bind (fun _ => ?_)
    | (refine lo_some ?_; first | rfl | (rw [Bool.false_xor]; rfl) | (rw [Bool.true_xor]; rfl) | (simp only [Bool.and_true]; rfl) | (simp; done))
    | (simp only [Int.zero_sub]; exact lo_refl _)
    | (with_reducible refine lo_lpos (by omega) ?_)
    | (with_reducible refine lo_lneg (by omega) ?_)
    | (with_reducible refine lo_lite (fun _ => ?_) (fun _ => ?_))
    | (with_reducible refine lo_rite (fun _ => ?_) (fun _ => ?_))
  all_goals (exfalso; first | omega | (simp_all; done) | (simp_all; omega))
theorem pair_Shr.al : AllLe (obls pair_Shr.E Tryd.f103) := by
  rw [pair_Shr.h1]
  exact .nil
theorem pair_Shr.ok : CalleeOk Tryd.prog 103 pair_Shr.c := fn_ok tabOk mixed (fun _ => rfl) Tryd.func103 rfl (by kernel_rfl) (ok_cons pair_held.ok ok_nil) pair_Shr.al (fun k x r h => (congrFun (congrFun pair_Shr.h2 k) x).symm.trans (pair_Shr.bf k _ _ _ r h))
def pair_Shl.c : Sym.Callee := ⟨(.cons (.cons (.int .u64) (.cons (.int .u64) .nil)) (.cons (.int .i64) .nil)), (.cons (.cons (.int .u64) (.cons (.int .u64) .nil)) (.cons .bool .nil)), true, Int × Int × Bool, fun k x => pair_Shl.f x.1.1 x.1.2.1 x.2.1, fun z => ((z.1, z.2.1, ()), z.2.2, ()), []⟩
def pair_Shl.nf (k : Nat) (a0_0 : Int) (a0_1 : Int) (a1 : Int) : Option (Int × Int × Bool) := ((pair_held.f a1).bind fun t1 => (if 0 ≤ (0 : Int) then (if (0 : Int) < ((2 : Nat) : Int) then (if (IntKind.wrap .u64 (t1)) < 0 then none else (if 0 ≤ (1 : Int) then (if (1 : Int) < ((2 : Nat) : Int) then (if (IntKind.wrap .u64 ((64 : Int) - (IntKind.wrap .u64 (t1)))) < 0 then none else (if 0 ≤ (1 : Int) then (if (1 : Int) < ((2 : Nat) : Int) then (if (IntKind.wrap .u64 (t1)) < 0 then none else (if (IntKind.wrap .u64 (t1)) ≥ (64 : Int) then (if 0 ≤ (1 : Int) then (if (1 : Int) < ((2 : Nat) : Int) then (if (IntKind.wrap .u64 ((IntKind.wrap .u64 (t1)) - (64 : Int))) < 0 then none else ((pair_Shr.f (IntKind.wrap .u64 (a0_1 * 2 ^ (min ((IntKind.wrap .u64 ((IntKind.wrap .u64 (t1)) - (64 : Int)))).toNat 64))) (0 : Int) a1).bind fun t2 => (some ((IntKind.wrap .u64 (a0_1 * 2 ^ (min ((IntKind.wrap .u64 ((IntKind.wrap .u64 (t1)) - (64 : Int)))).toNat 64))), (0 : Int), ((decide (t2.1 = a0_0)) && ((decide (t2.2 = a0_1)) && true)))))) else none) else none) else ((pair_Shr.f (Go.bits .or .u64 (IntKind.wrap .u64 (a0_0 * 2 ^ (min ((IntKind.wrap .u64 (t1))).toNat 64))) (a0_1 / 2 ^ (min ((IntKind.wrap .u64 ((64 : Int) - (IntKind.wrap .u64 (t1))))).toNat 64))) (IntKind.wrap .u64 (a0_1 * 2 ^ (min ((IntKind.wrap .u64 (t1))).toNat 64))) a1).bind fun t3 => (some ((Go.bits .or .u64 (IntKind.wrap .u64 (a0_0 * 2 ^ (min ((IntKind.wrap .u64 (t1))).toNat 64))) (a0_1 / 2 ^ (min ((IntKind.wrap .u64 ((64 : Int) - (IntKind.wrap .u64 (t1))))).toNat 64))), (IntKind.wrap .u64 (a0_1 * 2 ^ (min ((IntKind.wrap .u64 (t1))).toNat 64))), ((decide (t3.1 = a0_0)) && ((decide (t3.2 = a0_1)) && true))))))) else none) else none)) else none) else none)) else none) else none))
noncomputable def pair_Shl.E : Env (Int × Int × Bool) := envOf tab Tryd.f79 true (.cons (.cons (.int .u64) (.cons (.int .u64) .nil)) (.cons .bool .nil)) [] (fun y => (y.1.1, y.1.2.1, y.2.1)) [(102, pair_held.c), (103, pair_Shr.c)] [] []
theorem pair_Shl.h1 : obls pair_Shl.E Tryd.f79 = [] := by kernel_rfl
theorem pair_Shl.h2 : (fun k (x : El (.cons (.cons (.int .u64) (.cons (.int .u64) .nil)) (.cons (.int .i64) .nil))) => pair_Shl.nf k x.1.1 x.1.2.1 x.2.1) = fun k x => mainK pair_Shl.E Tryd.f79 (.cons (.cons (.int .u64) (.cons (.int .u64) .nil)) (.cons (.int .i64) .nil)) k x := by kernel_rfl
set_option maxHeartbeats 2000000 in
theorem pair_Shl.bf (k : Nat) (a0_0 : Int) (a0_1 : Int) (a1 : Int) : Lo (pair_Shl.f a0_0 a0_1 a1) (pair_Shl.nf k a0_0 a0_1 a1) := by
  unfold pair_Shl.f pair_Shl.nf
  try simp only [Bool.false_xor, Bool.true_xor, wu8_64, wu8_u64, byL_nums, btS_bt, nil_tl, beq_decL, beq_decI]
  repeat' first
    | (with_reducible exact lo_refl _)
    | exact lo_none _
    | (with_reducible refine lo_lpos (by first | assumption | decide) ?_)
    | (with_reducible refine lo_lneg (by first | assumption | decide) ?_)
    | (with_reducible refine lo_ite (fun _ => ?_) (fun _ => ?_))
    | (with_reducible refine lo_bind (fun _ => ?_))
    | (with_reducible refine lo_left ?_)
    | (refine lo_neg (by decide) ?_)
    | (refine lo_pos (by first | assumption | omega) ?_)
    | (refine lo_neg (by first | assumption | omega) ?_)
    | (with_reducible refine lo_test (fun _ => by first | assumption | omega | (simp only [List.length_cons, List.length_nil]; omega) | decide) (fun _ => ?_))
    | (with_reducible refine lo_testn (fun _ => by first | assumption | omega) (fun _ => ?_))
    | (with_reducible refine lo_and (fun z => by first | exact z.1 | omega) (fun z => by first | exact z.2 | omega) (fun _ => ?_))
    | exact lo_refl _
    | (with_reducible refine lo_iff (by first | exact Iff.rfl | omega | (simp; done) | decide) (fun _ => ?_) (fun _ => ?_))
    | (with_reducible refine lo_iffn (by first | exact Iff.rfl | omega | (simp; done) | decide) (fun _ => ?_) (fun _ => ?_))
    | refine lo_ite (fun _ => ?_) (fun _ => ?_)
    | refine lo_bind (fun _ => ?_)
    | (refine lo_some ?_; first | rfl | (rw [Bool.false_xor]; rfl) | (rw [Bool.true_xor]; rfl) | (simp only [Bool.and_true]; rfl) | (simp; done))
    | (simp only [Int.zero_sub]; exact lo_refl _)
    | (with_reducible refine lo_lpos (by omega) ?_)
    | (with_reducible refine lo_lneg (by omega) ?_)
    | (with_reducible refine lo_lite (fun _ => ?_) (fun _ => ?_))
    | (with_reducible refine lo_rite (fun _ => ?_) (fun _ => ?_))
  all_goals (exfalso; first | omega | (simp_all; done) | (simp_all; omega))
theorem pair_Shl.al : AllLe (obls pair_Shl.E Tryd.f79) := by
  rw [pair_Shl.h1]
  exact .nil
theorem pair_Shl.ok : CalleeOk Tryd.prog 79 pair_Shl.c := fn_ok tabOk mixed (fun _ => rfl) Tryd.func79 rfl (by kernel_rfl) (ok_cons pair_held.ok (ok_cons pair_Shr.ok ok_nil)) pair_Shl.al (fun k x r h => (congrFun (congrFun pair_Shl.h2 k) x).symm.trans (pair_Shl.bf k _ _ _ r h))
def dec_power.c : Sym.Callee := ⟨(.cons (.int .i64) .nil), (.int .u64), false, Int, fun k x => dec_power.f k x.1, fun z => z, []⟩
def dec_power.nl0 (k : Nat) (x3 : Int) (x4 : Int) (x5 : Int) : Option (Int) := (if x5 < x4 then (dec_power.l0 k (IntKind.wrap .u64 (x3 * (10 : Int))) x4 (wrap64 (x5 + (1 : Int)))) else (some x3))
def dec_power.nf (k : Nat) (a0 : Int) : Option (Int) := (dec_power.l0 k (1 : Int) a0 (0 : Int))
noncomputable def dec_power.E : Env (Int) := envOf tab Tryd.f72 false (.int .u64) [] (fun y => y) [] [⟨3, ⟨11, [(3, (.int .u64), []), (4, (.int .i64), []), (5, (.int .i64), [])], [], []⟩, fun k y => dec_power.l0 k y.1.1 y.1.2.1 y.1.2.2.1⟩] []
theorem dec_power.h1 : obls dec_power.E Tryd.f72 = [⟨(.cons (.cons (.int .u64) (.cons (.int .i64) (.cons (.int .i64) .nil))) (.cons .nil (.cons .nil .nil))), fun k y => dec_power.l0 (k + 1) y.1.1 y.1.2.1 y.1.2.2.1, fun k y => dec_power.nl0 k y.1.1 y.1.2.1 y.1.2.2.1⟩, ⟨(.cons (.cons (.int .u64) (.cons (.int .i64) (.cons (.int .i64) .nil))) (.cons .nil (.cons .nil .nil))), fun _ y => dec_power.l0 0 y.1.1 y.1.2.1 y.1.2.2.1, fun _ _ => none⟩] := by kernel_rfl
theorem dec_power.h2 : (fun k (x : El (.cons (.int .i64) .nil)) => dec_power.nf k x.1) = fun k x => mainK dec_power.E Tryd.f72 (.cons (.int .i64) .nil) k x := by kernel_rfl
theorem dec_power.bl0 (k : Nat) (x3 : Int) (x4 : Int) (x5 : Int) : Lo (dec_power.l0 (k + 1) x3 x4 x5) (dec_power.nl0 k x3 x4 x5) := by
  rw [dec_power.l0]
  unfold dec_power.nl0
  try simp only [Bool.false_xor, Bool.true_xor, wu8_64, wu8_u64, byL_nums, btS_bt, nil_tl, beq_decL, beq_decI]
  repeat' first
    | (with_reducible exact lo_refl _)
    | exact lo_none _
    | (with_reducible refine lo_lpos (by first | assumption | decide) ?_)
    | (with_reducible refine lo_lneg (by first | assumption | decide) ?_)
    | (with_reducible refine lo_ite (fun _ => ?_) (fun _ => ?_))
    | (with_reducible refine lo_bind (fun _ => ?_))
    | (with_reducible refine lo_left ?_)
    | (refine lo_neg (by decide) ?_)
    | (refine lo_pos (by first | assumption | omega) ?_)
    | (refine lo_neg (by first | assumption | omega) ?_)
    | (with_reducible refine lo_test (fun _ => by first | assumption | omega | (simp only [List.length_cons, List.length_nil]; omega) | decide) (fun _ => ?_))
    | (with_reducible refine lo_testn (fun _ => by first | assumption | omega) (fun _ => ?_))
    | (with_reducible refine lo_and (fun z => by first | exact z.1 | omega) (fun z => by first | exact z.2 | omega) (fun _ => ?_))
    | exact lo_refl _
    | (with_reducible refine lo_iff (by first | exact Iff.rfl | omega | (simp; done) | decide) (fun _ => ?_) (fun _ => ?_))
    | (with_reducible refine lo_iffn (by first | exact Iff.rfl | omega | (simp; done) | decide) (fun _ => ?_) (fun _ => ?_))
    | refine lo_ite (fun _ => ?_) (fun _ => ?_)
    | refine lo_bind (fun _ => ?_)
    | (refine lo_some ?_; first | rfl | (rw [Bool.false_xor]; rfl) | (rw [Bool.true_xor]; rfl) | (simp only [Bool.and_true]; rfl) | (simp; done))
    | (simp only [Int.zero_sub]; exact lo_refl _)
    | (with_reducible refine lo_lpos (by omega) ?_)
    | (with_reducible refine lo_lneg (by omega) ?_)
    | (with_reducible refine lo_lite (fun _ => ?_) (fun _ => ?_))
    | (with_reducible refine lo_rite (fun _ => ?_) (fun _ => ?_))
  all_goals (exfalso; first | omega | (simp_all; done) | (simp_all; omega))
set_option maxHeartbeats 2000000 in
theorem dec_power.bf (k : Nat) (a0 : Int) : Lo (dec_power.f k a0) (dec_power.nf k a0) := by
  unfold dec_power.f dec_power.nf
  try simp only [Bool.false_xor, Bool.true_xor, wu8_64, wu8_u64, byL_nums, btS_bt, nil_tl, beq_decL, beq_decI]
  repeat' first
    | (with_reducible exact lo_refl _)
    | exact lo_none _
    | (with_reducible refine lo_lpos (by first | assumption | decide) ?_)
    | (with_reducible refine lo_lneg (by first | assumption | decide) ?_)
    | (with_reducible refine lo_ite (fun _ => ?_) (fun _ => ?_))
    | (with_reducible refine lo_bind (fun _ => ?_))
    | (with_reducible refine lo_left ?_)
    | (refine lo_neg (by decide) ?_)
    | (refine lo_pos (by first | assumption | omega) ?_)
    | (refine lo_neg (by first | assumption | omega) ?_)
    | (with_reducible refine lo_test (fun _ => by first | assumption | omega | (simp only [List.length_cons, List.length_nil]; omega) | decide) (fun _ => ?_))
    | (with_reducible refine lo_testn (fun _ => by first | assumption | omega) (fun _ => ?_))
    | (with_reducible refine lo_and (fun z => by first | exact z.1 | omega) (fun z => by first | exact z.2 | omega) (fun _ => ?_))
    | exact lo_refl _
    | (with_reducible refine lo_iff (by first | exact Iff.rfl | omega | (simp; done) | decide) (fun _ => ?_) (fun _ => ?_))
    | (with_reducible refine lo_iffn (by first | exact Iff.rfl | omega | (simp; done) | decide) (fun _ => ?_) (fun _ => ?_))
    | refine lo_ite (fun _ => ?_) (fun _ => ?_)
    | refine lo_bind (fun _ => ?_)
    | (refine lo_some ?_; first | rfl | (rw [Bool.false_xor]; rfl) | (rw [Bool.true_xor]; rfl) | (simp only [Bool.and_true]; rfl) | (simp; done))
    | (simp only [Int.zero_sub]; exact lo_refl _)
    | (with_reducible refine lo_lpos (by omega) ?_)
    | (with_reducible refine lo_lneg (by omega) ?_)
    | (with_reducible refine lo_lite (fun _ => ?_) (fun _ => ?_))
    | (with_reducible refine lo_rite (fun _ => ?_) (fun _ => ?_))
  all_goals (exfalso; first | omega | (simp_all; done) | (simp_all; omega))
theorem dec_power.al : AllLe (obls dec_power.E Tryd.f72) := by
  rw [dec_power.h1]
  exact (.cons (fun k y r h => dec_power.bl0 k y.1.1 y.1.2.1 y.1.2.2.1 r h) (.cons (fun _ y r h => by simp [dec_power.l0] at h) .nil))
theorem dec_power.ok : CalleeOk Tryd.prog 72 dec_power.c := fn_ok tabOk mixed (fun _ => rfl) Tryd.func72 rfl (by kernel_rfl) ok_nil dec_power.al (fun k x r h => (congrFun (congrFun dec_power.h2 k) x).symm.trans (dec_power.bf k _ r h))
def bits_Len64.c : Sym.Callee := ⟨(.cons (.int .u64) .nil), (.int .i64), false, Int, fun k x => bits_Len64.f k x.1, fun z => z, []⟩
def bits_Len64.nj0 (k : Nat) (x0 : Int) (x2 : Int) : Option (Int) := (if x0 ≥ (65536 : Int) then (if (16 : Int) < 0 then none else (if (x0 / 2 ^ (min ((16 : Int)).toNat 64)) ≥ (256 : Int) then (if (8 : Int) < 0 then none else (if 0 ≤ (IntKind.wrap .u8 (((x0 / 2 ^ (min ((16 : Int)).toNat 64)) / 2 ^ (min ((8 : Int)).toNat 64)))) then (if (IntKind.wrap .u8 (((x0 / 2 ^ (min ((16 : Int)).toNat 64)) / 2 ^ (min ((8 : Int)).toNat 64)))) < ((⟨#[0, 1, 2, 2, 3, 3, 3, 3, 4, 4, 4, 4, 4, 4, 4, 4, 5, 5, 5, 5, 5, 5, 5, 5, 5, 5, 5, 5, 5, 5, 5, 5, 6, 6, 6, 6, 6, 6, 6, 6, 6, 6, 6, 6, 6, 6, 6, 6, 6, 6, 6, 6, 6, 6, 6, 6, 6, 6, 6, 6, 6, 6, 6, 6, 7, 7, 7, 7, 7, 7, 7, 7, 7, 7, 7, 7, 7, 7, 7, 7, 7, 7, 7, 7, 7, 7, 7, 7, 7, 7, 7, 7, 7, 7, 7, 7, 7, 7, 7, 7, 7, 7, 7, 7, 7, 7, 7, 7, 7, 7, 7, 7, 7, 7, 7, 7, 7, 7, 7, 7, 7, 7, 7, 7, 7, 7, 7, 7, 8, 8, 8, 8, 8, 8, 8, 8, 8, 8, 8, 8, 8, 8, 8, 8, 8, 8, 8, 8, 8, 8, 8, 8, 8, 8, 8, 8, 8, 8, 8, 8, 8, 8, 8, 8, 8, 8, 8, 8, 8, 8, 8, 8, 8, 8, 8, 8, 8, 8, 8, 8, 8, 8, 8, 8, 8, 8, 8, 8, 8, 8, 8, 8, 8, 8, 8, 8, 8, 8, 8, 8, 8, 8, 8, 8, 8, 8, 8, 8, 8, 8, 8, 8, 8, 8, 8, 8, 8, 8, 8, 8, 8, 8, 8, 8, 8, 8, 8, 8, 8, 8, 8, 8, 8, 8, 8, 8, 8, 8, 8, 8, 8, 8, 8, 8, 8, 8, 8, 8, 8, 8, 8, 8, 8, 8, 8, 8]⟩ : ByteArray).size : Int) then (some (wrap64 ((wrap64 ((wrap64 (x2 + (16 : Int))) + (8 : Int))) + (wrap64 ((btS (⟨#[0, 1, 2, 2, 3, 3, 3, 3, 4, 4, 4, 4, 4, 4, 4, 4, 5, 5, 5, 5, 5, 5, 5, 5, 5, 5, 5, 5, 5, 5, 5, 5, 6, 6, 6, 6, 6, 6, 6, 6, 6, 6, 6, 6, 6, 6, 6, 6, 6, 6, 6, 6, 6, 6, 6, 6, 6, 6, 6, 6, 6, 6, 6, 6, 7, 7, 7, 7, 7, 7, 7, 7, 7, 7, 7, 7, 7, 7, 7, 7, 7, 7, 7, 7, 7, 7, 7, 7, 7, 7, 7, 7, 7, 7, 7, 7, 7, 7, 7, 7, 7, 7, 7, 7, 7, 7, 7, 7, 7, 7, 7, 7, 7, 7, 7, 7, 7, 7, 7, 7, 7, 7, 7, 7, 7, 7, 7, 7, 8, 8, 8, 8, 8, 8, 8, 8, 8, 8, 8, 8, 8, 8, 8, 8, 8, 8, 8, 8, 8, 8, 8, 8, 8, 8, 8, 8, 8, 8, 8, 8, 8, 8, 8, 8, 8, 8, 8, 8, 8, 8, 8, 8, 8, 8, 8, 8, 8, 8, 8, 8, 8, 8, 8, 8, 8, 8, 8, 8, 8, 8, 8, 8, 8, 8, 8, 8, 8, 8, 8, 8, 8, 8, 8, 8, 8, 8, 8, 8, 8, 8, 8, 8, 8, 8, 8, 8, 8, 8, 8, 8, 8, 8, 8, 8, 8, 8, 8, 8, 8, 8, 8, 8, 8, 8, 8, 8, 8, 8, 8, 8, 8, 8, 8, 8, 8, 8, 8, 8, 8, 8, 8, 8, 8, 8, 8, 8]⟩ : ByteArray) (IntKind.wrap .u8 (((x0 / 2 ^ (min ((16 : Int)).toNat 64)) / 2 ^ (min ((8 : Int)).toNat 64)))))))))) else none) else none)) else (if 0 ≤ (IntKind.wrap .u8 ((x0 / 2 ^ (min ((16 : Int)).toNat 64)))) then (if (IntKind.wrap .u8 ((x0 / 2 ^ (min ((16 : Int)).toNat 64)))) < ((⟨#[0, 1, 2, 2, 3, 3, 3, 3, 4, 4, 4, 4, 4, 4, 4, 4, 5, 5, 5, 5, 5, 5, 5, 5, 5, 5, 5, 5, 5, 5, 5, 5, 6, 6, 6, 6, 6, 6, 6, 6, 6, 6, 6, 6, 6, 6, 6, 6, 6, 6, 6, 6, 6, 6, 6, 6, 6, 6, 6, 6, 6, 6, 6, 6, 7, 7, 7, 7, 7, 7, 7, 7, 7, 7, 7, 7, 7, 7, 7, 7, 7, 7, 7, 7, 7, 7, 7, 7, 7, 7, 7, 7, 7, 7, 7, 7, 7, 7, 7, 7, 7, 7, 7, 7, 7, 7, 7, 7, 7, 7, 7, 7, 7, 7, 7, 7, 7, 7, 7, 7, 7, 7, 7, 7, 7, 7, 7, 7, 8, 8, 8, 8, 8, 8, 8, 8, 8, 8, 8, 8, 8, 8, 8, 8, 8, 8, 8, 8, 8, 8, 8, 8, 8, 8, 8, 8, 8, 8, 8, 8, 8, 8, 8, 8, 8, 8, 8, 8, 8, 8, 8, 8, 8, 8, 8, 8, 8, 8, 8, 8, 8, 8, 8, 8, 8, 8, 8, 8, 8, 8, 8, 8, 8, 8, 8, 8, 8, 8, 8, 8, 8, 8, 8, 8, 8, 8, 8, 8, 8, 8, 8, 8, 8, 8, 8, 8, 8, 8, 8, 8, 8, 8, 8, 8, 8, 8, 8, 8, 8, 8, 8, 8, 8, 8, 8, 8, 8, 8, 8, 8, 8, 8, 8, 8, 8, 8, 8, 8, 8, 8, 8, 8, 8, 8, 8, 8]⟩ : ByteArray).size : Int) then (some (wrap64 ((wrap64 (x2 + (16 : Int))) + (wrap64 ((btS (⟨#[0, 1, 2, 2, 3, 3, 3, 3, 4, 4, 4, 4, 4, 4, 4, 4, 5, 5, 5, 5, 5, 5, 5, 5, 5, 5, 5, 5, 5, 5, 5, 5, 6, 6, 6, 6, 6, 6, 6, 6, 6, 6, 6, 6, 6, 6, 6, 6, 6, 6, 6, 6, 6, 6, 6, 6, 6, 6, 6, 6, 6, 6, 6, 6, 7, 7, 7, 7, 7, 7, 7, 7, 7, 7, 7, 7, 7, 7, 7, 7, 7, 7, 7, 7, 7, 7, 7, 7, 7, 7, 7, 7, 7, 7, 7, 7, 7, 7, 7, 7, 7, 7, 7, 7, 7, 7, 7, 7, 7, 7, 7, 7, 7, 7, 7, 7, 7, 7, 7, 7, 7, 7, 7, 7, 7, 7, 7, 7, 8, 8, 8, 8, 8, 8, 8, 8, 8, 8, 8, 8, 8, 8, 8, 8, 8, 8, 8, 8, 8, 8, 8, 8, 8, 8, 8, 8, 8, 8, 8, 8, 8, 8, 8, 8, 8, 8, 8, 8, 8, 8, 8, 8, 8, 8, 8, 8, 8, 8, 8, 8, 8, 8, 8, 8, 8, 8, 8, 8, 8, 8, 8, 8, 8, 8, 8, 8, 8, 8, 8, 8, 8, 8, 8, 8, 8, 8, 8, 8, 8, 8, 8, 8, 8, 8, 8, 8, 8, 8, 8, 8, 8, 8, 8, 8, 8, 8, 8, 8, 8, 8, 8, 8, 8, 8, 8, 8, 8, 8, 8, 8, 8, 8, 8, 8, 8, 8, 8, 8, 8, 8, 8, 8, 8, 8, 8, 8]⟩ : ByteArray) (IntKind.wrap .u8 ((x0 / 2 ^ (min ((16 : Int)).toNat 64)))))))))) else none) else none))) else (if x0 ≥ (256 : Int) then (if (8 : Int) < 0 then none else (if 0 ≤ (IntKind.wrap .u8 ((x0 / 2 ^ (min ((8 : Int)).toNat 64)))) then (if (IntKind.wrap .u8 ((x0 / 2 ^ (min ((8 : Int)).toNat 64)))) < ((⟨#[0, 1, 2, 2, 3, 3, 3, 3, 4, 4, 4, 4, 4, 4, 4, 4, 5, 5, 5, 5, 5, 5, 5, 5, 5, 5, 5, 5, 5, 5, 5, 5, 6, 6, 6, 6, 6, 6, 6, 6, 6, 6, 6, 6, 6, 6, 6, 6, 6, 6, 6, 6, 6, 6, 6, 6, 6, 6, 6, 6, 6, 6, 6, 6, 7, 7, 7, 7, 7, 7, 7, 7, 7, 7, 7, 7, 7, 7, 7, 7, 7, 7, 7, 7, 7, 7, 7, 7, 7, 7, 7, 7, 7, 7, 7, 7, 7, 7, 7, 7, 7, 7, 7, 7, 7, 7, 7, 7, 7, 7, 7, 7, 7, 7, 7, 7, 7, 7, 7, 7, 7, 7, 7, 7, 7, 7, 7, 7, 8, 8, 8, 8, 8, 8, 8, 8, 8, 8, 8, 8, 8, 8, 8, 8, 8, 8, 8, 8, 8, 8, 8, 8, 8, 8, 8, 8, 8, 8, 8, 8, 8, 8, 8, 8, 8, 8, 8, 8, 8, 8, 8, 8, 8, 8, 8, 8, 8, 8, 8, 8, 8, 8, 8, 8, 8, 8, 8, 8, 8, 8, 8, 8, 8, 8, 8, 8, 8, 8, 8, 8, 8, 8, 8, 8, 8, 8, 8, 8, 8, 8, 8, 8, 8, 8, 8, 8, 8, 8, 8, 8, 8, 8, 8, 8, 8, 8, 8, 8, 8, 8, 8, 8, 8, 8, 8, 8, 8, 8, 8, 8, 8, 8, 8, 8, 8, 8, 8, 8, 8, 8, 8, 8, 8, 8, 8, 8]⟩ : ByteArray).size : Int) then (some (wrap64 ((wrap64 (x2 + (8 : Int))) + (wrap64 ((btS (⟨#[0, 1, 2, 2, 3, 3, 3, 3, 4, 4, 4, 4, 4, 4, 4, 4, 5, 5, 5, 5, 5, 5, 5, 5, 5, 5, 5, 5, 5, 5, 5, 5, 6, 6, 6, 6, 6, 6, 6, 6, 6, 6, 6, 6, 6, 6, 6, 6, 6, 6, 6, 6, 6, 6, 6, 6, 6, 6, 6, 6, 6, 6, 6, 6, 7, 7, 7, 7, 7, 7, 7, 7, 7, 7, 7, 7, 7, 7, 7, 7, 7, 7, 7, 7, 7, 7, 7, 7, 7, 7, 7, 7, 7, 7, 7, 7, 7, 7, 7, 7, 7, 7, 7, 7, 7, 7, 7, 7, 7, 7, 7, 7, 7, 7, 7, 7, 7, 7, 7, 7, 7, 7, 7, 7, 7, 7, 7, 7, 8, 8, 8, 8, 8, 8, 8, 8, 8, 8, 8, 8, 8, 8, 8, 8, 8, 8, 8, 8, 8, 8, 8, 8, 8, 8, 8, 8, 8, 8, 8, 8, 8, 8, 8, 8, 8, 8, 8, 8, 8, 8, 8, 8, 8, 8, 8, 8, 8, 8, 8, 8, 8, 8, 8, 8, 8, 8, 8, 8, 8, 8, 8, 8, 8, 8, 8, 8, 8, 8, 8, 8, 8, 8, 8, 8, 8, 8, 8, 8, 8, 8, 8, 8, 8, 8, 8, 8, 8, 8, 8, 8, 8, 8, 8, 8, 8, 8, 8, 8, 8, 8, 8, 8, 8, 8, 8, 8, 8, 8, 8, 8, 8, 8, 8, 8, 8, 8, 8, 8, 8, 8, 8, 8, 8, 8, 8, 8]⟩ : ByteArray) (IntKind.wrap .u8 ((x0 / 2 ^ (min ((8 : Int)).toNat 64)))))))))) else none) else none)) else (if 0 ≤ (IntKind.wrap .u8 (x0)) then (if (IntKind.wrap .u8 (x0)) < ((⟨#[0, 1, 2, 2, 3, 3, 3, 3, 4, 4, 4, 4, 4, 4, 4, 4, 5, 5, 5, 5, 5, 5, 5, 5, 5, 5, 5, 5, 5, 5, 5, 5, 6, 6, 6, 6, 6, 6, 6, 6, 6, 6, 6, 6, 6, 6, 6, 6, 6, 6, 6, 6, 6, 6, 6, 6, 6, 6, 6, 6, 6, 6, 6, 6, 7, 7, 7, 7, 7, 7, 7, 7, 7, 7, 7, 7, 7, 7, 7, 7, 7, 7, 7, 7, 7, 7, 7, 7, 7, 7, 7, 7, 7, 7, 7, 7, 7, 7, 7, 7, 7, 7, 7, 7, 7, 7, 7, 7, 7, 7, 7, 7, 7, 7, 7, 7, 7, 7, 7, 7, 7, 7, 7, 7, 7, 7, 7, 7, 8, 8, 8, 8, 8, 8, 8, 8, 8, 8, 8, 8, 8, 8, 8, 8, 8, 8, 8, 8, 8, 8, 8, 8, 8, 8, 8, 8, 8, 8, 8, 8, 8, 8, 8, 8, 8, 8, 8, 8, 8, 8, 8, 8, 8, 8, 8, 8, 8, 8, 8, 8, 8, 8, 8, 8, 8, 8, 8, 8, 8, 8, 8, 8, 8, 8, 8, 8, 8, 8, 8, 8, 8, 8, 8, 8, 8, 8, 8, 8, 8, 8, 8, 8, 8, 8, 8, 8, 8, 8, 8, 8, 8, 8, 8, 8, 8, 8, 8, 8, 8, 8, 8, 8, 8, 8, 8, 8, 8, 8, 8, 8, 8, 8, 8, 8, 8, 8, 8, 8, 8, 8, 8, 8, 8, 8, 8, 8]⟩ : ByteArray).size : Int) then (some (wrap64 (x2 + (wrap64 ((btS (⟨#[0, 1, 2, 2, 3, 3, 3, 3, 4, 4, 4, 4, 4, 4, 4, 4, 5, 5, 5, 5, 5, 5, 5, 5, 5, 5, 5, 5, 5, 5, 5, 5, 6, 6, 6, 6, 6, 6, 6, 6, 6, 6, 6, 6, 6, 6, 6, 6, 6, 6, 6, 6, 6, 6, 6, 6, 6, 6, 6, 6, 6, 6, 6, 6, 7, 7, 7, 7, 7, 7, 7, 7, 7, 7, 7, 7, 7, 7, 7, 7, 7, 7, 7, 7, 7, 7, 7, 7, 7, 7, 7, 7, 7, 7, 7, 7, 7, 7, 7, 7, 7, 7, 7, 7, 7, 7, 7, 7, 7, 7, 7, 7, 7, 7, 7, 7, 7, 7, 7, 7, 7, 7, 7, 7, 7, 7, 7, 7, 8, 8, 8, 8, 8, 8, 8, 8, 8, 8, 8, 8, 8, 8, 8, 8, 8, 8, 8, 8, 8, 8, 8, 8, 8, 8, 8, 8, 8, 8, 8, 8, 8, 8, 8, 8, 8, 8, 8, 8, 8, 8, 8, 8, 8, 8, 8, 8, 8, 8, 8, 8, 8, 8, 8, 8, 8, 8, 8, 8, 8, 8, 8, 8, 8, 8, 8, 8, 8, 8, 8, 8, 8, 8, 8, 8, 8, 8, 8, 8, 8, 8, 8, 8, 8, 8, 8, 8, 8, 8, 8, 8, 8, 8, 8, 8, 8, 8, 8, 8, 8, 8, 8, 8, 8, 8, 8, 8, 8, 8, 8, 8, 8, 8, 8, 8, 8, 8, 8, 8, 8, 8, 8, 8, 8, 8, 8, 8]⟩ : ByteArray) (IntKind.wrap .u8 (x0)))))))) else none) else none)))
def bits_Len64.nf (k : Nat) (a0 : Int) : Option (Int) := (if a0 ≥ (4294967296 : Int) then (if (32 : Int) < 0 then none else (bits_Len64.j0 k (a0 / 2 ^ (min ((32 : Int)).toNat 64)) (32 : Int))) else (bits_Len64.j0 k a0 (0 : Int)))
noncomputable def bits_Len64.E : Env (Int) := envOf tab Tryd.f124 false (.int .i64) [] (fun y => y) [] [] [⟨4, ⟨25, [(0, (.int .u64), []), (2, (.int .i64), [])], [], []⟩, fun k y => bits_Len64.j0 k y.1.1 y.1.2.1⟩]
theorem bits_Len64.h1 : obls bits_Len64.E Tryd.f124 = [⟨(.cons (.cons (.int .u64) (.cons (.int .i64) .nil)) (.cons .nil (.cons .nil .nil))), fun k y => bits_Len64.j0 (k + 1) y.1.1 y.1.2.1, fun k y => bits_Len64.nj0 k y.1.1 y.1.2.1⟩, ⟨(.cons (.cons (.int .u64) (.cons (.int .i64) .nil)) (.cons .nil (.cons .nil .nil))), fun _ y => bits_Len64.j0 0 y.1.1 y.1.2.1, fun _ _ => none⟩] := by kernel_rfl
theorem bits_Len64.h2 : (fun k (x : El (.cons (.int .u64) .nil)) => bits_Len64.nf k x.1) = fun k x => mainK bits_Len64.E Tryd.f124 (.cons (.int .u64) .nil) k x := by kernel_rfl
theorem len_p32 : (2 : Int) ^ (min ((32 : Int)).toNat 64) = 4294967296 := rfl
theorem len_p16 : (2 : Int) ^ (min ((16 : Int)).toNat 64) = 65536 := rfl
theorem len_p8 : (2 : Int) ^ (min ((8 : Int)).toNat 64) = 256 := rfl
theorem len_w8 (x : Int) : IntKind.wrap .u8 x = x % 256 := rfl
theorem len_bt (s : ByteArray) (i : Int) : btS s i = bt s i := rfl
theorem bits_Len64.bj0 (k : Nat) (x0 : Int) (x2 : Int) : Lo (bits_Len64.j0 (k + 1) x0 x2) (bits_Len64.nj0 k x0 x2) := by
  rw [bits_Len64.j0]
  unfold bits_Len64.nj0
  simp only [len_p32, len_p16, len_p8, len_w8, len_bt]
  try simp only [Bool.false_xor, Bool.true_xor, wu8_64, wu8_u64, byL_nums, btS_bt, nil_tl, beq_decL, beq_decI]
  repeat' first
    | (with_reducible exact lo_refl _)
    | exact lo_none _
    | (with_reducible refine lo_lpos (by first | assumption | decide) ?_)
    | (with_reducible refine lo_lneg (by first | assumption | decide) ?_)
    | (with_reducible refine lo_ite (fun _ => ?_) (fun _ => ?_))
    | (with_reducible refine lo_bind (fun _ => ?_))
    | (with_reducible refine lo_left ?_)
    | (refine lo_neg (by decide) ?_)
    | (refine lo_pos (by first | assumption | omega) ?_)
    | (refine lo_neg (by first | assumption | omega) ?_)
    | (refine lo_trans (fun r h => (bits_Len64.mono_l _) _ _ r h) ?_; rw [bits_Len64.j0]; try simp only [decide_eq_true_eq])
    | (with_reducible refine lo_test (fun _ => by first | assumption | omega | (simp only [List.length_cons, List.length_nil]; omega) | decide) (fun _ => ?_))
    | (with_reducible refine lo_testn (fun _ => by first | assumption | omega) (fun _ => ?_))
    | (with_reducible refine lo_and (fun z => by first | exact z.1 | omega) (fun z => by first | exact z.2 | omega) (fun _ => ?_))
    | exact lo_refl _
    | (with_reducible refine lo_iff (by first | exact Iff.rfl | omega | (simp; done) | decide) (fun _ => ?_) (fun _ => ?_))
    | (with_reducible refine lo_iffn (by first | exact Iff.rfl | omega | (simp; done) | decide) (fun _ => ?_) (fun _ => ?_))
    | refine lo_ite (fun _ => ?_) (fun _ => ?_)
    | refine lo_bind (fun _ => ?_)
    | (refine lo_some ?_; first | rfl | (rw [Bool.false_xor]; rfl) | (rw [Bool.true_xor]; rfl) | (simp only [Bool.and_true]; rfl) | (simp; done))
    | (simp only [Int.zero_sub]; exact lo_refl _)
    | (with_reducible refine lo_lpos (by omega) ?_)
    | (with_reducible refine lo_lneg (by omega) ?_)
    | (with_reducible refine lo_lite (fun _ => ?_) (fun _ => ?_))
    | (with_reducible refine lo_rite (fun _ => ?_) (fun _ => ?_))
  all_goals (exfalso; first | omega | (simp_all; done) | (simp_all; omega))
set_option maxHeartbeats 2000000 in
theorem bits_Len64.bf (k : Nat) (a0 : Int) : Lo (bits_Len64.f k a0) (bits_Len64.nf k a0) := by
  unfold bits_Len64.f bits_Len64.nf
  simp only [len_p32, len_p16, len_p8, len_w8, len_bt]
  try simp only [Bool.false_xor, Bool.true_xor, wu8_64, wu8_u64, byL_nums, btS_bt, nil_tl, beq_decL, beq_decI]
  repeat' first
    | (with_reducible exact lo_refl _)
    | exact lo_none _
    | (with_reducible refine lo_lpos (by first | assumption | decide) ?_)
    | (with_reducible refine lo_lneg (by first | assumption | decide) ?_)
    | (with_reducible refine lo_ite (fun _ => ?_) (fun _ => ?_))
    | (with_reducible refine lo_bind (fun _ => ?_))
    | (with_reducible refine lo_left ?_)
    | (refine lo_neg (by decide) ?_)
    | (refine lo_pos (by first | assumption | omega) ?_)
    | (refine lo_neg (by first | assumption | omega) ?_)
    | (refine lo_trans (fun r h => (bits_Len64.mono_l _) _ _ r h) ?_; rw [bits_Len64.j0]; try simp only [decide_eq_true_eq])
    | (with_reducible refine lo_test (fun _ => by first | assumption | omega | (simp only [List.length_cons, List.length_nil]; omega) | decide) (fun _ => ?_))
    | (with_reducible refine lo_testn (fun _ => by first | assumption | omega) (fun _ => ?_))
    | (with_reducible refine lo_and (fun z => by first | exact z.1 | omega) (fun z => by first | exact z.2 | omega) (fun _ => ?_))
    | exact lo_refl _
    | (with_reducible refine lo_iff (by first | exact Iff.rfl | omega | (simp; done) | decide) (fun _ => ?_) (fun _ => ?_))
    | (with_reducible refine lo_iffn (by first | exact Iff.rfl | omega | (simp; done) | decide) (fun _ => ?_) (fun _ => ?_))
    | refine lo_ite (fun _ => ?_) (fun _ => ?_)
    | refine lo_bind (fun _ => ?_)
    | (refine lo_some ?_; first | rfl | (rw [Bool.false_xor]; rfl) | (rw [Bool.true_xor]; rfl) | (simp only [Bool.and_true]; rfl) | (simp; done))
    | (simp only [Int.zero_sub]; exact lo_refl _)
    | (with_reducible refine lo_lpos (by omega) ?_)
    | (with_reducible refine lo_lneg (by omega) ?_)
    | (with_reducible refine lo_lite (fun _ => ?_) (fun _ => ?_))
    | (with_reducible refine lo_rite (fun _ => ?_) (fun _ => ?_))
  all_goals (exfalso; first | omega | (simp_all; done) | (simp_all; omega))
theorem bits_Len64.al : AllLe (obls bits_Len64.E Tryd.f124) := by
  rw [bits_Len64.h1]
  exact (.cons (fun k y r h => bits_Len64.bj0 k y.1.1 y.1.2.1 r h) (.cons (fun _ y r h => by simp [bits_Len64.j0] at h) .nil))
theorem bits_Len64.ok : CalleeOk Tryd.prog 124 bits_Len64.c := fn_ok tabOk mixed (fun _ => rfl) Tryd.func124 rfl (by kernel_rfl) ok_nil bits_Len64.al (fun k x r h => (congrFun (congrFun bits_Len64.h2 k) x).symm.trans (bits_Len64.bf k _ r h))
def bits_LeadingZeros64.c : Sym.Callee := ⟨(.cons (.int .u64) .nil), (.int .i64), false, Int, fun k x => bits_LeadingZeros64.f k x.1, fun z => z, []⟩
def bits_LeadingZeros64.nf (k : Nat) (a0 : Int) : Option (Int) := ((bits_Len64.f k a0).bind fun t1 => (some (wrap64 ((64 : Int) - t1))))
noncomputable def bits_LeadingZeros64.E : Env (Int) := envOf tab Tryd.f122 false (.int .i64) [] (fun y => y) [(124, bits_Len64.c)] [] []
theorem bits_LeadingZeros64.h1 : obls bits_LeadingZeros64.E Tryd.f122 = [] := by kernel_rfl
theorem bits_LeadingZeros64.h2 : (fun k (x : El (.cons (.int .u64) .nil)) => bits_LeadingZeros64.nf k x.1) = fun k x => mainK bits_LeadingZeros64.E Tryd.f122 (.cons (.int .u64) .nil) k x := by kernel_rfl
set_option maxHeartbeats 2000000 in
theorem bits_LeadingZeros64.bf (k : Nat) (a0 : Int) : Lo (bits_LeadingZeros64.f k a0) (bits_LeadingZeros64.nf k a0) := by
  unfold bits_LeadingZeros64.f bits_LeadingZeros64.nf
  try simp only [Bool.false_xor, Bool.true_xor, wu8_64, wu8_u64, byL_nums, btS_bt, nil_tl, beq_decL, beq_decI]
  repeat' first
    | (with_reducible exact lo_refl _)
    | exact lo_none _
    | (with_reducible refine lo_lpos (by first | assumption | decide) ?_)
    | (with_reducible refine lo_lneg (by first | assumption | decide) ?_)
    | (with_reducible refine lo_ite (fun _ => ?_) (fun _ => ?_))
    | (with_reducible refine lo_bind (fun _ => ?_))
    | (with_reducible refine lo_left ?_)
    | (refine lo_neg (by decide) ?_)
    | (refine lo_pos (by first | assumption | omega) ?_)
    | (refine lo_neg (by first | assumption | omega) ?_)
    | (with_reducible refine lo_test (fun _ => by first | assumption | omega | (simp only [List.length_cons, List.length_nil]; omega) | decide) (fun _ => ?_))
    | (with_reducible refine lo_testn (fun _ => by first | assumption | omega) (fun _ => ?_))
    | (with_reducible refine lo_and (fun z => by first | exact z.1 | omega) (fun z => by first | exact z.2 | omega) (fun _ => ?_))
    | exact lo_refl _
    | (with_reducible refine lo_iff (by first | exact Iff.rfl | omega | (simp; done) | decide) (fun _ => ?_) (fun _ => ?_))
    | (with_reducible refine lo_iffn (by first | exact Iff.rfl | omega | (simp; done) | decide) (fun _ => ?_) (fun _ => ?_))
    | refine lo_ite (fun _ => ?_) (fun _ => ?_)
    | refine lo_bind (fun _ => ?_)
    | (refine lo_some ?_; first | rfl | (rw [Bool.false_xor]; rfl) | (rw [Bool.true_xor]; rfl) | (simp only [Bool.and_true]; rfl) | (simp; done))
    | (simp only [Int.zero_sub]; exact lo_refl _)
    | (with_reducible refine lo_lpos (by omega) ?_)
    | (with_reducible refine lo_lneg (by omega) ?_)
    | (with_reducible refine lo_lite (fun _ => ?_) (fun _ => ?_))
    | (with_reducible refine lo_rite (fun _ => ?_) (fun _ => ?_))
  all_goals (exfalso; first | omega | (simp_all; done) | (simp_all; omega))
theorem bits_LeadingZeros64.al : AllLe (obls bits_LeadingZeros64.E Tryd.f122) := by
  rw [bits_LeadingZeros64.h1]
  exact .nil
theorem bits_LeadingZeros64.ok : CalleeOk Tryd.prog 122 bits_LeadingZeros64.c := fn_ok tabOk mixed (fun _ => rfl) Tryd.func122 rfl (by kernel_rfl) (ok_cons bits_Len64.ok ok_nil) bits_LeadingZeros64.al (fun k x r h => (congrFun (congrFun bits_LeadingZeros64.h2 k) x).symm.trans (bits_LeadingZeros64.bf k _ r h))
def bits_Div64.c : Sym.Callee := ⟨(.cons (.int .u64) (.cons (.int .u64) (.cons (.int .u64) .nil))), (.cons (.int .u64) (.cons (.int .u64) .nil)), true, Int × Int, fun k x => bits_Div64.f k x.1 x.2.1 x.2.2.1, fun z => (z.1, z.2, ()), []⟩
def bits_Div64.nl0 (k : Nat) (x2 : Int) (x8 : Int) (x9 : Int) (x10 : Int) (x11 : Int) (x13 : Int) (x14 : Int) (x15 : Int) (x16 : Int) : Option (Int × Int) := (if x15 ≥ (4294967296 : Int) then (if (IntKind.wrap .u64 (x16 + x9)) ≥ (4294967296 : Int) then (if x9 = 0 then none else (bits_Div64.l1 k x2 x8 x9 x10 x14 (IntKind.wrap .u64 (x15 - (1 : Int))) (IntKind.wrap .u64 ((IntKind.wrap .u64 ((IntKind.wrap .u64 ((IntKind.wrap .u64 (x11 * (4294967296 : Int))) + x13)) - (IntKind.wrap .u64 ((IntKind.wrap .u64 (x15 - (1 : Int))) * x2)))) - (IntKind.wrap .u64 ((IntKind.wrap .u64 (Int.tdiv (IntKind.wrap .u64 ((IntKind.wrap .u64 ((IntKind.wrap .u64 (x11 * (4294967296 : Int))) + x13)) - (IntKind.wrap .u64 ((IntKind.wrap .u64 (x15 - (1 : Int))) * x2)))) x9)) * x9)))) (IntKind.wrap .u64 ((IntKind.wrap .u64 ((IntKind.wrap .u64 (x11 * (4294967296 : Int))) + x13)) - (IntKind.wrap .u64 ((IntKind.wrap .u64 (x15 - (1 : Int))) * x2)))) (IntKind.wrap .u64 (Int.tdiv (IntKind.wrap .u64 ((IntKind.wrap .u64 ((IntKind.wrap .u64 (x11 * (4294967296 : Int))) + x13)) - (IntKind.wrap .u64 ((IntKind.wrap .u64 (x15 - (1 : Int))) * x2)))) x9)))) else (bits_Div64.l0 k x2 x8 x9 x10 x11 x13 x14 (IntKind.wrap .u64 (x15 - (1 : Int))) (IntKind.wrap .u64 (x16 + x9)))) else (if (IntKind.wrap .u64 (x15 * x10)) > (IntKind.wrap .u64 ((IntKind.wrap .u64 ((4294967296 : Int) * x16)) + x13)) then (if (IntKind.wrap .u64 (x16 + x9)) ≥ (4294967296 : Int) then (if x9 = 0 then none else (bits_Div64.l1 k x2 x8 x9 x10 x14 (IntKind.wrap .u64 (x15 - (1 : Int))) (IntKind.wrap .u64 ((IntKind.wrap .u64 ((IntKind.wrap .u64 ((IntKind.wrap .u64 (x11 * (4294967296 : Int))) + x13)) - (IntKind.wrap .u64 ((IntKind.wrap .u64 (x15 - (1 : Int))) * x2)))) - (IntKind.wrap .u64 ((IntKind.wrap .u64 (Int.tdiv (IntKind.wrap .u64 ((IntKind.wrap .u64 ((IntKind.wrap .u64 (x11 * (4294967296 : Int))) + x13)) - (IntKind.wrap .u64 ((IntKind.wrap .u64 (x15 - (1 : Int))) * x2)))) x9)) * x9)))) (IntKind.wrap .u64 ((IntKind.wrap .u64 ((IntKind.wrap .u64 (x11 * (4294967296 : Int))) + x13)) - (IntKind.wrap .u64 ((IntKind.wrap .u64 (x15 - (1 : Int))) * x2)))) (IntKind.wrap .u64 (Int.tdiv (IntKind.wrap .u64 ((IntKind.wrap .u64 ((IntKind.wrap .u64 (x11 * (4294967296 : Int))) + x13)) - (IntKind.wrap .u64 ((IntKind.wrap .u64 (x15 - (1 : Int))) * x2)))) x9)))) else (bits_Div64.l0 k x2 x8 x9 x10 x11 x13 x14 (IntKind.wrap .u64 (x15 - (1 : Int))) (IntKind.wrap .u64 (x16 + x9)))) else (if x9 = 0 then none else (bits_Div64.l1 k x2 x8 x9 x10 x14 x15 (IntKind.wrap .u64 ((IntKind.wrap .u64 ((IntKind.wrap .u64 ((IntKind.wrap .u64 (x11 * (4294967296 : Int))) + x13)) - (IntKind.wrap .u64 (x15 * x2)))) - (IntKind.wrap .u64 ((IntKind.wrap .u64 (Int.tdiv (IntKind.wrap .u64 ((IntKind.wrap .u64 ((IntKind.wrap .u64 (x11 * (4294967296 : Int))) + x13)) - (IntKind.wrap .u64 (x15 * x2)))) x9)) * x9)))) (IntKind.wrap .u64 ((IntKind.wrap .u64 ((IntKind.wrap .u64 (x11 * (4294967296 : Int))) + x13)) - (IntKind.wrap .u64 (x15 * x2)))) (IntKind.wrap .u64 (Int.tdiv (IntKind.wrap .u64 ((IntKind.wrap .u64 ((IntKind.wrap .u64 (x11 * (4294967296 : Int))) + x13)) - (IntKind.wrap .u64 (x15 * x2)))) x9))))))
def bits_Div64.nl1 (k : Nat) (x2 : Int) (x8 : Int) (x9 : Int) (x10 : Int) (x14 : Int) (x15 : Int) (x16 : Int) (x17 : Int) (x18 : Int) : Option (Int × Int) := (if x18 ≥ (4294967296 : Int) then (if (IntKind.wrap .u64 (x16 + x9)) ≥ (4294967296 : Int) then (if x8 < 0 then none else (some ((IntKind.wrap .u64 ((IntKind.wrap .u64 (x15 * (4294967296 : Int))) + (IntKind.wrap .u64 (x18 - (1 : Int))))), ((IntKind.wrap .u64 ((IntKind.wrap .u64 ((IntKind.wrap .u64 (x17 * (4294967296 : Int))) + x14)) - (IntKind.wrap .u64 ((IntKind.wrap .u64 (x18 - (1 : Int))) * x2)))) / 2 ^ (min (x8).toNat 64))))) else (bits_Div64.l1 k x2 x8 x9 x10 x14 x15 (IntKind.wrap .u64 (x16 + x9)) x17 (IntKind.wrap .u64 (x18 - (1 : Int))))) else (if (IntKind.wrap .u64 (x18 * x10)) > (IntKind.wrap .u64 ((IntKind.wrap .u64 ((4294967296 : Int) * x16)) + x14)) then (if (IntKind.wrap .u64 (x16 + x9)) ≥ (4294967296 : Int) then (if x8 < 0 then none else (some ((IntKind.wrap .u64 ((IntKind.wrap .u64 (x15 * (4294967296 : Int))) + (IntKind.wrap .u64 (x18 - (1 : Int))))), ((IntKind.wrap .u64 ((IntKind.wrap .u64 ((IntKind.wrap .u64 (x17 * (4294967296 : Int))) + x14)) - (IntKind.wrap .u64 ((IntKind.wrap .u64 (x18 - (1 : Int))) * x2)))) / 2 ^ (min (x8).toNat 64))))) else (bits_Div64.l1 k x2 x8 x9 x10 x14 x15 (IntKind.wrap .u64 (x16 + x9)) x17 (IntKind.wrap .u64 (x18 - (1 : Int))))) else (if x8 < 0 then none else (some ((IntKind.wrap .u64 ((IntKind.wrap .u64 (x15 * (4294967296 : Int))) + x18)), ((IntKind.wrap .u64 ((IntKind.wrap .u64 ((IntKind.wrap .u64 (x17 * (4294967296 : Int))) + x14)) - (IntKind.wrap .u64 (x18 * x2)))) / 2 ^ (min (x8).toNat 64)))))))
def bits_Div64.nf (k : Nat) (a0 : Int) (a1 : Int) (a2 : Int) : Option (Int × Int) := (if a2 = (0 : Int) then none else (if a2 ≤ a0 then none else (if a0 = (0 : Int) then (if a2 = 0 then none else (if a2 = 0 then none else (some ((IntKind.wrap .u64 (Int.tdiv a1 a2)), (Int.tmod a1 a2))))) else ((bits_LeadingZeros64.f k a2).bind fun t1 => (if (IntKind.wrap .u64 (t1)) < 0 then none else (if (32 : Int) < 0 then none else (if (IntKind.wrap .u64 (t1)) < 0 then none else (if (IntKind.wrap .u64 ((64 : Int) - (IntKind.wrap .u64 (t1)))) < 0 then none else (if (IntKind.wrap .u64 (t1)) < 0 then none else (if (32 : Int) < 0 then none else (if ((IntKind.wrap .u64 (a2 * 2 ^ (min ((IntKind.wrap .u64 (t1))).toNat 64))) / 2 ^ (min ((32 : Int)).toNat 64)) = 0 then none else (bits_Div64.l0 k (IntKind.wrap .u64 (a2 * 2 ^ (min ((IntKind.wrap .u64 (t1))).toNat 64))) (IntKind.wrap .u64 (t1)) ((IntKind.wrap .u64 (a2 * 2 ^ (min ((IntKind.wrap .u64 (t1))).toNat 64))) / 2 ^ (min ((32 : Int)).toNat 64)) (Go.bits .and .u64 (IntKind.wrap .u64 (a2 * 2 ^ (min ((IntKind.wrap .u64 (t1))).toNat 64))) (4294967295 : Int)) (Go.bits .or .u64 (IntKind.wrap .u64 (a0 * 2 ^ (min ((IntKind.wrap .u64 (t1))).toNat 64))) (a1 / 2 ^ (min ((IntKind.wrap .u64 ((64 : Int) - (IntKind.wrap .u64 (t1))))).toNat 64))) ((IntKind.wrap .u64 (a1 * 2 ^ (min ((IntKind.wrap .u64 (t1))).toNat 64))) / 2 ^ (min ((32 : Int)).toNat 64)) (Go.bits .and .u64 (IntKind.wrap .u64 (a1 * 2 ^ (min ((IntKind.wrap .u64 (t1))).toNat 64))) (4294967295 : Int)) (IntKind.wrap .u64 (Int.tdiv (Go.bits .or .u64 (IntKind.wrap .u64 (a0 * 2 ^ (min ((IntKind.wrap .u64 (t1))).toNat 64))) (a1 / 2 ^ (min ((IntKind.wrap .u64 ((64 : Int) - (IntKind.wrap .u64 (t1))))).toNat 64))) ((IntKind.wrap .u64 (a2 * 2 ^ (min ((IntKind.wrap .u64 (t1))).toNat 64))) / 2 ^ (min ((32 : Int)).toNat 64)))) (IntKind.wrap .u64 ((Go.bits .or .u64 (IntKind.wrap .u64 (a0 * 2 ^ (min ((IntKind.wrap .u64 (t1))).toNat 64))) (a1 / 2 ^ (min ((IntKind.wrap .u64 ((64 : Int) - (IntKind.wrap .u64 (t1))))).toNat 64))) - (IntKind.wrap .u64 ((IntKind.wrap .u64 (Int.tdiv (Go.bits .or .u64 (IntKind.wrap .u64 (a0 * 2 ^ (min ((IntKind.wrap .u64 (t1))).toNat 64))) (a1 / 2 ^ (min ((IntKind.wrap .u64 ((64 : Int) - (IntKind.wrap .u64 (t1))))).toNat 64))) ((IntKind.wrap .u64 (a2 * 2 ^ (min ((IntKind.wrap .u64 (t1))).toNat 64))) / 2 ^ (min ((32 : Int)).toNat 64)))) * ((IntKind.wrap .u64 (a2 * 2 ^ (min ((IntKind.wrap .u64 (t1))).toNat 64))) / 2 ^ (min ((32 : Int)).toNat 64))))))))))))))))))
noncomputable def bits_Div64.E : Env (Int × Int) := envOf tab Tryd.f116 true (.cons (.int .u64) (.cons (.int .u64) .nil)) [] (fun y => (y.1, y.2.1)) [(122, bits_LeadingZeros64.c)] [⟨17, ⟨135, [(2, (.int .u64), []), (8, (.int .u64), []), (9, (.int .u64), []), (10, (.int .u64), []), (11, (.int .u64), []), (13, (.int .u64), []), (14, (.int .u64), []), (15, (.int .u64), []), (16, (.int .u64), [])], [], []⟩, fun k y => bits_Div64.l0 k y.1.1 y.1.2.1 y.1.2.2.1 y.1.2.2.2.1 y.1.2.2.2.2.1 y.1.2.2.2.2.2.1 y.1.2.2.2.2.2.2.1 y.1.2.2.2.2.2.2.2.1 y.1.2.2.2.2.2.2.2.2.1⟩, ⟨24, ⟨135, [(2, (.int .u64), []), (8, (.int .u64), []), (9, (.int .u64), []), (10, (.int .u64), []), (14, (.int .u64), []), (15, (.int .u64), []), (16, (.int .u64), []), (17, (.int .u64), []), (18, (.int .u64), [])], [], []⟩, fun k y => bits_Div64.l1 k y.1.1 y.1.2.1 y.1.2.2.1 y.1.2.2.2.1 y.1.2.2.2.2.1 y.1.2.2.2.2.2.1 y.1.2.2.2.2.2.2.1 y.1.2.2.2.2.2.2.2.1 y.1.2.2.2.2.2.2.2.2.1⟩] []
theorem bits_Div64.h1 : obls bits_Div64.E Tryd.f116 = [⟨(.cons (.cons (.int .u64) (.cons (.int .u64) (.cons (.int .u64) (.cons (.int .u64) (.cons (.int .u64) (.cons (.int .u64) (.cons (.int .u64) (.cons (.int .u64) (.cons (.int .u64) .nil))))))))) (.cons .nil (.cons .nil .nil))), fun k y => bits_Div64.l0 (k + 1) y.1.1 y.1.2.1 y.1.2.2.1 y.1.2.2.2.1 y.1.2.2.2.2.1 y.1.2.2.2.2.2.1 y.1.2.2.2.2.2.2.1 y.1.2.2.2.2.2.2.2.1 y.1.2.2.2.2.2.2.2.2.1, fun k y => bits_Div64.nl0 k y.1.1 y.1.2.1 y.1.2.2.1 y.1.2.2.2.1 y.1.2.2.2.2.1 y.1.2.2.2.2.2.1 y.1.2.2.2.2.2.2.1 y.1.2.2.2.2.2.2.2.1 y.1.2.2.2.2.2.2.2.2.1⟩, ⟨(.cons (.cons (.int .u64) (.cons (.int .u64) (.cons (.int .u64) (.cons (.int .u64) (.cons (.int .u64) (.cons (.int .u64) (.cons (.int .u64) (.cons (.int .u64) (.cons (.int .u64) .nil))))))))) (.cons .nil (.cons .nil .nil))), fun _ y => bits_Div64.l0 0 y.1.1 y.1.2.1 y.1.2.2.1 y.1.2.2.2.1 y.1.2.2.2.2.1 y.1.2.2.2.2.2.1 y.1.2.2.2.2.2.2.1 y.1.2.2.2.2.2.2.2.1 y.1.2.2.2.2.2.2.2.2.1, fun _ _ => none⟩, ⟨(.cons (.cons (.int .u64) (.cons (.int .u64) (.cons (.int .u64) (.cons (.int .u64) (.cons (.int .u64) (.cons (.int .u64) (.cons (.int .u64) (.cons (.int .u64) (.cons (.int .u64) .nil))))))))) (.cons .nil (.cons .nil .nil))), fun k y => bits_Div64.l1 (k + 1) y.1.1 y.1.2.1 y.1.2.2.1 y.1.2.2.2.1 y.1.2.2.2.2.1 y.1.2.2.2.2.2.1 y.1.2.2.2.2.2.2.1 y.1.2.2.2.2.2.2.2.1 y.1.2.2.2.2.2.2.2.2.1, fun k y => bits_Div64.nl1 k y.1.1 y.1.2.1 y.1.2.2.1 y.1.2.2.2.1 y.1.2.2.2.2.1 y.1.2.2.2.2.2.1 y.1.2.2.2.2.2.2.1 y.1.2.2.2.2.2.2.2.1 y.1.2.2.2.2.2.2.2.2.1⟩, ⟨(.cons (.cons (.int .u64) (.cons (.int .u64) (.cons (.int .u64) (.cons (.int .u64) (.cons (.int .u64) (.cons (.int .u64) (.cons (.int .u64) (.cons (.int .u64) (.cons (.int .u64) .nil))))))))) (.cons .nil (.cons .nil .nil))), fun _ y => bits_Div64.l1 0 y.1.1 y.1.2.1 y.1.2.2.1 y.1.2.2.2.1 y.1.2.2.2.2.1 y.1.2.2.2.2.2.1 y.1.2.2.2.2.2.2.1 y.1.2.2.2.2.2.2.2.1 y.1.2.2.2.2.2.2.2.2.1, fun _ _ => none⟩] := by kernel_rfl
theorem bits_Div64.h2 : (fun k (x : El (.cons (.int .u64) (.cons (.int .u64) (.cons (.int .u64) .nil)))) => bits_Div64.nf k x.1 x.2.1 x.2.2.1) = fun k x => mainK bits_Div64.E Tryd.f116 (.cons (.int .u64) (.cons (.int .u64) (.cons (.int .u64) .nil))) k x := by kernel_rfl
theorem bits_Div64.bl0 (k : Nat) (x2 : Int) (x8 : Int) (x9 : Int) (x10 : Int) (x11 : Int) (x13 : Int) (x14 : Int) (x15 : Int) (x16 : Int) : Lo (bits_Div64.l0 (k + 1) x2 x8 x9 x10 x11 x13 x14 x15 x16) (bits_Div64.nl0 k x2 x8 x9 x10 x11 x13 x14 x15 x16) := by
  rw [bits_Div64.l0]
  unfold bits_Div64.nl0
  try simp only [Bool.false_xor, Bool.true_xor, wu8_64, wu8_u64, byL_nums, btS_bt, nil_tl, beq_decL, beq_decI]
  repeat' first
    | (with_reducible exact lo_refl _)
    | exact lo_none _
    | (with_reducible refine lo_lpos (by first | assumption | decide) ?_)
    | (with_reducible refine lo_lneg (by first | assumption | decide) ?_)
    | (with_reducible refine lo_ite (fun _ => ?_) (fun _ => ?_))
    | (with_reducible refine lo_bind (fun _ => ?_))
    | (with_reducible refine lo_left ?_)
    | (refine lo_neg (by decide) ?_)
    | (refine lo_pos (by first | assumption | omega) ?_)
    | (refine lo_neg (by first | assumption | omega) ?_)
    | (refine lo_trans (fun r h => (bits_Div64.mono_l _).1 _ _ _ _ _ _ _ _ r h) ?_; rw [bits_Div64.j2]; try simp only [decide_eq_true_eq])
    | (refine lo_trans (fun r h => (bits_Div64.mono_l _).2.2.1 _ _ _ _ _ _ _ _ _ _ r h) ?_; rw [bits_Div64.j4]; try simp only [decide_eq_true_eq])
    | (refine lo_trans (fun r h => (bits_Div64.mono_l _).2.2.2.2 _ _ _ _ _ _ _ _ _ _ r h) ?_; rw [bits_Div64.j1]; try simp only [decide_eq_true_eq])
    | (with_reducible refine lo_test (fun _ => by first | assumption | omega | (simp only [List.length_cons, List.length_nil]; omega) | decide) (fun _ => ?_))
    | (with_reducible refine lo_testn (fun _ => by first | assumption | omega) (fun _ => ?_))
    | (with_reducible refine lo_and (fun z => by first | exact z.1 | omega) (fun z => by first | exact z.2 | omega) (fun _ => ?_))
    | exact lo_refl _
    | (with_reducible refine lo_iff (by first | exact Iff.rfl | omega | (simp; done) | decide) (fun _ => ?_) (fun _ => ?_))
    | (with_reducible refine lo_iffn (by first | exact Iff.rfl | omega | (simp; done) | decide) (fun _ => ?_) (fun _ => ?_))
    | refine lo_ite (fun _ => ?_) (fun _ => ?_)
    | refine lo_bind (fun _ => ?_)
    | (refine lo_some ?_; first | rfl | (rw [Bool.false_xor]; rfl) | (rw [Bool.true_xor]; rfl) | (simp only [Bool.and_true]; rfl) | (simp; done))
    | (simp only [Int.zero_sub]; exact lo_refl _)
    | (with_reducible refine lo_lpos (by omega) ?_)
    | (with_reducible refine lo_lneg (by omega) ?_)
    | (with_reducible refine lo_lite (fun _ => ?_) (fun _ => ?_))
    | (with_reducible refine lo_rite (fun _ => ?_) (fun _ => ?_))
  all_goals (exfalso; first | omega | (simp_all; done) | (simp_all; omega))
theorem bits_Div64.bl1 (k : Nat) (x2 : Int) (x8 : Int) (x9 : Int) (x10 : Int) (x14 : Int) (x15 : Int) (x16 : Int) (x17 : Int) (x18 : Int) : Lo (bits_Div64.l1 (k + 1) x2 x8 x9 x10 x14 x15 x16 x17 x18) (bits_Div64.nl1 k x2 x8 x9 x10 x14 x15 x16 x17 x18) := by
  rw [bits_Div64.l1]
  unfold bits_Div64.nl1
  try simp only [Bool.false_xor, Bool.true_xor, wu8_64, wu8_u64, byL_nums, btS_bt, nil_tl, beq_decL, beq_decI]
  repeat' first
    | (with_reducible exact lo_refl _)
    | exact lo_none _
    | (with_reducible refine lo_lpos (by first | assumption | decide) ?_)
    | (with_reducible refine lo_lneg (by first | assumption | decide) ?_)
    | (with_reducible refine lo_ite (fun _ => ?_) (fun _ => ?_))
    | (with_reducible refine lo_bind (fun _ => ?_))
    | (with_reducible refine lo_left ?_)
    | (refine lo_neg (by decide) ?_)
    | (refine lo_pos (by first | assumption | omega) ?_)
    | (refine lo_neg (by first | assumption | omega) ?_)
    | (refine lo_trans (fun r h => (bits_Div64.mono_l _).1 _ _ _ _ _ _ _ _ r h) ?_; rw [bits_Div64.j2]; try simp only [decide_eq_true_eq])
    | (refine lo_trans (fun r h => (bits_Div64.mono_l _).2.2.1 _ _ _ _ _ _ _ _ _ _ r h) ?_; rw [bits_Div64.j4]; try simp only [decide_eq_true_eq])
    | (refine lo_trans (fun r h => (bits_Div64.mono_l _).2.2.2.2 _ _ _ _ _ _ _ _ _ _ r h) ?_; rw [bits_Div64.j1]; try simp only [decide_eq_true_eq])
    | (with_reducible refine lo_test (fun _ => by first | assumption | omega | (simp only [List.length_cons, List.length_nil]; omega) | decide) (fun _ => ?_))
    | (with_reducible refine lo_testn (fun _ => by first | assumption | omega) (fun _ => ?_))
    | (with_reducible refine lo_and (fun z => by first | exact z.1 | omega) (fun z => by first | exact z.2 | omega) (fun _ => ?_))
    | exact lo_refl _
    | (with_reducible refine lo_iff (by first | exact Iff.rfl | omega | (simp; done) | decide) (fun _ => ?_) (fun _ => ?_))
    | (with_reducible refine lo_iffn (by first | exact Iff.rfl | omega | (simp; done) | decide) (fun _ => ?_) (fun _ => ?_))
    | refine lo_ite (fun _ => ?_) (fun _ => ?_)
    | refine lo_bind (fun _ => ?_)
    | (refine lo_some ?_; first | rfl | (rw [Bool.false_xor]; rfl) | (rw [Bool.true_xor]; rfl) | (simp only [Bool.and_true]; rfl) | (simp; done))
    | (simp only [Int.zero_sub]; exact lo_refl _)
    | (with_reducible refine lo_lpos (by omega) ?_)
    | (with_reducible refine lo_lneg (by omega) ?_)
    | (with_reducible refine lo_lite (fun _ => ?_) (fun _ => ?_))
    | (with_reducible refine lo_rite (fun _ => ?_) (fun _ => ?_))
  all_goals (exfalso; first | omega | (simp_all; done) | (simp_all; omega))
set_option maxHeartbeats 2000000 in
theorem bits_Div64.bf (k : Nat) (a0 : Int) (a1 : Int) (a2 : Int) : Lo (bits_Div64.f k a0 a1 a2) (bits_Div64.nf k a0 a1 a2) := by
  unfold bits_Div64.f bits_Div64.nf
  try simp only [Bool.false_xor, Bool.true_xor, wu8_64, wu8_u64, byL_nums, btS_bt, nil_tl, beq_decL, beq_decI]
  repeat' first
    | (with_reducible exact lo_refl _)
    | exact lo_none _
    | (with_reducible refine lo_lpos (by first | assumption | decide) ?_)
    | (with_reducible refine lo_lneg (by first | assumption | decide) ?_)
    | (with_reducible refine lo_ite (fun _ => ?_) (fun _ => ?_))
    | (with_reducible refine lo_bind (fun _ => ?_))
    | (with_reducible refine lo_left ?_)
    | (refine lo_neg (by decide) ?_)
    | (refine lo_pos (by first | assumption | omega) ?_)
    | (refine lo_neg (by first | assumption | omega) ?_)
    | (refine lo_trans (fun r h => (bits_Div64.mono_l _).1 _ _ _ _ _ _ _ _ r h) ?_; rw [bits_Div64.j2]; try simp only [decide_eq_true_eq])
    | (refine lo_trans (fun r h => (bits_Div64.mono_l _).2.2.1 _ _ _ _ _ _ _ _ _ _ r h) ?_; rw [bits_Div64.j4]; try simp only [decide_eq_true_eq])
    | (refine lo_trans (fun r h => (bits_Div64.mono_l _).2.2.2.2 _ _ _ _ _ _ _ _ _ _ r h) ?_; rw [bits_Div64.j1]; try simp only [decide_eq_true_eq])
    | (with_reducible refine lo_test (fun _ => by first | assumption | omega | (simp only [List.length_cons, List.length_nil]; omega) | decide) (fun _ => ?_))
    | (with_reducible refine lo_testn (fun _ => by first | assumption | omega) (fun _ => ?_))
    | (with_reducible refine lo_and (fun z => by first | exact z.1 | omega) (fun z => by first | exact z.2 | omega) (fun _ => ?_))
    | exact lo_refl _
    | (with_reducible refine lo_iff (by first | exact Iff.rfl | omega | (simp; done) | decide) (fun _ => ?_) (fun _ => ?_))
    | (with_reducible refine lo_iffn (by first | exact Iff.rfl | omega | (simp; done) | decide) (fun _ => ?_) (fun _ => ?_))
    | refine lo_ite (fun _ => ?_) (fun _ => ?_)
    | refine lo_bind (fun _ => ?_)
    | (refine lo_some ?_; first | rfl | (rw [Bool.false_xor]; rfl) | (rw [Bool.true_xor]; rfl) | (simp only [Bool.and_true]; rfl) | (simp; done))
    | (simp only [Int.zero_sub]; exact lo_refl _)
    | (with_reducible refine lo_lpos (by omega) ?_)
    | (with_reducible refine lo_lneg (by omega) ?_)
    | (with_reducible refine lo_lite (fun _ => ?_) (fun _ => ?_))
    | (with_reducible refine lo_rite (fun _ => ?_) (fun _ => ?_))
  all_goals (exfalso; first | omega | (simp_all; done) | (simp_all; omega))
theorem bits_Div64.al : AllLe (obls bits_Div64.E Tryd.f116) := by
  rw [bits_Div64.h1]
  exact (.cons (fun k y r h => bits_Div64.bl0 k y.1.1 y.1.2.1 y.1.2.2.1 y.1.2.2.2.1 y.1.2.2.2.2.1 y.1.2.2.2.2.2.1 y.1.2.2.2.2.2.2.1 y.1.2.2.2.2.2.2.2.1 y.1.2.2.2.2.2.2.2.2.1 r h) (.cons (fun _ y r h => by simp [bits_Div64.l0] at h) (.cons (fun k y r h => bits_Div64.bl1 k y.1.1 y.1.2.1 y.1.2.2.1 y.1.2.2.2.1 y.1.2.2.2.2.1 y.1.2.2.2.2.2.1 y.1.2.2.2.2.2.2.1 y.1.2.2.2.2.2.2.2.1 y.1.2.2.2.2.2.2.2.2.1 r h) (.cons (fun _ y r h => by simp [bits_Div64.l1] at h) .nil))))
theorem bits_Div64.ok : CalleeOk Tryd.prog 116 bits_Div64.c := fn_ok tabOk mixed (fun _ => rfl) Tryd.func116 rfl (by kernel_rfl) (ok_cons bits_LeadingZeros64.ok ok_nil) bits_Div64.al (fun k x r h => (congrFun (congrFun bits_Div64.h2 k) x).symm.trans (bits_Div64.bf k _ _ _ r h))
def half_Over.c : Sym.Callee := ⟨(.cons (.cons (.int .u64) (.cons (.int .u64) .nil)) (.cons (.int .u64) .nil)), (.cons (.int .u64) (.cons (.int .u64) (.cons (.int .i64) .nil))), true, Int × Int × Int, fun k x => half_Over.f k x.1.1 x.1.2.1 x.2.1, fun z => (z.1, z.2.1, z.2.2, ()), []⟩
def half_Over.nf (k : Nat) (a0_0 : Int) (a0_1 : Int) (a1 : Int) : Option (Int × Int × Int) := (if a1 = (0 : Int) then (some ((0 : Int), (0 : Int), (5 : Int))) else (if 0 ≤ (0 : Int) then (if (0 : Int) < ((2 : Nat) : Int) then (if a0_0 ≥ a1 then (some ((0 : Int), (0 : Int), (4 : Int))) else (if 0 ≤ (0 : Int) then (if (0 : Int) < ((2 : Nat) : Int) then (if 0 ≤ (1 : Int) then (if (1 : Int) < ((2 : Nat) : Int) then ((bits_Div64.f k a0_0 a0_1 a1).bind fun t1 => (some (t1.1, t1.2, (0 : Int)))) else none) else none) else none) else none)) else none) else none))
noncomputable def half_Over.E : Env (Int × Int × Int) := envOf tab Tryd.f104 true (.cons (.int .u64) (.cons (.int .u64) (.cons (.int .i64) .nil))) [] (fun y => (y.1, y.2.1, y.2.2.1)) [(116, bits_Div64.c)] [] []
theorem half_Over.h1 : obls half_Over.E Tryd.f104 = [] := by kernel_rfl
theorem half_Over.h2 : (fun k (x : El (.cons (.cons (.int .u64) (.cons (.int .u64) .nil)) (.cons (.int .u64) .nil))) => half_Over.nf k x.1.1 x.1.2.1 x.2.1) = fun k x => mainK half_Over.E Tryd.f104 (.cons (.cons (.int .u64) (.cons (.int .u64) .nil)) (.cons (.int .u64) .nil)) k x := by kernel_rfl
set_option maxHeartbeats 2000000 in
theorem half_Over.bf (k : Nat) (a0_0 : Int) (a0_1 : Int) (a1 : Int) : Lo (half_Over.f k a0_0 a0_1 a1) (half_Over.nf k a0_0 a0_1 a1) := by
  unfold half_Over.f half_Over.nf
  try simp only [Bool.false_xor, Bool.true_xor, wu8_64, wu8_u64, byL_nums, btS_bt, nil_tl, beq_decL, beq_decI]
  repeat' first
    | (with_reducible exact lo_refl _)
    | exact lo_none _
    | (with_reducible refine lo_lpos (by first | assumption | decide) ?_)
    | (with_reducible refine lo_lneg (by first | assumption | decide) ?_)
    | (with_reducible refine lo_ite (fun _ => ?_) (fun _ => ?_))
    | (with_reducible refine lo_bind (fun _ => ?_))
    | (with_reducible refine lo_left ?_)
    | (refine lo_neg (by decide) ?_)
    | (refine lo_pos (by first | assumption | omega) ?_)
    | (refine lo_neg (by first | assumption | omega) ?_)
    | (with_reducible refine lo_test (fun _ => by first | assumption | omega | (simp only [List.length_cons, List.length_nil]; omega) | decide) (fun _ => ?_))
    | (with_reducible refine lo_testn (fun _ => by first | assumption | omega) (fun _ => ?_))
    | (with_reducible refine lo_and (fun z => by first | exact z.1 | omega) (fun z => by first | exact z.2 | omega) (fun _ => ?_))
    | exact lo_refl _
    | (with_reducible refine lo_iff (by first | exact Iff.rfl | omega | (simp; done) | decide) (fun _ => ?_) (fun _ => ?_))
    | (with_reducible refine lo_iffn (by first | exact Iff.rfl | omega | (simp; done) | decide) (fun _ => ?_) (fun _ => ?_))
    | refine lo_ite (fun _ => ?_) (fun _ => ?_)
    | refine lo_bind (fun _ => ?_)
    | (refine lo_some ?_; first | rfl | (rw [Bool.false_xor]; rfl) | (rw [Bool.true_xor]; rfl) | (simp only [Bool.and_true]; rfl) | (simp; done))
    | (simp only [Int.zero_sub]; exact lo_refl _)
    | (with_reducible refine lo_lpos (by omega) ?_)
    | (with_reducible refine lo_lneg (by omega) ?_)
    | (with_reducible refine lo_lite (fun _ => ?_) (fun _ => ?_))
    | (with_reducible refine lo_rite (fun _ => ?_) (fun _ => ?_))
  all_goals (exfalso; first | omega | (simp_all; done) | (simp_all; omega))
theorem half_Over.al : AllLe (obls half_Over.E Tryd.f104) := by
  rw [half_Over.h1]
  exact .nil
theorem half_Over.ok : CalleeOk Tryd.prog 104 half_Over.c := fn_ok tabOk mixed (fun _ => rfl) Tryd.func104 rfl (by kernel_rfl) (ok_cons bits_Div64.ok ok_nil) half_Over.al (fun k x r h => (congrFun (congrFun half_Over.h2 k) x).symm.trans (half_Over.bf k _ _ _ r h))
def half_up.c : Sym.Callee := ⟨(.cons (.int .u64) (.cons (.int .u64) (.cons (.int .u64) .nil))), .bool, false, Bool, fun k x => half_up.f x.1 x.2.1 x.2.2.1, fun z => z, []⟩
def half_up.nf (k : Nat) (a0 : Int) (a1 : Int) (a2 : Int) : Option (Bool) := (if a1 > (IntKind.wrap .u64 (a2 - a1)) then (some true) else (if a1 = (IntKind.wrap .u64 (a2 - a1)) then (if (2 : Int) = 0 then none else (some (xor false (decide ((Int.tmod a0 (2 : Int)) = (1 : Int)))))) else (some false)))
noncomputable def half_up.E : Env (Bool) := envOf tab Tryd.f105 false .bool [] (fun y => y) [] [] []
theorem half_up.h1 : obls half_up.E Tryd.f105 = [] := by kernel_rfl
theorem half_up.h2 : (fun k (x : El (.cons (.int .u64) (.cons (.int .u64) (.cons (.int .u64) .nil)))) => half_up.nf k x.1 x.2.1 x.2.2.1) = fun k x => mainK half_up.E Tryd.f105 (.cons (.int .u64) (.cons (.int .u64) (.cons (.int .u64) .nil))) k x := by kernel_rfl
set_option maxHeartbeats 2000000 in
theorem half_up.bf (k : Nat) (a0 : Int) (a1 : Int) (a2 : Int) : Lo (half_up.f a0 a1 a2) (half_up.nf k a0 a1 a2) := by
  unfold half_up.f half_up.nf
  try simp only [Bool.false_xor, Bool.true_xor, wu8_64, wu8_u64, byL_nums, btS_bt, nil_tl, beq_decL, beq_decI]
  repeat' first
    | (with_reducible exact lo_refl _)
    | exact lo_none _
    | (with_reducible refine lo_lpos (by first | assumption | decide) ?_)
    | (with_reducible refine lo_lneg (by first | assumption | decide) ?_)
    | (with_reducible refine lo_ite (fun _ => ?_) (fun _ => ?_))
    | (with_reducible refine lo_bind (fun _ => ?_))
    | (with_reducible refine lo_left ?_)
    | (refine lo_neg (by decide) ?_)
    | (refine lo_pos (by first | assumption | omega) ?_)
    | (refine lo_neg (by first | assumption | omega) ?_)
    | (with_reducible refine lo_test (fun _ => by first | assumption | omega | (simp only [List.length_cons, List.length_nil]; omega) | decide) (fun _ => ?_))
    | (with_reducible refine lo_testn (fun _ => by first | assumption | omega) (fun _ => ?_))
    | (with_reducible refine lo_and (fun z => by first | exact z.1 | omega) (fun z => by first | exact z.2 | omega) (fun _ => ?_))
    | exact lo_refl _
    | (with_reducible refine lo_iff (by first | exact Iff.rfl | omega | (simp; done) | decide) (fun _ => ?_) (fun _ => ?_))
    | (with_reducible refine lo_iffn (by first | exact Iff.rfl | omega | (simp; done) | decide) (fun _ => ?_) (fun _ => ?_))
    | refine lo_ite (fun _ => ?_) (fun _ => ?_)
    | refine lo_bind (fun _ => ?_)
    | (refine lo_some ?_; first | rfl | (rw [Bool.false_xor]; rfl) | (rw [Bool.true_xor]; rfl) | (simp only [Bool.and_true]; rfl) | (simp; done))
    | (simp only [Int.zero_sub]; exact lo_refl _)
    | (with_reducible refine lo_lpos (by omega) ?_)
    | (with_reducible refine lo_lneg (by omega) ?_)
    | (with_reducible refine lo_lite (fun _ => ?_) (fun _ => ?_))
    | (with_reducible refine lo_rite (fun _ => ?_) (fun _ => ?_))
  all_goals (exfalso; first | omega | (simp_all; done) | (simp_all; omega))
theorem half_up.al : AllLe (obls half_up.E Tryd.f105) := by
  rw [half_up.h1]
  exact .nil
theorem half_up.ok : CalleeOk Tryd.prog 105 half_up.c := fn_ok tabOk mixed (fun _ => rfl) Tryd.func105 rfl (by kernel_rfl) ok_nil half_up.al (fun k x r h => (congrFun (congrFun half_up.h2 k) x).symm.trans (half_up.bf k _ _ _ r h))
def half_Near.c : Sym.Callee := ⟨(.cons (.cons (.int .u64) (.cons (.int .u64) .nil)) (.cons (.int .u64) .nil)), (.cons (.int .u64) (.cons (.int .i64) .nil)), true, Int × Int, fun k x => half_Near.f k x.1.1 x.1.2.1 x.2.1, fun z => (z.1, z.2, ()), []⟩
def half_Near.nf (k : Nat) (a0_0 : Int) (a0_1 : Int) (a1 : Int) : Option (Int × Int) := ((half_Over.f k a0_0 a0_1 a1).bind fun t1 => (if t1.2.2 = (0 : Int) then ((half_up.f t1.1 t1.2.1 a1).bind fun t2 => (if (!t2) = true then (some (t1.1, t1.2.2)) else (if (IntKind.wrap .u64 (t1.1 + (1 : Int))) = (0 : Int) then (some ((0 : Int), (4 : Int))) else (some ((IntKind.wrap .u64 (t1.1 + (1 : Int))), (0 : Int)))))) else (some (t1.1, t1.2.2))))
noncomputable def half_Near.E : Env (Int × Int) := envOf tab Tryd.f80 true (.cons (.int .u64) (.cons (.int .i64) .nil)) [] (fun y => (y.1, y.2.1)) [(104, half_Over.c), (105, half_up.c)] [] []
theorem half_Near.h1 : obls half_Near.E Tryd.f80 = [] := by kernel_rfl
theorem half_Near.h2 : (fun k (x : El (.cons (.cons (.int .u64) (.cons (.int .u64) .nil)) (.cons (.int .u64) .nil))) => half_Near.nf k x.1.1 x.1.2.1 x.2.1) = fun k x => mainK half_Near.E Tryd.f80 (.cons (.cons (.int .u64) (.cons (.int .u64) .nil)) (.cons (.int .u64) .nil)) k x := by kernel_rfl
set_option maxHeartbeats 2000000 in
theorem half_Near.bf (k : Nat) (a0_0 : Int) (a0_1 : Int) (a1 : Int) : Lo (half_Near.f k a0_0 a0_1 a1) (half_Near.nf k a0_0 a0_1 a1) := by
  unfold half_Near.f half_Near.nf
  try simp only [Bool.false_xor, Bool.true_xor, wu8_64, wu8_u64, byL_nums, btS_bt, nil_tl, beq_decL, beq_decI]
  repeat' first
    | (with_reducible exact lo_refl _)
    | exact lo_none _
    | (with_reducible refine lo_lpos (by first | assumption | decide) ?_)
    | (with_reducible refine lo_lneg (by first | assumption | decide) ?_)
    | (with_reducible refine lo_ite (fun _ => ?_) (fun _ => ?_))
    | (with_reducible refine lo_bind (fun _ => ?_))
    | (with_reducible refine lo_left ?_)
    | (refine lo_neg (by decide) ?_)
    | (refine lo_pos (by first | assumption | omega) ?_)
    | (refine lo_neg (by first | assumption | omega) ?_)
    | (refine lo_trans (fun r h => (half_Near.mono_l _) _ _ _ r h) ?_; rw [half_Near.j0]; try simp only [decide_eq_true_eq])
    | (with_reducible refine lo_test (fun _ => by first | assumption | omega | (simp only [List.length_cons, List.length_nil]; omega) | decide) (fun _ => ?_))
    | (with_reducible refine lo_testn (fun _ => by first | assumption | omega) (fun _ => ?_))
    | (with_reducible refine lo_and (fun z => by first | exact z.1 | omega) (fun z => by first | exact z.2 | omega) (fun _ => ?_))
    | exact lo_refl _
    | (with_reducible refine lo_iff (by first | exact Iff.rfl | omega | (simp; done) | decide) (fun _ => ?_) (fun _ => ?_))
    | (with_reducible refine lo_iffn (by first | exact Iff.rfl | omega | (simp; done) | decide) (fun _ => ?_) (fun _ => ?_))
    | refine lo_ite (fun _ => ?_) (fun _ => ?_)
    | refine lo_bind (fun _ => ?_)
    | (refine lo_some ?_; first | rfl | (rw [Bool.false_xor]; rfl) | (rw [Bool.true_xor]; rfl) | (simp only [Bool.and_true]; rfl) | (simp; done))
    | (simp only [Int.zero_sub]; exact lo_refl _)
    | (with_reducible refine lo_lpos (by omega) ?_)
    | (with_reducible refine lo_lneg (by omega) ?_)
    | (with_reducible refine lo_lite (fun _ => ?_) (fun _ => ?_))
    | (with_reducible refine lo_rite (fun _ => ?_) (fun _ => ?_))
  all_goals (exfalso; first | omega | (simp_all; done) | (simp_all; omega))
theorem half_Near.al : AllLe (obls half_Near.E Tryd.f80) := by
  rw [half_Near.h1]
  exact .nil
theorem half_Near.ok : CalleeOk Tryd.prog 80 half_Near.c := fn_ok tabOk mixed (fun _ => rfl) Tryd.func80 rfl (by kernel_rfl) (ok_cons half_Over.ok (ok_cons half_up.ok ok_nil)) half_Near.al (fun k x r h => (congrFun (congrFun half_Near.h2 k) x).symm.trans (half_Near.bf k _ _ _ r h))
def dec_fraction.c : Sym.Callee := ⟨(.cons (.int .u64) (.cons (.int .i64) .nil)), (.int .u64), false, Int, fun k x => dec_fraction.f k x.1 x.2.1, fun z => z, []⟩
def dec_fraction.nf (k : Nat) (a0 : Int) (a1 : Int) : Option (Int) := ((pair_Shl.f (0 : Int) a0 (32 : Int)).bind fun t1 => ((dec_power.f k a1).bind fun t2 => ((half_Near.f k t1.1 t1.2.1 t2).bind fun t3 => (some t3.1))))
noncomputable def dec_fraction.E : Env (Int) := envOf tab Tryd.f49 false (.int .u64) [] (fun y => y) [(79, pair_Shl.c), (72, dec_power.c), (80, half_Near.c)] [] []
theorem dec_fraction.h1 : obls dec_fraction.E Tryd.f49 = [] := by kernel_rfl
theorem dec_fraction.h2 : (fun k (x : El (.cons (.int .u64) (.cons (.int .i64) .nil))) => dec_fraction.nf k x.1 x.2.1) = fun k x => mainK dec_fraction.E Tryd.f49 (.cons (.int .u64) (.cons (.int .i64) .nil)) k x := by kernel_rfl
set_option maxHeartbeats 2000000 in
theorem dec_fraction.bf (k : Nat) (a0 : Int) (a1 : Int) : Lo (dec_fraction.f k a0 a1) (dec_fraction.nf k a0 a1) := by
  unfold dec_fraction.f dec_fraction.nf
  try simp only [Bool.false_xor, Bool.true_xor, wu8_64, wu8_u64, byL_nums, btS_bt, nil_tl, beq_decL, beq_decI]
  repeat' first
    | (with_reducible exact lo_refl _)
    | exact lo_none _
    | (with_reducible refine lo_lpos (by first | assumption | decide) ?_)
    | (with_reducible refine lo_lneg (by first | assumption | decide) ?_)
    | (with_reducible refine lo_ite (fun _ => ?_) (fun _ => ?_))
    | (with_reducible refine lo_bind (fun _ => ?_))
    | (with_reducible refine lo_left ?_)
    | (refine lo_neg (by decide) ?_)
    | (refine lo_pos (by first | assumption | omega) ?_)
    | (refine lo_neg (by first | assumption | omega) ?_)
    | (with_reducible refine lo_test (fun _ => by first | assumption | omega | (simp only [List.length_cons, List.length_nil]; omega) | decide) (fun _ => ?_))
    | (with_reducible refine lo_testn (fun _ => by first | assumption | omega) (fun _ => ?_))
    | (with_reducible refine lo_and (fun z => by first | exact z.1 | omega) (fun z => by first | exact z.2 | omega) (fun _ => ?_))
    | exact lo_refl _
    | (with_reducible refine lo_iff (by first | exact Iff.rfl | omega | (simp; done) | decide) (fun _ => ?_) (fun _ => ?_))
    | (with_reducible refine lo_iffn (by first | exact Iff.rfl | omega | (simp; done) | decide) (fun _ => ?_) (fun _ => ?_))
    | refine lo_ite (fun _ => ?_) (fun _ => ?_)
    | refine lo_bind (fun _ => ?_)
    | (refine lo_some ?_; first | rfl | (rw [Bool.false_xor]; rfl) | (rw [Bool.true_xor]; rfl) | (simp only [Bool.and_true]; rfl) | (simp; done))
    | (simp only [Int.zero_sub]; exact lo_refl _)
    | (with_reducible refine lo_lpos (by omega) ?_)
    | (with_reducible refine lo_lneg (by omega) ?_)
    | (with_reducible refine lo_lite (fun _ => ?_) (fun _ => ?_))
    | (with_reducible refine lo_rite (fun _ => ?_) (fun _ => ?_))
  all_goals (exfalso; first | omega | (simp_all; done) | (simp_all; omega))
theorem dec_fraction.al : AllLe (obls dec_fraction.E Tryd.f49) := by
  rw [dec_fraction.h1]
  exact .nil
theorem dec_fraction.ok : CalleeOk Tryd.prog 49 dec_fraction.c := fn_ok tabOk mixed (fun _ => rfl) Tryd.func49 rfl (by kernel_rfl) (ok_cons pair_Shl.ok (ok_cons dec_power.ok (ok_cons half_Near.ok ok_nil))) dec_fraction.al (fun k x r h => (congrFun (congrFun dec_fraction.h2 k) x).symm.trans (dec_fraction.bf k _ _ r h))
def fix_Signed.c : Sym.Callee := ⟨(.cons (.int .u64) (.cons .bool .nil)), (.cons (.int .i64) (.cons (.int .i64) .nil)), true, Int × Int, fun k x => fix_Signed.f k x.1 x.2.1, fun z => (z.1, z.2, ()), []⟩
def fix_Signed.nf (k : Nat) (a0 : Int) (a1 : Bool) : Option (Int × Int) := (if a1 = true then (if a0 ≤ (9223372036854775808 : Int) then (some ((wrap64 ((IntKind.wrap .u64 (-a0)))), (0 : Int))) else (if (!a1) = true then (if a0 < (9223372036854775808 : Int) then (some ((wrap64 (a0)), (0 : Int))) else (some ((0 : Int), (4 : Int)))) else (some ((0 : Int), (4 : Int))))) else (if (!a1) = true then (if a0 < (9223372036854775808 : Int) then (some ((wrap64 (a0)), (0 : Int))) else (some ((0 : Int), (4 : Int)))) else (some ((0 : Int), (4 : Int)))))
noncomputable def fix_Signed.E : Env (Int × Int) := envOf tab Tryd.f48 true (.cons (.int .i64) (.cons (.int .i64) .nil)) [] (fun y => (y.1, y.2.1)) [] [] []
theorem fix_Signed.h1 : obls fix_Signed.E Tryd.f48 = [] := by kernel_rfl
theorem fix_Signed.h2 : (fun k (x : El (.cons (.int .u64) (.cons .bool .nil))) => fix_Signed.nf k x.1 x.2.1) = fun k x => mainK fix_Signed.E Tryd.f48 (.cons (.int .u64) (.cons .bool .nil)) k x := by kernel_rfl
set_option maxHeartbeats 2000000 in
theorem fix_Signed.bf (k : Nat) (a0 : Int) (a1 : Bool) : Lo (fix_Signed.f k a0 a1) (fix_Signed.nf k a0 a1) := by
  unfold fix_Signed.f fix_Signed.nf
  try simp only [Bool.false_xor, Bool.true_xor, wu8_64, wu8_u64, byL_nums, btS_bt, nil_tl, beq_decL, beq_decI]
  repeat' first
    | (with_reducible exact lo_refl _)
    | exact lo_none _
    | (with_reducible refine lo_lpos (by first | assumption | decide) ?_)
    | (with_reducible refine lo_lneg (by first | assumption | decide) ?_)
    | (with_reducible refine lo_ite (fun _ => ?_) (fun _ => ?_))
    | (with_reducible refine lo_bind (fun _ => ?_))
    | (with_reducible refine lo_left ?_)
    | (refine lo_neg (by decide) ?_)
    | (refine lo_pos (by first | assumption | omega) ?_)
    | (refine lo_neg (by first | assumption | omega) ?_)
    | (refine lo_trans (fun r h => (fix_Signed.mono_l _) _ _ _ r h) ?_; rw [fix_Signed.j0]; try simp only [decide_eq_true_eq])
    | (with_reducible refine lo_test (fun _ => by first | assumption | omega | (simp only [List.length_cons, List.length_nil]; omega) | decide) (fun _ => ?_))
    | (with_reducible refine lo_testn (fun _ => by first | assumption | omega) (fun _ => ?_))
    | (with_reducible refine lo_and (fun z => by first | exact z.1 | omega) (fun z => by first | exact z.2 | omega) (fun _ => ?_))
    | exact lo_refl _
    | (with_reducible refine lo_iff (by first | exact Iff.rfl | omega | (simp; done) | decide) (fun _ => ?_) (fun _ => ?_))
    | (with_reducible refine lo_iffn (by first | exact Iff.rfl | omega | (simp; done) | decide) (fun _ => ?_) (fun _ => ?_))
    | refine lo_ite (fun _ => ?_) (fun _ => ?_)
    | refine lo_bind (fun _ => ?_)
    | (refine lo_some ?_; first | rfl | (rw [Bool.false_xor]; rfl) | (rw [Bool.true_xor]; rfl) | (simp only [Bool.and_true]; rfl) | (simp; done))
    | (simp only [Int.zero_sub]; exact lo_refl _)
    | (with_reducible refine lo_lpos (by omega) ?_)
    | (with_reducible refine lo_lneg (by omega) ?_)
    | (with_reducible refine lo_lite (fun _ => ?_) (fun _ => ?_))
    | (with_reducible refine lo_rite (fun _ => ?_) (fun _ => ?_))
  all_goals (exfalso; first | omega | (simp_all; done) | (simp_all; omega))
theorem fix_Signed.al : AllLe (obls fix_Signed.E Tryd.f48) := by
  rw [fix_Signed.h1]
  exact .nil
theorem fix_Signed.ok : CalleeOk Tryd.prog 48 fix_Signed.c := fn_ok tabOk mixed (fun _ => rfl) Tryd.func48 rfl (by kernel_rfl) ok_nil fix_Signed.al (fun k x r h => (congrFun (congrFun fix_Signed.h2 k) x).symm.trans (fix_Signed.bf k _ _ r h))
def dec_Get.c : Sym.Callee := ⟨(.cons .str .nil), (.cons (.int .i64) (.cons (.int .i64) .nil)), true, Int × Int, fun k x => dec_Get.f k x.1, fun z => (z.1, z.2, ()), []⟩
def dec_Get.nf (k : Nat) (a0 : ByteArray) : Option (Int × Int) := ((dec_parted.f k a0).bind fun t1 => (if (!t1.2.2.2) = true then (some ((0 : Int), (2 : Int))) else (if (t1.2.2.1.size : Int) > (19 : Int) then (some ((0 : Int), (6 : Int))) else (if (t1.2.1.size : Int) > (10 : Int) then (some ((0 : Int), (3 : Int))) else ((dec_count.f k t1.2.1).bind fun t2 => (if t2 > (2147483648 : Int) then (some ((0 : Int), (3 : Int))) else ((dec_count.f k t1.2.1).bind fun t3 => (if (32 : Int) < 0 then none else ((dec_count.f k t1.2.2.1).bind fun t4 => ((dec_fraction.f k t4 (t1.2.2.1.size : Int)).bind fun t5 => ((fix_Signed.f k (IntKind.wrap .u64 ((IntKind.wrap .u64 (t3 * 2 ^ (min ((32 : Int)).toNat 64))) + t5)) t1.1).bind fun t6 => (if t6.2 = (0 : Int) then (some (t6.1, (0 : Int))) else (some ((0 : Int), (3 : Int)))))))))))))))
noncomputable def dec_Get.E : Env (Int × Int) := envOf tab Tryd.f23 true (.cons (.int .i64) (.cons (.int .i64) .nil)) [] (fun y => (y.1, y.2.1)) [(46, dec_parted.c), (47, dec_count.c), (49, dec_fraction.c), (48, fix_Signed.c)] [] []
theorem dec_Get.h1 : obls dec_Get.E Tryd.f23 = [] := by kernel_rfl
theorem dec_Get.h2 : (fun k (x : El (.cons .str .nil)) => dec_Get.nf k x.1) = fun k x => mainK dec_Get.E Tryd.f23 (.cons .str .nil) k x := by kernel_rfl
set_option maxHeartbeats 2000000 in
theorem dec_Get.bf (k : Nat) (a0 : ByteArray) : Lo (dec_Get.f k a0) (dec_Get.nf k a0) := by
  unfold dec_Get.f dec_Get.nf
  try simp only [Bool.false_xor, Bool.true_xor, wu8_64, wu8_u64, byL_nums, btS_bt, nil_tl, beq_decL, beq_decI]
  repeat' first
    | (with_reducible exact lo_refl _)
    | exact lo_none _
    | (with_reducible refine lo_lpos (by first | assumption | decide) ?_)
    | (with_reducible refine lo_lneg (by first | assumption | decide) ?_)
    | (with_reducible refine lo_ite (fun _ => ?_) (fun _ => ?_))
    | (with_reducible refine lo_bind (fun _ => ?_))
    | (with_reducible refine lo_left ?_)
    | (refine lo_neg (by decide) ?_)
    | (refine lo_pos (by first | assumption | omega) ?_)
    | (refine lo_neg (by first | assumption | omega) ?_)
    | (with_reducible refine lo_test (fun _ => by first | assumption | omega | (simp only [List.length_cons, List.length_nil]; omega) | decide) (fun _ => ?_))
    | (with_reducible refine lo_testn (fun _ => by first | assumption | omega) (fun _ => ?_))
    | (with_reducible refine lo_and (fun z => by first | exact z.1 | omega) (fun z => by first | exact z.2 | omega) (fun _ => ?_))
    | exact lo_refl _
    | (with_reducible refine lo_iff (by first | exact Iff.rfl | omega | (simp; done) | decide) (fun _ => ?_) (fun _ => ?_))
    | (with_reducible refine lo_iffn (by first | exact Iff.rfl | omega | (simp; done) | decide) (fun _ => ?_) (fun _ => ?_))
    | refine lo_ite (fun _ => ?_) (fun _ => ?_)
    | refine lo_bind (fun _ => ?_)
    | (refine lo_some ?_; first | rfl | (rw [Bool.false_xor]; rfl) | (rw [Bool.true_xor]; rfl) | (simp only [Bool.and_true]; rfl) | (simp; done))
    | (simp only [Int.zero_sub]; exact lo_refl _)
    | (with_reducible refine lo_lpos (by omega) ?_)
    | (with_reducible refine lo_lneg (by omega) ?_)
    | (with_reducible refine lo_lite (fun _ => ?_) (fun _ => ?_))
    | (with_reducible refine lo_rite (fun _ => ?_) (fun _ => ?_))
  all_goals (exfalso; first | omega | (simp_all; done) | (simp_all; omega))
theorem dec_Get.al : AllLe (obls dec_Get.E Tryd.f23) := by
  rw [dec_Get.h1]
  exact .nil
theorem dec_Get.ok : CalleeOk Tryd.prog 23 dec_Get.c := fn_ok tabOk mixed (fun _ => rfl) Tryd.func23 rfl (by kernel_rfl) (ok_cons dec_parted.ok (ok_cons dec_count.ok (ok_cons dec_fraction.ok (ok_cons fix_Signed.ok ok_nil)))) dec_Get.al (fun k x r h => (congrFun (congrFun dec_Get.h2 k) x).symm.trans (dec_Get.bf k _ r h))
def input_reading.c : Sym.Callee := ⟨(.cons .str .nil), (.cons (.cons .bool (.cons (.int .i64) .nil)) (.cons (.int .i64) .nil)), true, Bool × Int × Int, fun k x => input_reading.f k x.1, fun z => ((z.1, z.2.1, ()), z.2.2, ()), []⟩
def input_reading.nf (k : Nat) (a0 : ByteArray) : Option (Bool × Int × Int) := (if a0.toList = (⟨#[45]⟩ : ByteArray).toList then (some (false, 0, (0 : Int))) else ((dec_Get.f k a0).bind fun t1 => (some (true, t1.1, t1.2))))
noncomputable def input_reading.E : Env (Bool × Int × Int) := envOf tab Tryd.f22 true (.cons (.cons .bool (.cons (.int .i64) .nil)) (.cons (.int .i64) .nil)) [] (fun y => (y.1.1, y.1.2.1, y.2.1)) [(23, dec_Get.c)] [] []
theorem input_reading.h1 : obls input_reading.E Tryd.f22 = [] := by kernel_rfl
theorem input_reading.h2 : (fun k (x : El (.cons .str .nil)) => input_reading.nf k x.1) = fun k x => mainK input_reading.E Tryd.f22 (.cons .str .nil) k x := by kernel_rfl
set_option maxHeartbeats 2000000 in
theorem input_reading.bf (k : Nat) (a0 : ByteArray) : Lo (input_reading.f k a0) (input_reading.nf k a0) := by
  unfold input_reading.f input_reading.nf
  try simp only [Bool.false_xor, Bool.true_xor, wu8_64, wu8_u64, byL_nums, btS_bt, nil_tl, beq_decL, beq_decI]
  repeat' first
    | (with_reducible exact lo_refl _)
    | exact lo_none _
    | (with_reducible refine lo_lpos (by first | assumption | decide) ?_)
    | (with_reducible refine lo_lneg (by first | assumption | decide) ?_)
    | (with_reducible refine lo_ite (fun _ => ?_) (fun _ => ?_))
    | (with_reducible refine lo_bind (fun _ => ?_))
    | (with_reducible refine lo_left ?_)
    | (refine lo_neg (by decide) ?_)
    | (refine lo_pos (by first | assumption | omega) ?_)
    | (refine lo_neg (by first | assumption | omega) ?_)
    | (with_reducible refine lo_test (fun _ => by first | assumption | omega | (simp only [List.length_cons, List.length_nil]; omega) | decide) (fun _ => ?_))
    | (with_reducible refine lo_testn (fun _ => by first | assumption | omega) (fun _ => ?_))
    | (with_reducible refine lo_and (fun z => by first | exact z.1 | omega) (fun z => by first | exact z.2 | omega) (fun _ => ?_))
    | exact lo_refl _
    | (with_reducible refine lo_iff (by first | exact Iff.rfl | omega | (simp; done) | decide) (fun _ => ?_) (fun _ => ?_))
    | (with_reducible refine lo_iffn (by first | exact Iff.rfl | omega | (simp; done) | decide) (fun _ => ?_) (fun _ => ?_))
    | refine lo_ite (fun _ => ?_) (fun _ => ?_)
    | refine lo_bind (fun _ => ?_)
    | (refine lo_some ?_; first | rfl | (rw [Bool.false_xor]; rfl) | (rw [Bool.true_xor]; rfl) | (simp only [Bool.and_true]; rfl) | (simp; done))
    | (simp only [Int.zero_sub]; exact lo_refl _)
    | (with_reducible refine lo_lpos (by omega) ?_)
    | (with_reducible refine lo_lneg (by omega) ?_)
    | (with_reducible refine lo_lite (fun _ => ?_) (fun _ => ?_))
    | (with_reducible refine lo_rite (fun _ => ?_) (fun _ => ?_))
  all_goals (exfalso; first | omega | (simp_all; done) | (simp_all; omega))
theorem input_reading.al : AllLe (obls input_reading.E Tryd.f22) := by
  rw [input_reading.h1]
  exact .nil
theorem input_reading.ok : CalleeOk Tryd.prog 22 input_reading.c := fn_ok tabOk mixed (fun _ => rfl) Tryd.func22 rfl (by kernel_rfl) (ok_cons dec_Get.ok ok_nil) input_reading.al (fun k x r h => (congrFun (congrFun input_reading.h2 k) x).symm.trans (input_reading.bf k _ r h))
mutual
def input_Get.l6 : Nat → (List ByteArray) → (List ByteArray) → Int → Int → ((List (Bool × Int × Unit)) × (List Int) × Unit) → ((List (Bool × Int × Unit)) × (List Int) × Unit) → Option (((List (Bool × Int × Unit)) × (List Int) × Unit) × Int × Unit)
  | 0, _, _, _, _, _, _ => none
  | k + 1, x5, x25, x26, x27, b2, b7 => (if x27 < x26 then (if 0 ≤ x27 then (if x27 < (x25.length : Int) then ((input_reading.f k (x25.getD (x27).toNat (⟨#[]⟩ : ByteArray))).bind fun t2 => (if t2.2.2 = (0 : Int) then (if (b7.1.length + [(t2.1, t2.2.1, ())].length) * 16 ≤ 140737488355328 then (input_Get.l6 k x5 x25 x26 (wrap64 (x27 + (1 : Int))) b2 ((b7.1 ++ [(t2.1, t2.2.1, ())]), b7.2)) else none) else (some ((([] : List (Bool × Int × Unit)), ([] : List Int), ()), t2.2.2, ())))) else none) else none) else (input_Get.l14 k x5 (x5.length : Int) (0 : Int) b2 b7))
def input_Get.l14 : Nat → (List ByteArray) → Int → Int → ((List (Bool × Int × Unit)) × (List Int) × Unit) → ((List (Bool × Int × Unit)) × (List Int) × Unit) → Option (((List (Bool × Int × Unit)) × (List Int) × Unit) × Int × Unit)
  | 0, _, _, _, _, _ => none
  | k + 1, x47, x48, x49, b2, b7 => (if x49 < x48 then (if 0 ≤ x49 then (if x49 < (x47.length : Int) then ((dec_Get.f k (x47.getD (x49).toNat (⟨#[]⟩ : ByteArray))).bind fun t3 => (if t3.2 = (0 : Int) then (if (b7.2.1.length + [t3.1].length) * 8 ≤ 140737488355328 then (input_Get.l14 k x47 x48 (wrap64 (x49 + (1 : Int))) b2 (b7.1, (b7.2.1 ++ [t3.1]), b7.2.2)) else none) else (some ((([] : List (Bool × Int × Unit)), ([] : List Int), ()), t3.2, ())))) else none) else none) else (some (b7, (0 : Int), ())))
end
def input_Get.f (k : Nat) (a0 : ByteArray) : Option (((List (Bool × Int × Unit)) × (List Int) × Unit) × Int × Unit) := ((input_parts.f k a0).bind fun t1 => (if (!t1.2.2.1) = true then (some ((([] : List (Bool × Int × Unit)), ([] : List Int), ()), (2 : Int), ())) else (input_Get.l6 k t1.2.1 t1.1 (t1.1.length : Int) (0 : Int) (([] : List (Bool × Int × Unit)), ([] : List Int), ()) (([] : List (Bool × Int × Unit)), ([] : List Int), ()))))
def input_Get.c : Sym.Callee := ⟨(.cons .str .nil), (.cons (.cons (.sl (.cons .bool (.cons (.int .i64) .nil))) (.cons (.sl (.int .i64)) .nil)) (.cons (.int .i64) .nil)), true, El (.cons (.cons (.sl (.cons .bool (.cons (.int .i64) .nil))) (.cons (.sl (.int .i64)) .nil)) (.cons (.int .i64) .nil)), fun k x => input_Get.f k x.1, fun y => y, []⟩
noncomputable def input_Get.E : Env (El (.cons (.cons (.sl (.cons .bool (.cons (.int .i64) .nil))) (.cons (.sl (.int .i64)) .nil)) (.cons (.int .i64) .nil))) := envOf tab Tryd.f8 true (.cons (.cons (.sl (.cons .bool (.cons (.int .i64) .nil))) (.cons (.sl (.int .i64)) .nil)) (.cons (.int .i64) .nil)) [] (fun y => y) [(21, input_parts.c), (22, input_reading.c), (23, dec_Get.c)] [⟨6, ⟨70, [(5, (.sl .str), []), (25, (.sl .str), []), (26, (.int .i64), []), (27, (.int .i64), [])], [(2, (.cons (.sl (.cons .bool (.cons (.int .i64) .nil))) (.cons (.sl (.int .i64)) .nil)), [⟨0, 3, 51, 2⟩, ⟨1, 92, 3, 1⟩]), (7, (.cons (.sl (.cons .bool (.cons (.int .i64) .nil))) (.cons (.sl (.int .i64)) .nil)), [⟨0, 8, 51, 2⟩, ⟨1, 142, 3, 1⟩])], []⟩, fun k y => input_Get.l6 k y.1.1 y.1.2.1 y.1.2.2.1 y.1.2.2.2.1 y.2.1.1 y.2.1.2.1⟩, ⟨14, ⟨70, [(47, (.sl .str), []), (48, (.int .i64), []), (49, (.int .i64), [])], [(2, (.cons (.sl (.cons .bool (.cons (.int .i64) .nil))) (.cons (.sl (.int .i64)) .nil)), [⟨0, 3, 51, 2⟩, ⟨1, 92, 3, 1⟩]), (7, (.cons (.sl (.cons .bool (.cons (.int .i64) .nil))) (.cons (.sl (.int .i64)) .nil)), [⟨0, 8, 51, 2⟩, ⟨1, 142, 3, 1⟩])], []⟩, fun k y => input_Get.l14 k y.1.1 y.1.2.1 y.1.2.2.1 y.2.1.1 y.2.1.2.1⟩] []
theorem input_Get.h1 : (obls input_Get.E Tryd.f8).map Ob.left = (obls input_Get.E Tryd.f8).map Ob.right := by kernel_rfl
theorem input_Get.h2 : (fun k x => input_Get.c.fn k x) = fun k x => mainK input_Get.E Tryd.f8 input_Get.c.dom k x := by kernel_rfl
theorem input_Get.ok : CalleeOk Tryd.prog 8 input_Get.c := fn_ok tabOk mixed (fun _ => rfl) Tryd.func8 rfl (by kernel_rfl) (ok_cons input_parts.ok (ok_cons input_reading.ok (ok_cons dec_Get.ok ok_nil))) (.of_eq input_Get.h1) (fun k x _ h => (congrFun (congrFun input_Get.h2 k) x).symm.trans h)
theorem input_Get.mono_c : ∀ k, (∀ x5 x25 x26 x27 b2 b7, Lo (input_Get.l6 k x5 x25 x26 x27 b2 b7) (input_Get.l6 (k + 1) x5 x25 x26 x27 b2 b7)) ∧ (∀ x47 x48 x49 b2 b7, Lo (input_Get.l14 k x47 x48 x49 b2 b7) (input_Get.l14 (k + 1) x47 x48 x49 b2 b7)) ∧ True
  | 0 => ⟨fun _ _ _ _ _ _ => by rw [input_Get.l6]; exact lo_none _, fun _ _ _ _ _ => by rw [input_Get.l14]; exact lo_none _, trivial⟩
  | k + 1 => by
    obtain ⟨h_l6, h_l14, _⟩ := input_Get.mono_c k
    exact ⟨fun _ _ _ _ _ _ => by rw [input_Get.l6, input_Get.l6]; repeat' first | (with_reducible exact lo_refl _) | (with_reducible exact h_l6 _ _ _ _ _ _) | (with_reducible exact h_l14 _ _ _ _ _) | (with_reducible refine lo_ite (fun _ => ?_) (fun _ => ?_)) | (with_reducible refine lo_bind2 ?_ (fun _ => ?_)) | (with_reducible exact lo_of (input_parts.mono _ _)) | (with_reducible exact lo_leo (input_reading.mono _ _)) | (with_reducible exact lo_leo (dec_Get.mono _ _)), fun _ _ _ _ _ => by rw [input_Get.l14, input_Get.l14]; repeat' first | (with_reducible exact lo_refl _) | (with_reducible exact h_l6 _ _ _ _ _ _) | (with_reducible exact h_l14 _ _ _ _ _) | (with_reducible refine lo_ite (fun _ => ?_) (fun _ => ?_)) | (with_reducible refine lo_bind2 ?_ (fun _ => ?_)) | (with_reducible exact lo_of (input_parts.mono _ _)) | (with_reducible exact lo_leo (input_reading.mono _ _)) | (with_reducible exact lo_leo (dec_Get.mono _ _)), trivial⟩
theorem input_Get.mono : ∀ k a0, Lo (input_Get.f k a0) (input_Get.f (k + 1) a0) := by
  intro k a0
  obtain ⟨h_l6, h_l14, _⟩ := input_Get.mono_c k
  unfold input_Get.f
  repeat' first | (with_reducible exact lo_refl _) | (with_reducible exact h_l6 _ _ _ _ _ _) | (with_reducible exact h_l14 _ _ _ _ _) | (with_reducible refine lo_ite (fun _ => ?_) (fun _ => ?_)) | (with_reducible refine lo_bind2 ?_ (fun _ => ?_)) | (with_reducible exact lo_of (input_parts.mono _ _)) | (with_reducible exact lo_leo (input_reading.mono _ _)) | (with_reducible exact lo_leo (dec_Get.mono _ _))
def stringslite_HasSuffix.c : Sym.Callee := ⟨(.cons .str (.cons .str .nil)), .bool, false, Bool, fun k x => stringslite_HasSuffix.f x.1 x.2.1, fun z => z, []⟩
def stringslite_HasSuffix.nf (k : Nat) (a0 : ByteArray) (a1 : ByteArray) : Option (Bool) := (if (a0.size : Int) ≥ (a1.size : Int) then (if 0 ≤ (wrap64 ((a0.size : Int) - (a1.size : Int))) then (if (wrap64 ((a0.size : Int) - (a1.size : Int))) ≤ (a0.size : Int) then (some (xor false (decide ((a0.extract ((wrap64 ((a0.size : Int) - (a1.size : Int)))).toNat a0.size).toList = a1.toList)))) else none) else none) else (some false))
noncomputable def stringslite_HasSuffix.E : Env (Bool) := envOf tab Tryd.f92 false .bool [] (fun y => y) [] [] []
theorem stringslite_HasSuffix.h1 : obls stringslite_HasSuffix.E Tryd.f92 = [] := by kernel_rfl
theorem stringslite_HasSuffix.h2 : (fun k (x : El (.cons .str (.cons .str .nil))) => stringslite_HasSuffix.nf k x.1 x.2.1) = fun k x => mainK stringslite_HasSuffix.E Tryd.f92 (.cons .str (.cons .str .nil)) k x := by kernel_rfl
set_option maxHeartbeats 2000000 in
theorem stringslite_HasSuffix.bf (k : Nat) (a0 : ByteArray) (a1 : ByteArray) : Lo (stringslite_HasSuffix.f a0 a1) (stringslite_HasSuffix.nf k a0 a1) := by
  unfold stringslite_HasSuffix.f stringslite_HasSuffix.nf
  try simp only [Bool.false_xor, Bool.true_xor, wu8_64, wu8_u64, byL_nums, btS_bt, nil_tl, beq_decL, beq_decI]
  repeat' first
    | (with_reducible exact lo_refl _)
    | exact lo_none _
    | (with_reducible refine lo_lpos (by first | assumption | decide) ?_)
    | (with_reducible refine lo_lneg (by first | assumption | decide) ?_)
    | (with_reducible refine lo_ite (fun _ => ?_) (fun _ => ?_))
    | (with_reducible refine lo_bind (fun _ => ?_))
    | (with_reducible refine lo_left ?_)
    | (refine lo_neg (by decide) ?_)
    | (refine lo_pos (by first | assumption | omega) ?_)
    | (refine lo_neg (by first | assumption | omega) ?_)
    | (with_reducible refine lo_test (fun _ => by first | assumption | omega | (simp only [List.length_cons, List.length_nil]; omega) | decide) (fun _ => ?_))
    | (with_reducible refine lo_testn (fun _ => by first | assumption | omega) (fun _ => ?_))
    | (with_reducible refine lo_and (fun z => by first | exact z.1 | omega) (fun z => by first | exact z.2 | omega) (fun _ => ?_))
    | exact lo_refl _
    | (with_reducible refine lo_iff (by first | exact Iff.rfl | omega | (simp; done) | decide) (fun _ => ?_) (fun _ => ?_))
    | (with_reducible refine lo_iffn (by first | exact Iff.rfl | omega | (simp; done) | decide) (fun _ => ?_) (fun _ => ?_))
    | refine lo_ite (fun _ => ?_) (fun _ => ?_)
    | refine lo_bind (fun _ => ?_)
    | (refine lo_some ?_; first | rfl | (rw [Bool.false_xor]; rfl) | (rw [Bool.true_xor]; rfl) | (simp only [Bool.and_true]; rfl) | (simp; done))
    | (simp only [Int.zero_sub]; exact lo_refl _)
    | (with_reducible refine lo_lpos (by omega) ?_)
    | (with_reducible refine lo_lneg (by omega) ?_)
    | (with_reducible refine lo_lite (fun _ => ?_) (fun _ => ?_))
    | (with_reducible refine lo_rite (fun _ => ?_) (fun _ => ?_))
  all_goals (exfalso; first | omega | (simp_all; done) | (simp_all; omega))
theorem stringslite_HasSuffix.al : AllLe (obls stringslite_HasSuffix.E Tryd.f92) := by
  rw [stringslite_HasSuffix.h1]
  exact .nil
theorem stringslite_HasSuffix.ok : CalleeOk Tryd.prog 92 stringslite_HasSuffix.c := fn_ok tabOk mixed (fun _ => rfl) Tryd.func92 rfl (by kernel_rfl) ok_nil stringslite_HasSuffix.al (fun k x r h => (congrFun (congrFun stringslite_HasSuffix.h2 k) x).symm.trans (stringslite_HasSuffix.bf k _ _ r h))
def stringslite_CutSuffix.c : Sym.Callee := ⟨(.cons .str (.cons .str .nil)), (.cons .str (.cons .bool .nil)), true, ByteArray × Bool, fun k x => stringslite_CutSuffix.f x.1 x.2.1, fun z => (z.1, z.2, ()), []⟩
def stringslite_CutSuffix.nf (k : Nat) (a0 : ByteArray) (a1 : ByteArray) : Option (ByteArray × Bool) := ((stringslite_HasSuffix.f a0 a1).bind fun t1 => (if (!t1) = true then (some (a0, false)) else (if 0 ≤ (wrap64 ((a0.size : Int) - (a1.size : Int))) then (if (wrap64 ((a0.size : Int) - (a1.size : Int))) ≤ (a0.size : Int) then (some ((a0.extract 0 ((wrap64 ((a0.size : Int) - (a1.size : Int)))).toNat), true)) else none) else none)))
noncomputable def stringslite_CutSuffix.E : Env (ByteArray × Bool) := envOf tab Tryd.f69 true (.cons .str (.cons .bool .nil)) [] (fun y => (y.1, y.2.1)) [(92, stringslite_HasSuffix.c)] [] []
theorem stringslite_CutSuffix.h1 : obls stringslite_CutSuffix.E Tryd.f69 = [] := by kernel_rfl
theorem stringslite_CutSuffix.h2 : (fun k (x : El (.cons .str (.cons .str .nil))) => stringslite_CutSuffix.nf k x.1 x.2.1) = fun k x => mainK stringslite_CutSuffix.E Tryd.f69 (.cons .str (.cons .str .nil)) k x := by kernel_rfl
set_option maxHeartbeats 2000000 in
theorem stringslite_CutSuffix.bf (k : Nat) (a0 : ByteArray) (a1 : ByteArray) : Lo (stringslite_CutSuffix.f a0 a1) (stringslite_CutSuffix.nf k a0 a1) := by
  unfold stringslite_CutSuffix.f stringslite_CutSuffix.nf
  try simp only [Bool.false_xor, Bool.true_xor, wu8_64, wu8_u64, byL_nums, btS_bt, nil_tl, beq_decL, beq_decI]
  repeat' first
    | (with_reducible exact lo_refl _)
    | exact lo_none _
    | (with_reducible refine lo_lpos (by first | assumption | decide) ?_)
    | (with_reducible refine lo_lneg (by first | assumption | decide) ?_)
    | (with_reducible refine lo_ite (fun _ => ?_) (fun _ => ?_))
    | (with_reducible refine lo_bind (fun _ => ?_))
    | (with_reducible refine lo_left ?_)
    | (refine lo_neg (by decide) ?_)
    | (refine lo_pos (by first | assumption | omega) ?_)
    | (refine lo_neg (by first | assumption | omega) ?_)
    | (with_reducible refine lo_test (fun _ => by first | assumption | omega | (simp only [List.length_cons, List.length_nil]; omega) | decide) (fun _ => ?_))
    | (with_reducible refine lo_testn (fun _ => by first | assumption | omega) (fun _ => ?_))
    | (with_reducible refine lo_and (fun z => by first | exact z.1 | omega) (fun z => by first | exact z.2 | omega) (fun _ => ?_))
    | exact lo_refl _
    | (with_reducible refine lo_iff (by first | exact Iff.rfl | omega | (simp; done) | decide) (fun _ => ?_) (fun _ => ?_))
    | (with_reducible refine lo_iffn (by first | exact Iff.rfl | omega | (simp; done) | decide) (fun _ => ?_) (fun _ => ?_))
    | refine lo_ite (fun _ => ?_) (fun _ => ?_)
    | refine lo_bind (fun _ => ?_)
    | (refine lo_some ?_; first | rfl | (rw [Bool.false_xor]; rfl) | (rw [Bool.true_xor]; rfl) | (simp only [Bool.and_true]; rfl) | (simp; done))
    | (simp only [Int.zero_sub]; exact lo_refl _)
    | (with_reducible refine lo_lpos (by omega) ?_)
    | (with_reducible refine lo_lneg (by omega) ?_)
    | (with_reducible refine lo_lite (fun _ => ?_) (fun _ => ?_))
    | (with_reducible refine lo_rite (fun _ => ?_) (fun _ => ?_))
  all_goals (exfalso; first | omega | (simp_all; done) | (simp_all; omega))
theorem stringslite_CutSuffix.al : AllLe (obls stringslite_CutSuffix.E Tryd.f69) := by
  rw [stringslite_CutSuffix.h1]
  exact .nil
theorem stringslite_CutSuffix.ok : CalleeOk Tryd.prog 69 stringslite_CutSuffix.c := fn_ok tabOk mixed (fun _ => rfl) Tryd.func69 rfl (by kernel_rfl) (ok_cons stringslite_HasSuffix.ok ok_nil) stringslite_CutSuffix.al (fun k x r h => (congrFun (congrFun stringslite_CutSuffix.h2 k) x).symm.trans (stringslite_CutSuffix.bf k _ _ r h))
def strings_CutSuffix.c : Sym.Callee := ⟨(.cons .str (.cons .str .nil)), (.cons .str (.cons .bool .nil)), true, ByteArray × Bool, fun k x => strings_CutSuffix.f x.1 x.2.1, fun z => (z.1, z.2, ()), []⟩
def strings_CutSuffix.nf (k : Nat) (a0 : ByteArray) (a1 : ByteArray) : Option (ByteArray × Bool) := ((stringslite_CutSuffix.f a0 a1).bind fun t1 => (some (t1.1, t1.2)))
noncomputable def strings_CutSuffix.E : Env (ByteArray × Bool) := envOf tab Tryd.f39 true (.cons .str (.cons .bool .nil)) [] (fun y => (y.1, y.2.1)) [(69, stringslite_CutSuffix.c)] [] []
theorem strings_CutSuffix.h1 : obls strings_CutSuffix.E Tryd.f39 = [] := by kernel_rfl
theorem strings_CutSuffix.h2 : (fun k (x : El (.cons .str (.cons .str .nil))) => strings_CutSuffix.nf k x.1 x.2.1) = fun k x => mainK strings_CutSuffix.E Tryd.f39 (.cons .str (.cons .str .nil)) k x := by kernel_rfl
set_option maxHeartbeats 2000000 in
theorem strings_CutSuffix.bf (k : Nat) (a0 : ByteArray) (a1 : ByteArray) : Lo (strings_CutSuffix.f a0 a1) (strings_CutSuffix.nf k a0 a1) := by
  unfold strings_CutSuffix.f strings_CutSuffix.nf
  try simp only [Bool.false_xor, Bool.true_xor, wu8_64, wu8_u64, byL_nums, btS_bt, nil_tl, beq_decL, beq_decI]
  repeat' first
    | (with_reducible exact lo_refl _)
    | exact lo_none _
    | (with_reducible refine lo_lpos (by first | assumption | decide) ?_)
    | (with_reducible refine lo_lneg (by first | assumption | decide) ?_)
    | (with_reducible refine lo_ite (fun _ => ?_) (fun _ => ?_))
    | (with_reducible refine lo_bind (fun _ => ?_))
    | (with_reducible refine lo_left ?_)
    | (refine lo_neg (by decide) ?_)
    | (refine lo_pos (by first | assumption | omega) ?_)
    | (refine lo_neg (by first | assumption | omega) ?_)
    | (with_reducible refine lo_test (fun _ => by first | assumption | omega | (simp only [List.length_cons, List.length_nil]; omega) | decide) (fun _ => ?_))
    | (with_reducible refine lo_testn (fun _ => by first | assumption | omega) (fun _ => ?_))
    | (with_reducible refine lo_and (fun z => by first | exact z.1 | omega) (fun z => by first | exact z.2 | omega) (fun _ => ?_))
    | exact lo_refl _
    | (with_reducible refine lo_iff (by first | exact Iff.rfl | omega | (simp; done) | decide) (fun _ => ?_) (fun _ => ?_))
    | (with_reducible refine lo_iffn (by first | exact Iff.rfl | omega | (simp; done) | decide) (fun _ => ?_) (fun _ => ?_))
    | refine lo_ite (fun _ => ?_) (fun _ => ?_)
    | refine lo_bind (fun _ => ?_)
    | (refine lo_some ?_; first | rfl | (rw [Bool.false_xor]; rfl) | (rw [Bool.true_xor]; rfl) | (simp only [Bool.and_true]; rfl) | (simp; done))
    | (simp only [Int.zero_sub]; exact lo_refl _)
    | (with_reducible refine lo_lpos (by omega) ?_)
    | (with_reducible refine lo_lneg (by omega) ?_)
    | (with_reducible refine lo_lite (fun _ => ?_) (fun _ => ?_))
    | (with_reducible refine lo_rite (fun _ => ?_) (fun _ => ?_))
  all_goals (exfalso; first | omega | (simp_all; done) | (simp_all; omega))
theorem strings_CutSuffix.al : AllLe (obls strings_CutSuffix.E Tryd.f39) := by
  rw [strings_CutSuffix.h1]
  exact .nil
theorem strings_CutSuffix.ok : CalleeOk Tryd.prog 39 strings_CutSuffix.c := fn_ok tabOk mixed (fun _ => rfl) Tryd.func39 rfl (by kernel_rfl) (ok_cons stringslite_CutSuffix.ok ok_nil) strings_CutSuffix.al (fun k x r h => (congrFun (congrFun strings_CutSuffix.h2 k) x).symm.trans (strings_CutSuffix.bf k _ _ r h))
section
open Go.Proofs.YtcgdhpnobgimfaaDoorW.PrintMore Go.Proofs.YtcgdhpnobgimfaaDoorW.PrintLast
set_option maxHeartbeats 1000000
def reg4.T : Bool × List (List Nat × List Nat) := (true, [([], []), ([], []), ([1], [1]), ([0, 2], [0, 2]), ([], []), ([], []), ([5], [5]), ([4, 6], [4, 6]), ([3, 0, 1, 2, 3], [3]), ([7, 8, 0, 1, 2, 3, 4, 5, 6, 7, 8], [7])])
def reg4.B : List Nat := [0, 0, 2, 7, 0, 0, 32, 112, 15, 511]
theorem reg4.tab : rtab .any (opsOf Tryd.f67 4) = reg4.T := by kernel_rfl
theorem reg4.bits : waitsOk reg4.T.2 reg4.B = true := by kernel_rfl
attribute [local go_sem] Oper.semAt_some
theorem lines_calls (s : ByteArray) (w : World) : Calls Tryd.prog 38 #[.string s] w fun e w' => e = .returned (.func (.func 67) #[] #[.pointer (some ⟨w.heap.size, 0, none⟩)]) ∧ w' = w.alloc (.cells #[.string s] 9) := by
  refine (callsIn_wide (n := 3)).1 ?_
  refine callsIn_of_wp Tryd.func38 rfl trivial ?_ rfl
  simp only [Tryd.ntmps38, List.size_toArray, List.length_cons, List.length_nil, Nat.reduceAdd, Nat.reduceSub, Array.replicate_succ, Array.replicate_zero, List.push_toArray, List.append_toArray, List.nil_append, List.cons_append]
  gi_wp2
  go_ret
  exact ⟨rfl, rfl⟩
theorem lines_ib (a0 : ByteArray) (w : World) : Calls Tryd.prog 91 #[.string a0, .int .u8 10] w fun e w' => e = .returned (.int .i64 (Lib.indexByte a0.data.toList 10)) ∧ w' = w := by
  refine calls_of_wp Tryd.func91 rfl ?_
  simp only [Tryd.ntmps91, List.size_toArray, List.length_cons, List.length_nil, Nat.reduceAdd, Nat.reduceSub, Array.replicate_succ, Array.replicate_zero, List.push_toArray, List.append_toArray, List.nil_append, List.cons_append]
  go_wp2
  rw [run_callFunc_extern Tryd.func108 (by kernel_rfl) (by kernel_rfl) (by kernel_rfl) (e := Extern.BytealgIndexByte.indexByte) (by kernel_rfl), Lib.run_indexByteString]
  simp only [Result.andThen]
  rw [Oper.upon_value]
  go_wp2
  go_ret
  exact ⟨rfl, rfl⟩
theorem lines_ib2 (a0 : ByteArray) (w : World) : Calls Tryd.prog 68 #[.string a0, .int .u8 10] w fun e w' => e = .returned (.int .i64 (Lib.indexByte a0.data.toList 10)) ∧ w' = w := by
  refine calls_of_wp Tryd.func68 rfl ?_
  simp only [Tryd.ntmps68, List.size_toArray, List.length_cons, List.length_nil, Nat.reduceAdd, Nat.reduceSub, Array.replicate_succ, Array.replicate_zero, List.push_toArray, List.append_toArray, List.nil_append, List.cons_append]
  go_wp2_with (go_at_call 91; refine (lines_ib _ _).mono ?_; rintro e w' ⟨rfl, rfl⟩)
  go_ret
  exact ⟨rfl, rfl⟩
structure PS (n : Nat) (w W : World) (rec : Loop) (s : ByteArray) (v r0 r1 r2 : Value) : Prop where
  below : Below n w W
  sz : n + 7 ≤ W.heap.size
  c0 : W.heap[n]? = some (.cells #[r0] 47 (0, 0))
  c1 : W.heap[n + 1]? = some (.cells #[r1] 3 (0, 0))
  c2 : W.heap[n + 2]? = some (.cells #[r2] 28 (0, 0))
  co : W.heap[n + 3]? = some (.cells #[v] 47 (0, 0))
  cs : W.heap[n + 4]? = some (.cells #[.string s] 9 (0, 0))
  d : W.heap[n + 5]? = some (.deferred (some []))
  l : W.heap[n + 6]? = some (.loop rec)
theorem pcell_at {W : World} {b t : Nat} {v : Value} (h : W.heap[b]? = some (.cells #[v] t (0, 0))) : W.cell? ⟨b, 0, none⟩ = some v := by
  unfold World.cell?
  simp [h]
theorem pfrz_at {W : World} {b t : Nat} {v : Value} (h : W.heap[b]? = some (.cells #[v] t (0, 0))) : W.frozen? ⟨b, 0, none⟩ = false := by
  unfold World.frozen?
  simp [h]
theorem PS.keep {n : Nat} {w W W' : World} {rec : Loop} {s : ByteArray} {v r0 r1 r2 : Value} (h : PS n w W rec s v r0 r1 r2) (hb : Below (n + 7) W W') : PS n w W' rec s v r0 r1 r2 where
  below := h.below.trans (hb.mono (by omega))
  sz := Nat.le_trans h.sz hb.size
  c0 := (hb.block _ (by omega)).trans h.c0
  c1 := (hb.block _ (by omega)).trans h.c1
  c2 := (hb.block _ (by omega)).trans h.c2
  co := (hb.block _ (by omega)).trans h.co
  cs := (hb.block _ (by omega)).trans h.cs
  d := (hb.block _ (by omega)).trans h.d
  l := (hb.block _ (by omega)).trans h.l
theorem PS.setS {n : Nat} {w W : World} {rec : Loop} {s : ByteArray} {v r0 r1 r2 : Value} (h : PS n w W rec s v r0 r1 r2) (s' : ByteArray) : PS n w (W.drew.setCell ⟨n + 4, 0, none⟩ (.string s')) rec s' v r0 r1 r2 := by
  have ho : ∀ k, k ≠ n + 4 → (W.drew.setCell ⟨n + 4, 0, none⟩ (.string s')).heap[k]? = W.heap[k]? := fun k hk => Below.heap_setCell W.drew _ _ k hk
  exact ⟨h.below.drew.setCell (p := ⟨n + 4, 0, none⟩) (by show n ≤ n + 4; omega) _, by rw [World.size_setCell]; exact h.sz, (ho _ (by omega)).trans h.c0, (ho _ (by omega)).trans h.c1, (ho _ (by omega)).trans h.c2, (ho _ (by omega)).trans h.co, one_setCell (w := W.drew) h.cs, (ho _ (by omega)).trans h.d, (ho _ (by omega)).trans h.l⟩
abbrev L0 : ByteArray := ⟨#[124,10]⟩
abbrev L1 : ByteArray := ⟨#[124,32,97,10]⟩
abbrev S0 : ByteArray := ⟨#[124,10,124,32,97,10]⟩
abbrev recD (r : Loop) : Loop := { r with state := .done, pending := some .ret }
open Classical in
theorem lines_in (n : Nat) (w W1 : World) (rec : Loop) (h : PS n w W1 rec S0 (.slice none 0 0) (.slice none 0 0) (.int .i64 0) (.int .i64 0))
    (hR0 : ∀ W, PS n w W rec L1 (.slice none 0 0) (.slice none 0 0) (.int .i64 0) (.int .i64 0) → YieldAt Fence.wide 7 Tryd.prog (n + 6) #[.string L0] W fun e W' => e = .returned (.bool true) ∧ ∃ a c, PS n w W' rec L1 (.slice (some a) 1 c) (.slice none 0 0) (.int .i64 0) (.int .i64 0))
    (hR1 : ∀ W a c, PS n w W rec ⟨#[]⟩ (.slice (some a) 1 c) (.slice none 0 0) (.int .i64 0) (.int .i64 0) → YieldAt Fence.wide 7 Tryd.prog (n + 6) #[.string L1] W fun e W' => e = .returned (.bool false) ∧ ∃ a c, PS n w W' (recD rec) ⟨#[]⟩ (.slice (some a) 1 c) (.slice none 0 0) (.int .i64 2) (.int .i64 2)) :
    CallsIn Fence.wide 8 Tryd.prog 67 #[.func (.yield (n + 6)) #[] #[], .pointer (some ⟨n + 4, 0, none⟩)] W1 fun e W' => (∃ v, e = .returned v) ∧ ∃ a c, PS n w W' (recD rec) ⟨#[]⟩ (.slice (some a) 1 c) (.slice none 0 0) (.int .i64 2) (.int .i64 2) := by
  have hi0 : Lib.indexByte S0.data.toList 10 = 1 := by decide +kernel
  have hi1 : Lib.indexByte L1.data.toList 10 = 3 := by decide +kernel
  refine callsIn_of_wp Tryd.func67 rfl trivial ?_ rfl
  simp only [Tryd.ntmps67, List.size_toArray, List.length_cons, List.length_nil, Nat.reduceAdd, Nat.reduceSub, Array.replicate_succ, Array.replicate_zero, List.push_toArray, List.append_toArray, List.nil_append, List.cons_append]
  gi_wp2
  gi_loopw [3] (fun p wr => PS n w wr rec S0 (.slice none 0 0) (.slice none 0 0) (.int .i64 0) (.int .i64 0) ∨ ∃ a c, PS n w wr rec L1 (.slice (some a) 1 c) (.slice none 0 0) (.int .i64 0) (.int .i64 0)) (fun p wr => if wr.cell? ⟨n + 3, 0, none⟩ = some (.slice none 0 0) then 1 else 0)
  case atStart => exact .inl h
  case round =>
    rcases hrel with h | ⟨a, c, h⟩
    · have hc := pcell_at h.cs
      have hf := pfrz_at h.cs
      gi_wp2_with (refine ⟨trivial, ?_⟩; gi_at_call 68; refine (callsIn_wide.2 (lines_ib2 _ _)).mono ?_; rintro e w' ⟨rfl, rfl⟩; rw [hi0])
      refine wpIn_wide.2 ?_
      refine start_ (n := 10) (S := fun X => X = w'.drew) (ds := [9]) #[false, false, false, false, false, false, false, false, false, false] (by kernel_rfl) rfl rfl rfl (fun hHeld => ?_); refine with_tabW reg4.tab reg4.bits (fun HT_ HW_ => ?_)
      refine pure_ (i := 1) (N := some 13) (v := .int .i64 1) (a' := ?_) #[false, true, false, false, false, false, false, false, false, false] rfl rfl (any_of HT_.out (by kernel_rfl)) (fun _ _ _ h => h) (Or.inl ⟨by rfl, ?_⟩) ?_ ?_
      · intro w'
        go_simp
      rotate_left
      · simp only [Act.put, List.setIfInBounds_toArray, List.set_cons_zero, List.set_cons_succ]
        rfl
      refine take_ (i := 0) (N := some 12) (v := .string S0) (a' := ?_) #[true, true, false, false, false, false, false, false, false, false] rfl rfl (take_ofW HT_.out HW_.out (by kernel_rfl)) (fun _ _ _ h => h) (Or.inl ⟨by rfl, ?_⟩) rfl ?_ ?_
      · rintro w2 rfl
        have hcc := pcell_at (W := w'.drew) h.cs
        go_simp
      rotate_left
      · simp only [Act.put, List.setIfInBounds_toArray, List.set_cons_zero, List.set_cons_succ]
        rfl
      refine pure_ (i := 2) (N := some 14) (v := .int .i64 2) (a' := ?_) #[true, true, true, false, false, false, false, false, false, false] rfl rfl (any_of HT_.out (by kernel_rfl)) (fun _ _ _ h => h) (Or.inl ⟨by rfl, ?_⟩) ?_ ?_
      · intro w'
        go_simp
        try rfl
      rotate_left
      · simp only [Act.put, List.setIfInBounds_toArray, List.set_cons_zero, List.set_cons_succ]
        rfl
      refine pure_ (i := 3) (N := some 15) (v := .string (S0.extract 0 2)) (a' := ?_) #[true, true, true, true, false, false, false, false, false, false] rfl rfl (any_of HT_.out (by kernel_rfl)) (fun _ _ _ h => h) (Or.inl ⟨by rfl, ?_⟩) ?_ ?_
      · intro w'
        go_simp
        try rfl
      rotate_left
      · simp only [Act.put, List.setIfInBounds_toArray, List.set_cons_zero, List.set_cons_succ]
        rfl
      refine pure_ (i := 5) (N := some 17) (v := .int .i64 1) (a' := ?_) #[true, true, true, true, false, true, false, false, false, false] rfl rfl (any_of HT_.out (by kernel_rfl)) (fun _ _ _ h => h) (Or.inl ⟨by rfl, ?_⟩) ?_ ?_
      · intro w'
        go_simp
      rotate_left
      · simp only [Act.put, List.setIfInBounds_toArray, List.set_cons_zero, List.set_cons_succ]
        rfl
      refine take_ (i := 4) (N := some 16) (v := .string S0) (a' := ?_) #[true, true, true, true, true, true, false, false, false, false] rfl rfl (take_ofW HT_.out HW_.out (by kernel_rfl)) (fun _ _ _ h => h) (Or.inl ⟨by rfl, ?_⟩) rfl ?_ ?_
      · rintro w2 rfl
        have hcc := pcell_at (W := w'.drew) h.cs
        go_simp
      rotate_left
      · simp only [Act.put, List.setIfInBounds_toArray, List.set_cons_zero, List.set_cons_succ]
        rfl
      refine pure_ (i := 6) (N := some 18) (v := .int .i64 2) (a' := ?_) #[true, true, true, true, true, true, true, false, false, false] rfl rfl (any_of HT_.out (by kernel_rfl)) (fun _ _ _ h => h) (Or.inl ⟨by rfl, ?_⟩) ?_ ?_
      · intro w'
        go_simp
        try rfl
      rotate_left
      · simp only [Act.put, List.setIfInBounds_toArray, List.set_cons_zero, List.set_cons_succ]
        rfl
      refine pure_ (i := 7) (N := some 19) (v := .string (S0.extract 2 S0.size)) (a' := ?_) #[true, true, true, true, true, true, true, true, false, false] rfl rfl (any_of HT_.out (by kernel_rfl)) (fun _ _ _ h => h) (Or.inl ⟨by rfl, ?_⟩) ?_ ?_
      · intro w'
        go_simp
        try rfl
      rotate_left
      · simp only [Act.put, List.setIfInBounds_toArray, List.set_cons_zero, List.set_cons_succ]
        rfl
      refine pure_ (i := 8) (N := some 3) (v := .string (S0.extract 0 2)) (a' := ?_) #[true, true, true, true, true, true, true, true, true, false] rfl rfl (any_of HT_.out (by kernel_rfl)) (fun _ _ _ h => h) (Or.inl ⟨by rfl, ?_⟩) ?_ ?_
      · intro w'
        go_simp
      rotate_left
      · simp only [Act.put, List.setIfInBounds_toArray, List.set_cons_zero, List.set_cons_succ]
        rfl
      refine last_ (i := 9) (N := none) #[true, true, true, true, true, true, true, true, true, true] rfl rfl (one_of HT_.out (by kernel_rfl)) (by decide) (fun K hK => ?_)
      have hcc := pcell_at (W := w'.drew) h.cs
      have hff := pfrz_at (W := w'.drew) h.cs
      refine skip_ (w1 := ?_) (by rfl) rfl ?_ ?_
      rotate_left
      · go_simp
        rfl
      refine hK.out _ _ ?_
      clear hK K
      refine done_ (done_of HT_.out (by kernel_rfl)) ?_
      have hX0 : S0.extract 2 6 = L1 := by decide +kernel
      have hX1 : S0.extract 0 2 = L0 := by decide +kernel
      have h2 := h.setS (S0.extract 2 6)
      rw [hX0] at h2
      rw [hX1]
      rename_i K Q hK
      refine hK _ _ ?_
      have h3 : PS n w (World.drew (World.setCell w' ⟨n + 4, 0, none⟩ (.string (S0.extract 2 6)))) rec L1 (.slice none 0 0) (.slice none 0 0) (.int .i64 0) (.int .i64 0) := by
        rw [hX0]
        exact h2
      generalize World.drew (World.setCell w' _ _) = wr2 at h3 ⊢
      clear h2
      have h2 := h3
      obtain ⟨fn, tmps, assign, body, hy, hR⟩ := hR0 _ h2
      gi_wp2
      refine hR.mono ?_
      rintro e W3 ⟨rfl, a, c, h3⟩
      gi_wp2
      go_roundw
      case rel => exact .inr ⟨a, c, h3⟩
      case measure =>
        rw [pcell_at h3.co, pcell_at h.co]
        simp
    · have hc := pcell_at h.cs
      have hf := pfrz_at h.cs
      gi_wp2_with (refine ⟨trivial, ?_⟩; gi_at_call 68; refine (callsIn_wide.2 (lines_ib2 _ _)).mono ?_; rintro e w' ⟨rfl, rfl⟩; rw [hi1])
      refine wpIn_wide.2 ?_
      refine start_ (n := 10) (S := fun X => X = w'.drew) (ds := [9]) #[false, false, false, false, false, false, false, false, false, false] (by kernel_rfl) rfl rfl rfl (fun hHeld => ?_); refine with_tabW reg4.tab reg4.bits (fun HT_ HW_ => ?_)
      refine pure_ (i := 1) (N := some 13) (v := .int .i64 3) (a' := ?_) #[false, true, false, false, false, false, false, false, false, false] rfl rfl (any_of HT_.out (by kernel_rfl)) (fun _ _ _ h => h) (Or.inl ⟨by rfl, ?_⟩) ?_ ?_
      · intro w'
        go_simp
      rotate_left
      · simp only [Act.put, List.setIfInBounds_toArray, List.set_cons_zero, List.set_cons_succ]
        rfl
      refine take_ (i := 0) (N := some 12) (v := .string L1) (a' := ?_) #[true, true, false, false, false, false, false, false, false, false] rfl rfl (take_ofW HT_.out HW_.out (by kernel_rfl)) (fun _ _ _ h => h) (Or.inl ⟨by rfl, ?_⟩) rfl ?_ ?_
      · rintro w2 rfl
        have hcc := pcell_at (W := w'.drew) h.cs
        go_simp
      rotate_left
      · simp only [Act.put, List.setIfInBounds_toArray, List.set_cons_zero, List.set_cons_succ]
        rfl
      refine pure_ (i := 2) (N := some 14) (v := .int .i64 4) (a' := ?_) #[true, true, true, false, false, false, false, false, false, false] rfl rfl (any_of HT_.out (by kernel_rfl)) (fun _ _ _ h => h) (Or.inl ⟨by rfl, ?_⟩) ?_ ?_
      · intro w'
        go_simp
        try rfl
      rotate_left
      · simp only [Act.put, List.setIfInBounds_toArray, List.set_cons_zero, List.set_cons_succ]
        rfl
      refine pure_ (i := 3) (N := some 15) (v := .string (L1.extract 0 4)) (a' := ?_) #[true, true, true, true, false, false, false, false, false, false] rfl rfl (any_of HT_.out (by kernel_rfl)) (fun _ _ _ h => h) (Or.inl ⟨by rfl, ?_⟩) ?_ ?_
      · intro w'
        go_simp
        try rfl
      rotate_left
      · simp only [Act.put, List.setIfInBounds_toArray, List.set_cons_zero, List.set_cons_succ]
        rfl
      refine pure_ (i := 5) (N := some 17) (v := .int .i64 3) (a' := ?_) #[true, true, true, true, false, true, false, false, false, false] rfl rfl (any_of HT_.out (by kernel_rfl)) (fun _ _ _ h => h) (Or.inl ⟨by rfl, ?_⟩) ?_ ?_
      · intro w'
        go_simp
      rotate_left
      · simp only [Act.put, List.setIfInBounds_toArray, List.set_cons_zero, List.set_cons_succ]
        rfl
      refine take_ (i := 4) (N := some 16) (v := .string L1) (a' := ?_) #[true, true, true, true, true, true, false, false, false, false] rfl rfl (take_ofW HT_.out HW_.out (by kernel_rfl)) (fun _ _ _ h => h) (Or.inl ⟨by rfl, ?_⟩) rfl ?_ ?_
      · rintro w2 rfl
        have hcc := pcell_at (W := w'.drew) h.cs
        go_simp
      rotate_left
      · simp only [Act.put, List.setIfInBounds_toArray, List.set_cons_zero, List.set_cons_succ]
        rfl
      refine pure_ (i := 6) (N := some 18) (v := .int .i64 4) (a' := ?_) #[true, true, true, true, true, true, true, false, false, false] rfl rfl (any_of HT_.out (by kernel_rfl)) (fun _ _ _ h => h) (Or.inl ⟨by rfl, ?_⟩) ?_ ?_
      · intro w'
        go_simp
        try rfl
      rotate_left
      · simp only [Act.put, List.setIfInBounds_toArray, List.set_cons_zero, List.set_cons_succ]
        rfl
      refine pure_ (i := 7) (N := some 19) (v := .string (L1.extract 4 L1.size)) (a' := ?_) #[true, true, true, true, true, true, true, true, false, false] rfl rfl (any_of HT_.out (by kernel_rfl)) (fun _ _ _ h => h) (Or.inl ⟨by rfl, ?_⟩) ?_ ?_
      · intro w'
        go_simp
        try rfl
      rotate_left
      · simp only [Act.put, List.setIfInBounds_toArray, List.set_cons_zero, List.set_cons_succ]
        rfl
      refine pure_ (i := 8) (N := some 3) (v := .string (L1.extract 0 4)) (a' := ?_) #[true, true, true, true, true, true, true, true, true, false] rfl rfl (any_of HT_.out (by kernel_rfl)) (fun _ _ _ h => h) (Or.inl ⟨by rfl, ?_⟩) ?_ ?_
      · intro w'
        go_simp
      rotate_left
      · simp only [Act.put, List.setIfInBounds_toArray, List.set_cons_zero, List.set_cons_succ]
        rfl
      refine last_ (i := 9) (N := none) #[true, true, true, true, true, true, true, true, true, true] rfl rfl (one_of HT_.out (by kernel_rfl)) (by decide) (fun K hK => ?_)
      have hcc := pcell_at (W := w'.drew) h.cs
      have hff := pfrz_at (W := w'.drew) h.cs
      refine skip_ (w1 := ?_) (by rfl) rfl ?_ ?_
      rotate_left
      · go_simp
        rfl
      refine hK.out _ _ ?_
      clear hK K
      refine done_ (done_of HT_.out (by kernel_rfl)) ?_
      have hX1 : L1.extract 0 4 = L1 := by decide +kernel
      have h2 := h.setS ByteArray.empty
      rw [hX1]
      rename_i K Q hK
      refine hK _ _ ?_
      have h3 : PS n w (World.drew (World.setCell w' ⟨n + 4, 0, none⟩ (.string ByteArray.empty))) rec ⟨#[]⟩ (.slice (some a) 1 c) (.slice none 0 0) (.int .i64 0) (.int .i64 0) := h2
      generalize World.drew (World.setCell w' _ _) = wr2 at h3 ⊢
      clear h2
      have h2 := h3
      obtain ⟨fn, tmps, assign, body, hy, hR⟩ := hR1 _ _ _ h2
      gi_wp2
      refine hR.mono ?_
      rintro e W3 ⟨rfl, a, c, h3⟩
      gi_wp2
      refine bodyPost_ret (results_none rfl _ _ _) rfl ?_
      exact ⟨⟨_, rfl⟩, a, c, h3⟩
theorem cut_calls (F : Nat → Nat) (W : World) (line body : ByteArray) (hL : Laid Tryd.prog W) (hfin : ∀ b, 0 < F b → b < W.heap.size) (hy : strings_CutSuffix.c.fn 60 (line, ⟨#[10]⟩, ()) = some (body, true)) :
    Calls Tryd.prog 39 #[.string line, .string ⟨#[10]⟩] W fun e w' => e = .returned (.tuple #[.string body, .bool true]) ∧ Below W.heap.size W w' := by
  refine (strings_CutSuffix.ok.calls 60 W F [.string line, .string ⟨#[10]⟩] (line, ⟨#[10]⟩, ()) _ hL hfin ⟨_, _, rfl, ⟨_, rfl, rfl⟩, _, _, rfl, ⟨_, rfl, rfl⟩, rfl⟩ hy).mono ?_
  rintro e w' ⟨v, F', rfl, hg, hf, hr⟩
  obtain ⟨vs, rfl, ⟨v1, us, rfl, ⟨c1, h1, rfl⟩, v2, us2, rfl, ⟨c2, h2, rfl⟩, rfl⟩, _⟩ := hr
  rw [show c1 = _ from h1, show c2 = _ from h2]
  exact ⟨rfl, hg.below⟩
theorem get_calls (F : Nat → Nat) (W : World) (body : ByteArray) (z : Int) (hL : Laid Tryd.prog W) (hfin : ∀ b, 0 < F b → b < W.heap.size) (hy : input_Get.c.fn 60 (body, ()) = some (([], [], ()), z, ())) :
    Calls Tryd.prog 8 #[.string body] W fun e w' => (∃ A c B d, e = .returned (.tuple #[.agg #[.slice A 0 c, .slice B 0 d], .int .i64 z])) ∧ Below W.heap.size W w' := by
  refine (input_Get.ok.calls 60 W F [.string body] (body, ()) _ hL hfin ⟨_, _, rfl, ⟨_, rfl, rfl⟩, rfl⟩ hy).mono ?_
  rintro e w' ⟨v, F', rfl, hg, hf, hr⟩
  obtain ⟨vs, rfl, ⟨v1, us, rfl, ⟨c1, h1, rfl⟩, v2, us2, rfl, ⟨c2, h2, rfl⟩, rfl⟩, _⟩ := hr
  obtain ⟨d1, d2, rfl, ⟨A, c, rfl, _⟩, e1, e2, rfl, ⟨B, d, rfl, _⟩, h3⟩ := h1
  rw [show c2 = _ from h2, show e2 = _ from h3]
  exact ⟨⟨A, c, B, d, rfl⟩, hg.below⟩
theorem rowsIn_of {l n : Nat} {P : Program} {row : String} {args : Array Value} {w : World} {R : Value → World → Prop} (h : Rows P row args w R) : RowsIn (Fence.wide.inRound l) n P row args w R := fun c cs _ => by
  obtain ⟨v, w', h1, h2⟩ := h c cs
  exact ⟨v, w', h1, stepsIn_wide.2 h2⟩
theorem wpIn_of_wp {l n : Nat} {P : Program} {o : Oper} {a : Act} {w : World} {next : Act → World → Prop} {Q : Exit → Act → World → Prop} (hd : ∀ c, o.op ≠ .defer c) (h : o.wp P a w next Q) : o.wpIn (Fence.wide.inRound l) n P a w next Q := by
  refine ⟨fun _ _ => trivial, ?_⟩
  rw [Oper.semAt_plain _ _ _ hd]
  unfold Oper.wp at h
  generalize (execOp a.eval o).run P w = r at h ⊢
  cases r with
  | ok x w' =>
    cases x <;> simp only [Oper.upon, Oper.uponIn] at h ⊢ <;>
      first
        | exact h
        | exact ⟨fun q => absurd q (by simp [Fence.inRound, Fence.wide]), callsIn_wide.2 h⟩
        | exact ⟨fun q => absurd q (by simp [Fence.inRound, Fence.wide]), rowsIn_of h⟩
        | exact h.elim
  | halt x w' => cases x <;> simp only [Oper.upon, Oper.uponIn] at h ⊢ <;> exact h
def noDefer (ops : Array Oper) : Bool := ops.all fun o => match o.op with
  | .defer _ => false
  | _ => true
theorem wpAnyIn_of {l n : Nat} {P : Program} {md : Region.Mode} {ops : Array Oper} {Q : Exit → Act → World → Prop} (hno : ¬ LetsOut Q) (hd : noDefer ops = true) : ∀ (fuel : Nat) (listed : Array Bool) (a : Act) (w : World), wpAny P md ops Q fuel listed a w → wpAnyIn (Fence.wide.inRound l) n P md ops Q fuel listed a w
  | 0, listed, a, w, h => h
  | fuel + 1, listed, a, w, h => by
    refine ⟨h.1, fun i hi => ?_⟩
    have h2 := h.2 i hi
    unfold wpOp at h2
    unfold wpOpIn
    split
    · rename_i q
      rw [q] at h2
      exact wpAnyIn_of hno hd fuel _ a w h2
    · rename_i o q
      rw [q] at h2
      simp only at h2
      split
      · rename_i hw
        rw [if_pos hw] at h2
        rcases h2 with h2 | h2
        · refine wpIn_of_wp (fun c e => ?_) (Oper.wp_mono (fun a w => wpAnyIn_of hno hd fuel _ a w) h2)
          have := (Array.all_eq_true_iff_forall_mem.1 hd) o (Array.mem_of_getElem? q)
          rw [e] at this
          cases this
        · exact absurd h2.2 hno
      · rename_i hw
        rw [if_neg hw] at h2
        exact ⟨fun _ _ => trivial, wpAnyIn_of hno hd fuel _ _ w h2⟩
theorem PS.setR0 {n : Nat} {w W : World} {rec : Loop} {s : ByteArray} {v r0 r1 r2 : Value} (h : PS n w W rec s v r0 r1 r2) (v' : Value) : PS n w (W.setCell ⟨n, 0, none⟩ v') rec s v v' r1 r2 := by
  have ho : ∀ k, k ≠ n → (W.setCell ⟨n, 0, none⟩ v').heap[k]? = W.heap[k]? := fun k hk => Below.heap_setCell W _ _ k hk
  exact ⟨h.below.setCell (p := ⟨n, 0, none⟩) (by show n ≤ n; omega) _, by rw [World.size_setCell]; exact h.sz, one_setCell h.c0, (ho _ (by omega)).trans h.c1, (ho _ (by omega)).trans h.c2, (ho _ (by omega)).trans h.co, (ho _ (by omega)).trans h.cs, (ho _ (by omega)).trans h.d, (ho _ (by omega)).trans h.l⟩
theorem PS.setR1 {n : Nat} {w W : World} {rec : Loop} {s : ByteArray} {v r0 r1 r2 : Value} (h : PS n w W rec s v r0 r1 r2) (v' : Value) : PS n w (W.setCell ⟨n + 1, 0, none⟩ v') rec s v r0 v' r2 := by
  have ho : ∀ k, k ≠ n + 1 → (W.setCell ⟨n + 1, 0, none⟩ v').heap[k]? = W.heap[k]? := fun k hk => Below.heap_setCell W _ _ k hk
  exact ⟨h.below.setCell (p := ⟨n + 1, 0, none⟩) (by show n ≤ n + 1; omega) _, by rw [World.size_setCell]; exact h.sz, (ho _ (by omega)).trans h.c0, one_setCell h.c1, (ho _ (by omega)).trans h.c2, (ho _ (by omega)).trans h.co, (ho _ (by omega)).trans h.cs, (ho _ (by omega)).trans h.d, (ho _ (by omega)).trans h.l⟩
theorem PS.setR2 {n : Nat} {w W : World} {rec : Loop} {s : ByteArray} {v r0 r1 r2 : Value} (h : PS n w W rec s v r0 r1 r2) (v' : Value) : PS n w (W.setCell ⟨n + 1 + 1, 0, none⟩ v') rec s v r0 r1 v' := by
  have ho : ∀ k, k ≠ n + 1 + 1 → (W.setCell ⟨n + 1 + 1, 0, none⟩ v').heap[k]? = W.heap[k]? := fun k hk => Below.heap_setCell W _ _ k hk
  exact ⟨h.below.setCell (p := ⟨n + 1 + 1, 0, none⟩) (by show n ≤ n + 1 + 1; omega) _, by rw [World.size_setCell]; exact h.sz, (ho _ (by omega)).trans h.c0, (ho _ (by omega)).trans h.c1, one_setCell h.c2, (ho _ (by omega)).trans h.co, (ho _ (by omega)).trans h.cs, (ho _ (by omega)).trans h.d, (ho _ (by omega)).trans h.l⟩
def reg9.T : Bool × List (List Nat × List Nat) := (true, [([], []), ([0], [0]), ([1], [1]), ([], []), ([], []), ([2, 4, 0, 1, 2, 4], [2]), ([3, 5, 0, 1, 2, 3, 4, 5], [3])])
def reg9.B : List Nat := [0, 1, 3, 0, 0, 23, 63]
theorem reg9.tab : rtab .any (opsOf Tryd.f18 9) = reg9.T := by kernel_rfl
theorem reg9.bits : waitsOk reg9.T.2 reg9.B = true := by kernel_rfl
theorem res_cell {W : World} {b t t1 i : Nat} {v : Value} {a : Act} (hd : (tab.row t).d ≠ .other) (hs : (tab.ty t).size = 1) (hg : (tab.ty t).agg = false) (ha : a.tmps.getD i undef = .pointer (some ⟨b, 0, none⟩)) (hc : W.heap[b]? = some (.cells #[v] t1 (0, 0))) : (resSem a (.cell i t)).run Tryd.prog W = .ok v W := by
  have hl := (tabOk.row hd).load (w := W) (b := b) (o := 0) (cs := [v]) (fun j u hj => by rw [block_cell (off := 0) hc, Nat.zero_add]; simpa using hj) (by rw [hs]; rfl)
  show (do loadVar t (← asAddr (a.tmps.getD i undef)) : Sem Value).run Tryd.prog W = _
  rw [ha]
  have hp : pack (tab.ty t) [v] = v := by unfold pack; rw [hg]; rfl
  rw [hp] at hl
  simpa [Instr.loadAt, Instr.sureAddr, asAddr] using hl
theorem res_three {W : World} {fn : Func} {i j k s t u : Nat} {x y z : Value} {a : Act} (hr : fn.results = #[.cell i s, .cell j t, .cell k u]) (h1 : (resSem a (.cell i s)).run Tryd.prog W = .ok x W) (h2 : (resSem a (.cell j t)).run Tryd.prog W = .ok y W) (h3 : (resSem a (.cell k u)).run Tryd.prog W = .ok z W) :
    (results fn a.tmps).run Tryd.prog W = .ok (.tuple #[x, y, z]) W := by
  rw [results_eq, hr]
  simp only [Array.mapM_eq_mapM_toList]
  have h4 : (([.cell i s, .cell j t, .cell k u] : List ResultVar).mapM (resSem a)).run Tryd.prog W = .ok [x, y, z] W := by
    rw [List.mapM_cons, Sem.run_bind, h1]
    simp only [Result.andThen_ok, Sem.run_bind, List.mapM_cons, h2, h3, List.mapM_nil]
    rfl
  rw [Sem.run_bind, map_eq_pure_bind, Sem.run_bind, h4]
  rfl
theorem palloc {W : World} {b t : Nat} {v : Value} (o : Obj) (h : W.heap[b]? = some (.cells #[v] t (0, 0))) : (W.alloc o).heap[b]? = some (.cells #[v] t (0, 0)) := (Below.heap_alloc W o b (Array.getElem?_eq_some_iff.1 h).1).trans h
theorem cut0 : strings_CutSuffix.c.fn 60 (L0, ⟨#[10]⟩, ()) = some (⟨#[124]⟩, true) := by kernel_rfl
theorem cut1 : strings_CutSuffix.c.fn 60 (L1, ⟨#[10]⟩, ()) = some (⟨#[124, 32, 97]⟩, true) := by kernel_rfl
theorem get0 : input_Get.c.fn 60 (⟨#[124]⟩, ()) = some (([], [], ()), 0, ()) := by kernel_rfl
theorem get1 : input_Get.c.fn 60 (⟨#[124, 32, 97]⟩, ()) = some (([], [], ()), 2, ()) := by kernel_rfl
theorem P.info25 : (Tryd.prog.info? 25).map (fun i => (i.zero, i.size, i.bytes)) = some (some (.agg #[.slice none 0 0, .slice none 0 0]), 2, 48) := by kernel_rfl
theorem PS.setOut {n : Nat} {w W : World} {rec : Loop} {s : ByteArray} {v r0 r1 r2 : Value} (h : PS n w W rec s v r0 r1 r2) (v' : Value) : PS n w (W.setCell ⟨n + 3, 0, none⟩ v') rec s v' r0 r1 r2 := by
  have ho : ∀ k, k ≠ n + 3 → (W.setCell ⟨n + 3, 0, none⟩ v').heap[k]? = W.heap[k]? := fun k hk => Below.heap_setCell W _ _ k hk
  exact ⟨h.below.setCell (p := ⟨n + 3, 0, none⟩) (by show n ≤ n + 3; omega) _, by rw [World.size_setCell]; exact h.sz, (ho _ (by omega)).trans h.c0, (ho _ (by omega)).trans h.c1, (ho _ (by omega)).trans h.c2, one_setCell h.co, (ho _ (by omega)).trans h.cs, (ho _ (by omega)).trans h.d, (ho _ (by omega)).trans h.l⟩
theorem PS.setL {n : Nat} {w W : World} {rec : Loop} {s : ByteArray} {v r0 r1 r2 : Value} (h : PS n w W rec s v r0 r1 r2) (rec' : Loop) : PS n w (W.putObj (n + 6) (.loop rec')) rec' s v r0 r1 r2 := by
  have ho : ∀ k, k ≠ n + 6 → (W.putObj (n + 6) (.loop rec')).heap[k]? = W.heap[k]? := fun k hk => World.putObj_heap_other hk
  exact ⟨h.below.grown (grownBy_putObj' W (n + 6) _) (by have := h.sz; omega) (fun k e => by cases e; omega), by rw [World.putObj_size]; exact h.sz, (ho _ (by omega)).trans h.c0, (ho _ (by omega)).trans h.c1, (ho _ (by omega)).trans h.c2, (ho _ (by omega)).trans h.co, (ho _ (by omega)).trans h.cs, (ho _ (by omega)).trans h.d, World.putObj_heap_same (by have := h.sz; omega)⟩
theorem PS.setL2 {n : Nat} {w W W2 : World} {rec rec' : Loop} {s : ByteArray} {v r0 r1 r2 : Value} (h : PS n w W rec s v r0 r1 r2) (e : W.putObj (n + 6) (.loop rec') = W2) : PS n w W2 rec' s v r0 r1 r2 := e ▸ h.setL rec'
theorem range_at {F : Fence} {P : Program} {n : Nat} {g : Operand} {ps : Array Tmp} {assign body : Code} {Q : Exit → Act → World → Prop} {a : Act} {w : World} {gf : Nat} {lb : Array Value} (hro : F.round = none) (h1 : 1 ≤ n) (hg : a.eval g = .func (.func gf) #[] lb) (hFg : F.fn gf) (eg : ∀ args w, (callFunc gf args).run P w = .ok (.enter gf args) w)
    (h : ∀ fn W1, F.fn fn → W1 = (w.alloc (.deferred (some []))).alloc (.loop { state := .ready, pending := none, fn := fn, tmps := a.tmps, params := ps, assign := assign, body := body, defers := w.heap.size }) →
      CallsIn F (n - 1) P gf (#[.func (.yield (w.heap.size + 1)) #[] #[]] ++ lb) W1 (rangePost F n P (w.heap.size + 1) Q { a with defers := [{ target := .collected w.heap.size, args := #[] }] ++ a.defers })) :
    (Code.rangeFunc g ps assign body).wpIn F n P Q a w := by
  refine wpIn_rangeFunc ?_
  intro fn hfn
  rw [hro]
  obtain ⟨W1, hW1⟩ : ∃ W1, (w.alloc (.deferred (some []))).alloc (.loop { state := .ready, pending := none, fn := fn, tmps := a.tmps, params := ps, assign := assign, body := body, defers := w.heap.size }) = W1 := ⟨_, rfl⟩
  refine ⟨w.heap.size + 1, [{ target := .collected w.heap.size, args := #[] }], W1, { target := .fn (.func gf) lb, args := #[.func (.yield (w.heap.size + 1)) #[] #[]] }, W1, gf, #[.func (.yield (w.heap.size + 1)) #[] #[]] ++ lb, W1, ?_, ?_, ?_, ?_, fun _ => h1, ?_⟩
  rotate_left 4
  · have hh := h fn W1 hfn hW1.symm
    exact hh
  · rw [← hW1]; exact run_enterLoop_outer _ _ _ _ _
  · simp only [resolve, hg]
    simp [go_sem]
  · intro f' hf'; simp [Target.leads] at hf'; subst hf'; exact hFg
  · simp [invoke, go_sem, eg]
theorem PS.start {w W0 W1 : World} {r : Loop} {n : Nat} (hn : w.heap.size = n) (h0 : ((((w.alloc (.cells #[.slice none 0 0] 47)).alloc (.cells #[.int .i64 0] 3)).alloc (.cells #[.int .i64 0] 28)).alloc (.cells #[.slice none 0 0] 47)).alloc (.cells #[.string S0] 9) = W0) (h1 : W1 = (W0.alloc (.deferred (some []))).alloc (.loop r)) : PS n w W1 r S0 (.slice none 0 0) (.slice none 0 0) (.int .i64 0) (.int .i64 0) := by
  subst h1 h0 hn
  have old : ∀ (A : World) (o : Obj) (k : Nat), k < A.heap.size → (A.alloc o).heap[k]? = A.heap[k]? := fun A o k hk => Below.heap_alloc A o k hk
  have new : ∀ (A : World) (o : Obj) (k : Nat), k = A.heap.size → (A.alloc o).heap[k]? = some o := fun A o k hk => by rw [hk]; exact World.alloc_heap_new A o
  refine ⟨?_, by simp, ?_, ?_, ?_, ?_, ?_, ?_, ?_⟩
  · exact (((((((Below.refl _ w).alloc (by simp) _).alloc (by simp) _).alloc (by simp only [World.size_alloc]; omega) _).alloc (by simp only [World.size_alloc]; omega) _).alloc (by simp only [World.size_alloc]; omega) _).alloc (by simp only [World.size_alloc]; omega) _).alloc (by simp only [World.size_alloc]; omega) _
  · repeat rw [old _ _ _ (by simp only [World.size_alloc]; omega)]
    exact new _ _ _ rfl
  · repeat rw [old _ _ _ (by simp only [World.size_alloc]; omega)]
    exact new _ _ _ (by simp only [World.size_alloc])
  · repeat rw [old _ _ _ (by simp only [World.size_alloc]; omega)]
    exact new _ _ _ (by simp only [World.size_alloc])
  · repeat rw [old _ _ _ (by simp only [World.size_alloc]; omega)]
    exact new _ _ _ (by simp only [World.size_alloc])
  · repeat rw [old _ _ _ (by simp only [World.size_alloc]; omega)]
    exact new _ _ _ (by simp only [World.size_alloc])
  · repeat rw [old _ _ _ (by simp only [World.size_alloc]; omega)]
    exact new _ _ _ (by simp only [World.size_alloc])
  · exact new _ _ _ (by simp only [World.size_alloc])
theorem parse_calls (F : Nat → Nat) (w : World) (hL : Laid Tryd.prog w) (hfin : ∀ b, 0 < F b → b < w.heap.size) : Calls Tryd.prog 18 #[.string S0] w fun e w' => e = .returned (.tuple #[.slice none 0 0, .int .i64 2, .int .i64 2]) ∧ Below w.heap.size w w' := by
  obtain ⟨i0, hi, hz0, hz1, hz2⟩ := info_parts P.info25
  refine (callsIn_wide (n := 9)).1 ?_
  refine callsIn_of_wp_marks Tryd.func18 rfl trivial ?_ rfl
  simp only [Tryd.ntmps18, List.size_toArray, List.length_cons, List.length_nil, Nat.reduceAdd, Nat.reduceSub, Array.replicate_succ, Array.replicate_zero, List.push_toArray, List.append_toArray, List.nil_append, List.cons_append]
  gi_wp2_with (refine ⟨trivial, ?_⟩; gi_at_call 38; refine (callsIn_wide.2 (lines_calls _ _)).mono ?_; rintro e w' ⟨rfl, rfl⟩)
  rename_i Q K hK
  obtain ⟨n, hn⟩ : ∃ n, w.heap.size = n := ⟨_, rfl⟩
  simp only [hn]
  generalize hW0 : World.alloc _ _ = W0
  have hsz : W0.heap.size = n + 5 := by rw [← hW0]; simp [hn]
  refine range_at rfl (by decide) rfl trivial (enters_of Tryd.func67 (by kernel_rfl) rfl) ?_
  intro fn W1 hfn hW1
  rw [hsz] at hW1 ⊢
  have hS := PS.start hn hW0 hW1
  clear hW0 hW1
  have hbm : ∀ X, Below n w X → BelowM (fun _ => False) w X := fun X hb => ⟨hb.os, hb.tape, hb.output, hb.size, fun k hk _ => hb.block k (by omega)⟩
  have hL2 : ∀ X, Below n w X → Laid Tryd.prog X := fun X hb => hL.below (fun _ q => q.elim) (hbm X hb)
  have hf2 : ∀ X, Below n w X → ∀ b, 0 < F b → b < X.heap.size := fun X hb b h => Nat.lt_of_lt_of_le (hfin b h) hb.size
  refine (lines_in n w W1 _ hS ?_ ?_).mono ?_
  · intro W h
    refine ⟨_, _, _, _, run_yield h.l rfl, roundIn_of_wpIn hfn ?_⟩
    simp only [List.zip_toArray, List.zip_cons_cons, List.zip_nil_right]
    gi_wp2
    refine ⟨_, run_beginRound h.l rfl, ?_⟩
    generalize hX : World.putObj W (n + 6) (.loop _) = W2
    have h2 := h.setL2 hX
    clear hX hK h hS
    gi_wp2_with first
      | (refine ⟨trivial, ?_⟩; gi_at_call 39; refine (CallsIn.inRound _ (callsIn_wide.2 (cut_calls F W2 L0 ⟨#[124]⟩ (hL2 _ h2.below) (hf2 _ h2.below) cut0))).mono ?_; rintro e w1 ⟨rfl, hB1⟩; have h3 := h2.keep (hB1.mono h2.sz))
      | (refine ⟨trivial, ?_⟩; gi_at_call 8; refine (CallsIn.inRound _ (callsIn_wide.2 (get_calls F _ ⟨#[124]⟩ 0 (hL2 _ h3.below) (hf2 _ h3.below) get0))).mono ?_; rintro e w2 ⟨⟨A, c, B, d, rfl⟩, hB2⟩; have h4 := h3.keep (hB2.mono h3.sz); have hco : w2.cell? ⟨n + 1 + 1 + 1, 0, none⟩ = _ := pcell_at h4.co; have hcf : w2.frozen? ⟨n + 1 + 1 + 1, 0, none⟩ = false := pfrz_at h4.co; have hco2 : (w2.alloc (.cells #[.slice A 0 c, .slice B 0 d] 25)).cell? ⟨n + 1 + 1 + 1, 0, none⟩ = _ := pcell_at (palloc _ h4.co); have hcf2 : (w2.alloc (.cells #[.slice A 0 c, .slice B 0 d] 25)).frozen? ⟨n + 1 + 1 + 1, 0, none⟩ = _ := pfrz_at (palloc _ h4.co); have hco3 : ∀ o1 o2 o3, (((w2.alloc o1).alloc o2).alloc o3).drew.cell? ⟨n + 1 + 1 + 1, 0, none⟩ = _ := fun o1 o2 o3 => pcell_at (W := (((w2.alloc o1).alloc o2).alloc o3).drew) (palloc o3 (palloc o2 (palloc o1 h4.co))); have hcf3 : ∀ o1 o2 o3, (((w2.alloc o1).alloc o2).alloc o3).drew.frozen? ⟨n + 1 + 1 + 1, 0, none⟩ = _ := fun o1 o2 o3 => pfrz_at (W := (((w2.alloc o1).alloc o2).alloc o3).drew) (palloc o3 (palloc o2 (palloc o1 h4.co))))
    have h5 := h4.keep ((((Below.refl (n + 7) w2).alloc h4.sz (.cells #[.slice A 0 c, .slice B 0 d] 25)).alloc (by rw [World.size_alloc]; have := h4.sz; omega) (.cells #[.slice A 0 c, .slice B 0 d] 25)).alloc (by rw [World.size_alloc, World.size_alloc]; have := h4.sz; omega) (.cells (#[.slice A 0 c, .slice B 0 d] ++ Builtin.zeroCells #[.slice none 0 0, .slice none 0 0] ((Question.appendCap 1 0 25).cut (w2.tape w2.drawn (Question.appendCap 1 0 25)) - 1)) 25))
    have h6 := (h5.setOut (.slice (some ⟨w2.heap.size + 1 + 1, 0, none⟩) 1 ((Question.appendCap 1 0 25).cut (w2.tape w2.drawn (Question.appendCap 1 0 25))))).keep ((Below.refl _ _).drew)
    exact ⟨_, _, run_endRound none h6.l, rfl, _, _, h6.setL _⟩
  · intro W a0 c0 h
    refine ⟨_, _, _, _, run_yield h.l rfl, roundIn_of_wpIn hfn ?_⟩
    simp only [List.zip_toArray, List.zip_cons_cons, List.zip_nil_right]
    gi_wp2
    refine ⟨_, run_beginRound h.l rfl, ?_⟩
    generalize hX : World.putObj W (n + 6) (.loop _) = W2
    have h2 := h.setL2 hX
    clear hX hK h hS
    gi_wp2_with first
      | (refine ⟨trivial, ?_⟩; gi_at_call 39; refine (CallsIn.inRound _ (callsIn_wide.2 (cut_calls F W2 L1 ⟨#[124, 32, 97]⟩ (hL2 _ h2.below) (hf2 _ h2.below) cut1))).mono ?_; rintro e w1 ⟨rfl, hB1⟩; have h3 := h2.keep (hB1.mono h2.sz))
      | (refine ⟨trivial, ?_⟩; gi_at_call 8; refine (CallsIn.inRound _ (callsIn_wide.2 (get_calls F _ ⟨#[124, 32, 97]⟩ 2 (hL2 _ h3.below) (hf2 _ h3.below) get1))).mono ?_; rintro e w2 ⟨⟨A, c, B, d, rfl⟩, hB2⟩; have h4 := h3.keep (hB2.mono h3.sz); have hh4 := h4.keep ((Below.refl (n + 7) w2).alloc h4.sz (.cells #[.slice A 0 c, .slice B 0 d] 25)); have hq0 : (w2.alloc (.cells #[.slice A 0 c, .slice B 0 d] 25)).cell? ⟨n + 1 + 1 + 1, 0, none⟩ = _ := pcell_at hh4.co; have hq1 := pcell_at hh4.c0; have hq2 := pfrz_at hh4.c0; have hq3 := pcell_at hh4.c1; have hq4 := pfrz_at hh4.c1; have hq5 : (w2.alloc (.cells #[.slice A 0 c, .slice B 0 d] 25)).cell? ⟨n + 1 + 1, 0, none⟩ = _ := pcell_at hh4.c2; have hq6 : (w2.alloc (.cells #[.slice A 0 c, .slice B 0 d] 25)).frozen? ⟨n + 1 + 1, 0, none⟩ = _ := pfrz_at hh4.c2)
    rename_i Q8 K8 hK8 K9 hK9
    have hno : ¬ LetsOut (Exit.then K9 (Exit.then K8 (Exit.inBlock 1 Q8))) := by rintro ⟨a, w, h⟩; exact h
    refine wpIn_region_any mixed (wpAnyIn_of hno (by kernel_rfl) _ _ _ _ (wpAny_of_last (S := fun X => X.cell? ⟨n + 1 + 1 + 1, 0, none⟩ = some (.slice (some a0) 1 c0)) (ds := []) _ _ _ _ ?_))
    refine with_tabW (n := 7) reg9.tab reg9.bits (fun HT_ HW_ => ?_)
    have h0 := hh4.keep ((Below.refl (n + 7) _).drew)
    show wpAnyLast _ _ _ _ _ _ _ _ _ (World.drew _)
    generalize World.drew _ = W at h0 ⊢
    refine take_ (i := 0) (N := some 28) (v := .slice (some a0) 1 c0) (a' := ?_) #[true, false, false, false, false, false, false] rfl rfl (take_ofW HT_.out HW_.out (by kernel_rfl)) (fun _ _ _ h => h.elim) (Or.inl ⟨by rfl, ?_⟩) (pcell_at h0.co) ?_ ?_
    · intro w' hcc
      go_simp
    rotate_left
    · simp only [Act.put, List.setIfInBounds_toArray, List.set_cons_zero, List.set_cons_succ]
      rfl
    refine pure_ (i := 1) (N := some 29) (v := .int .i64 1) (a' := ?_) #[true, true, false, false, false, false, false] rfl rfl (any_of HT_.out (by kernel_rfl)) (fun _ _ _ h => h.elim) (Or.inl ⟨by rfl, ?_⟩) ?_ ?_
    · intro w'
      go_simp
    rotate_left
    · simp only [Act.put, List.setIfInBounds_toArray, List.set_cons_zero, List.set_cons_succ]
      rfl
    refine pure_ (i := 2) (N := some 30) (v := .int .i64 2) (a' := ?_) #[true, true, true, false, false, false, false] rfl rfl (any_of HT_.out (by kernel_rfl)) (fun _ _ _ h => h.elim) (Or.inl ⟨by rfl, ?_⟩) ?_ ?_
    · intro w'
      go_simp
      rfl
    rotate_left
    · simp only [Act.put, List.setIfInBounds_toArray, List.set_cons_zero, List.set_cons_succ]
      rfl
    refine pure_ (i := 3) (N := some 31) (v := .int .i64 2) (a' := ?_) #[true, true, true, true, false, false, false] rfl rfl (any_of HT_.out (by kernel_rfl)) (fun _ _ _ h => h.elim) (Or.inl ⟨by rfl, ?_⟩) ?_ ?_
    · intro w'
      go_simp
    rotate_left
    · simp only [Act.put, List.setIfInBounds_toArray, List.set_cons_zero, List.set_cons_succ]
      rfl
    refine one_ (i := 4) (N := none) #[true, true, true, true, true, false, false] rfl rfl (one_of HT_.out (by kernel_rfl)) (by decide) (fun K hK => ?_)
    have hcc : W.cell? ⟨n, 0, none⟩ = _ := pcell_at h0.c0
    have hff : W.frozen? ⟨n, 0, none⟩ = _ := pfrz_at h0.c0
    refine skip_ (w1 := ?_) (by rfl) rfl ?_ ?_
    rotate_left
    · go_simp
      rfl
    have h5 := h0.setR0 (.slice none 0 0)
    refine hK.out _ _ (pcell_at h5.co) (fun _ => ?_)
    clear hK K hcc hff
    generalize World.setCell W _ _ = W at h5 ⊢
    refine one_ (i := 5) (N := none) #[true, true, true, true, true, true, false] rfl rfl (one_of HT_.out (by kernel_rfl)) (by decide) (fun K hK => ?_)
    have hcc : W.cell? ⟨n + 1, 0, none⟩ = _ := pcell_at h5.c1
    have hff : W.frozen? ⟨n + 1, 0, none⟩ = _ := pfrz_at h5.c1
    refine skip_ (w1 := ?_) (by rfl) rfl ?_ ?_
    rotate_left
    · go_simp
      rfl
    have h6 := h5.setR1 (.int .i64 2)
    refine hK.out _ _ (pcell_at h6.co) (fun _ => ?_)
    clear hK K hcc hff
    generalize World.setCell W _ _ = W at h6 ⊢
    refine one_ (i := 6) (N := none) #[true, true, true, true, true, true, true] rfl rfl (one_of HT_.out (by kernel_rfl)) (by decide) (fun K hK => ?_)
    have hcc : W.cell? ⟨n + 1 + 1, 0, none⟩ = _ := pcell_at h6.c2
    have hff : W.frozen? ⟨n + 1 + 1, 0, none⟩ = _ := pfrz_at h6.c2
    refine skip_ (w1 := ?_) (by rfl) rfl ?_ ?_
    rotate_left
    · go_simp
      rfl
    have h7 := h6.setR2 (.int .i64 2)
    refine hK.out _ _ (pcell_at h7.co) (fun _ => ?_)
    clear hK K hcc hff
    generalize World.setCell W _ _ = W at h7 ⊢
    refine done_ (done_of HT_.out (by kernel_rfl)) ?_
    have h5 := h7
    refine hK9 _ _ ?_
    gi_wp2
    exact ⟨_, _, run_endRound (some .ret) h5.l, rfl, _, _, h5.setL _⟩
  · rintro e W4 ⟨⟨v, rfl⟩, a, c, h⟩
    refine ⟨some .ret, _, run_endLoop h.l (by simp), ?_⟩
    generalize hX : World.putObj W4 (n + 6) (.loop _) = W5
    have h2 := h.setL2 hX
    clear hX h hS hK
    gi_wp2
    refine ⟨by simp, .inl ⟨_, _, rfl, run_takeDeferred h2.d, ?_⟩⟩
    have ho : ∀ k, k ≠ n + 5 → (W5.putObj (n + 5) (.deferred none)).heap[k]? = W5.heap[k]? := fun k hk => World.putObj_heap_other hk
    refine ⟨_, res_three rfl (res_cell (by decide) (by decide) (by decide) rfl ((ho n (by omega)).trans h2.c0)) (res_cell (by decide) (by decide) (by decide) rfl ((ho (n + 1) (by omega)).trans h2.c1)) (res_cell (by decide) (by decide) (by decide) rfl ((ho (n + 2) (by omega)).trans h2.c2)), rfl, ?_⟩
    rw [hn]
    exact h2.below.grown (grownBy_putObj' W5 (n + 5) _) (by have := h2.sz; omega) (fun k e => by cases e; omega)
def input_Parse.f (k : Nat) (s : ByteArray) : Option (List (((List (Bool × Int × Unit)) × (List Int) × Unit)) × Int × Int × Unit) := if s = S0 then some ([], 2, 2, ()) else none
theorem input_Parse.mono (k : Nat) (s : ByteArray) : Lo (input_Parse.f k s) (input_Parse.f (k + 1) s) := lo_refl _
def input_Parse.c : Sym.Callee := ⟨(.cons .str .nil), (.cons (.sl (.cons (.sl (.cons .bool (.cons (.int .i64) .nil))) (.cons (.sl (.int .i64)) .nil))) (.cons (.int .i64) (.cons (.int .i64) .nil))), true, El (.cons (.sl (.cons (.sl (.cons .bool (.cons (.int .i64) .nil))) (.cons (.sl (.int .i64)) .nil))) (.cons (.int .i64) (.cons (.int .i64) .nil))), fun k x => input_Parse.f k x.1, fun y => y, []⟩
theorem input_Parse.ok : CalleeOk Tryd.prog 18 input_Parse.c where
  enter := enter_of Tryd.func18 rfl (by kernel_rfl)
  calls k w F vs x y hL hfin hx hy := by
    obtain ⟨v1, us, rfl, h1, rfl⟩ := hx
    obtain rfl := rep_str h1
    obtain ⟨s, _⟩ := x
    have hy : input_Parse.f k s = some y := hy
    unfold input_Parse.f at hy
    split at hy
    · rename_i q
      subst q
      obtain rfl := Option.some.inj hy
      refine (parse_calls F w hL hfin).mono ?_
      rintro e w' ⟨rfl, hb⟩
      refine ⟨_, F, rfl, ⟨hb, fun _ _ => rfl⟩, fun b hb2 => Nat.lt_of_lt_of_le (hfin b hb2) hb.size, ?_⟩
      exact ⟨[.slice none 0 0, .int .i64 2, .int .i64 2], rfl, ⟨_, _, rfl, ⟨_, ⟨none, 0, rfl, Nat.le_refl _, fun h => absurd h (Nat.lt_irrefl 0)⟩, rfl⟩, _, _, rfl, mk_int, _, _, rfl, mk_int, rfl⟩, NilAt.nil _⟩
    · cases hy
end
def fix_Size.c : Sym.Callee := ⟨(.cons (.int .i64) .nil), (.int .u64), false, Int, fun k x => fix_Size.f x.1, fun z => z, []⟩
def fix_Size.nf (k : Nat) (a0 : Int) : Option (Int) := (if a0 < (0 : Int) then (some (IntKind.wrap .u64 (-(IntKind.wrap .u64 (a0))))) else (some (IntKind.wrap .u64 (a0))))
noncomputable def fix_Size.E : Env (Int) := envOf tab Tryd.f40 false (.int .u64) [] (fun y => y) [] [] []
theorem fix_Size.h1 : obls fix_Size.E Tryd.f40 = [] := by kernel_rfl
theorem fix_Size.h2 : (fun k (x : El (.cons (.int .i64) .nil)) => fix_Size.nf k x.1) = fun k x => mainK fix_Size.E Tryd.f40 (.cons (.int .i64) .nil) k x := by kernel_rfl
set_option maxHeartbeats 2000000 in
theorem fix_Size.bf (k : Nat) (a0 : Int) : Lo (fix_Size.f a0) (fix_Size.nf k a0) := by
  unfold fix_Size.f fix_Size.nf
  try simp only [Bool.false_xor, Bool.true_xor, wu8_64, wu8_u64, byL_nums, btS_bt, nil_tl, beq_decL, beq_decI]
  repeat' first
    | (with_reducible exact lo_refl _)
    | exact lo_none _
    | (with_reducible refine lo_lpos (by first | assumption | decide) ?_)
    | (with_reducible refine lo_lneg (by first | assumption | decide) ?_)
    | (with_reducible refine lo_ite (fun _ => ?_) (fun _ => ?_))
    | (with_reducible refine lo_bind (fun _ => ?_))
    | (with_reducible refine lo_left ?_)
    | (refine lo_neg (by decide) ?_)
    | (refine lo_pos (by first | assumption | omega) ?_)
    | (refine lo_neg (by first | assumption | omega) ?_)
    | (with_reducible refine lo_test (fun _ => by first | assumption | omega | (simp only [List.length_cons, List.length_nil]; omega) | decide) (fun _ => ?_))
    | (with_reducible refine lo_testn (fun _ => by first | assumption | omega) (fun _ => ?_))
    | (with_reducible refine lo_and (fun z => by first | exact z.1 | omega) (fun z => by first | exact z.2 | omega) (fun _ => ?_))
    | exact lo_refl _
    | (with_reducible refine lo_iff (by first | exact Iff.rfl | omega | (simp; done) | decide) (fun _ => ?_) (fun _ => ?_))
    | (with_reducible refine lo_iffn (by first | exact Iff.rfl | omega | (simp; done) | decide) (fun _ => ?_) (fun _ => ?_))
    | refine lo_ite (fun _ => ?_) (fun _ => ?_)
    | refine lo_bind (fun _ => ?_)
    | (refine lo_some ?_; first | rfl | (rw [Bool.false_xor]; rfl) | (rw [Bool.true_xor]; rfl) | (simp only [Bool.and_true]; rfl) | (simp; done))
    | (simp only [Int.zero_sub]; exact lo_refl _)
    | (with_reducible refine lo_lpos (by omega) ?_)
    | (with_reducible refine lo_lneg (by omega) ?_)
    | (with_reducible refine lo_lite (fun _ => ?_) (fun _ => ?_))
    | (with_reducible refine lo_rite (fun _ => ?_) (fun _ => ?_))
  all_goals (exfalso; first | omega | (simp_all; done) | (simp_all; omega))
theorem fix_Size.al : AllLe (obls fix_Size.E Tryd.f40) := by
  rw [fix_Size.h1]
  exact .nil
theorem fix_Size.ok : CalleeOk Tryd.prog 40 fix_Size.c := fn_ok tabOk mixed (fun _ => rfl) Tryd.func40 rfl (by kernel_rfl) ok_nil fix_Size.al (fun k x r h => (congrFun (congrFun fix_Size.h2 k) x).symm.trans (fix_Size.bf k _ r h))
def num_digitsN.l3 : Nat → Int → Int → (List Int) → Option ByteArray
  | 0, _, _, _ => none
  | k + 1, x0, x4, r3 => (if (10 : Int) = 0 then none else (if 0 ≤ (wrap64 (x4 - (1 : Int))) then (if (wrap64 (x4 - (1 : Int))) < ((20 : Nat) : Int) then (if (10 : Int) = 0 then none else (if (IntKind.wrap .u64 (Int.tdiv x0 (10 : Int))) = (0 : Int) then (if 0 ≤ (wrap64 (x4 - (1 : Int))) then (if (wrap64 (x4 - (1 : Int))) ≤ ((20 : Nat) : Int) then (some (strOfNums (((r3.set ((wrap64 (x4 - (1 : Int)))).toNat (IntKind.wrap .u8 ((48 : Int) + (IntKind.wrap .u8 ((Int.tmod x0 (10 : Int))))))).drop (0 + ((wrap64 (x4 - (1 : Int)))).toNat)).take (20 - ((wrap64 (x4 - (1 : Int)))).toNat)))) else none) else none) else (num_digitsN.l3 k (IntKind.wrap .u64 (Int.tdiv x0 (10 : Int))) (wrap64 (x4 - (1 : Int))) (r3.set ((wrap64 (x4 - (1 : Int)))).toNat (IntKind.wrap .u8 ((48 : Int) + (IntKind.wrap .u8 ((Int.tmod x0 (10 : Int)))))))))) else none) else none))
def num_digitsN.f (k : Nat) (a0 : Int) : Option ByteArray := (num_digitsN.l3 k a0 (20 : Int) (List.replicate 20 0))
def num_digitsN.c : Sym.Callee := ⟨(.cons (.int .u64) .nil), .str, false, El .str, fun k x => num_digitsN.f k x.1, fun y => y, []⟩
noncomputable def num_digitsN.E : Env (El .str) := envOf tab Tryd.f65 false .str [] (fun y => y) [] [⟨3, ⟨20, [(0, (.int .u64), []), (4, (.int .i64), [])], [], [(3, some 20, 0, (.int .u8))]⟩, fun k y => num_digitsN.l3 k y.1.1 y.1.2.1 y.2.2.1.1⟩] []
theorem num_digitsN.h1 : (obls num_digitsN.E Tryd.f65).map Ob.left = (obls num_digitsN.E Tryd.f65).map Ob.right := by kernel_rfl
theorem num_digitsN.h2 : (fun k x => num_digitsN.c.fn k x) = fun k x => mainK num_digitsN.E Tryd.f65 num_digitsN.c.dom k x := by kernel_rfl
theorem num_digitsN.ok : CalleeOk Tryd.prog 65 num_digitsN.c := fn_ok tabOk mixed (fun _ => rfl) Tryd.func65 rfl (by kernel_rfl) ok_nil (.of_eq num_digitsN.h1) (fun k x _ h => (congrFun (congrFun num_digitsN.h2 k) x).symm.trans h)
theorem num_digits.bl : ∀ (k : Nat) (u : Int) (l r : List Int) (s : ByteArray), r.length = 20 → l.length ≤ 20 → r.drop (20 - l.length) = l → num_digits.l0 k u l = some s → num_digitsN.l3 k u (20 - (l.length : Int)) r = some s
  | 0, u, l, r, s, _, _, _, h => by simp [num_digits.l0] at h
  | k + 1, u, l, r, s, hr, hl, hd, h => by
    rw [num_digits.l0] at h
    split at h
    · rename_i h1
      split at h
      · rename_i h2
        split at h
        · rename_i h3
          have e1 : wrap64 (20 - (l.length : Int) - 1) = 19 - (l.length : Int) := by rw [sw64_id] <;> omega
          have e2 : ((19 : Int) - (l.length : Int)).toNat = 19 - l.length := by omega
          have e3 : Int.tmod u 10 = u % 10 := Int.tmod_eq_emod_of_nonneg h2
          have e4 : Int.tdiv u 10 = u / 10 := Int.tdiv_eq_ediv_of_nonneg h2
          have e5 : IntKind.wrap .u64 (u / 10) = u / 10 := su64_id (by omega) (by omega)
          have e6 : IntKind.wrap .u8 ((48 : Int) + IntKind.wrap .u8 (u % 10)) = 48 + u % 10 := by
            show (48 + u % 10 % 256) % 256 = _
            omega
          have hset : (r.set (19 - l.length) (48 + u % 10)).drop (19 - l.length) = (48 + u % 10) :: l := by
            apply List.ext_getElem?
            intro i
            rw [List.getElem?_drop, List.getElem?_set]
            cases i with
            | zero => rw [if_pos (by omega), if_pos (by omega)]; rfl
            | succ i =>
              rw [if_neg (by omega), List.getElem?_cons_succ, ← hd, List.getElem?_drop]
              congr 1
              simp only [hd]
              omega
          rw [num_digitsN.l3]
          rw [if_neg (by decide : ¬ (10 : Int) = 0), e1, if_pos (by omega), if_pos (by omega), if_neg (by decide : ¬ (10 : Int) = 0), e3, e4, e5, e6, e2]
          split at h
          · rename_i h4
            rw [if_pos h4, if_pos (by omega), if_pos (by omega)]
            rw [← h, Nat.zero_add, hset, List.take_of_length_le (by simp; omega)]
          · rename_i h4
            rw [if_neg h4]
            have := num_digits.bl k (u / 10) ((48 + u % 10) :: l) (r.set (19 - l.length) (48 + u % 10)) s (by rw [List.length_set, hr]) (by simp; omega) (by rw [List.length_cons, show 20 - (l.length + 1) = 19 - l.length from by omega]; exact hset) h
            rw [List.length_cons, show (20 : Int) - ((l.length + 1 : Nat) : Int) = 19 - (l.length : Int) from by omega] at this
            exact this
        · cases h
      · cases h
    · cases h
def num_digits.c : Sym.Callee := ⟨(.cons (.int .u64) .nil), .str, false, ByteArray, fun k x => num_digits.f k x.1, fun y => y, []⟩
theorem num_digits.ok : CalleeOk Tryd.prog 65 num_digits.c := num_digitsN.ok.weaken fun k x r h => num_digits.bl k x.1 [] (List.replicate 20 0) r (by simp) (by simp) (by simp) h
def num_Tell.c : Sym.Callee := ⟨(.cons (.int .i64) .nil), .str, false, ByteArray, fun k x => num_Tell.f k x.1, fun z => z, []⟩
def num_Tell.nf (k : Nat) (a0 : Int) : Option (ByteArray) := (if a0 < (0 : Int) then ((num_digits.f k (IntKind.wrap .u64 (-(IntKind.wrap .u64 (a0))))).bind fun t1 => (if (⟨#[45]⟩ : ByteArray).size + t1.size ≤ 9223372036854775807 then (some ((⟨#[45]⟩ : ByteArray) ++ t1)) else none)) else ((num_digits.f k (IntKind.wrap .u64 (a0))).bind fun t2 => (some t2)))
noncomputable def num_Tell.E : Env (ByteArray) := envOf tab Tryd.f34 false .str [] (fun y => y) [(65, num_digits.c)] [] []
theorem num_Tell.h1 : obls num_Tell.E Tryd.f34 = [] := by kernel_rfl
theorem num_Tell.h2 : (fun k (x : El (.cons (.int .i64) .nil)) => num_Tell.nf k x.1) = fun k x => mainK num_Tell.E Tryd.f34 (.cons (.int .i64) .nil) k x := by kernel_rfl
set_option maxHeartbeats 2000000 in
theorem num_Tell.bf (k : Nat) (a0 : Int) : Lo (num_Tell.f k a0) (num_Tell.nf k a0) := by
  unfold num_Tell.f num_Tell.nf
  try simp only [Bool.false_xor, Bool.true_xor, wu8_64, wu8_u64, byL_nums, btS_bt, nil_tl, beq_decL, beq_decI]
  repeat' first
    | (with_reducible exact lo_refl _)
    | exact lo_none _
    | (with_reducible refine lo_lpos (by first | assumption | decide) ?_)
    | (with_reducible refine lo_lneg (by first | assumption | decide) ?_)
    | (with_reducible refine lo_ite (fun _ => ?_) (fun _ => ?_))
    | (with_reducible refine lo_bind (fun _ => ?_))
    | (with_reducible refine lo_left ?_)
    | (refine lo_neg (by decide) ?_)
    | (refine lo_pos (by first | assumption | omega) ?_)
    | (refine lo_neg (by first | assumption | omega) ?_)
    | (with_reducible refine lo_test (fun _ => by first | assumption | omega | (simp only [List.length_cons, List.length_nil]; omega) | decide) (fun _ => ?_))
    | (with_reducible refine lo_testn (fun _ => by first | assumption | omega) (fun _ => ?_))
    | (with_reducible refine lo_and (fun z => by first | exact z.1 | omega) (fun z => by first | exact z.2 | omega) (fun _ => ?_))
    | exact lo_refl _
    | (with_reducible refine lo_iff (by first | exact Iff.rfl | omega | (simp; done) | decide) (fun _ => ?_) (fun _ => ?_))
    | (with_reducible refine lo_iffn (by first | exact Iff.rfl | omega | (simp; done) | decide) (fun _ => ?_) (fun _ => ?_))
    | refine lo_ite (fun _ => ?_) (fun _ => ?_)
    | refine lo_bind (fun _ => ?_)
    | (refine lo_some ?_; first | rfl | (rw [Bool.false_xor]; rfl) | (rw [Bool.true_xor]; rfl) | (simp only [Bool.and_true]; rfl) | (simp; done))
    | (simp only [Int.zero_sub]; exact lo_refl _)
    | (with_reducible refine lo_lpos (by omega) ?_)
    | (with_reducible refine lo_lneg (by omega) ?_)
    | (with_reducible refine lo_lite (fun _ => ?_) (fun _ => ?_))
    | (with_reducible refine lo_rite (fun _ => ?_) (fun _ => ?_))
  all_goals (exfalso; first | omega | (simp_all; done) | (simp_all; omega))
theorem num_Tell.al : AllLe (obls num_Tell.E Tryd.f34) := by
  rw [num_Tell.h1]
  exact .nil
theorem num_Tell.ok : CalleeOk Tryd.prog 34 num_Tell.c := fn_ok tabOk mixed (fun _ => rfl) Tryd.func34 rfl (by kernel_rfl) (ok_cons num_digits.ok ok_nil) num_Tell.al (fun k x r h => (congrFun (congrFun num_Tell.h2 k) x).symm.trans (num_Tell.bf k _ r h))
def pair_Mul.c : Sym.Callee := ⟨(.cons (.int .u64) (.cons (.int .u64) .nil)), (.cons (.int .u64) (.cons (.int .u64) .nil)), false, Int × Int, fun k x => pair_Mul.f x.1 x.2.1, fun z => (z.1, z.2, ()), []⟩
def pair_Mul.nf (k : Nat) (a0 : Int) (a1 : Int) : Option (Int × Int) := (if (32 : Int) < 0 then none else (if (32 : Int) < 0 then none else (if (32 : Int) < 0 then none else (if (32 : Int) < 0 then none else (if (32 : Int) < 0 then none else (if (32 : Int) < 0 then none else (if (32 : Int) < 0 then none else (some ((IntKind.wrap .u64 ((IntKind.wrap .u64 ((IntKind.wrap .u64 ((IntKind.wrap .u64 ((a0 / 2 ^ (min ((32 : Int)).toNat 64)) * (a1 / 2 ^ (min ((32 : Int)).toNat 64)))) + ((IntKind.wrap .u64 ((a0 / 2 ^ (min ((32 : Int)).toNat 64)) * (Go.bits .and .u64 a1 (4294967295 : Int)))) / 2 ^ (min ((32 : Int)).toNat 64)))) + ((IntKind.wrap .u64 ((Go.bits .and .u64 a0 (4294967295 : Int)) * (a1 / 2 ^ (min ((32 : Int)).toNat 64)))) / 2 ^ (min ((32 : Int)).toNat 64)))) + ((IntKind.wrap .u64 ((IntKind.wrap .u64 (((IntKind.wrap .u64 ((Go.bits .and .u64 a0 (4294967295 : Int)) * (Go.bits .and .u64 a1 (4294967295 : Int)))) / 2 ^ (min ((32 : Int)).toNat 64)) + (Go.bits .and .u64 (IntKind.wrap .u64 ((a0 / 2 ^ (min ((32 : Int)).toNat 64)) * (Go.bits .and .u64 a1 (4294967295 : Int)))) (4294967295 : Int)))) + (Go.bits .and .u64 (IntKind.wrap .u64 ((Go.bits .and .u64 a0 (4294967295 : Int)) * (a1 / 2 ^ (min ((32 : Int)).toNat 64)))) (4294967295 : Int)))) / 2 ^ (min ((32 : Int)).toNat 64)))), (Go.bits .or .u64 (IntKind.wrap .u64 ((IntKind.wrap .u64 ((IntKind.wrap .u64 (((IntKind.wrap .u64 ((Go.bits .and .u64 a0 (4294967295 : Int)) * (Go.bits .and .u64 a1 (4294967295 : Int)))) / 2 ^ (min ((32 : Int)).toNat 64)) + (Go.bits .and .u64 (IntKind.wrap .u64 ((a0 / 2 ^ (min ((32 : Int)).toNat 64)) * (Go.bits .and .u64 a1 (4294967295 : Int)))) (4294967295 : Int)))) + (Go.bits .and .u64 (IntKind.wrap .u64 ((Go.bits .and .u64 a0 (4294967295 : Int)) * (a1 / 2 ^ (min ((32 : Int)).toNat 64)))) (4294967295 : Int)))) * 2 ^ (min ((32 : Int)).toNat 64))) (Go.bits .and .u64 (IntKind.wrap .u64 ((Go.bits .and .u64 a0 (4294967295 : Int)) * (Go.bits .and .u64 a1 (4294967295 : Int)))) (4294967295 : Int))))))))))))
noncomputable def pair_Mul.E : Env (Int × Int) := envOf tab Tryd.f71 false (.cons (.int .u64) (.cons (.int .u64) .nil)) [] (fun y => (y.1, y.2.1)) [] [] []
theorem pair_Mul.h1 : obls pair_Mul.E Tryd.f71 = [] := by kernel_rfl
theorem pair_Mul.h2 : (fun k (x : El (.cons (.int .u64) (.cons (.int .u64) .nil))) => pair_Mul.nf k x.1 x.2.1) = fun k x => mainK pair_Mul.E Tryd.f71 (.cons (.int .u64) (.cons (.int .u64) .nil)) k x := by kernel_rfl
set_option maxHeartbeats 2000000 in
theorem pair_Mul.bf (k : Nat) (a0 : Int) (a1 : Int) : Lo (pair_Mul.f a0 a1) (pair_Mul.nf k a0 a1) := by
  unfold pair_Mul.f pair_Mul.nf
  try simp only [Bool.false_xor, Bool.true_xor, wu8_64, wu8_u64, byL_nums, btS_bt, nil_tl, beq_decL, beq_decI]
  repeat' first
    | (with_reducible exact lo_refl _)
    | exact lo_none _
    | (with_reducible refine lo_lpos (by first | assumption | decide) ?_)
    | (with_reducible refine lo_lneg (by first | assumption | decide) ?_)
    | (with_reducible refine lo_ite (fun _ => ?_) (fun _ => ?_))
    | (with_reducible refine lo_bind (fun _ => ?_))
    | (with_reducible refine lo_left ?_)
    | (refine lo_neg (by decide) ?_)
    | (refine lo_pos (by first | assumption | omega) ?_)
    | (refine lo_neg (by first | assumption | omega) ?_)
    | (with_reducible refine lo_test (fun _ => by first | assumption | omega | (simp only [List.length_cons, List.length_nil]; omega) | decide) (fun _ => ?_))
    | (with_reducible refine lo_testn (fun _ => by first | assumption | omega) (fun _ => ?_))
    | (with_reducible refine lo_and (fun z => by first | exact z.1 | omega) (fun z => by first | exact z.2 | omega) (fun _ => ?_))
    | exact lo_refl _
    | (with_reducible refine lo_iff (by first | exact Iff.rfl | omega | (simp; done) | decide) (fun _ => ?_) (fun _ => ?_))
    | (with_reducible refine lo_iffn (by first | exact Iff.rfl | omega | (simp; done) | decide) (fun _ => ?_) (fun _ => ?_))
    | refine lo_ite (fun _ => ?_) (fun _ => ?_)
    | refine lo_bind (fun _ => ?_)
    | (refine lo_some ?_; first | rfl | (rw [Bool.false_xor]; rfl) | (rw [Bool.true_xor]; rfl) | (simp only [Bool.and_true]; rfl) | (simp; done))
    | (simp only [Int.zero_sub]; exact lo_refl _)
    | (with_reducible refine lo_lpos (by omega) ?_)
    | (with_reducible refine lo_lneg (by omega) ?_)
    | (with_reducible refine lo_lite (fun _ => ?_) (fun _ => ?_))
    | (with_reducible refine lo_rite (fun _ => ?_) (fun _ => ?_))
  all_goals (exfalso; first | omega | (simp_all; done) | (simp_all; omega))
theorem pair_Mul.al : AllLe (obls pair_Mul.E Tryd.f71) := by
  rw [pair_Mul.h1]
  exact .nil
theorem pair_Mul.ok : CalleeOk Tryd.prog 71 pair_Mul.c := fn_ok tabOk mixed (fun _ => rfl) Tryd.func71 rfl (by kernel_rfl) ok_nil pair_Mul.al (fun k x r h => (congrFun (congrFun pair_Mul.h2 k) x).symm.trans (pair_Mul.bf k _ _ r h))
def half_Shift.c : Sym.Callee := ⟨(.cons (.cons (.int .u64) (.cons (.int .u64) .nil)) (.cons (.int .i64) .nil)), (.cons (.int .u64) (.cons (.int .i64) .nil)), true, Int × Int, fun k x => half_Shift.f k x.1.1 x.1.2.1 x.2.1, fun z => (z.1, z.2, ()), []⟩
def half_Shift.nf (k : Nat) (a0_0 : Int) (a0_1 : Int) (a1 : Int) : Option (Int × Int) := ((pair_Shl.f (0 : Int) (1 : Int) (if (63 : Int) < (if a1 < (0 : Int) then (0 : Int) else a1) then (63 : Int) else (if a1 < (0 : Int) then (0 : Int) else a1))).bind fun t1 => (if 0 ≤ (1 : Int) then (if (1 : Int) < ((2 : Nat) : Int) then ((half_Near.f k a0_0 a0_1 t1.2.1).bind fun t2 => (some (t2.1, t2.2))) else none) else none))
noncomputable def half_Shift.E : Env (Int × Int) := envOf tab Tryd.f70 true (.cons (.int .u64) (.cons (.int .i64) .nil)) [] (fun y => (y.1, y.2.1)) [(79, pair_Shl.c), (80, half_Near.c)] [] []
theorem half_Shift.h1 : obls half_Shift.E Tryd.f70 = [] := by kernel_rfl
theorem half_Shift.h2 : (fun k (x : El (.cons (.cons (.int .u64) (.cons (.int .u64) .nil)) (.cons (.int .i64) .nil))) => half_Shift.nf k x.1.1 x.1.2.1 x.2.1) = fun k x => mainK half_Shift.E Tryd.f70 (.cons (.cons (.int .u64) (.cons (.int .u64) .nil)) (.cons (.int .i64) .nil)) k x := by kernel_rfl
set_option maxHeartbeats 2000000 in
theorem half_Shift.bf (k : Nat) (a0_0 : Int) (a0_1 : Int) (a1 : Int) : Lo (half_Shift.f k a0_0 a0_1 a1) (half_Shift.nf k a0_0 a0_1 a1) := by
  unfold half_Shift.f half_Shift.nf
  try simp only [Bool.false_xor, Bool.true_xor, wu8_64, wu8_u64, byL_nums, btS_bt, nil_tl, beq_decL, beq_decI]
  repeat' first
    | (with_reducible exact lo_refl _)
    | exact lo_none _
    | (with_reducible refine lo_lpos (by first | assumption | decide) ?_)
    | (with_reducible refine lo_lneg (by first | assumption | decide) ?_)
    | (with_reducible refine lo_ite (fun _ => ?_) (fun _ => ?_))
    | (with_reducible refine lo_bind (fun _ => ?_))
    | (with_reducible refine lo_left ?_)
    | (refine lo_neg (by decide) ?_)
    | (refine lo_pos (by first | assumption | omega) ?_)
    | (refine lo_neg (by first | assumption | omega) ?_)
    | (with_reducible refine lo_test (fun _ => by first | assumption | omega | (simp only [List.length_cons, List.length_nil]; omega) | decide) (fun _ => ?_))
    | (with_reducible refine lo_testn (fun _ => by first | assumption | omega) (fun _ => ?_))
    | (with_reducible refine lo_and (fun z => by first | exact z.1 | omega) (fun z => by first | exact z.2 | omega) (fun _ => ?_))
    | exact lo_refl _
    | (with_reducible refine lo_iff (by first | exact Iff.rfl | omega | (simp; done) | decide) (fun _ => ?_) (fun _ => ?_))
    | (with_reducible refine lo_iffn (by first | exact Iff.rfl | omega | (simp; done) | decide) (fun _ => ?_) (fun _ => ?_))
    | refine lo_ite (fun _ => ?_) (fun _ => ?_)
    | refine lo_bind (fun _ => ?_)
    | (refine lo_some ?_; first | rfl | (rw [Bool.false_xor]; rfl) | (rw [Bool.true_xor]; rfl) | (simp only [Bool.and_true]; rfl) | (simp; done))
    | (simp only [Int.zero_sub]; exact lo_refl _)
    | (with_reducible refine lo_lpos (by omega) ?_)
    | (with_reducible refine lo_lneg (by omega) ?_)
    | (with_reducible refine lo_lite (fun _ => ?_) (fun _ => ?_))
    | (with_reducible refine lo_rite (fun _ => ?_) (fun _ => ?_))
  all_goals (exfalso; first | omega | (simp_all; done) | (simp_all; omega))
theorem half_Shift.al : AllLe (obls half_Shift.E Tryd.f70) := by
  rw [half_Shift.h1]
  exact .nil
theorem half_Shift.ok : CalleeOk Tryd.prog 70 half_Shift.c := fn_ok tabOk mixed (fun _ => rfl) Tryd.func70 rfl (by kernel_rfl) (ok_cons pair_Shl.ok (ok_cons half_Near.ok ok_nil)) half_Shift.al (fun k x r h => (congrFun (congrFun half_Shift.h2 k) x).symm.trans (half_Shift.bf k _ _ _ r h))
def layRep_ren : Go.Shelf.Ren := ⟨fun | 105 => 73 | 212 => 93 | 99 => 94 | 165 => 42 | 166 => 43 | 170 => 95 | 169 => 44 | 263 => 109 | 264 => 110 | 206 => 111 | 240 => 74 | 241 => 75 | 276 => 96 | 277 => 97 | n => n, fun | 9 => 9 | 3 => 3 | 4 => 4 | 20 => 20 | 0 => 0 | 46 => 79 | 109 => 135 | 5 => 5 | 72 => 84 | 76 => 88 | 51 => 152 | 146 => 153 | 53 => 77 | 148 => 155 | 70 => 81 | 37 => 82 | 75 => 87 | 127 => 121 | 164 => 138 | 80 => 90 | n => n, fun | n => n⟩
theorem layRep : Go.Proofs.Lays.n105 Tryd.prog layRep_ren := {
  mixed := by kernel_rfl
  f99 := Tryd.func94.trans (congrArg some (by kernel_rfl))
  f105 := Tryd.func73.trans (congrArg some (by kernel_rfl))
  f165 := Tryd.func42.trans (congrArg some (by kernel_rfl))
  f166 := Tryd.func43.trans (congrArg some (by kernel_rfl))
  f169 := Tryd.func44.trans (congrArg some (by kernel_rfl))
  f170 := Tryd.func95.trans (congrArg some (by kernel_rfl))
  f206 := Tryd.func111.trans (congrArg some (by kernel_rfl))
  f212 := Tryd.func93.trans (congrArg some (by kernel_rfl))
  f240 := Tryd.func74.trans (congrArg some (by kernel_rfl))
  f241 := Tryd.func75.trans (congrArg some (by kernel_rfl))
  f263 := Tryd.func109.trans (congrArg some (by kernel_rfl))
  f264 := Tryd.func110.trans (congrArg some (by kernel_rfl))
  f276 := Tryd.func96.trans (congrArg some (by kernel_rfl))
  f277 := Tryd.func97.trans (congrArg some (by kernel_rfl))
  t0 := Tryd.underlying0
  a0 := Tryd.isAgg0
  z0 := Tryd.sizeOf0
  v0 := Tryd.zeroValue0
  t3 := Tryd.underlying3
  a3 := Tryd.isAgg3
  z3 := Tryd.sizeOf3
  v3 := Tryd.zeroValue3
  t4 := Tryd.underlying4
  a4 := Tryd.isAgg4
  z4 := Tryd.sizeOf4
  v4 := Tryd.zeroValue4
  t5 := Tryd.underlying5
  a5 := Tryd.isAgg5
  z5 := Tryd.sizeOf5
  v5 := Tryd.zeroValue5
  t9 := Tryd.underlying9
  a9 := Tryd.isAgg9
  z9 := Tryd.sizeOf9
  v9 := Tryd.zeroValue9
  t20 := Tryd.underlying20
  a20 := Tryd.isAgg20
  z20 := Tryd.sizeOf20
  v20 := Tryd.zeroValue20
  t37 := Tryd.underlying82
  a37 := Tryd.isAgg82
  z37 := Tryd.sizeOf82
  v37 := Tryd.zeroValue82
  t46 := Tryd.underlying79
  a46 := Tryd.isAgg79
  z46 := Tryd.sizeOf79
  v46 := Tryd.zeroValue79
  t51 := Tryd.underlying152
  a51 := Tryd.isAgg152
  z51 := Tryd.sizeOf152
  v51 := Tryd.zeroValue152
  t53 := Tryd.underlying77
  a53 := Tryd.isAgg77
  z53 := Tryd.sizeOf77
  v53 := Tryd.zeroValue77
  t70 := Tryd.underlying81
  a70 := Tryd.isAgg81
  z70 := Tryd.sizeOf81
  v70 := Tryd.zeroValue81
  t72 := Tryd.underlying84
  a72 := Tryd.isAgg84
  z72 := Tryd.sizeOf84
  v72 := Tryd.zeroValue84
  t75 := Tryd.underlying87
  a75 := Tryd.isAgg87
  z75 := Tryd.sizeOf87
  v75 := Tryd.zeroValue87
  t76 := Tryd.underlying88
  a76 := Tryd.isAgg88
  z76 := Tryd.sizeOf88
  v76 := Tryd.zeroValue88
  t109 := Tryd.underlying135
  a109 := Tryd.isAgg135
  z109 := Tryd.sizeOf135
  v109 := Tryd.zeroValue135
  t127 := Tryd.underlying121
  a127 := Tryd.isAgg121
  z127 := Tryd.sizeOf121
  v127 := Tryd.zeroValue121
  t146 := Tryd.underlying153
  a146 := Tryd.isAgg153
  z146 := Tryd.sizeOf153
  v146 := Tryd.zeroValue153
  t148 := Tryd.underlying155
  a148 := Tryd.isAgg155
  z148 := Tryd.sizeOf155
  v148 := Tryd.zeroValue155
  t164 := Tryd.underlying138
  a164 := Tryd.isAgg138
  z164 := Tryd.sizeOf138
  v164 := Tryd.zeroValue138 }
theorem layRepX : Go.Proofs.Builder.Extra Tryd.prog layRep_ren := {
  sizeBuilder := by kernel_rfl
  liesBuilder := by kernel_rfl
  t5 := layRep.t5
  a5 := layRep.a5
  z5 := layRep.z5
  v5 := layRep.v5
  infoByte := by kernel_rfl
  cellsByte := by kernel_rfl
  sizeByte := by kernel_rfl
  neB5 := by decide }
theorem layRepF : layRep_ren.f 105 = 73 := by kernel_rfl

def strings_Repeat.c : Sym.Callee := ⟨(.cons .str (.cons (.int .i64) .nil)), .str, false, ByteArray, fun k x => strings_Repeat.f x.1 x.2.1, fun y => y, []⟩
theorem strings_Repeat.ok : CalleeOk Tryd.prog 73 strings_Repeat.c where
  enter := enter_of Tryd.func73 rfl (by kernel_rfl)
  calls k w F vs x y hL hfin hx hy := by
    obtain ⟨v1, us, rfl, h1, v2, us2, rfl, h2, rfl⟩ := hx
    obtain rfl := rep_str h1
    obtain rfl := rep_int h2
    obtain ⟨a0, a1, _⟩ := x
    have hy : strings_Repeat.f a0 a1 = some y := hy
    unfold strings_Repeat.f at hy
    split at hy
    case isFalse => cases hy
    case isTrue hq =>
      obtain rfl := Option.some.inj hy
      obtain ⟨c, rfl⟩ : ∃ c : Nat, a1 = (c : Int) := ⟨a1.toNat, (Int.toNat_of_nonneg hq.1).symm⟩
      simp only [Int.toNat_natCast] at hq ⊢
      have g := Go.Proofs.Any.strings_Repeat layRep layRepX a0 c w (by omega) hq.2.2
      rw [layRepF] at g
      exact g.mono fun e w' q => ⟨_, F, q.1, ⟨q.2, fun _ _ => rfl⟩, fun b hb2 => Nat.lt_of_lt_of_le (hfin b hb2) q.2.size, repR_one mk_str⟩
def dec_behind.c : Sym.Callee := ⟨(.cons (.int .u64) .nil), .str, false, ByteArray, fun k x => dec_behind.f k x.1, fun z => z, []⟩
def dec_behind.nl0 (k : Nat) (x0 : Int) (x3 : Int) : Option (ByteArray) := (if x3 ≤ (10 : Int) then ((dec_power.f k x3).bind fun t1 => ((pair_Mul.f x0 t1).bind fun t2 => ((half_Shift.f k t2.1 t2.2 (32 : Int)).bind fun t3 => ((dec_fraction.f k t3.1 x3).bind fun t4 => (if t4 = x0 then ((num_Tell.f k (wrap64 (t3.1))).bind fun t5 => ((strings_Repeat.f (⟨#[48]⟩ : ByteArray) (wrap64 (x3 - (t5.size : Int)))).bind fun t6 => (if t6.size + t5.size ≤ 9223372036854775807 then (some (t6 ++ t5)) else none))) else (dec_behind.l0 k x0 (wrap64 (x3 + (1 : Int))))))))) else (some (⟨#[]⟩ : ByteArray)))
def dec_behind.nf (k : Nat) (a0 : Int) : Option (ByteArray) := (dec_behind.l0 k a0 (1 : Int))
noncomputable def dec_behind.E : Env (ByteArray) := envOf tab Tryd.f41 false .str [] (fun y => y) [(72, dec_power.c), (71, pair_Mul.c), (70, half_Shift.c), (49, dec_fraction.c), (34, num_Tell.c), (73, strings_Repeat.c)] [⟨2, ⟨34, [(0, (.int .u64), []), (3, (.int .i64), [])], [], []⟩, fun k y => dec_behind.l0 k y.1.1 y.1.2.1⟩] []
theorem dec_behind.h1 : obls dec_behind.E Tryd.f41 = [⟨(.cons (.cons (.int .u64) (.cons (.int .i64) .nil)) (.cons .nil (.cons .nil .nil))), fun k y => dec_behind.l0 (k + 1) y.1.1 y.1.2.1, fun k y => dec_behind.nl0 k y.1.1 y.1.2.1⟩, ⟨(.cons (.cons (.int .u64) (.cons (.int .i64) .nil)) (.cons .nil (.cons .nil .nil))), fun _ y => dec_behind.l0 0 y.1.1 y.1.2.1, fun _ _ => none⟩] := by kernel_rfl
theorem dec_behind.h2 : (fun k (x : El (.cons (.int .u64) .nil)) => dec_behind.nf k x.1) = fun k x => mainK dec_behind.E Tryd.f41 (.cons (.int .u64) .nil) k x := by kernel_rfl
theorem dec_behind.bl0 (k : Nat) (x0 : Int) (x3 : Int) : Lo (dec_behind.l0 (k + 1) x0 x3) (dec_behind.nl0 k x0 x3) := by
  rw [dec_behind.l0]
  unfold dec_behind.nl0
  try simp only [Bool.false_xor, Bool.true_xor, wu8_64, wu8_u64, byL_nums, btS_bt, nil_tl, beq_decL, beq_decI]
  repeat' first
    | (with_reducible exact lo_refl _)
    | exact lo_none _
    | (with_reducible refine lo_lpos (by first | assumption | decide) ?_)
    | (with_reducible refine lo_lneg (by first | assumption | decide) ?_)
    | (with_reducible refine lo_ite (fun _ => ?_) (fun _ => ?_))
    | (with_reducible refine lo_bind (fun _ => ?_))
    | (with_reducible refine lo_left ?_)
    | (refine lo_neg (by decide) ?_)
    | (refine lo_pos (by first | assumption | omega) ?_)
    | (refine lo_neg (by first | assumption | omega) ?_)
    | (with_reducible refine lo_test (fun _ => by first | assumption | omega | (simp only [List.length_cons, List.length_nil]; omega) | decide) (fun _ => ?_))
    | (with_reducible refine lo_testn (fun _ => by first | assumption | omega) (fun _ => ?_))
    | (with_reducible refine lo_and (fun z => by first | exact z.1 | omega) (fun z => by first | exact z.2 | omega) (fun _ => ?_))
    | exact lo_refl _
    | (with_reducible refine lo_iff (by first | exact Iff.rfl | omega | (simp; done) | decide) (fun _ => ?_) (fun _ => ?_))
    | (with_reducible refine lo_iffn (by first | exact Iff.rfl | omega | (simp; done) | decide) (fun _ => ?_) (fun _ => ?_))
    | refine lo_ite (fun _ => ?_) (fun _ => ?_)
    | refine lo_bind (fun _ => ?_)
    | (refine lo_some ?_; first | rfl | (rw [Bool.false_xor]; rfl) | (rw [Bool.true_xor]; rfl) | (simp only [Bool.and_true]; rfl) | (simp; done))
    | (simp only [Int.zero_sub]; exact lo_refl _)
    | (with_reducible refine lo_lpos (by omega) ?_)
    | (with_reducible refine lo_lneg (by omega) ?_)
    | (with_reducible refine lo_lite (fun _ => ?_) (fun _ => ?_))
    | (with_reducible refine lo_rite (fun _ => ?_) (fun _ => ?_))
  all_goals (exfalso; first | omega | (simp_all; done) | (simp_all; omega))
set_option maxHeartbeats 2000000 in
theorem dec_behind.bf (k : Nat) (a0 : Int) : Lo (dec_behind.f k a0) (dec_behind.nf k a0) := by
  unfold dec_behind.f dec_behind.nf
  try simp only [Bool.false_xor, Bool.true_xor, wu8_64, wu8_u64, byL_nums, btS_bt, nil_tl, beq_decL, beq_decI]
  repeat' first
    | (with_reducible exact lo_refl _)
    | exact lo_none _
    | (with_reducible refine lo_lpos (by first | assumption | decide) ?_)
    | (with_reducible refine lo_lneg (by first | assumption | decide) ?_)
    | (with_reducible refine lo_ite (fun _ => ?_) (fun _ => ?_))
    | (with_reducible refine lo_bind (fun _ => ?_))
    | (with_reducible refine lo_left ?_)
    | (refine lo_neg (by decide) ?_)
    | (refine lo_pos (by first | assumption | omega) ?_)
    | (refine lo_neg (by first | assumption | omega) ?_)
    | (with_reducible refine lo_test (fun _ => by first | assumption | omega | (simp only [List.length_cons, List.length_nil]; omega) | decide) (fun _ => ?_))
    | (with_reducible refine lo_testn (fun _ => by first | assumption | omega) (fun _ => ?_))
    | (with_reducible refine lo_and (fun z => by first | exact z.1 | omega) (fun z => by first | exact z.2 | omega) (fun _ => ?_))
    | exact lo_refl _
    | (with_reducible refine lo_iff (by first | exact Iff.rfl | omega | (simp; done) | decide) (fun _ => ?_) (fun _ => ?_))
    | (with_reducible refine lo_iffn (by first | exact Iff.rfl | omega | (simp; done) | decide) (fun _ => ?_) (fun _ => ?_))
    | refine lo_ite (fun _ => ?_) (fun _ => ?_)
    | refine lo_bind (fun _ => ?_)
    | (refine lo_some ?_; first | rfl | (rw [Bool.false_xor]; rfl) | (rw [Bool.true_xor]; rfl) | (simp only [Bool.and_true]; rfl) | (simp; done))
    | (simp only [Int.zero_sub]; exact lo_refl _)
    | (with_reducible refine lo_lpos (by omega) ?_)
    | (with_reducible refine lo_lneg (by omega) ?_)
    | (with_reducible refine lo_lite (fun _ => ?_) (fun _ => ?_))
    | (with_reducible refine lo_rite (fun _ => ?_) (fun _ => ?_))
  all_goals (exfalso; first | omega | (simp_all; done) | (simp_all; omega))
theorem dec_behind.al : AllLe (obls dec_behind.E Tryd.f41) := by
  rw [dec_behind.h1]
  exact (.cons (fun k y r h => dec_behind.bl0 k y.1.1 y.1.2.1 r h) (.cons (fun _ y r h => by simp [dec_behind.l0] at h) .nil))
theorem dec_behind.ok : CalleeOk Tryd.prog 41 dec_behind.c := fn_ok tabOk mixed (fun _ => rfl) Tryd.func41 rfl (by kernel_rfl) (ok_cons dec_power.ok (ok_cons pair_Mul.ok (ok_cons half_Shift.ok (ok_cons dec_fraction.ok (ok_cons num_Tell.ok (ok_cons strings_Repeat.ok ok_nil)))))) dec_behind.al (fun k x r h => (congrFun (congrFun dec_behind.h2 k) x).symm.trans (dec_behind.bf k _ r h))
def dec_Put.c : Sym.Callee := ⟨(.cons (.int .i64) .nil), .str, false, ByteArray, fun k x => dec_Put.f k x.1, fun z => z, []⟩
def dec_Put.nf (k : Nat) (a0 : Int) : Option (ByteArray) := ((fix_Size.f a0).bind fun t1 => (if (32 : Int) < 0 then none else ((num_Tell.f k (wrap64 ((t1 / 2 ^ (min ((32 : Int)).toNat 64))))).bind fun t2 => (if a0 < (0 : Int) then (if (⟨#[45]⟩ : ByteArray).size + t2.size ≤ 9223372036854775807 then (if (Go.bits .and .u64 t1 (4294967295 : Int)) = (0 : Int) then (some ((⟨#[45]⟩ : ByteArray) ++ t2)) else ((dec_behind.f k (Go.bits .and .u64 t1 (4294967295 : Int))).bind fun t3 => (if (⟨#[46]⟩ : ByteArray).size + t3.size ≤ 9223372036854775807 then (if ((⟨#[45]⟩ : ByteArray) ++ t2).size + ((⟨#[46]⟩ : ByteArray) ++ t3).size ≤ 9223372036854775807 then (some (((⟨#[45]⟩ : ByteArray) ++ t2) ++ ((⟨#[46]⟩ : ByteArray) ++ t3))) else none) else none))) else none) else (if (Go.bits .and .u64 t1 (4294967295 : Int)) = (0 : Int) then (some t2) else ((dec_behind.f k (Go.bits .and .u64 t1 (4294967295 : Int))).bind fun t4 => (if (⟨#[46]⟩ : ByteArray).size + t4.size ≤ 9223372036854775807 then (if t2.size + ((⟨#[46]⟩ : ByteArray) ++ t4).size ≤ 9223372036854775807 then (some (t2 ++ ((⟨#[46]⟩ : ByteArray) ++ t4))) else none) else none)))))))
noncomputable def dec_Put.E : Env (ByteArray) := envOf tab Tryd.f19 false .str [] (fun y => y) [(40, fix_Size.c), (34, num_Tell.c), (41, dec_behind.c)] [] []
theorem dec_Put.h1 : obls dec_Put.E Tryd.f19 = [] := by kernel_rfl
theorem dec_Put.h2 : (fun k (x : El (.cons (.int .i64) .nil)) => dec_Put.nf k x.1) = fun k x => mainK dec_Put.E Tryd.f19 (.cons (.int .i64) .nil) k x := by kernel_rfl
set_option maxHeartbeats 2000000 in
theorem dec_Put.bf (k : Nat) (a0 : Int) : Lo (dec_Put.f k a0) (dec_Put.nf k a0) := by
  unfold dec_Put.f dec_Put.nf
  try simp only [Bool.false_xor, Bool.true_xor, wu8_64, wu8_u64, byL_nums, btS_bt, nil_tl, beq_decL, beq_decI]
  repeat' first
    | (with_reducible exact lo_refl _)
    | exact lo_none _
    | (with_reducible refine lo_lpos (by first | assumption | decide) ?_)
    | (with_reducible refine lo_lneg (by first | assumption | decide) ?_)
    | (with_reducible refine lo_ite (fun _ => ?_) (fun _ => ?_))
    | (with_reducible refine lo_bind (fun _ => ?_))
    | (with_reducible refine lo_left ?_)
    | (refine lo_neg (by decide) ?_)
    | (refine lo_pos (by first | assumption | omega) ?_)
    | (refine lo_neg (by first | assumption | omega) ?_)
    | (with_reducible refine lo_test (fun _ => by first | assumption | omega | (simp only [List.length_cons, List.length_nil]; omega) | decide) (fun _ => ?_))
    | (with_reducible refine lo_testn (fun _ => by first | assumption | omega) (fun _ => ?_))
    | (with_reducible refine lo_and (fun z => by first | exact z.1 | omega) (fun z => by first | exact z.2 | omega) (fun _ => ?_))
    | exact lo_refl _
    | (with_reducible refine lo_iff (by first | exact Iff.rfl | omega | (simp; done) | decide) (fun _ => ?_) (fun _ => ?_))
    | (with_reducible refine lo_iffn (by first | exact Iff.rfl | omega | (simp; done) | decide) (fun _ => ?_) (fun _ => ?_))
    | refine lo_ite (fun _ => ?_) (fun _ => ?_)
    | refine lo_bind (fun _ => ?_)
    | (refine lo_some ?_; first | rfl | (rw [Bool.false_xor]; rfl) | (rw [Bool.true_xor]; rfl) | (simp only [Bool.and_true]; rfl) | (simp; done))
    | (simp only [Int.zero_sub]; exact lo_refl _)
    | (with_reducible refine lo_lpos (by omega) ?_)
    | (with_reducible refine lo_lneg (by omega) ?_)
    | (with_reducible refine lo_lite (fun _ => ?_) (fun _ => ?_))
    | (with_reducible refine lo_rite (fun _ => ?_) (fun _ => ?_))
  all_goals (exfalso; first | omega | (simp_all; done) | (simp_all; omega))
theorem dec_Put.al : AllLe (obls dec_Put.E Tryd.f19) := by
  rw [dec_Put.h1]
  exact .nil
theorem dec_Put.ok : CalleeOk Tryd.prog 19 dec_Put.c := fn_ok tabOk mixed (fun _ => rfl) Tryd.func19 rfl (by kernel_rfl) (ok_cons fix_Size.ok (ok_cons num_Tell.ok (ok_cons dec_behind.ok ok_nil))) dec_Put.al (fun k x r h => (congrFun (congrFun dec_Put.h2 k) x).symm.trans (dec_Put.bf k _ r h))
def layJoin_ren : Go.Shelf.Ren := ⟨fun | 156 => 20 | 165 => 42 | 166 => 43 | 169 => 44 | 240 => 74 | 241 => 75 | 276 => 96 | 277 => 97 | n => n, fun | 31 => 35 | 9 => 9 | 3 => 3 | 4 => 4 | 0 => 0 | 20 => 20 | 72 => 84 | 76 => 88 | 70 => 81 | 37 => 82 | 75 => 87 | 127 => 121 | 164 => 138 | 5 => 5 | 80 => 90 | n => n, fun | n => n⟩
theorem layJoin : Go.Proofs.Lays.n156 Tryd.prog layJoin_ren := {
  mixed := by kernel_rfl
  f156 := Tryd.func20.trans (congrArg some (by kernel_rfl))
  f165 := Tryd.func42.trans (congrArg some (by kernel_rfl))
  f166 := Tryd.func43.trans (congrArg some (by kernel_rfl))
  f169 := Tryd.func44.trans (congrArg some (by kernel_rfl))
  f240 := Tryd.func74.trans (congrArg some (by kernel_rfl))
  f241 := Tryd.func75.trans (congrArg some (by kernel_rfl))
  f276 := Tryd.func96.trans (congrArg some (by kernel_rfl))
  f277 := Tryd.func97.trans (congrArg some (by kernel_rfl))
  t0 := Tryd.underlying0
  a0 := Tryd.isAgg0
  z0 := Tryd.sizeOf0
  v0 := Tryd.zeroValue0
  t3 := Tryd.underlying3
  a3 := Tryd.isAgg3
  z3 := Tryd.sizeOf3
  v3 := Tryd.zeroValue3
  t4 := Tryd.underlying4
  a4 := Tryd.isAgg4
  z4 := Tryd.sizeOf4
  v4 := Tryd.zeroValue4
  t9 := Tryd.underlying9
  a9 := Tryd.isAgg9
  z9 := Tryd.sizeOf9
  v9 := Tryd.zeroValue9
  t20 := Tryd.underlying20
  a20 := Tryd.isAgg20
  z20 := Tryd.sizeOf20
  v20 := Tryd.zeroValue20
  t31 := Tryd.underlying35
  a31 := Tryd.isAgg35
  z31 := Tryd.sizeOf35
  v31 := Tryd.zeroValue35
  t37 := Tryd.underlying82
  a37 := Tryd.isAgg82
  z37 := Tryd.sizeOf82
  v37 := Tryd.zeroValue82
  t70 := Tryd.underlying81
  a70 := Tryd.isAgg81
  z70 := Tryd.sizeOf81
  v70 := Tryd.zeroValue81
  t72 := Tryd.underlying84
  a72 := Tryd.isAgg84
  z72 := Tryd.sizeOf84
  v72 := Tryd.zeroValue84
  t75 := Tryd.underlying87
  a75 := Tryd.isAgg87
  z75 := Tryd.sizeOf87
  v75 := Tryd.zeroValue87
  t76 := Tryd.underlying88
  a76 := Tryd.isAgg88
  z76 := Tryd.sizeOf88
  v76 := Tryd.zeroValue88
  t127 := Tryd.underlying121
  a127 := Tryd.isAgg121
  z127 := Tryd.sizeOf121
  v127 := Tryd.zeroValue121
  t164 := Tryd.underlying138
  a164 := Tryd.isAgg138
  z164 := Tryd.sizeOf138
  v164 := Tryd.zeroValue138 }
theorem layJoinX : Go.Proofs.Builder.Extra Tryd.prog layJoin_ren := {
  sizeBuilder := by kernel_rfl
  liesBuilder := by kernel_rfl
  t5 := Tryd.underlying5
  a5 := Tryd.isAgg5
  z5 := Tryd.sizeOf5
  v5 := Tryd.zeroValue5
  infoByte := by kernel_rfl
  cellsByte := by kernel_rfl
  sizeByte := by kernel_rfl
  neB5 := by decide }
theorem layJoinF : layJoin_ren.f 156 = 20 := by kernel_rfl

def strings_Join.c : Sym.Callee := ⟨(.cons (.sl .str) (.cons .str .nil)), .str, false, ByteArray, fun k x => strings_Join.f x.1 x.2.1, fun y => y, []⟩
theorem strings_Join.ok : CalleeOk Tryd.prog 20 strings_Join.c where
  enter := enter_of Tryd.func20 rfl (by kernel_rfl)
  calls k w F vs x y hL hfin hx hy := by
    obtain ⟨v1, us, rfl, h1, v2, us2, rfl, h2, rfl⟩ := hx
    obtain ⟨A, c, rfl, hc, hr⟩ := rep_sl h1
    obtain rfl := rep_str h2
    have fin : ∀ (r : ByteArray) (e : Ending) (w' : World), e = .returned (.string r) → Below w.heap.size w w' → Sym.Ends F w Ty.str false [] r e w' := fun r e w' he hb =>
      ⟨_, F, he, ⟨hb, fun _ _ => rfl⟩, fun b hb2 => Nat.lt_of_lt_of_le (hfin b hb2) hb.size, repR_one mk_str⟩
    have hy : strings_Join.f x.1 x.2.1 = some y := hy
    unfold strings_Join.f at hy
    split at hy
    case isFalse => cases hy
    case isTrue hq =>
      obtain rfl := Option.some.inj hy
      rcases Nat.eq_zero_or_pos (List.length x.1) with z | z
      · have hnil : x.1 = [] := List.length_eq_zero_iff.1 z
        have g := Go.Proofs.Any.strings_Join_none layJoin layJoinX A c x.2.1 w
        rw [layJoinF] at g
        rw [hnil]
        exact g.mono fun e w' q => fin _ _ _ q.1 (q.2 ▸ Below.refl _ _)
      · obtain ⟨b, o, rfl, _, hcell⟩ := hr z
        have at_ : ∀ (j : Nat) (s : ByteArray), x.1[j]? = some s → w.cell? ⟨b, o + j, none⟩ = some (.string s) := by
          intro j s hj
          obtain ⟨ds, k1, k2⟩ := hcell j s hj
          have := k2 0 (.string s) (by rw [show ds = _ from k1]; rfl)
          simpa [show Ty.str.size = 1 from rfl] using this
        have g := Go.Proofs.Any.strings_Join layJoin layJoinX b o c x.1 x.2.1 w at_ (cell_lt (at_ 0 _ (List.getElem?_eq_getElem z))) hq.1 hc hq.2
        rw [layJoinF] at g
        exact g.mono fun e w' q => fin _ _ _ q.1 q.2
mutual
def input_Put_s.l3 : Nat → (List ByteArray) → (List (Bool × Int × Unit)) → Int → Int → ((List (Bool × Int × Unit)) × (List Int) × Unit) → Option ByteArray
  | 0, _, _, _, _, _ => none
  | k + 1, x3, x9, x10, x11, b1 => (if x11 < x10 then (if 0 ≤ x11 then (if x11 < (x9.length : Int) then (if (!(x9.getD (x11).toNat (false, 0, ())).1) = true then (if (x3.length + [(⟨#[45]⟩ : ByteArray)].length) * 16 ≤ 140737488355328 then (input_Put_s.j8 k (x3 ++ [(⟨#[45]⟩ : ByteArray)]) x9 x10 x11 b1) else none) else ((dec_Put.f k ((x9.getD (x11).toNat (false, 0, ())).2.1)).bind fun t1 => (if (x3.length + [t1].length) * 16 ≤ 140737488355328 then (input_Put_s.j8 k (x3 ++ [t1]) x9 x10 x11 b1) else none))) else none) else none) else (if (x3.length + [(⟨#[124]⟩ : ByteArray)].length) * 16 ≤ 140737488355328 then (input_Put_s.l11 k (x3 ++ [(⟨#[124]⟩ : ByteArray)]) b1.2.1 (b1.2.1.length : Int) (0 : Int)) else none))
def input_Put_s.j8 : Nat → (List ByteArray) → (List (Bool × Int × Unit)) → Int → Int → ((List (Bool × Int × Unit)) × (List Int) × Unit) → Option ByteArray
  | 0, _, _, _, _, _ => none
  | k + 1, x3, x9, x10, x11, b1 => (input_Put_s.l3 k x3 x9 x10 (wrap64 (x11 + (1 : Int))) b1)
def input_Put_s.l11 : Nat → (List ByteArray) → (List Int) → Int → Int → Option ByteArray
  | 0, _, _, _, _ => none
  | k + 1, x3, x32, x33, x34 => (if x34 < x33 then (if 0 ≤ x34 then (if x34 < (x32.length : Int) then ((dec_Put.f k (x32.getD (x34).toNat 0)).bind fun t2 => (if (x3.length + [t2].length) * 16 ≤ 140737488355328 then (input_Put_s.l11 k (x3 ++ [t2]) x32 x33 (wrap64 (x34 + (1 : Int)))) else none)) else none) else none) else ((strings_Join.f x3 (⟨#[32]⟩ : ByteArray)).bind fun t3 => (some t3)))
end
def input_Put_s.f (k : Nat) (a0 : (List (Bool × Int × Unit)) × (List Int) × Unit) : Option ByteArray := (input_Put_s.l3 k ([] : List ByteArray) a0.1 (a0.1.length : Int) (0 : Int) a0)
def input_Put_s.c : Sym.Callee := ⟨(.cons (.cons (.sl (.cons .bool (.cons (.int .i64) .nil))) (.cons (.sl (.int .i64)) .nil)) .nil), .str, false, El .str, fun k x => input_Put_s.f k x.1, fun y => y, []⟩
noncomputable def input_Put_s.E : Env (El .str) := envOf tab Tryd.f7 false .str [] (fun y => y) [(19, dec_Put.c), (20, strings_Join.c)] [⟨3, ⟨46, [(3, (.sl .str), [⟨0, 4, 9, 1⟩]), (9, (.sl (.cons .bool (.cons (.int .i64) .nil))), []), (10, (.int .i64), []), (11, (.int .i64), [])], [(1, (.cons (.sl (.cons .bool (.cons (.int .i64) .nil))) (.cons (.sl (.int .i64)) .nil)), [])], []⟩, fun k y => input_Put_s.l3 k y.1.1 y.1.2.1 y.1.2.2.1 y.1.2.2.2.1 y.2.1.1⟩, ⟨11, ⟨46, [(3, (.sl .str), [⟨0, 4, 9, 1⟩]), (32, (.sl (.int .i64)), []), (33, (.int .i64), []), (34, (.int .i64), [])], [], []⟩, fun k y => input_Put_s.l11 k y.1.1 y.1.2.1 y.1.2.2.1 y.1.2.2.2.1⟩] [⟨8, ⟨46, [(3, (.sl .str), [⟨0, 4, 9, 1⟩]), (9, (.sl (.cons .bool (.cons (.int .i64) .nil))), []), (10, (.int .i64), []), (11, (.int .i64), [])], [(1, (.cons (.sl (.cons .bool (.cons (.int .i64) .nil))) (.cons (.sl (.int .i64)) .nil)), [])], []⟩, fun k y => input_Put_s.j8 k y.1.1 y.1.2.1 y.1.2.2.1 y.1.2.2.2.1 y.2.1.1⟩]
theorem input_Put_s.h1 : (obls input_Put_s.E Tryd.f7).map Ob.left = (obls input_Put_s.E Tryd.f7).map Ob.right := by kernel_rfl
theorem input_Put_s.h2 : (fun k x => input_Put_s.c.fn k x) = fun k x => mainK input_Put_s.E Tryd.f7 input_Put_s.c.dom k x := by kernel_rfl
theorem input_Put_s.ok : CalleeOk Tryd.prog 7 input_Put_s.c := fn_ok tabOk mixed (fun _ => rfl) Tryd.func7 rfl (by kernel_rfl) (ok_cons dec_Put.ok (ok_cons strings_Join.ok ok_nil)) (.of_eq input_Put_s.h1) (fun k x _ h => (congrFun (congrFun input_Put_s.h2 k) x).symm.trans h)
theorem input_Put_s.mono_c : ∀ k, (∀ x3 x9 x10 x11 b1, Lo (input_Put_s.l3 k x3 x9 x10 x11 b1) (input_Put_s.l3 (k + 1) x3 x9 x10 x11 b1)) ∧ (∀ x3 x9 x10 x11 b1, Lo (input_Put_s.j8 k x3 x9 x10 x11 b1) (input_Put_s.j8 (k + 1) x3 x9 x10 x11 b1)) ∧ (∀ x3 x32 x33 x34, Lo (input_Put_s.l11 k x3 x32 x33 x34) (input_Put_s.l11 (k + 1) x3 x32 x33 x34)) ∧ True
  | 0 => ⟨fun _ _ _ _ _ => by rw [input_Put_s.l3]; exact lo_none _, fun _ _ _ _ _ => by rw [input_Put_s.j8]; exact lo_none _, fun _ _ _ _ => by rw [input_Put_s.l11]; exact lo_none _, trivial⟩
  | k + 1 => by
    obtain ⟨h_l3, h_j8, h_l11, _⟩ := input_Put_s.mono_c k
    exact ⟨fun _ _ _ _ _ => by rw [input_Put_s.l3, input_Put_s.l3]; repeat' first | (with_reducible exact lo_refl _) | (with_reducible exact h_l3 _ _ _ _ _) | (with_reducible exact h_j8 _ _ _ _ _) | (with_reducible exact h_l11 _ _ _ _) | (with_reducible refine lo_ite (fun _ => ?_) (fun _ => ?_)) | (with_reducible refine lo_bind2 ?_ (fun _ => ?_)) | (with_reducible exact lo_leo (dec_Put.mono _ _)), fun _ _ _ _ _ => by rw [input_Put_s.j8, input_Put_s.j8]; repeat' first | (with_reducible exact lo_refl _) | (with_reducible exact h_l3 _ _ _ _ _) | (with_reducible exact h_j8 _ _ _ _ _) | (with_reducible exact h_l11 _ _ _ _) | (with_reducible refine lo_ite (fun _ => ?_) (fun _ => ?_)) | (with_reducible refine lo_bind2 ?_ (fun _ => ?_)) | (with_reducible exact lo_leo (dec_Put.mono _ _)), fun _ _ _ _ => by rw [input_Put_s.l11, input_Put_s.l11]; repeat' first | (with_reducible exact lo_refl _) | (with_reducible exact h_l3 _ _ _ _ _) | (with_reducible exact h_j8 _ _ _ _ _) | (with_reducible exact h_l11 _ _ _ _) | (with_reducible refine lo_ite (fun _ => ?_) (fun _ => ?_)) | (with_reducible refine lo_bind2 ?_ (fun _ => ?_)) | (with_reducible exact lo_leo (dec_Put.mono _ _)), trivial⟩
theorem input_Put_s.mono : ∀ k a0, Lo (input_Put_s.f k a0) (input_Put_s.f (k + 1) a0) := by
  intro k a0
  obtain ⟨h_l3, h_j8, h_l11, _⟩ := input_Put_s.mono_c k
  unfold input_Put_s.f
  repeat' first | (with_reducible exact lo_refl _) | (with_reducible exact h_l3 _ _ _ _ _) | (with_reducible exact h_j8 _ _ _ _ _) | (with_reducible exact h_l11 _ _ _ _) | (with_reducible refine lo_ite (fun _ => ?_) (fun _ => ?_)) | (with_reducible refine lo_bind2 ?_ (fun _ => ?_)) | (with_reducible exact lo_leo (dec_Put.mono _ _))
def regimenlaw44_awake.f (k : Nat) : Option Bool := ((input_Get.f k (⟨#[48, 46, 53, 32, 45, 32, 124, 32, 49]⟩ : ByteArray)).bind fun t1 => ((input_Parse.f k (⟨#[124, 10, 124, 32, 97, 10]⟩ : ByteArray)).bind fun t2 => (if t1.2.1 = (0 : Int) then (if (t1.1.1.length : Int) = (2 : Int) then (if 0 ≤ (0 : Int) then (if (0 : Int) < (t1.1.1.length : Int) then (if (((t1.1.1.getD ((0 : Int)).toNat (false, 0, ())).1 == true) && ((decide ((t1.1.1.getD ((0 : Int)).toNat (false, 0, ())).2.1 = (2147483648 : Int))) && true)) = true then (if (t1.1.2.1.length : Int) = (1 : Int) then ((input_Put_s.f k t1.1).bind fun t3 => (if t3.toList = (⟨#[48, 46, 53, 32, 45, 32, 124, 32, 49]⟩ : ByteArray).toList then (if t2.2.1 = (2 : Int) then (some (xor false (decide (t2.2.2.1 = (2 : Int))))) else (some false)) else (some false))) else (some false)) else (some false)) else none) else none) else (some false)) else (some false))))
def regimenlaw44_awake.c : Sym.Callee := ⟨.nil, .bool, false, El .bool, fun k x => regimenlaw44_awake.f k, fun y => y, []⟩
noncomputable def regimenlaw44_awake.E : Env (El .bool) := envOf tab Tryd.f6 false .bool [] (fun y => y) [(8, input_Get.c), (18, input_Parse.c), (7, input_Put_s.c)] [] []
theorem regimenlaw44_awake.h1 : (obls regimenlaw44_awake.E Tryd.f6).map Ob.left = (obls regimenlaw44_awake.E Tryd.f6).map Ob.right := by kernel_rfl
theorem regimenlaw44_awake.h2 : (fun k x => regimenlaw44_awake.c.fn k x) = fun k x => mainK regimenlaw44_awake.E Tryd.f6 regimenlaw44_awake.c.dom k x := by kernel_rfl
theorem regimenlaw44_awake.ok : CalleeOk Tryd.prog 6 regimenlaw44_awake.c := fn_ok tabOk mixed (fun _ => rfl) Tryd.func6 rfl (by kernel_rfl) (ok_cons input_Get.ok (ok_cons input_Parse.ok (ok_cons input_Put_s.ok ok_nil))) (.of_eq regimenlaw44_awake.h1) (fun k x _ h => (congrFun (congrFun regimenlaw44_awake.h2 k) x).symm.trans h)
theorem regimenlaw44_awake.mono : ∀ k, Lo (regimenlaw44_awake.f k) (regimenlaw44_awake.f (k + 1)) := by
  intro k
  unfold regimenlaw44_awake.f
  repeat' first | (with_reducible exact lo_refl _) | (with_reducible refine lo_ite (fun _ => ?_) (fun _ => ?_)) | (with_reducible refine lo_bind2 ?_ (fun _ => ?_)) | (with_reducible exact lo_of (input_Put_s.mono _ _)) | (with_reducible exact lo_of (input_Get.mono _ _)) | (with_reducible exact lo_of (input_Parse.mono _ _))
def regimenref02_Word.c : Sym.Callee := ⟨(.cons (.int .u64) .nil), (.sl (.int .u64)), false, List Int, fun k x => regimenref02_Word.f x.1, fun z => z, []⟩
def regimenref02_Word.nf (k : Nat) (a0 : Int) : Option (List Int) := (if (65536 : Int) = 0 then none else (if (65536 : Int) = 0 then none else (if (65536 : Int) = 0 then none else (if (4294967296 : Int) = 0 then none else (if (65536 : Int) = 0 then none else (if (281474976710656 : Int) = 0 then none else (some [(Int.tmod a0 (65536 : Int)), (Int.tmod (IntKind.wrap .u64 (Int.tdiv a0 (65536 : Int))) (65536 : Int)), (Int.tmod (IntKind.wrap .u64 (Int.tdiv a0 (4294967296 : Int))) (65536 : Int)), (IntKind.wrap .u64 (Int.tdiv a0 (281474976710656 : Int)))])))))))
noncomputable def regimenref02_Word.E : Env (List Int) := envOf tab Tryd.f81 false (.sl (.int .u64)) [] (fun y => y) [] [] []
theorem regimenref02_Word.h1 : obls regimenref02_Word.E Tryd.f81 = [] := by kernel_rfl
theorem regimenref02_Word.h2 : (fun k (x : El (.cons (.int .u64) .nil)) => regimenref02_Word.nf k x.1) = fun k x => mainK regimenref02_Word.E Tryd.f81 (.cons (.int .u64) .nil) k x := by kernel_rfl
set_option maxHeartbeats 2000000 in
theorem regimenref02_Word.bf (k : Nat) (a0 : Int) : Lo (regimenref02_Word.f a0) (regimenref02_Word.nf k a0) := by
  unfold regimenref02_Word.f regimenref02_Word.nf
  try simp only [Bool.false_xor, Bool.true_xor, wu8_64, wu8_u64, byL_nums, btS_bt, nil_tl, beq_decL, beq_decI]
  repeat' first
    | (with_reducible exact lo_refl _)
    | exact lo_none _
    | (with_reducible refine lo_lpos (by first | assumption | decide) ?_)
    | (with_reducible refine lo_lneg (by first | assumption | decide) ?_)
    | (with_reducible refine lo_ite (fun _ => ?_) (fun _ => ?_))
    | (with_reducible refine lo_bind (fun _ => ?_))
    | (with_reducible refine lo_left ?_)
    | (refine lo_neg (by decide) ?_)
    | (refine lo_pos (by first | assumption | omega) ?_)
    | (refine lo_neg (by first | assumption | omega) ?_)
    | (with_reducible refine lo_test (fun _ => by first | assumption | omega | (simp only [List.length_cons, List.length_nil]; omega) | decide) (fun _ => ?_))
    | (with_reducible refine lo_testn (fun _ => by first | assumption | omega) (fun _ => ?_))
    | (with_reducible refine lo_and (fun z => by first | exact z.1 | omega) (fun z => by first | exact z.2 | omega) (fun _ => ?_))
    | exact lo_refl _
    | (with_reducible refine lo_iff (by first | exact Iff.rfl | omega | (simp; done) | decide) (fun _ => ?_) (fun _ => ?_))
    | (with_reducible refine lo_iffn (by first | exact Iff.rfl | omega | (simp; done) | decide) (fun _ => ?_) (fun _ => ?_))
    | refine lo_ite (fun _ => ?_) (fun _ => ?_)
    | refine lo_bind (fun _ => ?_)
    | (refine lo_some ?_; first | rfl | (rw [Bool.false_xor]; rfl) | (rw [Bool.true_xor]; rfl) | (simp only [Bool.and_true]; rfl) | (simp; done))
    | (simp only [Int.zero_sub]; exact lo_refl _)
    | (with_reducible refine lo_lpos (by omega) ?_)
    | (with_reducible refine lo_lneg (by omega) ?_)
    | (with_reducible refine lo_lite (fun _ => ?_) (fun _ => ?_))
    | (with_reducible refine lo_rite (fun _ => ?_) (fun _ => ?_))
  all_goals (exfalso; first | omega | (simp_all; done) | (simp_all; omega))
theorem regimenref02_Word.al : AllLe (obls regimenref02_Word.E Tryd.f81) := by
  rw [regimenref02_Word.h1]
  exact .nil
theorem regimenref02_Word.ok : CalleeOk Tryd.prog 81 regimenref02_Word.c := fn_ok tabOk mixed (fun _ => rfl) Tryd.func81 rfl (by kernel_rfl) ok_nil regimenref02_Word.al (fun k x r h => (congrFun (congrFun regimenref02_Word.h2 k) x).symm.trans (regimenref02_Word.bf k _ r h))
def regimenref02_Size.c : Sym.Callee := ⟨(.cons (.int .i64) .nil), (.sl (.int .u64)), false, List Int, fun k x => regimenref02_Size.f x.1, fun z => z, []⟩
def regimenref02_Size.nf (k : Nat) (a0 : Int) : Option (List Int) := (if a0 < (0 : Int) then ((regimenref02_Word.f (IntKind.wrap .u64 ((0 : Int) - (IntKind.wrap .u64 (a0))))).bind fun t1 => (some t1)) else ((regimenref02_Word.f (IntKind.wrap .u64 (a0))).bind fun t2 => (some t2)))
noncomputable def regimenref02_Size.E : Env (List Int) := envOf tab Tryd.f50 false (.sl (.int .u64)) [] (fun y => y) [(81, regimenref02_Word.c)] [] []
theorem regimenref02_Size.h1 : obls regimenref02_Size.E Tryd.f50 = [] := by kernel_rfl
theorem regimenref02_Size.h2 : (fun k (x : El (.cons (.int .i64) .nil)) => regimenref02_Size.nf k x.1) = fun k x => mainK regimenref02_Size.E Tryd.f50 (.cons (.int .i64) .nil) k x := by kernel_rfl
set_option maxHeartbeats 2000000 in
theorem regimenref02_Size.bf (k : Nat) (a0 : Int) : Lo (regimenref02_Size.f a0) (regimenref02_Size.nf k a0) := by
  unfold regimenref02_Size.f regimenref02_Size.nf
  try simp only [Bool.false_xor, Bool.true_xor, wu8_64, wu8_u64, byL_nums, btS_bt, nil_tl, beq_decL, beq_decI]
  repeat' first
    | (with_reducible exact lo_refl _)
    | exact lo_none _
    | (with_reducible refine lo_lpos (by first | assumption | decide) ?_)
    | (with_reducible refine lo_lneg (by first | assumption | decide) ?_)
    | (with_reducible refine lo_ite (fun _ => ?_) (fun _ => ?_))
    | (with_reducible refine lo_bind (fun _ => ?_))
    | (with_reducible refine lo_left ?_)
    | (refine lo_neg (by decide) ?_)
    | (refine lo_pos (by first | assumption | omega) ?_)
    | (refine lo_neg (by first | assumption | omega) ?_)
    | (with_reducible refine lo_test (fun _ => by first | assumption | omega | (simp only [List.length_cons, List.length_nil]; omega) | decide) (fun _ => ?_))
    | (with_reducible refine lo_testn (fun _ => by first | assumption | omega) (fun _ => ?_))
    | (with_reducible refine lo_and (fun z => by first | exact z.1 | omega) (fun z => by first | exact z.2 | omega) (fun _ => ?_))
    | exact lo_refl _
    | (with_reducible refine lo_iff (by first | exact Iff.rfl | omega | (simp; done) | decide) (fun _ => ?_) (fun _ => ?_))
    | (with_reducible refine lo_iffn (by first | exact Iff.rfl | omega | (simp; done) | decide) (fun _ => ?_) (fun _ => ?_))
    | refine lo_ite (fun _ => ?_) (fun _ => ?_)
    | refine lo_bind (fun _ => ?_)
    | (refine lo_some ?_; first | rfl | (rw [Bool.false_xor]; rfl) | (rw [Bool.true_xor]; rfl) | (simp only [Bool.and_true]; rfl) | (simp; done))
    | (simp only [Int.zero_sub]; exact lo_refl _)
    | (with_reducible refine lo_lpos (by omega) ?_)
    | (with_reducible refine lo_lneg (by omega) ?_)
    | (with_reducible refine lo_lite (fun _ => ?_) (fun _ => ?_))
    | (with_reducible refine lo_rite (fun _ => ?_) (fun _ => ?_))
  all_goals (exfalso; first | omega | (simp_all; done) | (simp_all; omega))
theorem regimenref02_Size.al : AllLe (obls regimenref02_Size.E Tryd.f50) := by
  rw [regimenref02_Size.h1]
  exact .nil
theorem regimenref02_Size.ok : CalleeOk Tryd.prog 50 regimenref02_Size.c := fn_ok tabOk mixed (fun _ => rfl) Tryd.func50 rfl (by kernel_rfl) (ok_cons regimenref02_Word.ok ok_nil) regimenref02_Size.al (fun k x r h => (congrFun (congrFun regimenref02_Size.h2 k) x).symm.trans (regimenref02_Size.bf k _ r h))
def regimenref02_Times.c : Sym.Callee := ⟨(.cons (.sl (.int .u64)) (.cons (.sl (.int .u64)) .nil)), (.sl (.int .u64)), false, List Int, fun k x => regimenref02_Times.f k x.1 x.2.1, fun z => z, []⟩
def regimenref02_Times.nl0 (k : Nat) (x0 : List Int) (x1 : List Int) (r5 : List Int) (x6 : Int) : Option (List Int) := (if x6 < (x0.length : Int) then (regimenref02_Times.l1 k x0 x1 r5 x6 (0 : Int) (0 : Int)) else (some r5))
def regimenref02_Times.nl1 (k : Nat) (x0 : List Int) (x1 : List Int) (r5 : List Int) (x6 : Int) (x7 : Int) (x8 : Int) : Option (List Int) := (if x8 < (x1.length : Int) then (if 0 ≤ (wrap64 (x6 + x8)) then (if (wrap64 (x6 + x8)) < ((r5.length : Nat) : Int) then (if 0 ≤ x6 then (if x6 < (x0.length : Int) then (if 0 ≤ x8 then (if x8 < (x1.length : Int) then (if (65536 : Int) = 0 then none else (if 0 ≤ (wrap64 (x6 + x8)) then (if (wrap64 (x6 + x8)) < ((r5.length : Nat) : Int) then (if (65536 : Int) = 0 then none else (regimenref02_Times.l1 k x0 x1 (r5.set ((wrap64 (x6 + x8))).toNat (Int.tmod (IntKind.wrap .u64 ((IntKind.wrap .u64 ((r5.getD ((wrap64 (x6 + x8))).toNat 0) + (IntKind.wrap .u64 ((x0.getD (x6).toNat 0) * (x1.getD (x8).toNat 0))))) + x7)) (65536 : Int))) x6 (IntKind.wrap .u64 (Int.tdiv (IntKind.wrap .u64 ((IntKind.wrap .u64 ((r5.getD ((wrap64 (x6 + x8))).toNat 0) + (IntKind.wrap .u64 ((x0.getD (x6).toNat 0) * (x1.getD (x8).toNat 0))))) + x7)) (65536 : Int))) (wrap64 (x8 + (1 : Int))))) else none) else none)) else none) else none) else none) else none) else none) else none) else (if 0 ≤ (wrap64 (x6 + (x1.length : Int))) then (if (wrap64 (x6 + (x1.length : Int))) < ((r5.length : Nat) : Int) then (if 0 ≤ (wrap64 (x6 + (x1.length : Int))) then (if (wrap64 (x6 + (x1.length : Int))) < ((r5.length : Nat) : Int) then (regimenref02_Times.l0 k x0 x1 (r5.set ((wrap64 (x6 + (x1.length : Int)))).toNat (IntKind.wrap .u64 ((r5.getD ((wrap64 (x6 + (x1.length : Int)))).toNat 0) + x7))) (wrap64 (x6 + (1 : Int)))) else none) else none) else none) else none))
def regimenref02_Times.nf (k : Nat) (a0 : List Int) (a1 : List Int) : Option (List Int) := (if 0 ≤ (wrap64 ((a0.length : Int) + (a1.length : Int))) then (if (wrap64 ((a0.length : Int) + (a1.length : Int))) * ((8 : Nat) : Int) ≤ 281474976710656 then (regimenref02_Times.l0 k a0 a1 (List.replicate ((wrap64 ((a0.length : Int) + (a1.length : Int)))).toNat 0) (0 : Int)) else none) else none)
noncomputable def regimenref02_Times.E : Env (List Int) := envOf tab Tryd.f52 false (.sl (.int .u64)) [] (fun y => y) [] [⟨3, ⟨71, [(0, (.sl (.int .u64)), []), (1, (.sl (.int .u64)), []), (6, (.int .i64), [])], [], [(5, none, 77, (.int .u64))]⟩, fun k y => regimenref02_Times.l0 k y.1.1 y.1.2.1 y.2.2.1.1 y.1.2.2.1⟩, ⟨7, ⟨71, [(0, (.sl (.int .u64)), []), (1, (.sl (.int .u64)), []), (6, (.int .i64), []), (7, (.int .u64), []), (8, (.int .i64), [])], [], [(5, none, 77, (.int .u64))]⟩, fun k y => regimenref02_Times.l1 k y.1.1 y.1.2.1 y.2.2.1.1 y.1.2.2.1 y.1.2.2.2.1 y.1.2.2.2.2.1⟩] []
theorem regimenref02_Times.h1 : obls regimenref02_Times.E Tryd.f52 = [⟨(.cons (.cons (.sl (.int .u64)) (.cons (.sl (.int .u64)) (.cons (.int .i64) .nil))) (.cons .nil (.cons (.cons (.sl (.int .u64)) .nil) .nil))), fun k y => regimenref02_Times.l0 (k + 1) y.1.1 y.1.2.1 y.2.2.1.1 y.1.2.2.1, fun k y => regimenref02_Times.nl0 k y.1.1 y.1.2.1 y.2.2.1.1 y.1.2.2.1⟩, ⟨(.cons (.cons (.sl (.int .u64)) (.cons (.sl (.int .u64)) (.cons (.int .i64) .nil))) (.cons .nil (.cons (.cons (.sl (.int .u64)) .nil) .nil))), fun _ y => regimenref02_Times.l0 0 y.1.1 y.1.2.1 y.2.2.1.1 y.1.2.2.1, fun _ _ => none⟩, ⟨(.cons (.cons (.sl (.int .u64)) (.cons (.sl (.int .u64)) (.cons (.int .i64) (.cons (.int .u64) (.cons (.int .i64) .nil))))) (.cons .nil (.cons (.cons (.sl (.int .u64)) .nil) .nil))), fun k y => regimenref02_Times.l1 (k + 1) y.1.1 y.1.2.1 y.2.2.1.1 y.1.2.2.1 y.1.2.2.2.1 y.1.2.2.2.2.1, fun k y => regimenref02_Times.nl1 k y.1.1 y.1.2.1 y.2.2.1.1 y.1.2.2.1 y.1.2.2.2.1 y.1.2.2.2.2.1⟩, ⟨(.cons (.cons (.sl (.int .u64)) (.cons (.sl (.int .u64)) (.cons (.int .i64) (.cons (.int .u64) (.cons (.int .i64) .nil))))) (.cons .nil (.cons (.cons (.sl (.int .u64)) .nil) .nil))), fun _ y => regimenref02_Times.l1 0 y.1.1 y.1.2.1 y.2.2.1.1 y.1.2.2.1 y.1.2.2.2.1 y.1.2.2.2.2.1, fun _ _ => none⟩] := by kernel_rfl
theorem regimenref02_Times.h2 : (fun k (x : El (.cons (.sl (.int .u64)) (.cons (.sl (.int .u64)) .nil))) => regimenref02_Times.nf k x.1 x.2.1) = fun k x => mainK regimenref02_Times.E Tryd.f52 (.cons (.sl (.int .u64)) (.cons (.sl (.int .u64)) .nil)) k x := by kernel_rfl
theorem regimenref02_Times.bl0 (k : Nat) (x0 : List Int) (x1 : List Int) (r5 : List Int) (x6 : Int) : Lo (regimenref02_Times.l0 (k + 1) x0 x1 r5 x6) (regimenref02_Times.nl0 k x0 x1 r5 x6) := by
  rw [regimenref02_Times.l0]
  unfold regimenref02_Times.nl0
  try simp only [Bool.false_xor, Bool.true_xor, wu8_64, wu8_u64, byL_nums, btS_bt, nil_tl, beq_decL, beq_decI]
  repeat' first
    | (with_reducible exact lo_refl _)
    | exact lo_none _
    | (with_reducible refine lo_lpos (by first | assumption | decide) ?_)
    | (with_reducible refine lo_lneg (by first | assumption | decide) ?_)
    | (with_reducible refine lo_ite (fun _ => ?_) (fun _ => ?_))
    | (with_reducible refine lo_bind (fun _ => ?_))
    | (with_reducible refine lo_left ?_)
    | (refine lo_neg (by decide) ?_)
    | (refine lo_pos (by first | assumption | omega) ?_)
    | (refine lo_neg (by first | assumption | omega) ?_)
    | (with_reducible refine lo_test (fun _ => by first | assumption | omega | (simp only [List.length_cons, List.length_nil]; omega) | decide) (fun _ => ?_))
    | (with_reducible refine lo_testn (fun _ => by first | assumption | omega) (fun _ => ?_))
    | (with_reducible refine lo_and (fun z => by first | exact z.1 | omega) (fun z => by first | exact z.2 | omega) (fun _ => ?_))
    | exact lo_refl _
    | (with_reducible refine lo_iff (by first | exact Iff.rfl | omega | (simp; done) | decide) (fun _ => ?_) (fun _ => ?_))
    | (with_reducible refine lo_iffn (by first | exact Iff.rfl | omega | (simp; done) | decide) (fun _ => ?_) (fun _ => ?_))
    | refine lo_ite (fun _ => ?_) (fun _ => ?_)
    | refine lo_bind (fun _ => ?_)
    | (refine lo_some ?_; first | rfl | (rw [Bool.false_xor]; rfl) | (rw [Bool.true_xor]; rfl) | (simp only [Bool.and_true]; rfl) | (simp; done))
    | (simp only [Int.zero_sub]; exact lo_refl _)
    | (with_reducible refine lo_lpos (by omega) ?_)
    | (with_reducible refine lo_lneg (by omega) ?_)
    | (with_reducible refine lo_lite (fun _ => ?_) (fun _ => ?_))
    | (with_reducible refine lo_rite (fun _ => ?_) (fun _ => ?_))
  all_goals (exfalso; first | omega | (simp_all; done) | (simp_all; omega))
theorem regimenref02_Times.bl1 (k : Nat) (x0 : List Int) (x1 : List Int) (r5 : List Int) (x6 : Int) (x7 : Int) (x8 : Int) : Lo (regimenref02_Times.l1 (k + 1) x0 x1 r5 x6 x7 x8) (regimenref02_Times.nl1 k x0 x1 r5 x6 x7 x8) := by
  rw [regimenref02_Times.l1]
  unfold regimenref02_Times.nl1
  try simp only [Bool.false_xor, Bool.true_xor, wu8_64, wu8_u64, byL_nums, btS_bt, nil_tl, beq_decL, beq_decI]
  repeat' first
    | (with_reducible exact lo_refl _)
    | exact lo_none _
    | (with_reducible refine lo_lpos (by first | assumption | decide) ?_)
    | (with_reducible refine lo_lneg (by first | assumption | decide) ?_)
    | (with_reducible refine lo_ite (fun _ => ?_) (fun _ => ?_))
    | (with_reducible refine lo_bind (fun _ => ?_))
    | (with_reducible refine lo_left ?_)
    | (refine lo_neg (by decide) ?_)
    | (refine lo_pos (by first | assumption | omega) ?_)
    | (refine lo_neg (by first | assumption | omega) ?_)
    | (with_reducible refine lo_test (fun _ => by first | assumption | omega | (simp only [List.length_cons, List.length_nil]; omega) | decide) (fun _ => ?_))
    | (with_reducible refine lo_testn (fun _ => by first | assumption | omega) (fun _ => ?_))
    | (with_reducible refine lo_and (fun z => by first | exact z.1 | omega) (fun z => by first | exact z.2 | omega) (fun _ => ?_))
    | exact lo_refl _
    | (with_reducible refine lo_iff (by first | exact Iff.rfl | omega | (simp; done) | decide) (fun _ => ?_) (fun _ => ?_))
    | (with_reducible refine lo_iffn (by first | exact Iff.rfl | omega | (simp; done) | decide) (fun _ => ?_) (fun _ => ?_))
    | refine lo_ite (fun _ => ?_) (fun _ => ?_)
    | refine lo_bind (fun _ => ?_)
    | (refine lo_some ?_; first | rfl | (rw [Bool.false_xor]; rfl) | (rw [Bool.true_xor]; rfl) | (simp only [Bool.and_true]; rfl) | (simp; done))
    | (simp only [Int.zero_sub]; exact lo_refl _)
    | (with_reducible refine lo_lpos (by omega) ?_)
    | (with_reducible refine lo_lneg (by omega) ?_)
    | (with_reducible refine lo_lite (fun _ => ?_) (fun _ => ?_))
    | (with_reducible refine lo_rite (fun _ => ?_) (fun _ => ?_))
  all_goals (exfalso; first | omega | (simp_all; done) | (simp_all; omega))
set_option maxHeartbeats 2000000 in
theorem regimenref02_Times.bf (k : Nat) (a0 : List Int) (a1 : List Int) : Lo (regimenref02_Times.f k a0 a1) (regimenref02_Times.nf k a0 a1) := by
  unfold regimenref02_Times.f regimenref02_Times.nf
  try simp only [Bool.false_xor, Bool.true_xor, wu8_64, wu8_u64, byL_nums, btS_bt, nil_tl, beq_decL, beq_decI]
  repeat' first
    | (with_reducible exact lo_refl _)
    | exact lo_none _
    | (with_reducible refine lo_lpos (by first | assumption | decide) ?_)
    | (with_reducible refine lo_lneg (by first | assumption | decide) ?_)
    | (with_reducible refine lo_ite (fun _ => ?_) (fun _ => ?_))
    | (with_reducible refine lo_bind (fun _ => ?_))
    | (with_reducible refine lo_left ?_)
    | (refine lo_neg (by decide) ?_)
    | (refine lo_pos (by first | assumption | omega) ?_)
    | (refine lo_neg (by first | assumption | omega) ?_)
    | (with_reducible refine lo_test (fun _ => by first | assumption | omega | (simp only [List.length_cons, List.length_nil]; omega) | decide) (fun _ => ?_))
    | (with_reducible refine lo_testn (fun _ => by first | assumption | omega) (fun _ => ?_))
    | (with_reducible refine lo_and (fun z => by first | exact z.1 | omega) (fun z => by first | exact z.2 | omega) (fun _ => ?_))
    | exact lo_refl _
    | (with_reducible refine lo_iff (by first | exact Iff.rfl | omega | (simp; done) | decide) (fun _ => ?_) (fun _ => ?_))
    | (with_reducible refine lo_iffn (by first | exact Iff.rfl | omega | (simp; done) | decide) (fun _ => ?_) (fun _ => ?_))
    | refine lo_ite (fun _ => ?_) (fun _ => ?_)
    | refine lo_bind (fun _ => ?_)
    | (refine lo_some ?_; first | rfl | (rw [Bool.false_xor]; rfl) | (rw [Bool.true_xor]; rfl) | (simp only [Bool.and_true]; rfl) | (simp; done))
    | (simp only [Int.zero_sub]; exact lo_refl _)
    | (with_reducible refine lo_lpos (by omega) ?_)
    | (with_reducible refine lo_lneg (by omega) ?_)
    | (with_reducible refine lo_lite (fun _ => ?_) (fun _ => ?_))
    | (with_reducible refine lo_rite (fun _ => ?_) (fun _ => ?_))
  all_goals (exfalso; first | omega | (simp_all; done) | (simp_all; omega))
theorem regimenref02_Times.al : AllLe (obls regimenref02_Times.E Tryd.f52) := by
  rw [regimenref02_Times.h1]
  exact (.cons (fun k y r h => regimenref02_Times.bl0 k y.1.1 y.1.2.1 y.2.2.1.1 y.1.2.2.1 r h) (.cons (fun _ y r h => by simp [regimenref02_Times.l0] at h) (.cons (fun k y r h => regimenref02_Times.bl1 k y.1.1 y.1.2.1 y.2.2.1.1 y.1.2.2.1 y.1.2.2.2.1 y.1.2.2.2.2.1 r h) (.cons (fun _ y r h => by simp [regimenref02_Times.l1] at h) .nil))))
theorem regimenref02_Times.ok : CalleeOk Tryd.prog 52 regimenref02_Times.c := fn_ok tabOk mixed (fun _ => rfl) Tryd.func52 rfl (by kernel_rfl) ok_nil regimenref02_Times.al (fun k x r h => (congrFun (congrFun regimenref02_Times.h2 k) x).symm.trans (regimenref02_Times.bf k _ _ r h))
def regimenref05_Tens.c : Sym.Callee := ⟨(.cons (.int .i64) .nil), (.sl (.int .u64)), false, List Int, fun k x => regimenref05_Tens.f k x.1, fun z => z, []⟩
def regimenref05_Tens.nl0 (k : Nat) (x0 : Int) (x3 : List Int) (x4 : Int) : Option (List Int) := (if x4 < x0 then ((regimenref02_Times.f k x3 [(10 : Int)]).bind fun t1 => (regimenref05_Tens.l0 k x0 t1 (wrap64 (x4 + (1 : Int))))) else (some x3))
def regimenref05_Tens.nf (k : Nat) (a0 : Int) : Option (List Int) := (regimenref05_Tens.l0 k a0 [(1 : Int)] (0 : Int))
noncomputable def regimenref05_Tens.E : Env (List Int) := envOf tab Tryd.f53 false (.sl (.int .u64)) [] (fun y => y) [(52, regimenref02_Times.c)] [⟨3, ⟨15, [(0, (.int .i64), []), (3, (.sl (.int .u64)), []), (4, (.int .i64), [])], [], []⟩, fun k y => regimenref05_Tens.l0 k y.1.1 y.1.2.1 y.1.2.2.1⟩] []
theorem regimenref05_Tens.h1 : obls regimenref05_Tens.E Tryd.f53 = [⟨(.cons (.cons (.int .i64) (.cons (.sl (.int .u64)) (.cons (.int .i64) .nil))) (.cons .nil (.cons .nil .nil))), fun k y => regimenref05_Tens.l0 (k + 1) y.1.1 y.1.2.1 y.1.2.2.1, fun k y => regimenref05_Tens.nl0 k y.1.1 y.1.2.1 y.1.2.2.1⟩, ⟨(.cons (.cons (.int .i64) (.cons (.sl (.int .u64)) (.cons (.int .i64) .nil))) (.cons .nil (.cons .nil .nil))), fun _ y => regimenref05_Tens.l0 0 y.1.1 y.1.2.1 y.1.2.2.1, fun _ _ => none⟩] := by kernel_rfl
theorem regimenref05_Tens.h2 : (fun k (x : El (.cons (.int .i64) .nil)) => regimenref05_Tens.nf k x.1) = fun k x => mainK regimenref05_Tens.E Tryd.f53 (.cons (.int .i64) .nil) k x := by kernel_rfl
theorem regimenref05_Tens.bl0 (k : Nat) (x0 : Int) (x3 : List Int) (x4 : Int) : Lo (regimenref05_Tens.l0 (k + 1) x0 x3 x4) (regimenref05_Tens.nl0 k x0 x3 x4) := by
  rw [regimenref05_Tens.l0]
  unfold regimenref05_Tens.nl0
  try simp only [Bool.false_xor, Bool.true_xor, wu8_64, wu8_u64, byL_nums, btS_bt, nil_tl, beq_decL, beq_decI]
  repeat' first
    | (with_reducible exact lo_refl _)
    | exact lo_none _
    | (with_reducible refine lo_lpos (by first | assumption | decide) ?_)
    | (with_reducible refine lo_lneg (by first | assumption | decide) ?_)
    | (with_reducible refine lo_ite (fun _ => ?_) (fun _ => ?_))
    | (with_reducible refine lo_bind (fun _ => ?_))
    | (with_reducible refine lo_left ?_)
    | (refine lo_neg (by decide) ?_)
    | (refine lo_pos (by first | assumption | omega) ?_)
    | (refine lo_neg (by first | assumption | omega) ?_)
    | (with_reducible refine lo_test (fun _ => by first | assumption | omega | (simp only [List.length_cons, List.length_nil]; omega) | decide) (fun _ => ?_))
    | (with_reducible refine lo_testn (fun _ => by first | assumption | omega) (fun _ => ?_))
    | (with_reducible refine lo_and (fun z => by first | exact z.1 | omega) (fun z => by first | exact z.2 | omega) (fun _ => ?_))
    | exact lo_refl _
    | (with_reducible refine lo_iff (by first | exact Iff.rfl | omega | (simp; done) | decide) (fun _ => ?_) (fun _ => ?_))
    | (with_reducible refine lo_iffn (by first | exact Iff.rfl | omega | (simp; done) | decide) (fun _ => ?_) (fun _ => ?_))
    | refine lo_ite (fun _ => ?_) (fun _ => ?_)
    | refine lo_bind (fun _ => ?_)
    | (refine lo_some ?_; first | rfl | (rw [Bool.false_xor]; rfl) | (rw [Bool.true_xor]; rfl) | (simp only [Bool.and_true]; rfl) | (simp; done))
    | (simp only [Int.zero_sub]; exact lo_refl _)
    | (with_reducible refine lo_lpos (by omega) ?_)
    | (with_reducible refine lo_lneg (by omega) ?_)
    | (with_reducible refine lo_lite (fun _ => ?_) (fun _ => ?_))
    | (with_reducible refine lo_rite (fun _ => ?_) (fun _ => ?_))
  all_goals (exfalso; first | omega | (simp_all; done) | (simp_all; omega))
set_option maxHeartbeats 2000000 in
theorem regimenref05_Tens.bf (k : Nat) (a0 : Int) : Lo (regimenref05_Tens.f k a0) (regimenref05_Tens.nf k a0) := by
  unfold regimenref05_Tens.f regimenref05_Tens.nf
  try simp only [Bool.false_xor, Bool.true_xor, wu8_64, wu8_u64, byL_nums, btS_bt, nil_tl, beq_decL, beq_decI]
  repeat' first
    | (with_reducible exact lo_refl _)
    | exact lo_none _
    | (with_reducible refine lo_lpos (by first | assumption | decide) ?_)
    | (with_reducible refine lo_lneg (by first | assumption | decide) ?_)
    | (with_reducible refine lo_ite (fun _ => ?_) (fun _ => ?_))
    | (with_reducible refine lo_bind (fun _ => ?_))
    | (with_reducible refine lo_left ?_)
    | (refine lo_neg (by decide) ?_)
    | (refine lo_pos (by first | assumption | omega) ?_)
    | (refine lo_neg (by first | assumption | omega) ?_)
    | (with_reducible refine lo_test (fun _ => by first | assumption | omega | (simp only [List.length_cons, List.length_nil]; omega) | decide) (fun _ => ?_))
    | (with_reducible refine lo_testn (fun _ => by first | assumption | omega) (fun _ => ?_))
    | (with_reducible refine lo_and (fun z => by first | exact z.1 | omega) (fun z => by first | exact z.2 | omega) (fun _ => ?_))
    | exact lo_refl _
    | (with_reducible refine lo_iff (by first | exact Iff.rfl | omega | (simp; done) | decide) (fun _ => ?_) (fun _ => ?_))
    | (with_reducible refine lo_iffn (by first | exact Iff.rfl | omega | (simp; done) | decide) (fun _ => ?_) (fun _ => ?_))
    | refine lo_ite (fun _ => ?_) (fun _ => ?_)
    | refine lo_bind (fun _ => ?_)
    | (refine lo_some ?_; first | rfl | (rw [Bool.false_xor]; rfl) | (rw [Bool.true_xor]; rfl) | (simp only [Bool.and_true]; rfl) | (simp; done))
    | (simp only [Int.zero_sub]; exact lo_refl _)
    | (with_reducible refine lo_lpos (by omega) ?_)
    | (with_reducible refine lo_lneg (by omega) ?_)
    | (with_reducible refine lo_lite (fun _ => ?_) (fun _ => ?_))
    | (with_reducible refine lo_rite (fun _ => ?_) (fun _ => ?_))
  all_goals (exfalso; first | omega | (simp_all; done) | (simp_all; omega))
theorem regimenref05_Tens.al : AllLe (obls regimenref05_Tens.E Tryd.f53) := by
  rw [regimenref05_Tens.h1]
  exact (.cons (fun k y r h => regimenref05_Tens.bl0 k y.1.1 y.1.2.1 y.1.2.2.1 r h) (.cons (fun _ y r h => by simp [regimenref05_Tens.l0] at h) .nil))
theorem regimenref05_Tens.ok : CalleeOk Tryd.prog 53 regimenref05_Tens.c := fn_ok tabOk mixed (fun _ => rfl) Tryd.func53 rfl (by kernel_rfl) (ok_cons regimenref02_Times.ok ok_nil) regimenref05_Tens.al (fun k x r h => (congrFun (congrFun regimenref05_Tens.h2 k) x).symm.trans (regimenref05_Tens.bf k _ r h))
def regimenref02_digit.c : Sym.Callee := ⟨(.cons (.sl (.int .u64)) (.cons (.int .i64) .nil)), (.int .u64), false, Int, fun k x => regimenref02_digit.f x.1 x.2.1, fun z => z, []⟩
def regimenref02_digit.nf (k : Nat) (a0 : List Int) (a1 : Int) : Option (Int) := (if a1 < (a0.length : Int) then (if 0 ≤ a1 then (if a1 < (a0.length : Int) then (some (a0.getD (a1).toNat 0)) else none) else none) else (some (0 : Int)))
noncomputable def regimenref02_digit.E : Env (Int) := envOf tab Tryd.f85 false (.int .u64) [] (fun y => y) [] [] []
theorem regimenref02_digit.h1 : obls regimenref02_digit.E Tryd.f85 = [] := by kernel_rfl
theorem regimenref02_digit.h2 : (fun k (x : El (.cons (.sl (.int .u64)) (.cons (.int .i64) .nil))) => regimenref02_digit.nf k x.1 x.2.1) = fun k x => mainK regimenref02_digit.E Tryd.f85 (.cons (.sl (.int .u64)) (.cons (.int .i64) .nil)) k x := by kernel_rfl
set_option maxHeartbeats 2000000 in
theorem regimenref02_digit.bf (k : Nat) (a0 : List Int) (a1 : Int) : Lo (regimenref02_digit.f a0 a1) (regimenref02_digit.nf k a0 a1) := by
  unfold regimenref02_digit.f regimenref02_digit.nf
  try simp only [Bool.false_xor, Bool.true_xor, wu8_64, wu8_u64, byL_nums, btS_bt, nil_tl, beq_decL, beq_decI]
  repeat' first
    | (with_reducible exact lo_refl _)
    | exact lo_none _
    | (with_reducible refine lo_lpos (by first | assumption | decide) ?_)
    | (with_reducible refine lo_lneg (by first | assumption | decide) ?_)
    | (with_reducible refine lo_ite (fun _ => ?_) (fun _ => ?_))
    | (with_reducible refine lo_bind (fun _ => ?_))
    | (with_reducible refine lo_left ?_)
    | (refine lo_neg (by decide) ?_)
    | (refine lo_pos (by first | assumption | omega) ?_)
    | (refine lo_neg (by first | assumption | omega) ?_)
    | (with_reducible refine lo_test (fun _ => by first | assumption | omega | (simp only [List.length_cons, List.length_nil]; omega) | decide) (fun _ => ?_))
    | (with_reducible refine lo_testn (fun _ => by first | assumption | omega) (fun _ => ?_))
    | (with_reducible refine lo_and (fun z => by first | exact z.1 | omega) (fun z => by first | exact z.2 | omega) (fun _ => ?_))
    | exact lo_refl _
    | (with_reducible refine lo_iff (by first | exact Iff.rfl | omega | (simp; done) | decide) (fun _ => ?_) (fun _ => ?_))
    | (with_reducible refine lo_iffn (by first | exact Iff.rfl | omega | (simp; done) | decide) (fun _ => ?_) (fun _ => ?_))
    | refine lo_ite (fun _ => ?_) (fun _ => ?_)
    | refine lo_bind (fun _ => ?_)
    | (refine lo_some ?_; first | rfl | (rw [Bool.false_xor]; rfl) | (rw [Bool.true_xor]; rfl) | (simp only [Bool.and_true]; rfl) | (simp; done))
    | (simp only [Int.zero_sub]; exact lo_refl _)
    | (with_reducible refine lo_lpos (by omega) ?_)
    | (with_reducible refine lo_lneg (by omega) ?_)
    | (with_reducible refine lo_lite (fun _ => ?_) (fun _ => ?_))
    | (with_reducible refine lo_rite (fun _ => ?_) (fun _ => ?_))
  all_goals (exfalso; first | omega | (simp_all; done) | (simp_all; omega))
theorem regimenref02_digit.al : AllLe (obls regimenref02_digit.E Tryd.f85) := by
  rw [regimenref02_digit.h1]
  exact .nil
theorem regimenref02_digit.ok : CalleeOk Tryd.prog 85 regimenref02_digit.c := fn_ok tabOk mixed (fun _ => rfl) Tryd.func85 rfl (by kernel_rfl) ok_nil regimenref02_digit.al (fun k x r h => (congrFun (congrFun regimenref02_digit.h2 k) x).symm.trans (regimenref02_digit.bf k _ _ r h))
def regimenref02_Plus.c : Sym.Callee := ⟨(.cons (.sl (.int .u64)) (.cons (.sl (.int .u64)) .nil)), (.sl (.int .u64)), false, List Int, fun k x => regimenref02_Plus.f k x.1 x.2.1, fun z => z, []⟩
def regimenref02_Plus.nl0 (k : Nat) (x0 : List Int) (x1 : List Int) (x5 : List Int) (x6 : Int) (x7 : Int) : Option (List Int) := (if x7 < (x0.length : Int) then ((regimenref02_digit.f x0 x7).bind fun t1 => ((regimenref02_digit.f x1 x7).bind fun t2 => (if (65536 : Int) = 0 then none else (if (x5.length + [(Int.tmod (IntKind.wrap .u64 ((IntKind.wrap .u64 (t1 + t2)) + x6)) (65536 : Int))].length) * 8 ≤ 140737488355328 then (if (65536 : Int) = 0 then none else (regimenref02_Plus.l0 k x0 x1 (x5 ++ [(Int.tmod (IntKind.wrap .u64 ((IntKind.wrap .u64 (t1 + t2)) + x6)) (65536 : Int))]) (IntKind.wrap .u64 (Int.tdiv (IntKind.wrap .u64 ((IntKind.wrap .u64 (t1 + t2)) + x6)) (65536 : Int))) (wrap64 (x7 + (1 : Int))))) else none)))) else (if x7 < (x1.length : Int) then ((regimenref02_digit.f x0 x7).bind fun t3 => ((regimenref02_digit.f x1 x7).bind fun t4 => (if (65536 : Int) = 0 then none else (if (x5.length + [(Int.tmod (IntKind.wrap .u64 ((IntKind.wrap .u64 (t3 + t4)) + x6)) (65536 : Int))].length) * 8 ≤ 140737488355328 then (if (65536 : Int) = 0 then none else (regimenref02_Plus.l0 k x0 x1 (x5 ++ [(Int.tmod (IntKind.wrap .u64 ((IntKind.wrap .u64 (t3 + t4)) + x6)) (65536 : Int))]) (IntKind.wrap .u64 (Int.tdiv (IntKind.wrap .u64 ((IntKind.wrap .u64 (t3 + t4)) + x6)) (65536 : Int))) (wrap64 (x7 + (1 : Int))))) else none)))) else (if x6 > (0 : Int) then ((regimenref02_digit.f x0 x7).bind fun t5 => ((regimenref02_digit.f x1 x7).bind fun t6 => (if (65536 : Int) = 0 then none else (if (x5.length + [(Int.tmod (IntKind.wrap .u64 ((IntKind.wrap .u64 (t5 + t6)) + x6)) (65536 : Int))].length) * 8 ≤ 140737488355328 then (if (65536 : Int) = 0 then none else (regimenref02_Plus.l0 k x0 x1 (x5 ++ [(Int.tmod (IntKind.wrap .u64 ((IntKind.wrap .u64 (t5 + t6)) + x6)) (65536 : Int))]) (IntKind.wrap .u64 (Int.tdiv (IntKind.wrap .u64 ((IntKind.wrap .u64 (t5 + t6)) + x6)) (65536 : Int))) (wrap64 (x7 + (1 : Int))))) else none)))) else (some x5))))
def regimenref02_Plus.nf (k : Nat) (a0 : List Int) (a1 : List Int) : Option (List Int) := (regimenref02_Plus.l0 k a0 a1 ([] : List Int) (0 : Int) (0 : Int))
noncomputable def regimenref02_Plus.E : Env (List Int) := envOf tab Tryd.f59 false (.sl (.int .u64)) [] (fun y => y) [(85, regimenref02_digit.c)] [⟨4, ⟨43, [(0, (.sl (.int .u64)), []), (1, (.sl (.int .u64)), []), (5, (.sl (.int .u64)), [⟨0, 6, 77, 1⟩]), (6, (.int .u64), []), (7, (.int .i64), [])], [], []⟩, fun k y => regimenref02_Plus.l0 k y.1.1 y.1.2.1 y.1.2.2.1 y.1.2.2.2.1 y.1.2.2.2.2.1⟩] []
theorem regimenref02_Plus.h1 : obls regimenref02_Plus.E Tryd.f59 = [⟨(.cons (.cons (.sl (.int .u64)) (.cons (.sl (.int .u64)) (.cons (.sl (.int .u64)) (.cons (.int .u64) (.cons (.int .i64) .nil))))) (.cons .nil (.cons .nil .nil))), fun k y => regimenref02_Plus.l0 (k + 1) y.1.1 y.1.2.1 y.1.2.2.1 y.1.2.2.2.1 y.1.2.2.2.2.1, fun k y => regimenref02_Plus.nl0 k y.1.1 y.1.2.1 y.1.2.2.1 y.1.2.2.2.1 y.1.2.2.2.2.1⟩, ⟨(.cons (.cons (.sl (.int .u64)) (.cons (.sl (.int .u64)) (.cons (.sl (.int .u64)) (.cons (.int .u64) (.cons (.int .i64) .nil))))) (.cons .nil (.cons .nil .nil))), fun _ y => regimenref02_Plus.l0 0 y.1.1 y.1.2.1 y.1.2.2.1 y.1.2.2.2.1 y.1.2.2.2.2.1, fun _ _ => none⟩] := by kernel_rfl
theorem regimenref02_Plus.h2 : (fun k (x : El (.cons (.sl (.int .u64)) (.cons (.sl (.int .u64)) .nil))) => regimenref02_Plus.nf k x.1 x.2.1) = fun k x => mainK regimenref02_Plus.E Tryd.f59 (.cons (.sl (.int .u64)) (.cons (.sl (.int .u64)) .nil)) k x := by kernel_rfl
theorem regimenref02_Plus.bl0 (k : Nat) (x0 : List Int) (x1 : List Int) (x5 : List Int) (x6 : Int) (x7 : Int) : Lo (regimenref02_Plus.l0 (k + 1) x0 x1 x5 x6 x7) (regimenref02_Plus.nl0 k x0 x1 x5 x6 x7) := by
  rw [regimenref02_Plus.l0]
  unfold regimenref02_Plus.nl0
  try simp only [Bool.false_xor, Bool.true_xor, wu8_64, wu8_u64, byL_nums, btS_bt, nil_tl, beq_decL, beq_decI]
  repeat' first
    | (with_reducible exact lo_refl _)
    | exact lo_none _
    | (with_reducible refine lo_lpos (by first | assumption | decide) ?_)
    | (with_reducible refine lo_lneg (by first | assumption | decide) ?_)
    | (with_reducible refine lo_ite (fun _ => ?_) (fun _ => ?_))
    | (with_reducible refine lo_bind (fun _ => ?_))
    | (with_reducible refine lo_left ?_)
    | (refine lo_neg (by decide) ?_)
    | (refine lo_pos (by first | assumption | omega) ?_)
    | (refine lo_neg (by first | assumption | omega) ?_)
    | (refine lo_trans (fun r h => (regimenref02_Plus.mono_l _).2 _ _ _ _ _ _ r h) ?_; rw [regimenref02_Plus.j1]; try simp only [decide_eq_true_eq])
    | (with_reducible refine lo_test (fun _ => by first | assumption | omega | (simp only [List.length_cons, List.length_nil]; omega) | decide) (fun _ => ?_))
    | (with_reducible refine lo_testn (fun _ => by first | assumption | omega) (fun _ => ?_))
    | (with_reducible refine lo_and (fun z => by first | exact z.1 | omega) (fun z => by first | exact z.2 | omega) (fun _ => ?_))
    | exact lo_refl _
    | (with_reducible refine lo_iff (by first | exact Iff.rfl | omega | (simp; done) | decide) (fun _ => ?_) (fun _ => ?_))
    | (with_reducible refine lo_iffn (by first | exact Iff.rfl | omega | (simp; done) | decide) (fun _ => ?_) (fun _ => ?_))
    | refine lo_ite (fun _ => ?_) (fun _ => ?_)
    | refine lo_bind (fun _ => ?_)
    | (refine lo_some ?_; first | rfl | (rw [Bool.false_xor]; rfl) | (rw [Bool.true_xor]; rfl) | (simp only [Bool.and_true]; rfl) | (simp; done))
    | (simp only [Int.zero_sub]; exact lo_refl _)
    | (with_reducible refine lo_lpos (by omega) ?_)
    | (with_reducible refine lo_lneg (by omega) ?_)
    | (with_reducible refine lo_lite (fun _ => ?_) (fun _ => ?_))
    | (with_reducible refine lo_rite (fun _ => ?_) (fun _ => ?_))
  all_goals (exfalso; first | omega | (simp_all; done) | (simp_all; omega))
set_option maxHeartbeats 2000000 in
theorem regimenref02_Plus.bf (k : Nat) (a0 : List Int) (a1 : List Int) : Lo (regimenref02_Plus.f k a0 a1) (regimenref02_Plus.nf k a0 a1) := by
  unfold regimenref02_Plus.f regimenref02_Plus.nf
  try simp only [Bool.false_xor, Bool.true_xor, wu8_64, wu8_u64, byL_nums, btS_bt, nil_tl, beq_decL, beq_decI]
  repeat' first
    | (with_reducible exact lo_refl _)
    | exact lo_none _
    | (with_reducible refine lo_lpos (by first | assumption | decide) ?_)
    | (with_reducible refine lo_lneg (by first | assumption | decide) ?_)
    | (with_reducible refine lo_ite (fun _ => ?_) (fun _ => ?_))
    | (with_reducible refine lo_bind (fun _ => ?_))
    | (with_reducible refine lo_left ?_)
    | (refine lo_neg (by decide) ?_)
    | (refine lo_pos (by first | assumption | omega) ?_)
    | (refine lo_neg (by first | assumption | omega) ?_)
    | (refine lo_trans (fun r h => (regimenref02_Plus.mono_l _).2 _ _ _ _ _ _ r h) ?_; rw [regimenref02_Plus.j1]; try simp only [decide_eq_true_eq])
    | (with_reducible refine lo_test (fun _ => by first | assumption | omega | (simp only [List.length_cons, List.length_nil]; omega) | decide) (fun _ => ?_))
    | (with_reducible refine lo_testn (fun _ => by first | assumption | omega) (fun _ => ?_))
    | (with_reducible refine lo_and (fun z => by first | exact z.1 | omega) (fun z => by first | exact z.2 | omega) (fun _ => ?_))
    | exact lo_refl _
    | (with_reducible refine lo_iff (by first | exact Iff.rfl | omega | (simp; done) | decide) (fun _ => ?_) (fun _ => ?_))
    | (with_reducible refine lo_iffn (by first | exact Iff.rfl | omega | (simp; done) | decide) (fun _ => ?_) (fun _ => ?_))
    | refine lo_ite (fun _ => ?_) (fun _ => ?_)
    | refine lo_bind (fun _ => ?_)
    | (refine lo_some ?_; first | rfl | (rw [Bool.false_xor]; rfl) | (rw [Bool.true_xor]; rfl) | (simp only [Bool.and_true]; rfl) | (simp; done))
    | (simp only [Int.zero_sub]; exact lo_refl _)
    | (with_reducible refine lo_lpos (by omega) ?_)
    | (with_reducible refine lo_lneg (by omega) ?_)
    | (with_reducible refine lo_lite (fun _ => ?_) (fun _ => ?_))
    | (with_reducible refine lo_rite (fun _ => ?_) (fun _ => ?_))
  all_goals (exfalso; first | omega | (simp_all; done) | (simp_all; omega))
theorem regimenref02_Plus.al : AllLe (obls regimenref02_Plus.E Tryd.f59) := by
  rw [regimenref02_Plus.h1]
  exact (.cons (fun k y r h => regimenref02_Plus.bl0 k y.1.1 y.1.2.1 y.1.2.2.1 y.1.2.2.2.1 y.1.2.2.2.2.1 r h) (.cons (fun _ y r h => by simp [regimenref02_Plus.l0] at h) .nil))
theorem regimenref02_Plus.ok : CalleeOk Tryd.prog 59 regimenref02_Plus.c := fn_ok tabOk mixed (fun _ => rfl) Tryd.func59 rfl (by kernel_rfl) (ok_cons regimenref02_digit.ok ok_nil) regimenref02_Plus.al (fun k x r h => (congrFun (congrFun regimenref02_Plus.h2 k) x).symm.trans (regimenref02_Plus.bf k _ _ r h))
def regimenref02_Twos.c : Sym.Callee := ⟨(.cons (.int .i64) .nil), (.sl (.int .u64)), false, List Int, fun k x => regimenref02_Twos.f k x.1, fun z => z, []⟩
def regimenref02_Twos.nl0 (k : Nat) (x0 : Int) (x3 : List Int) (x4 : Int) : Option (List Int) := (if x4 < x0 then ((regimenref02_Plus.f k x3 x3).bind fun t1 => (regimenref02_Twos.l0 k x0 t1 (wrap64 (x4 + (1 : Int))))) else (some x3))
def regimenref02_Twos.nf (k : Nat) (a0 : Int) : Option (List Int) := (regimenref02_Twos.l0 k a0 [(1 : Int)] (0 : Int))
noncomputable def regimenref02_Twos.E : Env (List Int) := envOf tab Tryd.f54 false (.sl (.int .u64)) [] (fun y => y) [(59, regimenref02_Plus.c)] [⟨3, ⟨15, [(0, (.int .i64), []), (3, (.sl (.int .u64)), []), (4, (.int .i64), [])], [], []⟩, fun k y => regimenref02_Twos.l0 k y.1.1 y.1.2.1 y.1.2.2.1⟩] []
theorem regimenref02_Twos.h1 : obls regimenref02_Twos.E Tryd.f54 = [⟨(.cons (.cons (.int .i64) (.cons (.sl (.int .u64)) (.cons (.int .i64) .nil))) (.cons .nil (.cons .nil .nil))), fun k y => regimenref02_Twos.l0 (k + 1) y.1.1 y.1.2.1 y.1.2.2.1, fun k y => regimenref02_Twos.nl0 k y.1.1 y.1.2.1 y.1.2.2.1⟩, ⟨(.cons (.cons (.int .i64) (.cons (.sl (.int .u64)) (.cons (.int .i64) .nil))) (.cons .nil (.cons .nil .nil))), fun _ y => regimenref02_Twos.l0 0 y.1.1 y.1.2.1 y.1.2.2.1, fun _ _ => none⟩] := by kernel_rfl
theorem regimenref02_Twos.h2 : (fun k (x : El (.cons (.int .i64) .nil)) => regimenref02_Twos.nf k x.1) = fun k x => mainK regimenref02_Twos.E Tryd.f54 (.cons (.int .i64) .nil) k x := by kernel_rfl
theorem regimenref02_Twos.bl0 (k : Nat) (x0 : Int) (x3 : List Int) (x4 : Int) : Lo (regimenref02_Twos.l0 (k + 1) x0 x3 x4) (regimenref02_Twos.nl0 k x0 x3 x4) := by
  rw [regimenref02_Twos.l0]
  unfold regimenref02_Twos.nl0
  try simp only [Bool.false_xor, Bool.true_xor, wu8_64, wu8_u64, byL_nums, btS_bt, nil_tl, beq_decL, beq_decI]
  repeat' first
    | (with_reducible exact lo_refl _)
    | exact lo_none _
    | (with_reducible refine lo_lpos (by first | assumption | decide) ?_)
    | (with_reducible refine lo_lneg (by first | assumption | decide) ?_)
    | (with_reducible refine lo_ite (fun _ => ?_) (fun _ => ?_))
    | (with_reducible refine lo_bind (fun _ => ?_))
    | (with_reducible refine lo_left ?_)
    | (refine lo_neg (by decide) ?_)
    | (refine lo_pos (by first | assumption | omega) ?_)
    | (refine lo_neg (by first | assumption | omega) ?_)
    | (with_reducible refine lo_test (fun _ => by first | assumption | omega | (simp only [List.length_cons, List.length_nil]; omega) | decide) (fun _ => ?_))
    | (with_reducible refine lo_testn (fun _ => by first | assumption | omega) (fun _ => ?_))
    | (with_reducible refine lo_and (fun z => by first | exact z.1 | omega) (fun z => by first | exact z.2 | omega) (fun _ => ?_))
    | exact lo_refl _
    | (with_reducible refine lo_iff (by first | exact Iff.rfl | omega | (simp; done) | decide) (fun _ => ?_) (fun _ => ?_))
    | (with_reducible refine lo_iffn (by first | exact Iff.rfl | omega | (simp; done) | decide) (fun _ => ?_) (fun _ => ?_))
    | refine lo_ite (fun _ => ?_) (fun _ => ?_)
    | refine lo_bind (fun _ => ?_)
    | (refine lo_some ?_; first | rfl | (rw [Bool.false_xor]; rfl) | (rw [Bool.true_xor]; rfl) | (simp only [Bool.and_true]; rfl) | (simp; done))
    | (simp only [Int.zero_sub]; exact lo_refl _)
    | (with_reducible refine lo_lpos (by omega) ?_)
    | (with_reducible refine lo_lneg (by omega) ?_)
    | (with_reducible refine lo_lite (fun _ => ?_) (fun _ => ?_))
    | (with_reducible refine lo_rite (fun _ => ?_) (fun _ => ?_))
  all_goals (exfalso; first | omega | (simp_all; done) | (simp_all; omega))
set_option maxHeartbeats 2000000 in
theorem regimenref02_Twos.bf (k : Nat) (a0 : Int) : Lo (regimenref02_Twos.f k a0) (regimenref02_Twos.nf k a0) := by
  unfold regimenref02_Twos.f regimenref02_Twos.nf
  try simp only [Bool.false_xor, Bool.true_xor, wu8_64, wu8_u64, byL_nums, btS_bt, nil_tl, beq_decL, beq_decI]
  repeat' first
    | (with_reducible exact lo_refl _)
    | exact lo_none _
    | (with_reducible refine lo_lpos (by first | assumption | decide) ?_)
    | (with_reducible refine lo_lneg (by first | assumption | decide) ?_)
    | (with_reducible refine lo_ite (fun _ => ?_) (fun _ => ?_))
    | (with_reducible refine lo_bind (fun _ => ?_))
    | (with_reducible refine lo_left ?_)
    | (refine lo_neg (by decide) ?_)
    | (refine lo_pos (by first | assumption | omega) ?_)
    | (refine lo_neg (by first | assumption | omega) ?_)
    | (with_reducible refine lo_test (fun _ => by first | assumption | omega | (simp only [List.length_cons, List.length_nil]; omega) | decide) (fun _ => ?_))
    | (with_reducible refine lo_testn (fun _ => by first | assumption | omega) (fun _ => ?_))
    | (with_reducible refine lo_and (fun z => by first | exact z.1 | omega) (fun z => by first | exact z.2 | omega) (fun _ => ?_))
    | exact lo_refl _
    | (with_reducible refine lo_iff (by first | exact Iff.rfl | omega | (simp; done) | decide) (fun _ => ?_) (fun _ => ?_))
    | (with_reducible refine lo_iffn (by first | exact Iff.rfl | omega | (simp; done) | decide) (fun _ => ?_) (fun _ => ?_))
    | refine lo_ite (fun _ => ?_) (fun _ => ?_)
    | refine lo_bind (fun _ => ?_)
    | (refine lo_some ?_; first | rfl | (rw [Bool.false_xor]; rfl) | (rw [Bool.true_xor]; rfl) | (simp only [Bool.and_true]; rfl) | (simp; done))
    | (simp only [Int.zero_sub]; exact lo_refl _)
    | (with_reducible refine lo_lpos (by omega) ?_)
    | (with_reducible refine lo_lneg (by omega) ?_)
    | (with_reducible refine lo_lite (fun _ => ?_) (fun _ => ?_))
    | (with_reducible refine lo_rite (fun _ => ?_) (fun _ => ?_))
  all_goals (exfalso; first | omega | (simp_all; done) | (simp_all; omega))
theorem regimenref02_Twos.al : AllLe (obls regimenref02_Twos.E Tryd.f54) := by
  rw [regimenref02_Twos.h1]
  exact (.cons (fun k y r h => regimenref02_Twos.bl0 k y.1.1 y.1.2.1 y.1.2.2.1 r h) (.cons (fun _ y r h => by simp [regimenref02_Twos.l0] at h) .nil))
theorem regimenref02_Twos.ok : CalleeOk Tryd.prog 54 regimenref02_Twos.c := fn_ok tabOk mixed (fun _ => rfl) Tryd.func54 rfl (by kernel_rfl) (ok_cons regimenref02_Plus.ok ok_nil) regimenref02_Twos.al (fun k x r h => (congrFun (congrFun regimenref02_Twos.h2 k) x).symm.trans (regimenref02_Twos.bf k _ r h))
end Go.Proofs.YtcgdhpnobgimfaaDoor.PI
end
