/- The functions that these laws reach, each told by the evaluator: its plain text, and that a call of it comes to what the text says. What a Go value that can be read as data holds, told plainly: for the rows of laws. Numbers as digits to the base 2^16, the lowest first: plain facts on lists, no program. Texts as lists of bytes, by value. -/
import Derived.Test.YtcgdhpnobgimfaaGreatDoorMTB5
import Derived.Test.YtcgdhpnobgimfaaGreatDoorMTB1
import Derived.ProofKit
import Derived.OpenShut
import Derived.SizedLaws
import Derived.Deep.Slices
import Derived.Test.YtcgdhpnobgimfaaGreatDoorMTB4
section
namespace Go.Proofs.YtcgdhpnobgimfaaGreatDoor.PB
open Go Go.Sym Go.Proofs Go.RowKit Go.Proofs.YtcgdhpnobgimfaaGreatDoorW.PrintWords
set_option maxRecDepth 100000
set_option linter.unusedVariables false
set_option linter.unusedSimpArgs false
def swa_Check.c : Sym.Callee := ⟨(.cons (.cons (.int .i64) (.cons (.sl (.int .i64)) .nil)) .nil), (.int .i64), false, Int, fun k x => swa_Check.f x.1.1 x.1.2.1, fun z => z, []⟩
def swa_Check.nf (k : Nat) (a0_0 : Int) (a0_1 : List Int) : Option (Int) := (if a0_0 < (0 : Int) then (some (1 : Int)) else (if a0_0 > (1048576 : Int) then (some (1 : Int)) else (if a0_0 = (0 : Int) then (if (a0_1.length : Int) > (0 : Int) then (some (1 : Int)) else (some (0 : Int))) else (some (0 : Int)))))
noncomputable def swa_Check.E : Env (Int) := envOf tab Tryz.f92 false (.int .i64) [] (fun y => y) [] [] []
theorem swa_Check.h1 : obls swa_Check.E Tryz.f92 = [] := by kernel_rfl
theorem swa_Check.h2 : (fun k (x : El (.cons (.cons (.int .i64) (.cons (.sl (.int .i64)) .nil)) .nil)) => swa_Check.nf k x.1.1 x.1.2.1) = fun k x => mainK swa_Check.E Tryz.f92 (.cons (.cons (.int .i64) (.cons (.sl (.int .i64)) .nil)) .nil) k x := by kernel_rfl
set_option maxHeartbeats 2000000 in
theorem swa_Check.bf (k : Nat) (a0_0 : Int) (a0_1 : List Int) : Lo (swa_Check.f a0_0 a0_1) (swa_Check.nf k a0_0 a0_1) := by
  unfold swa_Check.f swa_Check.nf
  try simp only [Bool.false_xor, Bool.true_xor, wu8_64, wu8_u64, byL_nums, btS_bt, nil_tl, beq_decL, beq_decI]
  repeat' first
    | (with_reducible exact lo_refl _)
    | exact lo_none _
    | (with_reducible refine lo_ite (fun _ => ?_) (fun _ => ?_))
    | (with_reducible refine lo_bind (fun _ => ?_))
    | (with_reducible refine lo_left ?_)
    | (refine lo_pos (by first | assumption | omega) ?_)
    | (refine lo_neg (by first | assumption | omega) ?_)
    | (with_reducible refine lo_test (fun _ => by first | assumption | omega) (fun _ => ?_))
    | exact lo_refl _
    | refine lo_ite (fun _ => ?_) (fun _ => ?_)
    | refine lo_bind (fun _ => ?_)
    | (refine lo_some ?_; first | rfl | (rw [Bool.false_xor]; rfl))
  all_goals (exfalso; first | omega | (simp_all; done) | (simp_all; omega))
theorem swa_Check.al : AllLe (obls swa_Check.E Tryz.f92) := by
  rw [swa_Check.h1]
  exact .nil
theorem swa_Check.ok : CalleeOk Tryz.prog 92 swa_Check.c := fn_ok tabOk mixed (fun _ => rfl) Tryz.func92 rfl (by kernel_rfl) ok_nil swa_Check.al (fun k x r h => (congrFun (congrFun swa_Check.h2 k) x).symm.trans (swa_Check.bf k _ _ r h))
def swa_Mean.c : Sym.Callee := ⟨(.cons (.cons (.int .i64) (.cons (.sl (.int .i64)) .nil)) .nil), (.cons (.sl (.int .i64)) (.cons (.int .i64) .nil)), true, (List Int) × Int, fun k x => swa_Mean.f k x.1.1 x.1.2.1, fun z => (z.1, z.2, ()), []⟩
def swa_Mean.nl0 (k : Nat) (x5 : List Int) (x18 : List Int) (x19 : Int) (x20 : Int) (b1_0 : Int) (b1_1 : List Int) : Option ((List Int) × Int) := (if x20 < x19 then (if 0 ≤ x20 then (if x20 < (x18.length : Int) then ((fix_Size.f (x18.getD (x20).toNat 0)).bind fun t2 => ((half_Near.f k (0 : Int) t2 (IntKind.wrap .u64 (b1_0))).bind fun t3 => ((fix_Signed.f k t3.1 (xor false (decide ((x18.getD (x20).toNat 0) < (0 : Int))))).bind fun t4 => (if (x5.length + [t4.1].length) * 8 ≤ 140737488355328 then (swa_Mean.l0 k (x5 ++ [t4.1]) x18 x19 (wrap64 (x20 + (1 : Int))) b1_0 b1_1) else none)))) else none) else none) else (some (x5, (0 : Int))))
def swa_Mean.nf (k : Nat) (a0_0 : Int) (a0_1 : List Int) : Option ((List Int) × Int) := ((swa_Check.f a0_0 a0_1).bind fun t1 => (if t1 = (0 : Int) then (swa_Mean.l0 k ([] : List Int) a0_1 (a0_1.length : Int) (0 : Int) a0_0 a0_1) else (some (([] : List Int), t1))))
noncomputable def swa_Mean.E : Env ((List Int) × Int) := envOf tab Tryz.f70 true (.cons (.sl (.int .i64)) (.cons (.int .i64) .nil)) [] (fun y => (y.1, y.2.1)) [(92, swa_Check.c), (90, fix_Size.c), (93, half_Near.c), (94, fix_Signed.c)] [⟨6, ⟨47, [(5, (.sl (.int .i64)), [⟨0, 6, 3, 1⟩]), (18, (.sl (.int .i64)), []), (19, (.int .i64), []), (20, (.int .i64), [])], [(1, (.cons (.int .i64) (.cons (.sl (.int .i64)) .nil)), [])], []⟩, fun k y => swa_Mean.l0 k y.1.1 y.1.2.1 y.1.2.2.1 y.1.2.2.2.1 y.2.1.1.1 y.2.1.1.2.1⟩] []
theorem swa_Mean.h1 : obls swa_Mean.E Tryz.f70 = [⟨(.cons (.cons (.sl (.int .i64)) (.cons (.sl (.int .i64)) (.cons (.int .i64) (.cons (.int .i64) .nil)))) (.cons (.cons (.cons (.int .i64) (.cons (.sl (.int .i64)) .nil)) .nil) (.cons .nil .nil))), fun k y => swa_Mean.l0 (k + 1) y.1.1 y.1.2.1 y.1.2.2.1 y.1.2.2.2.1 y.2.1.1.1 y.2.1.1.2.1, fun k y => swa_Mean.nl0 k y.1.1 y.1.2.1 y.1.2.2.1 y.1.2.2.2.1 y.2.1.1.1 y.2.1.1.2.1⟩, ⟨(.cons (.cons (.sl (.int .i64)) (.cons (.sl (.int .i64)) (.cons (.int .i64) (.cons (.int .i64) .nil)))) (.cons (.cons (.cons (.int .i64) (.cons (.sl (.int .i64)) .nil)) .nil) (.cons .nil .nil))), fun _ y => swa_Mean.l0 0 y.1.1 y.1.2.1 y.1.2.2.1 y.1.2.2.2.1 y.2.1.1.1 y.2.1.1.2.1, fun _ _ => none⟩] := by kernel_rfl
theorem swa_Mean.h2 : (fun k (x : El (.cons (.cons (.int .i64) (.cons (.sl (.int .i64)) .nil)) .nil)) => swa_Mean.nf k x.1.1 x.1.2.1) = fun k x => mainK swa_Mean.E Tryz.f70 (.cons (.cons (.int .i64) (.cons (.sl (.int .i64)) .nil)) .nil) k x := by kernel_rfl
theorem swa_Mean.bl0 (k : Nat) (x5 : List Int) (x18 : List Int) (x19 : Int) (x20 : Int) (b1_0 : Int) (b1_1 : List Int) : Lo (swa_Mean.l0 (k + 1) x5 x18 x19 x20 b1_0 b1_1) (swa_Mean.nl0 k x5 x18 x19 x20 b1_0 b1_1) := by
  rw [swa_Mean.l0]
  unfold swa_Mean.nl0
  try simp only [Bool.false_xor, Bool.true_xor, wu8_64, wu8_u64, byL_nums, btS_bt, nil_tl, beq_decL, beq_decI]
  repeat' first
    | (with_reducible exact lo_refl _)
    | exact lo_none _
    | (with_reducible refine lo_lpos (by first | assumption | decide) ?_)
    | (with_reducible refine lo_lneg (by first | assumption | decide) ?_)
    | (with_reducible refine lo_ite (fun _ => ?_) (fun _ => ?_))
    | (with_reducible refine lo_bind (fun _ => ?_))
    | (with_reducible refine lo_left ?_)
    | (refine lo_neg (by decide) ?_)
    | (refine lo_pos (by first | assumption | omega) ?_)
    | (refine lo_neg (by first | assumption | omega) ?_)
    | (with_reducible refine lo_test (fun _ => by first | assumption | omega | (simp only [List.length_cons, List.length_nil]; omega) | decide) (fun _ => ?_))
    | (with_reducible refine lo_testn (fun _ => by first | assumption | omega) (fun _ => ?_))
    | (with_reducible refine lo_and (fun z => by first | exact z.1 | omega) (fun z => by first | exact z.2 | omega) (fun _ => ?_))
    | exact lo_refl _
    | (with_reducible refine lo_iff (by first | exact Iff.rfl | omega | (simp; done) | decide) (fun _ => ?_) (fun _ => ?_))
    | (with_reducible refine lo_iffn (by first | exact Iff.rfl | omega | (simp; done) | decide) (fun _ => ?_) (fun _ => ?_))
    | refine lo_ite (fun _ => ?_) (fun _ => ?_)
    | refine lo_bind (fun _ => ?_)
    | (refine lo_some ?_; first | rfl | (rw [Bool.false_xor]; rfl) | (rw [Bool.true_xor]; rfl) | (simp only [Bool.and_true]; rfl) | (simp; done))
    | (simp only [Int.zero_sub]; exact lo_refl _)
    | (with_reducible refine lo_lpos (by omega) ?_)
    | (with_reducible refine lo_lneg (by omega) ?_)
    | (with_reducible refine lo_lite (fun _ => ?_) (fun _ => ?_))
    | (with_reducible refine lo_rite (fun _ => ?_) (fun _ => ?_))
  all_goals (exfalso; first | omega | (simp_all; done) | (simp_all; omega))
set_option maxHeartbeats 2000000 in
theorem swa_Mean.bf (k : Nat) (a0_0 : Int) (a0_1 : List Int) : Lo (swa_Mean.f k a0_0 a0_1) (swa_Mean.nf k a0_0 a0_1) := by
  unfold swa_Mean.f swa_Mean.nf
  try simp only [Bool.false_xor, Bool.true_xor, wu8_64, wu8_u64, byL_nums, btS_bt, nil_tl, beq_decL, beq_decI]
  repeat' first
    | (with_reducible exact lo_refl _)
    | exact lo_none _
    | (with_reducible refine lo_ite (fun _ => ?_) (fun _ => ?_))
    | (with_reducible refine lo_bind (fun _ => ?_))
    | (with_reducible refine lo_left ?_)
    | (refine lo_pos (by first | assumption | omega) ?_)
    | (refine lo_neg (by first | assumption | omega) ?_)
    | (with_reducible refine lo_test (fun _ => by first | assumption | omega) (fun _ => ?_))
    | exact lo_refl _
    | refine lo_ite (fun _ => ?_) (fun _ => ?_)
    | refine lo_bind (fun _ => ?_)
    | (refine lo_some ?_; first | rfl | (rw [Bool.false_xor]; rfl))
  all_goals (exfalso; first | omega | (simp_all; done) | (simp_all; omega))
theorem swa_Mean.al : AllLe (obls swa_Mean.E Tryz.f70) := by
  rw [swa_Mean.h1]
  exact (.cons (fun k y r h => swa_Mean.bl0 k y.1.1 y.1.2.1 y.1.2.2.1 y.1.2.2.2.1 y.2.1.1.1 y.2.1.1.2.1 r h) (.cons (fun _ y r h => by simp [swa_Mean.l0] at h) .nil))
theorem swa_Mean.ok : CalleeOk Tryz.prog 70 swa_Mean.c := fn_ok tabOk mixed (fun _ => rfl) Tryz.func70 rfl (by kernel_rfl) (ok_cons swa_Check.ok (ok_cons fix_Size.ok (ok_cons half_Near.ok (ok_cons fix_Signed.ok ok_nil)))) swa_Mean.al (fun k x r h => (congrFun (congrFun swa_Mean.h2 k) x).symm.trans (swa_Mean.bf k _ _ r h))
mutual
def output_State_s.l3 : Nat → (List ByteArray) → (List (Int × Int × Unit)) → Int → Int → (Int × Int × Int × (Bool × Int × Int × Unit) × ((Bool × Int × Int × Unit) × Int × Int × Unit) × (List (Int × Int × Unit)) × (List Int) × (Int × (List Int) × Unit) × Unit) → Option (List ByteArray)
  | 0, _, _, _, _, _ => none
  | k + 1, x3, x18, x19, x20, b1 => (if x20 < x19 then (if 0 ≤ x20 then (if x20 < (x18.length : Int) then ((num_Tell.f k ((x18.getD (x20).toNat (0, 0, ())).1)).bind fun t4 => ((dec_Put.f k ((x18.getD (x20).toNat (0, 0, ())).2.1)).bind fun t5 => ((output_line.f [(⟨#[107, 101, 112, 116]⟩ : ByteArray), t4, t5]).bind fun t6 => (if (x3.length + [t6].length) * 16 ≤ 140737488355328 then (output_State_s.l3 k (x3 ++ [t6]) x18 x19 (wrap64 (x20 + (1 : Int))) b1) else none)))) else none) else none) else (if (b1.2.2.2.2.2.2.1.length : Int) > (0 : Int) then ((output_decimals.f k b1.2.2.2.2.2.2.1).bind fun t7 => (if ([(⟨#[101, 109, 97]⟩ : ByteArray)].length + t7.length) * 16 ≤ 140737488355328 then ((output_line.f ([(⟨#[101, 109, 97]⟩ : ByteArray)] ++ t7)).bind fun t8 => (if (x3.length + [t8].length) * 16 ≤ 140737488355328 then (output_State_s.j9 k (x3 ++ [t8]) b1) else none)) else none)) else (output_State_s.j9 k x3 b1)))
def output_State_s.j9 : Nat → (List ByteArray) → (Int × Int × Int × (Bool × Int × Int × Unit) × ((Bool × Int × Int × Unit) × Int × Int × Unit) × (List (Int × Int × Unit)) × (List Int) × (Int × (List Int) × Unit) × Unit) → Option (List ByteArray)
  | 0, _, _ => none
  | k + 1, x3, b1 => ((swa_Mean.f k b1.2.2.2.2.2.2.2.1.1 b1.2.2.2.2.2.2.2.1.2.1).bind fun t9 => (if t9.2 = (0 : Int) then (if b1.2.2.2.2.2.2.2.1.1 > (0 : Int) then ((num_Tell.f k b1.2.2.2.2.2.2.2.1.1).bind fun t10 => ((output_decimals.f k t9.1).bind fun t11 => (if ([(⟨#[115, 119, 97]⟩ : ByteArray), t10].length + t11.length) * 16 ≤ 140737488355328 then ((output_line.f ([(⟨#[115, 119, 97]⟩ : ByteArray), t10] ++ t11)).bind fun t12 => (if (x3.length + [t12].length) * 16 ≤ 140737488355328 then (output_State_s.j12 k (x3 ++ [t12])) else none)) else none))) else (output_State_s.j12 k x3)) else (output_State_s.j12 k x3)))
def output_State_s.j12 : Nat → (List ByteArray) → Option (List ByteArray)
  | 0, _ => none
  | k + 1, x3 => (some x3)
end
def output_State_s.f (k : Nat) (a0 : Int × Int × Int × (Bool × Int × Int × Unit) × ((Bool × Int × Int × Unit) × Int × Int × Unit) × (List (Int × Int × Unit)) × (List Int) × (Int × (List Int) × Unit) × Unit) : Option (List ByteArray) := ((output_Word.f a0.2.1).bind fun t1 => ((num_Tell.f k a0.1).bind fun t2 => ((output_line.f [(⟨#[115, 116, 97, 116, 101]⟩ : ByteArray), t1, t2]).bind fun t3 => (output_State_s.l3 k [t3] a0.2.2.2.2.2.1 (a0.2.2.2.2.2.1.length : Int) (0 : Int) a0))))
def output_State_s.c : Sym.Callee := ⟨(.cons (.cons (.int .i64) (.cons (.int .i64) (.cons (.int .i64) (.cons (.cons .bool (.cons (.int .i64) (.cons (.int .i64) .nil))) (.cons (.cons (.cons .bool (.cons (.int .i64) (.cons (.int .i64) .nil))) (.cons (.int .i64) (.cons (.int .i64) .nil))) (.cons (.sl (.cons (.int .i64) (.cons (.int .i64) .nil))) (.cons (.sl (.int .i64)) (.cons (.cons (.int .i64) (.cons (.sl (.int .i64)) .nil)) .nil)))))))) .nil), (.sl .str), false, El (.sl .str), fun k x => output_State_s.f k x.1, fun y => y, []⟩
noncomputable def output_State_s.E : Env (El (.sl .str)) := envOf tab Tryz.f40 false (.sl .str) [] (fun y => y) [(65, output_Word.c), (51, num_Tell.c), (64, output_line.c), (68, dec_Put.c), (69, output_decimals.c), (70, swa_Mean.c)] [⟨3, ⟨76, [(3, (.sl .str), [⟨0, 4, 9, 1⟩]), (18, (.sl (.cons (.int .i64) (.cons (.int .i64) .nil))), []), (19, (.int .i64), []), (20, (.int .i64), [])], [(1, (.cons (.int .i64) (.cons (.int .i64) (.cons (.int .i64) (.cons (.cons .bool (.cons (.int .i64) (.cons (.int .i64) .nil))) (.cons (.cons (.cons .bool (.cons (.int .i64) (.cons (.int .i64) .nil))) (.cons (.int .i64) (.cons (.int .i64) .nil))) (.cons (.sl (.cons (.int .i64) (.cons (.int .i64) .nil))) (.cons (.sl (.int .i64)) (.cons (.cons (.int .i64) (.cons (.sl (.int .i64)) .nil)) .nil)))))))), [])], []⟩, fun k y => output_State_s.l3 k y.1.1 y.1.2.1 y.1.2.2.1 y.1.2.2.2.1 y.2.1.1⟩] [⟨9, ⟨76, [(3, (.sl .str), [⟨0, 4, 9, 1⟩])], [(1, (.cons (.int .i64) (.cons (.int .i64) (.cons (.int .i64) (.cons (.cons .bool (.cons (.int .i64) (.cons (.int .i64) .nil))) (.cons (.cons (.cons .bool (.cons (.int .i64) (.cons (.int .i64) .nil))) (.cons (.int .i64) (.cons (.int .i64) .nil))) (.cons (.sl (.cons (.int .i64) (.cons (.int .i64) .nil))) (.cons (.sl (.int .i64)) (.cons (.cons (.int .i64) (.cons (.sl (.int .i64)) .nil)) .nil)))))))), [])], []⟩, fun k y => output_State_s.j9 k y.1.1 y.2.1.1⟩, ⟨12, ⟨76, [(3, (.sl .str), [⟨0, 4, 9, 1⟩])], [], []⟩, fun k y => output_State_s.j12 k y.1.1⟩]
theorem output_State_s.h1 : (obls output_State_s.E Tryz.f40).map Ob.left = (obls output_State_s.E Tryz.f40).map Ob.right := by kernel_rfl
theorem output_State_s.h2 : (fun k x => output_State_s.c.fn k x) = fun k x => mainK output_State_s.E Tryz.f40 output_State_s.c.dom k x := by kernel_rfl
theorem output_State_s.ok : CalleeOk Tryz.prog 40 output_State_s.c := fn_ok tabOk mixed (fun _ => rfl) Tryz.func40 rfl (by kernel_rfl) (ok_cons output_Word.ok (ok_cons num_Tell.ok (ok_cons output_line.ok (ok_cons dec_Put.ok (ok_cons output_decimals.ok (ok_cons swa_Mean.ok ok_nil)))))) (.of_eq output_State_s.h1) (fun k x _ h => (congrFun (congrFun output_State_s.h2 k) x).symm.trans h)
section
open Go.Proofs.YtcgdhpnobgimfaaGreatDoorW.PrintMore Go.Proofs.YtcgdhpnobgimfaaGreatDoorW.PrintLast
set_option maxHeartbeats 1000000
theorem info_byte : (Tryz.prog.info? 5).map (fun i => (i.zero, i.size, i.bytes)) = some (some (.int .u8 0), 1, 1) := by kernel_rfl
/-- A builder at block b that holds bs, its row at v. -/
def BI (b : Nat) (bs : List Value) (v : Value) (W : World) : Prop := (∃ p, (p = .pointer none ∨ p = .pointer (some ⟨b, 0, none⟩)) ∧ W.heap[b]? = some (.cells #[p, v] 78 (0, 0))) ∧ W.ownsRowF b 5 1 v bs.length bs ∧ v.ownBlock ≠ some b
/-- What a writing call leaves alone. -/
def Wr (b : Nat) (v : Value) (W : World) (v' : Value) (W' : World) : Prop := Below b W W' ∧ ∀ k, k < W.heap.size → k ≠ b → v.ownBlock ≠ some k → W'.heap[k]? = W.heap[k]? ∧ v'.ownBlock ≠ some k
theorem Wr.refl (b : Nat) (v : Value) (W : World) : Wr b v W v W := ⟨Below.refl _ _, fun k _ _ h => ⟨rfl, h⟩⟩
theorem Wr.trans {b : Nat} {v v1 v2 : Value} {W W1 W2 : World} (h : Wr b v W v1 W1) (k : Wr b v1 W1 v2 W2) : Wr b v W v2 W2 :=
  ⟨h.1.trans k.1, fun i hi hb hv => by
    obtain ⟨h1, h2⟩ := h.2 i hi hb hv
    obtain ⟨k1, k2⟩ := k.2 i (Nat.lt_of_lt_of_le hi h.1.size) hb h2
    exact ⟨k1.trans h1, k2⟩⟩
theorem bcell {W : World} {b o : Nat} {cs : Array Value} {t : Nat} {fz : Nat × Nat} {v : Value} (h : W.heap[b]? = some (.cells cs t fz)) (hv : cs[o]? = some v) : W.cell? ⟨b, o, none⟩ = some v := by
  unfold World.cell?
  simp [h, hv]
theorem bfrz {W : World} {b o : Nat} {cs : Array Value} {t : Nat} (h : W.heap[b]? = some (.cells cs t (0, 0))) : W.frozen? ⟨b, o, none⟩ = false := by
  unfold World.frozen?
  simp [h]
theorem bset {W : World} {b t : Nat} {p v q : Value} (h : W.heap[b]? = some (.cells #[p, v] t (0, 0))) : (W.setCell ⟨b, 0, none⟩ q).heap[b]? = some (.cells #[q, v] t (0, 0)) ∧ (W.setCell ⟨b, 1, none⟩ q).heap[b]? = some (.cells #[p, q] t (0, 0)) := by
  have hb := (Array.getElem?_eq_some_iff.1 h).1
  unfold World.setCell
  simp [Array.getElem?_modify, h]
theorem own_set {W : World} {b o : Nat} {v q : Value} {n : Nat} {xs : List Value} (h : W.ownsRowF b 5 1 v n xs) (hne : v.ownBlock ≠ some b) : (W.setCell ⟨b, o, none⟩ q).ownsRowF b 5 1 v n xs :=
  h.kept (⟨rfl, rfl, rfl, by simp, fun k hk hkb => Below.heap_setCell W _ _ k (fun e => hkb (by rw [e]))⟩ : W.grownBy (W.setCell ⟨b, o, none⟩ q) (some b)) (.inr hne)
theorem wr_set {W : World} {b o : Nat} {v q : Value} : Wr b v W v (W.setCell ⟨b, o, none⟩ q) :=
  ⟨(Below.refl b W).setCell (p := ⟨b, o, none⟩) (Nat.le_refl _) _, fun k hk hb hv => ⟨Below.heap_setCell W _ _ k hb, hv⟩⟩
theorem check_calls (b : Nat) (bs : List Value) (v : Value) (w : World) (h : BI b bs v w) :
    Calls Tryz.prog 63 #[.pointer (some ⟨b, 0, none⟩)] w fun e w' => e = .returned (.tuple #[]) ∧ w'.heap[b]? = some (.cells #[.pointer (some ⟨b, 0, none⟩), v] 78 (0, 0)) ∧ w'.ownsRowF b 5 1 v bs.length bs ∧ Wr b v w v w' := by
  obtain ⟨⟨p, hp, hb⟩, hown, hne⟩ := h
  have ef : layJoin_ren.f 240 = 63 := by kernel_rfl
  have et : layJoin_ren.t 72 = 78 := by kernel_rfl
  rcases hp with rfl | rfl
  · have g := Go.Proofs.Any.Builder_copyCheck_fresh { layJoin with } layJoinX.toX72 b w (bcell (o := 0) hb rfl) (by rw [et]; unfold World.shape?; rw [hb]; rfl) (bfrz (o := 0) hb)
    rw [ef] at g
    refine g.mono ?_
    rintro e w' ⟨rfl, rfl⟩
    exact ⟨rfl, (bset hb).1, own_set hown hne, wr_set⟩
  · have g := Go.Proofs.Any.Builder_copyCheck_used { layJoin with } layJoinX.toX72 b w (bcell (o := 0) hb rfl)
    rw [ef] at g
    refine g.mono ?_
    rintro e w' ⟨rfl, rfl⟩
    exact ⟨rfl, hb, hown, Wr.refl _ _ _⟩
/-- An append to the builder's row lies in that row, or in a new block. -/
theorem app_str {w : World} {b : Nat} {v : Value} {n : Nat} {xs : List Value} (ty : Nat) (hown : w.ownsRowF b 5 1 v n xs) (s : ByteArray) (hs : n + s.size ≤ 1099511627776) (hb : b ≤ w.heap.size) :
    ∃ v' w', (Builtin.append_ #[76, 9] ty #[v, .string s]).run Tryz.prog w = .ok v' w' ∧ w'.ownsRowF b 5 1 v' (n + s.size) (xs ++ Lib.strCells s) ∧ w.grownBy w' v.ownBlock ∧ ∀ g, v'.ownBlock = some g → v.ownBlock = some g ∨ w.heap.size ≤ g := by
  obtain ⟨i0, hi, hz0, hz1, hz2⟩ := info_parts info_byte
  have hm : n + s.size ≤ maxLen := by unfold maxLen; omega
  have law : ∀ B, w.ownsRowF B 5 1 v n xs → B ≤ w.heap.size → _ := fun B ho hB => Lib.run_append_own_stringF (P := Tryz.prog) w B 76 9 ty 5 i0 Tryz.underlying76 Tryz.underlying9 hi hz0 hz1 hz2 v n xs ho s hm (by omega) hB
  obtain ⟨v', w', h1, h2, h3, _⟩ := law b hown hb
  refine ⟨v', w', h1, h2, h3, fun g hg => ?_⟩
  rcases hown.2 with ⟨rfl, rfl⟩ | ⟨g0, cap, cur, fz, rfl, hbg, hg0, hfz, hnc, hcm, hcs, htake⟩
  · obtain ⟨v2, w2, k1, k2, _, _⟩ := law w.heap.size ⟨hown.1, .inl ⟨rfl, rfl⟩⟩ (Nat.le_refl _)
    rw [h1] at k1
    obtain ⟨rfl, rfl⟩ : v' = v2 ∧ w' = w2 := by injection k1 with a b; exact ⟨a, b⟩
    exact .inr (k2.lt g hg).1
  · by_cases hr : n + s.size ≤ cap
    · have e := Lib.run_append_room_stringF (P := Tryz.prog) w 76 9 ty 5 i0 Tryz.underlying76 Tryz.underlying9 hi hz1 g0 n cap cur fz hg0 (by simpa using hfz) s hr (by rw [hcs]; omega)
      rw [h1] at e
      injection e with a _
      rw [a] at hg
      exact .inl hg
    · have e := Lib.run_append_grow_string (P := Tryz.prog) w 76 9 ty 5 i0 (.int .u8 0) Tryz.underlying76 Tryz.underlying9 hi hz0 ⟨g0, 0, none⟩ n cap xs (by rw [hz1]; exact hown.1) (hown.cells (g := g0) rfl) s (by omega) (by omega) (by rw [hz2]; exact growslice_fits (by omega) (by omega))
      rw [h1] at e
      injection e with a _
      rw [a] at hg
      simp [Value.ownBlock] at hg
      exact .inr (by omega)
theorem app_byte {w : World} {b : Nat} {v : Value} {n : Nat} {xs : List Value} (ty : Nat) (hown : w.ownsRowF b 5 1 v n xs) (ad : Addr) (c : Nat) (u : Value) (hu : w.cell? ad = some u) (h1u : u.oneCell' = true) (hs : n + 1 ≤ 1099511627776) (hb : b ≤ w.heap.size) :
    ∃ v' w', (Builtin.append_ #[76, 76] ty #[v, .slice (some ad) 1 c]).run Tryz.prog w = .ok v' w' ∧ w'.ownsRowF b 5 1 v' (n + 1) (xs ++ [u]) ∧ w.grownBy w' v.ownBlock ∧ ∀ g, v'.ownBlock = some g → v.ownBlock = some g ∨ w.heap.size ≤ g := by
  obtain ⟨i0, hi, hz0, hz1, hz2⟩ := info_parts info_byte
  have hm : n + 1 ≤ maxLen := by unfold maxLen; omega
  have hc : ∀ (j : Nat) (x : Value), [u][j]? = some x → w.cell? (ad.add j) = some x := fun j x hj => by
    cases j with
    | zero =>
      simp only [List.getElem?_cons_zero, Option.some.injEq] at hj
      subst hj
      rw [show ad.add 0 = ad from by unfold Addr.add; simp]
      exact hu
    | succ j => simp at hj
  have ho : ∀ x ∈ [u], x.oneCell' = true := fun x hx => by rw [List.mem_singleton.1 hx]; exact h1u
  have law : ∀ B, w.ownsRowF B 5 1 v n xs → B ≤ w.heap.size → _ := fun B hw hB => run_append_ownF (P := Tryz.prog) w B 76 ty 5 i0 (.int .u8 0) 1 1 Tryz.underlying76 hi hz0 hz1 hz2 rfl (by decide) v n xs hw ad 1 c [u] rfl hc ho hm (by omega) hB
  obtain ⟨v', w', h1, h2, h3, _⟩ := law b hown hb
  refine ⟨v', w', h1, h2, h3, fun g hg => ?_⟩
  rcases hown.2 with ⟨rfl, rfl⟩ | ⟨g0, cap, cur, fz, rfl, hbg, hg0, hfz, hnc, hcm, hcs, htake⟩
  · obtain ⟨v2, w2, k1, k2, _, _⟩ := law w.heap.size ⟨hown.1, .inl ⟨rfl, rfl⟩⟩ (Nat.le_refl _)
    rw [h1] at k1
    obtain ⟨rfl, rfl⟩ : v' = v2 ∧ w' = w2 := by injection k1 with a b; exact ⟨a, b⟩
    exact .inr (k2.lt g hg).1
  · by_cases hr : n + 1 ≤ cap
    · have e := run_append_roomF (P := Tryz.prog) w 76 ty 5 i0 Tryz.underlying76 hi g0 n cap cur fz hg0 (by rw [hz1]; exact hfz) ad 1 c [u] (by rw [hz1]; rfl) hc ho hr (by rw [hcs, hz1]; simp; omega)
      rw [h1] at e
      injection e with a _
      rw [a] at hg
      exact .inl hg
    · have e := run_append_grow (P := Tryz.prog) w 76 ty 5 i0 (.int .u8 0) Tryz.underlying76 hi hz0 ⟨g0, 0, none⟩ n cap xs (by rw [hz1]; exact hown.1) (hown.cells (g := g0) rfl) ad 1 c [u] (by rw [hz1]; rfl) hc (by omega) (by omega) (by rw [hz2]; exact growslice_fits (by omega) (by omega))
      rw [h1] at e
      injection e with a _
      rw [a] at hg
      simp [Value.ownBlock] at hg
      exact .inr (by omega)
theorem wp_app_str {w : World} {ops : Array Oper} {rest : List Oper} {o : Oper} {a : Act} {Q : Exit → Act → World → Prop} (hgd : o.guard = none) (sl x : Operand) (ho : o.op = .call { callee := .builtin .append, args := #[sl, x], argTypes := #[76, 9] })
    {b : Nat} {v : Value} {n : Nat} {xs : List Value} (hsl : a.eval sl = v) (hown : w.ownsRowF b 5 1 v n xs) (s : ByteArray) (hx : a.eval x = .string s) (hs : n + s.size ≤ 1099511627776) (hb : b ≤ w.heap.size)
    (h : ∀ v' w', w'.ownsRowF b 5 1 v' (n + s.size) (xs ++ Lib.strCells s) → w.grownBy w' v.ownBlock → (∀ g, v'.ownBlock = some g → v.ownBlock = some g ∨ w.heap.size ≤ g) → wpList Tryz.prog ops Q rest (a.put o.dst v') w') : wpList Tryz.prog ops Q (o :: rest) a w := by
  refine wpList_plain hgd fun K hK => ?_
  obtain ⟨v', w', hr, h2, h3, h4⟩ := app_str o.type hown s hs hb
  unfold Oper.wp execOp
  simp only [ho, resolve, invoke, builtin, Sem.run_bind, Sem.run_pure, Result.andThen_ok, List.map_toArray, List.map_cons, List.map_nil, hsl, hx, hr]
  exact hK _ _ (h v' w' h2 h3 h4)
theorem wp_app_byte {w : World} {ops : Array Oper} {rest : List Oper} {o : Oper} {a : Act} {Q : Exit → Act → World → Prop} (hgd : o.guard = none) (sl x : Operand) (ho : o.op = .call { callee := .builtin .append, args := #[sl, x], argTypes := #[76, 76] })
    {b : Nat} {v : Value} {n : Nat} {xs : List Value} (hsl : a.eval sl = v) (hown : w.ownsRowF b 5 1 v n xs) (ad : Addr) (c : Nat) (u : Value) (hx : a.eval x = .slice (some ad) 1 c) (hu : w.cell? ad = some u) (h1u : u.oneCell' = true) (hs : n + 1 ≤ 1099511627776) (hb : b ≤ w.heap.size)
    (h : ∀ v' w', w'.ownsRowF b 5 1 v' (n + 1) (xs ++ [u]) → w.grownBy w' v.ownBlock → (∀ g, v'.ownBlock = some g → v.ownBlock = some g ∨ w.heap.size ≤ g) → wpList Tryz.prog ops Q rest (a.put o.dst v') w') : wpList Tryz.prog ops Q (o :: rest) a w := by
  refine wpList_plain hgd fun K hK => ?_
  obtain ⟨v', w', hr, h2, h3, h4⟩ := app_byte o.type hown ad c u hu h1u hs hb
  unfold Oper.wp execOp
  simp only [ho, resolve, invoke, builtin, Sem.run_bind, Sem.run_pure, Result.andThen_ok, List.map_toArray, List.map_cons, List.map_nil, hsl, hx, hr]
  exact hK _ _ (h v' w' h2 h3 h4)
/-- Behind an append, its result being stored. -/
theorem after_app {w w2 : World} {b : Nat} {v v' : Value} {xs : List Value} (hb : w.heap[b]? = some (.cells #[.pointer (some ⟨b, 0, none⟩), v] 78 (0, 0))) (hne : v.ownBlock ≠ some b) (ho2 : w2.ownsRowF b 5 1 v' xs.length xs) (hg : w.grownBy w2 v.ownBlock) (hown : ∀ k, v.ownBlock = some k → b ≤ k) (hv : ∀ g, v'.ownBlock = some g → v.ownBlock = some g ∨ w.heap.size ≤ g) :
    w2.heap[b]? = some (.cells #[.pointer (some ⟨b, 0, none⟩), v] 78 (0, 0)) ∧ BI b xs v' (w2.setCell ⟨b, 1, none⟩ v') ∧ Wr b v w v' (w2.setCell ⟨b, 1, none⟩ v') := by
  have hlt := (Array.getElem?_eq_some_iff.1 hb).1
  have h2 : w2.heap[b]? = some (.cells #[.pointer (some ⟨b, 0, none⟩), v] 78 (0, 0)) := (hg.block b hlt (fun e => hne e.symm)).trans hb
  have hne2 : v'.ownBlock ≠ some b := fun e => by
    rcases hv b e with q | q
    · exact hne q
    · omega
  refine ⟨h2, ⟨⟨_, .inr rfl, (bset h2).2⟩, own_set ho2 hne2, hne2⟩, ((Below.refl b w).grown hg (Nat.le_of_lt hlt) hown).trans (wr_set (v := v')).1, fun k hk hkb hkv => ⟨((wr_set (v := v') (W := w2)).2 k (Nat.lt_of_lt_of_le hk hg.size) hkb (fun e => ?_)).1.trans (hg.block k hk (fun e => hkv e.symm)), fun e => ?_⟩⟩
  all_goals
    rcases hv k e with q | q
    · exact hkv q
    · omega
theorem own_slice {w : World} {b n : Nat} {v : Value} {xs : List Value} (h : w.ownsRowF b 5 1 v n xs) : ∃ ao m c, v = .slice ao m c := by
  rcases h.2 with ⟨h, _⟩ | ⟨g, cap, cur, fz, h, _⟩
  · exact ⟨_, _, _, h⟩
  · exact ⟨_, _, _, h⟩
theorem wrs_calls (b : Nat) (bs : List Value) (v : Value) (s : ByteArray) (w : World) (h : BI b bs v w) (hs : bs.length + s.size ≤ 1099511627776) :
    Calls Tryz.prog 37 #[.pointer (some ⟨b, 0, none⟩), .string s] w fun e w' => (∃ r, e = .returned r) ∧ ∃ v', BI b (bs ++ Lib.strCells s) v' w' ∧ Wr b v w v' w' := by
  have hne := h.2.2
  refine calls_of_wp Tryz.func37 rfl ?_
  simp only [Tryz.ntmps37, List.size_toArray, List.length_cons, List.length_nil, Nat.reduceAdd, Nat.reduceSub, Array.replicate_succ, Array.replicate_zero, List.push_toArray, List.append_toArray, List.nil_append, List.cons_append]
  go_wp2_with first
    | (go_at_call 63; refine (check_calls b bs v _ h).mono ?_; rintro e w1 ⟨rfl, hb1, hown, hwr⟩; have c0 := bcell (o := 1) hb1 rfl)
    | (at_builtin; refine wp_app_str rfl _ _ rfl rfl hown s rfl hs (Nat.le_of_lt (Array.getElem?_eq_some_iff.1 hb1).1) ?_; intro v' w2 ho2 hg2 hv2; obtain ⟨ao, m', c', rfl⟩ := own_slice ho2; have hA := after_app hb1 hne (xs := bs ++ Lib.strCells s) (by rw [List.length_append, Lib.strCells_length]; exact ho2) hg2 (fun k hk => (hown.lt k hk).1) hv2; have d1 := bcell (o := 1) hA.1 rfl; have f1 := bfrz (o := 1) hA.1)
  go_ret2
  exact ⟨⟨_, rfl⟩, _, hA.2.1, hwr.trans hA.2.2⟩
theorem wrb_calls (b : Nat) (bs : List Value) (v : Value) (w : World) (h : BI b bs v w) (hs : bs.length + 1 ≤ 1099511627776) :
    Calls Tryz.prog 38 #[.pointer (some ⟨b, 0, none⟩), .int .u8 10] w fun e w' => (∃ r, e = .returned r) ∧ ∃ v', BI b (bs ++ [.int .u8 10]) v' w' ∧ Wr b v w v' w' := by
  have hne := h.2.2
  refine calls_of_wp Tryz.func38 rfl ?_
  simp only [Tryz.ntmps38, List.size_toArray, List.length_cons, List.length_nil, Nat.reduceAdd, Nat.reduceSub, Array.replicate_succ, Array.replicate_zero, List.push_toArray, List.append_toArray, List.nil_append, List.cons_append]
  go_wp2_with first
    | (go_at_call 63; refine (check_calls b bs v _ h).mono ?_; rintro e w1 ⟨rfl, hb1, hown, hwr⟩; have c0 := bcell (o := 1) hb1 rfl; have hlt := (Array.getElem?_eq_some_iff.1 hb1).1; have hb3 : (w1.alloc (.cells #[.int .u8 10] 5)).heap[b]? = _ := (Below.heap_alloc w1 _ b hlt).trans hb1)
    | (at_builtin; refine wp_app_byte (w := w1.alloc (.cells #[.int .u8 10] 5)) rfl _ _ rfl rfl (hown.alloc _) ⟨w1.heap.size, 0, none⟩ 1 (.int .u8 10) rfl (bcell (o := 0) (heap_alloc_new w1 _) rfl) rfl hs (by rw [World.size_alloc]; omega) ?_; intro v' w2 ho2 hg2 hv2; obtain ⟨ao, m', c', rfl⟩ := own_slice ho2; have hA := after_app hb3 hne (xs := bs ++ [.int .u8 10]) (by rw [List.length_append]; exact ho2) hg2 (fun k hk => (hown.lt k hk).1) hv2; have d1 := bcell (o := 1) hA.1 rfl; have f1 := bfrz (o := 1) hA.1)
  go_ret
  have hal : Wr b v w1 v (w1.alloc (.cells #[.int .u8 10] 5)) := ⟨(Below.refl b w1).alloc (Nat.le_of_lt hlt) _, fun k hk _ hv => ⟨Below.heap_alloc w1 _ k hk, hv⟩⟩
  exact ⟨⟨_, rfl⟩, _, hA.2.1, (hwr.trans hal).trans hA.2.2⟩
/-- What lines come to: each with a line's end. -/
def endL : List ByteArray → List UInt8
  | [] => []
  | s :: r => s.data.toList ++ 10 :: endL r
theorem endL_app (a b : List ByteArray) : endL (a ++ b) = endL a ++ endL b := by
  induction a with
  | nil => rfl
  | cons s r ih => rw [List.cons_append, endL, endL, ih, List.append_assoc]; rfl
theorem endL_len (ls : List ByteArray) : ls.length ≤ (endL ls).length := by
  induction ls with
  | nil => exact Nat.le_refl _
  | cons s r ih => rw [endL, List.length_append, List.length_cons, List.length_cons]; omega
/-- All that is settled is safe from the builder. -/
def Safe (F : Nat → Nat) (b : Nat) (v : Value) (W : World) : Prop := ∀ k, 0 < F k → k < W.heap.size ∧ k ≠ b ∧ v.ownBlock ≠ some k
theorem Safe.wr {F : Nat → Nat} {b : Nat} {v v' : Value} {W W' : World} (h : Safe F b v W) (hw : Wr b v W v' W') : Safe F b v' W' ∧ Ext F W F W' :=
  ⟨fun k hk => by
    obtain ⟨h1, h2, h3⟩ := h k hk
    exact ⟨Nat.lt_of_lt_of_le h1 hw.1.size, h2, (hw.2 k h1 h2 h3).2⟩,
  ⟨fun _ => Nat.le_refl _, fun k o u ho hu => by
    obtain ⟨h1, h2, h3⟩ := h k (Nat.lt_of_le_of_lt (Nat.zero_le _) ho)
    exact (World.cell?_of_block (hw.2 k h1 h2 h3).1).trans hu⟩⟩
theorem put_calls (F : Nat → Nat) (b : Nat) (bs : List UInt8) (v lv : Value) (ls : List ByteArray) (w : World) (h : BI b (Lib.byteCells bs) v w) (hS : Safe F b v w) (hr : RepV F w (.sl .str) ls lv) (hs : bs.length + (endL ls).length ≤ 1099511627776) :
    Calls Tryz.prog 36 #[lv, .pointer (some ⟨b, 0, none⟩)] w fun e w' => (∃ r, e = .returned r) ∧ ∃ v', BI b (Lib.byteCells (bs ++ endL ls)) v' w' ∧ Wr b v w v' w' := by
  obtain ⟨A, c, rfl, hlc, hrow⟩ := rep_sl hr
  refine calls_of_wp Tryz.func36 rfl ?_
  simp only [Tryz.ntmps36, List.size_toArray, List.length_cons, List.length_nil, Nat.reduceAdd, Nat.reduceSub, Array.replicate_succ, Array.replicate_zero, List.push_toArray, List.append_toArray, List.nil_append, List.cons_append]
  go_wp2
  go_loopw [7] (fun p wr => ∃ (i : Nat) (v' : Value), p = .int .i64 i ∧ i ≤ ls.length ∧ BI b (Lib.byteCells (bs ++ endL (ls.take i))) v' wr ∧ Wr b v w v' wr) (fun p _ => ls.length - (intOf p).toNat)
  case atStart => exact ⟨0, v, rfl, Nat.zero_le _, by rw [List.take_zero]; simpa [endL] using h, Wr.refl _ _ _⟩
  case round =>
    obtain ⟨i, v', rfl, hi, hB, hW⟩ := hrel
    obtain ⟨hS2, hE⟩ := hS.wr hW
    rcases Nat.lt_or_ge i ls.length with hlt | hge
    · obtain ⟨blk, o, rfl, hF, hcell⟩ := hrow (Nat.lt_of_le_of_lt (Nat.zero_le _) hlt)
      obtain ⟨ds, hd, hd2⟩ := hcell i ls[i] (List.getElem?_eq_getElem hlt)
      obtain rfl : ds = [.string ls[i]] := hd
      have hc : wr.cell? ⟨blk, o + i, none⟩ = some (.string ls[i]) := by
        have := hd2 0 _ rfl
        rw [show o + i * Ty.str.size + 0 = o + i from by show o + i * 1 + 0 = o + i; omega] at this
        exact hE.same blk (o + i) _ (by have : ls.length * Ty.str.size = ls.length := Nat.mul_one _; omega) this
      have htk : ls.take (i + 1) = ls.take i ++ [ls[i]] := by rw [List.take_add_one, List.getElem?_eq_getElem hlt]; rfl
      have hle : bs.length + (endL (ls.take (i + 1))).length ≤ 1099511627776 := by
        have e : endL ls = endL (ls.take (i + 1)) ++ endL (ls.drop (i + 1)) := by rw [← endL_app, List.take_append_drop]
        rw [e, List.length_append] at hs
        omega
      have hone : endL (ls.take (i + 1)) = endL (ls.take i) ++ (ls[i].data.toList ++ [10]) := by rw [htk, endL_app]; rfl
      rw [hone, List.length_append, List.length_append, List.length_singleton] at hle
      have hsz : ls[i].data.toList.length = ls[i].size := rfl
      have hcond : (i : Int) < (ls.length : Int) := by omega
      go_wp2_with first
        | (go_at_call 37; refine (wrs_calls b _ v' ls[i] _ hB (by rw [Lib.byteCells_length, List.length_append]; omega)).mono ?_; rintro e w1 ⟨⟨r1, rfl⟩, v1, hB1, hW1⟩; rw [Lib.strCells_eq, ← Lib.byteCells_append, List.append_assoc] at hB1)
        | (go_at_call 38; refine (wrb_calls b _ v1 _ hB1 (by rw [Lib.byteCells_length, List.length_append, List.length_append]; omega)).mono ?_; rintro e w2 ⟨⟨r2, rfl⟩, v2, hB2, hW2⟩; rw [show [Value.int .u8 10] = Lib.byteCells [10] from rfl, ← Lib.byteCells_append] at hB2)
      have hll := endL_len ls
      have hw64 : wrap64 ((i : Int) + 1) = ((i + 1 : Nat) : Int) := by unfold Go.RowKit.wrap64; omega
      rw [hw64]
      refine ⟨⟨i + 1, v2, rfl, hlt, ?_, hW.trans (hW1.trans hW2)⟩, ?_⟩
      · rw [hone, ← List.append_assoc (endL (ls.take i)), ← List.append_assoc bs]
        exact hB2
      · show ls.length - (i + 1) < ls.length - i
        exact Nat.sub_lt_sub_left hlt (Nat.lt_succ_self i)
    · obtain rfl : i = ls.length := Nat.le_antisymm hi hge
      rw [List.take_length] at hB
      go_wp2
      go_end0
      exact ⟨⟨_, rfl⟩, v', hB, hW⟩
abbrev OutTy : Ty := (.cons (.int .i64) (.cons (.int .i64) (.cons (.sl (.int .i64)) (.cons (.sl .bool) (.cons (.sl (.cons (.int .i64) (.cons (.int .i64) (.cons (.int .i64) .nil)))) (.cons (.int .i64) .nil))))))
abbrev StTy : Ty := (.cons (.int .i64) (.cons (.int .i64) (.cons (.int .i64) (.cons (.cons .bool (.cons (.int .i64) (.cons (.int .i64) .nil))) (.cons (.cons (.cons .bool (.cons (.int .i64) (.cons (.int .i64) .nil))) (.cons (.int .i64) (.cons (.int .i64) .nil))) (.cons (.sl (.cons (.int .i64) (.cons (.int .i64) .nil))) (.cons (.sl (.int .i64)) (.cons (.cons (.int .i64) (.cons (.sl (.int .i64)) .nil)) .nil))))))))
def stepsO (k : Nat) : List (El OutTy) → Option (List ByteArray)
  | [] => some []
  | o :: r => (output_Step_s.f k o).bind fun x => (stepsO k r).bind fun y => some (x ++ y)
theorem stepsO_app {k : Nat} : ∀ {a b : List (El OutTy)} {r : List ByteArray}, stepsO k (a ++ b) = some r → ∃ x y, stepsO k a = some x ∧ stepsO k b = some y ∧ r = x ++ y
  | [], b, r, h => ⟨[], r, rfl, h, rfl⟩
  | o :: a, b, r, h => by
    rw [List.cons_append, stepsO] at h
    obtain ⟨x, h1, h2⟩ := Option.bind_eq_some_iff.1 h
    obtain ⟨y, h3, h4⟩ := Option.bind_eq_some_iff.1 h2
    obtain ⟨p, q, h5, h6, rfl⟩ := stepsO_app h3
    cases h4
    exact ⟨x ++ p, q, by rw [stepsO, h1]; show (stepsO k a).bind _ = _; rw [h5]; rfl, h6, by rw [List.append_assoc]⟩
def output_Text.f (k : Nat) (l : List (El OutTy)) (s : El StTy) : Option ByteArray := (stepsO k l).bind fun a => (output_State_s.f k s).bind fun b => if (endL (a ++ b)).length ≤ 1099511627776 ∧ l.length ≤ 1000000 then some ⟨(endL (a ++ b)).toArray⟩ else none
structure TS (k n0 : Nat) (F : Nat → Nat) (w : World) (cs : List Value) (a : List ByteArray) (wr : World) (F1 : Nat → Nat) (v : Value) : Prop where
  bi : BI (n0 + 1) (Lib.byteCells (endL a)) v wr
  safe : Safe F1 (n0 + 1) v wr
  below : Below n0 w wr
  fold : ∀ b, b < n0 → F1 b = F b
  box : wr.heap[n0]? = some (.cells cs.toArray 45 (0, 0))
theorem own_below {w w' : World} {b n : Nat} {v : Value} {xs : List Value} (h : w.ownsRowF b 5 1 v n xs) (hb : Below w.heap.size w w') : w'.ownsRowF b 5 1 v n xs := by
  refine ⟨h.1, ?_⟩
  rcases h.2 with h2 | ⟨g, cap, cur, fz, h1, h2, h3, h4⟩
  · exact .inl h2
  · exact .inr ⟨g, cap, cur, fz, h1, h2, (hb.block g (Array.getElem?_eq_some_iff.1 h3).1).trans h3, h4⟩
theorem TS.lt {k n0 : Nat} {F : Nat → Nat} {w : World} {cs : List Value} {a : List ByteArray} {wr : World} {F1 : Nat → Nat} {v : Value} (h : TS k n0 F w cs a wr F1 v) : n0 + 1 < wr.heap.size := by
  obtain ⟨⟨p, _, hb⟩, _⟩ := h.bi
  exact (Array.getElem?_eq_some_iff.1 hb).1
theorem TS.grow {k n0 : Nat} {F : Nat → Nat} {w : World} {cs : List Value} {a : List ByteArray} {wr w2 : World} {F1 F2 : Nat → Nat} {v : Value} (h : TS k n0 F w cs a wr F1 v) (hg : Grow F1 wr F2 w2) (hf : ∀ b, 0 < F2 b → b < w2.heap.size) : TS k n0 F w cs a w2 F2 v := by
  have hlt := h.lt
  obtain ⟨⟨⟨p, hp, hb⟩, hown, hne⟩, hS, hB, hF, hx⟩ := h
  refine ⟨⟨⟨p, hp, (hg.below.block _ hlt).trans hb⟩, own_below hown hg.below, hne⟩, fun q hq => ⟨hf q hq, ?_⟩, hB.trans (hg.below.mono (by omega)), fun b hb => (hg.fold b (by omega)).trans (hF b hb), (hg.below.block _ (by omega)).trans hx⟩
  rcases Nat.lt_or_ge q wr.heap.size with c | c
  · rw [hg.fold q c] at hq
    exact (hS q hq).2
  · refine ⟨by omega, fun e => ?_⟩
    have := (hown.lt q e).2
    omega
theorem TS.alloc {k n0 : Nat} {F : Nat → Nat} {w : World} {cs : List Value} {a : List ByteArray} {wr : World} {F1 : Nat → Nat} {v : Value} (h : TS k n0 F w cs a wr F1 v) (o : Obj) : TS k n0 F w cs a (wr.alloc o) F1 v :=
  h.grow ⟨(Below.refl _ wr).alloc (Nat.le_refl _) o, fun _ _ => rfl⟩ (fun b hb => by rw [World.size_alloc]; exact Nat.lt_succ_of_lt (h.safe b hb).1)
theorem TS.put {k n0 : Nat} {F : Nat → Nat} {w : World} {cs : List Value} {a ls : List ByteArray} {wr w2 : World} {F1 : Nat → Nat} {v v' : Value} (h : TS k n0 F w cs a wr F1 v) (hb : BI (n0 + 1) (Lib.byteCells (endL a ++ endL ls)) v' w2) (hw : Wr (n0 + 1) v wr v' w2) : TS k n0 F w cs (a ++ ls) w2 F1 v' := by
  have hlt := h.lt
  refine ⟨by rw [endL_app]; exact hb, (h.safe.wr hw).1, h.below.trans (hw.1.mono (Nat.le_succ _)), h.fold, (hw.1.block n0 (Nat.lt_succ_self _)).trans h.box⟩
theorem TS.ext {k n0 : Nat} {F : Nat → Nat} {w : World} {cs : List Value} {a : List ByteArray} {wr : World} {F1 : Nat → Nat} {v : Value} (h : TS k n0 F w cs a wr F1 v) (hfin : ∀ b, 0 < F b → b < n0) : Ext F w F1 wr :=
  ⟨fun b => by
    rcases Nat.eq_zero_or_pos (F b) with c | c
    · omega
    · rw [h.fold b (hfin b c)]; exact Nat.le_refl _,
  fun b o u ho hu => (World.cell?_of_block (h.below.block b (hfin b (Nat.lt_of_le_of_lt (Nat.zero_le _) ho)))).trans hu⟩
theorem out_cells {F : Nat → Nat} {w : World} {x : El OutTy} {ds : List Value} (h : RepC F w OutTy x ds) : ∃ A2 c2 A3 c3 A4 c4, ds = [.int .i64 x.1, .int .i64 x.2.1, .slice A2 (List.length x.2.2.1) c2, .slice A3 (List.length x.2.2.2.1) c3, .slice A4 (List.length x.2.2.2.2.1) c4, .int .i64 x.2.2.2.2.2.1] := by
  obtain ⟨a0, b0, rfl, h0, a1, b1, rfl, h1, a2, b2, rfl, h2, a3, b3, rfl, h3, a4, b4, rfl, h4, a5, b5, rfl, h5, h6⟩ := h
  obtain ⟨A2, c2, rfl, _⟩ := h2
  obtain ⟨A3, c3, rfl, _⟩ := h3
  obtain ⟨A4, c4, rfl, _⟩ := h4
  rw [show a0 = _ from h0, show a1 = _ from h1, show a5 = _ from h5, show b5 = _ from h6]
  exact ⟨A2, c2, A3, c3, A4, c4, rfl⟩
theorem stepsO_snoc {k : Nat} {o : El OutTy} {ln : List ByteArray} (ho : output_Step_s.f k o = some ln) : ∀ {a : List (El OutTy)} {x : List ByteArray}, stepsO k a = some x → stepsO k (a ++ [o]) = some (x ++ ln)
  | [], x, h => by
    cases h
    rw [List.nil_append, stepsO, ho]
    show some (ln ++ []) = _
    rw [List.append_nil]
    rfl
  | p :: a, x, h => by
    rw [stepsO] at h
    obtain ⟨y, h1, h2⟩ := Option.bind_eq_some_iff.1 h
    obtain ⟨z, h3, h4⟩ := Option.bind_eq_some_iff.1 h2
    cases h4
    rw [List.cons_append, stepsO, h1]
    show (stepsO k (a ++ [o])).bind _ = _
    rw [stepsO_snoc ho h3, List.append_assoc]
    rfl
theorem alloc_ext {F : Nat → Nat} {w : World} (hf : ∀ b, 0 < F b → b < w.heap.size) (o : Obj) : Ext F w F (w.alloc o) :=
  Grow.ext ⟨(Below.refl _ w).alloc (Nat.le_refl _) o, fun _ _ => rfl⟩ hf
theorem st_cells {F : Nat → Nat} {w : World} {x : El StTy} {ds : List Value} (h : RepC F w StTy x ds) : ∃ (z0 z1 z2 : Int) (z3 : Bool) (z4 z5 : Int) (z6 : Bool) (z7 z8 z9 z10 : Int) (B1 : Option Addr) (m1 e1 : Nat) (B2 : Option Addr) (m2 e2 : Nat) (z13 : Int) (B3 : Option Addr) (m3 e3 : Nat),
    ds = [.int .i64 z0, .int .i64 z1, .int .i64 z2, .bool z3, .int .i64 z4, .int .i64 z5, .bool z6, .int .i64 z7, .int .i64 z8, .int .i64 z9, .int .i64 z10, .slice B1 m1 e1, .slice B2 m2 e2, .int .i64 z13, .slice B3 m3 e3] := by
  obtain ⟨a0, b0, rfl, h0, a1, b1, rfl, h1, a2, b2, rfl, h2, a3, b3, rfl, ⟨p0, r0, rfl, k0, p1, r1, rfl, k1, p2, r2, rfl, k2, k3⟩, a4, b4, rfl, ⟨p3, r3, rfl, ⟨u0, v0, rfl, j0, u1, v1, rfl, j1, u2, v2, rfl, j2, j3⟩, p4, r4, rfl, k4, p5, r5, rfl, k5, k6⟩, a5, b5, rfl, h5, a6, b6, rfl, h6, a7, b7, rfl, ⟨p6, r6, rfl, k7, p7, r7, rfl, k8, k9⟩, h8⟩ := h
  obtain ⟨B1, e1, rfl, _⟩ := h5
  obtain ⟨B2, e2, rfl, _⟩ := h6
  obtain ⟨B3, e3, rfl, _⟩ := k8
  rw [show a0 = _ from h0, show a1 = _ from h1, show a2 = _ from h2, show p0 = _ from k0, show p1 = _ from k1, show p2 = _ from k2, show r2 = _ from k3, show u0 = _ from j0, show u1 = _ from j1, show u2 = _ from j2, show v2 = _ from j3, show p4 = _ from k4, show p5 = _ from k5, show r5 = _ from k6, show p6 = _ from k7, show r7 = _ from k9, show b7 = _ from h8]
  exact ⟨_, _, _, _, _, _, _, _, _, _, _, _, _, _, _, _, _, _, _, _, _, rfl⟩
theorem string_calls (b : Nat) (l : List UInt8) (v : Value) (w : World) (h : BI b (Lib.byteCells l) v w) : Calls Tryz.prog 41 #[.pointer (some ⟨b, 0, none⟩)] w fun e w' => e = .returned (.string ⟨l.toArray⟩) ∧ Below b w w' := by
  obtain ⟨⟨p, hp, hb⟩, hown, hne⟩ := h
  have hlt := (Array.getElem?_eq_some_iff.1 hb).1
  have e5 : layJoin_ren.t 5 = 5 := by kernel_rfl
  have e72 : layJoin_ren.t 72 = 78 := by kernel_rfl
  have ef : layJoin_ren.f 169 = 41 := by kernel_rfl
  have hI : Lib.IsBuilderF (layJoin_ren.t 72) (layJoin_ren.t 5) b b (Lib.byteCells l) w := by
    rw [e5, e72]
    rcases hp with rfl | rfl
    · exact .inl ⟨Nat.le_refl _, v, hb, hown, hne⟩
    · exact .inr ⟨Nat.le_refl _, v, hb, hown, hne⟩
  have g := Go.Proofs.Any.Builder_String_any_k { layJoin with } layJoinX b b l w hI (Nat.le_of_lt hlt)
  rw [ef] at g
  exact g.mono fun e w' q => ⟨q.1, q.2.2.1⟩
theorem text_calls (k : Nat) (F : Nat → Nat) (w : World) (lv sv : Value) (l : List (El OutTy)) (s : El StTy) (r : ByteArray) (hL : Laid Tryz.prog w) (hfin : ∀ b, 0 < F b → b < w.heap.size) (hl : RepV F w (.sl OutTy) l lv) (hs : RepV F w StTy s sv) (hy : output_Text.f k l s = some r) :
    Calls Tryz.prog 16 #[lv, sv] w fun e w' => e = .returned (.string r) ∧ ∃ F', Grow F w F' w' ∧ (∀ b, 0 < F' b → b < w'.heap.size) := by
  obtain ⟨A, c, rfl, hlc, hrow⟩ := rep_sl hl
  obtain ⟨cs, hcs, rfl⟩ := hs
  rw [show pack StTy cs = .agg cs.toArray from rfl]
  obtain ⟨n0, hn0⟩ : ∃ n, w.heap.size = n := ⟨_, rfl⟩
  unfold output_Text.f at hy
  obtain ⟨al, hy1, hy2⟩ := Option.bind_eq_some_iff.1 hy
  obtain ⟨bl, hy3, hy4⟩ := Option.bind_eq_some_iff.1 hy2
  split at hy4
  case isFalse => cases hy4
  rename_i hlim
  obtain rfl := Option.some.inj hy4
  refine calls_of_wp Tryz.func16 rfl ?_
  simp only [Tryz.ntmps16, List.size_toArray, List.length_cons, List.length_nil, Nat.reduceAdd, Nat.reduceSub, Array.replicate_succ, Array.replicate_zero, List.push_toArray, List.append_toArray, List.nil_append, List.cons_append]
  go_wp2
  generalize hW : World.alloc _ _ = W1
  have h0 : TS k n0 F w cs [] W1 F (.slice none 0 0) := by
    subst hn0
    rw [← hW]
    refine ⟨⟨⟨.pointer none, .inl rfl, ?_⟩, ?_, ?_⟩, fun k hk => ?_, ?_, fun _ _ => rfl, ?_⟩
    · exact heap_alloc_new (w.alloc (.cells cs.toArray 45)) _ |> fun e => by rwa [World.size_alloc] at e
    · exact World.ownsRowF_nil _ _ _ _
    · simp [Value.ownBlock]
    · have := hfin k hk
      exact ⟨by rw [World.size_alloc, World.size_alloc]; omega, by omega, by simp [Value.ownBlock]⟩
    · exact ((Below.refl _ w).alloc (Nat.le_refl _) _).alloc (by rw [World.size_alloc]; omega) _
    · rw [Below.heap_alloc _ _ _ (by rw [World.size_alloc]; omega)]
      exact heap_alloc_new w _
  clear hW
  go_loopw [12] (fun p wr => ∃ (i : Nat) (F1 : Nat → Nat) (v : Value) (a : List ByteArray), p = .int .i64 i ∧ i ≤ l.length ∧ stepsO k (l.take i) = some a ∧ TS k n0 F w cs a wr F1 v) (fun p _ => l.length - (intOf p).toNat)
  case atStart => exact ⟨0, F, _, [], rfl, Nat.zero_le _, rfl, h0⟩
  case round =>
    obtain ⟨i, F1, v, a, rfl, hi, ha, hT⟩ := hrel
    rcases Nat.lt_or_ge i l.length with hlt | hge
    · obtain ⟨blk, o, rfl, hF, hcell⟩ := hrow (Nat.lt_of_le_of_lt (Nat.zero_le _) hlt)
      obtain ⟨ds, hd, hd2⟩ := hcell i l[i] (List.getElem?_eq_getElem hlt)
      have hcond : (i : Int) < (l.length : Int) := by omega
      have hfin0 : ∀ b, 0 < F b → b < n0 := fun b hb => by have := hfin b hb; omega
      have hE := hT.ext hfin0
      obtain ⟨A2, c2, A3, c3, A4, c4, rfl⟩ := out_cells hd
      generalize List.length l[i].2.2.1 = m2, List.length l[i].2.2.2.1 = m3, List.length l[i].2.2.2.2.1 = m4, l[i].1 = x0, l[i].2.1 = x1, l[i].2.2.2.2.2.1 = x5 at hd2 hd
      have hcc0 := hd2
      have hcc : ∀ (j : Nat) (u : Value), [Value.int .i64 x0, .int .i64 x1, .slice A2 m2 c2, .slice A3 m3 c3, .slice A4 m4 c4, .int .i64 x5][j]? = some u → wr.cell? ⟨blk, o + i * 6 + j, none⟩ = some u := fun j u hj => by
        refine hE.same blk _ u ?_ (hd2 j u hj)
        have h1 := (List.getElem?_eq_some_iff.1 hj).1
        have h3 : i * 6 + 6 ≤ l.length * 6 := by rw [← Nat.succ_mul]; exact Nat.mul_le_mul_right _ hlt
        have h4 : o + l.length * 6 ≤ F blk := hF
        simp only [List.length_cons, List.length_nil] at h1
        omega
      have q0 : wr.cell? ⟨blk, o + i * 6, none⟩ = _ := hcc 0 _ rfl
      have q1 := hcc 1 _ rfl
      have q2 := hcc 2 _ rfl
      have q3 := hcc 3 _ rfl
      have q4 := hcc 4 _ rfl
      have q5 := hcc 5 _ rfl
      have hsp : l = l.take i ++ (l[i] :: l.drop (i + 1)) := by rw [← List.drop_eq_getElem_cons hlt, List.take_append_drop]
      obtain ⟨a', y, hs1, hs2, hs3⟩ := stepsO_app (hsp ▸ hy1)
      obtain rfl : a' = a := Option.some.inj (hs1.symm.trans ha)
      rw [stepsO] at hs2
      obtain ⟨ln, hln, hs4⟩ := Option.bind_eq_some_iff.1 hs2
      obtain ⟨rest, _, hs5⟩ := Option.bind_eq_some_iff.1 hs4
      cases hs5
      have hlen : (endL a').length + (endL ln).length ≤ 1099511627776 := by
        have h1 := hlim.1
        rw [hs3, endL_app, endL_app, endL_app, List.length_append, List.length_append, List.length_append] at h1
        omega
      have hT3 := hT.alloc (.cells #[.int .i64 x0, .int .i64 x1, .slice A2 m2 c2, .slice A3 m3 c3, .slice A4 m4 c4, .int .i64 x5] 28)
      have hrep : RepV F1 (wr.alloc (.cells #[.int .i64 x0, .int .i64 x1, .slice A2 m2 c2, .slice A3 m3 c3, .slice A4 m4 c4, .int .i64 x5] 28)) OutTy l[i] (.agg #[.int .i64 x0, .int .i64 x1, .slice A2 m2 c2, .slice A3 m3 c3, .slice A4 m4 c4, .int .i64 x5]) :=
        ⟨_, (hd.ext hE).ext (alloc_ext (fun b hb => (hT.safe b hb).1) _), rfl⟩
      have hbm : ∀ X, Below n0 w X → BelowM (fun _ => False) w X := fun X hb => ⟨hb.os, hb.tape, hb.output, hb.size, fun k hk _ => hb.block k (by omega)⟩
      have hL3 : ∀ X, Below n0 w X → Laid Tryz.prog X := fun X hb => hL.below (fun _ q => q.elim) (hbm X hb)
      clear hsp hs1 hs2 hs4
      clear hs3
      go_wp2_with first
        | (go_at_call 39; refine (output_Step_s.ok.calls k _ F1 [_] (l[i], ()) ln (hL3 _ hT3.below) (fun b hb => (hT3.safe b hb).1) ⟨_, _, rfl, hrep, rfl⟩ hln).mono ?_; rintro e w2 ⟨lv2, F2, rfl, hg, hf2, hr2⟩; have hT4 := hT3.grow hg hf2)
        | (go_at_call 36; refine (put_calls F2 (n0 + 1) (endL a') v lv2 ln _ hT4.bi hT4.safe hr2.1 hlen).mono ?_; rintro e w3 ⟨⟨r3, rfl⟩, v', hB', hW'⟩; have hT5 := hT4.put hB' hW')
      exact ⟨⟨i + 1, F2, v', a' ++ ln, rfl, hlt, by rw [List.take_add_one, List.getElem?_eq_getElem hlt]; exact stepsO_snoc hln ha, hT5⟩, Nat.sub_lt_sub_left hlt (Nat.lt_succ_self i)⟩
    · obtain rfl : i = l.length := Nat.le_antisymm hi hge
      rw [List.take_length] at ha
      obtain rfl : al = a := Option.some.inj (hy1.symm.trans ha)
      have hE := hT.ext (fun b hb => by have := hfin b hb; omega)
      have hbm : ∀ X, Below n0 w X → BelowM (fun _ => False) w X := fun X hb => ⟨hb.os, hb.tape, hb.output, hb.size, fun k hk _ => hb.block k (by omega)⟩
      have hL3 : ∀ X, Below n0 w X → Laid Tryz.prog X := fun X hb => hL.below (fun _ q => q.elim) (hbm X hb)
      obtain ⟨z0, z1, z2, z3, z4, z5, z6, z7, z8, z9, z10, B1, m1, e1, B2, m2, e2, z13, B3, m3, e3, rfl⟩ := st_cells hcs
      have hrep : RepV F1 wr StTy s (.agg #[.int .i64 z0, .int .i64 z1, .int .i64 z2, .bool z3, .int .i64 z4, .int .i64 z5, .bool z6, .int .i64 z7, .int .i64 z8, .int .i64 z9, .int .i64 z10, .slice B1 m1 e1, .slice B2 m2 e2, .int .i64 z13, .slice B3 m3 e3]) := ⟨_, hcs.ext hE, rfl⟩
      have hbx := hT.box
      have q0 := bcell (o := 0) hbx rfl
      have q1 := bcell (o := 1) hbx rfl
      have q2 := bcell (o := 2) hbx rfl
      have q3 := bcell (o := 3) hbx rfl
      have q4 := bcell (o := 4) hbx rfl
      have q5 := bcell (o := 5) hbx rfl
      have q6 := bcell (o := 6) hbx rfl
      have q7 := bcell (o := 7) hbx rfl
      have q8 := bcell (o := 8) hbx rfl
      have q9 := bcell (o := 9) hbx rfl
      have q10 := bcell (o := 10) hbx rfl
      have q11 := bcell (o := 11) hbx rfl
      have q12 := bcell (o := 12) hbx rfl
      have q13 := bcell (o := 13) hbx rfl
      have q14 := bcell (o := 14) hbx rfl
      clear hy1 hy ha hbx
      have hlen : (endL al).length + (endL bl).length ≤ 1099511627776 := by
        have h1 := hlim.1
        rw [endL_app, List.length_append] at h1
        exact h1
      go_wp2_with first
        | (go_at_call 40; refine (output_State_s.ok.calls k _ F1 [_] (s, ()) bl (hL3 _ hT.below) (fun b hb => (hT.safe b hb).1) ⟨_, _, rfl, hrep, rfl⟩ hy3).mono ?_; rintro e w2 ⟨lv2, F2, rfl, hg, hf2, hr2⟩; have hT4 := hT.grow hg hf2)
        | (go_at_call 36; refine (put_calls F2 (n0 + 1) (endL al) v lv2 bl _ hT4.bi hT4.safe hr2.1 hlen).mono ?_; rintro e w3 ⟨⟨r3, rfl⟩, v', hB', hW'⟩; have hT5 := hT4.put hB' hW')
        | (go_at_call 41; refine (string_calls (n0 + 1) (endL (al ++ bl)) v' _ hT5.bi).mono ?_; rintro e w4 ⟨rfl, hb4⟩)
      go_ret
      exact ⟨rfl, F, ⟨by rw [hn0]; exact hT5.below.trans (hb4.mono (Nat.le_succ _)), fun _ _ => rfl⟩, fun b hb => Nat.lt_of_lt_of_le (hfin b hb) (Nat.le_trans hT5.below.size hb4.size)⟩
def output_Text.c : Sym.Callee := ⟨(.cons (.sl OutTy) (.cons StTy .nil)), .str, false, El .str, fun k x => output_Text.f k x.1 x.2.1, fun y => y, []⟩
theorem output_Text.ok : CalleeOk Tryz.prog 16 output_Text.c where
  enter := enter_of Tryz.func16 rfl (by kernel_rfl)
  calls k w F vs x y hL hfin hx hy := by
    obtain ⟨v1, us, rfl, h1, v2, us2, rfl, h2, rfl⟩ := hx
    obtain ⟨l, s, _⟩ := x
    refine (text_calls k F w v1 v2 l s y hL hfin h1 h2 hy).mono ?_
    rintro e w' ⟨rfl, F', hg, hf⟩
    exact ⟨_, F', rfl, hg, hf, repR_one mk_str⟩
end
def trace_All.l3 : Nat → (List ByteArray) → (List (Int × Int × (List Int) × (List Bool) × (List (Int × Int × Int × Unit)) × Int × Unit)) → Int → Option ((List (Int × Int × (List Int) × (List Bool) × (List (Int × Int × Int × Unit)) × Int × Unit)) × Int × Unit)
  | 0, _, _, _ => none
  | k + 1, x0, x4, x5 => (if 0 ≤ x5 then (if x5 ≤ (x0.length : Int) then ((trace_One.f k (x0.drop (x5).toNat)).bind fun t1 => (if t1.2.1 = (0 : Int) then (some (x4, x5, ())) else (if (x4.length + [t1.1].length) * 96 ≤ 140737488355328 then (trace_All.l3 k x0 (x4 ++ [t1.1]) (wrap64 (x5 + t1.2.1))) else none))) else none) else none)
def trace_All.f (k : Nat) (a0 : List ByteArray) : Option ((List (Int × Int × (List Int) × (List Bool) × (List (Int × Int × Int × Unit)) × Int × Unit)) × Int × Unit) := (trace_All.l3 k a0 ([] : List (Int × Int × (List Int) × (List Bool) × (List (Int × Int × Int × Unit)) × Int × Unit)) (0 : Int))
def trace_All.c : Sym.Callee := ⟨(.cons (.sl .str) .nil), (.cons (.sl (.cons (.int .i64) (.cons (.int .i64) (.cons (.sl (.int .i64)) (.cons (.sl .bool) (.cons (.sl (.cons (.int .i64) (.cons (.int .i64) (.cons (.int .i64) .nil)))) (.cons (.int .i64) .nil))))))) (.cons (.int .i64) .nil)), true, El (.cons (.sl (.cons (.int .i64) (.cons (.int .i64) (.cons (.sl (.int .i64)) (.cons (.sl .bool) (.cons (.sl (.cons (.int .i64) (.cons (.int .i64) (.cons (.int .i64) .nil)))) (.cons (.int .i64) .nil))))))) (.cons (.int .i64) .nil)), fun k x => trace_All.f k x.1, fun y => y, []⟩
noncomputable def trace_All.E : Env (El (.cons (.sl (.cons (.int .i64) (.cons (.int .i64) (.cons (.sl (.int .i64)) (.cons (.sl .bool) (.cons (.sl (.cons (.int .i64) (.cons (.int .i64) (.cons (.int .i64) .nil)))) (.cons (.int .i64) .nil))))))) (.cons (.int .i64) .nil))) := envOf tab Tryz.f8 true (.cons (.sl (.cons (.int .i64) (.cons (.int .i64) (.cons (.sl (.int .i64)) (.cons (.sl .bool) (.cons (.sl (.cons (.int .i64) (.cons (.int .i64) (.cons (.int .i64) .nil)))) (.cons (.int .i64) .nil))))))) (.cons (.int .i64) .nil)) [] (fun y => y) [(6, trace_One.c)] [⟨3, ⟨26, [(0, (.sl .str), []), (4, (.sl (.cons (.int .i64) (.cons (.int .i64) (.cons (.sl (.int .i64)) (.cons (.sl .bool) (.cons (.sl (.cons (.int .i64) (.cons (.int .i64) (.cons (.int .i64) .nil)))) (.cons (.int .i64) .nil))))))), [⟨0, 5, 28, 6⟩]), (5, (.int .i64), [])], [], []⟩, fun k y => trace_All.l3 k y.1.1 y.1.2.1 y.1.2.2.1⟩] []
theorem trace_All.h1 : (obls trace_All.E Tryz.f8).map Ob.left = (obls trace_All.E Tryz.f8).map Ob.right := by kernel_rfl
theorem trace_All.h2 : (fun k x => trace_All.c.fn k x) = fun k x => mainK trace_All.E Tryz.f8 trace_All.c.dom k x := by kernel_rfl
theorem trace_All.ok : CalleeOk Tryz.prog 8 trace_All.c := fn_ok tabOk mixed (fun _ => rfl) Tryz.func8 rfl (by kernel_rfl) (ok_cons trace_One.ok ok_nil) (.of_eq trace_All.h1) (fun k x _ h => (congrFun (congrFun trace_All.h2 k) x).symm.trans h)
def trace_Text.f (k : Nat) (a0 : ByteArray) : Option ((List (Int × Int × (List Int) × (List Bool) × (List (Int × Int × Int × Unit)) × Int × Unit)) × (List ByteArray) × Int × Unit) := (if a0.toList = (⟨#[]⟩ : ByteArray).toList then (some (([] : List (Int × Int × (List Int) × (List Bool) × (List (Int × Int × Int × Unit)) × Int × Unit)), ([] : List ByteArray), (0 : Int), ())) else ((strings_CutSuffix.f a0 (⟨#[10]⟩ : ByteArray)).bind fun t1 => (if (!t1.2) = true then (some (([] : List (Int × Int × (List Int) × (List Bool) × (List (Int × Int × Int × Unit)) × Int × Unit)), ([] : List ByteArray), (2 : Int), ())) else ((strings_Split.f k t1.1 (⟨#[10]⟩ : ByteArray)).bind fun t2 => ((trace_All.f k t2).bind fun t3 => (if 0 ≤ t3.2.1 then (if t3.2.1 ≤ (t2.length : Int) then (some (t3.1, (t2.drop (t3.2.1).toNat), (0 : Int), ())) else none) else none))))))
def trace_Text.c : Sym.Callee := ⟨(.cons .str .nil), (.cons (.sl (.cons (.int .i64) (.cons (.int .i64) (.cons (.sl (.int .i64)) (.cons (.sl .bool) (.cons (.sl (.cons (.int .i64) (.cons (.int .i64) (.cons (.int .i64) .nil)))) (.cons (.int .i64) .nil))))))) (.cons (.sl .str) (.cons (.int .i64) .nil))), true, El (.cons (.sl (.cons (.int .i64) (.cons (.int .i64) (.cons (.sl (.int .i64)) (.cons (.sl .bool) (.cons (.sl (.cons (.int .i64) (.cons (.int .i64) (.cons (.int .i64) .nil)))) (.cons (.int .i64) .nil))))))) (.cons (.sl .str) (.cons (.int .i64) .nil))), fun k x => trace_Text.f k x.1, fun y => y, []⟩
noncomputable def trace_Text.E : Env (El (.cons (.sl (.cons (.int .i64) (.cons (.int .i64) (.cons (.sl (.int .i64)) (.cons (.sl .bool) (.cons (.sl (.cons (.int .i64) (.cons (.int .i64) (.cons (.int .i64) .nil)))) (.cons (.int .i64) .nil))))))) (.cons (.sl .str) (.cons (.int .i64) .nil)))) := envOf tab Tryz.f17 true (.cons (.sl (.cons (.int .i64) (.cons (.int .i64) (.cons (.sl (.int .i64)) (.cons (.sl .bool) (.cons (.sl (.cons (.int .i64) (.cons (.int .i64) (.cons (.int .i64) .nil)))) (.cons (.int .i64) .nil))))))) (.cons (.sl .str) (.cons (.int .i64) .nil))) [] (fun y => y) [(42, strings_CutSuffix.c), (43, strings_Split.c), (8, trace_All.c)] [] []
theorem trace_Text.h1 : (obls trace_Text.E Tryz.f17).map Ob.left = (obls trace_Text.E Tryz.f17).map Ob.right := by kernel_rfl
theorem trace_Text.h2 : (fun k x => trace_Text.c.fn k x) = fun k x => mainK trace_Text.E Tryz.f17 trace_Text.c.dom k x := by kernel_rfl
theorem trace_Text.ok : CalleeOk Tryz.prog 17 trace_Text.c := fn_ok tabOk mixed (fun _ => rfl) Tryz.func17 rfl (by kernel_rfl) (ok_cons strings_CutSuffix.ok (ok_cons strings_Split.ok (ok_cons trace_All.ok ok_nil))) (.of_eq trace_Text.h1) (fun k x _ h => (congrFun (congrFun trace_Text.h2 k) x).symm.trans h)
def regimenref01_Same.c : Sym.Callee := ⟨(.cons (.sl (.int .i64)) (.cons (.sl (.int .i64)) .nil)), .bool, false, Bool, fun k x => regimenref01_Same.f k x.1 x.2.1, fun z => z, []⟩
def regimenref01_Same.nl0 (k : Nat) (x0 : List Int) (x1 : List Int) (x5 : Int) : Option (Bool) := (if x5 < (x0.length : Int) then (if 0 ≤ x5 then (if x5 < (x0.length : Int) then (if 0 ≤ x5 then (if x5 < (x1.length : Int) then (if (x0.getD (x5).toNat 0) = (x1.getD (x5).toNat 0) then (regimenref01_Same.l0 k x0 x1 (wrap64 (x5 + (1 : Int)))) else (some false)) else none) else none) else none) else none) else (some true))
def regimenref01_Same.nf (k : Nat) (a0 : List Int) (a1 : List Int) : Option (Bool) := (if (a0.length : Int) = (a1.length : Int) then (regimenref01_Same.l0 k a0 a1 (0 : Int)) else (some false))
noncomputable def regimenref01_Same.E : Env (Bool) := envOf tab Tryz.f29 false .bool [] (fun y => y) [] [⟨4, ⟨26, [(0, (.sl (.int .i64)), []), (1, (.sl (.int .i64)), []), (5, (.int .i64), [])], [], []⟩, fun k y => regimenref01_Same.l0 k y.1.1 y.1.2.1 y.1.2.2.1⟩] []
theorem regimenref01_Same.h1 : obls regimenref01_Same.E Tryz.f29 = [⟨(.cons (.cons (.sl (.int .i64)) (.cons (.sl (.int .i64)) (.cons (.int .i64) .nil))) (.cons .nil (.cons .nil .nil))), fun k y => regimenref01_Same.l0 (k + 1) y.1.1 y.1.2.1 y.1.2.2.1, fun k y => regimenref01_Same.nl0 k y.1.1 y.1.2.1 y.1.2.2.1⟩, ⟨(.cons (.cons (.sl (.int .i64)) (.cons (.sl (.int .i64)) (.cons (.int .i64) .nil))) (.cons .nil (.cons .nil .nil))), fun _ y => regimenref01_Same.l0 0 y.1.1 y.1.2.1 y.1.2.2.1, fun _ _ => none⟩] := by kernel_rfl
theorem regimenref01_Same.h2 : (fun k (x : El (.cons (.sl (.int .i64)) (.cons (.sl (.int .i64)) .nil))) => regimenref01_Same.nf k x.1 x.2.1) = fun k x => mainK regimenref01_Same.E Tryz.f29 (.cons (.sl (.int .i64)) (.cons (.sl (.int .i64)) .nil)) k x := by kernel_rfl
theorem regimenref01_Same.bl0 (k : Nat) (x0 : List Int) (x1 : List Int) (x5 : Int) : Lo (regimenref01_Same.l0 (k + 1) x0 x1 x5) (regimenref01_Same.nl0 k x0 x1 x5) := by
  rw [regimenref01_Same.l0]
  unfold regimenref01_Same.nl0
  try simp only [Bool.false_xor, Bool.true_xor, wu8_64, wu8_u64, byL_nums, btS_bt, nil_tl, beq_decL, beq_decI]
  repeat' first
    | (with_reducible exact lo_refl _)
    | exact lo_none _
    | (with_reducible refine lo_ite (fun _ => ?_) (fun _ => ?_))
    | (with_reducible refine lo_bind (fun _ => ?_))
    | (with_reducible refine lo_left ?_)
    | (refine lo_pos (by first | assumption | omega) ?_)
    | (refine lo_neg (by first | assumption | omega) ?_)
    | (with_reducible refine lo_test (fun _ => by first | assumption | omega) (fun _ => ?_))
    | exact lo_refl _
    | refine lo_ite (fun _ => ?_) (fun _ => ?_)
    | refine lo_bind (fun _ => ?_)
    | (refine lo_some ?_; first | rfl | (rw [Bool.false_xor]; rfl))
  all_goals (exfalso; first | omega | (simp_all; done) | (simp_all; omega))
set_option maxHeartbeats 2000000 in
theorem regimenref01_Same.bf (k : Nat) (a0 : List Int) (a1 : List Int) : Lo (regimenref01_Same.f k a0 a1) (regimenref01_Same.nf k a0 a1) := by
  unfold regimenref01_Same.f regimenref01_Same.nf
  try simp only [Bool.false_xor, Bool.true_xor, wu8_64, wu8_u64, byL_nums, btS_bt, nil_tl, beq_decL, beq_decI]
  repeat' first
    | (with_reducible exact lo_refl _)
    | exact lo_none _
    | (with_reducible refine lo_ite (fun _ => ?_) (fun _ => ?_))
    | (with_reducible refine lo_bind (fun _ => ?_))
    | (with_reducible refine lo_left ?_)
    | (refine lo_pos (by first | assumption | omega) ?_)
    | (refine lo_neg (by first | assumption | omega) ?_)
    | (with_reducible refine lo_test (fun _ => by first | assumption | omega) (fun _ => ?_))
    | exact lo_refl _
    | refine lo_ite (fun _ => ?_) (fun _ => ?_)
    | refine lo_bind (fun _ => ?_)
    | (refine lo_some ?_; first | rfl | (rw [Bool.false_xor]; rfl))
  all_goals (exfalso; first | omega | (simp_all; done) | (simp_all; omega))
theorem regimenref01_Same.al : AllLe (obls regimenref01_Same.E Tryz.f29) := by
  rw [regimenref01_Same.h1]
  exact (.cons (fun k y r h => regimenref01_Same.bl0 k y.1.1 y.1.2.1 y.1.2.2.1 r h) (.cons (fun _ y r h => by simp [regimenref01_Same.l0] at h) .nil))
theorem regimenref01_Same.ok : CalleeOk Tryz.prog 29 regimenref01_Same.c := fn_ok tabOk mixed (fun _ => rfl) Tryz.func29 rfl (by kernel_rfl) ok_nil regimenref01_Same.al (fun k x r h => (congrFun (congrFun regimenref01_Same.h2 k) x).symm.trans (regimenref01_Same.bf k _ _ r h))
def regimenref27_Same_s.l4 : Nat → (List (Int × Int × Int × Unit)) → (List (Int × Int × Int × Unit)) → Int → Option Bool
  | 0, _, _, _ => none
  | k + 1, x0, x1, x5 => (if x5 < (x0.length : Int) then (if 0 ≤ x5 then (if x5 < (x0.length : Int) then (if 0 ≤ x5 then (if x5 < (x1.length : Int) then (if (!((decide ((x0.getD (x5).toNat (0, 0, 0, ())).1 = (x1.getD (x5).toNat (0, 0, 0, ())).1)) && ((decide ((x0.getD (x5).toNat (0, 0, 0, ())).2.1 = (x1.getD (x5).toNat (0, 0, 0, ())).2.1)) && ((decide ((x0.getD (x5).toNat (0, 0, 0, ())).2.2.1 = (x1.getD (x5).toNat (0, 0, 0, ())).2.2.1)) && true)))) = true then (some false) else (regimenref27_Same_s.l4 k x0 x1 (wrap64 (x5 + (1 : Int))))) else none) else none) else none) else none) else (some true))
def regimenref27_Same_s.f (k : Nat) (a0 : List (Int × Int × Int × Unit)) (a1 : List (Int × Int × Int × Unit)) : Option Bool := (if (a0.length : Int) = (a1.length : Int) then (regimenref27_Same_s.l4 k a0 a1 (0 : Int)) else (some false))
def regimenref27_Same_s.c : Sym.Callee := ⟨(.cons (.sl (.cons (.int .i64) (.cons (.int .i64) (.cons (.int .i64) .nil)))) (.cons (.sl (.cons (.int .i64) (.cons (.int .i64) (.cons (.int .i64) .nil)))) .nil)), .bool, false, El .bool, fun k x => regimenref27_Same_s.f k x.1 x.2.1, fun y => y, []⟩
noncomputable def regimenref27_Same_s.E : Env (El .bool) := envOf tab Tryz.f30 false .bool [] (fun y => y) [] [⟨4, ⟨26, [(0, (.sl (.cons (.int .i64) (.cons (.int .i64) (.cons (.int .i64) .nil)))), []), (1, (.sl (.cons (.int .i64) (.cons (.int .i64) (.cons (.int .i64) .nil)))), []), (5, (.int .i64), [])], [], []⟩, fun k y => regimenref27_Same_s.l4 k y.1.1 y.1.2.1 y.1.2.2.1⟩] []
theorem regimenref27_Same_s.h1 : (obls regimenref27_Same_s.E Tryz.f30).map Ob.left = (obls regimenref27_Same_s.E Tryz.f30).map Ob.right := by kernel_rfl
theorem regimenref27_Same_s.h2 : (fun k x => regimenref27_Same_s.c.fn k x) = fun k x => mainK regimenref27_Same_s.E Tryz.f30 regimenref27_Same_s.c.dom k x := by kernel_rfl
theorem regimenref27_Same_s.ok : CalleeOk Tryz.prog 30 regimenref27_Same_s.c := fn_ok tabOk mixed (fun _ => rfl) Tryz.func30 rfl (by kernel_rfl) ok_nil (.of_eq regimenref27_Same_s.h1) (fun k x _ h => (congrFun (congrFun regimenref27_Same_s.h2 k) x).symm.trans h)
def regimenref38_Same_s.l4 : Nat → Int → (Int × Int × (List Int) × (List Bool) × (List (Int × Int × Int × Unit)) × Int × Unit) → (Int × Int × (List Int) × (List Bool) × (List (Int × Int × Int × Unit)) × Int × Unit) → Option Bool
  | 0, _, _, _ => none
  | k + 1, x5, b2, b3 => (if x5 < (b2.2.2.2.1.length : Int) then (if 0 ≤ x5 then (if x5 < (b2.2.2.2.1.length : Int) then (if 0 ≤ x5 then (if x5 < (b3.2.2.2.1.length : Int) then (if (b2.2.2.2.1.getD (x5).toNat false) = (b3.2.2.2.1.getD (x5).toNat false) then (regimenref38_Same_s.l4 k (wrap64 (x5 + (1 : Int))) b2 b3) else (some false)) else none) else none) else none) else none) else ((regimenref01_Same.f k b2.2.2.1 b3.2.2.1).bind fun t1 => (if t1 = true then ((regimenref27_Same_s.f k b2.2.2.2.2.1 b3.2.2.2.2.1).bind fun t2 => (some t2)) else (some false))))
def regimenref38_Same_s.f (k : Nat) (a0 : Int × Int × (List Int) × (List Bool) × (List (Int × Int × Int × Unit)) × Int × Unit) (a1 : Int × Int × (List Int) × (List Bool) × (List (Int × Int × Int × Unit)) × Int × Unit) : Option Bool := (if a0.1 = a1.1 then (if a0.2.1 = a1.2.1 then (if a0.2.2.2.2.2.1 = a1.2.2.2.2.2.1 then (if (a0.2.2.2.1.length : Int) = (a1.2.2.2.1.length : Int) then (regimenref38_Same_s.l4 k (0 : Int) a0 a1) else (some false)) else (some false)) else (some false)) else (some false))
def regimenref38_Same_s.c : Sym.Callee := ⟨(.cons (.cons (.int .i64) (.cons (.int .i64) (.cons (.sl (.int .i64)) (.cons (.sl .bool) (.cons (.sl (.cons (.int .i64) (.cons (.int .i64) (.cons (.int .i64) .nil)))) (.cons (.int .i64) .nil)))))) (.cons (.cons (.int .i64) (.cons (.int .i64) (.cons (.sl (.int .i64)) (.cons (.sl .bool) (.cons (.sl (.cons (.int .i64) (.cons (.int .i64) (.cons (.int .i64) .nil)))) (.cons (.int .i64) .nil)))))) .nil)), .bool, false, El .bool, fun k x => regimenref38_Same_s.f k x.1 x.2.1, fun y => y, []⟩
noncomputable def regimenref38_Same_s.E : Env (El .bool) := envOf tab Tryz.f10 false .bool [] (fun y => y) [(29, regimenref01_Same.c), (30, regimenref27_Same_s.c)] [⟨4, ⟨64, [(5, (.int .i64), [])], [(2, (.cons (.int .i64) (.cons (.int .i64) (.cons (.sl (.int .i64)) (.cons (.sl .bool) (.cons (.sl (.cons (.int .i64) (.cons (.int .i64) (.cons (.int .i64) .nil)))) (.cons (.int .i64) .nil)))))), []), (3, (.cons (.int .i64) (.cons (.int .i64) (.cons (.sl (.int .i64)) (.cons (.sl .bool) (.cons (.sl (.cons (.int .i64) (.cons (.int .i64) (.cons (.int .i64) .nil)))) (.cons (.int .i64) .nil)))))), [])], []⟩, fun k y => regimenref38_Same_s.l4 k y.1.1 y.2.1.1 y.2.1.2.1⟩] []
theorem regimenref38_Same_s.h1 : (obls regimenref38_Same_s.E Tryz.f10).map Ob.left = (obls regimenref38_Same_s.E Tryz.f10).map Ob.right := by kernel_rfl
theorem regimenref38_Same_s.h2 : (fun k x => regimenref38_Same_s.c.fn k x) = fun k x => mainK regimenref38_Same_s.E Tryz.f10 regimenref38_Same_s.c.dom k x := by kernel_rfl
theorem regimenref38_Same_s.ok : CalleeOk Tryz.prog 10 regimenref38_Same_s.c := fn_ok tabOk mixed (fun _ => rfl) Tryz.func10 rfl (by kernel_rfl) (ok_cons regimenref01_Same.ok (ok_cons regimenref27_Same_s.ok ok_nil)) (.of_eq regimenref38_Same_s.h1) (fun k x _ h => (congrFun (congrFun regimenref38_Same_s.h2 k) x).symm.trans h)
def regimenref39_Same_s.l4 : Nat → (List (Int × Int × (List Int) × (List Bool) × (List (Int × Int × Int × Unit)) × Int × Unit)) → (List (Int × Int × (List Int) × (List Bool) × (List (Int × Int × Int × Unit)) × Int × Unit)) → Int → Option Bool
  | 0, _, _, _ => none
  | k + 1, x0, x1, x5 => (if x5 < (x0.length : Int) then (if 0 ≤ x5 then (if x5 < (x0.length : Int) then (if 0 ≤ x5 then (if x5 < (x1.length : Int) then ((regimenref38_Same_s.f k (x0.getD (x5).toNat (0, 0, ([] : List Int), ([] : List Bool), ([] : List (Int × Int × Int × Unit)), 0, ())) (x1.getD (x5).toNat (0, 0, ([] : List Int), ([] : List Bool), ([] : List (Int × Int × Int × Unit)), 0, ()))).bind fun t1 => (if (!t1) = true then (some false) else (regimenref39_Same_s.l4 k x0 x1 (wrap64 (x5 + (1 : Int)))))) else none) else none) else none) else none) else (some true))
def regimenref39_Same_s.f (k : Nat) (a0 : List (Int × Int × (List Int) × (List Bool) × (List (Int × Int × Int × Unit)) × Int × Unit)) (a1 : List (Int × Int × (List Int) × (List Bool) × (List (Int × Int × Int × Unit)) × Int × Unit)) : Option Bool := (if (a0.length : Int) = (a1.length : Int) then (regimenref39_Same_s.l4 k a0 a1 (0 : Int)) else (some false))
def regimenref39_Same_s.c : Sym.Callee := ⟨(.cons (.sl (.cons (.int .i64) (.cons (.int .i64) (.cons (.sl (.int .i64)) (.cons (.sl .bool) (.cons (.sl (.cons (.int .i64) (.cons (.int .i64) (.cons (.int .i64) .nil)))) (.cons (.int .i64) .nil))))))) (.cons (.sl (.cons (.int .i64) (.cons (.int .i64) (.cons (.sl (.int .i64)) (.cons (.sl .bool) (.cons (.sl (.cons (.int .i64) (.cons (.int .i64) (.cons (.int .i64) .nil)))) (.cons (.int .i64) .nil))))))) .nil)), .bool, false, El .bool, fun k x => regimenref39_Same_s.f k x.1 x.2.1, fun y => y, []⟩
noncomputable def regimenref39_Same_s.E : Env (El .bool) := envOf tab Tryz.f11 false .bool [] (fun y => y) [(10, regimenref38_Same_s.c)] [⟨4, ⟨27, [(0, (.sl (.cons (.int .i64) (.cons (.int .i64) (.cons (.sl (.int .i64)) (.cons (.sl .bool) (.cons (.sl (.cons (.int .i64) (.cons (.int .i64) (.cons (.int .i64) .nil)))) (.cons (.int .i64) .nil))))))), []), (1, (.sl (.cons (.int .i64) (.cons (.int .i64) (.cons (.sl (.int .i64)) (.cons (.sl .bool) (.cons (.sl (.cons (.int .i64) (.cons (.int .i64) (.cons (.int .i64) .nil)))) (.cons (.int .i64) .nil))))))), []), (5, (.int .i64), [])], [], []⟩, fun k y => regimenref39_Same_s.l4 k y.1.1 y.1.2.1 y.1.2.2.1⟩] []
theorem regimenref39_Same_s.h1 : (obls regimenref39_Same_s.E Tryz.f11).map Ob.left = (obls regimenref39_Same_s.E Tryz.f11).map Ob.right := by kernel_rfl
theorem regimenref39_Same_s.h2 : (fun k x => regimenref39_Same_s.c.fn k x) = fun k x => mainK regimenref39_Same_s.E Tryz.f11 regimenref39_Same_s.c.dom k x := by kernel_rfl
theorem regimenref39_Same_s.ok : CalleeOk Tryz.prog 11 regimenref39_Same_s.c := fn_ok tabOk mixed (fun _ => rfl) Tryz.func11 rfl (by kernel_rfl) (ok_cons regimenref38_Same_s.ok ok_nil) (.of_eq regimenref39_Same_s.h1) (fun k x _ h => (congrFun (congrFun regimenref39_Same_s.h2 k) x).symm.trans h)
def regimenref45_Word.c : Sym.Callee := ⟨(.cons (.int .i64) .nil), .str, false, ByteArray, fun k x => regimenref45_Word.f x.1, fun z => z, []⟩
def regimenref45_Word.nf (k : Nat) (a0 : Int) : Option (ByteArray) := (if a0 < (0 : Int) then (some (⟨#[63]⟩ : ByteArray)) else (if a0 > (3 : Int) then (some (⟨#[63]⟩ : ByteArray)) else (if 0 ≤ a0 then (if a0 < ([(⟨#[103, 111, 101, 115]⟩ : ByteArray), (⟨#[100, 111, 110, 101]⟩ : ByteArray), (⟨#[115, 116, 111, 112, 112, 101, 100]⟩ : ByteArray), (⟨#[102, 97, 105, 108, 101, 100]⟩ : ByteArray)].length : Int) then (some ([(⟨#[103, 111, 101, 115]⟩ : ByteArray), (⟨#[100, 111, 110, 101]⟩ : ByteArray), (⟨#[115, 116, 111, 112, 112, 101, 100]⟩ : ByteArray), (⟨#[102, 97, 105, 108, 101, 100]⟩ : ByteArray)].getD (a0).toNat (⟨#[]⟩ : ByteArray))) else none) else none)))
noncomputable def regimenref45_Word.E : Env (ByteArray) := envOf tab Tryz.f25 false .str [] (fun y => y) [] [] []
theorem regimenref45_Word.h1 : obls regimenref45_Word.E Tryz.f25 = [] := by kernel_rfl
theorem regimenref45_Word.h2 : (fun k (x : El (.cons (.int .i64) .nil)) => regimenref45_Word.nf k x.1) = fun k x => mainK regimenref45_Word.E Tryz.f25 (.cons (.int .i64) .nil) k x := by kernel_rfl
set_option maxHeartbeats 2000000 in
theorem regimenref45_Word.bf (k : Nat) (a0 : Int) : Lo (regimenref45_Word.f a0) (regimenref45_Word.nf k a0) := by
  unfold regimenref45_Word.f regimenref45_Word.nf
  try simp only [Bool.false_xor, Bool.true_xor, wu8_64, wu8_u64, byL_nums, btS_bt, nil_tl, beq_decL, beq_decI]
  repeat' first
    | (with_reducible exact lo_refl _)
    | exact lo_none _
    | (with_reducible refine lo_ite (fun _ => ?_) (fun _ => ?_))
    | (with_reducible refine lo_bind (fun _ => ?_))
    | (with_reducible refine lo_left ?_)
    | (refine lo_pos (by first | assumption | omega) ?_)
    | (refine lo_neg (by first | assumption | omega) ?_)
    | (with_reducible refine lo_test (fun _ => by first | assumption | omega) (fun _ => ?_))
    | exact lo_refl _
    | refine lo_ite (fun _ => ?_) (fun _ => ?_)
    | refine lo_bind (fun _ => ?_)
    | (refine lo_some ?_; first | rfl | (rw [Bool.false_xor]; rfl))
  all_goals (exfalso; first | omega | (simp_all; done) | (simp_all; omega))
theorem regimenref45_Word.al : AllLe (obls regimenref45_Word.E Tryz.f25) := by
  rw [regimenref45_Word.h1]
  exact .nil
theorem regimenref45_Word.ok : CalleeOk Tryz.prog 25 regimenref45_Word.c := fn_ok tabOk mixed (fun _ => rfl) Tryz.func25 rfl (by kernel_rfl) ok_nil regimenref45_Word.al (fun k x r h => (congrFun (congrFun regimenref45_Word.h2 k) x).symm.trans (regimenref45_Word.bf k _ r h))
def regimenref01_Text.c : Sym.Callee := ⟨(.cons (.int .i64) .nil), .str, false, ByteArray, fun k x => regimenref01_Text.f k x.1, fun z => z, []⟩
def regimenref01_Text.nl0 (k : Nat) (x0 : Int) (x3 : ByteArray) (x4 : ByteArray) : Option (ByteArray) := (if x0 ≥ (10 : Int) then (if (10 : Int) = 0 then none else (if (10 : Int) = 0 then none else (if (10 : Int) = 0 then none else (if 0 ≤ (Int.tmod (wrap64 (Int.tdiv x0 (10 : Int))) (10 : Int)) then (if (Int.tmod (wrap64 (Int.tdiv x0 (10 : Int))) (10 : Int)) ≤ (wrap64 ((Int.tmod (wrap64 (Int.tdiv x0 (10 : Int))) (10 : Int)) + (1 : Int))) then (if (wrap64 ((Int.tmod (wrap64 (Int.tdiv x0 (10 : Int))) (10 : Int)) + (1 : Int))) ≤ (x3.size : Int) then (if (x3.extract ((Int.tmod (wrap64 (Int.tdiv x0 (10 : Int))) (10 : Int))).toNat ((wrap64 ((Int.tmod (wrap64 (Int.tdiv x0 (10 : Int))) (10 : Int)) + (1 : Int)))).toNat).size + x4.size ≤ 9223372036854775807 then (regimenref01_Text.l0 k (wrap64 (Int.tdiv x0 (10 : Int))) x3 ((x3.extract ((Int.tmod (wrap64 (Int.tdiv x0 (10 : Int))) (10 : Int))).toNat ((wrap64 ((Int.tmod (wrap64 (Int.tdiv x0 (10 : Int))) (10 : Int)) + (1 : Int)))).toNat) ++ x4)) else none) else none) else none) else none)))) else (some x4))
def regimenref01_Text.nf (k : Nat) (a0 : Int) : Option (ByteArray) := (if (10 : Int) = 0 then none else (if (10 : Int) = 0 then none else (if 0 ≤ (Int.tmod a0 (10 : Int)) then (if (Int.tmod a0 (10 : Int)) ≤ (wrap64 ((Int.tmod a0 (10 : Int)) + (1 : Int))) then (if (wrap64 ((Int.tmod a0 (10 : Int)) + (1 : Int))) ≤ ((⟨#[48, 49, 50, 51, 52, 53, 54, 55, 56, 57]⟩ : ByteArray).size : Int) then (regimenref01_Text.l0 k a0 (⟨#[48, 49, 50, 51, 52, 53, 54, 55, 56, 57]⟩ : ByteArray) ((⟨#[48, 49, 50, 51, 52, 53, 54, 55, 56, 57]⟩ : ByteArray).extract ((Int.tmod a0 (10 : Int))).toNat ((wrap64 ((Int.tmod a0 (10 : Int)) + (1 : Int)))).toNat)) else none) else none) else none)))
noncomputable def regimenref01_Text.E : Env (ByteArray) := envOf tab Tryz.f73 false .str [] (fun y => y) [] [⟨3, ⟨26, [(0, (.int .i64), []), (3, .str, []), (4, .str, [])], [], []⟩, fun k y => regimenref01_Text.l0 k y.1.1 y.1.2.1 y.1.2.2.1⟩] []
theorem regimenref01_Text.h1 : obls regimenref01_Text.E Tryz.f73 = [⟨(.cons (.cons (.int .i64) (.cons .str (.cons .str .nil))) (.cons .nil (.cons .nil .nil))), fun k y => regimenref01_Text.l0 (k + 1) y.1.1 y.1.2.1 y.1.2.2.1, fun k y => regimenref01_Text.nl0 k y.1.1 y.1.2.1 y.1.2.2.1⟩, ⟨(.cons (.cons (.int .i64) (.cons .str (.cons .str .nil))) (.cons .nil (.cons .nil .nil))), fun _ y => regimenref01_Text.l0 0 y.1.1 y.1.2.1 y.1.2.2.1, fun _ _ => none⟩] := by kernel_rfl
theorem regimenref01_Text.h2 : (fun k (x : El (.cons (.int .i64) .nil)) => regimenref01_Text.nf k x.1) = fun k x => mainK regimenref01_Text.E Tryz.f73 (.cons (.int .i64) .nil) k x := by kernel_rfl
theorem regimenref01_Text.bl0 (k : Nat) (x0 : Int) (x3 : ByteArray) (x4 : ByteArray) : Lo (regimenref01_Text.l0 (k + 1) x0 x3 x4) (regimenref01_Text.nl0 k x0 x3 x4) := by
  rw [regimenref01_Text.l0]
  unfold regimenref01_Text.nl0
  try simp only [Bool.false_xor, Bool.true_xor, wu8_64, wu8_u64, byL_nums, btS_bt, nil_tl, beq_decL, beq_decI]
  repeat' first
    | (with_reducible exact lo_refl _)
    | exact lo_none _
    | (with_reducible refine lo_ite (fun _ => ?_) (fun _ => ?_))
    | (with_reducible refine lo_bind (fun _ => ?_))
    | (with_reducible refine lo_left ?_)
    | (refine lo_pos (by first | assumption | omega) ?_)
    | (refine lo_neg (by first | assumption | omega) ?_)
    | (with_reducible refine lo_test (fun _ => by first | assumption | omega) (fun _ => ?_))
    | exact lo_refl _
    | refine lo_ite (fun _ => ?_) (fun _ => ?_)
    | refine lo_bind (fun _ => ?_)
    | (refine lo_some ?_; first | rfl | (rw [Bool.false_xor]; rfl))
  all_goals (exfalso; first | omega | (simp_all; done) | (simp_all; omega))
set_option maxHeartbeats 2000000 in
theorem regimenref01_Text.bf (k : Nat) (a0 : Int) : Lo (regimenref01_Text.f k a0) (regimenref01_Text.nf k a0) := by
  unfold regimenref01_Text.f regimenref01_Text.nf
  try simp only [Bool.false_xor, Bool.true_xor, wu8_64, wu8_u64, byL_nums, btS_bt, nil_tl, beq_decL, beq_decI]
  repeat' first
    | (with_reducible exact lo_refl _)
    | exact lo_none _
    | (with_reducible refine lo_ite (fun _ => ?_) (fun _ => ?_))
    | (with_reducible refine lo_bind (fun _ => ?_))
    | (with_reducible refine lo_left ?_)
    | (refine lo_pos (by first | assumption | omega) ?_)
    | (refine lo_neg (by first | assumption | omega) ?_)
    | (with_reducible refine lo_test (fun _ => by first | assumption | omega) (fun _ => ?_))
    | exact lo_refl _
    | refine lo_ite (fun _ => ?_) (fun _ => ?_)
    | refine lo_bind (fun _ => ?_)
    | (refine lo_some ?_; first | rfl | (rw [Bool.false_xor]; rfl))
  all_goals (exfalso; first | omega | (simp_all; done) | (simp_all; omega))
theorem regimenref01_Text.al : AllLe (obls regimenref01_Text.E Tryz.f73) := by
  rw [regimenref01_Text.h1]
  exact (.cons (fun k y r h => regimenref01_Text.bl0 k y.1.1 y.1.2.1 y.1.2.2.1 r h) (.cons (fun _ y r h => by simp [regimenref01_Text.l0] at h) .nil))
theorem regimenref01_Text.ok : CalleeOk Tryz.prog 73 regimenref01_Text.c := fn_ok tabOk mixed (fun _ => rfl) Tryz.func73 rfl (by kernel_rfl) ok_nil regimenref01_Text.al (fun k x r h => (congrFun (congrFun regimenref01_Text.h2 k) x).symm.trans (regimenref01_Text.bf k _ r h))
def regimenref01_Tell.c : Sym.Callee := ⟨(.cons (.int .i64) .nil), .str, false, ByteArray, fun k x => regimenref01_Tell.f k x.1, fun z => z, []⟩
def regimenref01_Tell.nf (k : Nat) (a0 : Int) : Option (ByteArray) := (if a0 ≥ (0 : Int) then ((regimenref01_Text.f k a0).bind fun t1 => (some t1)) else (if (10 : Int) = 0 then none else (if 0 ≤ (wrap64 ((0 : Int) - (Int.tmod a0 (10 : Int)))) then (if (wrap64 ((0 : Int) - (Int.tmod a0 (10 : Int)))) ≤ (wrap64 ((wrap64 ((0 : Int) - (Int.tmod a0 (10 : Int)))) + (1 : Int))) then (if (wrap64 ((wrap64 ((0 : Int) - (Int.tmod a0 (10 : Int)))) + (1 : Int))) ≤ ((⟨#[48, 49, 50, 51, 52, 53, 54, 55, 56, 57]⟩ : ByteArray).size : Int) then (if (10 : Int) = 0 then none else (if (wrap64 (Int.tdiv a0 (10 : Int))) = (0 : Int) then (if (⟨#[45]⟩ : ByteArray).size + ((⟨#[48, 49, 50, 51, 52, 53, 54, 55, 56, 57]⟩ : ByteArray).extract ((wrap64 ((0 : Int) - (Int.tmod a0 (10 : Int))))).toNat ((wrap64 ((wrap64 ((0 : Int) - (Int.tmod a0 (10 : Int)))) + (1 : Int)))).toNat).size ≤ 9223372036854775807 then (some ((⟨#[45]⟩ : ByteArray) ++ ((⟨#[48, 49, 50, 51, 52, 53, 54, 55, 56, 57]⟩ : ByteArray).extract ((wrap64 ((0 : Int) - (Int.tmod a0 (10 : Int))))).toNat ((wrap64 ((wrap64 ((0 : Int) - (Int.tmod a0 (10 : Int)))) + (1 : Int)))).toNat))) else none) else (if (10 : Int) = 0 then none else ((regimenref01_Text.f k (wrap64 ((0 : Int) - (wrap64 (Int.tdiv a0 (10 : Int)))))).bind fun t2 => (if t2.size + ((⟨#[48, 49, 50, 51, 52, 53, 54, 55, 56, 57]⟩ : ByteArray).extract ((wrap64 ((0 : Int) - (Int.tmod a0 (10 : Int))))).toNat ((wrap64 ((wrap64 ((0 : Int) - (Int.tmod a0 (10 : Int)))) + (1 : Int)))).toNat).size ≤ 9223372036854775807 then (if (⟨#[45]⟩ : ByteArray).size + (t2 ++ ((⟨#[48, 49, 50, 51, 52, 53, 54, 55, 56, 57]⟩ : ByteArray).extract ((wrap64 ((0 : Int) - (Int.tmod a0 (10 : Int))))).toNat ((wrap64 ((wrap64 ((0 : Int) - (Int.tmod a0 (10 : Int)))) + (1 : Int)))).toNat)).size ≤ 9223372036854775807 then (some ((⟨#[45]⟩ : ByteArray) ++ (t2 ++ ((⟨#[48, 49, 50, 51, 52, 53, 54, 55, 56, 57]⟩ : ByteArray).extract ((wrap64 ((0 : Int) - (Int.tmod a0 (10 : Int))))).toNat ((wrap64 ((wrap64 ((0 : Int) - (Int.tmod a0 (10 : Int)))) + (1 : Int)))).toNat)))) else none) else none))))) else none) else none) else none)))
noncomputable def regimenref01_Tell.E : Env (ByteArray) := envOf tab Tryz.f44 false .str [] (fun y => y) [(73, regimenref01_Text.c)] [] []
theorem regimenref01_Tell.h1 : obls regimenref01_Tell.E Tryz.f44 = [] := by kernel_rfl
theorem regimenref01_Tell.h2 : (fun k (x : El (.cons (.int .i64) .nil)) => regimenref01_Tell.nf k x.1) = fun k x => mainK regimenref01_Tell.E Tryz.f44 (.cons (.int .i64) .nil) k x := by kernel_rfl
set_option maxHeartbeats 2000000 in
theorem regimenref01_Tell.bf (k : Nat) (a0 : Int) : Lo (regimenref01_Tell.f k a0) (regimenref01_Tell.nf k a0) := by
  unfold regimenref01_Tell.f regimenref01_Tell.nf
  try simp only [Bool.false_xor, Bool.true_xor, wu8_64, wu8_u64, byL_nums, btS_bt, nil_tl, beq_decL, beq_decI]
  repeat' first
    | (with_reducible exact lo_refl _)
    | exact lo_none _
    | (with_reducible refine lo_lpos (by first | assumption | decide) ?_)
    | (with_reducible refine lo_lneg (by first | assumption | decide) ?_)
    | (with_reducible refine lo_ite (fun _ => ?_) (fun _ => ?_))
    | (with_reducible refine lo_bind (fun _ => ?_))
    | (with_reducible refine lo_left ?_)
    | (refine lo_neg (by decide) ?_)
    | (refine lo_pos (by first | assumption | omega) ?_)
    | (refine lo_neg (by first | assumption | omega) ?_)
    | (with_reducible refine lo_test (fun _ => by first | assumption | omega | (simp only [List.length_cons, List.length_nil]; omega) | decide) (fun _ => ?_))
    | (with_reducible refine lo_testn (fun _ => by first | assumption | omega) (fun _ => ?_))
    | (with_reducible refine lo_and (fun z => by first | exact z.1 | omega) (fun z => by first | exact z.2 | omega) (fun _ => ?_))
    | exact lo_refl _
    | (with_reducible refine lo_iff (by first | exact Iff.rfl | omega | (simp; done) | decide) (fun _ => ?_) (fun _ => ?_))
    | (with_reducible refine lo_iffn (by first | exact Iff.rfl | omega | (simp; done) | decide) (fun _ => ?_) (fun _ => ?_))
    | refine lo_ite (fun _ => ?_) (fun _ => ?_)
    | refine lo_bind (fun _ => ?_)
    | (refine lo_some ?_; first | rfl | (rw [Bool.false_xor]; rfl) | (rw [Bool.true_xor]; rfl) | (simp only [Bool.and_true]; rfl) | (simp; done))
    | (simp only [Int.zero_sub]; exact lo_refl _)
    | (with_reducible refine lo_lpos (by omega) ?_)
    | (with_reducible refine lo_lneg (by omega) ?_)
    | (with_reducible refine lo_lite (fun _ => ?_) (fun _ => ?_))
    | (with_reducible refine lo_rite (fun _ => ?_) (fun _ => ?_))
  all_goals (exfalso; first | omega | (simp_all; done) | (simp_all; omega))
theorem regimenref01_Tell.al : AllLe (obls regimenref01_Tell.E Tryz.f44) := by
  rw [regimenref01_Tell.h1]
  exact .nil
theorem regimenref01_Tell.ok : CalleeOk Tryz.prog 44 regimenref01_Tell.c := fn_ok tabOk mixed (fun _ => rfl) Tryz.func44 rfl (by kernel_rfl) (ok_cons regimenref01_Text.ok ok_nil) regimenref01_Tell.al (fun k x r h => (congrFun (congrFun regimenref01_Tell.h2 k) x).symm.trans (regimenref01_Tell.bf k _ r h))
def regimenref02_Word.c : Sym.Callee := ⟨(.cons (.int .u64) .nil), (.sl (.int .u64)), false, List Int, fun k x => regimenref02_Word.f x.1, fun z => z, []⟩
def regimenref02_Word.nf (k : Nat) (a0 : Int) : Option (List Int) := (if (65536 : Int) = 0 then none else (if (65536 : Int) = 0 then none else (if (65536 : Int) = 0 then none else (if (4294967296 : Int) = 0 then none else (if (65536 : Int) = 0 then none else (if (281474976710656 : Int) = 0 then none else (some [(Int.tmod a0 (65536 : Int)), (Int.tmod (IntKind.wrap .u64 (Int.tdiv a0 (65536 : Int))) (65536 : Int)), (Int.tmod (IntKind.wrap .u64 (Int.tdiv a0 (4294967296 : Int))) (65536 : Int)), (IntKind.wrap .u64 (Int.tdiv a0 (281474976710656 : Int)))])))))))
noncomputable def regimenref02_Word.E : Env (List Int) := envOf tab Tryz.f103 false (.sl (.int .u64)) [] (fun y => y) [] [] []
theorem regimenref02_Word.h1 : obls regimenref02_Word.E Tryz.f103 = [] := by kernel_rfl
theorem regimenref02_Word.h2 : (fun k (x : El (.cons (.int .u64) .nil)) => regimenref02_Word.nf k x.1) = fun k x => mainK regimenref02_Word.E Tryz.f103 (.cons (.int .u64) .nil) k x := by kernel_rfl
set_option maxHeartbeats 2000000 in
theorem regimenref02_Word.bf (k : Nat) (a0 : Int) : Lo (regimenref02_Word.f a0) (regimenref02_Word.nf k a0) := by
  unfold regimenref02_Word.f regimenref02_Word.nf
  try simp only [Bool.false_xor, Bool.true_xor, wu8_64, wu8_u64, byL_nums, btS_bt, nil_tl, beq_decL, beq_decI]
  repeat' first
    | (with_reducible exact lo_refl _)
    | exact lo_none _
    | (with_reducible refine lo_ite (fun _ => ?_) (fun _ => ?_))
    | (with_reducible refine lo_bind (fun _ => ?_))
    | (with_reducible refine lo_left ?_)
    | (refine lo_pos (by first | assumption | omega) ?_)
    | (refine lo_neg (by first | assumption | omega) ?_)
    | (with_reducible refine lo_test (fun _ => by first | assumption | omega) (fun _ => ?_))
    | exact lo_refl _
    | refine lo_ite (fun _ => ?_) (fun _ => ?_)
    | refine lo_bind (fun _ => ?_)
    | (refine lo_some ?_; first | rfl | (rw [Bool.false_xor]; rfl))
  all_goals (exfalso; first | omega | (simp_all; done) | (simp_all; omega))
theorem regimenref02_Word.al : AllLe (obls regimenref02_Word.E Tryz.f103) := by
  rw [regimenref02_Word.h1]
  exact .nil
theorem regimenref02_Word.ok : CalleeOk Tryz.prog 103 regimenref02_Word.c := fn_ok tabOk mixed (fun _ => rfl) Tryz.func103 rfl (by kernel_rfl) ok_nil regimenref02_Word.al (fun k x r h => (congrFun (congrFun regimenref02_Word.h2 k) x).symm.trans (regimenref02_Word.bf k _ r h))
def regimenref02_Size.c : Sym.Callee := ⟨(.cons (.int .i64) .nil), (.sl (.int .u64)), false, List Int, fun k x => regimenref02_Size.f x.1, fun z => z, []⟩
def regimenref02_Size.nf (k : Nat) (a0 : Int) : Option (List Int) := (if a0 < (0 : Int) then ((regimenref02_Word.f (IntKind.wrap .u64 ((0 : Int) - (IntKind.wrap .u64 (a0))))).bind fun t1 => (some t1)) else ((regimenref02_Word.f (IntKind.wrap .u64 (a0))).bind fun t2 => (some t2)))
noncomputable def regimenref02_Size.E : Env (List Int) := envOf tab Tryz.f76 false (.sl (.int .u64)) [] (fun y => y) [(103, regimenref02_Word.c)] [] []
theorem regimenref02_Size.h1 : obls regimenref02_Size.E Tryz.f76 = [] := by kernel_rfl
theorem regimenref02_Size.h2 : (fun k (x : El (.cons (.int .i64) .nil)) => regimenref02_Size.nf k x.1) = fun k x => mainK regimenref02_Size.E Tryz.f76 (.cons (.int .i64) .nil) k x := by kernel_rfl
set_option maxHeartbeats 2000000 in
theorem regimenref02_Size.bf (k : Nat) (a0 : Int) : Lo (regimenref02_Size.f a0) (regimenref02_Size.nf k a0) := by
  unfold regimenref02_Size.f regimenref02_Size.nf
  try simp only [Bool.false_xor, Bool.true_xor, wu8_64, wu8_u64, byL_nums, btS_bt, nil_tl, beq_decL, beq_decI]
  repeat' first
    | (with_reducible exact lo_refl _)
    | exact lo_none _
    | (with_reducible refine lo_lpos (by first | assumption | decide) ?_)
    | (with_reducible refine lo_lneg (by first | assumption | decide) ?_)
    | (with_reducible refine lo_ite (fun _ => ?_) (fun _ => ?_))
    | (with_reducible refine lo_bind (fun _ => ?_))
    | (with_reducible refine lo_left ?_)
    | (refine lo_neg (by decide) ?_)
    | (refine lo_pos (by first | assumption | omega) ?_)
    | (refine lo_neg (by first | assumption | omega) ?_)
    | (with_reducible refine lo_test (fun _ => by first | assumption | omega | (simp only [List.length_cons, List.length_nil]; omega) | decide) (fun _ => ?_))
    | (with_reducible refine lo_testn (fun _ => by first | assumption | omega) (fun _ => ?_))
    | (with_reducible refine lo_and (fun z => by first | exact z.1 | omega) (fun z => by first | exact z.2 | omega) (fun _ => ?_))
    | exact lo_refl _
    | (with_reducible refine lo_iff (by first | exact Iff.rfl | omega | (simp; done) | decide) (fun _ => ?_) (fun _ => ?_))
    | (with_reducible refine lo_iffn (by first | exact Iff.rfl | omega | (simp; done) | decide) (fun _ => ?_) (fun _ => ?_))
    | refine lo_ite (fun _ => ?_) (fun _ => ?_)
    | refine lo_bind (fun _ => ?_)
    | (refine lo_some ?_; first | rfl | (rw [Bool.false_xor]; rfl) | (rw [Bool.true_xor]; rfl) | (simp only [Bool.and_true]; rfl) | (simp; done))
    | (simp only [Int.zero_sub]; exact lo_refl _)
    | (with_reducible refine lo_lpos (by omega) ?_)
    | (with_reducible refine lo_lneg (by omega) ?_)
    | (with_reducible refine lo_lite (fun _ => ?_) (fun _ => ?_))
    | (with_reducible refine lo_rite (fun _ => ?_) (fun _ => ?_))
  all_goals (exfalso; first | omega | (simp_all; done) | (simp_all; omega))
theorem regimenref02_Size.al : AllLe (obls regimenref02_Size.E Tryz.f76) := by
  rw [regimenref02_Size.h1]
  exact .nil
theorem regimenref02_Size.ok : CalleeOk Tryz.prog 76 regimenref02_Size.c := fn_ok tabOk mixed (fun _ => rfl) Tryz.func76 rfl (by kernel_rfl) (ok_cons regimenref02_Word.ok ok_nil) regimenref02_Size.al (fun k x r h => (congrFun (congrFun regimenref02_Size.h2 k) x).symm.trans (regimenref02_Size.bf k _ r h))
def regimenref02_Times.c : Sym.Callee := ⟨(.cons (.sl (.int .u64)) (.cons (.sl (.int .u64)) .nil)), (.sl (.int .u64)), false, List Int, fun k x => regimenref02_Times.f k x.1 x.2.1, fun z => z, []⟩
def regimenref02_Times.nl0 (k : Nat) (x0 : List Int) (x1 : List Int) (r5 : List Int) (x6 : Int) : Option (List Int) := (if x6 < (x0.length : Int) then (regimenref02_Times.l1 k x0 x1 r5 x6 (0 : Int) (0 : Int)) else (some r5))
def regimenref02_Times.nl1 (k : Nat) (x0 : List Int) (x1 : List Int) (r5 : List Int) (x6 : Int) (x7 : Int) (x8 : Int) : Option (List Int) := (if x8 < (x1.length : Int) then (if 0 ≤ (wrap64 (x6 + x8)) then (if (wrap64 (x6 + x8)) < ((r5.length : Nat) : Int) then (if 0 ≤ x6 then (if x6 < (x0.length : Int) then (if 0 ≤ x8 then (if x8 < (x1.length : Int) then (if (65536 : Int) = 0 then none else (if 0 ≤ (wrap64 (x6 + x8)) then (if (wrap64 (x6 + x8)) < ((r5.length : Nat) : Int) then (if (65536 : Int) = 0 then none else (regimenref02_Times.l1 k x0 x1 (r5.set ((wrap64 (x6 + x8))).toNat (Int.tmod (IntKind.wrap .u64 ((IntKind.wrap .u64 ((r5.getD ((wrap64 (x6 + x8))).toNat 0) + (IntKind.wrap .u64 ((x0.getD (x6).toNat 0) * (x1.getD (x8).toNat 0))))) + x7)) (65536 : Int))) x6 (IntKind.wrap .u64 (Int.tdiv (IntKind.wrap .u64 ((IntKind.wrap .u64 ((r5.getD ((wrap64 (x6 + x8))).toNat 0) + (IntKind.wrap .u64 ((x0.getD (x6).toNat 0) * (x1.getD (x8).toNat 0))))) + x7)) (65536 : Int))) (wrap64 (x8 + (1 : Int))))) else none) else none)) else none) else none) else none) else none) else none) else none) else (if 0 ≤ (wrap64 (x6 + (x1.length : Int))) then (if (wrap64 (x6 + (x1.length : Int))) < ((r5.length : Nat) : Int) then (if 0 ≤ (wrap64 (x6 + (x1.length : Int))) then (if (wrap64 (x6 + (x1.length : Int))) < ((r5.length : Nat) : Int) then (regimenref02_Times.l0 k x0 x1 (r5.set ((wrap64 (x6 + (x1.length : Int)))).toNat (IntKind.wrap .u64 ((r5.getD ((wrap64 (x6 + (x1.length : Int)))).toNat 0) + x7))) (wrap64 (x6 + (1 : Int)))) else none) else none) else none) else none))
def regimenref02_Times.nf (k : Nat) (a0 : List Int) (a1 : List Int) : Option (List Int) := (if 0 ≤ (wrap64 ((a0.length : Int) + (a1.length : Int))) then (if (wrap64 ((a0.length : Int) + (a1.length : Int))) * ((8 : Nat) : Int) ≤ 281474976710656 then (regimenref02_Times.l0 k a0 a1 (List.replicate ((wrap64 ((a0.length : Int) + (a1.length : Int)))).toNat 0) (0 : Int)) else none) else none)
noncomputable def regimenref02_Times.E : Env (List Int) := envOf tab Tryz.f58 false (.sl (.int .u64)) [] (fun y => y) [] [⟨3, ⟨71, [(0, (.sl (.int .u64)), []), (1, (.sl (.int .u64)), []), (6, (.int .i64), [])], [], [(5, none, 99, (.int .u64))]⟩, fun k y => regimenref02_Times.l0 k y.1.1 y.1.2.1 y.2.2.1.1 y.1.2.2.1⟩, ⟨7, ⟨71, [(0, (.sl (.int .u64)), []), (1, (.sl (.int .u64)), []), (6, (.int .i64), []), (7, (.int .u64), []), (8, (.int .i64), [])], [], [(5, none, 99, (.int .u64))]⟩, fun k y => regimenref02_Times.l1 k y.1.1 y.1.2.1 y.2.2.1.1 y.1.2.2.1 y.1.2.2.2.1 y.1.2.2.2.2.1⟩] []
theorem regimenref02_Times.h1 : obls regimenref02_Times.E Tryz.f58 = [⟨(.cons (.cons (.sl (.int .u64)) (.cons (.sl (.int .u64)) (.cons (.int .i64) .nil))) (.cons .nil (.cons (.cons (.sl (.int .u64)) .nil) .nil))), fun k y => regimenref02_Times.l0 (k + 1) y.1.1 y.1.2.1 y.2.2.1.1 y.1.2.2.1, fun k y => regimenref02_Times.nl0 k y.1.1 y.1.2.1 y.2.2.1.1 y.1.2.2.1⟩, ⟨(.cons (.cons (.sl (.int .u64)) (.cons (.sl (.int .u64)) (.cons (.int .i64) .nil))) (.cons .nil (.cons (.cons (.sl (.int .u64)) .nil) .nil))), fun _ y => regimenref02_Times.l0 0 y.1.1 y.1.2.1 y.2.2.1.1 y.1.2.2.1, fun _ _ => none⟩, ⟨(.cons (.cons (.sl (.int .u64)) (.cons (.sl (.int .u64)) (.cons (.int .i64) (.cons (.int .u64) (.cons (.int .i64) .nil))))) (.cons .nil (.cons (.cons (.sl (.int .u64)) .nil) .nil))), fun k y => regimenref02_Times.l1 (k + 1) y.1.1 y.1.2.1 y.2.2.1.1 y.1.2.2.1 y.1.2.2.2.1 y.1.2.2.2.2.1, fun k y => regimenref02_Times.nl1 k y.1.1 y.1.2.1 y.2.2.1.1 y.1.2.2.1 y.1.2.2.2.1 y.1.2.2.2.2.1⟩, ⟨(.cons (.cons (.sl (.int .u64)) (.cons (.sl (.int .u64)) (.cons (.int .i64) (.cons (.int .u64) (.cons (.int .i64) .nil))))) (.cons .nil (.cons (.cons (.sl (.int .u64)) .nil) .nil))), fun _ y => regimenref02_Times.l1 0 y.1.1 y.1.2.1 y.2.2.1.1 y.1.2.2.1 y.1.2.2.2.1 y.1.2.2.2.2.1, fun _ _ => none⟩] := by kernel_rfl
theorem regimenref02_Times.h2 : (fun k (x : El (.cons (.sl (.int .u64)) (.cons (.sl (.int .u64)) .nil))) => regimenref02_Times.nf k x.1 x.2.1) = fun k x => mainK regimenref02_Times.E Tryz.f58 (.cons (.sl (.int .u64)) (.cons (.sl (.int .u64)) .nil)) k x := by kernel_rfl
theorem regimenref02_Times.bl0 (k : Nat) (x0 : List Int) (x1 : List Int) (r5 : List Int) (x6 : Int) : Lo (regimenref02_Times.l0 (k + 1) x0 x1 r5 x6) (regimenref02_Times.nl0 k x0 x1 r5 x6) := by
  rw [regimenref02_Times.l0]
  unfold regimenref02_Times.nl0
  try simp only [Bool.false_xor, Bool.true_xor, wu8_64, wu8_u64, byL_nums, btS_bt, nil_tl, beq_decL, beq_decI]
  repeat' first
    | (with_reducible exact lo_refl _)
    | exact lo_none _
    | (with_reducible refine lo_ite (fun _ => ?_) (fun _ => ?_))
    | (with_reducible refine lo_bind (fun _ => ?_))
    | (with_reducible refine lo_left ?_)
    | (refine lo_pos (by first | assumption | omega) ?_)
    | (refine lo_neg (by first | assumption | omega) ?_)
    | (with_reducible refine lo_test (fun _ => by first | assumption | omega) (fun _ => ?_))
    | exact lo_refl _
    | refine lo_ite (fun _ => ?_) (fun _ => ?_)
    | refine lo_bind (fun _ => ?_)
    | (refine lo_some ?_; first | rfl | (rw [Bool.false_xor]; rfl))
  all_goals (exfalso; first | omega | (simp_all; done) | (simp_all; omega))
theorem regimenref02_Times.bl1 (k : Nat) (x0 : List Int) (x1 : List Int) (r5 : List Int) (x6 : Int) (x7 : Int) (x8 : Int) : Lo (regimenref02_Times.l1 (k + 1) x0 x1 r5 x6 x7 x8) (regimenref02_Times.nl1 k x0 x1 r5 x6 x7 x8) := by
  rw [regimenref02_Times.l1]
  unfold regimenref02_Times.nl1
  try simp only [Bool.false_xor, Bool.true_xor, wu8_64, wu8_u64, byL_nums, btS_bt, nil_tl, beq_decL, beq_decI]
  repeat' first
    | (with_reducible exact lo_refl _)
    | exact lo_none _
    | (with_reducible refine lo_ite (fun _ => ?_) (fun _ => ?_))
    | (with_reducible refine lo_bind (fun _ => ?_))
    | (with_reducible refine lo_left ?_)
    | (refine lo_pos (by first | assumption | omega) ?_)
    | (refine lo_neg (by first | assumption | omega) ?_)
    | (with_reducible refine lo_test (fun _ => by first | assumption | omega) (fun _ => ?_))
    | exact lo_refl _
    | refine lo_ite (fun _ => ?_) (fun _ => ?_)
    | refine lo_bind (fun _ => ?_)
    | (refine lo_some ?_; first | rfl | (rw [Bool.false_xor]; rfl))
  all_goals (exfalso; first | omega | (simp_all; done) | (simp_all; omega))
set_option maxHeartbeats 2000000 in
theorem regimenref02_Times.bf (k : Nat) (a0 : List Int) (a1 : List Int) : Lo (regimenref02_Times.f k a0 a1) (regimenref02_Times.nf k a0 a1) := by
  unfold regimenref02_Times.f regimenref02_Times.nf
  try simp only [Bool.false_xor, Bool.true_xor, wu8_64, wu8_u64, byL_nums, btS_bt, nil_tl, beq_decL, beq_decI]
  repeat' first
    | (with_reducible exact lo_refl _)
    | exact lo_none _
    | (with_reducible refine lo_ite (fun _ => ?_) (fun _ => ?_))
    | (with_reducible refine lo_bind (fun _ => ?_))
    | (with_reducible refine lo_left ?_)
    | (refine lo_pos (by first | assumption | omega) ?_)
    | (refine lo_neg (by first | assumption | omega) ?_)
    | (with_reducible refine lo_test (fun _ => by first | assumption | omega) (fun _ => ?_))
    | exact lo_refl _
    | refine lo_ite (fun _ => ?_) (fun _ => ?_)
    | refine lo_bind (fun _ => ?_)
    | (refine lo_some ?_; first | rfl | (rw [Bool.false_xor]; rfl))
  all_goals (exfalso; first | omega | (simp_all; done) | (simp_all; omega))
theorem regimenref02_Times.al : AllLe (obls regimenref02_Times.E Tryz.f58) := by
  rw [regimenref02_Times.h1]
  exact (.cons (fun k y r h => regimenref02_Times.bl0 k y.1.1 y.1.2.1 y.2.2.1.1 y.1.2.2.1 r h) (.cons (fun _ y r h => by simp [regimenref02_Times.l0] at h) (.cons (fun k y r h => regimenref02_Times.bl1 k y.1.1 y.1.2.1 y.2.2.1.1 y.1.2.2.1 y.1.2.2.2.1 y.1.2.2.2.2.1 r h) (.cons (fun _ y r h => by simp [regimenref02_Times.l1] at h) .nil))))
theorem regimenref02_Times.ok : CalleeOk Tryz.prog 58 regimenref02_Times.c := fn_ok tabOk mixed (fun _ => rfl) Tryz.func58 rfl (by kernel_rfl) ok_nil regimenref02_Times.al (fun k x r h => (congrFun (congrFun regimenref02_Times.h2 k) x).symm.trans (regimenref02_Times.bf k _ _ r h))
def regimenref05_Tens.c : Sym.Callee := ⟨(.cons (.int .i64) .nil), (.sl (.int .u64)), false, List Int, fun k x => regimenref05_Tens.f k x.1, fun z => z, []⟩
def regimenref05_Tens.nl0 (k : Nat) (x0 : Int) (x3 : List Int) (x4 : Int) : Option (List Int) := (if x4 < x0 then ((regimenref02_Times.f k x3 [(10 : Int)]).bind fun t1 => (regimenref05_Tens.l0 k x0 t1 (wrap64 (x4 + (1 : Int))))) else (some x3))
def regimenref05_Tens.nf (k : Nat) (a0 : Int) : Option (List Int) := (regimenref05_Tens.l0 k a0 [(1 : Int)] (0 : Int))
noncomputable def regimenref05_Tens.E : Env (List Int) := envOf tab Tryz.f87 false (.sl (.int .u64)) [] (fun y => y) [(58, regimenref02_Times.c)] [⟨3, ⟨15, [(0, (.int .i64), []), (3, (.sl (.int .u64)), []), (4, (.int .i64), [])], [], []⟩, fun k y => regimenref05_Tens.l0 k y.1.1 y.1.2.1 y.1.2.2.1⟩] []
theorem regimenref05_Tens.h1 : obls regimenref05_Tens.E Tryz.f87 = [⟨(.cons (.cons (.int .i64) (.cons (.sl (.int .u64)) (.cons (.int .i64) .nil))) (.cons .nil (.cons .nil .nil))), fun k y => regimenref05_Tens.l0 (k + 1) y.1.1 y.1.2.1 y.1.2.2.1, fun k y => regimenref05_Tens.nl0 k y.1.1 y.1.2.1 y.1.2.2.1⟩, ⟨(.cons (.cons (.int .i64) (.cons (.sl (.int .u64)) (.cons (.int .i64) .nil))) (.cons .nil (.cons .nil .nil))), fun _ y => regimenref05_Tens.l0 0 y.1.1 y.1.2.1 y.1.2.2.1, fun _ _ => none⟩] := by kernel_rfl
theorem regimenref05_Tens.h2 : (fun k (x : El (.cons (.int .i64) .nil)) => regimenref05_Tens.nf k x.1) = fun k x => mainK regimenref05_Tens.E Tryz.f87 (.cons (.int .i64) .nil) k x := by kernel_rfl
theorem regimenref05_Tens.bl0 (k : Nat) (x0 : Int) (x3 : List Int) (x4 : Int) : Lo (regimenref05_Tens.l0 (k + 1) x0 x3 x4) (regimenref05_Tens.nl0 k x0 x3 x4) := by
  rw [regimenref05_Tens.l0]
  unfold regimenref05_Tens.nl0
  try simp only [Bool.false_xor, Bool.true_xor, wu8_64, wu8_u64, byL_nums, btS_bt, nil_tl, beq_decL, beq_decI]
  repeat' first
    | (with_reducible exact lo_refl _)
    | exact lo_none _
    | (with_reducible refine lo_ite (fun _ => ?_) (fun _ => ?_))
    | (with_reducible refine lo_bind (fun _ => ?_))
    | (with_reducible refine lo_left ?_)
    | (refine lo_pos (by first | assumption | omega) ?_)
    | (refine lo_neg (by first | assumption | omega) ?_)
    | (with_reducible refine lo_test (fun _ => by first | assumption | omega) (fun _ => ?_))
    | exact lo_refl _
    | refine lo_ite (fun _ => ?_) (fun _ => ?_)
    | refine lo_bind (fun _ => ?_)
    | (refine lo_some ?_; first | rfl | (rw [Bool.false_xor]; rfl))
  all_goals (exfalso; first | omega | (simp_all; done) | (simp_all; omega))
set_option maxHeartbeats 2000000 in
theorem regimenref05_Tens.bf (k : Nat) (a0 : Int) : Lo (regimenref05_Tens.f k a0) (regimenref05_Tens.nf k a0) := by
  unfold regimenref05_Tens.f regimenref05_Tens.nf
  try simp only [Bool.false_xor, Bool.true_xor, wu8_64, wu8_u64, byL_nums, btS_bt, nil_tl, beq_decL, beq_decI]
  repeat' first
    | (with_reducible exact lo_refl _)
    | exact lo_none _
    | (with_reducible refine lo_ite (fun _ => ?_) (fun _ => ?_))
    | (with_reducible refine lo_bind (fun _ => ?_))
    | (with_reducible refine lo_left ?_)
    | (refine lo_pos (by first | assumption | omega) ?_)
    | (refine lo_neg (by first | assumption | omega) ?_)
    | (with_reducible refine lo_test (fun _ => by first | assumption | omega) (fun _ => ?_))
    | exact lo_refl _
    | refine lo_ite (fun _ => ?_) (fun _ => ?_)
    | refine lo_bind (fun _ => ?_)
    | (refine lo_some ?_; first | rfl | (rw [Bool.false_xor]; rfl))
  all_goals (exfalso; first | omega | (simp_all; done) | (simp_all; omega))
theorem regimenref05_Tens.al : AllLe (obls regimenref05_Tens.E Tryz.f87) := by
  rw [regimenref05_Tens.h1]
  exact (.cons (fun k y r h => regimenref05_Tens.bl0 k y.1.1 y.1.2.1 y.1.2.2.1 r h) (.cons (fun _ y r h => by simp [regimenref05_Tens.l0] at h) .nil))
theorem regimenref05_Tens.ok : CalleeOk Tryz.prog 87 regimenref05_Tens.c := fn_ok tabOk mixed (fun _ => rfl) Tryz.func87 rfl (by kernel_rfl) (ok_cons regimenref02_Times.ok ok_nil) regimenref05_Tens.al (fun k x r h => (congrFun (congrFun regimenref05_Tens.h2 k) x).symm.trans (regimenref05_Tens.bf k _ r h))
def regimenref02_digit.c : Sym.Callee := ⟨(.cons (.sl (.int .u64)) (.cons (.int .i64) .nil)), (.int .u64), false, Int, fun k x => regimenref02_digit.f x.1 x.2.1, fun z => z, []⟩
def regimenref02_digit.nf (k : Nat) (a0 : List Int) (a1 : Int) : Option (Int) := (if a1 < (a0.length : Int) then (if 0 ≤ a1 then (if a1 < (a0.length : Int) then (some (a0.getD (a1).toNat 0)) else none) else none) else (some (0 : Int)))
noncomputable def regimenref02_digit.E : Env (Int) := envOf tab Tryz.f83 false (.int .u64) [] (fun y => y) [] [] []
theorem regimenref02_digit.h1 : obls regimenref02_digit.E Tryz.f83 = [] := by kernel_rfl
theorem regimenref02_digit.h2 : (fun k (x : El (.cons (.sl (.int .u64)) (.cons (.int .i64) .nil))) => regimenref02_digit.nf k x.1 x.2.1) = fun k x => mainK regimenref02_digit.E Tryz.f83 (.cons (.sl (.int .u64)) (.cons (.int .i64) .nil)) k x := by kernel_rfl
set_option maxHeartbeats 2000000 in
theorem regimenref02_digit.bf (k : Nat) (a0 : List Int) (a1 : Int) : Lo (regimenref02_digit.f a0 a1) (regimenref02_digit.nf k a0 a1) := by
  unfold regimenref02_digit.f regimenref02_digit.nf
  try simp only [Bool.false_xor, Bool.true_xor, wu8_64, wu8_u64, byL_nums, btS_bt, nil_tl, beq_decL, beq_decI]
  repeat' first
    | (with_reducible exact lo_refl _)
    | exact lo_none _
    | (with_reducible refine lo_ite (fun _ => ?_) (fun _ => ?_))
    | (with_reducible refine lo_bind (fun _ => ?_))
    | (with_reducible refine lo_left ?_)
    | (refine lo_pos (by first | assumption | omega) ?_)
    | (refine lo_neg (by first | assumption | omega) ?_)
    | (with_reducible refine lo_test (fun _ => by first | assumption | omega) (fun _ => ?_))
    | exact lo_refl _
    | refine lo_ite (fun _ => ?_) (fun _ => ?_)
    | refine lo_bind (fun _ => ?_)
    | (refine lo_some ?_; first | rfl | (rw [Bool.false_xor]; rfl))
  all_goals (exfalso; first | omega | (simp_all; done) | (simp_all; omega))
theorem regimenref02_digit.al : AllLe (obls regimenref02_digit.E Tryz.f83) := by
  rw [regimenref02_digit.h1]
  exact .nil
theorem regimenref02_digit.ok : CalleeOk Tryz.prog 83 regimenref02_digit.c := fn_ok tabOk mixed (fun _ => rfl) Tryz.func83 rfl (by kernel_rfl) ok_nil regimenref02_digit.al (fun k x r h => (congrFun (congrFun regimenref02_digit.h2 k) x).symm.trans (regimenref02_digit.bf k _ _ r h))
def regimenref02_Plus.c : Sym.Callee := ⟨(.cons (.sl (.int .u64)) (.cons (.sl (.int .u64)) .nil)), (.sl (.int .u64)), false, List Int, fun k x => regimenref02_Plus.f k x.1 x.2.1, fun z => z, []⟩
def regimenref02_Plus.nl0 (k : Nat) (x0 : List Int) (x1 : List Int) (x5 : List Int) (x6 : Int) (x7 : Int) : Option (List Int) := (if x7 < (x0.length : Int) then ((regimenref02_digit.f x0 x7).bind fun t1 => ((regimenref02_digit.f x1 x7).bind fun t2 => (if (65536 : Int) = 0 then none else (if (x5.length + [(Int.tmod (IntKind.wrap .u64 ((IntKind.wrap .u64 (t1 + t2)) + x6)) (65536 : Int))].length) * 8 ≤ 140737488355328 then (if (65536 : Int) = 0 then none else (regimenref02_Plus.l0 k x0 x1 (x5 ++ [(Int.tmod (IntKind.wrap .u64 ((IntKind.wrap .u64 (t1 + t2)) + x6)) (65536 : Int))]) (IntKind.wrap .u64 (Int.tdiv (IntKind.wrap .u64 ((IntKind.wrap .u64 (t1 + t2)) + x6)) (65536 : Int))) (wrap64 (x7 + (1 : Int))))) else none)))) else (if x7 < (x1.length : Int) then ((regimenref02_digit.f x0 x7).bind fun t3 => ((regimenref02_digit.f x1 x7).bind fun t4 => (if (65536 : Int) = 0 then none else (if (x5.length + [(Int.tmod (IntKind.wrap .u64 ((IntKind.wrap .u64 (t3 + t4)) + x6)) (65536 : Int))].length) * 8 ≤ 140737488355328 then (if (65536 : Int) = 0 then none else (regimenref02_Plus.l0 k x0 x1 (x5 ++ [(Int.tmod (IntKind.wrap .u64 ((IntKind.wrap .u64 (t3 + t4)) + x6)) (65536 : Int))]) (IntKind.wrap .u64 (Int.tdiv (IntKind.wrap .u64 ((IntKind.wrap .u64 (t3 + t4)) + x6)) (65536 : Int))) (wrap64 (x7 + (1 : Int))))) else none)))) else (if x6 > (0 : Int) then ((regimenref02_digit.f x0 x7).bind fun t5 => ((regimenref02_digit.f x1 x7).bind fun t6 => (if (65536 : Int) = 0 then none else (if (x5.length + [(Int.tmod (IntKind.wrap .u64 ((IntKind.wrap .u64 (t5 + t6)) + x6)) (65536 : Int))].length) * 8 ≤ 140737488355328 then (if (65536 : Int) = 0 then none else (regimenref02_Plus.l0 k x0 x1 (x5 ++ [(Int.tmod (IntKind.wrap .u64 ((IntKind.wrap .u64 (t5 + t6)) + x6)) (65536 : Int))]) (IntKind.wrap .u64 (Int.tdiv (IntKind.wrap .u64 ((IntKind.wrap .u64 (t5 + t6)) + x6)) (65536 : Int))) (wrap64 (x7 + (1 : Int))))) else none)))) else (some x5))))
def regimenref02_Plus.nf (k : Nat) (a0 : List Int) (a1 : List Int) : Option (List Int) := (regimenref02_Plus.l0 k a0 a1 ([] : List Int) (0 : Int) (0 : Int))
noncomputable def regimenref02_Plus.E : Env (List Int) := envOf tab Tryz.f57 false (.sl (.int .u64)) [] (fun y => y) [(83, regimenref02_digit.c)] [⟨4, ⟨43, [(0, (.sl (.int .u64)), []), (1, (.sl (.int .u64)), []), (5, (.sl (.int .u64)), [⟨0, 6, 99, 1⟩]), (6, (.int .u64), []), (7, (.int .i64), [])], [], []⟩, fun k y => regimenref02_Plus.l0 k y.1.1 y.1.2.1 y.1.2.2.1 y.1.2.2.2.1 y.1.2.2.2.2.1⟩] []
theorem regimenref02_Plus.h1 : obls regimenref02_Plus.E Tryz.f57 = [⟨(.cons (.cons (.sl (.int .u64)) (.cons (.sl (.int .u64)) (.cons (.sl (.int .u64)) (.cons (.int .u64) (.cons (.int .i64) .nil))))) (.cons .nil (.cons .nil .nil))), fun k y => regimenref02_Plus.l0 (k + 1) y.1.1 y.1.2.1 y.1.2.2.1 y.1.2.2.2.1 y.1.2.2.2.2.1, fun k y => regimenref02_Plus.nl0 k y.1.1 y.1.2.1 y.1.2.2.1 y.1.2.2.2.1 y.1.2.2.2.2.1⟩, ⟨(.cons (.cons (.sl (.int .u64)) (.cons (.sl (.int .u64)) (.cons (.sl (.int .u64)) (.cons (.int .u64) (.cons (.int .i64) .nil))))) (.cons .nil (.cons .nil .nil))), fun _ y => regimenref02_Plus.l0 0 y.1.1 y.1.2.1 y.1.2.2.1 y.1.2.2.2.1 y.1.2.2.2.2.1, fun _ _ => none⟩] := by kernel_rfl
theorem regimenref02_Plus.h2 : (fun k (x : El (.cons (.sl (.int .u64)) (.cons (.sl (.int .u64)) .nil))) => regimenref02_Plus.nf k x.1 x.2.1) = fun k x => mainK regimenref02_Plus.E Tryz.f57 (.cons (.sl (.int .u64)) (.cons (.sl (.int .u64)) .nil)) k x := by kernel_rfl
theorem regimenref02_Plus.bl0 (k : Nat) (x0 : List Int) (x1 : List Int) (x5 : List Int) (x6 : Int) (x7 : Int) : Lo (regimenref02_Plus.l0 (k + 1) x0 x1 x5 x6 x7) (regimenref02_Plus.nl0 k x0 x1 x5 x6 x7) := by
  rw [regimenref02_Plus.l0]
  unfold regimenref02_Plus.nl0
  try simp only [Bool.false_xor, Bool.true_xor, wu8_64, wu8_u64, byL_nums, btS_bt, nil_tl, beq_decL, beq_decI]
  repeat' first
    | (with_reducible exact lo_refl _)
    | exact lo_none _
    | (with_reducible refine lo_lpos (by first | assumption | decide) ?_)
    | (with_reducible refine lo_lneg (by first | assumption | decide) ?_)
    | (with_reducible refine lo_ite (fun _ => ?_) (fun _ => ?_))
    | (with_reducible refine lo_bind (fun _ => ?_))
    | (with_reducible refine lo_left ?_)
    | (refine lo_neg (by decide) ?_)
    | (refine lo_pos (by first | assumption | omega) ?_)
    | (refine lo_neg (by first | assumption | omega) ?_)
    | (refine lo_trans (fun r h => (regimenref02_Plus.mono_l _).2 _ _ _ _ _ _ r h) ?_; rw [regimenref02_Plus.j1]; try simp only [decide_eq_true_eq])
    | (with_reducible refine lo_test (fun _ => by first | assumption | omega | (simp only [List.length_cons, List.length_nil]; omega) | decide) (fun _ => ?_))
    | (with_reducible refine lo_testn (fun _ => by first | assumption | omega) (fun _ => ?_))
    | (with_reducible refine lo_and (fun z => by first | exact z.1 | omega) (fun z => by first | exact z.2 | omega) (fun _ => ?_))
    | exact lo_refl _
    | (with_reducible refine lo_iff (by first | exact Iff.rfl | omega | (simp; done) | decide) (fun _ => ?_) (fun _ => ?_))
    | (with_reducible refine lo_iffn (by first | exact Iff.rfl | omega | (simp; done) | decide) (fun _ => ?_) (fun _ => ?_))
    | refine lo_ite (fun _ => ?_) (fun _ => ?_)
    | refine lo_bind (fun _ => ?_)
    | (refine lo_some ?_; first | rfl | (rw [Bool.false_xor]; rfl) | (rw [Bool.true_xor]; rfl) | (simp only [Bool.and_true]; rfl) | (simp; done))
    | (simp only [Int.zero_sub]; exact lo_refl _)
    | (with_reducible refine lo_lpos (by omega) ?_)
    | (with_reducible refine lo_lneg (by omega) ?_)
    | (with_reducible refine lo_lite (fun _ => ?_) (fun _ => ?_))
    | (with_reducible refine lo_rite (fun _ => ?_) (fun _ => ?_))
  all_goals (exfalso; first | omega | (simp_all; done) | (simp_all; omega))
set_option maxHeartbeats 2000000 in
theorem regimenref02_Plus.bf (k : Nat) (a0 : List Int) (a1 : List Int) : Lo (regimenref02_Plus.f k a0 a1) (regimenref02_Plus.nf k a0 a1) := by
  unfold regimenref02_Plus.f regimenref02_Plus.nf
  try simp only [Bool.false_xor, Bool.true_xor, wu8_64, wu8_u64, byL_nums, btS_bt, nil_tl, beq_decL, beq_decI]
  repeat' first
    | (with_reducible exact lo_refl _)
    | exact lo_none _
    | (with_reducible refine lo_ite (fun _ => ?_) (fun _ => ?_))
    | (with_reducible refine lo_bind (fun _ => ?_))
    | (with_reducible refine lo_left ?_)
    | (refine lo_pos (by first | assumption | omega) ?_)
    | (refine lo_neg (by first | assumption | omega) ?_)
    | (with_reducible refine lo_test (fun _ => by first | assumption | omega) (fun _ => ?_))
    | exact lo_refl _
    | refine lo_ite (fun _ => ?_) (fun _ => ?_)
    | refine lo_bind (fun _ => ?_)
    | (refine lo_some ?_; first | rfl | (rw [Bool.false_xor]; rfl))
  all_goals (exfalso; first | omega | (simp_all; done) | (simp_all; omega))
theorem regimenref02_Plus.al : AllLe (obls regimenref02_Plus.E Tryz.f57) := by
  rw [regimenref02_Plus.h1]
  exact (.cons (fun k y r h => regimenref02_Plus.bl0 k y.1.1 y.1.2.1 y.1.2.2.1 y.1.2.2.2.1 y.1.2.2.2.2.1 r h) (.cons (fun _ y r h => by simp [regimenref02_Plus.l0] at h) .nil))
theorem regimenref02_Plus.ok : CalleeOk Tryz.prog 57 regimenref02_Plus.c := fn_ok tabOk mixed (fun _ => rfl) Tryz.func57 rfl (by kernel_rfl) (ok_cons regimenref02_digit.ok ok_nil) regimenref02_Plus.al (fun k x r h => (congrFun (congrFun regimenref02_Plus.h2 k) x).symm.trans (regimenref02_Plus.bf k _ _ r h))
def regimenref02_Twos.c : Sym.Callee := ⟨(.cons (.int .i64) .nil), (.sl (.int .u64)), false, List Int, fun k x => regimenref02_Twos.f k x.1, fun z => z, []⟩
def regimenref02_Twos.nl0 (k : Nat) (x0 : Int) (x3 : List Int) (x4 : Int) : Option (List Int) := (if x4 < x0 then ((regimenref02_Plus.f k x3 x3).bind fun t1 => (regimenref02_Twos.l0 k x0 t1 (wrap64 (x4 + (1 : Int))))) else (some x3))
def regimenref02_Twos.nf (k : Nat) (a0 : Int) : Option (List Int) := (regimenref02_Twos.l0 k a0 [(1 : Int)] (0 : Int))
noncomputable def regimenref02_Twos.E : Env (List Int) := envOf tab Tryz.f85 false (.sl (.int .u64)) [] (fun y => y) [(57, regimenref02_Plus.c)] [⟨3, ⟨15, [(0, (.int .i64), []), (3, (.sl (.int .u64)), []), (4, (.int .i64), [])], [], []⟩, fun k y => regimenref02_Twos.l0 k y.1.1 y.1.2.1 y.1.2.2.1⟩] []
theorem regimenref02_Twos.h1 : obls regimenref02_Twos.E Tryz.f85 = [⟨(.cons (.cons (.int .i64) (.cons (.sl (.int .u64)) (.cons (.int .i64) .nil))) (.cons .nil (.cons .nil .nil))), fun k y => regimenref02_Twos.l0 (k + 1) y.1.1 y.1.2.1 y.1.2.2.1, fun k y => regimenref02_Twos.nl0 k y.1.1 y.1.2.1 y.1.2.2.1⟩, ⟨(.cons (.cons (.int .i64) (.cons (.sl (.int .u64)) (.cons (.int .i64) .nil))) (.cons .nil (.cons .nil .nil))), fun _ y => regimenref02_Twos.l0 0 y.1.1 y.1.2.1 y.1.2.2.1, fun _ _ => none⟩] := by kernel_rfl
theorem regimenref02_Twos.h2 : (fun k (x : El (.cons (.int .i64) .nil)) => regimenref02_Twos.nf k x.1) = fun k x => mainK regimenref02_Twos.E Tryz.f85 (.cons (.int .i64) .nil) k x := by kernel_rfl
theorem regimenref02_Twos.bl0 (k : Nat) (x0 : Int) (x3 : List Int) (x4 : Int) : Lo (regimenref02_Twos.l0 (k + 1) x0 x3 x4) (regimenref02_Twos.nl0 k x0 x3 x4) := by
  rw [regimenref02_Twos.l0]
  unfold regimenref02_Twos.nl0
  try simp only [Bool.false_xor, Bool.true_xor, wu8_64, wu8_u64, byL_nums, btS_bt, nil_tl, beq_decL, beq_decI]
  repeat' first
    | (with_reducible exact lo_refl _)
    | exact lo_none _
    | (with_reducible refine lo_ite (fun _ => ?_) (fun _ => ?_))
    | (with_reducible refine lo_bind (fun _ => ?_))
    | (with_reducible refine lo_left ?_)
    | (refine lo_pos (by first | assumption | omega) ?_)
    | (refine lo_neg (by first | assumption | omega) ?_)
    | (with_reducible refine lo_test (fun _ => by first | assumption | omega) (fun _ => ?_))
    | exact lo_refl _
    | refine lo_ite (fun _ => ?_) (fun _ => ?_)
    | refine lo_bind (fun _ => ?_)
    | (refine lo_some ?_; first | rfl | (rw [Bool.false_xor]; rfl))
  all_goals (exfalso; first | omega | (simp_all; done) | (simp_all; omega))
set_option maxHeartbeats 2000000 in
theorem regimenref02_Twos.bf (k : Nat) (a0 : Int) : Lo (regimenref02_Twos.f k a0) (regimenref02_Twos.nf k a0) := by
  unfold regimenref02_Twos.f regimenref02_Twos.nf
  try simp only [Bool.false_xor, Bool.true_xor, wu8_64, wu8_u64, byL_nums, btS_bt, nil_tl, beq_decL, beq_decI]
  repeat' first
    | (with_reducible exact lo_refl _)
    | exact lo_none _
    | (with_reducible refine lo_ite (fun _ => ?_) (fun _ => ?_))
    | (with_reducible refine lo_bind (fun _ => ?_))
    | (with_reducible refine lo_left ?_)
    | (refine lo_pos (by first | assumption | omega) ?_)
    | (refine lo_neg (by first | assumption | omega) ?_)
    | (with_reducible refine lo_test (fun _ => by first | assumption | omega) (fun _ => ?_))
    | exact lo_refl _
    | refine lo_ite (fun _ => ?_) (fun _ => ?_)
    | refine lo_bind (fun _ => ?_)
    | (refine lo_some ?_; first | rfl | (rw [Bool.false_xor]; rfl))
  all_goals (exfalso; first | omega | (simp_all; done) | (simp_all; omega))
theorem regimenref02_Twos.al : AllLe (obls regimenref02_Twos.E Tryz.f85) := by
  rw [regimenref02_Twos.h1]
  exact (.cons (fun k y r h => regimenref02_Twos.bl0 k y.1.1 y.1.2.1 y.1.2.2.1 r h) (.cons (fun _ y r h => by simp [regimenref02_Twos.l0] at h) .nil))
theorem regimenref02_Twos.ok : CalleeOk Tryz.prog 85 regimenref02_Twos.c := fn_ok tabOk mixed (fun _ => rfl) Tryz.func85 rfl (by kernel_rfl) (ok_cons regimenref02_Plus.ok ok_nil) regimenref02_Twos.al (fun k x r h => (congrFun (congrFun regimenref02_Twos.h2 k) x).symm.trans (regimenref02_Twos.bf k _ r h))
def regimenref02_Cmp.c : Sym.Callee := ⟨(.cons (.sl (.int .u64)) (.cons (.sl (.int .u64)) .nil)), (.int .i64), false, Int, fun k x => regimenref02_Cmp.f k x.1 x.2.1, fun z => z, []⟩
def regimenref02_Cmp.nj0 (k : Nat) (x0 : List Int) (x1 : List Int) (x5 : Int) : Option (Int) := (regimenref02_Cmp.l0 k x0 x1 (wrap64 (x5 - (1 : Int))))
def regimenref02_Cmp.nl0 (k : Nat) (x0 : List Int) (x1 : List Int) (x6 : Int) : Option (Int) := (if x6 ≥ (0 : Int) then ((regimenref02_digit.f x0 x6).bind fun t1 => ((regimenref02_digit.f x1 x6).bind fun t2 => (if t1 < t2 then (some (-1 : Int)) else ((regimenref02_digit.f x0 x6).bind fun t3 => ((regimenref02_digit.f x1 x6).bind fun t4 => (if t3 > t4 then (some (1 : Int)) else (regimenref02_Cmp.l0 k x0 x1 (wrap64 (x6 - (1 : Int)))))))))) else (some (0 : Int)))
def regimenref02_Cmp.nf (k : Nat) (a0 : List Int) (a1 : List Int) : Option (Int) := (if (a1.length : Int) > (a0.length : Int) then (regimenref02_Cmp.j0 k a0 a1 (a1.length : Int)) else (regimenref02_Cmp.j0 k a0 a1 (a0.length : Int)))
noncomputable def regimenref02_Cmp.E : Env (Int) := envOf tab Tryz.f84 false (.int .i64) [] (fun y => y) [(83, regimenref02_digit.c)] [⟨5, ⟨35, [(0, (.sl (.int .u64)), []), (1, (.sl (.int .u64)), []), (6, (.int .i64), [])], [], []⟩, fun k y => regimenref02_Cmp.l0 k y.1.1 y.1.2.1 y.1.2.2.1⟩] [⟨4, ⟨35, [(0, (.sl (.int .u64)), []), (1, (.sl (.int .u64)), []), (5, (.int .i64), [])], [], []⟩, fun k y => regimenref02_Cmp.j0 k y.1.1 y.1.2.1 y.1.2.2.1⟩]
theorem regimenref02_Cmp.h1 : obls regimenref02_Cmp.E Tryz.f84 = [⟨(.cons (.cons (.sl (.int .u64)) (.cons (.sl (.int .u64)) (.cons (.int .i64) .nil))) (.cons .nil (.cons .nil .nil))), fun k y => regimenref02_Cmp.j0 (k + 1) y.1.1 y.1.2.1 y.1.2.2.1, fun k y => regimenref02_Cmp.nj0 k y.1.1 y.1.2.1 y.1.2.2.1⟩, ⟨(.cons (.cons (.sl (.int .u64)) (.cons (.sl (.int .u64)) (.cons (.int .i64) .nil))) (.cons .nil (.cons .nil .nil))), fun _ y => regimenref02_Cmp.j0 0 y.1.1 y.1.2.1 y.1.2.2.1, fun _ _ => none⟩, ⟨(.cons (.cons (.sl (.int .u64)) (.cons (.sl (.int .u64)) (.cons (.int .i64) .nil))) (.cons .nil (.cons .nil .nil))), fun k y => regimenref02_Cmp.l0 (k + 1) y.1.1 y.1.2.1 y.1.2.2.1, fun k y => regimenref02_Cmp.nl0 k y.1.1 y.1.2.1 y.1.2.2.1⟩, ⟨(.cons (.cons (.sl (.int .u64)) (.cons (.sl (.int .u64)) (.cons (.int .i64) .nil))) (.cons .nil (.cons .nil .nil))), fun _ y => regimenref02_Cmp.l0 0 y.1.1 y.1.2.1 y.1.2.2.1, fun _ _ => none⟩] := by kernel_rfl
theorem regimenref02_Cmp.h2 : (fun k (x : El (.cons (.sl (.int .u64)) (.cons (.sl (.int .u64)) .nil))) => regimenref02_Cmp.nf k x.1 x.2.1) = fun k x => mainK regimenref02_Cmp.E Tryz.f84 (.cons (.sl (.int .u64)) (.cons (.sl (.int .u64)) .nil)) k x := by kernel_rfl
theorem regimenref02_Cmp.bj0 (k : Nat) (x0 : List Int) (x1 : List Int) (x5 : Int) : Lo (regimenref02_Cmp.j0 (k + 1) x0 x1 x5) (regimenref02_Cmp.nj0 k x0 x1 x5) := by
  rw [regimenref02_Cmp.j0]
  unfold regimenref02_Cmp.nj0
  try simp only [Bool.false_xor, Bool.true_xor, wu8_64, wu8_u64, byL_nums, btS_bt, nil_tl, beq_decL, beq_decI]
  repeat' first
    | (with_reducible exact lo_refl _)
    | exact lo_none _
    | (with_reducible refine lo_ite (fun _ => ?_) (fun _ => ?_))
    | (with_reducible refine lo_bind (fun _ => ?_))
    | (with_reducible refine lo_left ?_)
    | (refine lo_pos (by first | assumption | omega) ?_)
    | (refine lo_neg (by first | assumption | omega) ?_)
    | (with_reducible refine lo_test (fun _ => by first | assumption | omega) (fun _ => ?_))
    | exact lo_refl _
    | refine lo_ite (fun _ => ?_) (fun _ => ?_)
    | refine lo_bind (fun _ => ?_)
    | (refine lo_some ?_; first | rfl | (rw [Bool.false_xor]; rfl))
  all_goals (exfalso; first | omega | (simp_all; done) | (simp_all; omega))
theorem regimenref02_Cmp.bl0 (k : Nat) (x0 : List Int) (x1 : List Int) (x6 : Int) : Lo (regimenref02_Cmp.l0 (k + 1) x0 x1 x6) (regimenref02_Cmp.nl0 k x0 x1 x6) := by
  rw [regimenref02_Cmp.l0]
  unfold regimenref02_Cmp.nl0
  try simp only [Bool.false_xor, Bool.true_xor, wu8_64, wu8_u64, byL_nums, btS_bt, nil_tl, beq_decL, beq_decI]
  repeat' first
    | (with_reducible exact lo_refl _)
    | exact lo_none _
    | (with_reducible refine lo_ite (fun _ => ?_) (fun _ => ?_))
    | (with_reducible refine lo_bind (fun _ => ?_))
    | (with_reducible refine lo_left ?_)
    | (refine lo_pos (by first | assumption | omega) ?_)
    | (refine lo_neg (by first | assumption | omega) ?_)
    | (with_reducible refine lo_test (fun _ => by first | assumption | omega) (fun _ => ?_))
    | exact lo_refl _
    | refine lo_ite (fun _ => ?_) (fun _ => ?_)
    | refine lo_bind (fun _ => ?_)
    | (refine lo_some ?_; first | rfl | (rw [Bool.false_xor]; rfl))
  all_goals (exfalso; first | omega | (simp_all; done) | (simp_all; omega))
set_option maxHeartbeats 2000000 in
theorem regimenref02_Cmp.bf (k : Nat) (a0 : List Int) (a1 : List Int) : Lo (regimenref02_Cmp.f k a0 a1) (regimenref02_Cmp.nf k a0 a1) := by
  unfold regimenref02_Cmp.f regimenref02_Cmp.nf
  try simp only [Bool.false_xor, Bool.true_xor, wu8_64, wu8_u64, byL_nums, btS_bt, nil_tl, beq_decL, beq_decI]
  repeat' first
    | (with_reducible exact lo_refl _)
    | exact lo_none _
    | (with_reducible refine lo_ite (fun _ => ?_) (fun _ => ?_))
    | (with_reducible refine lo_bind (fun _ => ?_))
    | (with_reducible refine lo_left ?_)
    | (refine lo_pos (by first | assumption | omega) ?_)
    | (refine lo_neg (by first | assumption | omega) ?_)
    | (with_reducible refine lo_test (fun _ => by first | assumption | omega) (fun _ => ?_))
    | exact lo_refl _
    | refine lo_ite (fun _ => ?_) (fun _ => ?_)
    | refine lo_bind (fun _ => ?_)
    | (refine lo_some ?_; first | rfl | (rw [Bool.false_xor]; rfl))
  all_goals (exfalso; first | omega | (simp_all; done) | (simp_all; omega))
theorem regimenref02_Cmp.al : AllLe (obls regimenref02_Cmp.E Tryz.f84) := by
  rw [regimenref02_Cmp.h1]
  exact (.cons (fun k y r h => regimenref02_Cmp.bj0 k y.1.1 y.1.2.1 y.1.2.2.1 r h) (.cons (fun _ y r h => by simp [regimenref02_Cmp.j0] at h) (.cons (fun k y r h => regimenref02_Cmp.bl0 k y.1.1 y.1.2.1 y.1.2.2.1 r h) (.cons (fun _ y r h => by simp [regimenref02_Cmp.l0] at h) .nil))))
theorem regimenref02_Cmp.ok : CalleeOk Tryz.prog 84 regimenref02_Cmp.c := fn_ok tabOk mixed (fun _ => rfl) Tryz.func84 rfl (by kernel_rfl) (ok_cons regimenref02_digit.ok ok_nil) regimenref02_Cmp.al (fun k x r h => (congrFun (congrFun regimenref02_Cmp.h2 k) x).symm.trans (regimenref02_Cmp.bf k _ _ r h))
def regimenref02_Less.c : Sym.Callee := ⟨(.cons (.sl (.int .u64)) (.cons (.sl (.int .u64)) .nil)), (.sl (.int .u64)), false, List Int, fun k x => regimenref02_Less.f k x.1 x.2.1, fun z => z, []⟩
def regimenref02_Less.nl0 (k : Nat) (x0 : List Int) (x1 : List Int) (x5 : List Int) (x6 : Int) (x7 : Int) : Option (List Int) := (if x7 < (x0.length : Int) then (if 0 ≤ x7 then (if x7 < (x0.length : Int) then ((regimenref02_digit.f x1 x7).bind fun t1 => (if (65536 : Int) = 0 then none else (if (x5.length + [(Int.tmod (IntKind.wrap .u64 ((IntKind.wrap .u64 ((IntKind.wrap .u64 ((65536 : Int) + (x0.getD (x7).toNat 0))) - t1)) - x6)) (65536 : Int))].length) * 8 ≤ 140737488355328 then (if (65536 : Int) = 0 then none else (regimenref02_Less.l0 k x0 x1 (x5 ++ [(Int.tmod (IntKind.wrap .u64 ((IntKind.wrap .u64 ((IntKind.wrap .u64 ((65536 : Int) + (x0.getD (x7).toNat 0))) - t1)) - x6)) (65536 : Int))]) (IntKind.wrap .u64 ((1 : Int) - (IntKind.wrap .u64 (Int.tdiv (IntKind.wrap .u64 ((IntKind.wrap .u64 ((IntKind.wrap .u64 ((65536 : Int) + (x0.getD (x7).toNat 0))) - t1)) - x6)) (65536 : Int))))) (wrap64 (x7 + (1 : Int))))) else none))) else none) else none) else (some x5))
def regimenref02_Less.nf (k : Nat) (a0 : List Int) (a1 : List Int) : Option (List Int) := (regimenref02_Less.l0 k a0 a1 ([] : List Int) (0 : Int) (0 : Int))
noncomputable def regimenref02_Less.E : Env (List Int) := envOf tab Tryz.f101 false (.sl (.int .u64)) [] (fun y => y) [(83, regimenref02_digit.c)] [⟨4, ⟨36, [(0, (.sl (.int .u64)), []), (1, (.sl (.int .u64)), []), (5, (.sl (.int .u64)), [⟨0, 6, 99, 1⟩]), (6, (.int .u64), []), (7, (.int .i64), [])], [], []⟩, fun k y => regimenref02_Less.l0 k y.1.1 y.1.2.1 y.1.2.2.1 y.1.2.2.2.1 y.1.2.2.2.2.1⟩] []
theorem regimenref02_Less.h1 : obls regimenref02_Less.E Tryz.f101 = [⟨(.cons (.cons (.sl (.int .u64)) (.cons (.sl (.int .u64)) (.cons (.sl (.int .u64)) (.cons (.int .u64) (.cons (.int .i64) .nil))))) (.cons .nil (.cons .nil .nil))), fun k y => regimenref02_Less.l0 (k + 1) y.1.1 y.1.2.1 y.1.2.2.1 y.1.2.2.2.1 y.1.2.2.2.2.1, fun k y => regimenref02_Less.nl0 k y.1.1 y.1.2.1 y.1.2.2.1 y.1.2.2.2.1 y.1.2.2.2.2.1⟩, ⟨(.cons (.cons (.sl (.int .u64)) (.cons (.sl (.int .u64)) (.cons (.sl (.int .u64)) (.cons (.int .u64) (.cons (.int .i64) .nil))))) (.cons .nil (.cons .nil .nil))), fun _ y => regimenref02_Less.l0 0 y.1.1 y.1.2.1 y.1.2.2.1 y.1.2.2.2.1 y.1.2.2.2.2.1, fun _ _ => none⟩] := by kernel_rfl
theorem regimenref02_Less.h2 : (fun k (x : El (.cons (.sl (.int .u64)) (.cons (.sl (.int .u64)) .nil))) => regimenref02_Less.nf k x.1 x.2.1) = fun k x => mainK regimenref02_Less.E Tryz.f101 (.cons (.sl (.int .u64)) (.cons (.sl (.int .u64)) .nil)) k x := by kernel_rfl
theorem regimenref02_Less.bl0 (k : Nat) (x0 : List Int) (x1 : List Int) (x5 : List Int) (x6 : Int) (x7 : Int) : Lo (regimenref02_Less.l0 (k + 1) x0 x1 x5 x6 x7) (regimenref02_Less.nl0 k x0 x1 x5 x6 x7) := by
  rw [regimenref02_Less.l0]
  unfold regimenref02_Less.nl0
  try simp only [Bool.false_xor, Bool.true_xor, wu8_64, wu8_u64, byL_nums, btS_bt, nil_tl, beq_decL, beq_decI]
  repeat' first
    | (with_reducible exact lo_refl _)
    | exact lo_none _
    | (with_reducible refine lo_lpos (by first | assumption | decide) ?_)
    | (with_reducible refine lo_lneg (by first | assumption | decide) ?_)
    | (with_reducible refine lo_ite (fun _ => ?_) (fun _ => ?_))
    | (with_reducible refine lo_bind (fun _ => ?_))
    | (with_reducible refine lo_left ?_)
    | (refine lo_neg (by decide) ?_)
    | (refine lo_pos (by first | assumption | omega) ?_)
    | (refine lo_neg (by first | assumption | omega) ?_)
    | (with_reducible refine lo_test (fun _ => by first | assumption | omega | (simp only [List.length_cons, List.length_nil]; omega) | decide) (fun _ => ?_))
    | (with_reducible refine lo_testn (fun _ => by first | assumption | omega) (fun _ => ?_))
    | (with_reducible refine lo_and (fun z => by first | exact z.1 | omega) (fun z => by first | exact z.2 | omega) (fun _ => ?_))
    | exact lo_refl _
    | (with_reducible refine lo_iff (by first | exact Iff.rfl | omega | (simp; done) | decide) (fun _ => ?_) (fun _ => ?_))
    | (with_reducible refine lo_iffn (by first | exact Iff.rfl | omega | (simp; done) | decide) (fun _ => ?_) (fun _ => ?_))
    | refine lo_ite (fun _ => ?_) (fun _ => ?_)
    | refine lo_bind (fun _ => ?_)
    | (refine lo_some ?_; first | rfl | (rw [Bool.false_xor]; rfl) | (rw [Bool.true_xor]; rfl) | (simp only [Bool.and_true]; rfl) | (simp; done))
    | (simp only [Int.zero_sub]; exact lo_refl _)
    | (with_reducible refine lo_lpos (by omega) ?_)
    | (with_reducible refine lo_lneg (by omega) ?_)
    | (with_reducible refine lo_lite (fun _ => ?_) (fun _ => ?_))
    | (with_reducible refine lo_rite (fun _ => ?_) (fun _ => ?_))
  all_goals (exfalso; first | omega | (simp_all; done) | (simp_all; omega))
set_option maxHeartbeats 2000000 in
theorem regimenref02_Less.bf (k : Nat) (a0 : List Int) (a1 : List Int) : Lo (regimenref02_Less.f k a0 a1) (regimenref02_Less.nf k a0 a1) := by
  unfold regimenref02_Less.f regimenref02_Less.nf
  try simp only [Bool.false_xor, Bool.true_xor, wu8_64, wu8_u64, byL_nums, btS_bt, nil_tl, beq_decL, beq_decI]
  repeat' first
    | (with_reducible exact lo_refl _)
    | exact lo_none _
    | (with_reducible refine lo_ite (fun _ => ?_) (fun _ => ?_))
    | (with_reducible refine lo_bind (fun _ => ?_))
    | (with_reducible refine lo_left ?_)
    | (refine lo_pos (by first | assumption | omega) ?_)
    | (refine lo_neg (by first | assumption | omega) ?_)
    | (with_reducible refine lo_test (fun _ => by first | assumption | omega) (fun _ => ?_))
    | exact lo_refl _
    | refine lo_ite (fun _ => ?_) (fun _ => ?_)
    | refine lo_bind (fun _ => ?_)
    | (refine lo_some ?_; first | rfl | (rw [Bool.false_xor]; rfl))
  all_goals (exfalso; first | omega | (simp_all; done) | (simp_all; omega))
theorem regimenref02_Less.al : AllLe (obls regimenref02_Less.E Tryz.f101) := by
  rw [regimenref02_Less.h1]
  exact (.cons (fun k y r h => regimenref02_Less.bl0 k y.1.1 y.1.2.1 y.1.2.2.1 y.1.2.2.2.1 y.1.2.2.2.2.1 r h) (.cons (fun _ y r h => by simp [regimenref02_Less.l0] at h) .nil))
theorem regimenref02_Less.ok : CalleeOk Tryz.prog 101 regimenref02_Less.c := fn_ok tabOk mixed (fun _ => rfl) Tryz.func101 rfl (by kernel_rfl) (ok_cons regimenref02_digit.ok ok_nil) regimenref02_Less.al (fun k x r h => (congrFun (congrFun regimenref02_Less.h2 k) x).symm.trans (regimenref02_Less.bf k _ _ r h))
def regimenref03_Quotient.c : Sym.Callee := ⟨(.cons (.sl (.int .u64)) (.cons (.sl (.int .u64)) .nil)), (.sl (.int .u64)), false, List Int, fun k x => regimenref03_Quotient.f k x.1 x.2.1, fun z => z, []⟩
def regimenref03_Quotient.nl0 (k : Nat) (x0 : List Int) (x1 : List Int) (x5 : List Int) (x6 : List Int) (x7 : Int) : Option (List Int) := (if x7 ≥ (0 : Int) then (regimenref03_Quotient.l1 k x0 x1 x5 x6 x7 (0 : Int)) else (some x5))
def regimenref03_Quotient.nl1 (k : Nat) (x0 : List Int) (x1 : List Int) (x5 : List Int) (x6 : List Int) (x7 : Int) (x8 : Int) : Option (List Int) := (if x8 < (16 : Int) then (if 0 ≤ x7 then (if x7 < (x0.length : Int) then (regimenref03_Quotient.l2 k x0 x1 x5 x6 x7 x8 (x0.getD (x7).toNat 0) x8) else none) else none) else (regimenref03_Quotient.l0 k x0 x1 x5 x6 (wrap64 (x7 - (1 : Int)))))
def regimenref03_Quotient.nl2 (k : Nat) (x0 : List Int) (x1 : List Int) (x5 : List Int) (x6 : List Int) (x7 : Int) (x8 : Int) (x9 : Int) (x10 : Int) : Option (List Int) := (if x10 < (15 : Int) then (if (2 : Int) = 0 then none else (regimenref03_Quotient.l2 k x0 x1 x5 x6 x7 x8 (IntKind.wrap .u64 (Int.tdiv x9 (2 : Int))) (wrap64 (x10 + (1 : Int))))) else ((regimenref02_Plus.f k x6 x6).bind fun t1 => (if (2 : Int) = 0 then none else ((regimenref02_Plus.f k t1 [(Int.tmod x9 (2 : Int))]).bind fun t2 => ((regimenref02_Plus.f k x5 x5).bind fun t3 => ((regimenref02_Cmp.f k t2 x1).bind fun t4 => (if t4 ≥ (0 : Int) then ((regimenref02_Less.f k t2 x1).bind fun t5 => ((regimenref02_Plus.f k t3 [(1 : Int)]).bind fun t6 => (regimenref03_Quotient.l1 k x0 x1 t6 t5 x7 (wrap64 (x8 + (1 : Int)))))) else (regimenref03_Quotient.l1 k x0 x1 t3 t2 x7 (wrap64 (x8 + (1 : Int)))))))))))
def regimenref03_Quotient.nf (k : Nat) (a0 : List Int) (a1 : List Int) : Option (List Int) := (regimenref03_Quotient.l0 k a0 a1 ([] : List Int) ([] : List Int) (wrap64 ((a0.length : Int) - (1 : Int))))
noncomputable def regimenref03_Quotient.E : Env (List Int) := envOf tab Tryz.f100 false (.sl (.int .u64)) [] (fun y => y) [(57, regimenref02_Plus.c), (84, regimenref02_Cmp.c), (101, regimenref02_Less.c)] [⟨4, ⟨56, [(0, (.sl (.int .u64)), []), (1, (.sl (.int .u64)), []), (5, (.sl (.int .u64)), []), (6, (.sl (.int .u64)), []), (7, (.int .i64), [])], [], []⟩, fun k y => regimenref03_Quotient.l0 k y.1.1 y.1.2.1 y.1.2.2.1 y.1.2.2.2.1 y.1.2.2.2.2.1⟩, ⟨7, ⟨56, [(0, (.sl (.int .u64)), []), (1, (.sl (.int .u64)), []), (5, (.sl (.int .u64)), []), (6, (.sl (.int .u64)), []), (7, (.int .i64), []), (8, (.int .i64), [])], [], []⟩, fun k y => regimenref03_Quotient.l1 k y.1.1 y.1.2.1 y.1.2.2.1 y.1.2.2.2.1 y.1.2.2.2.2.1 y.1.2.2.2.2.2.1⟩, ⟨11, ⟨56, [(0, (.sl (.int .u64)), []), (1, (.sl (.int .u64)), []), (5, (.sl (.int .u64)), []), (6, (.sl (.int .u64)), []), (7, (.int .i64), []), (8, (.int .i64), []), (9, (.int .u64), []), (10, (.int .i64), [])], [], []⟩, fun k y => regimenref03_Quotient.l2 k y.1.1 y.1.2.1 y.1.2.2.1 y.1.2.2.2.1 y.1.2.2.2.2.1 y.1.2.2.2.2.2.1 y.1.2.2.2.2.2.2.1 y.1.2.2.2.2.2.2.2.1⟩] []
theorem regimenref03_Quotient.h1 : obls regimenref03_Quotient.E Tryz.f100 = [⟨(.cons (.cons (.sl (.int .u64)) (.cons (.sl (.int .u64)) (.cons (.sl (.int .u64)) (.cons (.sl (.int .u64)) (.cons (.int .i64) .nil))))) (.cons .nil (.cons .nil .nil))), fun k y => regimenref03_Quotient.l0 (k + 1) y.1.1 y.1.2.1 y.1.2.2.1 y.1.2.2.2.1 y.1.2.2.2.2.1, fun k y => regimenref03_Quotient.nl0 k y.1.1 y.1.2.1 y.1.2.2.1 y.1.2.2.2.1 y.1.2.2.2.2.1⟩, ⟨(.cons (.cons (.sl (.int .u64)) (.cons (.sl (.int .u64)) (.cons (.sl (.int .u64)) (.cons (.sl (.int .u64)) (.cons (.int .i64) .nil))))) (.cons .nil (.cons .nil .nil))), fun _ y => regimenref03_Quotient.l0 0 y.1.1 y.1.2.1 y.1.2.2.1 y.1.2.2.2.1 y.1.2.2.2.2.1, fun _ _ => none⟩, ⟨(.cons (.cons (.sl (.int .u64)) (.cons (.sl (.int .u64)) (.cons (.sl (.int .u64)) (.cons (.sl (.int .u64)) (.cons (.int .i64) (.cons (.int .i64) .nil)))))) (.cons .nil (.cons .nil .nil))), fun k y => regimenref03_Quotient.l1 (k + 1) y.1.1 y.1.2.1 y.1.2.2.1 y.1.2.2.2.1 y.1.2.2.2.2.1 y.1.2.2.2.2.2.1, fun k y => regimenref03_Quotient.nl1 k y.1.1 y.1.2.1 y.1.2.2.1 y.1.2.2.2.1 y.1.2.2.2.2.1 y.1.2.2.2.2.2.1⟩, ⟨(.cons (.cons (.sl (.int .u64)) (.cons (.sl (.int .u64)) (.cons (.sl (.int .u64)) (.cons (.sl (.int .u64)) (.cons (.int .i64) (.cons (.int .i64) .nil)))))) (.cons .nil (.cons .nil .nil))), fun _ y => regimenref03_Quotient.l1 0 y.1.1 y.1.2.1 y.1.2.2.1 y.1.2.2.2.1 y.1.2.2.2.2.1 y.1.2.2.2.2.2.1, fun _ _ => none⟩, ⟨(.cons (.cons (.sl (.int .u64)) (.cons (.sl (.int .u64)) (.cons (.sl (.int .u64)) (.cons (.sl (.int .u64)) (.cons (.int .i64) (.cons (.int .i64) (.cons (.int .u64) (.cons (.int .i64) .nil)))))))) (.cons .nil (.cons .nil .nil))), fun k y => regimenref03_Quotient.l2 (k + 1) y.1.1 y.1.2.1 y.1.2.2.1 y.1.2.2.2.1 y.1.2.2.2.2.1 y.1.2.2.2.2.2.1 y.1.2.2.2.2.2.2.1 y.1.2.2.2.2.2.2.2.1, fun k y => regimenref03_Quotient.nl2 k y.1.1 y.1.2.1 y.1.2.2.1 y.1.2.2.2.1 y.1.2.2.2.2.1 y.1.2.2.2.2.2.1 y.1.2.2.2.2.2.2.1 y.1.2.2.2.2.2.2.2.1⟩, ⟨(.cons (.cons (.sl (.int .u64)) (.cons (.sl (.int .u64)) (.cons (.sl (.int .u64)) (.cons (.sl (.int .u64)) (.cons (.int .i64) (.cons (.int .i64) (.cons (.int .u64) (.cons (.int .i64) .nil)))))))) (.cons .nil (.cons .nil .nil))), fun _ y => regimenref03_Quotient.l2 0 y.1.1 y.1.2.1 y.1.2.2.1 y.1.2.2.2.1 y.1.2.2.2.2.1 y.1.2.2.2.2.2.1 y.1.2.2.2.2.2.2.1 y.1.2.2.2.2.2.2.2.1, fun _ _ => none⟩] := by kernel_rfl
theorem regimenref03_Quotient.h2 : (fun k (x : El (.cons (.sl (.int .u64)) (.cons (.sl (.int .u64)) .nil))) => regimenref03_Quotient.nf k x.1 x.2.1) = fun k x => mainK regimenref03_Quotient.E Tryz.f100 (.cons (.sl (.int .u64)) (.cons (.sl (.int .u64)) .nil)) k x := by kernel_rfl
theorem regimenref03_Quotient.bl0 (k : Nat) (x0 : List Int) (x1 : List Int) (x5 : List Int) (x6 : List Int) (x7 : Int) : Lo (regimenref03_Quotient.l0 (k + 1) x0 x1 x5 x6 x7) (regimenref03_Quotient.nl0 k x0 x1 x5 x6 x7) := by
  rw [regimenref03_Quotient.l0]
  unfold regimenref03_Quotient.nl0
  try simp only [Bool.false_xor, Bool.true_xor, wu8_64, wu8_u64, byL_nums, btS_bt, nil_tl, beq_decL, beq_decI]
  repeat' first
    | (with_reducible exact lo_refl _)
    | exact lo_none _
    | (with_reducible refine lo_ite (fun _ => ?_) (fun _ => ?_))
    | (with_reducible refine lo_bind (fun _ => ?_))
    | (with_reducible refine lo_left ?_)
    | (refine lo_pos (by first | assumption | omega) ?_)
    | (refine lo_neg (by first | assumption | omega) ?_)
    | (with_reducible refine lo_test (fun _ => by first | assumption | omega) (fun _ => ?_))
    | exact lo_refl _
    | refine lo_ite (fun _ => ?_) (fun _ => ?_)
    | refine lo_bind (fun _ => ?_)
    | (refine lo_some ?_; first | rfl | (rw [Bool.false_xor]; rfl))
  all_goals (exfalso; first | omega | (simp_all; done) | (simp_all; omega))
theorem regimenref03_Quotient.bl1 (k : Nat) (x0 : List Int) (x1 : List Int) (x5 : List Int) (x6 : List Int) (x7 : Int) (x8 : Int) : Lo (regimenref03_Quotient.l1 (k + 1) x0 x1 x5 x6 x7 x8) (regimenref03_Quotient.nl1 k x0 x1 x5 x6 x7 x8) := by
  rw [regimenref03_Quotient.l1]
  unfold regimenref03_Quotient.nl1
  try simp only [Bool.false_xor, Bool.true_xor, wu8_64, wu8_u64, byL_nums, btS_bt, nil_tl, beq_decL, beq_decI]
  repeat' first
    | (with_reducible exact lo_refl _)
    | exact lo_none _
    | (with_reducible refine lo_ite (fun _ => ?_) (fun _ => ?_))
    | (with_reducible refine lo_bind (fun _ => ?_))
    | (with_reducible refine lo_left ?_)
    | (refine lo_pos (by first | assumption | omega) ?_)
    | (refine lo_neg (by first | assumption | omega) ?_)
    | (with_reducible refine lo_test (fun _ => by first | assumption | omega) (fun _ => ?_))
    | exact lo_refl _
    | refine lo_ite (fun _ => ?_) (fun _ => ?_)
    | refine lo_bind (fun _ => ?_)
    | (refine lo_some ?_; first | rfl | (rw [Bool.false_xor]; rfl))
  all_goals (exfalso; first | omega | (simp_all; done) | (simp_all; omega))
theorem regimenref03_Quotient.bl2 (k : Nat) (x0 : List Int) (x1 : List Int) (x5 : List Int) (x6 : List Int) (x7 : Int) (x8 : Int) (x9 : Int) (x10 : Int) : Lo (regimenref03_Quotient.l2 (k + 1) x0 x1 x5 x6 x7 x8 x9 x10) (regimenref03_Quotient.nl2 k x0 x1 x5 x6 x7 x8 x9 x10) := by
  rw [regimenref03_Quotient.l2]
  unfold regimenref03_Quotient.nl2
  try simp only [Bool.false_xor, Bool.true_xor, wu8_64, wu8_u64, byL_nums, btS_bt, nil_tl, beq_decL, beq_decI]
  repeat' first
    | (with_reducible exact lo_refl _)
    | exact lo_none _
    | (with_reducible refine lo_ite (fun _ => ?_) (fun _ => ?_))
    | (with_reducible refine lo_bind (fun _ => ?_))
    | (with_reducible refine lo_left ?_)
    | (refine lo_pos (by first | assumption | omega) ?_)
    | (refine lo_neg (by first | assumption | omega) ?_)
    | (with_reducible refine lo_test (fun _ => by first | assumption | omega) (fun _ => ?_))
    | exact lo_refl _
    | refine lo_ite (fun _ => ?_) (fun _ => ?_)
    | refine lo_bind (fun _ => ?_)
    | (refine lo_some ?_; first | rfl | (rw [Bool.false_xor]; rfl))
  all_goals (exfalso; first | omega | (simp_all; done) | (simp_all; omega))
set_option maxHeartbeats 2000000 in
theorem regimenref03_Quotient.bf (k : Nat) (a0 : List Int) (a1 : List Int) : Lo (regimenref03_Quotient.f k a0 a1) (regimenref03_Quotient.nf k a0 a1) := by
  unfold regimenref03_Quotient.f regimenref03_Quotient.nf
  try simp only [Bool.false_xor, Bool.true_xor, wu8_64, wu8_u64, byL_nums, btS_bt, nil_tl, beq_decL, beq_decI]
  repeat' first
    | (with_reducible exact lo_refl _)
    | exact lo_none _
    | (with_reducible refine lo_ite (fun _ => ?_) (fun _ => ?_))
    | (with_reducible refine lo_bind (fun _ => ?_))
    | (with_reducible refine lo_left ?_)
    | (refine lo_pos (by first | assumption | omega) ?_)
    | (refine lo_neg (by first | assumption | omega) ?_)
    | (with_reducible refine lo_test (fun _ => by first | assumption | omega) (fun _ => ?_))
    | exact lo_refl _
    | refine lo_ite (fun _ => ?_) (fun _ => ?_)
    | refine lo_bind (fun _ => ?_)
    | (refine lo_some ?_; first | rfl | (rw [Bool.false_xor]; rfl))
  all_goals (exfalso; first | omega | (simp_all; done) | (simp_all; omega))
theorem regimenref03_Quotient.al : AllLe (obls regimenref03_Quotient.E Tryz.f100) := by
  rw [regimenref03_Quotient.h1]
  exact (.cons (fun k y r h => regimenref03_Quotient.bl0 k y.1.1 y.1.2.1 y.1.2.2.1 y.1.2.2.2.1 y.1.2.2.2.2.1 r h) (.cons (fun _ y r h => by simp [regimenref03_Quotient.l0] at h) (.cons (fun k y r h => regimenref03_Quotient.bl1 k y.1.1 y.1.2.1 y.1.2.2.1 y.1.2.2.2.1 y.1.2.2.2.2.1 y.1.2.2.2.2.2.1 r h) (.cons (fun _ y r h => by simp [regimenref03_Quotient.l1] at h) (.cons (fun k y r h => regimenref03_Quotient.bl2 k y.1.1 y.1.2.1 y.1.2.2.1 y.1.2.2.2.1 y.1.2.2.2.2.1 y.1.2.2.2.2.2.1 y.1.2.2.2.2.2.2.1 y.1.2.2.2.2.2.2.2.1 r h) (.cons (fun _ y r h => by simp [regimenref03_Quotient.l2] at h) .nil))))))
theorem regimenref03_Quotient.ok : CalleeOk Tryz.prog 100 regimenref03_Quotient.c := fn_ok tabOk mixed (fun _ => rfl) Tryz.func100 rfl (by kernel_rfl) (ok_cons regimenref02_Plus.ok (ok_cons regimenref02_Cmp.ok (ok_cons regimenref02_Less.ok ok_nil))) regimenref03_Quotient.al (fun k x r h => (congrFun (congrFun regimenref03_Quotient.h2 k) x).symm.trans (regimenref03_Quotient.bf k _ _ r h))
def regimenref03_Odd.c : Sym.Callee := ⟨(.cons (.sl (.int .u64)) .nil), .bool, false, Bool, fun k x => regimenref03_Odd.f x.1, fun z => z, []⟩
def regimenref03_Odd.nf (k : Nat) (a0 : List Int) : Option (Bool) := (if (a0.length : Int) > (0 : Int) then (if 0 ≤ (0 : Int) then (if (0 : Int) < (a0.length : Int) then (if (2 : Int) = 0 then none else (some (xor false (decide ((Int.tmod (a0.getD ((0 : Int)).toNat 0) (2 : Int)) = (1 : Int)))))) else none) else none) else (some false))
noncomputable def regimenref03_Odd.E : Env (Bool) := envOf tab Tryz.f102 false .bool [] (fun y => y) [] [] []
theorem regimenref03_Odd.h1 : obls regimenref03_Odd.E Tryz.f102 = [] := by kernel_rfl
theorem regimenref03_Odd.h2 : (fun k (x : El (.cons (.sl (.int .u64)) .nil)) => regimenref03_Odd.nf k x.1) = fun k x => mainK regimenref03_Odd.E Tryz.f102 (.cons (.sl (.int .u64)) .nil) k x := by kernel_rfl
set_option maxHeartbeats 2000000 in
theorem regimenref03_Odd.bf (k : Nat) (a0 : List Int) : Lo (regimenref03_Odd.f a0) (regimenref03_Odd.nf k a0) := by
  unfold regimenref03_Odd.f regimenref03_Odd.nf
  try simp only [Bool.false_xor, Bool.true_xor, wu8_64, wu8_u64, byL_nums, btS_bt, nil_tl, beq_decL, beq_decI]
  repeat' first
    | (with_reducible exact lo_refl _)
    | exact lo_none _
    | (with_reducible refine lo_ite (fun _ => ?_) (fun _ => ?_))
    | (with_reducible refine lo_bind (fun _ => ?_))
    | (with_reducible refine lo_left ?_)
    | (refine lo_pos (by first | assumption | omega) ?_)
    | (refine lo_neg (by first | assumption | omega) ?_)
    | (with_reducible refine lo_test (fun _ => by first | assumption | omega) (fun _ => ?_))
    | exact lo_refl _
    | refine lo_ite (fun _ => ?_) (fun _ => ?_)
    | refine lo_bind (fun _ => ?_)
    | (refine lo_some ?_; first | rfl | (rw [Bool.false_xor]; rfl))
  all_goals (exfalso; first | omega | (simp_all; done) | (simp_all; omega))
theorem regimenref03_Odd.al : AllLe (obls regimenref03_Odd.E Tryz.f102) := by
  rw [regimenref03_Odd.h1]
  exact .nil
theorem regimenref03_Odd.ok : CalleeOk Tryz.prog 102 regimenref03_Odd.c := fn_ok tabOk mixed (fun _ => rfl) Tryz.func102 rfl (by kernel_rfl) ok_nil regimenref03_Odd.al (fun k x r h => (congrFun (congrFun regimenref03_Odd.h2 k) x).symm.trans (regimenref03_Odd.bf k _ r h))
def regimenref03_Rounded.c : Sym.Callee := ⟨(.cons (.sl (.int .u64)) (.cons (.sl (.int .u64)) .nil)), (.sl (.int .u64)), false, List Int, fun k x => regimenref03_Rounded.f k x.1 x.2.1, fun z => z, []⟩
def regimenref03_Rounded.nf (k : Nat) (a0 : List Int) (a1 : List Int) : Option (List Int) := ((regimenref03_Quotient.f k a0 a1).bind fun t1 => (if (([] : List Int).length + a0.length) * 8 ≤ 140737488355328 then (if ((([] : List Int) ++ a0).length + [(0 : Int)].length) * 8 ≤ 140737488355328 then ((regimenref02_Times.f k t1 a1).bind fun t2 => ((regimenref02_Less.f k ((([] : List Int) ++ a0) ++ [(0 : Int)]) t2).bind fun t3 => ((regimenref02_Plus.f k t3 t3).bind fun t4 => ((regimenref02_Cmp.f k t4 a1).bind fun t5 => (if t5 > (0 : Int) then ((regimenref02_Plus.f k t1 [(1 : Int)]).bind fun t6 => (some t6)) else (if t5 = (0 : Int) then ((regimenref03_Odd.f t1).bind fun t7 => (if t7 = true then ((regimenref02_Plus.f k t1 [(1 : Int)]).bind fun t8 => (some t8)) else (some t1))) else (some t1))))))) else none) else none))
noncomputable def regimenref03_Rounded.E : Env (List Int) := envOf tab Tryz.f75 false (.sl (.int .u64)) [] (fun y => y) [(100, regimenref03_Quotient.c), (58, regimenref02_Times.c), (101, regimenref02_Less.c), (57, regimenref02_Plus.c), (84, regimenref02_Cmp.c), (102, regimenref03_Odd.c)] [] []
theorem regimenref03_Rounded.h1 : obls regimenref03_Rounded.E Tryz.f75 = [] := by kernel_rfl
theorem regimenref03_Rounded.h2 : (fun k (x : El (.cons (.sl (.int .u64)) (.cons (.sl (.int .u64)) .nil))) => regimenref03_Rounded.nf k x.1 x.2.1) = fun k x => mainK regimenref03_Rounded.E Tryz.f75 (.cons (.sl (.int .u64)) (.cons (.sl (.int .u64)) .nil)) k x := by kernel_rfl
set_option maxHeartbeats 2000000 in
theorem regimenref03_Rounded.bf (k : Nat) (a0 : List Int) (a1 : List Int) : Lo (regimenref03_Rounded.f k a0 a1) (regimenref03_Rounded.nf k a0 a1) := by
  unfold regimenref03_Rounded.f regimenref03_Rounded.nf
  try simp only [Bool.false_xor, Bool.true_xor, wu8_64, wu8_u64, byL_nums, btS_bt, nil_tl, beq_decL, beq_decI]
  repeat' first
    | (with_reducible exact lo_refl _)
    | exact lo_none _
    | (with_reducible refine lo_lpos (by first | assumption | decide) ?_)
    | (with_reducible refine lo_lneg (by first | assumption | decide) ?_)
    | (with_reducible refine lo_ite (fun _ => ?_) (fun _ => ?_))
    | (with_reducible refine lo_bind (fun _ => ?_))
    | (with_reducible refine lo_left ?_)
    | (refine lo_neg (by decide) ?_)
    | (refine lo_pos (by first | assumption | omega) ?_)
    | (refine lo_neg (by first | assumption | omega) ?_)
    | (with_reducible refine lo_test (fun _ => by first | assumption | omega | (simp only [List.length_cons, List.length_nil]; omega) | decide) (fun _ => ?_))
    | (with_reducible refine lo_testn (fun _ => by first | assumption | omega) (fun _ => ?_))
    | (with_reducible refine lo_and (fun z => by first | exact z.1 | omega) (fun z => by first | exact z.2 | omega) (fun _ => ?_))
    | exact lo_refl _
    | (with_reducible refine lo_iff (by first | exact Iff.rfl | omega | (simp; done) | decide) (fun _ => ?_) (fun _ => ?_))
    | (with_reducible refine lo_iffn (by first | exact Iff.rfl | omega | (simp; done) | decide) (fun _ => ?_) (fun _ => ?_))
    | refine lo_ite (fun _ => ?_) (fun _ => ?_)
    | refine lo_bind (fun _ => ?_)
    | (refine lo_some ?_; first | rfl | (rw [Bool.false_xor]; rfl) | (rw [Bool.true_xor]; rfl) | (simp only [Bool.and_true]; rfl) | (simp; done))
    | (simp only [Int.zero_sub]; exact lo_refl _)
    | (with_reducible refine lo_lpos (by omega) ?_)
    | (with_reducible refine lo_lneg (by omega) ?_)
    | (with_reducible refine lo_lite (fun _ => ?_) (fun _ => ?_))
    | (with_reducible refine lo_rite (fun _ => ?_) (fun _ => ?_))
  all_goals (exfalso; first | omega | (simp_all; done) | (simp_all; omega))
theorem regimenref03_Rounded.al : AllLe (obls regimenref03_Rounded.E Tryz.f75) := by
  rw [regimenref03_Rounded.h1]
  exact .nil
theorem regimenref03_Rounded.ok : CalleeOk Tryz.prog 75 regimenref03_Rounded.c := fn_ok tabOk mixed (fun _ => rfl) Tryz.func75 rfl (by kernel_rfl) (ok_cons regimenref03_Quotient.ok (ok_cons regimenref02_Times.ok (ok_cons regimenref02_Less.ok (ok_cons regimenref02_Plus.ok (ok_cons regimenref02_Cmp.ok (ok_cons regimenref03_Odd.ok ok_nil)))))) regimenref03_Rounded.al (fun k x r h => (congrFun (congrFun regimenref03_Rounded.h2 k) x).symm.trans (regimenref03_Rounded.bf k _ _ r h))
def regimenref05_Read.c : Sym.Callee := ⟨(.cons (.sl (.int .u64)) (.cons (.int .i64) .nil)), (.sl (.int .u64)), false, List Int, fun k x => regimenref05_Read.f k x.1 x.2.1, fun z => z, []⟩
def regimenref05_Read.nf (k : Nat) (a0 : List Int) (a1 : Int) : Option (List Int) := ((regimenref02_Twos.f k (32 : Int)).bind fun t1 => ((regimenref02_Times.f k a0 t1).bind fun t2 => ((regimenref05_Tens.f k a1).bind fun t3 => ((regimenref03_Rounded.f k t2 t3).bind fun t4 => (some t4)))))
noncomputable def regimenref05_Read.E : Env (List Int) := envOf tab Tryz.f60 false (.sl (.int .u64)) [] (fun y => y) [(85, regimenref02_Twos.c), (58, regimenref02_Times.c), (87, regimenref05_Tens.c), (75, regimenref03_Rounded.c)] [] []
theorem regimenref05_Read.h1 : obls regimenref05_Read.E Tryz.f60 = [] := by kernel_rfl
theorem regimenref05_Read.h2 : (fun k (x : El (.cons (.sl (.int .u64)) (.cons (.int .i64) .nil))) => regimenref05_Read.nf k x.1 x.2.1) = fun k x => mainK regimenref05_Read.E Tryz.f60 (.cons (.sl (.int .u64)) (.cons (.int .i64) .nil)) k x := by kernel_rfl
set_option maxHeartbeats 2000000 in
theorem regimenref05_Read.bf (k : Nat) (a0 : List Int) (a1 : Int) : Lo (regimenref05_Read.f k a0 a1) (regimenref05_Read.nf k a0 a1) := by
  unfold regimenref05_Read.f regimenref05_Read.nf
  try simp only [Bool.false_xor, Bool.true_xor, wu8_64, wu8_u64, byL_nums, btS_bt, nil_tl, beq_decL, beq_decI]
  repeat' first
    | (with_reducible exact lo_refl _)
    | exact lo_none _
    | (with_reducible refine lo_ite (fun _ => ?_) (fun _ => ?_))
    | (with_reducible refine lo_bind (fun _ => ?_))
    | (with_reducible refine lo_left ?_)
    | (refine lo_pos (by first | assumption | omega) ?_)
    | (refine lo_neg (by first | assumption | omega) ?_)
    | (with_reducible refine lo_test (fun _ => by first | assumption | omega) (fun _ => ?_))
    | exact lo_refl _
    | refine lo_ite (fun _ => ?_) (fun _ => ?_)
    | refine lo_bind (fun _ => ?_)
    | (refine lo_some ?_; first | rfl | (rw [Bool.false_xor]; rfl))
  all_goals (exfalso; first | omega | (simp_all; done) | (simp_all; omega))
theorem regimenref05_Read.al : AllLe (obls regimenref05_Read.E Tryz.f60) := by
  rw [regimenref05_Read.h1]
  exact .nil
theorem regimenref05_Read.ok : CalleeOk Tryz.prog 60 regimenref05_Read.c := fn_ok tabOk mixed (fun _ => rfl) Tryz.func60 rfl (by kernel_rfl) (ok_cons regimenref02_Twos.ok (ok_cons regimenref02_Times.ok (ok_cons regimenref05_Tens.ok (ok_cons regimenref03_Rounded.ok ok_nil)))) regimenref05_Read.al (fun k x r h => (congrFun (congrFun regimenref05_Read.h2 k) x).symm.trans (regimenref05_Read.bf k _ _ r h))
def regimenref05_Text.c : Sym.Callee := ⟨(.cons (.sl (.int .u64)) .nil), .str, false, ByteArray, fun k x => regimenref05_Text.f k x.1, fun z => z, []⟩
def regimenref05_Text.nl0 (k : Nat) (x0 : List Int) (x3 : ByteArray) (x4 : ByteArray) : Option (ByteArray) := (if (x4.size : Int) = (0 : Int) then ((regimenref03_Quotient.f k x0 [(10 : Int)]).bind fun t1 => (if (([] : List Int).length + x0.length) * 8 ≤ 140737488355328 then (if ((([] : List Int) ++ x0).length + [(0 : Int)].length) * 8 ≤ 140737488355328 then ((regimenref02_Times.f k t1 [(10 : Int)]).bind fun t2 => ((regimenref02_Less.f k ((([] : List Int) ++ x0) ++ [(0 : Int)]) t2).bind fun t3 => (if 0 ≤ (0 : Int) then (if (0 : Int) < (t3.length : Int) then (if 0 ≤ (0 : Int) then (if (0 : Int) < (t3.length : Int) then (if 0 ≤ (t3.getD ((0 : Int)).toNat 0) then (if (t3.getD ((0 : Int)).toNat 0) ≤ (IntKind.wrap .u64 ((t3.getD ((0 : Int)).toNat 0) + (1 : Int))) then (if (IntKind.wrap .u64 ((t3.getD ((0 : Int)).toNat 0) + (1 : Int))) ≤ (x3.size : Int) then (if (x3.extract ((t3.getD ((0 : Int)).toNat 0)).toNat ((IntKind.wrap .u64 ((t3.getD ((0 : Int)).toNat 0) + (1 : Int)))).toNat).size + x4.size ≤ 9223372036854775807 then (regimenref05_Text.l0 k t1 x3 ((x3.extract ((t3.getD ((0 : Int)).toNat 0)).toNat ((IntKind.wrap .u64 ((t3.getD ((0 : Int)).toNat 0) + (1 : Int)))).toNat) ++ x4)) else none) else none) else none) else none) else none) else none) else none) else none))) else none) else none)) else ((regimenref02_Cmp.f k x0 ([] : List Int)).bind fun t4 => (if t4 > (0 : Int) then ((regimenref03_Quotient.f k x0 [(10 : Int)]).bind fun t5 => (if (([] : List Int).length + x0.length) * 8 ≤ 140737488355328 then (if ((([] : List Int) ++ x0).length + [(0 : Int)].length) * 8 ≤ 140737488355328 then ((regimenref02_Times.f k t5 [(10 : Int)]).bind fun t6 => ((regimenref02_Less.f k ((([] : List Int) ++ x0) ++ [(0 : Int)]) t6).bind fun t7 => (if 0 ≤ (0 : Int) then (if (0 : Int) < (t7.length : Int) then (if 0 ≤ (0 : Int) then (if (0 : Int) < (t7.length : Int) then (if 0 ≤ (t7.getD ((0 : Int)).toNat 0) then (if (t7.getD ((0 : Int)).toNat 0) ≤ (IntKind.wrap .u64 ((t7.getD ((0 : Int)).toNat 0) + (1 : Int))) then (if (IntKind.wrap .u64 ((t7.getD ((0 : Int)).toNat 0) + (1 : Int))) ≤ (x3.size : Int) then (if (x3.extract ((t7.getD ((0 : Int)).toNat 0)).toNat ((IntKind.wrap .u64 ((t7.getD ((0 : Int)).toNat 0) + (1 : Int)))).toNat).size + x4.size ≤ 9223372036854775807 then (regimenref05_Text.l0 k t5 x3 ((x3.extract ((t7.getD ((0 : Int)).toNat 0)).toNat ((IntKind.wrap .u64 ((t7.getD ((0 : Int)).toNat 0) + (1 : Int)))).toNat) ++ x4)) else none) else none) else none) else none) else none) else none) else none) else none))) else none) else none)) else (some x4))))
def regimenref05_Text.nf (k : Nat) (a0 : List Int) : Option (ByteArray) := (regimenref05_Text.l0 k a0 (⟨#[48, 49, 50, 51, 52, 53, 54, 55, 56, 57]⟩ : ByteArray) (⟨#[]⟩ : ByteArray))
noncomputable def regimenref05_Text.E : Env (ByteArray) := envOf tab Tryz.f99 false .str [] (fun y => y) [(100, regimenref03_Quotient.c), (58, regimenref02_Times.c), (101, regimenref02_Less.c), (84, regimenref02_Cmp.c)] [⟨3, ⟨40, [(0, (.sl (.int .u64)), []), (3, .str, []), (4, .str, [])], [], []⟩, fun k y => regimenref05_Text.l0 k y.1.1 y.1.2.1 y.1.2.2.1⟩] []
theorem regimenref05_Text.h1 : obls regimenref05_Text.E Tryz.f99 = [⟨(.cons (.cons (.sl (.int .u64)) (.cons .str (.cons .str .nil))) (.cons .nil (.cons .nil .nil))), fun k y => regimenref05_Text.l0 (k + 1) y.1.1 y.1.2.1 y.1.2.2.1, fun k y => regimenref05_Text.nl0 k y.1.1 y.1.2.1 y.1.2.2.1⟩, ⟨(.cons (.cons (.sl (.int .u64)) (.cons .str (.cons .str .nil))) (.cons .nil (.cons .nil .nil))), fun _ y => regimenref05_Text.l0 0 y.1.1 y.1.2.1 y.1.2.2.1, fun _ _ => none⟩] := by kernel_rfl
theorem regimenref05_Text.h2 : (fun k (x : El (.cons (.sl (.int .u64)) .nil)) => regimenref05_Text.nf k x.1) = fun k x => mainK regimenref05_Text.E Tryz.f99 (.cons (.sl (.int .u64)) .nil) k x := by kernel_rfl
theorem regimenref05_Text.bl0 (k : Nat) (x0 : List Int) (x3 : ByteArray) (x4 : ByteArray) : Lo (regimenref05_Text.l0 (k + 1) x0 x3 x4) (regimenref05_Text.nl0 k x0 x3 x4) := by
  rw [regimenref05_Text.l0]
  unfold regimenref05_Text.nl0
  try simp only [Bool.false_xor, Bool.true_xor, wu8_64, wu8_u64, byL_nums, btS_bt, nil_tl, beq_decL, beq_decI]
  repeat' first
    | (with_reducible exact lo_refl _)
    | exact lo_none _
    | (with_reducible refine lo_lpos (by first | assumption | decide) ?_)
    | (with_reducible refine lo_lneg (by first | assumption | decide) ?_)
    | (with_reducible refine lo_ite (fun _ => ?_) (fun _ => ?_))
    | (with_reducible refine lo_bind (fun _ => ?_))
    | (with_reducible refine lo_left ?_)
    | (refine lo_neg (by decide) ?_)
    | (refine lo_pos (by first | assumption | omega) ?_)
    | (refine lo_neg (by first | assumption | omega) ?_)
    | (refine lo_trans (fun r h => (regimenref05_Text.mono_l _).2 _ _ _ _ r h) ?_; rw [regimenref05_Text.j1]; try simp only [decide_eq_true_eq])
    | (with_reducible refine lo_test (fun _ => by first | assumption | omega | (simp only [List.length_cons, List.length_nil]; omega) | decide) (fun _ => ?_))
    | (with_reducible refine lo_testn (fun _ => by first | assumption | omega) (fun _ => ?_))
    | (with_reducible refine lo_and (fun z => by first | exact z.1 | omega) (fun z => by first | exact z.2 | omega) (fun _ => ?_))
    | exact lo_refl _
    | (with_reducible refine lo_iff (by first | exact Iff.rfl | omega | (simp; done) | decide) (fun _ => ?_) (fun _ => ?_))
    | (with_reducible refine lo_iffn (by first | exact Iff.rfl | omega | (simp; done) | decide) (fun _ => ?_) (fun _ => ?_))
    | refine lo_ite (fun _ => ?_) (fun _ => ?_)
    | refine lo_bind (fun _ => ?_)
    | (refine lo_some ?_; first | rfl | (rw [Bool.false_xor]; rfl) | (rw [Bool.true_xor]; rfl) | (simp only [Bool.and_true]; rfl) | (simp; done))
    | (simp only [Int.zero_sub]; exact lo_refl _)
    | (with_reducible refine lo_lpos (by omega) ?_)
    | (with_reducible refine lo_lneg (by omega) ?_)
    | (with_reducible refine lo_lite (fun _ => ?_) (fun _ => ?_))
    | (with_reducible refine lo_rite (fun _ => ?_) (fun _ => ?_))
  all_goals (exfalso; first | omega | (simp_all; done) | (simp_all; omega))
set_option maxHeartbeats 2000000 in
theorem regimenref05_Text.bf (k : Nat) (a0 : List Int) : Lo (regimenref05_Text.f k a0) (regimenref05_Text.nf k a0) := by
  unfold regimenref05_Text.f regimenref05_Text.nf
  try simp only [Bool.false_xor, Bool.true_xor, wu8_64, wu8_u64, byL_nums, btS_bt, nil_tl, beq_decL, beq_decI]
  repeat' first
    | (with_reducible exact lo_refl _)
    | exact lo_none _
    | (with_reducible refine lo_ite (fun _ => ?_) (fun _ => ?_))
    | (with_reducible refine lo_bind (fun _ => ?_))
    | (with_reducible refine lo_left ?_)
    | (refine lo_pos (by first | assumption | omega) ?_)
    | (refine lo_neg (by first | assumption | omega) ?_)
    | (with_reducible refine lo_test (fun _ => by first | assumption | omega) (fun _ => ?_))
    | exact lo_refl _
    | refine lo_ite (fun _ => ?_) (fun _ => ?_)
    | refine lo_bind (fun _ => ?_)
    | (refine lo_some ?_; first | rfl | (rw [Bool.false_xor]; rfl))
  all_goals (exfalso; first | omega | (simp_all; done) | (simp_all; omega))
theorem regimenref05_Text.al : AllLe (obls regimenref05_Text.E Tryz.f99) := by
  rw [regimenref05_Text.h1]
  exact (.cons (fun k y r h => regimenref05_Text.bl0 k y.1.1 y.1.2.1 y.1.2.2.1 r h) (.cons (fun _ y r h => by simp [regimenref05_Text.l0] at h) .nil))
theorem regimenref05_Text.ok : CalleeOk Tryz.prog 99 regimenref05_Text.c := fn_ok tabOk mixed (fun _ => rfl) Tryz.func99 rfl (by kernel_rfl) (ok_cons regimenref03_Quotient.ok (ok_cons regimenref02_Times.ok (ok_cons regimenref02_Less.ok (ok_cons regimenref02_Cmp.ok ok_nil)))) regimenref05_Text.al (fun k x r h => (congrFun (congrFun regimenref05_Text.h2 k) x).symm.trans (regimenref05_Text.bf k _ r h))
def regimenref05_Put.c : Sym.Callee := ⟨(.cons (.int .i64) .nil), .str, false, ByteArray, fun k x => regimenref05_Put.f k x.1, fun z => z, []⟩
def regimenref05_Put.nj0 (k : Nat) (x3 : List Int) (x4 : ByteArray) : Option (ByteArray) := (regimenref05_Put.l0 k x3 x4 (0 : Int))
def regimenref05_Put.nl0 (k : Nat) (x3 : List Int) (x4 : ByteArray) (x5 : Int) : Option (ByteArray) := (if x5 ≤ (10 : Int) then ((regimenref05_Tens.f k x5).bind fun t2 => ((regimenref02_Times.f k x3 t2).bind fun t3 => ((regimenref02_Twos.f k (32 : Int)).bind fun t4 => ((regimenref03_Rounded.f k t3 t4).bind fun t5 => ((regimenref05_Read.f k t5 x5).bind fun t6 => ((regimenref02_Cmp.f k t6 x3).bind fun t7 => (if t7 = (0 : Int) then ((regimenref05_Text.f k t5).bind fun t8 => (regimenref05_Put.l1 k x4 x5 t8)) else (regimenref05_Put.l0 k x3 x4 (wrap64 (x5 + (1 : Int))))))))))) else (some (⟨#[]⟩ : ByteArray)))
def regimenref05_Put.nl1 (k : Nat) (x4 : ByteArray) (x5 : Int) (x7 : ByteArray) : Option (ByteArray) := (if (x7.size : Int) ≤ x5 then (if (⟨#[48]⟩ : ByteArray).size + x7.size ≤ 9223372036854775807 then (regimenref05_Put.l1 k x4 x5 ((⟨#[48]⟩ : ByteArray) ++ x7)) else none) else (if x5 = (0 : Int) then (if x4.size + x7.size ≤ 9223372036854775807 then (some (x4 ++ x7)) else none) else (if 0 ≤ (wrap64 ((x7.size : Int) - x5)) then (if (wrap64 ((x7.size : Int) - x5)) ≤ (x7.size : Int) then (if x4.size + (x7.extract 0 ((wrap64 ((x7.size : Int) - x5))).toNat).size ≤ 9223372036854775807 then (if (x4 ++ (x7.extract 0 ((wrap64 ((x7.size : Int) - x5))).toNat)).size + (⟨#[46]⟩ : ByteArray).size ≤ 9223372036854775807 then (if 0 ≤ (wrap64 ((x7.size : Int) - x5)) then (if (wrap64 ((x7.size : Int) - x5)) ≤ (x7.size : Int) then (if ((x4 ++ (x7.extract 0 ((wrap64 ((x7.size : Int) - x5))).toNat)) ++ (⟨#[46]⟩ : ByteArray)).size + (x7.extract ((wrap64 ((x7.size : Int) - x5))).toNat x7.size).size ≤ 9223372036854775807 then (some (((x4 ++ (x7.extract 0 ((wrap64 ((x7.size : Int) - x5))).toNat)) ++ (⟨#[46]⟩ : ByteArray)) ++ (x7.extract ((wrap64 ((x7.size : Int) - x5))).toNat x7.size))) else none) else none) else none) else none) else none) else none) else none)))
def regimenref05_Put.nf (k : Nat) (a0 : Int) : Option (ByteArray) := ((regimenref02_Size.f a0).bind fun t1 => (if a0 < (0 : Int) then (regimenref05_Put.j0 k t1 (⟨#[45]⟩ : ByteArray)) else (regimenref05_Put.j0 k t1 (⟨#[]⟩ : ByteArray))))
noncomputable def regimenref05_Put.E : Env (ByteArray) := envOf tab Tryz.f74 false .str [] (fun y => y) [(76, regimenref02_Size.c), (87, regimenref05_Tens.c), (58, regimenref02_Times.c), (85, regimenref02_Twos.c), (75, regimenref03_Rounded.c), (60, regimenref05_Read.c), (84, regimenref02_Cmp.c), (99, regimenref05_Text.c)] [⟨6, ⟨57, [(3, (.sl (.int .u64)), []), (4, .str, []), (5, (.int .i64), [])], [], []⟩, fun k y => regimenref05_Put.l0 k y.1.1 y.1.2.1 y.1.2.2.1⟩, ⟨11, ⟨57, [(4, .str, []), (5, (.int .i64), []), (7, .str, [])], [], []⟩, fun k y => regimenref05_Put.l1 k y.1.1 y.1.2.1 y.1.2.2.1⟩] [⟨5, ⟨57, [(3, (.sl (.int .u64)), []), (4, .str, [])], [], []⟩, fun k y => regimenref05_Put.j0 k y.1.1 y.1.2.1⟩]
theorem regimenref05_Put.h1 : obls regimenref05_Put.E Tryz.f74 = [⟨(.cons (.cons (.sl (.int .u64)) (.cons .str .nil)) (.cons .nil (.cons .nil .nil))), fun k y => regimenref05_Put.j0 (k + 1) y.1.1 y.1.2.1, fun k y => regimenref05_Put.nj0 k y.1.1 y.1.2.1⟩, ⟨(.cons (.cons (.sl (.int .u64)) (.cons .str .nil)) (.cons .nil (.cons .nil .nil))), fun _ y => regimenref05_Put.j0 0 y.1.1 y.1.2.1, fun _ _ => none⟩, ⟨(.cons (.cons (.sl (.int .u64)) (.cons .str (.cons (.int .i64) .nil))) (.cons .nil (.cons .nil .nil))), fun k y => regimenref05_Put.l0 (k + 1) y.1.1 y.1.2.1 y.1.2.2.1, fun k y => regimenref05_Put.nl0 k y.1.1 y.1.2.1 y.1.2.2.1⟩, ⟨(.cons (.cons (.sl (.int .u64)) (.cons .str (.cons (.int .i64) .nil))) (.cons .nil (.cons .nil .nil))), fun _ y => regimenref05_Put.l0 0 y.1.1 y.1.2.1 y.1.2.2.1, fun _ _ => none⟩, ⟨(.cons (.cons .str (.cons (.int .i64) (.cons .str .nil))) (.cons .nil (.cons .nil .nil))), fun k y => regimenref05_Put.l1 (k + 1) y.1.1 y.1.2.1 y.1.2.2.1, fun k y => regimenref05_Put.nl1 k y.1.1 y.1.2.1 y.1.2.2.1⟩, ⟨(.cons (.cons .str (.cons (.int .i64) (.cons .str .nil))) (.cons .nil (.cons .nil .nil))), fun _ y => regimenref05_Put.l1 0 y.1.1 y.1.2.1 y.1.2.2.1, fun _ _ => none⟩] := by kernel_rfl
theorem regimenref05_Put.h2 : (fun k (x : El (.cons (.int .i64) .nil)) => regimenref05_Put.nf k x.1) = fun k x => mainK regimenref05_Put.E Tryz.f74 (.cons (.int .i64) .nil) k x := by kernel_rfl
theorem regimenref05_Put.bj0 (k : Nat) (x3 : List Int) (x4 : ByteArray) : Lo (regimenref05_Put.j0 (k + 1) x3 x4) (regimenref05_Put.nj0 k x3 x4) := by
  rw [regimenref05_Put.j0]
  unfold regimenref05_Put.nj0
  try simp only [Bool.false_xor, Bool.true_xor, wu8_64, wu8_u64, byL_nums, btS_bt, nil_tl, beq_decL, beq_decI]
  repeat' first
    | (with_reducible exact lo_refl _)
    | exact lo_none _
    | (with_reducible refine lo_ite (fun _ => ?_) (fun _ => ?_))
    | (with_reducible refine lo_bind (fun _ => ?_))
    | (with_reducible refine lo_left ?_)
    | (refine lo_pos (by first | assumption | omega) ?_)
    | (refine lo_neg (by first | assumption | omega) ?_)
    | (with_reducible refine lo_test (fun _ => by first | assumption | omega) (fun _ => ?_))
    | exact lo_refl _
    | refine lo_ite (fun _ => ?_) (fun _ => ?_)
    | refine lo_bind (fun _ => ?_)
    | (refine lo_some ?_; first | rfl | (rw [Bool.false_xor]; rfl))
  all_goals (exfalso; first | omega | (simp_all; done) | (simp_all; omega))
theorem regimenref05_Put.bl0 (k : Nat) (x3 : List Int) (x4 : ByteArray) (x5 : Int) : Lo (regimenref05_Put.l0 (k + 1) x3 x4 x5) (regimenref05_Put.nl0 k x3 x4 x5) := by
  rw [regimenref05_Put.l0]
  unfold regimenref05_Put.nl0
  try simp only [Bool.false_xor, Bool.true_xor, wu8_64, wu8_u64, byL_nums, btS_bt, nil_tl, beq_decL, beq_decI]
  repeat' first
    | (with_reducible exact lo_refl _)
    | exact lo_none _
    | (with_reducible refine lo_ite (fun _ => ?_) (fun _ => ?_))
    | (with_reducible refine lo_bind (fun _ => ?_))
    | (with_reducible refine lo_left ?_)
    | (refine lo_pos (by first | assumption | omega) ?_)
    | (refine lo_neg (by first | assumption | omega) ?_)
    | (with_reducible refine lo_test (fun _ => by first | assumption | omega) (fun _ => ?_))
    | exact lo_refl _
    | refine lo_ite (fun _ => ?_) (fun _ => ?_)
    | refine lo_bind (fun _ => ?_)
    | (refine lo_some ?_; first | rfl | (rw [Bool.false_xor]; rfl))
  all_goals (exfalso; first | omega | (simp_all; done) | (simp_all; omega))
theorem regimenref05_Put.bl1 (k : Nat) (x4 : ByteArray) (x5 : Int) (x7 : ByteArray) : Lo (regimenref05_Put.l1 (k + 1) x4 x5 x7) (regimenref05_Put.nl1 k x4 x5 x7) := by
  rw [regimenref05_Put.l1]
  unfold regimenref05_Put.nl1
  try simp only [Bool.false_xor, Bool.true_xor, wu8_64, wu8_u64, byL_nums, btS_bt, nil_tl, beq_decL, beq_decI]
  repeat' first
    | (with_reducible exact lo_refl _)
    | exact lo_none _
    | (with_reducible refine lo_ite (fun _ => ?_) (fun _ => ?_))
    | (with_reducible refine lo_bind (fun _ => ?_))
    | (with_reducible refine lo_left ?_)
    | (refine lo_pos (by first | assumption | omega) ?_)
    | (refine lo_neg (by first | assumption | omega) ?_)
    | (with_reducible refine lo_test (fun _ => by first | assumption | omega) (fun _ => ?_))
    | exact lo_refl _
    | refine lo_ite (fun _ => ?_) (fun _ => ?_)
    | refine lo_bind (fun _ => ?_)
    | (refine lo_some ?_; first | rfl | (rw [Bool.false_xor]; rfl))
  all_goals (exfalso; first | omega | (simp_all; done) | (simp_all; omega))
set_option maxHeartbeats 2000000 in
theorem regimenref05_Put.bf (k : Nat) (a0 : Int) : Lo (regimenref05_Put.f k a0) (regimenref05_Put.nf k a0) := by
  unfold regimenref05_Put.f regimenref05_Put.nf
  try simp only [Bool.false_xor, Bool.true_xor, wu8_64, wu8_u64, byL_nums, btS_bt, nil_tl, beq_decL, beq_decI]
  repeat' first
    | (with_reducible exact lo_refl _)
    | exact lo_none _
    | (with_reducible refine lo_ite (fun _ => ?_) (fun _ => ?_))
    | (with_reducible refine lo_bind (fun _ => ?_))
    | (with_reducible refine lo_left ?_)
    | (refine lo_pos (by first | assumption | omega) ?_)
    | (refine lo_neg (by first | assumption | omega) ?_)
    | (with_reducible refine lo_test (fun _ => by first | assumption | omega) (fun _ => ?_))
    | exact lo_refl _
    | refine lo_ite (fun _ => ?_) (fun _ => ?_)
    | refine lo_bind (fun _ => ?_)
    | (refine lo_some ?_; first | rfl | (rw [Bool.false_xor]; rfl))
  all_goals (exfalso; first | omega | (simp_all; done) | (simp_all; omega))
theorem regimenref05_Put.al : AllLe (obls regimenref05_Put.E Tryz.f74) := by
  rw [regimenref05_Put.h1]
  exact (.cons (fun k y r h => regimenref05_Put.bj0 k y.1.1 y.1.2.1 r h) (.cons (fun _ y r h => by simp [regimenref05_Put.j0] at h) (.cons (fun k y r h => regimenref05_Put.bl0 k y.1.1 y.1.2.1 y.1.2.2.1 r h) (.cons (fun _ y r h => by simp [regimenref05_Put.l0] at h) (.cons (fun k y r h => regimenref05_Put.bl1 k y.1.1 y.1.2.1 y.1.2.2.1 r h) (.cons (fun _ y r h => by simp [regimenref05_Put.l1] at h) .nil))))))
theorem regimenref05_Put.ok : CalleeOk Tryz.prog 74 regimenref05_Put.c := fn_ok tabOk mixed (fun _ => rfl) Tryz.func74 rfl (by kernel_rfl) (ok_cons regimenref02_Size.ok (ok_cons regimenref05_Tens.ok (ok_cons regimenref02_Times.ok (ok_cons regimenref02_Twos.ok (ok_cons regimenref03_Rounded.ok (ok_cons regimenref05_Read.ok (ok_cons regimenref02_Cmp.ok (ok_cons regimenref05_Text.ok ok_nil)))))))) regimenref05_Put.al (fun k x r h => (congrFun (congrFun regimenref05_Put.h2 k) x).symm.trans (regimenref05_Put.bf k _ r h))
def regimenref45_tail.c : Sym.Callee := ⟨(.cons (.sl (.int .i64)) .nil), .str, false, ByteArray, fun k x => regimenref45_tail.f k x.1, fun z => z, []⟩
def regimenref45_tail.nl0 (k : Nat) (x0 : List Int) (x3 : ByteArray) (x4 : Int) : Option (ByteArray) := (if x4 < (x0.length : Int) then (if x3.size + (⟨#[32]⟩ : ByteArray).size ≤ 9223372036854775807 then (if 0 ≤ x4 then (if x4 < (x0.length : Int) then ((regimenref05_Put.f k (x0.getD (x4).toNat 0)).bind fun t1 => (if (x3 ++ (⟨#[32]⟩ : ByteArray)).size + t1.size ≤ 9223372036854775807 then (regimenref45_tail.l0 k x0 ((x3 ++ (⟨#[32]⟩ : ByteArray)) ++ t1) (wrap64 (x4 + (1 : Int)))) else none)) else none) else none) else none) else (some x3))
def regimenref45_tail.nf (k : Nat) (a0 : List Int) : Option (ByteArray) := (regimenref45_tail.l0 k a0 (⟨#[]⟩ : ByteArray) (0 : Int))
noncomputable def regimenref45_tail.E : Env (ByteArray) := envOf tab Tryz.f45 false .str [] (fun y => y) [(74, regimenref05_Put.c)] [⟨3, ⟨20, [(0, (.sl (.int .i64)), []), (3, .str, []), (4, (.int .i64), [])], [], []⟩, fun k y => regimenref45_tail.l0 k y.1.1 y.1.2.1 y.1.2.2.1⟩] []
theorem regimenref45_tail.h1 : obls regimenref45_tail.E Tryz.f45 = [⟨(.cons (.cons (.sl (.int .i64)) (.cons .str (.cons (.int .i64) .nil))) (.cons .nil (.cons .nil .nil))), fun k y => regimenref45_tail.l0 (k + 1) y.1.1 y.1.2.1 y.1.2.2.1, fun k y => regimenref45_tail.nl0 k y.1.1 y.1.2.1 y.1.2.2.1⟩, ⟨(.cons (.cons (.sl (.int .i64)) (.cons .str (.cons (.int .i64) .nil))) (.cons .nil (.cons .nil .nil))), fun _ y => regimenref45_tail.l0 0 y.1.1 y.1.2.1 y.1.2.2.1, fun _ _ => none⟩] := by kernel_rfl
theorem regimenref45_tail.h2 : (fun k (x : El (.cons (.sl (.int .i64)) .nil)) => regimenref45_tail.nf k x.1) = fun k x => mainK regimenref45_tail.E Tryz.f45 (.cons (.sl (.int .i64)) .nil) k x := by kernel_rfl
theorem regimenref45_tail.bl0 (k : Nat) (x0 : List Int) (x3 : ByteArray) (x4 : Int) : Lo (regimenref45_tail.l0 (k + 1) x0 x3 x4) (regimenref45_tail.nl0 k x0 x3 x4) := by
  rw [regimenref45_tail.l0]
  unfold regimenref45_tail.nl0
  try simp only [Bool.false_xor, Bool.true_xor, wu8_64, wu8_u64, byL_nums, btS_bt, nil_tl, beq_decL, beq_decI]
  repeat' first
    | (with_reducible exact lo_refl _)
    | exact lo_none _
    | (with_reducible refine lo_ite (fun _ => ?_) (fun _ => ?_))
    | (with_reducible refine lo_bind (fun _ => ?_))
    | (with_reducible refine lo_left ?_)
    | (refine lo_pos (by first | assumption | omega) ?_)
    | (refine lo_neg (by first | assumption | omega) ?_)
    | (with_reducible refine lo_test (fun _ => by first | assumption | omega) (fun _ => ?_))
    | exact lo_refl _
    | refine lo_ite (fun _ => ?_) (fun _ => ?_)
    | refine lo_bind (fun _ => ?_)
    | (refine lo_some ?_; first | rfl | (rw [Bool.false_xor]; rfl))
  all_goals (exfalso; first | omega | (simp_all; done) | (simp_all; omega))
set_option maxHeartbeats 2000000 in
theorem regimenref45_tail.bf (k : Nat) (a0 : List Int) : Lo (regimenref45_tail.f k a0) (regimenref45_tail.nf k a0) := by
  unfold regimenref45_tail.f regimenref45_tail.nf
  try simp only [Bool.false_xor, Bool.true_xor, wu8_64, wu8_u64, byL_nums, btS_bt, nil_tl, beq_decL, beq_decI]
  repeat' first
    | (with_reducible exact lo_refl _)
    | exact lo_none _
    | (with_reducible refine lo_ite (fun _ => ?_) (fun _ => ?_))
    | (with_reducible refine lo_bind (fun _ => ?_))
    | (with_reducible refine lo_left ?_)
    | (refine lo_pos (by first | assumption | omega) ?_)
    | (refine lo_neg (by first | assumption | omega) ?_)
    | (with_reducible refine lo_test (fun _ => by first | assumption | omega) (fun _ => ?_))
    | exact lo_refl _
    | refine lo_ite (fun _ => ?_) (fun _ => ?_)
    | refine lo_bind (fun _ => ?_)
    | (refine lo_some ?_; first | rfl | (rw [Bool.false_xor]; rfl))
  all_goals (exfalso; first | omega | (simp_all; done) | (simp_all; omega))
theorem regimenref45_tail.al : AllLe (obls regimenref45_tail.E Tryz.f45) := by
  rw [regimenref45_tail.h1]
  exact (.cons (fun k y r h => regimenref45_tail.bl0 k y.1.1 y.1.2.1 y.1.2.2.1 r h) (.cons (fun _ y r h => by simp [regimenref45_tail.l0] at h) .nil))
theorem regimenref45_tail.ok : CalleeOk Tryz.prog 45 regimenref45_tail.c := fn_ok tabOk mixed (fun _ => rfl) Tryz.func45 rfl (by kernel_rfl) (ok_cons regimenref05_Put.ok ok_nil) regimenref45_tail.al (fun k x r h => (congrFun (congrFun regimenref45_tail.h2 k) x).symm.trans (regimenref45_tail.bf k _ r h))
def regimenref34_May.c : Sym.Callee := ⟨(.cons (.cons (.int .i64) (.cons (.sl (.int .i64)) .nil)) .nil), .bool, false, Bool, fun k x => regimenref34_May.f x.1.1 x.1.2.1, fun z => z, []⟩
def regimenref34_May.nf (k : Nat) (a0_0 : Int) (a0_1 : List Int) : Option (Bool) := (if a0_0 ≥ (0 : Int) then (if a0_0 ≤ (1048576 : Int) then (if a0_0 > (0 : Int) then (some true) else (some (xor false (decide ((a0_1.length : Int) = (0 : Int)))))) else (some false)) else (some false))
noncomputable def regimenref34_May.E : Env (Bool) := envOf tab Tryz.f46 false .bool [] (fun y => y) [] [] []
theorem regimenref34_May.h1 : obls regimenref34_May.E Tryz.f46 = [] := by kernel_rfl
theorem regimenref34_May.h2 : (fun k (x : El (.cons (.cons (.int .i64) (.cons (.sl (.int .i64)) .nil)) .nil)) => regimenref34_May.nf k x.1.1 x.1.2.1) = fun k x => mainK regimenref34_May.E Tryz.f46 (.cons (.cons (.int .i64) (.cons (.sl (.int .i64)) .nil)) .nil) k x := by kernel_rfl
set_option maxHeartbeats 2000000 in
theorem regimenref34_May.bf (k : Nat) (a0_0 : Int) (a0_1 : List Int) : Lo (regimenref34_May.f a0_0 a0_1) (regimenref34_May.nf k a0_0 a0_1) := by
  unfold regimenref34_May.f regimenref34_May.nf
  try simp only [Bool.false_xor, Bool.true_xor, wu8_64, wu8_u64, byL_nums, btS_bt, nil_tl, beq_decL, beq_decI]
  repeat' first
    | (with_reducible exact lo_refl _)
    | exact lo_none _
    | (with_reducible refine lo_ite (fun _ => ?_) (fun _ => ?_))
    | (with_reducible refine lo_bind (fun _ => ?_))
    | (with_reducible refine lo_left ?_)
    | (refine lo_pos (by first | assumption | omega) ?_)
    | (refine lo_neg (by first | assumption | omega) ?_)
    | (with_reducible refine lo_test (fun _ => by first | assumption | omega) (fun _ => ?_))
    | exact lo_refl _
    | refine lo_ite (fun _ => ?_) (fun _ => ?_)
    | refine lo_bind (fun _ => ?_)
    | (refine lo_some ?_; first | rfl | (rw [Bool.false_xor]; rfl))
  all_goals (exfalso; first | omega | (simp_all; done) | (simp_all; omega))
theorem regimenref34_May.al : AllLe (obls regimenref34_May.E Tryz.f46) := by
  rw [regimenref34_May.h1]
  exact .nil
theorem regimenref34_May.ok : CalleeOk Tryz.prog 46 regimenref34_May.c := fn_ok tabOk mixed (fun _ => rfl) Tryz.func46 rfl (by kernel_rfl) ok_nil regimenref34_May.al (fun k x r h => (congrFun (congrFun regimenref34_May.h2 k) x).symm.trans (regimenref34_May.bf k _ _ r h))
def regimenref02_Mod.c : Sym.Callee := ⟨(.cons (.sl (.int .u64)) .nil), (.cons (.int .u64) (.cons (.int .u64) .nil)), false, Int × Int, fun k x => regimenref02_Mod.f k x.1, fun z => (z.1, z.2, ()), []⟩
def regimenref02_Mod.nl0 (k : Nat) (x0 : List Int) (x4 : Int) (b2_0 : Int) (b2_1 : Int) (b3_0 : Int) (b3_1 : Int) : Option (Int × Int) := (if x4 ≥ (0 : Int) then (if x4 ≥ (4 : Int) then (if 0 ≤ (0 : Int) then (if (0 : Int) < ((2 : Nat) : Int) then ((regimenref02_digit.f x0 x4).bind fun t1 => (if 0 ≤ (0 : Int) then (if (0 : Int) < ((2 : Nat) : Int) then (regimenref02_Mod.l0 k x0 (wrap64 (x4 - (1 : Int))) (IntKind.wrap .u64 ((IntKind.wrap .u64 (b3_0 * (65536 : Int))) + t1)) b3_1) else none) else none)) else none) else none) else (if 0 ≤ (1 : Int) then (if (1 : Int) < ((2 : Nat) : Int) then ((regimenref02_digit.f x0 x4).bind fun t2 => (if 0 ≤ (1 : Int) then (if (1 : Int) < ((2 : Nat) : Int) then (regimenref02_Mod.l0 k x0 (wrap64 (x4 - (1 : Int))) b3_0 (IntKind.wrap .u64 ((IntKind.wrap .u64 (b3_1 * (65536 : Int))) + t2))) else none) else none)) else none) else none)) else (some (b3_0, b3_1)))
def regimenref02_Mod.nf (k : Nat) (a0 : List Int) : Option (Int × Int) := (regimenref02_Mod.l0 k a0 (7 : Int) 0 0)
noncomputable def regimenref02_Mod.E : Env (Int × Int) := envOf tab Tryz.f86 false (.cons (.int .u64) (.cons (.int .u64) .nil)) [] (fun y => (y.1, y.2.1)) [(83, regimenref02_digit.c)] [⟨3, ⟨29, [(0, (.sl (.int .u64)), []), (4, (.int .i64), [])], [(2, (.cons (.int .u64) (.cons (.int .u64) .nil)), []), (3, (.cons (.int .u64) (.cons (.int .u64) .nil)), [])], []⟩, fun k y => regimenref02_Mod.l0 k y.1.1 y.1.2.1 y.2.1.2.1.1 y.2.1.2.1.2.1⟩] []
theorem regimenref02_Mod.h1 : obls regimenref02_Mod.E Tryz.f86 = [⟨(.cons (.cons (.sl (.int .u64)) (.cons (.int .i64) .nil)) (.cons (.cons (.cons (.int .u64) (.cons (.int .u64) .nil)) (.cons (.cons (.int .u64) (.cons (.int .u64) .nil)) .nil)) (.cons .nil .nil))), fun k y => regimenref02_Mod.l0 (k + 1) y.1.1 y.1.2.1 y.2.1.2.1.1 y.2.1.2.1.2.1, fun k y => regimenref02_Mod.nl0 k y.1.1 y.1.2.1 y.2.1.1.1 y.2.1.1.2.1 y.2.1.2.1.1 y.2.1.2.1.2.1⟩, ⟨(.cons (.cons (.sl (.int .u64)) (.cons (.int .i64) .nil)) (.cons (.cons (.cons (.int .u64) (.cons (.int .u64) .nil)) (.cons (.cons (.int .u64) (.cons (.int .u64) .nil)) .nil)) (.cons .nil .nil))), fun _ y => regimenref02_Mod.l0 0 y.1.1 y.1.2.1 y.2.1.2.1.1 y.2.1.2.1.2.1, fun _ _ => none⟩] := by kernel_rfl
theorem regimenref02_Mod.h2 : (fun k (x : El (.cons (.sl (.int .u64)) .nil)) => regimenref02_Mod.nf k x.1) = fun k x => mainK regimenref02_Mod.E Tryz.f86 (.cons (.sl (.int .u64)) .nil) k x := by kernel_rfl
theorem regimenref02_Mod.bl0 (k : Nat) (x0 : List Int) (x4 : Int) (b2_0 : Int) (b2_1 : Int) (b3_0 : Int) (b3_1 : Int) : Lo (regimenref02_Mod.l0 (k + 1) x0 x4 b3_0 b3_1) (regimenref02_Mod.nl0 k x0 x4 b2_0 b2_1 b3_0 b3_1) := by
  rw [regimenref02_Mod.l0]
  unfold regimenref02_Mod.nl0
  try simp only [Bool.false_xor, Bool.true_xor, wu8_64, wu8_u64, byL_nums, btS_bt, nil_tl, beq_decL, beq_decI]
  repeat' first
    | (with_reducible exact lo_refl _)
    | exact lo_none _
    | (with_reducible refine lo_ite (fun _ => ?_) (fun _ => ?_))
    | (with_reducible refine lo_bind (fun _ => ?_))
    | (with_reducible refine lo_left ?_)
    | (refine lo_pos (by first | assumption | omega) ?_)
    | (refine lo_neg (by first | assumption | omega) ?_)
    | (with_reducible refine lo_test (fun _ => by first | assumption | omega) (fun _ => ?_))
    | exact lo_refl _
    | refine lo_ite (fun _ => ?_) (fun _ => ?_)
    | refine lo_bind (fun _ => ?_)
    | (refine lo_some ?_; first | rfl | (rw [Bool.false_xor]; rfl))
  all_goals (exfalso; first | omega | (simp_all; done) | (simp_all; omega))
set_option maxHeartbeats 2000000 in
theorem regimenref02_Mod.bf (k : Nat) (a0 : List Int) : Lo (regimenref02_Mod.f k a0) (regimenref02_Mod.nf k a0) := by
  unfold regimenref02_Mod.f regimenref02_Mod.nf
  try simp only [Bool.false_xor, Bool.true_xor, wu8_64, wu8_u64, byL_nums, btS_bt, nil_tl, beq_decL, beq_decI]
  repeat' first
    | (with_reducible exact lo_refl _)
    | exact lo_none _
    | (with_reducible refine lo_ite (fun _ => ?_) (fun _ => ?_))
    | (with_reducible refine lo_bind (fun _ => ?_))
    | (with_reducible refine lo_left ?_)
    | (refine lo_pos (by first | assumption | omega) ?_)
    | (refine lo_neg (by first | assumption | omega) ?_)
    | (with_reducible refine lo_test (fun _ => by first | assumption | omega) (fun _ => ?_))
    | exact lo_refl _
    | refine lo_ite (fun _ => ?_) (fun _ => ?_)
    | refine lo_bind (fun _ => ?_)
    | (refine lo_some ?_; first | rfl | (rw [Bool.false_xor]; rfl))
  all_goals (exfalso; first | omega | (simp_all; done) | (simp_all; omega))
theorem regimenref02_Mod.al : AllLe (obls regimenref02_Mod.E Tryz.f86) := by
  rw [regimenref02_Mod.h1]
  exact (.cons (fun k y r h => regimenref02_Mod.bl0 k y.1.1 y.1.2.1 y.2.1.1.1 y.2.1.1.2.1 y.2.1.2.1.1 y.2.1.2.1.2.1 r h) (.cons (fun _ y r h => by simp [regimenref02_Mod.l0] at h) .nil))
theorem regimenref02_Mod.ok : CalleeOk Tryz.prog 86 regimenref02_Mod.c := fn_ok tabOk mixed (fun _ => rfl) Tryz.func86 rfl (by kernel_rfl) (ok_cons regimenref02_digit.ok ok_nil) regimenref02_Mod.al (fun k x r h => (congrFun (congrFun regimenref02_Mod.h2 k) x).symm.trans (regimenref02_Mod.bf k _ r h))
def regimenref04_Signed.c : Sym.Callee := ⟨(.cons (.sl (.int .u64)) (.cons .bool .nil)), (.cons (.int .i64) (.cons (.int .i64) .nil)), true, Int × Int, fun k x => regimenref04_Signed.f k x.1 x.2.1, fun z => (z.1, z.2, ()), []⟩
def regimenref04_Signed.nf (k : Nat) (a0 : List Int) (a1 : Bool) : Option (Int × Int) := ((regimenref02_Twos.f k (63 : Int)).bind fun t1 => ((regimenref02_Cmp.f k a0 t1).bind fun t2 => (if t2 > (0 : Int) then (some ((0 : Int), (4 : Int))) else (if t2 = (0 : Int) then (if (!a1) = true then (some ((0 : Int), (4 : Int))) else ((regimenref02_Mod.f k a0).bind fun t3 => (if 0 ≤ (1 : Int) then (if (1 : Int) < ((2 : Nat) : Int) then (if a1 = true then (some ((wrap64 ((IntKind.wrap .u64 ((0 : Int) - ([t3.1, t3.2].getD ((1 : Int)).toNat 0))))), (0 : Int))) else (some ((wrap64 (([t3.1, t3.2].getD ((1 : Int)).toNat 0))), (0 : Int)))) else none) else none))) else ((regimenref02_Mod.f k a0).bind fun t4 => (if 0 ≤ (1 : Int) then (if (1 : Int) < ((2 : Nat) : Int) then (if a1 = true then (some ((wrap64 ((IntKind.wrap .u64 ((0 : Int) - ([t4.1, t4.2].getD ((1 : Int)).toNat 0))))), (0 : Int))) else (some ((wrap64 (([t4.1, t4.2].getD ((1 : Int)).toNat 0))), (0 : Int)))) else none) else none))))))
noncomputable def regimenref04_Signed.E : Env (Int × Int) := envOf tab Tryz.f59 true (.cons (.int .i64) (.cons (.int .i64) .nil)) [] (fun y => (y.1, y.2.1)) [(85, regimenref02_Twos.c), (84, regimenref02_Cmp.c), (86, regimenref02_Mod.c)] [] []
theorem regimenref04_Signed.h1 : obls regimenref04_Signed.E Tryz.f59 = [] := by kernel_rfl
theorem regimenref04_Signed.h2 : (fun k (x : El (.cons (.sl (.int .u64)) (.cons .bool .nil))) => regimenref04_Signed.nf k x.1 x.2.1) = fun k x => mainK regimenref04_Signed.E Tryz.f59 (.cons (.sl (.int .u64)) (.cons .bool .nil)) k x := by kernel_rfl
set_option maxHeartbeats 2000000 in
theorem regimenref04_Signed.bf (k : Nat) (a0 : List Int) (a1 : Bool) : Lo (regimenref04_Signed.f k a0 a1) (regimenref04_Signed.nf k a0 a1) := by
  unfold regimenref04_Signed.f regimenref04_Signed.nf
  try simp only [Bool.false_xor, Bool.true_xor, wu8_64, wu8_u64, byL_nums, btS_bt, nil_tl, beq_decL, beq_decI]
  repeat' first
    | (with_reducible exact lo_refl _)
    | exact lo_none _
    | (with_reducible refine lo_lpos (by first | assumption | decide) ?_)
    | (with_reducible refine lo_lneg (by first | assumption | decide) ?_)
    | (with_reducible refine lo_ite (fun _ => ?_) (fun _ => ?_))
    | (with_reducible refine lo_bind (fun _ => ?_))
    | (with_reducible refine lo_left ?_)
    | (refine lo_neg (by decide) ?_)
    | (refine lo_pos (by first | assumption | omega) ?_)
    | (refine lo_neg (by first | assumption | omega) ?_)
    | (refine lo_trans (fun r h => (regimenref04_Signed.mono_l _) _ _ _ r h) ?_; rw [regimenref04_Signed.j0]; try simp only [decide_eq_true_eq])
    | (with_reducible refine lo_test (fun _ => by first | assumption | omega | (simp only [List.length_cons, List.length_nil]; omega) | decide) (fun _ => ?_))
    | (with_reducible refine lo_testn (fun _ => by first | assumption | omega) (fun _ => ?_))
    | (with_reducible refine lo_and (fun z => by first | exact z.1 | omega) (fun z => by first | exact z.2 | omega) (fun _ => ?_))
    | exact lo_refl _
    | (with_reducible refine lo_iff (by first | exact Iff.rfl | omega | (simp; done) | decide) (fun _ => ?_) (fun _ => ?_))
    | (with_reducible refine lo_iffn (by first | exact Iff.rfl | omega | (simp; done) | decide) (fun _ => ?_) (fun _ => ?_))
    | refine lo_ite (fun _ => ?_) (fun _ => ?_)
    | refine lo_bind (fun _ => ?_)
    | (refine lo_some ?_; first | rfl | (rw [Bool.false_xor]; rfl) | (rw [Bool.true_xor]; rfl) | (simp only [Bool.and_true]; rfl) | (simp; done))
    | (simp only [Int.zero_sub]; exact lo_refl _)
    | (with_reducible refine lo_lpos (by omega) ?_)
    | (with_reducible refine lo_lneg (by omega) ?_)
    | (with_reducible refine lo_lite (fun _ => ?_) (fun _ => ?_))
    | (with_reducible refine lo_rite (fun _ => ?_) (fun _ => ?_))
  all_goals (exfalso; first | omega | (simp_all; done) | (simp_all; omega))
theorem regimenref04_Signed.al : AllLe (obls regimenref04_Signed.E Tryz.f59) := by
  rw [regimenref04_Signed.h1]
  exact .nil
theorem regimenref04_Signed.ok : CalleeOk Tryz.prog 59 regimenref04_Signed.c := fn_ok tabOk mixed (fun _ => rfl) Tryz.func59 rfl (by kernel_rfl) (ok_cons regimenref02_Twos.ok (ok_cons regimenref02_Cmp.ok (ok_cons regimenref02_Mod.ok ok_nil))) regimenref04_Signed.al (fun k x r h => (congrFun (congrFun regimenref04_Signed.h2 k) x).symm.trans (regimenref04_Signed.bf k _ _ r h))
def regimenref34_Mean.c : Sym.Callee := ⟨(.cons (.cons (.int .i64) (.cons (.sl (.int .i64)) .nil)) .nil), (.sl (.int .i64)), false, List Int, fun k x => regimenref34_Mean.f k x.1.1 x.1.2.1, fun z => z, []⟩
def regimenref34_Mean.nl0 (k : Nat) (x3 : List Int) (x4 : Int) (b1_0 : Int) (b1_1 : List Int) : Option (List Int) := (if x4 < (b1_1.length : Int) then (if 0 ≤ x4 then (if x4 < (b1_1.length : Int) then ((regimenref02_Size.f (b1_1.getD (x4).toNat 0)).bind fun t1 => ((regimenref02_Size.f b1_0).bind fun t2 => ((regimenref03_Rounded.f k t1 t2).bind fun t3 => (if 0 ≤ x4 then (if x4 < (b1_1.length : Int) then ((regimenref04_Signed.f k t3 (xor false (decide ((b1_1.getD (x4).toNat 0) < (0 : Int))))).bind fun t4 => (if (x3.length + [t4.1].length) * 8 ≤ 140737488355328 then (regimenref34_Mean.l0 k (x3 ++ [t4.1]) (wrap64 (x4 + (1 : Int))) b1_0 b1_1) else none)) else none) else none)))) else none) else none) else (some x3))
def regimenref34_Mean.nf (k : Nat) (a0_0 : Int) (a0_1 : List Int) : Option (List Int) := (regimenref34_Mean.l0 k ([] : List Int) (0 : Int) a0_0 a0_1)
noncomputable def regimenref34_Mean.E : Env (List Int) := envOf tab Tryz.f47 false (.sl (.int .i64)) [] (fun y => y) [(76, regimenref02_Size.c), (75, regimenref03_Rounded.c), (59, regimenref04_Signed.c)] [⟨3, ⟨42, [(3, (.sl (.int .i64)), [⟨0, 4, 3, 1⟩]), (4, (.int .i64), [])], [(1, (.cons (.int .i64) (.cons (.sl (.int .i64)) .nil)), [])], []⟩, fun k y => regimenref34_Mean.l0 k y.1.1 y.1.2.1 y.2.1.1.1 y.2.1.1.2.1⟩] []
theorem regimenref34_Mean.h1 : obls regimenref34_Mean.E Tryz.f47 = [⟨(.cons (.cons (.sl (.int .i64)) (.cons (.int .i64) .nil)) (.cons (.cons (.cons (.int .i64) (.cons (.sl (.int .i64)) .nil)) .nil) (.cons .nil .nil))), fun k y => regimenref34_Mean.l0 (k + 1) y.1.1 y.1.2.1 y.2.1.1.1 y.2.1.1.2.1, fun k y => regimenref34_Mean.nl0 k y.1.1 y.1.2.1 y.2.1.1.1 y.2.1.1.2.1⟩, ⟨(.cons (.cons (.sl (.int .i64)) (.cons (.int .i64) .nil)) (.cons (.cons (.cons (.int .i64) (.cons (.sl (.int .i64)) .nil)) .nil) (.cons .nil .nil))), fun _ y => regimenref34_Mean.l0 0 y.1.1 y.1.2.1 y.2.1.1.1 y.2.1.1.2.1, fun _ _ => none⟩] := by kernel_rfl
theorem regimenref34_Mean.h2 : (fun k (x : El (.cons (.cons (.int .i64) (.cons (.sl (.int .i64)) .nil)) .nil)) => regimenref34_Mean.nf k x.1.1 x.1.2.1) = fun k x => mainK regimenref34_Mean.E Tryz.f47 (.cons (.cons (.int .i64) (.cons (.sl (.int .i64)) .nil)) .nil) k x := by kernel_rfl
theorem regimenref34_Mean.bl0 (k : Nat) (x3 : List Int) (x4 : Int) (b1_0 : Int) (b1_1 : List Int) : Lo (regimenref34_Mean.l0 (k + 1) x3 x4 b1_0 b1_1) (regimenref34_Mean.nl0 k x3 x4 b1_0 b1_1) := by
  rw [regimenref34_Mean.l0]
  unfold regimenref34_Mean.nl0
  try simp only [Bool.false_xor, Bool.true_xor, wu8_64, wu8_u64, byL_nums, btS_bt, nil_tl, beq_decL, beq_decI]
  repeat' first
    | (with_reducible exact lo_refl _)
    | exact lo_none _
    | (with_reducible refine lo_lpos (by first | assumption | decide) ?_)
    | (with_reducible refine lo_lneg (by first | assumption | decide) ?_)
    | (with_reducible refine lo_ite (fun _ => ?_) (fun _ => ?_))
    | (with_reducible refine lo_bind (fun _ => ?_))
    | (with_reducible refine lo_left ?_)
    | (refine lo_neg (by decide) ?_)
    | (refine lo_pos (by first | assumption | omega) ?_)
    | (refine lo_neg (by first | assumption | omega) ?_)
    | (with_reducible refine lo_test (fun _ => by first | assumption | omega | (simp only [List.length_cons, List.length_nil]; omega) | decide) (fun _ => ?_))
    | (with_reducible refine lo_testn (fun _ => by first | assumption | omega) (fun _ => ?_))
    | (with_reducible refine lo_and (fun z => by first | exact z.1 | omega) (fun z => by first | exact z.2 | omega) (fun _ => ?_))
    | exact lo_refl _
    | (with_reducible refine lo_iff (by first | exact Iff.rfl | omega | (simp; done) | decide) (fun _ => ?_) (fun _ => ?_))
    | (with_reducible refine lo_iffn (by first | exact Iff.rfl | omega | (simp; done) | decide) (fun _ => ?_) (fun _ => ?_))
    | refine lo_ite (fun _ => ?_) (fun _ => ?_)
    | refine lo_bind (fun _ => ?_)
    | (refine lo_some ?_; first | rfl | (rw [Bool.false_xor]; rfl) | (rw [Bool.true_xor]; rfl) | (simp only [Bool.and_true]; rfl) | (simp; done))
    | (simp only [Int.zero_sub]; exact lo_refl _)
    | (with_reducible refine lo_lpos (by omega) ?_)
    | (with_reducible refine lo_lneg (by omega) ?_)
    | (with_reducible refine lo_lite (fun _ => ?_) (fun _ => ?_))
    | (with_reducible refine lo_rite (fun _ => ?_) (fun _ => ?_))
  all_goals (exfalso; first | omega | (simp_all; done) | (simp_all; omega))
set_option maxHeartbeats 2000000 in
theorem regimenref34_Mean.bf (k : Nat) (a0_0 : Int) (a0_1 : List Int) : Lo (regimenref34_Mean.f k a0_0 a0_1) (regimenref34_Mean.nf k a0_0 a0_1) := by
  unfold regimenref34_Mean.f regimenref34_Mean.nf
  try simp only [Bool.false_xor, Bool.true_xor, wu8_64, wu8_u64, byL_nums, btS_bt, nil_tl, beq_decL, beq_decI]
  repeat' first
    | (with_reducible exact lo_refl _)
    | exact lo_none _
    | (with_reducible refine lo_ite (fun _ => ?_) (fun _ => ?_))
    | (with_reducible refine lo_bind (fun _ => ?_))
    | (with_reducible refine lo_left ?_)
    | (refine lo_pos (by first | assumption | omega) ?_)
    | (refine lo_neg (by first | assumption | omega) ?_)
    | (with_reducible refine lo_test (fun _ => by first | assumption | omega) (fun _ => ?_))
    | exact lo_refl _
    | refine lo_ite (fun _ => ?_) (fun _ => ?_)
    | refine lo_bind (fun _ => ?_)
    | (refine lo_some ?_; first | rfl | (rw [Bool.false_xor]; rfl))
  all_goals (exfalso; first | omega | (simp_all; done) | (simp_all; omega))
theorem regimenref34_Mean.al : AllLe (obls regimenref34_Mean.E Tryz.f47) := by
  rw [regimenref34_Mean.h1]
  exact (.cons (fun k y r h => regimenref34_Mean.bl0 k y.1.1 y.1.2.1 y.2.1.1.1 y.2.1.1.2.1 r h) (.cons (fun _ y r h => by simp [regimenref34_Mean.l0] at h) .nil))
theorem regimenref34_Mean.ok : CalleeOk Tryz.prog 47 regimenref34_Mean.c := fn_ok tabOk mixed (fun _ => rfl) Tryz.func47 rfl (by kernel_rfl) (ok_cons regimenref02_Size.ok (ok_cons regimenref03_Rounded.ok (ok_cons regimenref04_Signed.ok ok_nil))) regimenref34_Mean.al (fun k x r h => (congrFun (congrFun regimenref34_Mean.h2 k) x).symm.trans (regimenref34_Mean.bf k _ _ r h))
mutual
def regimenref45_State_s.l3 : Nat → (List ByteArray) → Int → (Int × Int × Int × (Bool × Int × Int × Unit) × ((Bool × Int × Int × Unit) × Int × Int × Unit) × (List (Int × Int × Unit)) × (List Int) × (Int × (List Int) × Unit) × Unit) → Option (List ByteArray)
  | 0, _, _, _ => none
  | k + 1, x3, x4, b1 => (if x4 < (b1.2.2.2.2.2.1.length : Int) then (if 0 ≤ x4 then (if x4 < (b1.2.2.2.2.2.1.length : Int) then ((regimenref01_Tell.f k ((b1.2.2.2.2.2.1.getD (x4).toNat (0, 0, ())).1)).bind fun t3 => (if (⟨#[107, 101, 112, 116, 32]⟩ : ByteArray).size + t3.size ≤ 9223372036854775807 then (if 0 ≤ x4 then (if x4 < (b1.2.2.2.2.2.1.length : Int) then ((regimenref45_tail.f k [(b1.2.2.2.2.2.1.getD (x4).toNat (0, 0, ())).2.1]).bind fun t4 => (if ((⟨#[107, 101, 112, 116, 32]⟩ : ByteArray) ++ t3).size + t4.size ≤ 9223372036854775807 then (if (x3.length + [(((⟨#[107, 101, 112, 116, 32]⟩ : ByteArray) ++ t3) ++ t4)].length) * 16 ≤ 140737488355328 then (regimenref45_State_s.l3 k (x3 ++ [(((⟨#[107, 101, 112, 116, 32]⟩ : ByteArray) ++ t3) ++ t4)]) (wrap64 (x4 + (1 : Int))) b1) else none) else none)) else none) else none) else none)) else none) else none) else (if (b1.2.2.2.2.2.2.1.length : Int) > (0 : Int) then ((regimenref45_tail.f k b1.2.2.2.2.2.2.1).bind fun t5 => (if (⟨#[101, 109, 97]⟩ : ByteArray).size + t5.size ≤ 9223372036854775807 then (if (x3.length + [((⟨#[101, 109, 97]⟩ : ByteArray) ++ t5)].length) * 16 ≤ 140737488355328 then (regimenref45_State_s.j8 k (x3 ++ [((⟨#[101, 109, 97]⟩ : ByteArray) ++ t5)]) b1) else none) else none)) else (regimenref45_State_s.j8 k x3 b1)))
def regimenref45_State_s.j8 : Nat → (List ByteArray) → (Int × Int × Int × (Bool × Int × Int × Unit) × ((Bool × Int × Int × Unit) × Int × Int × Unit) × (List (Int × Int × Unit)) × (List Int) × (Int × (List Int) × Unit) × Unit) → Option (List ByteArray)
  | 0, _, _ => none
  | k + 1, x3, b1 => ((regimenref34_May.f b1.2.2.2.2.2.2.2.1.1 b1.2.2.2.2.2.2.2.1.2.1).bind fun t6 => (if t6 = true then (if b1.2.2.2.2.2.2.2.1.1 > (0 : Int) then ((regimenref01_Tell.f k b1.2.2.2.2.2.2.2.1.1).bind fun t7 => (if (⟨#[115, 119, 97, 32]⟩ : ByteArray).size + t7.size ≤ 9223372036854775807 then ((regimenref34_Mean.f k b1.2.2.2.2.2.2.2.1.1 b1.2.2.2.2.2.2.2.1.2.1).bind fun t8 => ((regimenref45_tail.f k t8).bind fun t9 => (if ((⟨#[115, 119, 97, 32]⟩ : ByteArray) ++ t7).size + t9.size ≤ 9223372036854775807 then (if (x3.length + [(((⟨#[115, 119, 97, 32]⟩ : ByteArray) ++ t7) ++ t9)].length) * 16 ≤ 140737488355328 then (regimenref45_State_s.j10 k (x3 ++ [(((⟨#[115, 119, 97, 32]⟩ : ByteArray) ++ t7) ++ t9)])) else none) else none))) else none)) else (regimenref45_State_s.j10 k x3)) else (regimenref45_State_s.j10 k x3)))
def regimenref45_State_s.j10 : Nat → (List ByteArray) → Option (List ByteArray)
  | 0, _ => none
  | k + 1, x3 => (some x3)
end
def regimenref45_State_s.f (k : Nat) (a0 : Int × Int × Int × (Bool × Int × Int × Unit) × ((Bool × Int × Int × Unit) × Int × Int × Unit) × (List (Int × Int × Unit)) × (List Int) × (Int × (List Int) × Unit) × Unit) : Option (List ByteArray) := ((regimenref45_Word.f a0.2.1).bind fun t1 => (if (⟨#[115, 116, 97, 116, 101, 32]⟩ : ByteArray).size + t1.size ≤ 9223372036854775807 then (if ((⟨#[115, 116, 97, 116, 101, 32]⟩ : ByteArray) ++ t1).size + (⟨#[32]⟩ : ByteArray).size ≤ 9223372036854775807 then ((regimenref01_Tell.f k a0.1).bind fun t2 => (if (((⟨#[115, 116, 97, 116, 101, 32]⟩ : ByteArray) ++ t1) ++ (⟨#[32]⟩ : ByteArray)).size + t2.size ≤ 9223372036854775807 then (regimenref45_State_s.l3 k [((((⟨#[115, 116, 97, 116, 101, 32]⟩ : ByteArray) ++ t1) ++ (⟨#[32]⟩ : ByteArray)) ++ t2)] (0 : Int) a0) else none)) else none) else none))
def regimenref45_State_s.c : Sym.Callee := ⟨(.cons (.cons (.int .i64) (.cons (.int .i64) (.cons (.int .i64) (.cons (.cons .bool (.cons (.int .i64) (.cons (.int .i64) .nil))) (.cons (.cons (.cons .bool (.cons (.int .i64) (.cons (.int .i64) .nil))) (.cons (.int .i64) (.cons (.int .i64) .nil))) (.cons (.sl (.cons (.int .i64) (.cons (.int .i64) .nil))) (.cons (.sl (.int .i64)) (.cons (.cons (.int .i64) (.cons (.sl (.int .i64)) .nil)) .nil)))))))) .nil), (.sl .str), false, El (.sl .str), fun k x => regimenref45_State_s.f k x.1, fun y => y, []⟩
noncomputable def regimenref45_State_s.E : Env (El (.sl .str)) := envOf tab Tryz.f19 false (.sl .str) [] (fun y => y) [(25, regimenref45_Word.c), (44, regimenref01_Tell.c), (45, regimenref45_tail.c), (46, regimenref34_May.c), (47, regimenref34_Mean.c)] [⟨3, ⟨76, [(3, (.sl .str), [⟨0, 4, 9, 1⟩]), (4, (.int .i64), [])], [(1, (.cons (.int .i64) (.cons (.int .i64) (.cons (.int .i64) (.cons (.cons .bool (.cons (.int .i64) (.cons (.int .i64) .nil))) (.cons (.cons (.cons .bool (.cons (.int .i64) (.cons (.int .i64) .nil))) (.cons (.int .i64) (.cons (.int .i64) .nil))) (.cons (.sl (.cons (.int .i64) (.cons (.int .i64) .nil))) (.cons (.sl (.int .i64)) (.cons (.cons (.int .i64) (.cons (.sl (.int .i64)) .nil)) .nil)))))))), [])], []⟩, fun k y => regimenref45_State_s.l3 k y.1.1 y.1.2.1 y.2.1.1⟩] [⟨8, ⟨76, [(3, (.sl .str), [⟨0, 4, 9, 1⟩])], [(1, (.cons (.int .i64) (.cons (.int .i64) (.cons (.int .i64) (.cons (.cons .bool (.cons (.int .i64) (.cons (.int .i64) .nil))) (.cons (.cons (.cons .bool (.cons (.int .i64) (.cons (.int .i64) .nil))) (.cons (.int .i64) (.cons (.int .i64) .nil))) (.cons (.sl (.cons (.int .i64) (.cons (.int .i64) .nil))) (.cons (.sl (.int .i64)) (.cons (.cons (.int .i64) (.cons (.sl (.int .i64)) .nil)) .nil)))))))), [])], []⟩, fun k y => regimenref45_State_s.j8 k y.1.1 y.2.1.1⟩, ⟨10, ⟨76, [(3, (.sl .str), [⟨0, 4, 9, 1⟩])], [], []⟩, fun k y => regimenref45_State_s.j10 k y.1.1⟩]
theorem regimenref45_State_s.h1 : (obls regimenref45_State_s.E Tryz.f19).map Ob.left = (obls regimenref45_State_s.E Tryz.f19).map Ob.right := by kernel_rfl
theorem regimenref45_State_s.h2 : (fun k x => regimenref45_State_s.c.fn k x) = fun k x => mainK regimenref45_State_s.E Tryz.f19 regimenref45_State_s.c.dom k x := by kernel_rfl
theorem regimenref45_State_s.ok : CalleeOk Tryz.prog 19 regimenref45_State_s.c := fn_ok tabOk mixed (fun _ => rfl) Tryz.func19 rfl (by kernel_rfl) (ok_cons regimenref45_Word.ok (ok_cons regimenref01_Tell.ok (ok_cons regimenref45_tail.ok (ok_cons regimenref34_May.ok (ok_cons regimenref34_Mean.ok ok_nil))))) (.of_eq regimenref45_State_s.h1) (fun k x _ h => (congrFun (congrFun regimenref45_State_s.h2 k) x).symm.trans h)
def regimenref01_Texts.c : Sym.Callee := ⟨(.cons (.sl .str) (.cons (.sl .str) .nil)), .bool, false, Bool, fun k x => regimenref01_Texts.f k x.1 x.2.1, fun z => z, []⟩
def regimenref01_Texts.nl0 (k : Nat) (x0 : List ByteArray) (x1 : List ByteArray) (x5 : Int) : Option (Bool) := (if x5 < (x0.length : Int) then (if 0 ≤ x5 then (if x5 < (x0.length : Int) then (if 0 ≤ x5 then (if x5 < (x1.length : Int) then (if (x0.getD (x5).toNat (⟨#[]⟩ : ByteArray)).toList = (x1.getD (x5).toNat (⟨#[]⟩ : ByteArray)).toList then (regimenref01_Texts.l0 k x0 x1 (wrap64 (x5 + (1 : Int)))) else (some false)) else none) else none) else none) else none) else (some true))
def regimenref01_Texts.nf (k : Nat) (a0 : List ByteArray) (a1 : List ByteArray) : Option (Bool) := (if (a0.length : Int) = (a1.length : Int) then (regimenref01_Texts.l0 k a0 a1 (0 : Int)) else (some false))
noncomputable def regimenref01_Texts.E : Env (Bool) := envOf tab Tryz.f18 false .bool [] (fun y => y) [] [⟨4, ⟨26, [(0, (.sl .str), []), (1, (.sl .str), []), (5, (.int .i64), [])], [], []⟩, fun k y => regimenref01_Texts.l0 k y.1.1 y.1.2.1 y.1.2.2.1⟩] []
theorem regimenref01_Texts.h1 : obls regimenref01_Texts.E Tryz.f18 = [⟨(.cons (.cons (.sl .str) (.cons (.sl .str) (.cons (.int .i64) .nil))) (.cons .nil (.cons .nil .nil))), fun k y => regimenref01_Texts.l0 (k + 1) y.1.1 y.1.2.1 y.1.2.2.1, fun k y => regimenref01_Texts.nl0 k y.1.1 y.1.2.1 y.1.2.2.1⟩, ⟨(.cons (.cons (.sl .str) (.cons (.sl .str) (.cons (.int .i64) .nil))) (.cons .nil (.cons .nil .nil))), fun _ y => regimenref01_Texts.l0 0 y.1.1 y.1.2.1 y.1.2.2.1, fun _ _ => none⟩] := by kernel_rfl
theorem regimenref01_Texts.h2 : (fun k (x : El (.cons (.sl .str) (.cons (.sl .str) .nil))) => regimenref01_Texts.nf k x.1 x.2.1) = fun k x => mainK regimenref01_Texts.E Tryz.f18 (.cons (.sl .str) (.cons (.sl .str) .nil)) k x := by kernel_rfl
theorem regimenref01_Texts.bl0 (k : Nat) (x0 : List ByteArray) (x1 : List ByteArray) (x5 : Int) : Lo (regimenref01_Texts.l0 (k + 1) x0 x1 x5) (regimenref01_Texts.nl0 k x0 x1 x5) := by
  rw [regimenref01_Texts.l0]
  unfold regimenref01_Texts.nl0
  try simp only [Bool.false_xor, Bool.true_xor, wu8_64, wu8_u64, byL_nums, btS_bt, nil_tl, beq_decL, beq_decI]
  repeat' first
    | (with_reducible exact lo_refl _)
    | exact lo_none _
    | (with_reducible refine lo_ite (fun _ => ?_) (fun _ => ?_))
    | (with_reducible refine lo_bind (fun _ => ?_))
    | (with_reducible refine lo_left ?_)
    | (refine lo_pos (by first | assumption | omega) ?_)
    | (refine lo_neg (by first | assumption | omega) ?_)
    | (with_reducible refine lo_test (fun _ => by first | assumption | omega) (fun _ => ?_))
    | exact lo_refl _
    | refine lo_ite (fun _ => ?_) (fun _ => ?_)
    | refine lo_bind (fun _ => ?_)
    | (refine lo_some ?_; first | rfl | (rw [Bool.false_xor]; rfl))
  all_goals (exfalso; first | omega | (simp_all; done) | (simp_all; omega))
set_option maxHeartbeats 2000000 in
theorem regimenref01_Texts.bf (k : Nat) (a0 : List ByteArray) (a1 : List ByteArray) : Lo (regimenref01_Texts.f k a0 a1) (regimenref01_Texts.nf k a0 a1) := by
  unfold regimenref01_Texts.f regimenref01_Texts.nf
  try simp only [Bool.false_xor, Bool.true_xor, wu8_64, wu8_u64, byL_nums, btS_bt, nil_tl, beq_decL, beq_decI]
  repeat' first
    | (with_reducible exact lo_refl _)
    | exact lo_none _
    | (with_reducible refine lo_ite (fun _ => ?_) (fun _ => ?_))
    | (with_reducible refine lo_bind (fun _ => ?_))
    | (with_reducible refine lo_left ?_)
    | (refine lo_pos (by first | assumption | omega) ?_)
    | (refine lo_neg (by first | assumption | omega) ?_)
    | (with_reducible refine lo_test (fun _ => by first | assumption | omega) (fun _ => ?_))
    | exact lo_refl _
    | refine lo_ite (fun _ => ?_) (fun _ => ?_)
    | refine lo_bind (fun _ => ?_)
    | (refine lo_some ?_; first | rfl | (rw [Bool.false_xor]; rfl))
  all_goals (exfalso; first | omega | (simp_all; done) | (simp_all; omega))
theorem regimenref01_Texts.al : AllLe (obls regimenref01_Texts.E Tryz.f18) := by
  rw [regimenref01_Texts.h1]
  exact (.cons (fun k y r h => regimenref01_Texts.bl0 k y.1.1 y.1.2.1 y.1.2.2.1 r h) (.cons (fun _ y r h => by simp [regimenref01_Texts.l0] at h) .nil))
theorem regimenref01_Texts.ok : CalleeOk Tryz.prog 18 regimenref01_Texts.c := fn_ok tabOk mixed (fun _ => rfl) Tryz.func18 rfl (by kernel_rfl) ok_nil regimenref01_Texts.al (fun k x r h => (congrFun (congrFun regimenref01_Texts.h2 k) x).symm.trans (regimenref01_Texts.bf k _ _ r h))
def regimenlaw57_TraceBack.l5 : Nat → (List (Int × Int × (List Int) × (List Bool) × (List (Int × Int × Int × Unit)) × Int × Unit)) → Bool → Int → (Int × Int × Int × (Bool × Int × Int × Unit) × ((Bool × Int × Int × Unit) × Int × Int × Unit) × (List (Int × Int × Unit)) × (List Int) × (Int × (List Int) × Unit) × Unit) → Option Bool
  | 0, _, _, _, _ => none
  | k + 1, x0, x5, x6, b3 => (if x6 < (x0.length : Int) then (if 0 ≤ x6 then (if x6 < (x0.length : Int) then ((regimenlaw57_small_s.f k (x0.getD (x6).toNat (0, 0, ([] : List Int), ([] : List Bool), ([] : List (Int × Int × Int × Unit)), 0, ()))).bind fun t4 => (if (!t4) = true then ((regimenlaw57_awake.f k).bind fun t5 => (some t5)) else (if 0 ≤ x6 then (if x6 < (x0.length : Int) then ((regimenref57_May_s.f k (x0.getD (x6).toNat (0, 0, ([] : List Int), ([] : List Bool), ([] : List (Int × Int × Int × Unit)), 0, ()))).bind fun t6 => (if 0 ≤ x6 then (if x6 < (x0.length : Int) then ((trace_Check.f k (x0.getD (x6).toNat (0, 0, ([] : List Int), ([] : List Bool), ([] : List (Int × Int × Int × Unit)), 0, ()))).bind fun t7 => (if (xor false (decide (t7 = (0 : Int)))) = t6 then (if 0 ≤ x6 then (if x6 < (x0.length : Int) then ((trace_Check.f k (x0.getD (x6).toNat (0, 0, ([] : List Int), ([] : List Bool), ([] : List (Int × Int × Int × Unit)), 0, ()))).bind fun t8 => (if (xor false (decide (t8 = (1 : Int)))) = t6 then (some false) else (if x5 = true then (regimenlaw57_TraceBack.l5 k x0 t6 (wrap64 (x6 + (1 : Int))) b3) else (regimenlaw57_TraceBack.l5 k x0 false (wrap64 (x6 + (1 : Int))) b3)))) else none) else none) else (some false))) else none) else none)) else none) else none))) else none) else none) else (if (!x5) = true then ((regimenlaw57_awake.f k).bind fun t9 => (some t9)) else ((output_Text.f k x0 b3).bind fun t10 => ((trace_Text.f k t10).bind fun t11 => ((trace_Text.f k (⟨#[115, 116, 101, 112]⟩ : ByteArray)).bind fun t12 => (if t11.2.2.1 = (0 : Int) then (if t12.2.2.1 = (2 : Int) then ((regimenref39_Same_s.f k t11.1 x0).bind fun t13 => (if t13 = true then ((regimenref45_State_s.f k b3).bind fun t14 => ((regimenref01_Texts.f k t11.2.1 t14).bind fun t15 => (if t15 = true then ((regimenlaw57_awake.f k).bind fun t16 => (some t16)) else (some false)))) else (some false))) else (some false)) else (some false)))))))
def regimenlaw57_TraceBack.f (k : Nat) (a0 : List (Int × Int × (List Int) × (List Bool) × (List (Int × Int × Int × Unit)) × Int × Unit)) (a1 : Int × Int × Int × (Bool × Int × Int × Unit) × ((Bool × Int × Int × Unit) × Int × Int × Unit) × (List (Int × Int × Unit)) × (List Int) × (Int × (List Int) × Unit) × Unit) : Option Bool := (if (a0.length : Int) > (6 : Int) then ((regimenlaw57_awake.f k).bind fun t1 => (some t1)) else ((regimenlaw37_Light_s.f k a1).bind fun t2 => (if (!t2) = true then ((regimenlaw57_awake.f k).bind fun t3 => (some t3)) else (regimenlaw57_TraceBack.l5 k a0 true (0 : Int) a1))))
def regimenlaw57_TraceBack.c : Sym.Callee := ⟨(.cons (.sl (.cons (.int .i64) (.cons (.int .i64) (.cons (.sl (.int .i64)) (.cons (.sl .bool) (.cons (.sl (.cons (.int .i64) (.cons (.int .i64) (.cons (.int .i64) .nil)))) (.cons (.int .i64) .nil))))))) (.cons (.cons (.int .i64) (.cons (.int .i64) (.cons (.int .i64) (.cons (.cons .bool (.cons (.int .i64) (.cons (.int .i64) .nil))) (.cons (.cons (.cons .bool (.cons (.int .i64) (.cons (.int .i64) .nil))) (.cons (.int .i64) (.cons (.int .i64) .nil))) (.cons (.sl (.cons (.int .i64) (.cons (.int .i64) .nil))) (.cons (.sl (.int .i64)) (.cons (.cons (.int .i64) (.cons (.sl (.int .i64)) .nil)) .nil)))))))) .nil)), .bool, false, El .bool, fun k x => regimenlaw57_TraceBack.f k x.1 x.2.1, fun y => y, []⟩
noncomputable def regimenlaw57_TraceBack.E : Env (El .bool) := envOf tab Tryz.f4 false .bool [] (fun y => y) [(5, regimenlaw57_awake.c), (12, regimenlaw37_Light_s.c), (13, regimenlaw57_small_s.c), (14, regimenref57_May_s.c), (15, trace_Check.c), (16, output_Text.c), (17, trace_Text.c), (11, regimenref39_Same_s.c), (19, regimenref45_State_s.c), (18, regimenref01_Texts.c)] [⟨5, ⟨101, [(0, (.sl (.cons (.int .i64) (.cons (.int .i64) (.cons (.sl (.int .i64)) (.cons (.sl .bool) (.cons (.sl (.cons (.int .i64) (.cons (.int .i64) (.cons (.int .i64) .nil)))) (.cons (.int .i64) .nil))))))), []), (5, .bool, []), (6, (.int .i64), [])], [(3, (.cons (.int .i64) (.cons (.int .i64) (.cons (.int .i64) (.cons (.cons .bool (.cons (.int .i64) (.cons (.int .i64) .nil))) (.cons (.cons (.cons .bool (.cons (.int .i64) (.cons (.int .i64) .nil))) (.cons (.int .i64) (.cons (.int .i64) .nil))) (.cons (.sl (.cons (.int .i64) (.cons (.int .i64) .nil))) (.cons (.sl (.int .i64)) (.cons (.cons (.int .i64) (.cons (.sl (.int .i64)) .nil)) .nil)))))))), [])], []⟩, fun k y => regimenlaw57_TraceBack.l5 k y.1.1 y.1.2.1 y.1.2.2.1 y.2.1.1⟩] []
theorem regimenlaw57_TraceBack.h1 : (obls regimenlaw57_TraceBack.E Tryz.f4).map Ob.left = (obls regimenlaw57_TraceBack.E Tryz.f4).map Ob.right := by kernel_rfl
theorem regimenlaw57_TraceBack.h2 : (fun k x => regimenlaw57_TraceBack.c.fn k x) = fun k x => mainK regimenlaw57_TraceBack.E Tryz.f4 regimenlaw57_TraceBack.c.dom k x := by kernel_rfl
theorem regimenlaw57_TraceBack.ok : CalleeOk Tryz.prog 4 regimenlaw57_TraceBack.c := fn_ok tabOk mixed (fun _ => rfl) Tryz.func4 rfl (by kernel_rfl) (ok_cons regimenlaw57_awake.ok (ok_cons regimenlaw37_Light_s.ok (ok_cons regimenlaw57_small_s.ok (ok_cons regimenref57_May_s.ok (ok_cons trace_Check.ok (ok_cons output_Text.ok (ok_cons trace_Text.ok (ok_cons regimenref39_Same_s.ok (ok_cons regimenref45_State_s.ok (ok_cons regimenref01_Texts.ok ok_nil)))))))))) (.of_eq regimenlaw57_TraceBack.h1) (fun k x _ h => (congrFun (congrFun regimenlaw57_TraceBack.h2 k) x).symm.trans h)
end Go.Proofs.YtcgdhpnobgimfaaGreatDoor.PB
end
section
namespace Go.Sym
open Go.RowKit Go.Deep
set_option linter.unusedVariables false
set_option linter.unusedSimpArgs false

/-- Bounds of data. -/
def Wf : (t : Ty) → El t → Prop
  | .int k, (x : Int) => (Lit.int k x).wf = true
  | .str, (s : ByteArray) => s.size ≤ 140737488351232
  | .sl e, (l : List (El e)) => l.length ≤ 140737488351232 ∧ ∀ x ∈ l, Wf e x
  | .cons a b, x => Wf a x.1 ∧ Wf b x.2
  | _, _ => True
/-- All that is there is settled. -/
def fullF (w : World) (b : Nat) : Nat := match w.heap[b]? with
  | some (.cells cs _ _) => cs.size
  | _ => 0
theorem fullF_fin {w : World} : ∀ b, 0 < fullF w b → b < w.heap.size := by
  intro b h
  unfold fullF at h
  split at h
  · rename_i cs t fr hh
    exact (Array.getElem?_eq_some_iff.1 hh).1
  · omega
theorem fullF_cell {w : World} {b o : Nat} {v : Value} (h : w.cell? ⟨b, o, none⟩ = some v) : o < fullF w b := by
  unfold World.cell? at h
  unfold fullF
  split at h
  · rename_i cs t fr hh
    rw [hh]
    simp only at h ⊢
    exact (Array.getElem?_eq_some_iff.1 h).1
  · cases h
def Opens (P : Program) (t : TypeId) (ty : Ty) : Prop :=
  ∀ (H : Type) (enc : TypeId × Value → H) (w : World) (spare : Nat → Bool) (held : Bool) (fuel : Nat) (cs : List Value) (x : DataW H × List MemPlace),
    DataW.trod enc P w 0 spare held fuel t cs = some x → (∀ n, n ∈ x.1.weights P t → n ≤ reachBytes) → ∃ y : El ty, Wf ty y ∧ RepC (fullF w) w ty y cs
def openT (T : Tab) : Nat → Nat → Bool
  | 0, _ => false
  | d + 1, t => match (T.row t).d with
    | .int _ => true
    | .bool => true
    | .str => true
    | .sl e => openT T d e && decide (0 < (T.row e).bytes)
    | .st fs => fs.all fun f => openT T d f.1
    | .arr _ e => openT T d e
    | _ => false
section
variable {P : Program} {T : Tab}
theorem cell_spot {w : World} {a : Addr} {v : Value} (h : w.cell? a = some v) : a = ⟨a.block, a.off, none⟩ := by
  obtain ⟨b, o, sp⟩ := a
  cases sp with
  | none => rfl
  | some s =>
    unfold World.cell? at h
    split at h
    · simp at h
    · cases h
theorem opens_sl (hT : TabOk P T) {t e : Nat} (hd : (T.row t).d = .sl e) (hb : 0 < (T.row e).bytes) (he : Opens P e (T.ty e)) : Opens P t (T.ty t) := by
  obtain ⟨hu, ht, h3, hs0⟩ := (hT.row (row_ne hd (by simp))).sl hd
  obtain ⟨inf, u, hi, _, hsz, hbt, _, _⟩ := (hT.row h3).ex
  have hce : P.cellsOf e = (T.ty e).size := by unfold Program.cellsOf; rw [hi]; exact hsz
  have hbe : P.bytesOf e = (T.row e).bytes := by unfold Program.bytesOf; rw [hi]; exact hbt
  rw [ht]
  intro H enc w spare held fuel cs x h hn
  rcases open_slice hu h with ⟨rfl, rfl⟩ | ⟨a, len, cap, m, n, D, Pl, rfl, _, hlc, hcm, hm, rfl, hel⟩
  · exact ⟨[], ⟨Nat.zero_le _, fun x hx => by cases hx⟩, none, 0, rfl, Nat.le_refl _, fun h => absurd h (by simp)⟩
  · have hlm : len ≤ m := by rw [hm]; split <;> omega
    have hw : ∀ i, i < len → ∀ k, k ∈ (D i).weights P e → k ≤ reachBytes := by
      intro i hi k hk
      refine hn k ?_
      simp only [DataW.weights, hu]
      refine List.mem_cons_of_mem _ (List.mem_append_left _ ?_)
      have : ∀ (L : List (DataW H)) (z : DataW H), z ∈ L → k ∈ z.weights P e → k ∈ DataW.weightsAll P e L := by
        intro L z hz hk
        induction L with
        | nil => cases hz
        | cons y L ih =>
          rw [DataW.weightsAll]
          rcases List.mem_cons.1 hz with rfl | hz
          · exact List.mem_append_left _ hk
          · exact List.mem_append_right _ (ih hz)
      exact this _ (D i) (List.mem_map.2 ⟨i, List.mem_range.2 hi, rfl⟩) hk
    have hb2 : len * P.bytesOf e ≤ 140737488351232 := by
      have h1 := hn ((((List.range len).map D).length + ((List.range (m - len)).map fun j => D (len + j)).length) * P.bytesOf e) (by simp only [DataW.weights, hu]; exact List.mem_cons_self)
      simp only [List.length_map, List.length_range] at h1
      exact Nat.le_trans (Nat.mul_le_mul_right _ (by omega)) h1
    have hlen : len ≤ 140737488351232 := by
      rw [hbe] at hb2
      exact Nat.le_trans (Nat.le_mul_of_pos_right _ hb) hb2
    have hall : ∀ j, j ≤ len → ∃ xs : List (El (T.ty e)), xs.length = j ∧ (∀ x ∈ xs, Wf (T.ty e) x) ∧ ∀ i p, xs[i]? = some p → ∃ ds, RepC (fullF w) w (T.ty e) p ds ∧ ∀ q u, ds[q]? = some u → w.cell? ((a.add (i * (T.ty e).size)).add q) = some u := by
      intro j
      induction j with
      | zero => exact fun _ => ⟨[], rfl, fun x hx => (by cases hx), fun i p h => (by simp at h)⟩
      | succ j ih =>
        intro hj
        obtain ⟨xs, h1, h2, h3⟩ := ih (by omega)
        obtain ⟨cs', hc1, hc2⟩ := hel j (by omega)
        obtain ⟨y, hy1, hy2⟩ := he H enc w spare held n cs' _ hc2 (hw j (by omega))
        refine ⟨xs ++ [y], by simp [h1], ?_, ?_⟩
        · intro x hx
          rcases List.mem_append.1 hx with hx | hx
          · exact h2 x hx
          · rw [List.mem_singleton.1 hx]; exact hy1
        · intro i p hp
          by_cases hi : i < xs.length
          · rw [List.getElem?_append_left hi] at hp
            exact h3 i p hp
          · have hi2 := (List.getElem?_eq_some_iff.1 hp).1
            rw [List.length_append, List.length_singleton] at hi2
            obtain rfl : i = j := by omega
            have : p = y := by
              rw [List.getElem?_append_right (by omega), h1, Nat.sub_self] at hp
              simpa using hp.symm
            subst this
            refine ⟨cs', hy2, fun q u hq => ?_⟩
            have hq2 := (List.getElem?_eq_some_iff.1 hq).1
            rw [hy2.len, ← hce] at hq2
            have h5 := (World.cells?_some hc1).2.2 q hq2
            rw [hq] at h5
            rw [← hce]
            exact h5
    obtain ⟨xs, h1, h2, h3⟩ := hall len (Nat.le_refl _)
    refine ⟨xs, ⟨by rw [h1]; exact hlen, h2⟩, some a, cap, by rw [h1], by rw [h1]; exact hlc, fun hp => ?_⟩
    have h0 : ∀ i p, xs[i]? = some p → ∃ ds, RepC (fullF w) w (T.ty e) p ds ∧ ∀ q u, ds[q]? = some u → w.cell? ((a.add (i * (T.ty e).size)).add q) = some u := h3
    obtain ⟨ds, r1, r2⟩ := h0 0 _ (List.getElem?_eq_getElem hp)
    have hq : 0 < ds.length := by rw [r1.len]; exact hs0
    have hc := r2 0 _ (List.getElem?_eq_getElem hq)
    have hspot : a = ⟨a.block, a.off, none⟩ := by
      have e0 : (a.add (0 * (T.ty e).size)).add 0 = a := by
        obtain ⟨b, o, sp⟩ := a
        unfold Addr.add
        simp
      rw [e0] at hc
      exact cell_spot hc
    generalize a.block = b, a.off = o at hspot
    subst hspot
    refine ⟨b, o, rfl, ?_, fun j x hj => ?_⟩
    · obtain ⟨ds, r1, r2⟩ := h0 (xs.length - 1) _ (List.getElem?_eq_getElem (by omega))
      have hq : (T.ty e).size - 1 < ds.length := by rw [r1.len]; omega
      have hc := r2 _ _ (List.getElem?_eq_getElem hq)
      rw [add_at, add_at] at hc
      have hlt := fullF_cell hc
      have : xs.length * (T.ty e).size = (xs.length - 1) * (T.ty e).size + (T.ty e).size := by
        rw [← Nat.succ_mul]
        congr 1
        omega
      omega
    · obtain ⟨ds, r1, r2⟩ := h0 j x hj
      refine ⟨ds, r1, fun i v hv => ?_⟩
      have := r2 i v hv
      rw [add_at, add_at] at this
      exact this
theorem opens_fields (hT : TabOk P T) : ∀ (fs : List Field) (off : Nat) (t : Ty), chain T (fs.map fun f => (f.type, f.offset)) off = some t → (∀ f ∈ fs, Opens P f.type (T.ty f.type)) →
    ∀ (H : Type) (enc : TypeId × Value → H) (w : World) (spare : Nat → Bool) (held : Bool) (m : Nat) (cs : List Value) (xs : List (DataW H × List MemPlace)),
      xs.length = fs.length → cs.length = off + t.size → (∀ (i : Nat) (f : Field), fs[i]? = some f → DataW.trod enc P w 0 spare held m f.type ((cs.drop f.offset).take (P.cellsOf f.type)) = xs[i]?) →
      (∀ n, n ∈ DataW.weightsEach P (fs.map (·.type)) (xs.map (·.1)) → n ≤ reachBytes) → ∃ y : El t, Wf t y ∧ RepC (fullF w) w t y (cs.drop off)
  | [], off, t, hc, ho, H, enc, w, spare, held, m, cs, xs, hl, hcs, hx, hn => by
    cases hc
    refine ⟨(), trivial, ?_⟩
    show cs.drop off = []
    exact List.drop_eq_nil_of_le (by rw [hcs]; exact Nat.le_refl _)
  | f :: r, off, t, hc, ho, H, enc, w, spare, held, m, cs, xs, hl, hcs, hx, hn => by
    rw [List.map_cons] at hc
    unfold chain at hc
    split at hc
    · rename_i q
      obtain ⟨q1, q2⟩ := q
      obtain ⟨t2, ht2, rfl⟩ := Option.map_eq_some_iff.1 hc
      obtain ⟨inf, u, hi, _, hsz, _, _, _⟩ := (hT.row q2).ex
      have hce : P.cellsOf f.type = (T.ty f.type).size := by unfold Program.cellsOf; rw [hi]; exact hsz
      match xs, hl with
      | x :: xs, hl =>
        have h := hx 0 f rfl
        rw [q1] at h
        obtain ⟨y, hy1, hy2⟩ := ho f List.mem_cons_self H enc w spare held m _ x h (fun n hm => hn n (by simp only [List.map_cons, DataW.weightsEach]; exact List.mem_append_left _ hm))
        have hsum : (Ty.cons (T.ty f.type) t2).size = (T.ty f.type).size + t2.size := rfl
        obtain ⟨z, hz1, hz2⟩ := opens_fields hT r (off + (T.ty f.type).size) t2 ht2 (fun g hg => ho g (List.mem_cons_of_mem _ hg)) H enc w spare held m cs xs (by simpa using hl) (by omega) (fun i g hg => hx (i + 1) g hg) (fun n hm => hn n (by simp only [List.map_cons, DataW.weightsEach]; exact List.mem_append_right _ hm))
        refine ⟨(y, z), ⟨hy1, hz1⟩, _, _, ?_, hy2, hz2⟩
        rw [hce, ← List.drop_drop, List.take_append_drop]
    · cases hc
theorem opens_items (hT : TabOk P T) {e : Nat} (h3 : (T.row e).d ≠ .other) (he : Opens P e (T.ty e)) : ∀ (k j : Nat) (H : Type) (enc : TypeId × Value → H) (w : World) (spare : Nat → Bool) (held : Bool) (m : Nat) (cs : List Value) (xs : List (DataW H × List MemPlace)),
      xs.length = j + k → cs.length = (j + k) * (T.ty e).size → (∀ (i : Nat), i < j + k → DataW.trod enc P w 0 spare held m e ((cs.drop (i * (T.ty e).size)).take (T.ty e).size) = xs[i]?) →
      (∀ x, x ∈ xs → ∀ n, n ∈ x.1.weights P e → n ≤ reachBytes) → ∃ y : El (rep (T.ty e) k), Wf (rep (T.ty e) k) y ∧ RepC (fullF w) w (rep (T.ty e) k) y (cs.drop (j * (T.ty e).size))
  | 0, j, H, enc, w, spare, held, m, cs, xs, hl, hcs, hx, hn => by
    refine ⟨(), trivial, ?_⟩
    show cs.drop _ = []
    exact List.drop_eq_nil_of_le (by rw [hcs]; exact Nat.le_refl _)
  | k + 1, j, H, enc, w, spare, held, m, cs, xs, hl, hcs, hx, hn => by
    have hj : j < xs.length := by omega
    have h := hx j (by omega)
    rw [List.getElem?_eq_getElem hj] at h
    obtain ⟨y, hy1, hy2⟩ := he H enc w spare held m _ _ h (hn _ (List.getElem_mem hj))
    obtain ⟨z, hz1, hz2⟩ := opens_items hT h3 he k (j + 1) H enc w spare held m cs xs (by omega) (by rw [hcs]; congr 1; omega) (fun i hi => hx i (by omega)) hn
    refine ⟨(y, z), ⟨hy1, hz1⟩, _, _, ?_, hy2, hz2⟩
    rw [Nat.succ_mul, ← List.drop_drop, List.take_append_drop]
theorem opens_tab (hT : TabOk P T) : ∀ (d t : Nat), openT T d t = true → Opens P t (T.ty t)
  | 0, t, h => by cases h
  | d + 1, t, h => by
    unfold openT at h
    split at h
    · rename_i k hd
      obtain ⟨hu, ht⟩ := (hT.row (row_ne hd (by simp))).int hd
      rw [ht]
      intro H enc w spare held fuel cs x h _
      obtain ⟨n, rfl, _, hw⟩ := DataW.trod_int hu h
      exact ⟨n, hw, rfl⟩
    · rename_i hd
      obtain ⟨hu, ht⟩ := (hT.row (row_ne hd (by simp))).boolu hd
      rw [ht]
      intro H enc w spare held fuel cs x h _
      obtain ⟨b, rfl, _⟩ := DataW.trod_bool hu h
      exact ⟨b, trivial, rfl⟩
    · rename_i hd
      obtain ⟨hu, ht⟩ := (hT.row (row_ne hd (by simp))).str hd
      rw [ht]
      intro H enc w spare held fuel cs x h hn
      obtain ⟨s, rfl, rfl, _⟩ := DataW.trod_string hu h
      have h1 := hn s.data.toList.length (by simp [DataW.weights])
      have h2 : s.size ≤ 140737488351232 := by simpa [reachBytes] using h1
      exact ⟨s, h2, rfl⟩
    · rename_i e hd
      rw [Bool.and_eq_true, decide_eq_true_eq] at h
      exact opens_sl hT hd h.2 (opens_tab hT d e h.1)
    · rename_i fs hd
      have hr := hT.row (row_ne hd (by simp))
      obtain ⟨l, hu, hl, hch⟩ := hr.st hd
      obtain ⟨inf, _, hi, _, hsz, _, _, _⟩ := hr.ex
      have hce : P.cellsOf t = (T.ty t).size := by unfold Program.cellsOf; rw [hi]; exact hsz
      intro H enc w spare held fuel cs x h2 hn
      obtain ⟨xs, n, _, rfl, hc, hlen, hx⟩ := DataW.trod_struct hu h2
      have := opens_fields hT l.toList 0 (T.ty t) (by rw [hl]; exact hch) (fun f hf => opens_tab hT d f.type (by
        have := List.all_eq_true.1 h (f.type, f.offset) (by rw [← hl]; exact List.mem_map.2 ⟨f, hf, rfl⟩)
        exact this)) H enc w spare held n cs xs (by simpa using hlen) (by rw [hc, hce]; omega) (fun i f hf => hx i f (by simpa using hf)) (fun n hm => hn n (by simp only [DataW.weights, hu]; exact hm))
      exact this
    · rename_i k e hd
      have hr := hT.row (row_ne hd (by simp))
      obtain ⟨hu, ht, h3, hs0⟩ := hr.arr hd
      obtain ⟨inf, _, hi, _, hsz, _, _, _⟩ := hr.ex
      have hce0 : P.cellsOf t = (T.ty t).size := by unfold Program.cellsOf; rw [hi]; exact hsz
      obtain ⟨infe, _, hie, _, hsze, _, _, _⟩ := (hT.row h3).ex
      have hce : P.cellsOf e = (T.ty e).size := by unfold Program.cellsOf; rw [hie]; exact hsze
      have hsz2 : ∀ n, (rep (T.ty e) n).size = n * (T.ty e).size := by
        intro n
        induction n with
        | zero => rw [Nat.zero_mul]; rfl
        | succ n ih =>
          show (T.ty e).size + (rep (T.ty e) n).size = _
          rw [ih, Nat.succ_mul]
          omega
      rw [ht]
      intro H enc w spare held fuel cs x h2 hn
      obtain ⟨xs, m, _, rfl, hc, hl, hx⟩ := DataW.trod_array hu h2
      have := opens_items hT h3 (opens_tab hT d e h) k 0 H enc w spare held m cs xs (by omega) (by rw [hc, hce0, ht, hsz2]; congr 1; omega) (fun i hi => by rw [← hce]; exact hx i (by omega)) (fun x hx n hm => hn n (by
        simp only [DataW.weights, hu]
        have : ∀ (L : List (DataW H)) (z : DataW H), z ∈ L → n ∈ z.weights P e → n ∈ DataW.weightsAll P e L := by
          intro L z hz hk
          induction L with
          | nil => cases hz
          | cons y L ih =>
            rw [DataW.weightsAll]
            rcases List.mem_cons.1 hz with rfl | hz
            · exact List.mem_append_left _ hk
            · exact List.mem_append_right _ (ih hz)
        exact this _ x.1 (List.mem_map.2 ⟨x, hx, rfl⟩) hm))
      simpa using this
    · cases h
theorem weights_at {H : Type} {P : Program} : ∀ {ts : List TypeId} {ds : List (DataW H)} {j : Nat} {t : TypeId} {D : DataW H}, (DataW.weightsEach P ts ds).all (· ≤ reachBytes) = true → ts[j]? = some t → ds[j]? = some D → ∀ n, n ∈ D.weights P t → n ≤ reachBytes
  | t :: ts, D :: ds, 0, _, _, h, ht, hd, n, hn => by
    simp at ht hd
    subst ht hd
    rw [DataW.weightsEach] at h
    have := List.all_eq_true.1 h n (List.mem_append_left _ hn)
    simpa using this
  | t :: ts, D :: ds, j + 1, _, _, h, ht, hd, n, hn => by
    simp at ht hd
    refine weights_at (ts := ts) (ds := ds) (j := j) ?_ ht hd n hn
    rw [DataW.weightsEach] at h
    exact List.all_eq_true.2 fun q hq => List.all_eq_true.1 h q (List.mem_append_right _ hq)
  | [], _, _, _, _, _, ht, _, _, _ => by simp at ht
  | _ :: _, [], _, _, _, _, _, hd, _, _ => by simp at hd
theorem agg_of {w : World} {r : Reach} {b : Nat} {t : Nat} {v : Value} {l : List Value} (hv : Value.okWide P w r b t v) (hu : (∃ fs, P.underlying t = some (.struct fs)) ∨ ∃ n e, P.underlying t = some (.array n e)) (h : v.cells.toList = l) : v = .agg l.toArray := by
  have : ∃ cs, v = .agg cs := by
    unfold Value.okWide at hv
    rcases hu with ⟨fs, hu⟩ | ⟨n, e, hu⟩ <;> (rw [hu] at hv; obtain ⟨cs, h1, _⟩ := hv; exact ⟨cs, h1⟩)
  obtain ⟨cs, rfl⟩ := this
  subst h
  simp [Value.cells]
theorem nonagg {w : World} {F : Nat → Nat} {ty : Ty} (ha : ty.agg = false) {y : El ty} {v : Value} (hv : ∀ cs, v ≠ .agg cs) (h : RepC F w ty y v.cells.toList) : RepV F w ty y v := by
  have hc : v.cells = #[v] := by cases v <;> first | rfl | exact absurd rfl (hv _)
  rw [hc] at h
  exact ⟨_, h, (pack_one ha).symm⟩
/-- An argument that can be read as data says a value. -/
theorem opens_arg (hT : TabOk P T) {t : Nat} (ho : openT T 20 t = true) {H : Type} {enc : TypeId × Value → H} {w : World} {r : Reach} {b : Nat} {spare : Nat → Bool} {held : Bool} {v : Value} {D : DataW H} {ps : List MemPlace} {ts : List TypeId} {ds : List (DataW H)} {j : Nat}
    (hok : Value.okWide P w r b t v) (hsz : (DataW.weightsEach P ts ds).all (· ≤ reachBytes) = true) (ht : ts[j]? = some t) (hD : ds[j]? = some D) (h : DataW.Trod enc P w 0 spare held t v D ps) : ∃ y : El (T.ty t), Wf (T.ty t) y ∧ RepV (fullF w) w (T.ty t) y v := by
  obtain ⟨fuel, hf⟩ := h
  obtain ⟨y, h1, h2⟩ := opens_tab hT 20 t ho H enc w spare held fuel _ _ hf (weights_at hsz ht hD)
  refine ⟨y, h1, ?_⟩
  have hna : ∀ {u : TypeDesc}, P.underlying t = some u → (match u with | .int _ => True | .bool => True | .string => True | .slice _ => True | _ => False) → ∀ cs, v ≠ .agg cs := by
    intro u hu hm cs e
    subst e
    unfold Value.okWide at hok
    rw [hu] at hok
    cases u <;> first
      | exact hm.elim
      | (have hok : Cell.okWide P w r b t (.agg cs) := hok
         unfold Cell.okWide at hok
         rw [hu] at hok
         have hok : Cell.ok P w r b t (.agg cs) := hok
         unfold Cell.ok at hok
         rw [hu] at hok
         simp at hok)
  unfold openT at ho
  split at ho
  · rename_i k hd
    obtain ⟨hu, hty⟩ := (hT.row (row_ne hd (by simp))).int hd
    exact nonagg (by rw [hty]; rfl) (hna hu trivial) h2
  · rename_i hd
    obtain ⟨hu, hty⟩ := (hT.row (row_ne hd (by simp))).boolu hd
    exact nonagg (by rw [hty]; rfl) (hna hu trivial) h2
  · rename_i hd
    obtain ⟨hu, hty⟩ := (hT.row (row_ne hd (by simp))).str hd
    exact nonagg (by rw [hty]; rfl) (hna hu trivial) h2
  · rename_i e hd
    obtain ⟨hu, hty, _⟩ := (hT.row (row_ne hd (by simp))).sl hd
    exact nonagg (by rw [hty]; rfl) (hna hu trivial) h2
  · rename_i fs hd
    obtain ⟨l, hu, _, hch⟩ := (hT.row (row_ne hd (by simp))).st hd
    have hv := agg_of hok (.inl ⟨l, hu⟩) rfl
    exact ⟨_, h2, by rw [pack_agg (chain_agg hch)]; exact hv⟩
  · rename_i k e hd
    obtain ⟨hu, hty, _⟩ := (hT.row (row_ne hd (by simp))).arr hd
    have hv := agg_of hok (.inr ⟨k, e, hu⟩) rfl
    exact ⟨_, h2, by rw [pack_agg (by rw [hty]; exact rep_agg _ _)]; exact hv⟩
  · cases ho
theorem opens_argT (hT : TabOk P T) {t : Nat} {ty : Ty} (hty : T.ty t = ty) (ho : openT T 20 t = true) {H : Type} {enc : TypeId × Value → H} {w : World} {r : Reach} {b : Nat} {spare : Nat → Bool} {held : Bool} {v : Value} {D : DataW H} {ps : List MemPlace} {ts : List TypeId} {ds : List (DataW H)} {j : Nat}
    (hok : Value.okWide P w r b t v) (hsz : (DataW.weightsEach P ts ds).all (· ≤ reachBytes) = true) (ht : ts[j]? = some t) (hD : ds[j]? = some D) (h : DataW.Trod enc P w 0 spare held t v D ps) : ∃ y : El ty, Wf ty y ∧ RepV (fullF w) w ty y v := by
  subst hty
  exact opens_arg hT ho hok hsz ht hD h
end
end Go.Sym
end
section
namespace Go.Proofs.YtcgdhpnobgimfaaGreatDoor.Num
set_option linter.unusedVariables false
set_option linter.unusedSimpArgs false
open Go.RowKit Go.Proofs.YtcgdhpnobgimfaaGreatDoor.PB Go.Proofs.YtcgdhpnobgimfaaGreatDoorW.PrintWords Go.Proofs.YtcgdhpnobgimfaaGreatDoorW.PrintMore

/-- The number that digits make. -/
def dv : List Int → Int
  | [] => 0
  | x :: xs => x + 65536 * dv xs

def dok (l : List Int) : Prop := ∀ x, x ∈ l → 0 ≤ x ∧ x < 65536

theorem dok_nil : dok [] := fun x h => by cases h
theorem dok_cons {x : Int} {l : List Int} (h : 0 ≤ x ∧ x < 65536) (hl : dok l) : dok (x :: l) := by
  intro y hy
  rcases List.mem_cons.1 hy with rfl | hy
  · exact h
  · exact hl y hy
theorem dok_append {a b : List Int} (ha : dok a) (hb : dok b) : dok (a ++ b) := by
  intro y hy
  rcases List.mem_append.1 hy with hy | hy
  · exact ha y hy
  · exact hb y hy
theorem dok_snoc {a : List Int} {x : Int} (ha : dok a) (h : 0 ≤ x ∧ x < 65536) : dok (a ++ [x]) := dok_append ha (dok_cons h dok_nil)
theorem dok_tail {x : Int} {l : List Int} (h : dok (x :: l)) : dok l := fun y hy => h y (List.mem_cons_of_mem _ hy)
theorem dok_getD {l : List Int} (h : dok l) (i : Nat) : 0 ≤ l.getD i 0 ∧ l.getD i 0 < 65536 := by
  by_cases hi : i < l.length
  · rw [List.getD_eq_getElem?_getD, List.getElem?_eq_getElem hi]
    exact h _ (List.getElem_mem hi)
  · rw [List.getD_eq_getElem?_getD, List.getElem?_eq_none (by omega)]
    exact ⟨by decide, by decide⟩
theorem dok_rep (n : Nat) : dok (List.replicate n 0) := by
  intro y hy
  rw [List.mem_replicate] at hy
  omega

theorem dv_append (a b : List Int) : dv (a ++ b) = dv a + 65536 ^ a.length * dv b := by
  induction a with
  | nil => simp [dv]
  | cons x a ih =>
    simp only [List.cons_append, dv, ih, List.length_cons, Int.pow_succ]
    rw [Int.mul_add, ← Int.mul_assoc, Int.mul_comm 65536 (65536 ^ a.length)]
    omega
theorem dv_snoc (a : List Int) (x : Int) : dv (a ++ [x]) = dv a + 65536 ^ a.length * x := by
  rw [dv_append]
  simp [dv]
theorem pow_pos' (n : Nat) : (0 : Int) < 65536 ^ n := Int.pow_pos (by decide)
theorem dv_nonneg {l : List Int} (h : dok l) : 0 ≤ dv l := by
  induction l with
  | nil => exact Int.le_refl _
  | cons x l ih =>
    have h1 := ih (dok_tail h)
    have h2 := h x List.mem_cons_self
    simp only [dv]
    omega
theorem dv_lt {l : List Int} (h : dok l) : dv l < 65536 ^ l.length := by
  induction l with
  | nil => simp [dv]
  | cons x l ih =>
    have h1 := ih (dok_tail h)
    have h2 := h x List.mem_cons_self
    simp only [dv, List.length_cons, Int.pow_succ]
    omega
theorem dv_take_succ (l : List Int) (i : Nat) : dv (l.take (i + 1)) = dv (l.take i) + 65536 ^ i * l.getD i 0 := by
  by_cases hi : i < l.length
  · rw [List.take_succ_eq_append_getElem hi, dv_snoc, List.length_take, Nat.min_eq_left (by omega)]
    rw [List.getD_eq_getElem?_getD, List.getElem?_eq_getElem hi]
    rfl
  · rw [List.take_of_length_le (by omega), List.take_of_length_le (by omega), List.getD_eq_getElem?_getD, List.getElem?_eq_none (by omega)]
    simp
theorem dv_take_all (l : List Int) (i : Nat) (h : l.length ≤ i) : dv (l.take i) = dv l := by rw [List.take_of_length_le h]
theorem dv_take_lt {l : List Int} (h : dok l) (i : Nat) : 0 ≤ dv (l.take i) ∧ dv (l.take i) < 65536 ^ i := by
  induction i with
  | zero => simp [dv]
  | succ i ih =>
    rw [dv_take_succ, Int.pow_succ]
    have h1 := dok_getD h i
    have h2 : 0 ≤ 65536 ^ i * l.getD i 0 := Int.mul_nonneg (Int.le_of_lt (pow_pos' i)) h1.1
    have h3 : 65536 ^ i * l.getD i 0 ≤ 65536 ^ i * 65535 := Int.mul_le_mul_of_nonneg_left (by omega) (Int.le_of_lt (pow_pos' i))
    omega
theorem dv_split (l : List Int) (i : Nat) (h : i ≤ l.length) : dv l = dv (l.take i) + 65536 ^ i * dv (l.drop i) := by
  have h1 := dv_append (l.take i) (l.drop i)
  rw [List.take_append_drop, List.length_take, Nat.min_eq_left h] at h1
  exact h1
theorem dv_set (l : List Int) (i : Nat) (v : Int) (h : i < l.length) : dv (l.set i v) = dv l + 65536 ^ i * (v - l.getD i 0) := by
  induction l generalizing i with
  | nil => simp at h
  | cons x l ih =>
    cases i with
    | zero => simp [dv]; omega
    | succ i =>
      simp only [List.set_cons_succ, dv, List.getD_cons_succ, Int.pow_succ]
      rw [ih i (by simpa using h), Int.mul_add, ← Int.mul_assoc, Int.mul_comm 65536 (65536 ^ i)]
      omega
theorem dv_rep (n : Nat) : dv (List.replicate n 0) = 0 := by
  induction n with
  | zero => rfl
  | succ n ih => simp [List.replicate_succ, dv, ih]
theorem dok_set {l : List Int} (h : dok l) (i : Nat) {v : Int} (hv : 0 ≤ v ∧ v < 65536) : dok (l.set i v) := by
  intro y hy
  rcases List.mem_or_eq_of_mem_set hy with hy | rfl
  · exact h y hy
  · exact hv
theorem rd_nat (l : List Int) (i : Nat) : rd l (i : Int) = l.getD i 0 := by simp [rd]
theorem u64_id {x : Int} (h0 : 0 ≤ x) (h1 : x < 18446744073709551616) : IntKind.u64.wrap x = x := by
  unfold IntKind.wrap
  simp [IntKind.bits, IntKind.signed]
  omega
theorem u64_mod (x : Int) : IntKind.u64.wrap x = x % 18446744073709551616 := by
  unfold IntKind.wrap
  simp [IntKind.bits, IntKind.signed]
theorem w64_id {x : Int} (h0 : -9223372036854775808 ≤ x) (h1 : x < 9223372036854775808) : wrap64 x = x := by
  unfold wrap64
  omega
theorem w64_succ {i : Nat} (h : i < 4611686018427387904) : wrap64 ((i : Int) + 1) = ((i + 1 : Nat) : Int) := by
  rw [w64_id (by omega) (by omega)]
  omega
theorem w64_add {i j : Nat} (h : i < 2305843009213693952) (h2 : j < 2305843009213693952) : wrap64 ((i : Int) + (j : Int)) = ((i + j : Nat) : Int) := by
  rw [w64_id (by omega) (by omega)]
  omega
theorem tmod_pos {a b : Int} (ha : 0 ≤ a) : Int.tmod a b = a % b := Int.tmod_eq_emod_of_nonneg ha
theorem tdiv_pos {a b : Int} (ha : 0 ≤ a) : Int.tdiv a b = a / b := Int.tdiv_eq_ediv_of_nonneg ha
theorem evp {α : Type} {c : Prop} [Decidable c] {g f : Nat → Option α} {r : α} (h : c) (k : Ev g r) : Ev (fun n => if c then g n else f n) r := Ev.congr (fun _ => if_pos h) k
theorem evs {α β : Type} {g : Option α} {f : Nat → α → Option β} {a : α} {r : β} (h : g = some a) (k : Ev (fun n => f n a) r) : Ev (fun n => g.bind (f n)) r := Ev.congr (fun n => by rw [h]; rfl) k
theorem evn {α : Type} {c : Prop} [Decidable c] {g f : Nat → Option α} {r : α} (h : ¬ c) (k : Ev f r) : Ev (fun n => if c then g n else f n) r := Ev.congr (fun _ => if_neg h) k
theorem i64_wf {a : Int} (h : (Lit.int .i64 a).wf = true) : -9223372036854775808 ≤ a ∧ a < 9223372036854775808 := by
  simp [Lit.wf, IntKind.min, IntKind.max, IntKind.bits, IntKind.signed] at h
  omega
end Go.Proofs.YtcgdhpnobgimfaaGreatDoor.Num
end
section
namespace Go.Proofs.YtcgdhpnobgimfaaGreatDoor.Num
set_option linter.unusedVariables false
set_option linter.unusedSimpArgs false
open Go.RowKit Go.Proofs.YtcgdhpnobgimfaaGreatDoor.PB Go.Proofs.YtcgdhpnobgimfaaGreatDoorW.PrintWords Go.Proofs.YtcgdhpnobgimfaaGreatDoorW.PrintMore

/-! ### Bytes -/
theorem nums_byte (s : ByteArray) : ∀ x, x ∈ numsOf s → 0 ≤ x ∧ x < 256 := by
  intro x h
  obtain ⟨b, _, rfl⟩ := List.mem_map.1 h
  have := b.toNat_lt
  omega
theorem str_nums (s : ByteArray) : strOfNums (numsOf s) = s := by
  have h : (numsOf s).map (fun n => UInt8.ofNat n.toNat) = s.data.toList := by
    unfold numsOf
    rw [List.map_map]
    conv => rhs; rw [← List.map_id s.data.toList]
    refine List.map_congr_left fun b _ => ?_
    simp
  unfold strOfNums
  rw [h]
theorem nums_str {l : List Int} (h : ∀ x, x ∈ l → 0 ≤ x ∧ x < 256) : numsOf (strOfNums l) = l := by
  show ((l.map fun n => UInt8.ofNat n.toNat).toArray.toList).map (fun b => (b.toNat : Int)) = l
  rw [List.map_map]
  conv => rhs; rw [← List.map_id l]
  refine List.map_congr_left fun x hx => ?_
  have := h x hx
  have e : (UInt8.ofNat x.toNat).toNat = x.toNat % 256 := UInt8.toNat_ofNat' 
  simp only [Function.comp, id]
  rw [e]
  omega
theorem nums_len (s : ByteArray) : (numsOf s).length = s.size := numsOf_length s
theorem bt_nums (s : ByteArray) (i : Nat) : bt s (i : Int) = (numsOf s).getD i 0 := by
  unfold bt
  by_cases h : i < s.size
  · rw [dif_pos (by simpa using h)]
    have hl : i < (numsOf s).length := by rw [nums_len]; exact h
    rw [List.getD_eq_getElem?_getD, List.getElem?_eq_getElem hl]
    simp only [Option.getD_some, numsOf, List.getElem_map, Int.toNat_natCast]
    rfl
  · rw [dif_neg (by simpa using h), List.getD_eq_getElem?_getD, List.getElem?_eq_none (by rw [nums_len]; omega)]
    rfl
theorem str_app (a b : List Int) : strOfNums a ++ strOfNums b = strOfNums (a ++ b) := by
  apply ByteArray.ext
  show (strOfNums a ++ strOfNums b).data = _
  simp [strOfNums]
theorem digit_str : ∀ i : Nat, i < 10 → (⟨#[48, 49, 50, 51, 52, 53, 54, 55, 56, 57]⟩ : ByteArray).extract i (i + 1) = strOfNums [48 + (i : Int)] := by decide +kernel
theorem toList_nil (s : ByteArray) : s.toList = ([] : List UInt8) ↔ numsOf s = [] := by
  rw [ByteArray.toList_eq]
  unfold numsOf
  simp
theorem nums_drop (s : ByteArray) (p : Nat) : numsOf (s.extract p s.size) = (numsOf s).drop p := by
  unfold numsOf
  rw [← List.map_drop]
  congr 1
  rw [ByteArray.data_extract, Array.toList_extract]
  rw [List.extract_eq_take_drop]
  exact List.take_of_length_le (by rw [List.length_drop, Array.length_toList]; exact Nat.le_refl _)
theorem nums_app (a b : ByteArray) : numsOf (a ++ b) = numsOf a ++ numsOf b := by
  unfold numsOf
  rw [← List.map_append]
  congr 1
theorem bt0 (s : ByteArray) : bt s 0 = (numsOf s).getD 0 0 := bt_nums s 0
theorem nums_take (s : ByteArray) (p : Nat) : numsOf (s.extract 0 p) = (numsOf s).take p := by
  unfold numsOf
  rw [← List.map_take]
  congr 1
  rw [ByteArray.data_extract, Array.toList_extract]
  rw [List.extract_eq_take_drop]
  simp
end Go.Proofs.YtcgdhpnobgimfaaGreatDoor.Num
end
