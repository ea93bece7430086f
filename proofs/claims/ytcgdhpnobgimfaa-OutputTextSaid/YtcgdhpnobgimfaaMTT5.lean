/- The functions that these laws reach, each told by the evaluator: its plain text, and that a call of it comes to what the text says. -/
import Derived.Test.YtcgdhpnobgimfaaMTT2
import Derived.Test.YtcgdhpnobgimfaaMTT1
import Derived.Test.YtcgdhpnobgimfaaMTT4
import Derived.Shelf.Strings.OnBuilder
import Derived.Shelf.Strings.Repeat
import Derived.Shelf.Strings.BuilderK
import Derived.WalkKit
import Derived.OwnWalk
section
namespace Go.Proofs.Ytcgdhpnobgimfaa.PT
open Go Go.Sym Go.Proofs Go.RowKit Go.Proofs.YtcgdhpnobgimfaaW.PrintWords
set_option maxRecDepth 100000
set_option linter.unusedVariables false
set_option linter.unusedSimpArgs false
theorem lo_leo {α : Type} {a b : Option α} (h : LeO a b) : Lo a b := h
theorem wu8_64 (x : Int) : wrap64 (IntKind.wrap .u8 x) = x % 256 := by
  have e : IntKind.wrap .u8 x = x % 256 := rfl
  rw [e, sw64_id] <;> omega
theorem wu8_u64 (x : Int) : IntKind.wrap .u64 (IntKind.wrap .u8 x) = x % 256 := by
  have e : IntKind.wrap .u8 x = x % 256 := rfl
  rw [e, su64_id] <;> omega
theorem byL_nums (s : ByteArray) : byL s = s.data.toList.map (fun b => (b.toNat : Int)) := rfl
theorem btS_bt (s : ByteArray) (i : Int) : btS s i = bt s i := rfl
theorem nil_tl : (⟨#[]⟩ : ByteArray).toList = [] := by rw [ByteArray.toList_eq]
theorem beq_decL (a b : List UInt8) : (a == b) = decide (a = b) := by
  by_cases h : a = b
  · rw [decide_eq_true h, beq_iff_eq.2 h]
  · rw [decide_eq_false h]
    exact beq_eq_false_iff_ne.2 h
theorem beq_decI (a b : Int) : (a == b) = decide (a = b) := by
  by_cases h : a = b
  · rw [decide_eq_true h, beq_iff_eq.2 h]
  · rw [decide_eq_false h]
    exact beq_eq_false_iff_ne.2 h
def num_digitsN.l3 : Nat → Int → Int → (List Int) → Option ByteArray
  | 0, _, _, _ => none
  | k + 1, x0, x4, r3 => (if (10 : Int) = 0 then none else (if 0 ≤ (wrap64 (x4 - (1 : Int))) then (if (wrap64 (x4 - (1 : Int))) < ((20 : Nat) : Int) then (if (10 : Int) = 0 then none else (if (IntKind.wrap .u64 (Int.tdiv x0 (10 : Int))) = (0 : Int) then (if 0 ≤ (wrap64 (x4 - (1 : Int))) then (if (wrap64 (x4 - (1 : Int))) ≤ ((20 : Nat) : Int) then (some (strOfNums (((r3.set ((wrap64 (x4 - (1 : Int)))).toNat (IntKind.wrap .u8 ((48 : Int) + (IntKind.wrap .u8 ((Int.tmod x0 (10 : Int))))))).drop (0 + ((wrap64 (x4 - (1 : Int)))).toNat)).take (20 - ((wrap64 (x4 - (1 : Int)))).toNat)))) else none) else none) else (num_digitsN.l3 k (IntKind.wrap .u64 (Int.tdiv x0 (10 : Int))) (wrap64 (x4 - (1 : Int))) (r3.set ((wrap64 (x4 - (1 : Int)))).toNat (IntKind.wrap .u8 ((48 : Int) + (IntKind.wrap .u8 ((Int.tmod x0 (10 : Int)))))))))) else none) else none))
def num_digitsN.f (k : Nat) (a0 : Int) : Option ByteArray := (num_digitsN.l3 k a0 (20 : Int) (List.replicate 20 0))
def num_digitsN.c : Sym.Callee := ⟨(.cons (.int .u64) .nil), .str, false, El .str, fun k x => num_digitsN.f k x.1, fun y => y, []⟩
noncomputable def num_digitsN.E : Env (El .str) := envOf tab Try.f54 false .str [] (fun y => y) [] [⟨3, ⟨20, [(0, (.int .u64), []), (4, (.int .i64), [])], [], [(3, some 20, 0, (.int .u8))]⟩, fun k y => num_digitsN.l3 k y.1.1 y.1.2.1 y.2.2.1.1⟩] []
theorem num_digitsN.h1 : (obls num_digitsN.E Try.f54).map Ob.left = (obls num_digitsN.E Try.f54).map Ob.right := by kernel_rfl
theorem num_digitsN.h2 : (fun k x => num_digitsN.c.fn k x) = fun k x => mainK num_digitsN.E Try.f54 num_digitsN.c.dom k x := by kernel_rfl
theorem num_digitsN.ok : CalleeOk Try.prog 54 num_digitsN.c := fn_ok tabOk mixed (fun _ => rfl) Try.func54 rfl (by kernel_rfl) ok_nil (.of_eq num_digitsN.h1) (fun k x _ h => (congrFun (congrFun num_digitsN.h2 k) x).symm.trans h)
theorem num_digits.bl : ∀ (k : Nat) (u : Int) (l r : List Int) (s : ByteArray), r.length = 20 → l.length ≤ 20 → r.drop (20 - l.length) = l → num_digits.l0 k u l = some s → num_digitsN.l3 k u (20 - (l.length : Int)) r = some s
  | 0, u, l, r, s, _, _, _, h => by simp [num_digits.l0] at h
  | k + 1, u, l, r, s, hr, hl, hd, h => by
    rw [num_digits.l0] at h
    split at h
    · rename_i h1
      split at h
      · rename_i h2
        split at h
        · rename_i h3
          have e1 : wrap64 (20 - (l.length : Int) - 1) = 19 - (l.length : Int) := by rw [sw64_id] <;> omega
          have e2 : ((19 : Int) - (l.length : Int)).toNat = 19 - l.length := by omega
          have e3 : Int.tmod u 10 = u % 10 := Int.tmod_eq_emod_of_nonneg h2
          have e4 : Int.tdiv u 10 = u / 10 := Int.tdiv_eq_ediv_of_nonneg h2
          have e5 : IntKind.wrap .u64 (u / 10) = u / 10 := su64_id (by omega) (by omega)
          have e6 : IntKind.wrap .u8 ((48 : Int) + IntKind.wrap .u8 (u % 10)) = 48 + u % 10 := by
            show (48 + u % 10 % 256) % 256 = _
            omega
          have hset : (r.set (19 - l.length) (48 + u % 10)).drop (19 - l.length) = (48 + u % 10) :: l := by
            apply List.ext_getElem?
            intro i
            rw [List.getElem?_drop, List.getElem?_set]
            cases i with
            | zero => rw [if_pos (by omega), if_pos (by omega)]; rfl
            | succ i =>
              rw [if_neg (by omega), List.getElem?_cons_succ, ← hd, List.getElem?_drop]
              congr 1
              simp only [hd]
              omega
          rw [num_digitsN.l3]
          rw [if_neg (by decide : ¬ (10 : Int) = 0), e1, if_pos (by omega), if_pos (by omega), if_neg (by decide : ¬ (10 : Int) = 0), e3, e4, e5, e6, e2]
          split at h
          · rename_i h4
            rw [if_pos h4, if_pos (by omega), if_pos (by omega)]
            rw [← h, Nat.zero_add, hset, List.take_of_length_le (by simp; omega)]
          · rename_i h4
            rw [if_neg h4]
            have := num_digits.bl k (u / 10) ((48 + u % 10) :: l) (r.set (19 - l.length) (48 + u % 10)) s (by rw [List.length_set, hr]) (by simp; omega) (by rw [List.length_cons, show 20 - (l.length + 1) = 19 - l.length from by omega]; exact hset) h
            rw [List.length_cons, show (20 : Int) - ((l.length + 1 : Nat) : Int) = 19 - (l.length : Int) from by omega] at this
            exact this
        · cases h
      · cases h
    · cases h
def num_digits.c : Sym.Callee := ⟨(.cons (.int .u64) .nil), .str, false, ByteArray, fun k x => num_digits.f k x.1, fun y => y, []⟩
theorem num_digits.ok : CalleeOk Try.prog 54 num_digits.c := num_digitsN.ok.weaken fun k x r h => num_digits.bl k x.1 [] (List.replicate 20 0) r (by simp) (by simp) (by simp) h
def num_Tell.c : Sym.Callee := ⟨(.cons (.int .i64) .nil), .str, false, ByteArray, fun k x => num_Tell.f k x.1, fun z => z, []⟩
def num_Tell.nf (k : Nat) (a0 : Int) : Option (ByteArray) := (if a0 < (0 : Int) then ((num_digits.f k (IntKind.wrap .u64 (-(IntKind.wrap .u64 (a0))))).bind fun t1 => (if (⟨#[45]⟩ : ByteArray).size + t1.size ≤ 9223372036854775807 then (some ((⟨#[45]⟩ : ByteArray) ++ t1)) else none)) else ((num_digits.f k (IntKind.wrap .u64 (a0))).bind fun t2 => (some t2)))
noncomputable def num_Tell.E : Env (ByteArray) := envOf tab Try.f34 false .str [] (fun y => y) [(54, num_digits.c)] [] []
theorem num_Tell.h1 : obls num_Tell.E Try.f34 = [] := by kernel_rfl
theorem num_Tell.h2 : (fun k (x : El (.cons (.int .i64) .nil)) => num_Tell.nf k x.1) = fun k x => mainK num_Tell.E Try.f34 (.cons (.int .i64) .nil) k x := by kernel_rfl
set_option maxHeartbeats 2000000 in
theorem num_Tell.bf (k : Nat) (a0 : Int) : Lo (num_Tell.f k a0) (num_Tell.nf k a0) := by
  unfold num_Tell.f num_Tell.nf
  try simp only [Bool.false_xor, Bool.true_xor, wu8_64, wu8_u64, byL_nums, btS_bt, nil_tl, beq_decL, beq_decI]
  repeat' first
    | (with_reducible exact lo_refl _)
    | exact lo_none _
    | (with_reducible refine lo_lpos (by first | assumption | decide) ?_)
    | (with_reducible refine lo_lneg (by first | assumption | decide) ?_)
    | (with_reducible refine lo_ite (fun _ => ?_) (fun _ => ?_))
    | (with_reducible refine lo_bind (fun _ => ?_))
    | (with_reducible refine lo_left ?_)
    | (refine lo_neg (by decide) ?_)
    | (refine lo_pos (by first | assumption | omega) ?_)
    | (refine lo_neg (by first | assumption | omega) ?_)
    | (with_reducible refine lo_test (fun _ => by first | assumption | omega | (simp only [List.length_cons, List.length_nil]; omega) | decide) (fun _ => ?_))
    | (with_reducible refine lo_testn (fun _ => by first | assumption | omega) (fun _ => ?_))
    | (with_reducible refine lo_and (fun z => by first | exact z.1 | omega) (fun z => by first | exact z.2 | omega) (fun _ => ?_))
    | exact lo_refl _
    | (with_reducible refine lo_iff (by first | exact Iff.rfl | omega | (simp; done) | decide) (fun _ => ?_) (fun _ => ?_))
    | (with_reducible refine lo_iffn (by first | exact Iff.rfl | omega | (simp; done) | decide) (fun _ => ?_) (fun _ => ?_))
    | refine lo_ite (fun _ => ?_) (fun _ => ?_)
    | refine lo_bind (fun _ => ?_)
    | (refine lo_some ?_; first | rfl | (rw [Bool.false_xor]; rfl) | (rw [Bool.true_xor]; rfl) | (simp only [Bool.and_true]; rfl) | (simp; done))
    | (simp only [Int.zero_sub]; exact lo_refl _)
    | (with_reducible refine lo_lpos (by omega) ?_)
    | (with_reducible refine lo_lneg (by omega) ?_)
    | (with_reducible refine lo_lite (fun _ => ?_) (fun _ => ?_))
    | (with_reducible refine lo_rite (fun _ => ?_) (fun _ => ?_))
  all_goals (exfalso; first | omega | (simp_all; done) | (simp_all; omega))
theorem num_Tell.al : AllLe (obls num_Tell.E Try.f34) := by
  rw [num_Tell.h1]
  exact .nil
theorem num_Tell.ok : CalleeOk Try.prog 34 num_Tell.c := fn_ok tabOk mixed (fun _ => rfl) Try.func34 rfl (by kernel_rfl) (ok_cons num_digits.ok ok_nil) num_Tell.al (fun k x r h => (congrFun (congrFun num_Tell.h2 k) x).symm.trans (num_Tell.bf k _ r h))
def output_Word.c : Sym.Callee := ⟨(.cons (.int .i64) .nil), .str, false, ByteArray, fun k x => output_Word.f x.1, fun z => z, []⟩
def output_Word.nf (k : Nat) (a0 : Int) : Option (ByteArray) := (if a0 = (0 : Int) then (some (⟨#[103, 111, 101, 115]⟩ : ByteArray)) else (if a0 = (1 : Int) then (some (⟨#[100, 111, 110, 101]⟩ : ByteArray)) else (if a0 = (2 : Int) then (some (⟨#[115, 116, 111, 112, 112, 101, 100]⟩ : ByteArray)) else (if a0 = (3 : Int) then (some (⟨#[102, 97, 105, 108, 101, 100]⟩ : ByteArray)) else (some (⟨#[63]⟩ : ByteArray))))))
noncomputable def output_Word.E : Env (ByteArray) := envOf tab Try.f23 false .str [] (fun y => y) [] [] []
theorem output_Word.h1 : obls output_Word.E Try.f23 = [] := by kernel_rfl
theorem output_Word.h2 : (fun k (x : El (.cons (.int .i64) .nil)) => output_Word.nf k x.1) = fun k x => mainK output_Word.E Try.f23 (.cons (.int .i64) .nil) k x := by kernel_rfl
set_option maxHeartbeats 2000000 in
theorem output_Word.bf (k : Nat) (a0 : Int) : Lo (output_Word.f a0) (output_Word.nf k a0) := by
  unfold output_Word.f output_Word.nf
  try simp only [Bool.false_xor, Bool.true_xor, wu8_64, wu8_u64, byL_nums, btS_bt, nil_tl, beq_decL, beq_decI]
  repeat' first
    | (with_reducible exact lo_refl _)
    | exact lo_none _
    | (with_reducible refine lo_lpos (by first | assumption | decide) ?_)
    | (with_reducible refine lo_lneg (by first | assumption | decide) ?_)
    | (with_reducible refine lo_ite (fun _ => ?_) (fun _ => ?_))
    | (with_reducible refine lo_bind (fun _ => ?_))
    | (with_reducible refine lo_left ?_)
    | (refine lo_neg (by decide) ?_)
    | (refine lo_pos (by first | assumption | omega) ?_)
    | (refine lo_neg (by first | assumption | omega) ?_)
    | (with_reducible refine lo_test (fun _ => by first | assumption | omega | (simp only [List.length_cons, List.length_nil]; omega) | decide) (fun _ => ?_))
    | (with_reducible refine lo_testn (fun _ => by first | assumption | omega) (fun _ => ?_))
    | (with_reducible refine lo_and (fun z => by first | exact z.1 | omega) (fun z => by first | exact z.2 | omega) (fun _ => ?_))
    | exact lo_refl _
    | (with_reducible refine lo_iff (by first | exact Iff.rfl | omega | (simp; done) | decide) (fun _ => ?_) (fun _ => ?_))
    | (with_reducible refine lo_iffn (by first | exact Iff.rfl | omega | (simp; done) | decide) (fun _ => ?_) (fun _ => ?_))
    | refine lo_ite (fun _ => ?_) (fun _ => ?_)
    | refine lo_bind (fun _ => ?_)
    | (refine lo_some ?_; first | rfl | (rw [Bool.false_xor]; rfl) | (rw [Bool.true_xor]; rfl) | (simp only [Bool.and_true]; rfl) | (simp; done))
    | (simp only [Int.zero_sub]; exact lo_refl _)
    | (with_reducible refine lo_lpos (by omega) ?_)
    | (with_reducible refine lo_lneg (by omega) ?_)
    | (with_reducible refine lo_lite (fun _ => ?_) (fun _ => ?_))
    | (with_reducible refine lo_rite (fun _ => ?_) (fun _ => ?_))
  all_goals (exfalso; first | omega | (simp_all; done) | (simp_all; omega))
theorem output_Word.al : AllLe (obls output_Word.E Try.f23) := by
  rw [output_Word.h1]
  exact .nil
theorem output_Word.ok : CalleeOk Try.prog 23 output_Word.c := fn_ok tabOk mixed (fun _ => rfl) Try.func23 rfl (by kernel_rfl) ok_nil output_Word.al (fun k x r h => (congrFun (congrFun output_Word.h2 k) x).symm.trans (output_Word.bf k _ r h))
def layJoin_ren : Go.Shelf.Ren := ⟨fun | 156 => 58 | 165 => 74 | 166 => 48 | 169 => 50 | 240 => 68 | 241 => 110 | 276 => 94 | 277 => 124 | n => n, fun | 31 => 27 | 9 => 9 | 3 => 3 | 4 => 4 | 0 => 0 | 20 => 20 | 72 => 82 | 76 => 85 | 70 => 79 | 37 => 80 | 75 => 84 | 127 => 108 | 164 => 129 | 5 => 5 | 80 => 89 | n => n, fun | n => n⟩
theorem layJoin : Go.Proofs.Lays.n156 Try.prog layJoin_ren := {
  mixed := by kernel_rfl
  f156 := Try.func58.trans (congrArg some (by kernel_rfl))
  f165 := Try.func74.trans (congrArg some (by kernel_rfl))
  f166 := Try.func48.trans (congrArg some (by kernel_rfl))
  f169 := Try.func50.trans (congrArg some (by kernel_rfl))
  f240 := Try.func68.trans (congrArg some (by kernel_rfl))
  f241 := Try.func110.trans (congrArg some (by kernel_rfl))
  f276 := Try.func94.trans (congrArg some (by kernel_rfl))
  f277 := Try.func124.trans (congrArg some (by kernel_rfl))
  t0 := Try.underlying0
  a0 := Try.isAgg0
  z0 := Try.sizeOf0
  v0 := Try.zeroValue0
  t3 := Try.underlying3
  a3 := Try.isAgg3
  z3 := Try.sizeOf3
  v3 := Try.zeroValue3
  t4 := Try.underlying4
  a4 := Try.isAgg4
  z4 := Try.sizeOf4
  v4 := Try.zeroValue4
  t9 := Try.underlying9
  a9 := Try.isAgg9
  z9 := Try.sizeOf9
  v9 := Try.zeroValue9
  t20 := Try.underlying20
  a20 := Try.isAgg20
  z20 := Try.sizeOf20
  v20 := Try.zeroValue20
  t31 := Try.underlying27
  a31 := Try.isAgg27
  z31 := Try.sizeOf27
  v31 := Try.zeroValue27
  t37 := Try.underlying80
  a37 := Try.isAgg80
  z37 := Try.sizeOf80
  v37 := Try.zeroValue80
  t70 := Try.underlying79
  a70 := Try.isAgg79
  z70 := Try.sizeOf79
  v70 := Try.zeroValue79
  t72 := Try.underlying82
  a72 := Try.isAgg82
  z72 := Try.sizeOf82
  v72 := Try.zeroValue82
  t75 := Try.underlying84
  a75 := Try.isAgg84
  z75 := Try.sizeOf84
  v75 := Try.zeroValue84
  t76 := Try.underlying85
  a76 := Try.isAgg85
  z76 := Try.sizeOf85
  v76 := Try.zeroValue85
  t127 := Try.underlying108
  a127 := Try.isAgg108
  z127 := Try.sizeOf108
  v127 := Try.zeroValue108
  t164 := Try.underlying129
  a164 := Try.isAgg129
  z164 := Try.sizeOf129
  v164 := Try.zeroValue129 }
theorem layJoinX : Go.Proofs.Builder.Extra Try.prog layJoin_ren := {
  sizeBuilder := by kernel_rfl
  liesBuilder := by kernel_rfl
  t5 := Try.underlying5
  a5 := Try.isAgg5
  z5 := Try.sizeOf5
  v5 := Try.zeroValue5
  infoByte := by kernel_rfl
  cellsByte := by kernel_rfl
  sizeByte := by kernel_rfl
  neB5 := by decide }
theorem layJoinF : layJoin_ren.f 156 = 58 := by kernel_rfl

def strings_Join.c : Sym.Callee := ⟨(.cons (.sl .str) (.cons .str .nil)), .str, false, ByteArray, fun k x => strings_Join.f x.1 x.2.1, fun y => y, []⟩
theorem strings_Join.ok : CalleeOk Try.prog 58 strings_Join.c where
  enter := enter_of Try.func58 rfl (by kernel_rfl)
  calls k w F vs x y hL hfin hx hy := by
    obtain ⟨v1, us, rfl, h1, v2, us2, rfl, h2, rfl⟩ := hx
    obtain ⟨A, c, rfl, hc, hr⟩ := rep_sl h1
    obtain rfl := rep_str h2
    have fin : ∀ (r : ByteArray) (e : Ending) (w' : World), e = .returned (.string r) → Below w.heap.size w w' → Sym.Ends F w Ty.str false [] r e w' := fun r e w' he hb =>
      ⟨_, F, he, ⟨hb, fun _ _ => rfl⟩, fun b hb2 => Nat.lt_of_lt_of_le (hfin b hb2) hb.size, repR_one mk_str⟩
    have hy : strings_Join.f x.1 x.2.1 = some y := hy
    unfold strings_Join.f at hy
    split at hy
    case isFalse => cases hy
    case isTrue hq =>
      obtain rfl := Option.some.inj hy
      rcases Nat.eq_zero_or_pos (List.length x.1) with z | z
      · have hnil : x.1 = [] := List.length_eq_zero_iff.1 z
        have g := Go.Proofs.Any.strings_Join_none layJoin layJoinX A c x.2.1 w
        rw [layJoinF] at g
        rw [hnil]
        exact g.mono fun e w' q => fin _ _ _ q.1 (q.2 ▸ Below.refl _ _)
      · obtain ⟨b, o, rfl, _, hcell⟩ := hr z
        have at_ : ∀ (j : Nat) (s : ByteArray), x.1[j]? = some s → w.cell? ⟨b, o + j, none⟩ = some (.string s) := by
          intro j s hj
          obtain ⟨ds, k1, k2⟩ := hcell j s hj
          have := k2 0 (.string s) (by rw [show ds = _ from k1]; rfl)
          simpa [show Ty.str.size = 1 from rfl] using this
        have g := Go.Proofs.Any.strings_Join layJoin layJoinX b o c x.1 x.2.1 w at_ (cell_lt (at_ 0 _ (List.getElem?_eq_getElem z))) hq.1 hc hq.2
        rw [layJoinF] at g
        exact g.mono fun e w' q => fin _ _ _ q.1 q.2
def output_line.c : Sym.Callee := ⟨(.cons (.sl .str) .nil), .str, false, ByteArray, fun k x => output_line.f x.1, fun z => z, []⟩
def output_line.nf (k : Nat) (a0 : List ByteArray) : Option (ByteArray) := ((strings_Join.f a0 (⟨#[32]⟩ : ByteArray)).bind fun t1 => (some t1))
noncomputable def output_line.E : Env (ByteArray) := envOf tab Try.f39 false .str [] (fun y => y) [(58, strings_Join.c)] [] []
theorem output_line.h1 : obls output_line.E Try.f39 = [] := by kernel_rfl
theorem output_line.h2 : (fun k (x : El (.cons (.sl .str) .nil)) => output_line.nf k x.1) = fun k x => mainK output_line.E Try.f39 (.cons (.sl .str) .nil) k x := by kernel_rfl
set_option maxHeartbeats 2000000 in
theorem output_line.bf (k : Nat) (a0 : List ByteArray) : Lo (output_line.f a0) (output_line.nf k a0) := by
  unfold output_line.f output_line.nf
  try simp only [Bool.false_xor, Bool.true_xor, wu8_64, wu8_u64, byL_nums, btS_bt, nil_tl, beq_decL, beq_decI]
  repeat' first
    | (with_reducible exact lo_refl _)
    | exact lo_none _
    | (with_reducible refine lo_lpos (by first | assumption | decide) ?_)
    | (with_reducible refine lo_lneg (by first | assumption | decide) ?_)
    | (with_reducible refine lo_ite (fun _ => ?_) (fun _ => ?_))
    | (with_reducible refine lo_bind (fun _ => ?_))
    | (with_reducible refine lo_left ?_)
    | (refine lo_neg (by decide) ?_)
    | (refine lo_pos (by first | assumption | omega) ?_)
    | (refine lo_neg (by first | assumption | omega) ?_)
    | (with_reducible refine lo_test (fun _ => by first | assumption | omega | (simp only [List.length_cons, List.length_nil]; omega) | decide) (fun _ => ?_))
    | (with_reducible refine lo_testn (fun _ => by first | assumption | omega) (fun _ => ?_))
    | (with_reducible refine lo_and (fun z => by first | exact z.1 | omega) (fun z => by first | exact z.2 | omega) (fun _ => ?_))
    | exact lo_refl _
    | (with_reducible refine lo_iff (by first | exact Iff.rfl | omega | (simp; done) | decide) (fun _ => ?_) (fun _ => ?_))
    | (with_reducible refine lo_iffn (by first | exact Iff.rfl | omega | (simp; done) | decide) (fun _ => ?_) (fun _ => ?_))
    | refine lo_ite (fun _ => ?_) (fun _ => ?_)
    | refine lo_bind (fun _ => ?_)
    | (refine lo_some ?_; first | rfl | (rw [Bool.false_xor]; rfl) | (rw [Bool.true_xor]; rfl) | (simp only [Bool.and_true]; rfl) | (simp; done))
    | (simp only [Int.zero_sub]; exact lo_refl _)
    | (with_reducible refine lo_lpos (by omega) ?_)
    | (with_reducible refine lo_lneg (by omega) ?_)
    | (with_reducible refine lo_lite (fun _ => ?_) (fun _ => ?_))
    | (with_reducible refine lo_rite (fun _ => ?_) (fun _ => ?_))
  all_goals (exfalso; first | omega | (simp_all; done) | (simp_all; omega))
theorem output_line.al : AllLe (obls output_line.E Try.f39) := by
  rw [output_line.h1]
  exact .nil
theorem output_line.ok : CalleeOk Try.prog 39 output_line.c := fn_ok tabOk mixed (fun _ => rfl) Try.func39 rfl (by kernel_rfl) (ok_cons strings_Join.ok ok_nil) output_line.al (fun k x r h => (congrFun (congrFun output_line.h2 k) x).symm.trans (output_line.bf k _ r h))
def fix_Size.c : Sym.Callee := ⟨(.cons (.int .i64) .nil), (.int .u64), false, Int, fun k x => fix_Size.f x.1, fun z => z, []⟩
def fix_Size.nf (k : Nat) (a0 : Int) : Option (Int) := (if a0 < (0 : Int) then (some (IntKind.wrap .u64 (-(IntKind.wrap .u64 (a0))))) else (some (IntKind.wrap .u64 (a0))))
noncomputable def fix_Size.E : Env (Int) := envOf tab Try.f60 false (.int .u64) [] (fun y => y) [] [] []
theorem fix_Size.h1 : obls fix_Size.E Try.f60 = [] := by kernel_rfl
theorem fix_Size.h2 : (fun k (x : El (.cons (.int .i64) .nil)) => fix_Size.nf k x.1) = fun k x => mainK fix_Size.E Try.f60 (.cons (.int .i64) .nil) k x := by kernel_rfl
set_option maxHeartbeats 2000000 in
theorem fix_Size.bf (k : Nat) (a0 : Int) : Lo (fix_Size.f a0) (fix_Size.nf k a0) := by
  unfold fix_Size.f fix_Size.nf
  try simp only [Bool.false_xor, Bool.true_xor, wu8_64, wu8_u64, byL_nums, btS_bt, nil_tl, beq_decL, beq_decI]
  repeat' first
    | (with_reducible exact lo_refl _)
    | exact lo_none _
    | (with_reducible refine lo_lpos (by first | assumption | decide) ?_)
    | (with_reducible refine lo_lneg (by first | assumption | decide) ?_)
    | (with_reducible refine lo_ite (fun _ => ?_) (fun _ => ?_))
    | (with_reducible refine lo_bind (fun _ => ?_))
    | (with_reducible refine lo_left ?_)
    | (refine lo_neg (by decide) ?_)
    | (refine lo_pos (by first | assumption | omega) ?_)
    | (refine lo_neg (by first | assumption | omega) ?_)
    | (with_reducible refine lo_test (fun _ => by first | assumption | omega | (simp only [List.length_cons, List.length_nil]; omega) | decide) (fun _ => ?_))
    | (with_reducible refine lo_testn (fun _ => by first | assumption | omega) (fun _ => ?_))
    | (with_reducible refine lo_and (fun z => by first | exact z.1 | omega) (fun z => by first | exact z.2 | omega) (fun _ => ?_))
    | exact lo_refl _
    | (with_reducible refine lo_iff (by first | exact Iff.rfl | omega | (simp; done) | decide) (fun _ => ?_) (fun _ => ?_))
    | (with_reducible refine lo_iffn (by first | exact Iff.rfl | omega | (simp; done) | decide) (fun _ => ?_) (fun _ => ?_))
    | refine lo_ite (fun _ => ?_) (fun _ => ?_)
    | refine lo_bind (fun _ => ?_)
    | (refine lo_some ?_; first | rfl | (rw [Bool.false_xor]; rfl) | (rw [Bool.true_xor]; rfl) | (simp only [Bool.and_true]; rfl) | (simp; done))
    | (simp only [Int.zero_sub]; exact lo_refl _)
    | (with_reducible refine lo_lpos (by omega) ?_)
    | (with_reducible refine lo_lneg (by omega) ?_)
    | (with_reducible refine lo_lite (fun _ => ?_) (fun _ => ?_))
    | (with_reducible refine lo_rite (fun _ => ?_) (fun _ => ?_))
  all_goals (exfalso; first | omega | (simp_all; done) | (simp_all; omega))
theorem fix_Size.al : AllLe (obls fix_Size.E Try.f60) := by
  rw [fix_Size.h1]
  exact .nil
theorem fix_Size.ok : CalleeOk Try.prog 60 fix_Size.c := fn_ok tabOk mixed (fun _ => rfl) Try.func60 rfl (by kernel_rfl) ok_nil fix_Size.al (fun k x r h => (congrFun (congrFun fix_Size.h2 k) x).symm.trans (fix_Size.bf k _ r h))
def dec_power.c : Sym.Callee := ⟨(.cons (.int .i64) .nil), (.int .u64), false, Int, fun k x => dec_power.f k x.1, fun z => z, []⟩
def dec_power.nl0 (k : Nat) (x3 : Int) (x4 : Int) (x5 : Int) : Option (Int) := (if x5 < x4 then (dec_power.l0 k (IntKind.wrap .u64 (x3 * (10 : Int))) x4 (wrap64 (x5 + (1 : Int)))) else (some x3))
def dec_power.nf (k : Nat) (a0 : Int) : Option (Int) := (dec_power.l0 k (1 : Int) a0 (0 : Int))
noncomputable def dec_power.E : Env (Int) := envOf tab Try.f83 false (.int .u64) [] (fun y => y) [] [⟨3, ⟨11, [(3, (.int .u64), []), (4, (.int .i64), []), (5, (.int .i64), [])], [], []⟩, fun k y => dec_power.l0 k y.1.1 y.1.2.1 y.1.2.2.1⟩] []
theorem dec_power.h1 : obls dec_power.E Try.f83 = [⟨(.cons (.cons (.int .u64) (.cons (.int .i64) (.cons (.int .i64) .nil))) (.cons .nil (.cons .nil .nil))), fun k y => dec_power.l0 (k + 1) y.1.1 y.1.2.1 y.1.2.2.1, fun k y => dec_power.nl0 k y.1.1 y.1.2.1 y.1.2.2.1⟩, ⟨(.cons (.cons (.int .u64) (.cons (.int .i64) (.cons (.int .i64) .nil))) (.cons .nil (.cons .nil .nil))), fun _ y => dec_power.l0 0 y.1.1 y.1.2.1 y.1.2.2.1, fun _ _ => none⟩] := by kernel_rfl
theorem dec_power.h2 : (fun k (x : El (.cons (.int .i64) .nil)) => dec_power.nf k x.1) = fun k x => mainK dec_power.E Try.f83 (.cons (.int .i64) .nil) k x := by kernel_rfl
theorem dec_power.bl0 (k : Nat) (x3 : Int) (x4 : Int) (x5 : Int) : Lo (dec_power.l0 (k + 1) x3 x4 x5) (dec_power.nl0 k x3 x4 x5) := by
  rw [dec_power.l0]
  unfold dec_power.nl0
  try simp only [Bool.false_xor, Bool.true_xor, wu8_64, wu8_u64, byL_nums, btS_bt, nil_tl, beq_decL, beq_decI]
  repeat' first
    | (with_reducible exact lo_refl _)
    | exact lo_none _
    | (with_reducible refine lo_lpos (by first | assumption | decide) ?_)
    | (with_reducible refine lo_lneg (by first | assumption | decide) ?_)
    | (with_reducible refine lo_ite (fun _ => ?_) (fun _ => ?_))
    | (with_reducible refine lo_bind (fun _ => ?_))
    | (with_reducible refine lo_left ?_)
    | (refine lo_neg (by decide) ?_)
    | (refine lo_pos (by first | assumption | omega) ?_)
    | (refine lo_neg (by first | assumption | omega) ?_)
    | (with_reducible refine lo_test (fun _ => by first | assumption | omega | (simp only [List.length_cons, List.length_nil]; omega) | decide) (fun _ => ?_))
    | (with_reducible refine lo_testn (fun _ => by first | assumption | omega) (fun _ => ?_))
    | (with_reducible refine lo_and (fun z => by first | exact z.1 | omega) (fun z => by first | exact z.2 | omega) (fun _ => ?_))
    | exact lo_refl _
    | (with_reducible refine lo_iff (by first | exact Iff.rfl | omega | (simp; done) | decide) (fun _ => ?_) (fun _ => ?_))
    | (with_reducible refine lo_iffn (by first | exact Iff.rfl | omega | (simp; done) | decide) (fun _ => ?_) (fun _ => ?_))
    | refine lo_ite (fun _ => ?_) (fun _ => ?_)
    | refine lo_bind (fun _ => ?_)
    | (refine lo_some ?_; first | rfl | (rw [Bool.false_xor]; rfl) | (rw [Bool.true_xor]; rfl) | (simp only [Bool.and_true]; rfl) | (simp; done))
    | (simp only [Int.zero_sub]; exact lo_refl _)
    | (with_reducible refine lo_lpos (by omega) ?_)
    | (with_reducible refine lo_lneg (by omega) ?_)
    | (with_reducible refine lo_lite (fun _ => ?_) (fun _ => ?_))
    | (with_reducible refine lo_rite (fun _ => ?_) (fun _ => ?_))
  all_goals (exfalso; first | omega | (simp_all; done) | (simp_all; omega))
set_option maxHeartbeats 2000000 in
theorem dec_power.bf (k : Nat) (a0 : Int) : Lo (dec_power.f k a0) (dec_power.nf k a0) := by
  unfold dec_power.f dec_power.nf
  try simp only [Bool.false_xor, Bool.true_xor, wu8_64, wu8_u64, byL_nums, btS_bt, nil_tl, beq_decL, beq_decI]
  repeat' first
    | (with_reducible exact lo_refl _)
    | exact lo_none _
    | (with_reducible refine lo_lpos (by first | assumption | decide) ?_)
    | (with_reducible refine lo_lneg (by first | assumption | decide) ?_)
    | (with_reducible refine lo_ite (fun _ => ?_) (fun _ => ?_))
    | (with_reducible refine lo_bind (fun _ => ?_))
    | (with_reducible refine lo_left ?_)
    | (refine lo_neg (by decide) ?_)
    | (refine lo_pos (by first | assumption | omega) ?_)
    | (refine lo_neg (by first | assumption | omega) ?_)
    | (with_reducible refine lo_test (fun _ => by first | assumption | omega | (simp only [List.length_cons, List.length_nil]; omega) | decide) (fun _ => ?_))
    | (with_reducible refine lo_testn (fun _ => by first | assumption | omega) (fun _ => ?_))
    | (with_reducible refine lo_and (fun z => by first | exact z.1 | omega) (fun z => by first | exact z.2 | omega) (fun _ => ?_))
    | exact lo_refl _
    | (with_reducible refine lo_iff (by first | exact Iff.rfl | omega | (simp; done) | decide) (fun _ => ?_) (fun _ => ?_))
    | (with_reducible refine lo_iffn (by first | exact Iff.rfl | omega | (simp; done) | decide) (fun _ => ?_) (fun _ => ?_))
    | refine lo_ite (fun _ => ?_) (fun _ => ?_)
    | refine lo_bind (fun _ => ?_)
    | (refine lo_some ?_; first | rfl | (rw [Bool.false_xor]; rfl) | (rw [Bool.true_xor]; rfl) | (simp only [Bool.and_true]; rfl) | (simp; done))
    | (simp only [Int.zero_sub]; exact lo_refl _)
    | (with_reducible refine lo_lpos (by omega) ?_)
    | (with_reducible refine lo_lneg (by omega) ?_)
    | (with_reducible refine lo_lite (fun _ => ?_) (fun _ => ?_))
    | (with_reducible refine lo_rite (fun _ => ?_) (fun _ => ?_))
  all_goals (exfalso; first | omega | (simp_all; done) | (simp_all; omega))
theorem dec_power.al : AllLe (obls dec_power.E Try.f83) := by
  rw [dec_power.h1]
  exact (.cons (fun k y r h => dec_power.bl0 k y.1.1 y.1.2.1 y.1.2.2.1 r h) (.cons (fun _ y r h => by simp [dec_power.l0] at h) .nil))
theorem dec_power.ok : CalleeOk Try.prog 83 dec_power.c := fn_ok tabOk mixed (fun _ => rfl) Try.func83 rfl (by kernel_rfl) ok_nil dec_power.al (fun k x r h => (congrFun (congrFun dec_power.h2 k) x).symm.trans (dec_power.bf k _ r h))
def pair_Mul.c : Sym.Callee := ⟨(.cons (.int .u64) (.cons (.int .u64) .nil)), (.cons (.int .u64) (.cons (.int .u64) .nil)), false, Int × Int, fun k x => pair_Mul.f x.1 x.2.1, fun z => (z.1, z.2, ()), []⟩
def pair_Mul.nf (k : Nat) (a0 : Int) (a1 : Int) : Option (Int × Int) := (if (32 : Int) < 0 then none else (if (32 : Int) < 0 then none else (if (32 : Int) < 0 then none else (if (32 : Int) < 0 then none else (if (32 : Int) < 0 then none else (if (32 : Int) < 0 then none else (if (32 : Int) < 0 then none else (some ((IntKind.wrap .u64 ((IntKind.wrap .u64 ((IntKind.wrap .u64 ((IntKind.wrap .u64 ((a0 / 2 ^ (min ((32 : Int)).toNat 64)) * (a1 / 2 ^ (min ((32 : Int)).toNat 64)))) + ((IntKind.wrap .u64 ((a0 / 2 ^ (min ((32 : Int)).toNat 64)) * (Go.bits .and .u64 a1 (4294967295 : Int)))) / 2 ^ (min ((32 : Int)).toNat 64)))) + ((IntKind.wrap .u64 ((Go.bits .and .u64 a0 (4294967295 : Int)) * (a1 / 2 ^ (min ((32 : Int)).toNat 64)))) / 2 ^ (min ((32 : Int)).toNat 64)))) + ((IntKind.wrap .u64 ((IntKind.wrap .u64 (((IntKind.wrap .u64 ((Go.bits .and .u64 a0 (4294967295 : Int)) * (Go.bits .and .u64 a1 (4294967295 : Int)))) / 2 ^ (min ((32 : Int)).toNat 64)) + (Go.bits .and .u64 (IntKind.wrap .u64 ((a0 / 2 ^ (min ((32 : Int)).toNat 64)) * (Go.bits .and .u64 a1 (4294967295 : Int)))) (4294967295 : Int)))) + (Go.bits .and .u64 (IntKind.wrap .u64 ((Go.bits .and .u64 a0 (4294967295 : Int)) * (a1 / 2 ^ (min ((32 : Int)).toNat 64)))) (4294967295 : Int)))) / 2 ^ (min ((32 : Int)).toNat 64)))), (Go.bits .or .u64 (IntKind.wrap .u64 ((IntKind.wrap .u64 ((IntKind.wrap .u64 (((IntKind.wrap .u64 ((Go.bits .and .u64 a0 (4294967295 : Int)) * (Go.bits .and .u64 a1 (4294967295 : Int)))) / 2 ^ (min ((32 : Int)).toNat 64)) + (Go.bits .and .u64 (IntKind.wrap .u64 ((a0 / 2 ^ (min ((32 : Int)).toNat 64)) * (Go.bits .and .u64 a1 (4294967295 : Int)))) (4294967295 : Int)))) + (Go.bits .and .u64 (IntKind.wrap .u64 ((Go.bits .and .u64 a0 (4294967295 : Int)) * (a1 / 2 ^ (min ((32 : Int)).toNat 64)))) (4294967295 : Int)))) * 2 ^ (min ((32 : Int)).toNat 64))) (Go.bits .and .u64 (IntKind.wrap .u64 ((Go.bits .and .u64 a0 (4294967295 : Int)) * (Go.bits .and .u64 a1 (4294967295 : Int)))) (4294967295 : Int))))))))))))
noncomputable def pair_Mul.E : Env (Int × Int) := envOf tab Try.f82 false (.cons (.int .u64) (.cons (.int .u64) .nil)) [] (fun y => (y.1, y.2.1)) [] [] []
theorem pair_Mul.h1 : obls pair_Mul.E Try.f82 = [] := by kernel_rfl
theorem pair_Mul.h2 : (fun k (x : El (.cons (.int .u64) (.cons (.int .u64) .nil))) => pair_Mul.nf k x.1 x.2.1) = fun k x => mainK pair_Mul.E Try.f82 (.cons (.int .u64) (.cons (.int .u64) .nil)) k x := by kernel_rfl
set_option maxHeartbeats 2000000 in
theorem pair_Mul.bf (k : Nat) (a0 : Int) (a1 : Int) : Lo (pair_Mul.f a0 a1) (pair_Mul.nf k a0 a1) := by
  unfold pair_Mul.f pair_Mul.nf
  try simp only [Bool.false_xor, Bool.true_xor, wu8_64, wu8_u64, byL_nums, btS_bt, nil_tl, beq_decL, beq_decI]
  repeat' first
    | (with_reducible exact lo_refl _)
    | exact lo_none _
    | (with_reducible refine lo_lpos (by first | assumption | decide) ?_)
    | (with_reducible refine lo_lneg (by first | assumption | decide) ?_)
    | (with_reducible refine lo_ite (fun _ => ?_) (fun _ => ?_))
    | (with_reducible refine lo_bind (fun _ => ?_))
    | (with_reducible refine lo_left ?_)
    | (refine lo_neg (by decide) ?_)
    | (refine lo_pos (by first | assumption | omega) ?_)
    | (refine lo_neg (by first | assumption | omega) ?_)
    | (with_reducible refine lo_test (fun _ => by first | assumption | omega | (simp only [List.length_cons, List.length_nil]; omega) | decide) (fun _ => ?_))
    | (with_reducible refine lo_testn (fun _ => by first | assumption | omega) (fun _ => ?_))
    | (with_reducible refine lo_and (fun z => by first | exact z.1 | omega) (fun z => by first | exact z.2 | omega) (fun _ => ?_))
    | exact lo_refl _
    | (with_reducible refine lo_iff (by first | exact Iff.rfl | omega | (simp; done) | decide) (fun _ => ?_) (fun _ => ?_))
    | (with_reducible refine lo_iffn (by first | exact Iff.rfl | omega | (simp; done) | decide) (fun _ => ?_) (fun _ => ?_))
    | refine lo_ite (fun _ => ?_) (fun _ => ?_)
    | refine lo_bind (fun _ => ?_)
    | (refine lo_some ?_; first | rfl | (rw [Bool.false_xor]; rfl) | (rw [Bool.true_xor]; rfl) | (simp only [Bool.and_true]; rfl) | (simp; done))
    | (simp only [Int.zero_sub]; exact lo_refl _)
    | (with_reducible refine lo_lpos (by omega) ?_)
    | (with_reducible refine lo_lneg (by omega) ?_)
    | (with_reducible refine lo_lite (fun _ => ?_) (fun _ => ?_))
    | (with_reducible refine lo_rite (fun _ => ?_) (fun _ => ?_))
  all_goals (exfalso; first | omega | (simp_all; done) | (simp_all; omega))
theorem pair_Mul.al : AllLe (obls pair_Mul.E Try.f82) := by
  rw [pair_Mul.h1]
  exact .nil
theorem pair_Mul.ok : CalleeOk Try.prog 82 pair_Mul.c := fn_ok tabOk mixed (fun _ => rfl) Try.func82 rfl (by kernel_rfl) ok_nil pair_Mul.al (fun k x r h => (congrFun (congrFun pair_Mul.h2 k) x).symm.trans (pair_Mul.bf k _ _ r h))
def pair_held.c : Sym.Callee := ⟨(.cons (.int .i64) .nil), (.int .i64), false, Int, fun k x => pair_held.f x.1, fun z => z, []⟩
def pair_held.nf (k : Nat) (a0 : Int) : Option (Int) := (some (if (128 : Int) < (if a0 < (0 : Int) then (0 : Int) else a0) then (128 : Int) else (if a0 < (0 : Int) then (0 : Int) else a0)))
noncomputable def pair_held.E : Env (Int) := envOf tab Try.f125 false (.int .i64) [] (fun y => y) [] [] []
theorem pair_held.h1 : obls pair_held.E Try.f125 = [] := by kernel_rfl
theorem pair_held.h2 : (fun k (x : El (.cons (.int .i64) .nil)) => pair_held.nf k x.1) = fun k x => mainK pair_held.E Try.f125 (.cons (.int .i64) .nil) k x := by kernel_rfl
set_option maxHeartbeats 2000000 in
theorem pair_held.bf (k : Nat) (a0 : Int) : Lo (pair_held.f a0) (pair_held.nf k a0) := by
  unfold pair_held.f pair_held.nf
  try simp only [Bool.false_xor, Bool.true_xor, wu8_64, wu8_u64, byL_nums, btS_bt, nil_tl, beq_decL, beq_decI]
  repeat' first
    | (with_reducible exact lo_refl _)
    | exact lo_none _
    | (with_reducible refine lo_lpos (by first | assumption | decide) ?_)
    | (with_reducible refine lo_lneg (by first | assumption | decide) ?_)
    | (with_reducible refine lo_ite (fun _ => ?_) (fun _ => ?_))
    | (with_reducible refine lo_bind (fun _ => ?_))
    | (with_reducible refine lo_left ?_)
    | (refine lo_neg (by decide) ?_)
    | (refine lo_pos (by first | assumption | omega) ?_)
    | (refine lo_neg (by first | assumption | omega) ?_)
    | (with_reducible refine lo_test (fun _ => by first | assumption | omega | (simp only [List.length_cons, List.length_nil]; omega) | decide) (fun _ => ?_))
    | (with_reducible refine lo_testn (fun _ => by first | assumption | omega) (fun _ => ?_))
    | (with_reducible refine lo_and (fun z => by first | exact z.1 | omega) (fun z => by first | exact z.2 | omega) (fun _ => ?_))
    | exact lo_refl _
    | (with_reducible refine lo_iff (by first | exact Iff.rfl | omega | (simp; done) | decide) (fun _ => ?_) (fun _ => ?_))
    | (with_reducible refine lo_iffn (by first | exact Iff.rfl | omega | (simp; done) | decide) (fun _ => ?_) (fun _ => ?_))
    | refine lo_ite (fun _ => ?_) (fun _ => ?_)
    | refine lo_bind (fun _ => ?_)
    | (refine lo_some ?_; first | rfl | (rw [Bool.false_xor]; rfl) | (rw [Bool.true_xor]; rfl) | (simp only [Bool.and_true]; rfl) | (simp; done))
    | (simp only [Int.zero_sub]; exact lo_refl _)
    | (with_reducible refine lo_lpos (by omega) ?_)
    | (with_reducible refine lo_lneg (by omega) ?_)
    | (with_reducible refine lo_lite (fun _ => ?_) (fun _ => ?_))
    | (with_reducible refine lo_rite (fun _ => ?_) (fun _ => ?_))
  all_goals (exfalso; first | omega | (simp_all; done) | (simp_all; omega))
theorem pair_held.al : AllLe (obls pair_held.E Try.f125) := by
  rw [pair_held.h1]
  exact .nil
theorem pair_held.ok : CalleeOk Try.prog 125 pair_held.c := fn_ok tabOk mixed (fun _ => rfl) Try.func125 rfl (by kernel_rfl) ok_nil pair_held.al (fun k x r h => (congrFun (congrFun pair_held.h2 k) x).symm.trans (pair_held.bf k _ r h))
def pair_Shr.c : Sym.Callee := ⟨(.cons (.cons (.int .u64) (.cons (.int .u64) .nil)) (.cons (.int .i64) .nil)), (.cons (.int .u64) (.cons (.int .u64) .nil)), false, Int × Int, fun k x => pair_Shr.f x.1.1 x.1.2.1 x.2.1, fun z => (z.1, z.2, ()), []⟩
def pair_Shr.nf (k : Nat) (a0_0 : Int) (a0_1 : Int) (a1 : Int) : Option (Int × Int) := ((pair_held.f a1).bind fun t1 => (if (IntKind.wrap .u64 (t1)) ≥ (64 : Int) then (if 0 ≤ (0 : Int) then (if (0 : Int) < ((2 : Nat) : Int) then (if (IntKind.wrap .u64 ((IntKind.wrap .u64 (t1)) - (64 : Int))) < 0 then none else (some ((0 : Int), (a0_0 / 2 ^ (min ((IntKind.wrap .u64 ((IntKind.wrap .u64 (t1)) - (64 : Int)))).toNat 64))))) else none) else none) else (if 0 ≤ (0 : Int) then (if (0 : Int) < ((2 : Nat) : Int) then (if (IntKind.wrap .u64 (t1)) < 0 then none else (if 0 ≤ (1 : Int) then (if (1 : Int) < ((2 : Nat) : Int) then (if (IntKind.wrap .u64 (t1)) < 0 then none else (if 0 ≤ (0 : Int) then (if (0 : Int) < ((2 : Nat) : Int) then (if (IntKind.wrap .u64 ((64 : Int) - (IntKind.wrap .u64 (t1)))) < 0 then none else (some ((a0_0 / 2 ^ (min ((IntKind.wrap .u64 (t1))).toNat 64)), (Go.bits .or .u64 (a0_1 / 2 ^ (min ((IntKind.wrap .u64 (t1))).toNat 64)) (IntKind.wrap .u64 (a0_0 * 2 ^ (min ((IntKind.wrap .u64 ((64 : Int) - (IntKind.wrap .u64 (t1))))).toNat 64))))))) else none) else none)) else none) else none)) else none) else none)))
noncomputable def pair_Shr.E : Env (Int × Int) := envOf tab Try.f126 false (.cons (.int .u64) (.cons (.int .u64) .nil)) [] (fun y => (y.1, y.2.1)) [(125, pair_held.c)] [] []
theorem pair_Shr.h1 : obls pair_Shr.E Try.f126 = [] := by kernel_rfl
theorem pair_Shr.h2 : (fun k (x : El (.cons (.cons (.int .u64) (.cons (.int .u64) .nil)) (.cons (.int .i64) .nil))) => pair_Shr.nf k x.1.1 x.1.2.1 x.2.1) = fun k x => mainK pair_Shr.E Try.f126 (.cons (.cons (.int .u64) (.cons (.int .u64) .nil)) (.cons (.int .i64) .nil)) k x := by kernel_rfl
set_option maxHeartbeats 2000000 in
theorem pair_Shr.bf (k : Nat) (a0_0 : Int) (a0_1 : Int) (a1 : Int) : Lo (pair_Shr.f a0_0 a0_1 a1) (pair_Shr.nf k a0_0 a0_1 a1) := by
  unfold pair_Shr.f pair_Shr.nf
  try simp only [Bool.false_xor, Bool.true_xor, wu8_64, wu8_u64, byL_nums, btS_bt, nil_tl, beq_decL, beq_decI]
  repeat' first
    | (with_reducible exact lo_refl _)
    | exact lo_none _
    | (with_reducible refine lo_lpos (by first | assumption | decide) ?_)
    | (with_reducible refine lo_lneg (by first | assumption | decide) ?_)
    | (with_reducible refine lo_ite (fun _ => ?_) (fun _ => ?_))
    | (with_reducible refine lo_bind (fun _ => ?_))
    | (with_reducible refine lo_left ?_)
    | (refine lo_neg (by decide) ?_)
    | (refine lo_pos (by first | assumption | omega) ?_)
    | (refine lo_neg (by first | assumption | omega) ?_)
    | (with_reducible refine lo_test (fun _ => by first | assumption | omega | (simp only [List.length_cons, List.length_nil]; omega) | decide) (fun _ => ?_))
    | (with_reducible refine lo_testn (fun _ => by first | assumption | omega) (fun _ => ?_))
    | (with_reducible refine lo_and (fun z => by first | exact z.1 | omega) (fun z => by first | exact z.2 | omega) (fun _ => ?_))
    | exact lo_refl _
    | (with_reducible refine lo_iff (by first | exact Iff.rfl | omega | (simp; done) | decide) (fun _ => ?_) (fun _ => ?_))
    | (with_reducible refine lo_iffn (by first | exact Iff.rfl | omega | (simp; done) | decide) (fun _ => ?_) (fun _ => ?_))
    | refine lo_ite (fun _ => ?_) (fun _ => ?_)
    | refine lo_bind (fun _ => ?_)
    | (refine lo_some ?_; first | rfl | (rw [Bool.false_xor]; rfl) | (rw [Bool.true_xor]; rfl) | (simp only [Bool.and_true]; rfl) | (simp; done))
    | (simp only [Int.zero_sub]; exact lo_refl _)
    | (with_reducible refine lo_lpos (by omega) ?_)
    | (with_reducible refine lo_lneg (by omega) ?_)
    | (with_reducible refine lo_lite (fun _ => ?_) (fun _ => ?_))
    | (with_reducible refine lo_rite (fun _ => ?_) (fun _ => ?_))
  all_goals (exfalso; first | omega | (simp_all; done) | (simp_all; omega))
theorem pair_Shr.al : AllLe (obls pair_Shr.E Try.f126) := by
  rw [pair_Shr.h1]
  exact .nil
theorem pair_Shr.ok : CalleeOk Try.prog 126 pair_Shr.c := fn_ok tabOk mixed (fun _ => rfl) Try.func126 rfl (by kernel_rfl) (ok_cons pair_held.ok ok_nil) pair_Shr.al (fun k x r h => (congrFun (congrFun pair_Shr.h2 k) x).symm.trans (pair_Shr.bf k _ _ _ r h))
def pair_Shl.c : Sym.Callee := ⟨(.cons (.cons (.int .u64) (.cons (.int .u64) .nil)) (.cons (.int .i64) .nil)), (.cons (.cons (.int .u64) (.cons (.int .u64) .nil)) (.cons .bool .nil)), true, Int × Int × Bool, fun k x => pair_Shl.f x.1.1 x.1.2.1 x.2.1, fun z => ((z.1, z.2.1, ()), z.2.2, ()), []⟩
def pair_Shl.nf (k : Nat) (a0_0 : Int) (a0_1 : Int) (a1 : Int) : Option (Int × Int × Bool) := ((pair_held.f a1).bind fun t1 => (if 0 ≤ (0 : Int) then (if (0 : Int) < ((2 : Nat) : Int) then (if (IntKind.wrap .u64 (t1)) < 0 then none else (if 0 ≤ (1 : Int) then (if (1 : Int) < ((2 : Nat) : Int) then (if (IntKind.wrap .u64 ((64 : Int) - (IntKind.wrap .u64 (t1)))) < 0 then none else (if 0 ≤ (1 : Int) then (if (1 : Int) < ((2 : Nat) : Int) then (if (IntKind.wrap .u64 (t1)) < 0 then none else (if (IntKind.wrap .u64 (t1)) ≥ (64 : Int) then (if 0 ≤ (1 : Int) then (if (1 : Int) < ((2 : Nat) : Int) then (if (IntKind.wrap .u64 ((IntKind.wrap .u64 (t1)) - (64 : Int))) < 0 then none else ((pair_Shr.f (IntKind.wrap .u64 (a0_1 * 2 ^ (min ((IntKind.wrap .u64 ((IntKind.wrap .u64 (t1)) - (64 : Int)))).toNat 64))) (0 : Int) a1).bind fun t2 => (some ((IntKind.wrap .u64 (a0_1 * 2 ^ (min ((IntKind.wrap .u64 ((IntKind.wrap .u64 (t1)) - (64 : Int)))).toNat 64))), (0 : Int), ((decide (t2.1 = a0_0)) && ((decide (t2.2 = a0_1)) && true)))))) else none) else none) else ((pair_Shr.f (Go.bits .or .u64 (IntKind.wrap .u64 (a0_0 * 2 ^ (min ((IntKind.wrap .u64 (t1))).toNat 64))) (a0_1 / 2 ^ (min ((IntKind.wrap .u64 ((64 : Int) - (IntKind.wrap .u64 (t1))))).toNat 64))) (IntKind.wrap .u64 (a0_1 * 2 ^ (min ((IntKind.wrap .u64 (t1))).toNat 64))) a1).bind fun t3 => (some ((Go.bits .or .u64 (IntKind.wrap .u64 (a0_0 * 2 ^ (min ((IntKind.wrap .u64 (t1))).toNat 64))) (a0_1 / 2 ^ (min ((IntKind.wrap .u64 ((64 : Int) - (IntKind.wrap .u64 (t1))))).toNat 64))), (IntKind.wrap .u64 (a0_1 * 2 ^ (min ((IntKind.wrap .u64 (t1))).toNat 64))), ((decide (t3.1 = a0_0)) && ((decide (t3.2 = a0_1)) && true))))))) else none) else none)) else none) else none)) else none) else none))
noncomputable def pair_Shl.E : Env (Int × Int × Bool) := envOf tab Try.f112 true (.cons (.cons (.int .u64) (.cons (.int .u64) .nil)) (.cons .bool .nil)) [] (fun y => (y.1.1, y.1.2.1, y.2.1)) [(125, pair_held.c), (126, pair_Shr.c)] [] []
theorem pair_Shl.h1 : obls pair_Shl.E Try.f112 = [] := by kernel_rfl
theorem pair_Shl.h2 : (fun k (x : El (.cons (.cons (.int .u64) (.cons (.int .u64) .nil)) (.cons (.int .i64) .nil))) => pair_Shl.nf k x.1.1 x.1.2.1 x.2.1) = fun k x => mainK pair_Shl.E Try.f112 (.cons (.cons (.int .u64) (.cons (.int .u64) .nil)) (.cons (.int .i64) .nil)) k x := by kernel_rfl
set_option maxHeartbeats 2000000 in
theorem pair_Shl.bf (k : Nat) (a0_0 : Int) (a0_1 : Int) (a1 : Int) : Lo (pair_Shl.f a0_0 a0_1 a1) (pair_Shl.nf k a0_0 a0_1 a1) := by
  unfold pair_Shl.f pair_Shl.nf
  try simp only [Bool.false_xor, Bool.true_xor, wu8_64, wu8_u64, byL_nums, btS_bt, nil_tl, beq_decL, beq_decI]
  repeat' first
    | (with_reducible exact lo_refl _)
    | exact lo_none _
    | (with_reducible refine lo_lpos (by first | assumption | decide) ?_)
    | (with_reducible refine lo_lneg (by first | assumption | decide) ?_)
    | (with_reducible refine lo_ite (fun _ => ?_) (fun _ => ?_))
    | (with_reducible refine lo_bind (fun _ => ?_))
    | (with_reducible refine lo_left ?_)
    | (refine lo_neg (by decide) ?_)
    | (refine lo_pos (by first | assumption | omega) ?_)
    | (refine lo_neg (by first | assumption | omega) ?_)
    | (with_reducible refine lo_test (fun _ => by first | assumption | omega | (simp only [List.length_cons, List.length_nil]; omega) | decide) (fun _ => ?_))
    | (with_reducible refine lo_testn (fun _ => by first | assumption | omega) (fun _ => ?_))
    | (with_reducible refine lo_and (fun z => by first | exact z.1 | omega) (fun z => by first | exact z.2 | omega) (fun _ => ?_))
    | exact lo_refl _
    | (with_reducible refine lo_iff (by first | exact Iff.rfl | omega | (simp; done) | decide) (fun _ => ?_) (fun _ => ?_))
    | (with_reducible refine lo_iffn (by first | exact Iff.rfl | omega | (simp; done) | decide) (fun _ => ?_) (fun _ => ?_))
    | refine lo_ite (fun _ => ?_) (fun _ => ?_)
    | refine lo_bind (fun _ => ?_)
    | (refine lo_some ?_; first | rfl | (rw [Bool.false_xor]; rfl) | (rw [Bool.true_xor]; rfl) | (simp only [Bool.and_true]; rfl) | (simp; done))
    | (simp only [Int.zero_sub]; exact lo_refl _)
    | (with_reducible refine lo_lpos (by omega) ?_)
    | (with_reducible refine lo_lneg (by omega) ?_)
    | (with_reducible refine lo_lite (fun _ => ?_) (fun _ => ?_))
    | (with_reducible refine lo_rite (fun _ => ?_) (fun _ => ?_))
  all_goals (exfalso; first | omega | (simp_all; done) | (simp_all; omega))
theorem pair_Shl.al : AllLe (obls pair_Shl.E Try.f112) := by
  rw [pair_Shl.h1]
  exact .nil
theorem pair_Shl.ok : CalleeOk Try.prog 112 pair_Shl.c := fn_ok tabOk mixed (fun _ => rfl) Try.func112 rfl (by kernel_rfl) (ok_cons pair_held.ok (ok_cons pair_Shr.ok ok_nil)) pair_Shl.al (fun k x r h => (congrFun (congrFun pair_Shl.h2 k) x).symm.trans (pair_Shl.bf k _ _ _ r h))
def bits_Len64.c : Sym.Callee := ⟨(.cons (.int .u64) .nil), (.int .i64), false, Int, fun k x => bits_Len64.f k x.1, fun z => z, []⟩
def bits_Len64.nj0 (k : Nat) (x0 : Int) (x2 : Int) : Option (Int) := (if x0 ≥ (65536 : Int) then (if (16 : Int) < 0 then none else (if (x0 / 2 ^ (min ((16 : Int)).toNat 64)) ≥ (256 : Int) then (if (8 : Int) < 0 then none else (if 0 ≤ (IntKind.wrap .u8 (((x0 / 2 ^ (min ((16 : Int)).toNat 64)) / 2 ^ (min ((8 : Int)).toNat 64)))) then (if (IntKind.wrap .u8 (((x0 / 2 ^ (min ((16 : Int)).toNat 64)) / 2 ^ (min ((8 : Int)).toNat 64)))) < ((⟨#[0, 1, 2, 2, 3, 3, 3, 3, 4, 4, 4, 4, 4, 4, 4, 4, 5, 5, 5, 5, 5, 5, 5, 5, 5, 5, 5, 5, 5, 5, 5, 5, 6, 6, 6, 6, 6, 6, 6, 6, 6, 6, 6, 6, 6, 6, 6, 6, 6, 6, 6, 6, 6, 6, 6, 6, 6, 6, 6, 6, 6, 6, 6, 6, 7, 7, 7, 7, 7, 7, 7, 7, 7, 7, 7, 7, 7, 7, 7, 7, 7, 7, 7, 7, 7, 7, 7, 7, 7, 7, 7, 7, 7, 7, 7, 7, 7, 7, 7, 7, 7, 7, 7, 7, 7, 7, 7, 7, 7, 7, 7, 7, 7, 7, 7, 7, 7, 7, 7, 7, 7, 7, 7, 7, 7, 7, 7, 7, 8, 8, 8, 8, 8, 8, 8, 8, 8, 8, 8, 8, 8, 8, 8, 8, 8, 8, 8, 8, 8, 8, 8, 8, 8, 8, 8, 8, 8, 8, 8, 8, 8, 8, 8, 8, 8, 8, 8, 8, 8, 8, 8, 8, 8, 8, 8, 8, 8, 8, 8, 8, 8, 8, 8, 8, 8, 8, 8, 8, 8, 8, 8, 8, 8, 8, 8, 8, 8, 8, 8, 8, 8, 8, 8, 8, 8, 8, 8, 8, 8, 8, 8, 8, 8, 8, 8, 8, 8, 8, 8, 8, 8, 8, 8, 8, 8, 8, 8, 8, 8, 8, 8, 8, 8, 8, 8, 8, 8, 8, 8, 8, 8, 8, 8, 8, 8, 8, 8, 8, 8, 8, 8, 8, 8, 8, 8, 8]⟩ : ByteArray).size : Int) then (some (wrap64 ((wrap64 ((wrap64 (x2 + (16 : Int))) + (8 : Int))) + (wrap64 ((btS (⟨#[0, 1, 2, 2, 3, 3, 3, 3, 4, 4, 4, 4, 4, 4, 4, 4, 5, 5, 5, 5, 5, 5, 5, 5, 5, 5, 5, 5, 5, 5, 5, 5, 6, 6, 6, 6, 6, 6, 6, 6, 6, 6, 6, 6, 6, 6, 6, 6, 6, 6, 6, 6, 6, 6, 6, 6, 6, 6, 6, 6, 6, 6, 6, 6, 7, 7, 7, 7, 7, 7, 7, 7, 7, 7, 7, 7, 7, 7, 7, 7, 7, 7, 7, 7, 7, 7, 7, 7, 7, 7, 7, 7, 7, 7, 7, 7, 7, 7, 7, 7, 7, 7, 7, 7, 7, 7, 7, 7, 7, 7, 7, 7, 7, 7, 7, 7, 7, 7, 7, 7, 7, 7, 7, 7, 7, 7, 7, 7, 8, 8, 8, 8, 8, 8, 8, 8, 8, 8, 8, 8, 8, 8, 8, 8, 8, 8, 8, 8, 8, 8, 8, 8, 8, 8, 8, 8, 8, 8, 8, 8, 8, 8, 8, 8, 8, 8, 8, 8, 8, 8, 8, 8, 8, 8, 8, 8, 8, 8, 8, 8, 8, 8, 8, 8, 8, 8, 8, 8, 8, 8, 8, 8, 8, 8, 8, 8, 8, 8, 8, 8, 8, 8, 8, 8, 8, 8, 8, 8, 8, 8, 8, 8, 8, 8, 8, 8, 8, 8, 8, 8, 8, 8, 8, 8, 8, 8, 8, 8, 8, 8, 8, 8, 8, 8, 8, 8, 8, 8, 8, 8, 8, 8, 8, 8, 8, 8, 8, 8, 8, 8, 8, 8, 8, 8, 8, 8]⟩ : ByteArray) (IntKind.wrap .u8 (((x0 / 2 ^ (min ((16 : Int)).toNat 64)) / 2 ^ (min ((8 : Int)).toNat 64)))))))))) else none) else none)) else (if 0 ≤ (IntKind.wrap .u8 ((x0 / 2 ^ (min ((16 : Int)).toNat 64)))) then (if (IntKind.wrap .u8 ((x0 / 2 ^ (min ((16 : Int)).toNat 64)))) < ((⟨#[0, 1, 2, 2, 3, 3, 3, 3, 4, 4, 4, 4, 4, 4, 4, 4, 5, 5, 5, 5, 5, 5, 5, 5, 5, 5, 5, 5, 5, 5, 5, 5, 6, 6, 6, 6, 6, 6, 6, 6, 6, 6, 6, 6, 6, 6, 6, 6, 6, 6, 6, 6, 6, 6, 6, 6, 6, 6, 6, 6, 6, 6, 6, 6, 7, 7, 7, 7, 7, 7, 7, 7, 7, 7, 7, 7, 7, 7, 7, 7, 7, 7, 7, 7, 7, 7, 7, 7, 7, 7, 7, 7, 7, 7, 7, 7, 7, 7, 7, 7, 7, 7, 7, 7, 7, 7, 7, 7, 7, 7, 7, 7, 7, 7, 7, 7, 7, 7, 7, 7, 7, 7, 7, 7, 7, 7, 7, 7, 8, 8, 8, 8, 8, 8, 8, 8, 8, 8, 8, 8, 8, 8, 8, 8, 8, 8, 8, 8, 8, 8, 8, 8, 8, 8, 8, 8, 8, 8, 8, 8, 8, 8, 8, 8, 8, 8, 8, 8, 8, 8, 8, 8, 8, 8, 8, 8, 8, 8, 8, 8, 8, 8, 8, 8, 8, 8, 8, 8, 8, 8, 8, 8, 8, 8, 8, 8, 8, 8, 8, 8, 8, 8, 8, 8, 8, 8, 8, 8, 8, 8, 8, 8, 8, 8, 8, 8, 8, 8, 8, 8, 8, 8, 8, 8, 8, 8, 8, 8, 8, 8, 8, 8, 8, 8, 8, 8, 8, 8, 8, 8, 8, 8, 8, 8, 8, 8, 8, 8, 8, 8, 8, 8, 8, 8, 8, 8]⟩ : ByteArray).size : Int) then (some (wrap64 ((wrap64 (x2 + (16 : Int))) + (wrap64 ((btS (⟨#[0, 1, 2, 2, 3, 3, 3, 3, 4, 4, 4, 4, 4, 4, 4, 4, 5, 5, 5, 5, 5, 5, 5, 5, 5, 5, 5, 5, 5, 5, 5, 5, 6, 6, 6, 6, 6, 6, 6, 6, 6, 6, 6, 6, 6, 6, 6, 6, 6, 6, 6, 6, 6, 6, 6, 6, 6, 6, 6, 6, 6, 6, 6, 6, 7, 7, 7, 7, 7, 7, 7, 7, 7, 7, 7, 7, 7, 7, 7, 7, 7, 7, 7, 7, 7, 7, 7, 7, 7, 7, 7, 7, 7, 7, 7, 7, 7, 7, 7, 7, 7, 7, 7, 7, 7, 7, 7, 7, 7, 7, 7, 7, 7, 7, 7, 7, 7, 7, 7, 7, 7, 7, 7, 7, 7, 7, 7, 7, 8, 8, 8, 8, 8, 8, 8, 8, 8, 8, 8, 8, 8, 8, 8, 8, 8, 8, 8, 8, 8, 8, 8, 8, 8, 8, 8, 8, 8, 8, 8, 8, 8, 8, 8, 8, 8, 8, 8, 8, 8, 8, 8, 8, 8, 8, 8, 8, 8, 8, 8, 8, 8, 8, 8, 8, 8, 8, 8, 8, 8, 8, 8, 8, 8, 8, 8, 8, 8, 8, 8, 8, 8, 8, 8, 8, 8, 8, 8, 8, 8, 8, 8, 8, 8, 8, 8, 8, 8, 8, 8, 8, 8, 8, 8, 8, 8, 8, 8, 8, 8, 8, 8, 8, 8, 8, 8, 8, 8, 8, 8, 8, 8, 8, 8, 8, 8, 8, 8, 8, 8, 8, 8, 8, 8, 8, 8, 8]⟩ : ByteArray) (IntKind.wrap .u8 ((x0 / 2 ^ (min ((16 : Int)).toNat 64)))))))))) else none) else none))) else (if x0 ≥ (256 : Int) then (if (8 : Int) < 0 then none else (if 0 ≤ (IntKind.wrap .u8 ((x0 / 2 ^ (min ((8 : Int)).toNat 64)))) then (if (IntKind.wrap .u8 ((x0 / 2 ^ (min ((8 : Int)).toNat 64)))) < ((⟨#[0, 1, 2, 2, 3, 3, 3, 3, 4, 4, 4, 4, 4, 4, 4, 4, 5, 5, 5, 5, 5, 5, 5, 5, 5, 5, 5, 5, 5, 5, 5, 5, 6, 6, 6, 6, 6, 6, 6, 6, 6, 6, 6, 6, 6, 6, 6, 6, 6, 6, 6, 6, 6, 6, 6, 6, 6, 6, 6, 6, 6, 6, 6, 6, 7, 7, 7, 7, 7, 7, 7, 7, 7, 7, 7, 7, 7, 7, 7, 7, 7, 7, 7, 7, 7, 7, 7, 7, 7, 7, 7, 7, 7, 7, 7, 7, 7, 7, 7, 7, 7, 7, 7, 7, 7, 7, 7, 7, 7, 7, 7, 7, 7, 7, 7, 7, 7, 7, 7, 7, 7, 7, 7, 7, 7, 7, 7, 7, 8, 8, 8, 8, 8, 8, 8, 8, 8, 8, 8, 8, 8, 8, 8, 8, 8, 8, 8, 8, 8, 8, 8, 8, 8, 8, 8, 8, 8, 8, 8, 8, 8, 8, 8, 8, 8, 8, 8, 8, 8, 8, 8, 8, 8, 8, 8, 8, 8, 8, 8, 8, 8, 8, 8, 8, 8, 8, 8, 8, 8, 8, 8, 8, 8, 8, 8, 8, 8, 8, 8, 8, 8, 8, 8, 8, 8, 8, 8, 8, 8, 8, 8, 8, 8, 8, 8, 8, 8, 8, 8, 8, 8, 8, 8, 8, 8, 8, 8, 8, 8, 8, 8, 8, 8, 8, 8, 8, 8, 8, 8, 8, 8, 8, 8, 8, 8, 8, 8, 8, 8, 8, 8, 8, 8, 8, 8, 8]⟩ : ByteArray).size : Int) then (some (wrap64 ((wrap64 (x2 + (8 : Int))) + (wrap64 ((btS (⟨#[0, 1, 2, 2, 3, 3, 3, 3, 4, 4, 4, 4, 4, 4, 4, 4, 5, 5, 5, 5, 5, 5, 5, 5, 5, 5, 5, 5, 5, 5, 5, 5, 6, 6, 6, 6, 6, 6, 6, 6, 6, 6, 6, 6, 6, 6, 6, 6, 6, 6, 6, 6, 6, 6, 6, 6, 6, 6, 6, 6, 6, 6, 6, 6, 7, 7, 7, 7, 7, 7, 7, 7, 7, 7, 7, 7, 7, 7, 7, 7, 7, 7, 7, 7, 7, 7, 7, 7, 7, 7, 7, 7, 7, 7, 7, 7, 7, 7, 7, 7, 7, 7, 7, 7, 7, 7, 7, 7, 7, 7, 7, 7, 7, 7, 7, 7, 7, 7, 7, 7, 7, 7, 7, 7, 7, 7, 7, 7, 8, 8, 8, 8, 8, 8, 8, 8, 8, 8, 8, 8, 8, 8, 8, 8, 8, 8, 8, 8, 8, 8, 8, 8, 8, 8, 8, 8, 8, 8, 8, 8, 8, 8, 8, 8, 8, 8, 8, 8, 8, 8, 8, 8, 8, 8, 8, 8, 8, 8, 8, 8, 8, 8, 8, 8, 8, 8, 8, 8, 8, 8, 8, 8, 8, 8, 8, 8, 8, 8, 8, 8, 8, 8, 8, 8, 8, 8, 8, 8, 8, 8, 8, 8, 8, 8, 8, 8, 8, 8, 8, 8, 8, 8, 8, 8, 8, 8, 8, 8, 8, 8, 8, 8, 8, 8, 8, 8, 8, 8, 8, 8, 8, 8, 8, 8, 8, 8, 8, 8, 8, 8, 8, 8, 8, 8, 8, 8]⟩ : ByteArray) (IntKind.wrap .u8 ((x0 / 2 ^ (min ((8 : Int)).toNat 64)))))))))) else none) else none)) else (if 0 ≤ (IntKind.wrap .u8 (x0)) then (if (IntKind.wrap .u8 (x0)) < ((⟨#[0, 1, 2, 2, 3, 3, 3, 3, 4, 4, 4, 4, 4, 4, 4, 4, 5, 5, 5, 5, 5, 5, 5, 5, 5, 5, 5, 5, 5, 5, 5, 5, 6, 6, 6, 6, 6, 6, 6, 6, 6, 6, 6, 6, 6, 6, 6, 6, 6, 6, 6, 6, 6, 6, 6, 6, 6, 6, 6, 6, 6, 6, 6, 6, 7, 7, 7, 7, 7, 7, 7, 7, 7, 7, 7, 7, 7, 7, 7, 7, 7, 7, 7, 7, 7, 7, 7, 7, 7, 7, 7, 7, 7, 7, 7, 7, 7, 7, 7, 7, 7, 7, 7, 7, 7, 7, 7, 7, 7, 7, 7, 7, 7, 7, 7, 7, 7, 7, 7, 7, 7, 7, 7, 7, 7, 7, 7, 7, 8, 8, 8, 8, 8, 8, 8, 8, 8, 8, 8, 8, 8, 8, 8, 8, 8, 8, 8, 8, 8, 8, 8, 8, 8, 8, 8, 8, 8, 8, 8, 8, 8, 8, 8, 8, 8, 8, 8, 8, 8, 8, 8, 8, 8, 8, 8, 8, 8, 8, 8, 8, 8, 8, 8, 8, 8, 8, 8, 8, 8, 8, 8, 8, 8, 8, 8, 8, 8, 8, 8, 8, 8, 8, 8, 8, 8, 8, 8, 8, 8, 8, 8, 8, 8, 8, 8, 8, 8, 8, 8, 8, 8, 8, 8, 8, 8, 8, 8, 8, 8, 8, 8, 8, 8, 8, 8, 8, 8, 8, 8, 8, 8, 8, 8, 8, 8, 8, 8, 8, 8, 8, 8, 8, 8, 8, 8, 8]⟩ : ByteArray).size : Int) then (some (wrap64 (x2 + (wrap64 ((btS (⟨#[0, 1, 2, 2, 3, 3, 3, 3, 4, 4, 4, 4, 4, 4, 4, 4, 5, 5, 5, 5, 5, 5, 5, 5, 5, 5, 5, 5, 5, 5, 5, 5, 6, 6, 6, 6, 6, 6, 6, 6, 6, 6, 6, 6, 6, 6, 6, 6, 6, 6, 6, 6, 6, 6, 6, 6, 6, 6, 6, 6, 6, 6, 6, 6, 7, 7, 7, 7, 7, 7, 7, 7, 7, 7, 7, 7, 7, 7, 7, 7, 7, 7, 7, 7, 7, 7, 7, 7, 7, 7, 7, 7, 7, 7, 7, 7, 7, 7, 7, 7, 7, 7, 7, 7, 7, 7, 7, 7, 7, 7, 7, 7, 7, 7, 7, 7, 7, 7, 7, 7, 7, 7, 7, 7, 7, 7, 7, 7, 8, 8, 8, 8, 8, 8, 8, 8, 8, 8, 8, 8, 8, 8, 8, 8, 8, 8, 8, 8, 8, 8, 8, 8, 8, 8, 8, 8, 8, 8, 8, 8, 8, 8, 8, 8, 8, 8, 8, 8, 8, 8, 8, 8, 8, 8, 8, 8, 8, 8, 8, 8, 8, 8, 8, 8, 8, 8, 8, 8, 8, 8, 8, 8, 8, 8, 8, 8, 8, 8, 8, 8, 8, 8, 8, 8, 8, 8, 8, 8, 8, 8, 8, 8, 8, 8, 8, 8, 8, 8, 8, 8, 8, 8, 8, 8, 8, 8, 8, 8, 8, 8, 8, 8, 8, 8, 8, 8, 8, 8, 8, 8, 8, 8, 8, 8, 8, 8, 8, 8, 8, 8, 8, 8, 8, 8, 8, 8]⟩ : ByteArray) (IntKind.wrap .u8 (x0)))))))) else none) else none)))
def bits_Len64.nf (k : Nat) (a0 : Int) : Option (Int) := (if a0 ≥ (4294967296 : Int) then (if (32 : Int) < 0 then none else (bits_Len64.j0 k (a0 / 2 ^ (min ((32 : Int)).toNat 64)) (32 : Int))) else (bits_Len64.j0 k a0 (0 : Int)))
noncomputable def bits_Len64.E : Env (Int) := envOf tab Try.f104 false (.int .i64) [] (fun y => y) [] [] [⟨4, ⟨25, [(0, (.int .u64), []), (2, (.int .i64), [])], [], []⟩, fun k y => bits_Len64.j0 k y.1.1 y.1.2.1⟩]
theorem bits_Len64.h1 : obls bits_Len64.E Try.f104 = [⟨(.cons (.cons (.int .u64) (.cons (.int .i64) .nil)) (.cons .nil (.cons .nil .nil))), fun k y => bits_Len64.j0 (k + 1) y.1.1 y.1.2.1, fun k y => bits_Len64.nj0 k y.1.1 y.1.2.1⟩, ⟨(.cons (.cons (.int .u64) (.cons (.int .i64) .nil)) (.cons .nil (.cons .nil .nil))), fun _ y => bits_Len64.j0 0 y.1.1 y.1.2.1, fun _ _ => none⟩] := by kernel_rfl
theorem bits_Len64.h2 : (fun k (x : El (.cons (.int .u64) .nil)) => bits_Len64.nf k x.1) = fun k x => mainK bits_Len64.E Try.f104 (.cons (.int .u64) .nil) k x := by kernel_rfl
theorem len_p32 : (2 : Int) ^ (min ((32 : Int)).toNat 64) = 4294967296 := rfl
theorem len_p16 : (2 : Int) ^ (min ((16 : Int)).toNat 64) = 65536 := rfl
theorem len_p8 : (2 : Int) ^ (min ((8 : Int)).toNat 64) = 256 := rfl
theorem len_w8 (x : Int) : IntKind.wrap .u8 x = x % 256 := rfl
theorem len_bt (s : ByteArray) (i : Int) : btS s i = bt s i := rfl
theorem bits_Len64.bj0 (k : Nat) (x0 : Int) (x2 : Int) : Lo (bits_Len64.j0 (k + 1) x0 x2) (bits_Len64.nj0 k x0 x2) := by
  rw [bits_Len64.j0]
  unfold bits_Len64.nj0
  simp only [len_p32, len_p16, len_p8, len_w8, len_bt]
  try simp only [Bool.false_xor, Bool.true_xor, wu8_64, wu8_u64, byL_nums, btS_bt, nil_tl, beq_decL, beq_decI]
  repeat' first
    | (with_reducible exact lo_refl _)
    | exact lo_none _
    | (with_reducible refine lo_lpos (by first | assumption | decide) ?_)
    | (with_reducible refine lo_lneg (by first | assumption | decide) ?_)
    | (with_reducible refine lo_ite (fun _ => ?_) (fun _ => ?_))
    | (with_reducible refine lo_bind (fun _ => ?_))
    | (with_reducible refine lo_left ?_)
    | (refine lo_neg (by decide) ?_)
    | (refine lo_pos (by first | assumption | omega) ?_)
    | (refine lo_neg (by first | assumption | omega) ?_)
    | (refine lo_trans (fun r h => (bits_Len64.mono_l _) _ _ r h) ?_; rw [bits_Len64.j0]; try simp only [decide_eq_true_eq])
    | (with_reducible refine lo_test (fun _ => by first | assumption | omega | (simp only [List.length_cons, List.length_nil]; omega) | decide) (fun _ => ?_))
    | (with_reducible refine lo_testn (fun _ => by first | assumption | omega) (fun _ => ?_))
    | (with_reducible refine lo_and (fun z => by first | exact z.1 | omega) (fun z => by first | exact z.2 | omega) (fun _ => ?_))
    | exact lo_refl _
    | (with_reducible refine lo_iff (by first | exact Iff.rfl | omega | (simp; done) | decide) (fun _ => ?_) (fun _ => ?_))
    | (with_reducible refine lo_iffn (by first | exact Iff.rfl | omega | (simp; done) | decide) (fun _ => ?_) (fun _ => ?_))
    | refine lo_ite (fun _ => ?_) (fun _ => ?_)
    | refine lo_bind (fun _ => ?_)
    | (refine lo_some ?_; first | rfl | (rw [Bool.false_xor]; rfl) | (rw [Bool.true_xor]; rfl) | (simp only [Bool.and_true]; rfl) | (simp; done))
    | (simp only [Int.zero_sub]; exact lo_refl _)
    | (with_reducible refine lo_lpos (by omega) ?_)
    | (with_reducible refine lo_lneg (by omega) ?_)
    | (with_reducible refine lo_lite (fun _ => ?_) (fun _ => ?_))
    | (with_reducible refine lo_rite (fun _ => ?_) (fun _ => ?_))
  all_goals (exfalso; first | omega | (simp_all; done) | (simp_all; omega))
set_option maxHeartbeats 2000000 in
theorem bits_Len64.bf (k : Nat) (a0 : Int) : Lo (bits_Len64.f k a0) (bits_Len64.nf k a0) := by
  unfold bits_Len64.f bits_Len64.nf
  simp only [len_p32, len_p16, len_p8, len_w8, len_bt]
  try simp only [Bool.false_xor, Bool.true_xor, wu8_64, wu8_u64, byL_nums, btS_bt, nil_tl, beq_decL, beq_decI]
  repeat' first
    | (with_reducible exact lo_refl _)
    | exact lo_none _
    | (with_reducible refine lo_lpos (by first | assumption | decide) ?_)
    | (with_reducible refine lo_lneg (by first | assumption | decide) ?_)
    | (with_reducible refine lo_ite (fun _ => ?_) (fun _ => ?_))
    | (with_reducible refine lo_bind (fun _ => ?_))
    | (with_reducible refine lo_left ?_)
    | (refine lo_neg (by decide) ?_)
    | (refine lo_pos (by first | assumption | omega) ?_)
    | (refine lo_neg (by first | assumption | omega) ?_)
    | (refine lo_trans (fun r h => (bits_Len64.mono_l _) _ _ r h) ?_; rw [bits_Len64.j0]; try simp only [decide_eq_true_eq])
    | (with_reducible refine lo_test (fun _ => by first | assumption | omega | (simp only [List.length_cons, List.length_nil]; omega) | decide) (fun _ => ?_))
    | (with_reducible refine lo_testn (fun _ => by first | assumption | omega) (fun _ => ?_))
    | (with_reducible refine lo_and (fun z => by first | exact z.1 | omega) (fun z => by first | exact z.2 | omega) (fun _ => ?_))
    | exact lo_refl _
    | (with_reducible refine lo_iff (by first | exact Iff.rfl | omega | (simp; done) | decide) (fun _ => ?_) (fun _ => ?_))
    | (with_reducible refine lo_iffn (by first | exact Iff.rfl | omega | (simp; done) | decide) (fun _ => ?_) (fun _ => ?_))
    | refine lo_ite (fun _ => ?_) (fun _ => ?_)
    | refine lo_bind (fun _ => ?_)
    | (refine lo_some ?_; first | rfl | (rw [Bool.false_xor]; rfl) | (rw [Bool.true_xor]; rfl) | (simp only [Bool.and_true]; rfl) | (simp; done))
    | (simp only [Int.zero_sub]; exact lo_refl _)
    | (with_reducible refine lo_lpos (by omega) ?_)
    | (with_reducible refine lo_lneg (by omega) ?_)
    | (with_reducible refine lo_lite (fun _ => ?_) (fun _ => ?_))
    | (with_reducible refine lo_rite (fun _ => ?_) (fun _ => ?_))
  all_goals (exfalso; first | omega | (simp_all; done) | (simp_all; omega))
theorem bits_Len64.al : AllLe (obls bits_Len64.E Try.f104) := by
  rw [bits_Len64.h1]
  exact (.cons (fun k y r h => bits_Len64.bj0 k y.1.1 y.1.2.1 r h) (.cons (fun _ y r h => by simp [bits_Len64.j0] at h) .nil))
theorem bits_Len64.ok : CalleeOk Try.prog 104 bits_Len64.c := fn_ok tabOk mixed (fun _ => rfl) Try.func104 rfl (by kernel_rfl) ok_nil bits_Len64.al (fun k x r h => (congrFun (congrFun bits_Len64.h2 k) x).symm.trans (bits_Len64.bf k _ r h))
def bits_LeadingZeros64.c : Sym.Callee := ⟨(.cons (.int .u64) .nil), (.int .i64), false, Int, fun k x => bits_LeadingZeros64.f k x.1, fun z => z, []⟩
def bits_LeadingZeros64.nf (k : Nat) (a0 : Int) : Option (Int) := ((bits_Len64.f k a0).bind fun t1 => (some (wrap64 ((64 : Int) - t1))))
noncomputable def bits_LeadingZeros64.E : Env (Int) := envOf tab Try.f130 false (.int .i64) [] (fun y => y) [(104, bits_Len64.c)] [] []
theorem bits_LeadingZeros64.h1 : obls bits_LeadingZeros64.E Try.f130 = [] := by kernel_rfl
theorem bits_LeadingZeros64.h2 : (fun k (x : El (.cons (.int .u64) .nil)) => bits_LeadingZeros64.nf k x.1) = fun k x => mainK bits_LeadingZeros64.E Try.f130 (.cons (.int .u64) .nil) k x := by kernel_rfl
set_option maxHeartbeats 2000000 in
theorem bits_LeadingZeros64.bf (k : Nat) (a0 : Int) : Lo (bits_LeadingZeros64.f k a0) (bits_LeadingZeros64.nf k a0) := by
  unfold bits_LeadingZeros64.f bits_LeadingZeros64.nf
  try simp only [Bool.false_xor, Bool.true_xor, wu8_64, wu8_u64, byL_nums, btS_bt, nil_tl, beq_decL, beq_decI]
  repeat' first
    | (with_reducible exact lo_refl _)
    | exact lo_none _
    | (with_reducible refine lo_lpos (by first | assumption | decide) ?_)
    | (with_reducible refine lo_lneg (by first | assumption | decide) ?_)
    | (with_reducible refine lo_ite (fun _ => ?_) (fun _ => ?_))
    | (with_reducible refine lo_bind (fun _ => ?_))
    | (with_reducible refine lo_left ?_)
    | (refine lo_neg (by decide) ?_)
    | (refine lo_pos (by first | assumption | omega) ?_)
    | (refine lo_neg (by first | assumption | omega) ?_)
    | (with_reducible refine lo_test (fun _ => by first | assumption | omega | (simp only [List.length_cons, List.length_nil]; omega) | decide) (fun _ => ?_))
    | (with_reducible refine lo_testn (fun _ => by first | assumption | omega) (fun _ => ?_))
    | (with_reducible refine lo_and (fun z => by first | exact z.1 | omega) (fun z => by first | exact z.2 | omega) (fun _ => ?_))
    | exact lo_refl _
    | (with_reducible refine lo_iff (by first | exact Iff.rfl | omega | (simp; done) | decide) (fun _ => ?_) (fun _ => ?_))
    | (with_reducible refine lo_iffn (by first | exact Iff.rfl | omega | (simp; done) | decide) (fun _ => ?_) (fun _ => ?_))
    | refine lo_ite (fun _ => ?_) (fun _ => ?_)
    | refine lo_bind (fun _ => ?_)
    | (refine lo_some ?_; first | rfl | (rw [Bool.false_xor]; rfl) | (rw [Bool.true_xor]; rfl) | (simp only [Bool.and_true]; rfl) | (simp; done))
    | (simp only [Int.zero_sub]; exact lo_refl _)
    | (with_reducible refine lo_lpos (by omega) ?_)
    | (with_reducible refine lo_lneg (by omega) ?_)
    | (with_reducible refine lo_lite (fun _ => ?_) (fun _ => ?_))
    | (with_reducible refine lo_rite (fun _ => ?_) (fun _ => ?_))
  all_goals (exfalso; first | omega | (simp_all; done) | (simp_all; omega))
theorem bits_LeadingZeros64.al : AllLe (obls bits_LeadingZeros64.E Try.f130) := by
  rw [bits_LeadingZeros64.h1]
  exact .nil
theorem bits_LeadingZeros64.ok : CalleeOk Try.prog 130 bits_LeadingZeros64.c := fn_ok tabOk mixed (fun _ => rfl) Try.func130 rfl (by kernel_rfl) (ok_cons bits_Len64.ok ok_nil) bits_LeadingZeros64.al (fun k x r h => (congrFun (congrFun bits_LeadingZeros64.h2 k) x).symm.trans (bits_LeadingZeros64.bf k _ r h))
def bits_Div64.c : Sym.Callee := ⟨(.cons (.int .u64) (.cons (.int .u64) (.cons (.int .u64) .nil))), (.cons (.int .u64) (.cons (.int .u64) .nil)), true, Int × Int, fun k x => bits_Div64.f k x.1 x.2.1 x.2.2.1, fun z => (z.1, z.2, ()), []⟩
def bits_Div64.nl0 (k : Nat) (x2 : Int) (x8 : Int) (x9 : Int) (x10 : Int) (x11 : Int) (x13 : Int) (x14 : Int) (x15 : Int) (x16 : Int) : Option (Int × Int) := (if x15 ≥ (4294967296 : Int) then (if (IntKind.wrap .u64 (x16 + x9)) ≥ (4294967296 : Int) then (if x9 = 0 then none else (bits_Div64.l1 k x2 x8 x9 x10 x14 (IntKind.wrap .u64 (x15 - (1 : Int))) (IntKind.wrap .u64 ((IntKind.wrap .u64 ((IntKind.wrap .u64 ((IntKind.wrap .u64 (x11 * (4294967296 : Int))) + x13)) - (IntKind.wrap .u64 ((IntKind.wrap .u64 (x15 - (1 : Int))) * x2)))) - (IntKind.wrap .u64 ((IntKind.wrap .u64 (Int.tdiv (IntKind.wrap .u64 ((IntKind.wrap .u64 ((IntKind.wrap .u64 (x11 * (4294967296 : Int))) + x13)) - (IntKind.wrap .u64 ((IntKind.wrap .u64 (x15 - (1 : Int))) * x2)))) x9)) * x9)))) (IntKind.wrap .u64 ((IntKind.wrap .u64 ((IntKind.wrap .u64 (x11 * (4294967296 : Int))) + x13)) - (IntKind.wrap .u64 ((IntKind.wrap .u64 (x15 - (1 : Int))) * x2)))) (IntKind.wrap .u64 (Int.tdiv (IntKind.wrap .u64 ((IntKind.wrap .u64 ((IntKind.wrap .u64 (x11 * (4294967296 : Int))) + x13)) - (IntKind.wrap .u64 ((IntKind.wrap .u64 (x15 - (1 : Int))) * x2)))) x9)))) else (bits_Div64.l0 k x2 x8 x9 x10 x11 x13 x14 (IntKind.wrap .u64 (x15 - (1 : Int))) (IntKind.wrap .u64 (x16 + x9)))) else (if (IntKind.wrap .u64 (x15 * x10)) > (IntKind.wrap .u64 ((IntKind.wrap .u64 ((4294967296 : Int) * x16)) + x13)) then (if (IntKind.wrap .u64 (x16 + x9)) ≥ (4294967296 : Int) then (if x9 = 0 then none else (bits_Div64.l1 k x2 x8 x9 x10 x14 (IntKind.wrap .u64 (x15 - (1 : Int))) (IntKind.wrap .u64 ((IntKind.wrap .u64 ((IntKind.wrap .u64 ((IntKind.wrap .u64 (x11 * (4294967296 : Int))) + x13)) - (IntKind.wrap .u64 ((IntKind.wrap .u64 (x15 - (1 : Int))) * x2)))) - (IntKind.wrap .u64 ((IntKind.wrap .u64 (Int.tdiv (IntKind.wrap .u64 ((IntKind.wrap .u64 ((IntKind.wrap .u64 (x11 * (4294967296 : Int))) + x13)) - (IntKind.wrap .u64 ((IntKind.wrap .u64 (x15 - (1 : Int))) * x2)))) x9)) * x9)))) (IntKind.wrap .u64 ((IntKind.wrap .u64 ((IntKind.wrap .u64 (x11 * (4294967296 : Int))) + x13)) - (IntKind.wrap .u64 ((IntKind.wrap .u64 (x15 - (1 : Int))) * x2)))) (IntKind.wrap .u64 (Int.tdiv (IntKind.wrap .u64 ((IntKind.wrap .u64 ((IntKind.wrap .u64 (x11 * (4294967296 : Int))) + x13)) - (IntKind.wrap .u64 ((IntKind.wrap .u64 (x15 - (1 : Int))) * x2)))) x9)))) else (bits_Div64.l0 k x2 x8 x9 x10 x11 x13 x14 (IntKind.wrap .u64 (x15 - (1 : Int))) (IntKind.wrap .u64 (x16 + x9)))) else (if x9 = 0 then none else (bits_Div64.l1 k x2 x8 x9 x10 x14 x15 (IntKind.wrap .u64 ((IntKind.wrap .u64 ((IntKind.wrap .u64 ((IntKind.wrap .u64 (x11 * (4294967296 : Int))) + x13)) - (IntKind.wrap .u64 (x15 * x2)))) - (IntKind.wrap .u64 ((IntKind.wrap .u64 (Int.tdiv (IntKind.wrap .u64 ((IntKind.wrap .u64 ((IntKind.wrap .u64 (x11 * (4294967296 : Int))) + x13)) - (IntKind.wrap .u64 (x15 * x2)))) x9)) * x9)))) (IntKind.wrap .u64 ((IntKind.wrap .u64 ((IntKind.wrap .u64 (x11 * (4294967296 : Int))) + x13)) - (IntKind.wrap .u64 (x15 * x2)))) (IntKind.wrap .u64 (Int.tdiv (IntKind.wrap .u64 ((IntKind.wrap .u64 ((IntKind.wrap .u64 (x11 * (4294967296 : Int))) + x13)) - (IntKind.wrap .u64 (x15 * x2)))) x9))))))
def bits_Div64.nl1 (k : Nat) (x2 : Int) (x8 : Int) (x9 : Int) (x10 : Int) (x14 : Int) (x15 : Int) (x16 : Int) (x17 : Int) (x18 : Int) : Option (Int × Int) := (if x18 ≥ (4294967296 : Int) then (if (IntKind.wrap .u64 (x16 + x9)) ≥ (4294967296 : Int) then (if x8 < 0 then none else (some ((IntKind.wrap .u64 ((IntKind.wrap .u64 (x15 * (4294967296 : Int))) + (IntKind.wrap .u64 (x18 - (1 : Int))))), ((IntKind.wrap .u64 ((IntKind.wrap .u64 ((IntKind.wrap .u64 (x17 * (4294967296 : Int))) + x14)) - (IntKind.wrap .u64 ((IntKind.wrap .u64 (x18 - (1 : Int))) * x2)))) / 2 ^ (min (x8).toNat 64))))) else (bits_Div64.l1 k x2 x8 x9 x10 x14 x15 (IntKind.wrap .u64 (x16 + x9)) x17 (IntKind.wrap .u64 (x18 - (1 : Int))))) else (if (IntKind.wrap .u64 (x18 * x10)) > (IntKind.wrap .u64 ((IntKind.wrap .u64 ((4294967296 : Int) * x16)) + x14)) then (if (IntKind.wrap .u64 (x16 + x9)) ≥ (4294967296 : Int) then (if x8 < 0 then none else (some ((IntKind.wrap .u64 ((IntKind.wrap .u64 (x15 * (4294967296 : Int))) + (IntKind.wrap .u64 (x18 - (1 : Int))))), ((IntKind.wrap .u64 ((IntKind.wrap .u64 ((IntKind.wrap .u64 (x17 * (4294967296 : Int))) + x14)) - (IntKind.wrap .u64 ((IntKind.wrap .u64 (x18 - (1 : Int))) * x2)))) / 2 ^ (min (x8).toNat 64))))) else (bits_Div64.l1 k x2 x8 x9 x10 x14 x15 (IntKind.wrap .u64 (x16 + x9)) x17 (IntKind.wrap .u64 (x18 - (1 : Int))))) else (if x8 < 0 then none else (some ((IntKind.wrap .u64 ((IntKind.wrap .u64 (x15 * (4294967296 : Int))) + x18)), ((IntKind.wrap .u64 ((IntKind.wrap .u64 ((IntKind.wrap .u64 (x17 * (4294967296 : Int))) + x14)) - (IntKind.wrap .u64 (x18 * x2)))) / 2 ^ (min (x8).toNat 64)))))))
def bits_Div64.nf (k : Nat) (a0 : Int) (a1 : Int) (a2 : Int) : Option (Int × Int) := (if a2 = (0 : Int) then none else (if a2 ≤ a0 then none else (if a0 = (0 : Int) then (if a2 = 0 then none else (if a2 = 0 then none else (some ((IntKind.wrap .u64 (Int.tdiv a1 a2)), (Int.tmod a1 a2))))) else ((bits_LeadingZeros64.f k a2).bind fun t1 => (if (IntKind.wrap .u64 (t1)) < 0 then none else (if (32 : Int) < 0 then none else (if (IntKind.wrap .u64 (t1)) < 0 then none else (if (IntKind.wrap .u64 ((64 : Int) - (IntKind.wrap .u64 (t1)))) < 0 then none else (if (IntKind.wrap .u64 (t1)) < 0 then none else (if (32 : Int) < 0 then none else (if ((IntKind.wrap .u64 (a2 * 2 ^ (min ((IntKind.wrap .u64 (t1))).toNat 64))) / 2 ^ (min ((32 : Int)).toNat 64)) = 0 then none else (bits_Div64.l0 k (IntKind.wrap .u64 (a2 * 2 ^ (min ((IntKind.wrap .u64 (t1))).toNat 64))) (IntKind.wrap .u64 (t1)) ((IntKind.wrap .u64 (a2 * 2 ^ (min ((IntKind.wrap .u64 (t1))).toNat 64))) / 2 ^ (min ((32 : Int)).toNat 64)) (Go.bits .and .u64 (IntKind.wrap .u64 (a2 * 2 ^ (min ((IntKind.wrap .u64 (t1))).toNat 64))) (4294967295 : Int)) (Go.bits .or .u64 (IntKind.wrap .u64 (a0 * 2 ^ (min ((IntKind.wrap .u64 (t1))).toNat 64))) (a1 / 2 ^ (min ((IntKind.wrap .u64 ((64 : Int) - (IntKind.wrap .u64 (t1))))).toNat 64))) ((IntKind.wrap .u64 (a1 * 2 ^ (min ((IntKind.wrap .u64 (t1))).toNat 64))) / 2 ^ (min ((32 : Int)).toNat 64)) (Go.bits .and .u64 (IntKind.wrap .u64 (a1 * 2 ^ (min ((IntKind.wrap .u64 (t1))).toNat 64))) (4294967295 : Int)) (IntKind.wrap .u64 (Int.tdiv (Go.bits .or .u64 (IntKind.wrap .u64 (a0 * 2 ^ (min ((IntKind.wrap .u64 (t1))).toNat 64))) (a1 / 2 ^ (min ((IntKind.wrap .u64 ((64 : Int) - (IntKind.wrap .u64 (t1))))).toNat 64))) ((IntKind.wrap .u64 (a2 * 2 ^ (min ((IntKind.wrap .u64 (t1))).toNat 64))) / 2 ^ (min ((32 : Int)).toNat 64)))) (IntKind.wrap .u64 ((Go.bits .or .u64 (IntKind.wrap .u64 (a0 * 2 ^ (min ((IntKind.wrap .u64 (t1))).toNat 64))) (a1 / 2 ^ (min ((IntKind.wrap .u64 ((64 : Int) - (IntKind.wrap .u64 (t1))))).toNat 64))) - (IntKind.wrap .u64 ((IntKind.wrap .u64 (Int.tdiv (Go.bits .or .u64 (IntKind.wrap .u64 (a0 * 2 ^ (min ((IntKind.wrap .u64 (t1))).toNat 64))) (a1 / 2 ^ (min ((IntKind.wrap .u64 ((64 : Int) - (IntKind.wrap .u64 (t1))))).toNat 64))) ((IntKind.wrap .u64 (a2 * 2 ^ (min ((IntKind.wrap .u64 (t1))).toNat 64))) / 2 ^ (min ((32 : Int)).toNat 64)))) * ((IntKind.wrap .u64 (a2 * 2 ^ (min ((IntKind.wrap .u64 (t1))).toNat 64))) / 2 ^ (min ((32 : Int)).toNat 64))))))))))))))))))
noncomputable def bits_Div64.E : Env (Int × Int) := envOf tab Try.f116 true (.cons (.int .u64) (.cons (.int .u64) .nil)) [] (fun y => (y.1, y.2.1)) [(130, bits_LeadingZeros64.c)] [⟨17, ⟨135, [(2, (.int .u64), []), (8, (.int .u64), []), (9, (.int .u64), []), (10, (.int .u64), []), (11, (.int .u64), []), (13, (.int .u64), []), (14, (.int .u64), []), (15, (.int .u64), []), (16, (.int .u64), [])], [], []⟩, fun k y => bits_Div64.l0 k y.1.1 y.1.2.1 y.1.2.2.1 y.1.2.2.2.1 y.1.2.2.2.2.1 y.1.2.2.2.2.2.1 y.1.2.2.2.2.2.2.1 y.1.2.2.2.2.2.2.2.1 y.1.2.2.2.2.2.2.2.2.1⟩, ⟨24, ⟨135, [(2, (.int .u64), []), (8, (.int .u64), []), (9, (.int .u64), []), (10, (.int .u64), []), (14, (.int .u64), []), (15, (.int .u64), []), (16, (.int .u64), []), (17, (.int .u64), []), (18, (.int .u64), [])], [], []⟩, fun k y => bits_Div64.l1 k y.1.1 y.1.2.1 y.1.2.2.1 y.1.2.2.2.1 y.1.2.2.2.2.1 y.1.2.2.2.2.2.1 y.1.2.2.2.2.2.2.1 y.1.2.2.2.2.2.2.2.1 y.1.2.2.2.2.2.2.2.2.1⟩] []
theorem bits_Div64.h1 : obls bits_Div64.E Try.f116 = [⟨(.cons (.cons (.int .u64) (.cons (.int .u64) (.cons (.int .u64) (.cons (.int .u64) (.cons (.int .u64) (.cons (.int .u64) (.cons (.int .u64) (.cons (.int .u64) (.cons (.int .u64) .nil))))))))) (.cons .nil (.cons .nil .nil))), fun k y => bits_Div64.l0 (k + 1) y.1.1 y.1.2.1 y.1.2.2.1 y.1.2.2.2.1 y.1.2.2.2.2.1 y.1.2.2.2.2.2.1 y.1.2.2.2.2.2.2.1 y.1.2.2.2.2.2.2.2.1 y.1.2.2.2.2.2.2.2.2.1, fun k y => bits_Div64.nl0 k y.1.1 y.1.2.1 y.1.2.2.1 y.1.2.2.2.1 y.1.2.2.2.2.1 y.1.2.2.2.2.2.1 y.1.2.2.2.2.2.2.1 y.1.2.2.2.2.2.2.2.1 y.1.2.2.2.2.2.2.2.2.1⟩, ⟨(.cons (.cons (.int .u64) (.cons (.int .u64) (.cons (.int .u64) (.cons (.int .u64) (.cons (.int .u64) (.cons (.int .u64) (.cons (.int .u64) (.cons (.int .u64) (.cons (.int .u64) .nil))))))))) (.cons .nil (.cons .nil .nil))), fun _ y => bits_Div64.l0 0 y.1.1 y.1.2.1 y.1.2.2.1 y.1.2.2.2.1 y.1.2.2.2.2.1 y.1.2.2.2.2.2.1 y.1.2.2.2.2.2.2.1 y.1.2.2.2.2.2.2.2.1 y.1.2.2.2.2.2.2.2.2.1, fun _ _ => none⟩, ⟨(.cons (.cons (.int .u64) (.cons (.int .u64) (.cons (.int .u64) (.cons (.int .u64) (.cons (.int .u64) (.cons (.int .u64) (.cons (.int .u64) (.cons (.int .u64) (.cons (.int .u64) .nil))))))))) (.cons .nil (.cons .nil .nil))), fun k y => bits_Div64.l1 (k + 1) y.1.1 y.1.2.1 y.1.2.2.1 y.1.2.2.2.1 y.1.2.2.2.2.1 y.1.2.2.2.2.2.1 y.1.2.2.2.2.2.2.1 y.1.2.2.2.2.2.2.2.1 y.1.2.2.2.2.2.2.2.2.1, fun k y => bits_Div64.nl1 k y.1.1 y.1.2.1 y.1.2.2.1 y.1.2.2.2.1 y.1.2.2.2.2.1 y.1.2.2.2.2.2.1 y.1.2.2.2.2.2.2.1 y.1.2.2.2.2.2.2.2.1 y.1.2.2.2.2.2.2.2.2.1⟩, ⟨(.cons (.cons (.int .u64) (.cons (.int .u64) (.cons (.int .u64) (.cons (.int .u64) (.cons (.int .u64) (.cons (.int .u64) (.cons (.int .u64) (.cons (.int .u64) (.cons (.int .u64) .nil))))))))) (.cons .nil (.cons .nil .nil))), fun _ y => bits_Div64.l1 0 y.1.1 y.1.2.1 y.1.2.2.1 y.1.2.2.2.1 y.1.2.2.2.2.1 y.1.2.2.2.2.2.1 y.1.2.2.2.2.2.2.1 y.1.2.2.2.2.2.2.2.1 y.1.2.2.2.2.2.2.2.2.1, fun _ _ => none⟩] := by kernel_rfl
theorem bits_Div64.h2 : (fun k (x : El (.cons (.int .u64) (.cons (.int .u64) (.cons (.int .u64) .nil)))) => bits_Div64.nf k x.1 x.2.1 x.2.2.1) = fun k x => mainK bits_Div64.E Try.f116 (.cons (.int .u64) (.cons (.int .u64) (.cons (.int .u64) .nil))) k x := by kernel_rfl
theorem bits_Div64.bl0 (k : Nat) (x2 : Int) (x8 : Int) (x9 : Int) (x10 : Int) (x11 : Int) (x13 : Int) (x14 : Int) (x15 : Int) (x16 : Int) : Lo (bits_Div64.l0 (k + 1) x2 x8 x9 x10 x11 x13 x14 x15 x16) (bits_Div64.nl0 k x2 x8 x9 x10 x11 x13 x14 x15 x16) := by
  rw [bits_Div64.l0]
  unfold bits_Div64.nl0
  try simp only [Bool.false_xor, Bool.true_xor, wu8_64, wu8_u64, byL_nums, btS_bt, nil_tl, beq_decL, beq_decI]
  repeat' first
    | (with_reducible exact lo_refl _)
    | exact lo_none _
    | (with_reducible refine lo_lpos (by first | assumption | decide) ?_)
    | (with_reducible refine lo_lneg (by first | assumption | decide) ?_)
    | (with_reducible refine lo_ite (fun _ => ?_) (fun _ => ?_))
    | (with_reducible refine lo_bind (fun _ => ?_))
    | (with_reducible refine lo_left ?_)
    | (refine lo_neg (by decide) ?_)
    | (refine lo_pos (by first | assumption | omega) ?_)
    | (refine lo_neg (by first | assumption | omega) ?_)
    | (refine lo_trans (fun r h => (bits_Div64.mono_l _).1 _ _ _ _ _ _ _ _ r h) ?_; rw [bits_Div64.j2]; try simp only [decide_eq_true_eq])
    | (refine lo_trans (fun r h => (bits_Div64.mono_l _).2.2.1 _ _ _ _ _ _ _ _ _ _ r h) ?_; rw [bits_Div64.j4]; try simp only [decide_eq_true_eq])
    | (refine lo_trans (fun r h => (bits_Div64.mono_l _).2.2.2.2 _ _ _ _ _ _ _ _ _ _ r h) ?_; rw [bits_Div64.j1]; try simp only [decide_eq_true_eq])
    | (with_reducible refine lo_test (fun _ => by first | assumption | omega | (simp only [List.length_cons, List.length_nil]; omega) | decide) (fun _ => ?_))
    | (with_reducible refine lo_testn (fun _ => by first | assumption | omega) (fun _ => ?_))
    | (with_reducible refine lo_and (fun z => by first | exact z.1 | omega) (fun z => by first | exact z.2 | omega) (fun _ => ?_))
    | exact lo_refl _
    | (with_reducible refine lo_iff (by first | exact Iff.rfl | omega | (simp; done) | decide) (fun _ => ?_) (fun _ => ?_))
    | (with_reducible refine lo_iffn (by first | exact Iff.rfl | omega | (simp; done) | decide) (fun _ => ?_) (fun _ => ?_))
    | refine lo_ite (fun _ => ?_) (fun _ => ?_)
    | refine lo_bind (fun _ => ?_)
    | (refine lo_some ?_; first | rfl | (rw [Bool.false_xor]; rfl) | (rw [Bool.true_xor]; rfl) | (simp only [Bool.and_true]; rfl) | (simp; done))
    | (simp only [Int.zero_sub]; exact lo_refl _)
    | (with_reducible refine lo_lpos (by omega) ?_)
    | (with_reducible refine lo_lneg (by omega) ?_)
    | (with_reducible refine lo_lite (fun _ => ?_) (fun _ => ?_))
    | (with_reducible refine lo_rite (fun _ => ?_) (fun _ => ?_))
  all_goals (exfalso; first | omega | (simp_all; done) | (simp_all; omega))
theorem bits_Div64.bl1 (k : Nat) (x2 : Int) (x8 : Int) (x9 : Int) (x10 : Int) (x14 : Int) (x15 : Int) (x16 : Int) (x17 : Int) (x18 : Int) : Lo (bits_Div64.l1 (k + 1) x2 x8 x9 x10 x14 x15 x16 x17 x18) (bits_Div64.nl1 k x2 x8 x9 x10 x14 x15 x16 x17 x18) := by
  rw [bits_Div64.l1]
  unfold bits_Div64.nl1
  try simp only [Bool.false_xor, Bool.true_xor, wu8_64, wu8_u64, byL_nums, btS_bt, nil_tl, beq_decL, beq_decI]
  repeat' first
    | (with_reducible exact lo_refl _)
    | exact lo_none _
    | (with_reducible refine lo_lpos (by first | assumption | decide) ?_)
    | (with_reducible refine lo_lneg (by first | assumption | decide) ?_)
    | (with_reducible refine lo_ite (fun _ => ?_) (fun _ => ?_))
    | (with_reducible refine lo_bind (fun _ => ?_))
    | (with_reducible refine lo_left ?_)
    | (refine lo_neg (by decide) ?_)
    | (refine lo_pos (by first | assumption | omega) ?_)
    | (refine lo_neg (by first | assumption | omega) ?_)
    | (refine lo_trans (fun r h => (bits_Div64.mono_l _).1 _ _ _ _ _ _ _ _ r h) ?_; rw [bits_Div64.j2]; try simp only [decide_eq_true_eq])
    | (refine lo_trans (fun r h => (bits_Div64.mono_l _).2.2.1 _ _ _ _ _ _ _ _ _ _ r h) ?_; rw [bits_Div64.j4]; try simp only [decide_eq_true_eq])
    | (refine lo_trans (fun r h => (bits_Div64.mono_l _).2.2.2.2 _ _ _ _ _ _ _ _ _ _ r h) ?_; rw [bits_Div64.j1]; try simp only [decide_eq_true_eq])
    | (with_reducible refine lo_test (fun _ => by first | assumption | omega | (simp only [List.length_cons, List.length_nil]; omega) | decide) (fun _ => ?_))
    | (with_reducible refine lo_testn (fun _ => by first | assumption | omega) (fun _ => ?_))
    | (with_reducible refine lo_and (fun z => by first | exact z.1 | omega) (fun z => by first | exact z.2 | omega) (fun _ => ?_))
    | exact lo_refl _
    | (with_reducible refine lo_iff (by first | exact Iff.rfl | omega | (simp; done) | decide) (fun _ => ?_) (fun _ => ?_))
    | (with_reducible refine lo_iffn (by first | exact Iff.rfl | omega | (simp; done) | decide) (fun _ => ?_) (fun _ => ?_))
    | refine lo_ite (fun _ => ?_) (fun _ => ?_)
    | refine lo_bind (fun _ => ?_)
    | (refine lo_some ?_; first | rfl | (rw [Bool.false_xor]; rfl) | (rw [Bool.true_xor]; rfl) | (simp only [Bool.and_true]; rfl) | (simp; done))
    | (simp only [Int.zero_sub]; exact lo_refl _)
    | (with_reducible refine lo_lpos (by omega) ?_)
    | (with_reducible refine lo_lneg (by omega) ?_)
    | (with_reducible refine lo_lite (fun _ => ?_) (fun _ => ?_))
    | (with_reducible refine lo_rite (fun _ => ?_) (fun _ => ?_))
  all_goals (exfalso; first | omega | (simp_all; done) | (simp_all; omega))
set_option maxHeartbeats 2000000 in
theorem bits_Div64.bf (k : Nat) (a0 : Int) (a1 : Int) (a2 : Int) : Lo (bits_Div64.f k a0 a1 a2) (bits_Div64.nf k a0 a1 a2) := by
  unfold bits_Div64.f bits_Div64.nf
  try simp only [Bool.false_xor, Bool.true_xor, wu8_64, wu8_u64, byL_nums, btS_bt, nil_tl, beq_decL, beq_decI]
  repeat' first
    | (with_reducible exact lo_refl _)
    | exact lo_none _
    | (with_reducible refine lo_lpos (by first | assumption | decide) ?_)
    | (with_reducible refine lo_lneg (by first | assumption | decide) ?_)
    | (with_reducible refine lo_ite (fun _ => ?_) (fun _ => ?_))
    | (with_reducible refine lo_bind (fun _ => ?_))
    | (with_reducible refine lo_left ?_)
    | (refine lo_neg (by decide) ?_)
    | (refine lo_pos (by first | assumption | omega) ?_)
    | (refine lo_neg (by first | assumption | omega) ?_)
    | (refine lo_trans (fun r h => (bits_Div64.mono_l _).1 _ _ _ _ _ _ _ _ r h) ?_; rw [bits_Div64.j2]; try simp only [decide_eq_true_eq])
    | (refine lo_trans (fun r h => (bits_Div64.mono_l _).2.2.1 _ _ _ _ _ _ _ _ _ _ r h) ?_; rw [bits_Div64.j4]; try simp only [decide_eq_true_eq])
    | (refine lo_trans (fun r h => (bits_Div64.mono_l _).2.2.2.2 _ _ _ _ _ _ _ _ _ _ r h) ?_; rw [bits_Div64.j1]; try simp only [decide_eq_true_eq])
    | (with_reducible refine lo_test (fun _ => by first | assumption | omega | (simp only [List.length_cons, List.length_nil]; omega) | decide) (fun _ => ?_))
    | (with_reducible refine lo_testn (fun _ => by first | assumption | omega) (fun _ => ?_))
    | (with_reducible refine lo_and (fun z => by first | exact z.1 | omega) (fun z => by first | exact z.2 | omega) (fun _ => ?_))
    | exact lo_refl _
    | (with_reducible refine lo_iff (by first | exact Iff.rfl | omega | (simp; done) | decide) (fun _ => ?_) (fun _ => ?_))
    | (with_reducible refine lo_iffn (by first | exact Iff.rfl | omega | (simp; done) | decide) (fun _ => ?_) (fun _ => ?_))
    | refine lo_ite (fun _ => ?_) (fun _ => ?_)
    | refine lo_bind (fun _ => ?_)
    | (refine lo_some ?_; first | rfl | (rw [Bool.false_xor]; rfl) | (rw [Bool.true_xor]; rfl) | (simp only [Bool.and_true]; rfl) | (simp; done))
    | (simp only [Int.zero_sub]; exact lo_refl _)
    | (with_reducible refine lo_lpos (by omega) ?_)
    | (with_reducible refine lo_lneg (by omega) ?_)
    | (with_reducible refine lo_lite (fun _ => ?_) (fun _ => ?_))
    | (with_reducible refine lo_rite (fun _ => ?_) (fun _ => ?_))
  all_goals (exfalso; first | omega | (simp_all; done) | (simp_all; omega))
theorem bits_Div64.al : AllLe (obls bits_Div64.E Try.f116) := by
  rw [bits_Div64.h1]
  exact (.cons (fun k y r h => bits_Div64.bl0 k y.1.1 y.1.2.1 y.1.2.2.1 y.1.2.2.2.1 y.1.2.2.2.2.1 y.1.2.2.2.2.2.1 y.1.2.2.2.2.2.2.1 y.1.2.2.2.2.2.2.2.1 y.1.2.2.2.2.2.2.2.2.1 r h) (.cons (fun _ y r h => by simp [bits_Div64.l0] at h) (.cons (fun k y r h => bits_Div64.bl1 k y.1.1 y.1.2.1 y.1.2.2.1 y.1.2.2.2.1 y.1.2.2.2.2.1 y.1.2.2.2.2.2.1 y.1.2.2.2.2.2.2.1 y.1.2.2.2.2.2.2.2.1 y.1.2.2.2.2.2.2.2.2.1 r h) (.cons (fun _ y r h => by simp [bits_Div64.l1] at h) .nil))))
theorem bits_Div64.ok : CalleeOk Try.prog 116 bits_Div64.c := fn_ok tabOk mixed (fun _ => rfl) Try.func116 rfl (by kernel_rfl) (ok_cons bits_LeadingZeros64.ok ok_nil) bits_Div64.al (fun k x r h => (congrFun (congrFun bits_Div64.h2 k) x).symm.trans (bits_Div64.bf k _ _ _ r h))
def half_Over.c : Sym.Callee := ⟨(.cons (.cons (.int .u64) (.cons (.int .u64) .nil)) (.cons (.int .u64) .nil)), (.cons (.int .u64) (.cons (.int .u64) (.cons (.int .i64) .nil))), true, Int × Int × Int, fun k x => half_Over.f k x.1.1 x.1.2.1 x.2.1, fun z => (z.1, z.2.1, z.2.2, ()), []⟩
def half_Over.nf (k : Nat) (a0_0 : Int) (a0_1 : Int) (a1 : Int) : Option (Int × Int × Int) := (if a1 = (0 : Int) then (some ((0 : Int), (0 : Int), (5 : Int))) else (if 0 ≤ (0 : Int) then (if (0 : Int) < ((2 : Nat) : Int) then (if a0_0 ≥ a1 then (some ((0 : Int), (0 : Int), (4 : Int))) else (if 0 ≤ (0 : Int) then (if (0 : Int) < ((2 : Nat) : Int) then (if 0 ≤ (1 : Int) then (if (1 : Int) < ((2 : Nat) : Int) then ((bits_Div64.f k a0_0 a0_1 a1).bind fun t1 => (some (t1.1, t1.2, (0 : Int)))) else none) else none) else none) else none)) else none) else none))
noncomputable def half_Over.E : Env (Int × Int × Int) := envOf tab Try.f86 true (.cons (.int .u64) (.cons (.int .u64) (.cons (.int .i64) .nil))) [] (fun y => (y.1, y.2.1, y.2.2.1)) [(116, bits_Div64.c)] [] []
theorem half_Over.h1 : obls half_Over.E Try.f86 = [] := by kernel_rfl
theorem half_Over.h2 : (fun k (x : El (.cons (.cons (.int .u64) (.cons (.int .u64) .nil)) (.cons (.int .u64) .nil))) => half_Over.nf k x.1.1 x.1.2.1 x.2.1) = fun k x => mainK half_Over.E Try.f86 (.cons (.cons (.int .u64) (.cons (.int .u64) .nil)) (.cons (.int .u64) .nil)) k x := by kernel_rfl
set_option maxHeartbeats 2000000 in
theorem half_Over.bf (k : Nat) (a0_0 : Int) (a0_1 : Int) (a1 : Int) : Lo (half_Over.f k a0_0 a0_1 a1) (half_Over.nf k a0_0 a0_1 a1) := by
  unfold half_Over.f half_Over.nf
  try simp only [Bool.false_xor, Bool.true_xor, wu8_64, wu8_u64, byL_nums, btS_bt, nil_tl, beq_decL, beq_decI]
  repeat' first
    | (with_reducible exact lo_refl _)
    | exact lo_none _
    | (with_reducible refine lo_lpos (by first | assumption | decide) ?_)
    | (with_reducible refine lo_lneg (by first | assumption | decide) ?_)
    | (with_reducible refine lo_ite (fun _ => ?_) (fun _ => ?_))
    | (with_reducible refine lo_bind (fun _ => ?_))
    | (with_reducible refine lo_left ?_)
    | (refine lo_neg (by decide) ?_)
    | (refine lo_pos (by first | assumption | omega) ?_)
    | (refine lo_neg (by first | assumption | omega) ?_)
    | (with_reducible refine lo_test (fun _ => by first | assumption | omega | (simp only [List.length_cons, List.length_nil]; omega) | decide) (fun _ => ?_))
    | (with_reducible refine lo_testn (fun _ => by first | assumption | omega) (fun _ => ?_))
    | (with_reducible refine lo_and (fun z => by first | exact z.1 | omega) (fun z => by first | exact z.2 | omega) (fun _ => ?_))
    | exact lo_refl _
    | (with_reducible refine lo_iff (by first | exact Iff.rfl | omega | (simp; done) | decide) (fun _ => ?_) (fun _ => ?_))
    | (with_reducible refine lo_iffn (by first | exact Iff.rfl | omega | (simp; done) | decide) (fun _ => ?_) (fun _ => ?_))
    | refine lo_ite (fun _ => ?_) (fun _ => ?_)
    | refine lo_bind (fun _ => ?_)
    | (refine lo_some ?_; first | rfl | (rw [Bool.false_xor]; rfl) | (rw [Bool.true_xor]; rfl) | (simp only [Bool.and_true]; rfl) | (simp; done))
    | (simp only [Int.zero_sub]; exact lo_refl _)
    | (with_reducible refine lo_lpos (by omega) ?_)
    | (with_reducible refine lo_lneg (by omega) ?_)
    | (with_reducible refine lo_lite (fun _ => ?_) (fun _ => ?_))
    | (with_reducible refine lo_rite (fun _ => ?_) (fun _ => ?_))
  all_goals (exfalso; first | omega | (simp_all; done) | (simp_all; omega))
theorem half_Over.al : AllLe (obls half_Over.E Try.f86) := by
  rw [half_Over.h1]
  exact .nil
theorem half_Over.ok : CalleeOk Try.prog 86 half_Over.c := fn_ok tabOk mixed (fun _ => rfl) Try.func86 rfl (by kernel_rfl) (ok_cons bits_Div64.ok ok_nil) half_Over.al (fun k x r h => (congrFun (congrFun half_Over.h2 k) x).symm.trans (half_Over.bf k _ _ _ r h))
def half_up.c : Sym.Callee := ⟨(.cons (.int .u64) (.cons (.int .u64) (.cons (.int .u64) .nil))), .bool, false, Bool, fun k x => half_up.f x.1 x.2.1 x.2.2.1, fun z => z, []⟩
def half_up.nf (k : Nat) (a0 : Int) (a1 : Int) (a2 : Int) : Option (Bool) := (if a1 > (IntKind.wrap .u64 (a2 - a1)) then (some true) else (if a1 = (IntKind.wrap .u64 (a2 - a1)) then (if (2 : Int) = 0 then none else (some (xor false (decide ((Int.tmod a0 (2 : Int)) = (1 : Int)))))) else (some false)))
noncomputable def half_up.E : Env (Bool) := envOf tab Try.f87 false .bool [] (fun y => y) [] [] []
theorem half_up.h1 : obls half_up.E Try.f87 = [] := by kernel_rfl
theorem half_up.h2 : (fun k (x : El (.cons (.int .u64) (.cons (.int .u64) (.cons (.int .u64) .nil)))) => half_up.nf k x.1 x.2.1 x.2.2.1) = fun k x => mainK half_up.E Try.f87 (.cons (.int .u64) (.cons (.int .u64) (.cons (.int .u64) .nil))) k x := by kernel_rfl
set_option maxHeartbeats 2000000 in
theorem half_up.bf (k : Nat) (a0 : Int) (a1 : Int) (a2 : Int) : Lo (half_up.f a0 a1 a2) (half_up.nf k a0 a1 a2) := by
  unfold half_up.f half_up.nf
  try simp only [Bool.false_xor, Bool.true_xor, wu8_64, wu8_u64, byL_nums, btS_bt, nil_tl, beq_decL, beq_decI]
  repeat' first
    | (with_reducible exact lo_refl _)
    | exact lo_none _
    | (with_reducible refine lo_lpos (by first | assumption | decide) ?_)
    | (with_reducible refine lo_lneg (by first | assumption | decide) ?_)
    | (with_reducible refine lo_ite (fun _ => ?_) (fun _ => ?_))
    | (with_reducible refine lo_bind (fun _ => ?_))
    | (with_reducible refine lo_left ?_)
    | (refine lo_neg (by decide) ?_)
    | (refine lo_pos (by first | assumption | omega) ?_)
    | (refine lo_neg (by first | assumption | omega) ?_)
    | (with_reducible refine lo_test (fun _ => by first | assumption | omega | (simp only [List.length_cons, List.length_nil]; omega) | decide) (fun _ => ?_))
    | (with_reducible refine lo_testn (fun _ => by first | assumption | omega) (fun _ => ?_))
    | (with_reducible refine lo_and (fun z => by first | exact z.1 | omega) (fun z => by first | exact z.2 | omega) (fun _ => ?_))
    | exact lo_refl _
    | (with_reducible refine lo_iff (by first | exact Iff.rfl | omega | (simp; done) | decide) (fun _ => ?_) (fun _ => ?_))
    | (with_reducible refine lo_iffn (by first | exact Iff.rfl | omega | (simp; done) | decide) (fun _ => ?_) (fun _ => ?_))
    | refine lo_ite (fun _ => ?_) (fun _ => ?_)
    | refine lo_bind (fun _ => ?_)
    | (refine lo_some ?_; first | rfl | (rw [Bool.false_xor]; rfl) | (rw [Bool.true_xor]; rfl) | (simp only [Bool.and_true]; rfl) | (simp; done))
    | (simp only [Int.zero_sub]; exact lo_refl _)
    | (with_reducible refine lo_lpos (by omega) ?_)
    | (with_reducible refine lo_lneg (by omega) ?_)
    | (with_reducible refine lo_lite (fun _ => ?_) (fun _ => ?_))
    | (with_reducible refine lo_rite (fun _ => ?_) (fun _ => ?_))
  all_goals (exfalso; first | omega | (simp_all; done) | (simp_all; omega))
theorem half_up.al : AllLe (obls half_up.E Try.f87) := by
  rw [half_up.h1]
  exact .nil
theorem half_up.ok : CalleeOk Try.prog 87 half_up.c := fn_ok tabOk mixed (fun _ => rfl) Try.func87 rfl (by kernel_rfl) ok_nil half_up.al (fun k x r h => (congrFun (congrFun half_up.h2 k) x).symm.trans (half_up.bf k _ _ _ r h))
def half_Near.c : Sym.Callee := ⟨(.cons (.cons (.int .u64) (.cons (.int .u64) .nil)) (.cons (.int .u64) .nil)), (.cons (.int .u64) (.cons (.int .i64) .nil)), true, Int × Int, fun k x => half_Near.f k x.1.1 x.1.2.1 x.2.1, fun z => (z.1, z.2, ()), []⟩
def half_Near.nf (k : Nat) (a0_0 : Int) (a0_1 : Int) (a1 : Int) : Option (Int × Int) := ((half_Over.f k a0_0 a0_1 a1).bind fun t1 => (if t1.2.2 = (0 : Int) then ((half_up.f t1.1 t1.2.1 a1).bind fun t2 => (if (!t2) = true then (some (t1.1, t1.2.2)) else (if (IntKind.wrap .u64 (t1.1 + (1 : Int))) = (0 : Int) then (some ((0 : Int), (4 : Int))) else (some ((IntKind.wrap .u64 (t1.1 + (1 : Int))), (0 : Int)))))) else (some (t1.1, t1.2.2))))
noncomputable def half_Near.E : Env (Int × Int) := envOf tab Try.f63 true (.cons (.int .u64) (.cons (.int .i64) .nil)) [] (fun y => (y.1, y.2.1)) [(86, half_Over.c), (87, half_up.c)] [] []
theorem half_Near.h1 : obls half_Near.E Try.f63 = [] := by kernel_rfl
theorem half_Near.h2 : (fun k (x : El (.cons (.cons (.int .u64) (.cons (.int .u64) .nil)) (.cons (.int .u64) .nil))) => half_Near.nf k x.1.1 x.1.2.1 x.2.1) = fun k x => mainK half_Near.E Try.f63 (.cons (.cons (.int .u64) (.cons (.int .u64) .nil)) (.cons (.int .u64) .nil)) k x := by kernel_rfl
set_option maxHeartbeats 2000000 in
theorem half_Near.bf (k : Nat) (a0_0 : Int) (a0_1 : Int) (a1 : Int) : Lo (half_Near.f k a0_0 a0_1 a1) (half_Near.nf k a0_0 a0_1 a1) := by
  unfold half_Near.f half_Near.nf
  try simp only [Bool.false_xor, Bool.true_xor, wu8_64, wu8_u64, byL_nums, btS_bt, nil_tl, beq_decL, beq_decI]
  repeat' first
    | (with_reducible exact lo_refl _)
    | exact lo_none _
    | (with_reducible refine lo_lpos (by first | assumption | decide) ?_)
    | (with_reducible refine lo_lneg (by first | assumption | decide) ?_)
    | (with_reducible refine lo_ite (fun _ => ?_) (fun _ => ?_))
    | (with_reducible refine lo_bind (fun _ => ?_))
    | (with_reducible refine lo_left ?_)
    | (refine lo_neg (by decide) ?_)
    | (refine lo_pos (by first | assumption | omega) ?_)
    | (refine lo_neg (by first | assumption | omega) ?_)
    | (refine lo_trans (fun r h => (half_Near.mono_l _) _ _ _ r h) ?_; rw [half_Near.j0]; try simp only [decide_eq_true_eq])
    | (with_reducible refine lo_test (fun _ => by first | assumption | omega | (simp only [List.length_cons, List.length_nil]; omega) | decide) (fun _ => ?_))
    | (with_reducible refine lo_testn (fun _ => by first | assumption | omega) (fun _ => ?_))
    | (with_reducible refine lo_and (fun z => by first | exact z.1 | omega) (fun z => by first | exact z.2 | omega) (fun _ => ?_))
    | exact lo_refl _
    | (with_reducible refine lo_iff (by first | exact Iff.rfl | omega | (simp; done) | decide) (fun _ => ?_) (fun _ => ?_))
    | (with_reducible refine lo_iffn (by first | exact Iff.rfl | omega | (simp; done) | decide) (fun _ => ?_) (fun _ => ?_))
    | refine lo_ite (fun _ => ?_) (fun _ => ?_)
    | refine lo_bind (fun _ => ?_)
    | (refine lo_some ?_; first | rfl | (rw [Bool.false_xor]; rfl) | (rw [Bool.true_xor]; rfl) | (simp only [Bool.and_true]; rfl) | (simp; done))
    | (simp only [Int.zero_sub]; exact lo_refl _)
    | (with_reducible refine lo_lpos (by omega) ?_)
    | (with_reducible refine lo_lneg (by omega) ?_)
    | (with_reducible refine lo_lite (fun _ => ?_) (fun _ => ?_))
    | (with_reducible refine lo_rite (fun _ => ?_) (fun _ => ?_))
  all_goals (exfalso; first | omega | (simp_all; done) | (simp_all; omega))
theorem half_Near.al : AllLe (obls half_Near.E Try.f63) := by
  rw [half_Near.h1]
  exact .nil
theorem half_Near.ok : CalleeOk Try.prog 63 half_Near.c := fn_ok tabOk mixed (fun _ => rfl) Try.func63 rfl (by kernel_rfl) (ok_cons half_Over.ok (ok_cons half_up.ok ok_nil)) half_Near.al (fun k x r h => (congrFun (congrFun half_Near.h2 k) x).symm.trans (half_Near.bf k _ _ _ r h))
def half_Shift.c : Sym.Callee := ⟨(.cons (.cons (.int .u64) (.cons (.int .u64) .nil)) (.cons (.int .i64) .nil)), (.cons (.int .u64) (.cons (.int .i64) .nil)), true, Int × Int, fun k x => half_Shift.f k x.1.1 x.1.2.1 x.2.1, fun z => (z.1, z.2, ()), []⟩
def half_Shift.nf (k : Nat) (a0_0 : Int) (a0_1 : Int) (a1 : Int) : Option (Int × Int) := ((pair_Shl.f (0 : Int) (1 : Int) (if (63 : Int) < (if a1 < (0 : Int) then (0 : Int) else a1) then (63 : Int) else (if a1 < (0 : Int) then (0 : Int) else a1))).bind fun t1 => (if 0 ≤ (1 : Int) then (if (1 : Int) < ((2 : Nat) : Int) then ((half_Near.f k a0_0 a0_1 t1.2.1).bind fun t2 => (some (t2.1, t2.2))) else none) else none))
noncomputable def half_Shift.E : Env (Int × Int) := envOf tab Try.f81 true (.cons (.int .u64) (.cons (.int .i64) .nil)) [] (fun y => (y.1, y.2.1)) [(112, pair_Shl.c), (63, half_Near.c)] [] []
theorem half_Shift.h1 : obls half_Shift.E Try.f81 = [] := by kernel_rfl
theorem half_Shift.h2 : (fun k (x : El (.cons (.cons (.int .u64) (.cons (.int .u64) .nil)) (.cons (.int .i64) .nil))) => half_Shift.nf k x.1.1 x.1.2.1 x.2.1) = fun k x => mainK half_Shift.E Try.f81 (.cons (.cons (.int .u64) (.cons (.int .u64) .nil)) (.cons (.int .i64) .nil)) k x := by kernel_rfl
set_option maxHeartbeats 2000000 in
theorem half_Shift.bf (k : Nat) (a0_0 : Int) (a0_1 : Int) (a1 : Int) : Lo (half_Shift.f k a0_0 a0_1 a1) (half_Shift.nf k a0_0 a0_1 a1) := by
  unfold half_Shift.f half_Shift.nf
  try simp only [Bool.false_xor, Bool.true_xor, wu8_64, wu8_u64, byL_nums, btS_bt, nil_tl, beq_decL, beq_decI]
  repeat' first
    | (with_reducible exact lo_refl _)
    | exact lo_none _
    | (with_reducible refine lo_lpos (by first | assumption | decide) ?_)
    | (with_reducible refine lo_lneg (by first | assumption | decide) ?_)
    | (with_reducible refine lo_ite (fun _ => ?_) (fun _ => ?_))
    | (with_reducible refine lo_bind (fun _ => ?_))
    | (with_reducible refine lo_left ?_)
    | (refine lo_neg (by decide) ?_)
    | (refine lo_pos (by first | assumption | omega) ?_)
    | (refine lo_neg (by first | assumption | omega) ?_)
    | (with_reducible refine lo_test (fun _ => by first | assumption | omega | (simp only [List.length_cons, List.length_nil]; omega) | decide) (fun _ => ?_))
    | (with_reducible refine lo_testn (fun _ => by first | assumption | omega) (fun _ => ?_))
    | (with_reducible refine lo_and (fun z => by first | exact z.1 | omega) (fun z => by first | exact z.2 | omega) (fun _ => ?_))
    | exact lo_refl _
    | (with_reducible refine lo_iff (by first | exact Iff.rfl | omega | (simp; done) | decide) (fun _ => ?_) (fun _ => ?_))
    | (with_reducible refine lo_iffn (by first | exact Iff.rfl | omega | (simp; done) | decide) (fun _ => ?_) (fun _ => ?_))
    | refine lo_ite (fun _ => ?_) (fun _ => ?_)
    | refine lo_bind (fun _ => ?_)
    | (refine lo_some ?_; first | rfl | (rw [Bool.false_xor]; rfl) | (rw [Bool.true_xor]; rfl) | (simp only [Bool.and_true]; rfl) | (simp; done))
    | (simp only [Int.zero_sub]; exact lo_refl _)
    | (with_reducible refine lo_lpos (by omega) ?_)
    | (with_reducible refine lo_lneg (by omega) ?_)
    | (with_reducible refine lo_lite (fun _ => ?_) (fun _ => ?_))
    | (with_reducible refine lo_rite (fun _ => ?_) (fun _ => ?_))
  all_goals (exfalso; first | omega | (simp_all; done) | (simp_all; omega))
theorem half_Shift.al : AllLe (obls half_Shift.E Try.f81) := by
  rw [half_Shift.h1]
  exact .nil
theorem half_Shift.ok : CalleeOk Try.prog 81 half_Shift.c := fn_ok tabOk mixed (fun _ => rfl) Try.func81 rfl (by kernel_rfl) (ok_cons pair_Shl.ok (ok_cons half_Near.ok ok_nil)) half_Shift.al (fun k x r h => (congrFun (congrFun half_Shift.h2 k) x).symm.trans (half_Shift.bf k _ _ _ r h))
def dec_fraction.c : Sym.Callee := ⟨(.cons (.int .u64) (.cons (.int .i64) .nil)), (.int .u64), false, Int, fun k x => dec_fraction.f k x.1 x.2.1, fun z => z, []⟩
def dec_fraction.nf (k : Nat) (a0 : Int) (a1 : Int) : Option (Int) := ((pair_Shl.f (0 : Int) a0 (32 : Int)).bind fun t1 => ((dec_power.f k a1).bind fun t2 => ((half_Near.f k t1.1 t1.2.1 t2).bind fun t3 => (some t3.1))))
noncomputable def dec_fraction.E : Env (Int) := envOf tab Try.f84 false (.int .u64) [] (fun y => y) [(112, pair_Shl.c), (83, dec_power.c), (63, half_Near.c)] [] []
theorem dec_fraction.h1 : obls dec_fraction.E Try.f84 = [] := by kernel_rfl
theorem dec_fraction.h2 : (fun k (x : El (.cons (.int .u64) (.cons (.int .i64) .nil))) => dec_fraction.nf k x.1 x.2.1) = fun k x => mainK dec_fraction.E Try.f84 (.cons (.int .u64) (.cons (.int .i64) .nil)) k x := by kernel_rfl
set_option maxHeartbeats 2000000 in
theorem dec_fraction.bf (k : Nat) (a0 : Int) (a1 : Int) : Lo (dec_fraction.f k a0 a1) (dec_fraction.nf k a0 a1) := by
  unfold dec_fraction.f dec_fraction.nf
  try simp only [Bool.false_xor, Bool.true_xor, wu8_64, wu8_u64, byL_nums, btS_bt, nil_tl, beq_decL, beq_decI]
  repeat' first
    | (with_reducible exact lo_refl _)
    | exact lo_none _
    | (with_reducible refine lo_lpos (by first | assumption | decide) ?_)
    | (with_reducible refine lo_lneg (by first | assumption | decide) ?_)
    | (with_reducible refine lo_ite (fun _ => ?_) (fun _ => ?_))
    | (with_reducible refine lo_bind (fun _ => ?_))
    | (with_reducible refine lo_left ?_)
    | (refine lo_neg (by decide) ?_)
    | (refine lo_pos (by first | assumption | omega) ?_)
    | (refine lo_neg (by first | assumption | omega) ?_)
    | (with_reducible refine lo_test (fun _ => by first | assumption | omega | (simp only [List.length_cons, List.length_nil]; omega) | decide) (fun _ => ?_))
    | (with_reducible refine lo_testn (fun _ => by first | assumption | omega) (fun _ => ?_))
    | (with_reducible refine lo_and (fun z => by first | exact z.1 | omega) (fun z => by first | exact z.2 | omega) (fun _ => ?_))
    | exact lo_refl _
    | (with_reducible refine lo_iff (by first | exact Iff.rfl | omega | (simp; done) | decide) (fun _ => ?_) (fun _ => ?_))
    | (with_reducible refine lo_iffn (by first | exact Iff.rfl | omega | (simp; done) | decide) (fun _ => ?_) (fun _ => ?_))
    | refine lo_ite (fun _ => ?_) (fun _ => ?_)
    | refine lo_bind (fun _ => ?_)
    | (refine lo_some ?_; first | rfl | (rw [Bool.false_xor]; rfl) | (rw [Bool.true_xor]; rfl) | (simp only [Bool.and_true]; rfl) | (simp; done))
    | (simp only [Int.zero_sub]; exact lo_refl _)
    | (with_reducible refine lo_lpos (by omega) ?_)
    | (with_reducible refine lo_lneg (by omega) ?_)
    | (with_reducible refine lo_lite (fun _ => ?_) (fun _ => ?_))
    | (with_reducible refine lo_rite (fun _ => ?_) (fun _ => ?_))
  all_goals (exfalso; first | omega | (simp_all; done) | (simp_all; omega))
theorem dec_fraction.al : AllLe (obls dec_fraction.E Try.f84) := by
  rw [dec_fraction.h1]
  exact .nil
theorem dec_fraction.ok : CalleeOk Try.prog 84 dec_fraction.c := fn_ok tabOk mixed (fun _ => rfl) Try.func84 rfl (by kernel_rfl) (ok_cons pair_Shl.ok (ok_cons dec_power.ok (ok_cons half_Near.ok ok_nil))) dec_fraction.al (fun k x r h => (congrFun (congrFun dec_fraction.h2 k) x).symm.trans (dec_fraction.bf k _ _ r h))
def layRep_ren : Go.Shelf.Ren := ⟨fun | 105 => 85 | 212 => 113 | 99 => 114 | 165 => 74 | 166 => 48 | 170 => 115 | 169 => 50 | 263 => 127 | 264 => 128 | 206 => 129 | 240 => 68 | 241 => 110 | 276 => 94 | 277 => 124 | n => n, fun | 9 => 9 | 3 => 3 | 4 => 4 | 20 => 20 | 0 => 0 | 46 => 97 | 109 => 148 | 5 => 5 | 72 => 82 | 76 => 85 | 51 => 140 | 146 => 160 | 53 => 93 | 148 => 152 | 70 => 79 | 37 => 80 | 75 => 84 | 127 => 108 | 164 => 129 | 80 => 89 | n => n, fun | n => n⟩
theorem layRep : Go.Proofs.Lays.n105 Try.prog layRep_ren := {
  mixed := by kernel_rfl
  f99 := Try.func114.trans (congrArg some (by kernel_rfl))
  f105 := Try.func85.trans (congrArg some (by kernel_rfl))
  f165 := Try.func74.trans (congrArg some (by kernel_rfl))
  f166 := Try.func48.trans (congrArg some (by kernel_rfl))
  f169 := Try.func50.trans (congrArg some (by kernel_rfl))
  f170 := Try.func115.trans (congrArg some (by kernel_rfl))
  f206 := Try.func129.trans (congrArg some (by kernel_rfl))
  f212 := Try.func113.trans (congrArg some (by kernel_rfl))
  f240 := Try.func68.trans (congrArg some (by kernel_rfl))
  f241 := Try.func110.trans (congrArg some (by kernel_rfl))
  f263 := Try.func127.trans (congrArg some (by kernel_rfl))
  f264 := Try.func128.trans (congrArg some (by kernel_rfl))
  f276 := Try.func94.trans (congrArg some (by kernel_rfl))
  f277 := Try.func124.trans (congrArg some (by kernel_rfl))
  t0 := Try.underlying0
  a0 := Try.isAgg0
  z0 := Try.sizeOf0
  v0 := Try.zeroValue0
  t3 := Try.underlying3
  a3 := Try.isAgg3
  z3 := Try.sizeOf3
  v3 := Try.zeroValue3
  t4 := Try.underlying4
  a4 := Try.isAgg4
  z4 := Try.sizeOf4
  v4 := Try.zeroValue4
  t5 := Try.underlying5
  a5 := Try.isAgg5
  z5 := Try.sizeOf5
  v5 := Try.zeroValue5
  t9 := Try.underlying9
  a9 := Try.isAgg9
  z9 := Try.sizeOf9
  v9 := Try.zeroValue9
  t20 := Try.underlying20
  a20 := Try.isAgg20
  z20 := Try.sizeOf20
  v20 := Try.zeroValue20
  t37 := Try.underlying80
  a37 := Try.isAgg80
  z37 := Try.sizeOf80
  v37 := Try.zeroValue80
  t46 := Try.underlying97
  a46 := Try.isAgg97
  z46 := Try.sizeOf97
  v46 := Try.zeroValue97
  t51 := Try.underlying140
  a51 := Try.isAgg140
  z51 := Try.sizeOf140
  v51 := Try.zeroValue140
  t53 := Try.underlying93
  a53 := Try.isAgg93
  z53 := Try.sizeOf93
  v53 := Try.zeroValue93
  t70 := Try.underlying79
  a70 := Try.isAgg79
  z70 := Try.sizeOf79
  v70 := Try.zeroValue79
  t72 := Try.underlying82
  a72 := Try.isAgg82
  z72 := Try.sizeOf82
  v72 := Try.zeroValue82
  t75 := Try.underlying84
  a75 := Try.isAgg84
  z75 := Try.sizeOf84
  v75 := Try.zeroValue84
  t76 := Try.underlying85
  a76 := Try.isAgg85
  z76 := Try.sizeOf85
  v76 := Try.zeroValue85
  t109 := Try.underlying148
  a109 := Try.isAgg148
  z109 := Try.sizeOf148
  v109 := Try.zeroValue148
  t127 := Try.underlying108
  a127 := Try.isAgg108
  z127 := Try.sizeOf108
  v127 := Try.zeroValue108
  t146 := Try.underlying160
  a146 := Try.isAgg160
  z146 := Try.sizeOf160
  v146 := Try.zeroValue160
  t148 := Try.underlying152
  a148 := Try.isAgg152
  z148 := Try.sizeOf152
  v148 := Try.zeroValue152
  t164 := Try.underlying129
  a164 := Try.isAgg129
  z164 := Try.sizeOf129
  v164 := Try.zeroValue129 }
theorem layRepX : Go.Proofs.Builder.Extra Try.prog layRep_ren := {
  sizeBuilder := by kernel_rfl
  liesBuilder := by kernel_rfl
  t5 := layRep.t5
  a5 := layRep.a5
  z5 := layRep.z5
  v5 := layRep.v5
  infoByte := by kernel_rfl
  cellsByte := by kernel_rfl
  sizeByte := by kernel_rfl
  neB5 := by decide }
theorem layRepF : layRep_ren.f 105 = 85 := by kernel_rfl

def strings_Repeat.c : Sym.Callee := ⟨(.cons .str (.cons (.int .i64) .nil)), .str, false, ByteArray, fun k x => strings_Repeat.f x.1 x.2.1, fun y => y, []⟩
theorem strings_Repeat.ok : CalleeOk Try.prog 85 strings_Repeat.c where
  enter := enter_of Try.func85 rfl (by kernel_rfl)
  calls k w F vs x y hL hfin hx hy := by
    obtain ⟨v1, us, rfl, h1, v2, us2, rfl, h2, rfl⟩ := hx
    obtain rfl := rep_str h1
    obtain rfl := rep_int h2
    obtain ⟨a0, a1, _⟩ := x
    have hy : strings_Repeat.f a0 a1 = some y := hy
    unfold strings_Repeat.f at hy
    split at hy
    case isFalse => cases hy
    case isTrue hq =>
      obtain rfl := Option.some.inj hy
      obtain ⟨c, rfl⟩ : ∃ c : Nat, a1 = (c : Int) := ⟨a1.toNat, (Int.toNat_of_nonneg hq.1).symm⟩
      simp only [Int.toNat_natCast] at hq ⊢
      have g := Go.Proofs.Any.strings_Repeat layRep layRepX a0 c w (by omega) hq.2.2
      rw [layRepF] at g
      exact g.mono fun e w' q => ⟨_, F, q.1, ⟨q.2, fun _ _ => rfl⟩, fun b hb2 => Nat.lt_of_lt_of_le (hfin b hb2) q.2.size, repR_one mk_str⟩
def dec_behind.c : Sym.Callee := ⟨(.cons (.int .u64) .nil), .str, false, ByteArray, fun k x => dec_behind.f k x.1, fun z => z, []⟩
def dec_behind.nl0 (k : Nat) (x0 : Int) (x3 : Int) : Option (ByteArray) := (if x3 ≤ (10 : Int) then ((dec_power.f k x3).bind fun t1 => ((pair_Mul.f x0 t1).bind fun t2 => ((half_Shift.f k t2.1 t2.2 (32 : Int)).bind fun t3 => ((dec_fraction.f k t3.1 x3).bind fun t4 => (if t4 = x0 then ((num_Tell.f k (wrap64 (t3.1))).bind fun t5 => ((strings_Repeat.f (⟨#[48]⟩ : ByteArray) (wrap64 (x3 - (t5.size : Int)))).bind fun t6 => (if t6.size + t5.size ≤ 9223372036854775807 then (some (t6 ++ t5)) else none))) else (dec_behind.l0 k x0 (wrap64 (x3 + (1 : Int))))))))) else (some (⟨#[]⟩ : ByteArray)))
def dec_behind.nf (k : Nat) (a0 : Int) : Option (ByteArray) := (dec_behind.l0 k a0 (1 : Int))
noncomputable def dec_behind.E : Env (ByteArray) := envOf tab Try.f61 false .str [] (fun y => y) [(83, dec_power.c), (82, pair_Mul.c), (81, half_Shift.c), (84, dec_fraction.c), (34, num_Tell.c), (85, strings_Repeat.c)] [⟨2, ⟨34, [(0, (.int .u64), []), (3, (.int .i64), [])], [], []⟩, fun k y => dec_behind.l0 k y.1.1 y.1.2.1⟩] []
theorem dec_behind.h1 : obls dec_behind.E Try.f61 = [⟨(.cons (.cons (.int .u64) (.cons (.int .i64) .nil)) (.cons .nil (.cons .nil .nil))), fun k y => dec_behind.l0 (k + 1) y.1.1 y.1.2.1, fun k y => dec_behind.nl0 k y.1.1 y.1.2.1⟩, ⟨(.cons (.cons (.int .u64) (.cons (.int .i64) .nil)) (.cons .nil (.cons .nil .nil))), fun _ y => dec_behind.l0 0 y.1.1 y.1.2.1, fun _ _ => none⟩] := by kernel_rfl
theorem dec_behind.h2 : (fun k (x : El (.cons (.int .u64) .nil)) => dec_behind.nf k x.1) = fun k x => mainK dec_behind.E Try.f61 (.cons (.int .u64) .nil) k x := by kernel_rfl
theorem dec_behind.bl0 (k : Nat) (x0 : Int) (x3 : Int) : Lo (dec_behind.l0 (k + 1) x0 x3) (dec_behind.nl0 k x0 x3) := by
  rw [dec_behind.l0]
  unfold dec_behind.nl0
  try simp only [Bool.false_xor, Bool.true_xor, wu8_64, wu8_u64, byL_nums, btS_bt, nil_tl, beq_decL, beq_decI]
  repeat' first
    | (with_reducible exact lo_refl _)
    | exact lo_none _
    | (with_reducible refine lo_lpos (by first | assumption | decide) ?_)
    | (with_reducible refine lo_lneg (by first | assumption | decide) ?_)
    | (with_reducible refine lo_ite (fun _ => ?_) (fun _ => ?_))
    | (with_reducible refine lo_bind (fun _ => ?_))
    | (with_reducible refine lo_left ?_)
    | (refine lo_neg (by decide) ?_)
    | (refine lo_pos (by first | assumption | omega) ?_)
    | (refine lo_neg (by first | assumption | omega) ?_)
    | (with_reducible refine lo_test (fun _ => by first | assumption | omega | (simp only [List.length_cons, List.length_nil]; omega) | decide) (fun _ => ?_))
    | (with_reducible refine lo_testn (fun _ => by first | assumption | omega) (fun _ => ?_))
    | (with_reducible refine lo_and (fun z => by first | exact z.1 | omega) (fun z => by first | exact z.2 | omega) (fun _ => ?_))
    | exact lo_refl _
    | (with_reducible refine lo_iff (by first | exact Iff.rfl | omega | (simp; done) | decide) (fun _ => ?_) (fun _ => ?_))
    | (with_reducible refine lo_iffn (by first | exact Iff.rfl | omega | (simp; done) | decide) (fun _ => ?_) (fun _ => ?_))
    | refine lo_ite (fun _ => ?_) (fun _ => ?_)
    | refine lo_bind (fun _ => ?_)
    | (refine lo_some ?_; first | rfl | (rw [Bool.false_xor]; rfl) | (rw [Bool.true_xor]; rfl) | (simp only [Bool.and_true]; rfl) | (simp; done))
    | (simp only [Int.zero_sub]; exact lo_refl _)
    | (with_reducible refine lo_lpos (by omega) ?_)
    | (with_reducible refine lo_lneg (by omega) ?_)
    | (with_reducible refine lo_lite (fun _ => ?_) (fun _ => ?_))
    | (with_reducible refine lo_rite (fun _ => ?_) (fun _ => ?_))
  all_goals (exfalso; first | omega | (simp_all; done) | (simp_all; omega))
set_option maxHeartbeats 2000000 in
theorem dec_behind.bf (k : Nat) (a0 : Int) : Lo (dec_behind.f k a0) (dec_behind.nf k a0) := by
  unfold dec_behind.f dec_behind.nf
  try simp only [Bool.false_xor, Bool.true_xor, wu8_64, wu8_u64, byL_nums, btS_bt, nil_tl, beq_decL, beq_decI]
  repeat' first
    | (with_reducible exact lo_refl _)
    | exact lo_none _
    | (with_reducible refine lo_lpos (by first | assumption | decide) ?_)
    | (with_reducible refine lo_lneg (by first | assumption | decide) ?_)
    | (with_reducible refine lo_ite (fun _ => ?_) (fun _ => ?_))
    | (with_reducible refine lo_bind (fun _ => ?_))
    | (with_reducible refine lo_left ?_)
    | (refine lo_neg (by decide) ?_)
    | (refine lo_pos (by first | assumption | omega) ?_)
    | (refine lo_neg (by first | assumption | omega) ?_)
    | (with_reducible refine lo_test (fun _ => by first | assumption | omega | (simp only [List.length_cons, List.length_nil]; omega) | decide) (fun _ => ?_))
    | (with_reducible refine lo_testn (fun _ => by first | assumption | omega) (fun _ => ?_))
    | (with_reducible refine lo_and (fun z => by first | exact z.1 | omega) (fun z => by first | exact z.2 | omega) (fun _ => ?_))
    | exact lo_refl _
    | (with_reducible refine lo_iff (by first | exact Iff.rfl | omega | (simp; done) | decide) (fun _ => ?_) (fun _ => ?_))
    | (with_reducible refine lo_iffn (by first | exact Iff.rfl | omega | (simp; done) | decide) (fun _ => ?_) (fun _ => ?_))
    | refine lo_ite (fun _ => ?_) (fun _ => ?_)
    | refine lo_bind (fun _ => ?_)
    | (refine lo_some ?_; first | rfl | (rw [Bool.false_xor]; rfl) | (rw [Bool.true_xor]; rfl) | (simp only [Bool.and_true]; rfl) | (simp; done))
    | (simp only [Int.zero_sub]; exact lo_refl _)
    | (with_reducible refine lo_lpos (by omega) ?_)
    | (with_reducible refine lo_lneg (by omega) ?_)
    | (with_reducible refine lo_lite (fun _ => ?_) (fun _ => ?_))
    | (with_reducible refine lo_rite (fun _ => ?_) (fun _ => ?_))
  all_goals (exfalso; first | omega | (simp_all; done) | (simp_all; omega))
theorem dec_behind.al : AllLe (obls dec_behind.E Try.f61) := by
  rw [dec_behind.h1]
  exact (.cons (fun k y r h => dec_behind.bl0 k y.1.1 y.1.2.1 r h) (.cons (fun _ y r h => by simp [dec_behind.l0] at h) .nil))
theorem dec_behind.ok : CalleeOk Try.prog 61 dec_behind.c := fn_ok tabOk mixed (fun _ => rfl) Try.func61 rfl (by kernel_rfl) (ok_cons dec_power.ok (ok_cons pair_Mul.ok (ok_cons half_Shift.ok (ok_cons dec_fraction.ok (ok_cons num_Tell.ok (ok_cons strings_Repeat.ok ok_nil)))))) dec_behind.al (fun k x r h => (congrFun (congrFun dec_behind.h2 k) x).symm.trans (dec_behind.bf k _ r h))
def dec_Put.c : Sym.Callee := ⟨(.cons (.int .i64) .nil), .str, false, ByteArray, fun k x => dec_Put.f k x.1, fun z => z, []⟩
def dec_Put.nf (k : Nat) (a0 : Int) : Option (ByteArray) := ((fix_Size.f a0).bind fun t1 => (if (32 : Int) < 0 then none else ((num_Tell.f k (wrap64 ((t1 / 2 ^ (min ((32 : Int)).toNat 64))))).bind fun t2 => (if a0 < (0 : Int) then (if (⟨#[45]⟩ : ByteArray).size + t2.size ≤ 9223372036854775807 then (if (Go.bits .and .u64 t1 (4294967295 : Int)) = (0 : Int) then (some ((⟨#[45]⟩ : ByteArray) ++ t2)) else ((dec_behind.f k (Go.bits .and .u64 t1 (4294967295 : Int))).bind fun t3 => (if (⟨#[46]⟩ : ByteArray).size + t3.size ≤ 9223372036854775807 then (if ((⟨#[45]⟩ : ByteArray) ++ t2).size + ((⟨#[46]⟩ : ByteArray) ++ t3).size ≤ 9223372036854775807 then (some (((⟨#[45]⟩ : ByteArray) ++ t2) ++ ((⟨#[46]⟩ : ByteArray) ++ t3))) else none) else none))) else none) else (if (Go.bits .and .u64 t1 (4294967295 : Int)) = (0 : Int) then (some t2) else ((dec_behind.f k (Go.bits .and .u64 t1 (4294967295 : Int))).bind fun t4 => (if (⟨#[46]⟩ : ByteArray).size + t4.size ≤ 9223372036854775807 then (if t2.size + ((⟨#[46]⟩ : ByteArray) ++ t4).size ≤ 9223372036854775807 then (some (t2 ++ ((⟨#[46]⟩ : ByteArray) ++ t4))) else none) else none)))))))
noncomputable def dec_Put.E : Env (ByteArray) := envOf tab Try.f42 false .str [] (fun y => y) [(60, fix_Size.c), (34, num_Tell.c), (61, dec_behind.c)] [] []
theorem dec_Put.h1 : obls dec_Put.E Try.f42 = [] := by kernel_rfl
theorem dec_Put.h2 : (fun k (x : El (.cons (.int .i64) .nil)) => dec_Put.nf k x.1) = fun k x => mainK dec_Put.E Try.f42 (.cons (.int .i64) .nil) k x := by kernel_rfl
set_option maxHeartbeats 2000000 in
theorem dec_Put.bf (k : Nat) (a0 : Int) : Lo (dec_Put.f k a0) (dec_Put.nf k a0) := by
  unfold dec_Put.f dec_Put.nf
  try simp only [Bool.false_xor, Bool.true_xor, wu8_64, wu8_u64, byL_nums, btS_bt, nil_tl, beq_decL, beq_decI]
  repeat' first
    | (with_reducible exact lo_refl _)
    | exact lo_none _
    | (with_reducible refine lo_lpos (by first | assumption | decide) ?_)
    | (with_reducible refine lo_lneg (by first | assumption | decide) ?_)
    | (with_reducible refine lo_ite (fun _ => ?_) (fun _ => ?_))
    | (with_reducible refine lo_bind (fun _ => ?_))
    | (with_reducible refine lo_left ?_)
    | (refine lo_neg (by decide) ?_)
    | (refine lo_pos (by first | assumption | omega) ?_)
    | (refine lo_neg (by first | assumption | omega) ?_)
    | (with_reducible refine lo_test (fun _ => by first | assumption | omega | (simp only [List.length_cons, List.length_nil]; omega) | decide) (fun _ => ?_))
    | (with_reducible refine lo_testn (fun _ => by first | assumption | omega) (fun _ => ?_))
    | (with_reducible refine lo_and (fun z => by first | exact z.1 | omega) (fun z => by first | exact z.2 | omega) (fun _ => ?_))
    | exact lo_refl _
    | (with_reducible refine lo_iff (by first | exact Iff.rfl | omega | (simp; done) | decide) (fun _ => ?_) (fun _ => ?_))
    | (with_reducible refine lo_iffn (by first | exact Iff.rfl | omega | (simp; done) | decide) (fun _ => ?_) (fun _ => ?_))
    | refine lo_ite (fun _ => ?_) (fun _ => ?_)
    | refine lo_bind (fun _ => ?_)
    | (refine lo_some ?_; first | rfl | (rw [Bool.false_xor]; rfl) | (rw [Bool.true_xor]; rfl) | (simp only [Bool.and_true]; rfl) | (simp; done))
    | (simp only [Int.zero_sub]; exact lo_refl _)
    | (with_reducible refine lo_lpos (by omega) ?_)
    | (with_reducible refine lo_lneg (by omega) ?_)
    | (with_reducible refine lo_lite (fun _ => ?_) (fun _ => ?_))
    | (with_reducible refine lo_rite (fun _ => ?_) (fun _ => ?_))
  all_goals (exfalso; first | omega | (simp_all; done) | (simp_all; omega))
theorem dec_Put.al : AllLe (obls dec_Put.E Try.f42) := by
  rw [dec_Put.h1]
  exact .nil
theorem dec_Put.ok : CalleeOk Try.prog 42 dec_Put.c := fn_ok tabOk mixed (fun _ => rfl) Try.func42 rfl (by kernel_rfl) (ok_cons fix_Size.ok (ok_cons num_Tell.ok (ok_cons dec_behind.ok ok_nil))) dec_Put.al (fun k x r h => (congrFun (congrFun dec_Put.h2 k) x).symm.trans (dec_Put.bf k _ r h))
def output_decimals.c : Sym.Callee := ⟨(.cons (.sl (.int .i64)) .nil), (.sl .str), false, List ByteArray, fun k x => output_decimals.f k x.1, fun z => z, []⟩
def output_decimals.nl0 (k : Nat) (x3 : List ByteArray) (x6 : List Int) (x7 : Int) (x8 : Int) : Option (List ByteArray) := (if x8 < x7 then (if 0 ≤ x8 then (if x8 < (x6.length : Int) then ((dec_Put.f k (x6.getD (x8).toNat 0)).bind fun t1 => (if (x3.length + [t1].length) * 16 ≤ 140737488355328 then (output_decimals.l0 k (x3 ++ [t1]) x6 x7 (wrap64 (x8 + (1 : Int)))) else none)) else none) else none) else (some x3))
def output_decimals.nf (k : Nat) (a0 : List Int) : Option (List ByteArray) := (output_decimals.l0 k ([] : List ByteArray) a0 (a0.length : Int) (0 : Int))
noncomputable def output_decimals.E : Env (List ByteArray) := envOf tab Try.f43 false (.sl .str) [] (fun y => y) [(42, dec_Put.c)] [⟨3, ⟨19, [(3, (.sl .str), [⟨0, 4, 9, 1⟩]), (6, (.sl (.int .i64)), []), (7, (.int .i64), []), (8, (.int .i64), [])], [], []⟩, fun k y => output_decimals.l0 k y.1.1 y.1.2.1 y.1.2.2.1 y.1.2.2.2.1⟩] []
theorem output_decimals.h1 : obls output_decimals.E Try.f43 = [⟨(.cons (.cons (.sl .str) (.cons (.sl (.int .i64)) (.cons (.int .i64) (.cons (.int .i64) .nil)))) (.cons .nil (.cons .nil .nil))), fun k y => output_decimals.l0 (k + 1) y.1.1 y.1.2.1 y.1.2.2.1 y.1.2.2.2.1, fun k y => output_decimals.nl0 k y.1.1 y.1.2.1 y.1.2.2.1 y.1.2.2.2.1⟩, ⟨(.cons (.cons (.sl .str) (.cons (.sl (.int .i64)) (.cons (.int .i64) (.cons (.int .i64) .nil)))) (.cons .nil (.cons .nil .nil))), fun _ y => output_decimals.l0 0 y.1.1 y.1.2.1 y.1.2.2.1 y.1.2.2.2.1, fun _ _ => none⟩] := by kernel_rfl
theorem output_decimals.h2 : (fun k (x : El (.cons (.sl (.int .i64)) .nil)) => output_decimals.nf k x.1) = fun k x => mainK output_decimals.E Try.f43 (.cons (.sl (.int .i64)) .nil) k x := by kernel_rfl
theorem output_decimals.bl0 (k : Nat) (x3 : List ByteArray) (x6 : List Int) (x7 : Int) (x8 : Int) : Lo (output_decimals.l0 (k + 1) x3 x6 x7 x8) (output_decimals.nl0 k x3 x6 x7 x8) := by
  rw [output_decimals.l0]
  unfold output_decimals.nl0
  try simp only [Bool.false_xor, Bool.true_xor, wu8_64, wu8_u64, byL_nums, btS_bt, nil_tl, beq_decL, beq_decI]
  repeat' first
    | (with_reducible exact lo_refl _)
    | exact lo_none _
    | (with_reducible refine lo_lpos (by first | assumption | decide) ?_)
    | (with_reducible refine lo_lneg (by first | assumption | decide) ?_)
    | (with_reducible refine lo_ite (fun _ => ?_) (fun _ => ?_))
    | (with_reducible refine lo_bind (fun _ => ?_))
    | (with_reducible refine lo_left ?_)
    | (refine lo_neg (by decide) ?_)
    | (refine lo_pos (by first | assumption | omega) ?_)
    | (refine lo_neg (by first | assumption | omega) ?_)
    | (with_reducible refine lo_test (fun _ => by first | assumption | omega | (simp only [List.length_cons, List.length_nil]; omega) | decide) (fun _ => ?_))
    | (with_reducible refine lo_testn (fun _ => by first | assumption | omega) (fun _ => ?_))
    | (with_reducible refine lo_and (fun z => by first | exact z.1 | omega) (fun z => by first | exact z.2 | omega) (fun _ => ?_))
    | exact lo_refl _
    | (with_reducible refine lo_iff (by first | exact Iff.rfl | omega | (simp; done) | decide) (fun _ => ?_) (fun _ => ?_))
    | (with_reducible refine lo_iffn (by first | exact Iff.rfl | omega | (simp; done) | decide) (fun _ => ?_) (fun _ => ?_))
    | refine lo_ite (fun _ => ?_) (fun _ => ?_)
    | refine lo_bind (fun _ => ?_)
    | (refine lo_some ?_; first | rfl | (rw [Bool.false_xor]; rfl) | (rw [Bool.true_xor]; rfl) | (simp only [Bool.and_true]; rfl) | (simp; done))
    | (simp only [Int.zero_sub]; exact lo_refl _)
    | (with_reducible refine lo_lpos (by omega) ?_)
    | (with_reducible refine lo_lneg (by omega) ?_)
    | (with_reducible refine lo_lite (fun _ => ?_) (fun _ => ?_))
    | (with_reducible refine lo_rite (fun _ => ?_) (fun _ => ?_))
  all_goals (exfalso; first | omega | (simp_all; done) | (simp_all; omega))
set_option maxHeartbeats 2000000 in
theorem output_decimals.bf (k : Nat) (a0 : List Int) : Lo (output_decimals.f k a0) (output_decimals.nf k a0) := by
  unfold output_decimals.f output_decimals.nf
  try simp only [Bool.false_xor, Bool.true_xor, wu8_64, wu8_u64, byL_nums, btS_bt, nil_tl, beq_decL, beq_decI]
  repeat' first
    | (with_reducible exact lo_refl _)
    | exact lo_none _
    | (with_reducible refine lo_lpos (by first | assumption | decide) ?_)
    | (with_reducible refine lo_lneg (by first | assumption | decide) ?_)
    | (with_reducible refine lo_ite (fun _ => ?_) (fun _ => ?_))
    | (with_reducible refine lo_bind (fun _ => ?_))
    | (with_reducible refine lo_left ?_)
    | (refine lo_neg (by decide) ?_)
    | (refine lo_pos (by first | assumption | omega) ?_)
    | (refine lo_neg (by first | assumption | omega) ?_)
    | (with_reducible refine lo_test (fun _ => by first | assumption | omega | (simp only [List.length_cons, List.length_nil]; omega) | decide) (fun _ => ?_))
    | (with_reducible refine lo_testn (fun _ => by first | assumption | omega) (fun _ => ?_))
    | (with_reducible refine lo_and (fun z => by first | exact z.1 | omega) (fun z => by first | exact z.2 | omega) (fun _ => ?_))
    | exact lo_refl _
    | (with_reducible refine lo_iff (by first | exact Iff.rfl | omega | (simp; done) | decide) (fun _ => ?_) (fun _ => ?_))
    | (with_reducible refine lo_iffn (by first | exact Iff.rfl | omega | (simp; done) | decide) (fun _ => ?_) (fun _ => ?_))
    | refine lo_ite (fun _ => ?_) (fun _ => ?_)
    | refine lo_bind (fun _ => ?_)
    | (refine lo_some ?_; first | rfl | (rw [Bool.false_xor]; rfl) | (rw [Bool.true_xor]; rfl) | (simp only [Bool.and_true]; rfl) | (simp; done))
    | (simp only [Int.zero_sub]; exact lo_refl _)
    | (with_reducible refine lo_lpos (by omega) ?_)
    | (with_reducible refine lo_lneg (by omega) ?_)
    | (with_reducible refine lo_lite (fun _ => ?_) (fun _ => ?_))
    | (with_reducible refine lo_rite (fun _ => ?_) (fun _ => ?_))
  all_goals (exfalso; first | omega | (simp_all; done) | (simp_all; omega))
theorem output_decimals.al : AllLe (obls output_decimals.E Try.f43) := by
  rw [output_decimals.h1]
  exact (.cons (fun k y r h => output_decimals.bl0 k y.1.1 y.1.2.1 y.1.2.2.1 y.1.2.2.2.1 r h) (.cons (fun _ y r h => by simp [output_decimals.l0] at h) .nil))
theorem output_decimals.ok : CalleeOk Try.prog 43 output_decimals.c := fn_ok tabOk mixed (fun _ => rfl) Try.func43 rfl (by kernel_rfl) (ok_cons dec_Put.ok ok_nil) output_decimals.al (fun k x r h => (congrFun (congrFun output_decimals.h2 k) x).symm.trans (output_decimals.bf k _ r h))
def output_group_s.j4 : Nat → (List ByteArray) → Option ByteArray
  | 0, _ => none
  | k + 1, x5 => ((output_line.f x5).bind fun t3 => (some t3))
def output_group_s.f (k : Nat) (a0 : Int × Int × (List Int) × (List Bool) × (List (Int × Int × Int × Unit)) × Int × Unit) (a1 : Int) : Option ByteArray := ((num_Tell.f k a1).bind fun t1 => (if 0 ≤ (wrap64 ((3 : Int) * a1)) then (if (wrap64 ((3 : Int) * a1)) ≤ (wrap64 ((3 : Int) * (wrap64 (a1 + (1 : Int))))) then (if (wrap64 ((3 : Int) * (wrap64 (a1 + (1 : Int))))) ≤ (a0.2.2.1.length : Int) then ((output_decimals.f k ((a0.2.2.1.take ((wrap64 ((3 : Int) * (wrap64 (a1 + (1 : Int)))))).toNat).drop ((wrap64 ((3 : Int) * a1))).toNat)).bind fun t2 => (if ([(⟨#[32, 32, 103, 114, 111, 117, 112]⟩ : ByteArray), t1].length + t2.length) * 16 ≤ 140737488355328 then (if a1 < (a0.2.2.2.1.length : Int) then (if 0 ≤ a1 then (if a1 < (a0.2.2.2.1.length : Int) then (if (a0.2.2.2.1.getD (a1).toNat false) = true then (if (([(⟨#[32, 32, 103, 114, 111, 117, 112]⟩ : ByteArray), t1] ++ t2).length + [(⟨#[102, 114, 111, 122, 101, 110]⟩ : ByteArray)].length) * 16 ≤ 140737488355328 then (output_group_s.j4 k (([(⟨#[32, 32, 103, 114, 111, 117, 112]⟩ : ByteArray), t1] ++ t2) ++ [(⟨#[102, 114, 111, 122, 101, 110]⟩ : ByteArray)])) else none) else (output_group_s.j4 k ([(⟨#[32, 32, 103, 114, 111, 117, 112]⟩ : ByteArray), t1] ++ t2))) else none) else none) else (output_group_s.j4 k ([(⟨#[32, 32, 103, 114, 111, 117, 112]⟩ : ByteArray), t1] ++ t2))) else none)) else none) else none) else none))
def output_group_s.c : Sym.Callee := ⟨(.cons (.cons (.int .i64) (.cons (.int .i64) (.cons (.sl (.int .i64)) (.cons (.sl .bool) (.cons (.sl (.cons (.int .i64) (.cons (.int .i64) (.cons (.int .i64) .nil)))) (.cons (.int .i64) .nil)))))) (.cons (.int .i64) .nil)), .str, false, El .str, fun k x => output_group_s.f k x.1 x.2.1, fun y => y, []⟩
noncomputable def output_group_s.E : Env (El .str) := envOf tab Try.f40 false .str [] (fun y => y) [(34, num_Tell.c), (43, output_decimals.c), (39, output_line.c)] [] [⟨4, ⟨36, [(5, (.sl .str), [⟨0, 6, 9, 1⟩])], [], []⟩, fun k y => output_group_s.j4 k y.1.1⟩]
theorem output_group_s.h1 : (obls output_group_s.E Try.f40).map Ob.left = (obls output_group_s.E Try.f40).map Ob.right := by kernel_rfl
theorem output_group_s.h2 : (fun k x => output_group_s.c.fn k x) = fun k x => mainK output_group_s.E Try.f40 output_group_s.c.dom k x := by kernel_rfl
theorem output_group_s.ok : CalleeOk Try.prog 40 output_group_s.c := fn_ok tabOk mixed (fun _ => rfl) Try.func40 rfl (by kernel_rfl) (ok_cons num_Tell.ok (ok_cons output_decimals.ok (ok_cons output_line.ok ok_nil))) (.of_eq output_group_s.h1) (fun k x _ h => (congrFun (congrFun output_group_s.h2 k) x).symm.trans h)
theorem output_group_s.mono_c : ∀ k, (∀ x5, Lo (output_group_s.j4 k x5) (output_group_s.j4 (k + 1) x5)) ∧ True
  | 0 => ⟨fun _ => by rw [output_group_s.j4]; exact lo_none _, trivial⟩
  | k + 1 => by
    obtain ⟨h_j4, _⟩ := output_group_s.mono_c k
    exact ⟨fun _ => by rw [output_group_s.j4, output_group_s.j4]; repeat' first | (with_reducible exact lo_refl _) | (with_reducible exact h_j4 _) | (with_reducible refine lo_ite (fun _ => ?_) (fun _ => ?_)) | (with_reducible refine lo_bind2 ?_ (fun _ => ?_)) | (with_reducible exact lo_leo (num_Tell.mono _ _)) | (with_reducible exact lo_leo (output_decimals.mono _ _)), trivial⟩
theorem output_group_s.mono : ∀ k a0 a1, Lo (output_group_s.f k a0 a1) (output_group_s.f (k + 1) a0 a1) := by
  intro k a0 a1
  obtain ⟨h_j4, _⟩ := output_group_s.mono_c k
  unfold output_group_s.f
  repeat' first | (with_reducible exact lo_refl _) | (with_reducible exact h_j4 _) | (with_reducible refine lo_ite (fun _ => ?_) (fun _ => ?_)) | (with_reducible refine lo_bind2 ?_ (fun _ => ?_)) | (with_reducible exact lo_leo (num_Tell.mono _ _)) | (with_reducible exact lo_leo (output_decimals.mono _ _))
def events_Word.c : Sym.Callee := ⟨(.cons (.int .i64) .nil), .str, false, ByteArray, fun k x => events_Word.f x.1, fun z => z, []⟩
def events_Word.nf (k : Nat) (a0 : Int) : Option (ByteArray) := (if a0 < (0 : Int) then (some (⟨#[]⟩ : ByteArray)) else (if a0 ≥ (12 : Int) then (some (⟨#[]⟩ : ByteArray)) else (if 0 ≤ a0 then (if a0 < ((12 : Nat) : Int) then (some ([(⟨#[]⟩ : ByteArray), (⟨#[112, 104, 97, 115, 101]⟩ : ByteArray), (⟨#[116, 104, 97, 119]⟩ : ByteArray), (⟨#[102, 114, 101, 101, 122, 101]⟩ : ByteArray), (⟨#[115, 119, 97]⟩ : ByteArray), (⟨#[102, 97, 105, 108]⟩ : ByteArray), (⟨#[109, 105, 115, 115]⟩ : ByteArray), (⟨#[107, 101, 101, 112]⟩ : ByteArray), (⟨#[100, 114, 111, 112]⟩ : ByteArray), (⟨#[99, 117, 116]⟩ : ByteArray), (⟨#[115, 116, 111, 112]⟩ : ByteArray), (⟨#[101, 110, 100]⟩ : ByteArray)].getD (a0).toNat (⟨#[]⟩ : ByteArray))) else none) else none)))
noncomputable def events_Word.E : Env (ByteArray) := envOf tab Try.f12 false .str [] (fun y => y) [] [] []
theorem events_Word.h1 : obls events_Word.E Try.f12 = [] := by kernel_rfl
theorem events_Word.h2 : (fun k (x : El (.cons (.int .i64) .nil)) => events_Word.nf k x.1) = fun k x => mainK events_Word.E Try.f12 (.cons (.int .i64) .nil) k x := by kernel_rfl
set_option maxHeartbeats 2000000 in
theorem events_Word.bf (k : Nat) (a0 : Int) : Lo (events_Word.f a0) (events_Word.nf k a0) := by
  unfold events_Word.f events_Word.nf
  try simp only [Bool.false_xor, Bool.true_xor, wu8_64, wu8_u64, byL_nums, btS_bt, nil_tl, beq_decL, beq_decI]
  repeat' first
    | (with_reducible exact lo_refl _)
    | exact lo_none _
    | (with_reducible refine lo_lpos (by first | assumption | decide) ?_)
    | (with_reducible refine lo_lneg (by first | assumption | decide) ?_)
    | (with_reducible refine lo_ite (fun _ => ?_) (fun _ => ?_))
    | (with_reducible refine lo_bind (fun _ => ?_))
    | (with_reducible refine lo_left ?_)
    | (refine lo_neg (by decide) ?_)
    | (refine lo_pos (by first | assumption | omega) ?_)
    | (refine lo_neg (by first | assumption | omega) ?_)
    | (with_reducible refine lo_test (fun _ => by first | assumption | omega | (simp only [List.length_cons, List.length_nil]; omega) | decide) (fun _ => ?_))
    | (with_reducible refine lo_testn (fun _ => by first | assumption | omega) (fun _ => ?_))
    | (with_reducible refine lo_and (fun z => by first | exact z.1 | omega) (fun z => by first | exact z.2 | omega) (fun _ => ?_))
    | exact lo_refl _
    | (with_reducible refine lo_iff (by first | exact Iff.rfl | omega | (simp; done) | decide) (fun _ => ?_) (fun _ => ?_))
    | (with_reducible refine lo_iffn (by first | exact Iff.rfl | omega | (simp; done) | decide) (fun _ => ?_) (fun _ => ?_))
    | refine lo_ite (fun _ => ?_) (fun _ => ?_)
    | refine lo_bind (fun _ => ?_)
    | (refine lo_some ?_; first | rfl | (rw [Bool.false_xor]; rfl) | (rw [Bool.true_xor]; rfl) | (simp only [Bool.and_true]; rfl) | (simp; done))
    | (simp only [Int.zero_sub]; exact lo_refl _)
    | (with_reducible refine lo_lpos (by omega) ?_)
    | (with_reducible refine lo_lneg (by omega) ?_)
    | (with_reducible refine lo_lite (fun _ => ?_) (fun _ => ?_))
    | (with_reducible refine lo_rite (fun _ => ?_) (fun _ => ?_))
  all_goals (exfalso; first | omega | (simp_all; done) | (simp_all; omega))
theorem events_Word.al : AllLe (obls events_Word.E Try.f12) := by
  rw [events_Word.h1]
  exact .nil
theorem events_Word.ok : CalleeOk Try.prog 12 events_Word.c := fn_ok tabOk mixed (fun _ => rfl) Try.func12 rfl (by kernel_rfl) ok_nil events_Word.al (fun k x r h => (congrFun (congrFun events_Word.h2 k) x).symm.trans (events_Word.bf k _ r h))
def events_Line.c : Sym.Callee := ⟨(.cons (.cons (.int .i64) (.cons (.int .i64) (.cons (.int .i64) .nil))) .nil), .str, false, ByteArray, fun k x => events_Line.f k x.1.1 x.1.2.1 x.1.2.2.1, fun z => z, []⟩
def events_Line.nf (k : Nat) (a0_0 : Int) (a0_1 : Int) (a0_2 : Int) : Option (ByteArray) := ((events_Word.f a0_1).bind fun t1 => (if t1.toList = (⟨#[]⟩ : ByteArray).toList then (if (⟨#[63]⟩ : ByteArray).size + (⟨#[32]⟩ : ByteArray).size ≤ 9223372036854775807 then ((num_Tell.f k a0_2).bind fun t2 => (if ((⟨#[63]⟩ : ByteArray) ++ (⟨#[32]⟩ : ByteArray)).size + t2.size ≤ 9223372036854775807 then (some (((⟨#[63]⟩ : ByteArray) ++ (⟨#[32]⟩ : ByteArray)) ++ t2)) else none)) else none) else (if t1.size + (⟨#[32]⟩ : ByteArray).size ≤ 9223372036854775807 then ((num_Tell.f k a0_2).bind fun t3 => (if (t1 ++ (⟨#[32]⟩ : ByteArray)).size + t3.size ≤ 9223372036854775807 then (some ((t1 ++ (⟨#[32]⟩ : ByteArray)) ++ t3)) else none)) else none)))
noncomputable def events_Line.E : Env (ByteArray) := envOf tab Try.f8 false .str [] (fun y => y) [(12, events_Word.c), (34, num_Tell.c)] [] []
theorem events_Line.h1 : obls events_Line.E Try.f8 = [] := by kernel_rfl
theorem events_Line.h2 : (fun k (x : El (.cons (.cons (.int .i64) (.cons (.int .i64) (.cons (.int .i64) .nil))) .nil)) => events_Line.nf k x.1.1 x.1.2.1 x.1.2.2.1) = fun k x => mainK events_Line.E Try.f8 (.cons (.cons (.int .i64) (.cons (.int .i64) (.cons (.int .i64) .nil))) .nil) k x := by kernel_rfl
set_option maxHeartbeats 2000000 in
theorem events_Line.bf (k : Nat) (a0_0 : Int) (a0_1 : Int) (a0_2 : Int) : Lo (events_Line.f k a0_0 a0_1 a0_2) (events_Line.nf k a0_0 a0_1 a0_2) := by
  unfold events_Line.f events_Line.nf
  try simp only [Bool.false_xor, Bool.true_xor, wu8_64, wu8_u64, byL_nums, btS_bt, nil_tl, beq_decL, beq_decI]
  repeat' first
    | (with_reducible exact lo_refl _)
    | exact lo_none _
    | (with_reducible refine lo_lpos (by first | assumption | decide) ?_)
    | (with_reducible refine lo_lneg (by first | assumption | decide) ?_)
    | (with_reducible refine lo_ite (fun _ => ?_) (fun _ => ?_))
    | (with_reducible refine lo_bind (fun _ => ?_))
    | (with_reducible refine lo_left ?_)
    | (refine lo_neg (by decide) ?_)
    | (refine lo_pos (by first | assumption | omega) ?_)
    | (refine lo_neg (by first | assumption | omega) ?_)
    | (with_reducible refine lo_test (fun _ => by first | assumption | omega | (simp only [List.length_cons, List.length_nil]; omega) | decide) (fun _ => ?_))
    | (with_reducible refine lo_testn (fun _ => by first | assumption | omega) (fun _ => ?_))
    | (with_reducible refine lo_and (fun z => by first | exact z.1 | omega) (fun z => by first | exact z.2 | omega) (fun _ => ?_))
    | exact lo_refl _
    | (with_reducible refine lo_iff (by first | exact Iff.rfl | omega | (simp; done) | decide) (fun _ => ?_) (fun _ => ?_))
    | (with_reducible refine lo_iffn (by first | exact Iff.rfl | omega | (simp; done) | decide) (fun _ => ?_) (fun _ => ?_))
    | refine lo_ite (fun _ => ?_) (fun _ => ?_)
    | refine lo_bind (fun _ => ?_)
    | (refine lo_some ?_; first | rfl | (rw [Bool.false_xor]; rfl) | (rw [Bool.true_xor]; rfl) | (simp only [Bool.and_true]; rfl) | (simp; done))
    | (simp only [Int.zero_sub]; exact lo_refl _)
    | (with_reducible refine lo_lpos (by omega) ?_)
    | (with_reducible refine lo_lneg (by omega) ?_)
    | (with_reducible refine lo_lite (fun _ => ?_) (fun _ => ?_))
    | (with_reducible refine lo_rite (fun _ => ?_) (fun _ => ?_))
  all_goals (exfalso; first | omega | (simp_all; done) | (simp_all; omega))
theorem events_Line.al : AllLe (obls events_Line.E Try.f8) := by
  rw [events_Line.h1]
  exact .nil
theorem events_Line.ok : CalleeOk Try.prog 8 events_Line.c := fn_ok tabOk mixed (fun _ => rfl) Try.func8 rfl (by kernel_rfl) (ok_cons events_Word.ok (ok_cons num_Tell.ok ok_nil)) events_Line.al (fun k x r h => (congrFun (congrFun events_Line.h2 k) x).symm.trans (events_Line.bf k _ _ _ r h))
mutual
def output_Step_s.l3 : Nat → (List ByteArray) → Int → Int → (Int × Int × (List Int) × (List Bool) × (List (Int × Int × Int × Unit)) × Int × Unit) → Option (List ByteArray)
  | 0, _, _, _, _ => none
  | k + 1, x3, x22, x23, b1 => (if x23 < x22 then ((output_group_s.f k b1 x23).bind fun t5 => (if (x3.length + [t5].length) * 16 ≤ 140737488355328 then (output_Step_s.l3 k (x3 ++ [t5]) x22 (wrap64 (x23 + (1 : Int))) b1) else none)) else (output_Step_s.l8 k x3 b1.2.2.2.2.1 (b1.2.2.2.2.1.length : Int) (0 : Int)))
def output_Step_s.l8 : Nat → (List ByteArray) → (List (Int × Int × Int × Unit)) → Int → Int → Option (List ByteArray)
  | 0, _, _, _, _ => none
  | k + 1, x3, x34, x35, x36 => (if x36 < x35 then (if 0 ≤ x36 then (if x36 < (x34.length : Int) then ((events_Line.f k ((x34.getD (x36).toNat (0, 0, 0, ())).1) ((x34.getD (x36).toNat (0, 0, 0, ())).2.1) ((x34.getD (x36).toNat (0, 0, 0, ())).2.2.1)).bind fun t6 => (if (⟨#[32, 32]⟩ : ByteArray).size + t6.size ≤ 9223372036854775807 then (if (x3.length + [((⟨#[32, 32]⟩ : ByteArray) ++ t6)].length) * 16 ≤ 140737488355328 then (output_Step_s.l8 k (x3 ++ [((⟨#[32, 32]⟩ : ByteArray) ++ t6)]) x34 x35 (wrap64 (x36 + (1 : Int)))) else none) else none)) else none) else none) else (some x3))
end
def output_Step_s.f (k : Nat) (a0 : Int × Int × (List Int) × (List Bool) × (List (Int × Int × Int × Unit)) × Int × Unit) : Option (List ByteArray) := ((num_Tell.f k a0.1).bind fun t1 => ((num_Tell.f k a0.2.1).bind fun t2 => ((output_Word.f a0.2.2.2.2.2.1).bind fun t3 => ((output_line.f [(⟨#[115, 116, 101, 112]⟩ : ByteArray), t1, (⟨#[112, 104, 97, 115, 101]⟩ : ByteArray), t2, t3]).bind fun t4 => (if (3 : Int) = 0 then none else (output_Step_s.l3 k [t4] (wrap64 (Int.tdiv (a0.2.2.1.length : Int) (3 : Int))) (0 : Int) a0))))))
def output_Step_s.c : Sym.Callee := ⟨(.cons (.cons (.int .i64) (.cons (.int .i64) (.cons (.sl (.int .i64)) (.cons (.sl .bool) (.cons (.sl (.cons (.int .i64) (.cons (.int .i64) (.cons (.int .i64) .nil)))) (.cons (.int .i64) .nil)))))) .nil), (.sl .str), false, El (.sl .str), fun k x => output_Step_s.f k x.1, fun y => y, []⟩
noncomputable def output_Step_s.E : Env (El (.sl .str)) := envOf tab Try.f19 false (.sl .str) [] (fun y => y) [(34, num_Tell.c), (23, output_Word.c), (39, output_line.c), (40, output_group_s.c), (8, events_Line.c)] [⟨3, ⟨48, [(3, (.sl .str), [⟨0, 4, 9, 1⟩]), (22, (.int .i64), []), (23, (.int .i64), [])], [(1, (.cons (.int .i64) (.cons (.int .i64) (.cons (.sl (.int .i64)) (.cons (.sl .bool) (.cons (.sl (.cons (.int .i64) (.cons (.int .i64) (.cons (.int .i64) .nil)))) (.cons (.int .i64) .nil)))))), [])], []⟩, fun k y => output_Step_s.l3 k y.1.1 y.1.2.1 y.1.2.2.1 y.2.1.1⟩, ⟨8, ⟨48, [(3, (.sl .str), [⟨0, 4, 9, 1⟩]), (34, (.sl (.cons (.int .i64) (.cons (.int .i64) (.cons (.int .i64) .nil)))), []), (35, (.int .i64), []), (36, (.int .i64), [])], [], []⟩, fun k y => output_Step_s.l8 k y.1.1 y.1.2.1 y.1.2.2.1 y.1.2.2.2.1⟩] []
theorem output_Step_s.h1 : (obls output_Step_s.E Try.f19).map Ob.left = (obls output_Step_s.E Try.f19).map Ob.right := by kernel_rfl
theorem output_Step_s.h2 : (fun k x => output_Step_s.c.fn k x) = fun k x => mainK output_Step_s.E Try.f19 output_Step_s.c.dom k x := by kernel_rfl
theorem output_Step_s.ok : CalleeOk Try.prog 19 output_Step_s.c := fn_ok tabOk mixed (fun _ => rfl) Try.func19 rfl (by kernel_rfl) (ok_cons num_Tell.ok (ok_cons output_Word.ok (ok_cons output_line.ok (ok_cons output_group_s.ok (ok_cons events_Line.ok ok_nil))))) (.of_eq output_Step_s.h1) (fun k x _ h => (congrFun (congrFun output_Step_s.h2 k) x).symm.trans h)
theorem output_Step_s.mono_c : ∀ k, (∀ x3 x22 x23 b1, Lo (output_Step_s.l3 k x3 x22 x23 b1) (output_Step_s.l3 (k + 1) x3 x22 x23 b1)) ∧ (∀ x3 x34 x35 x36, Lo (output_Step_s.l8 k x3 x34 x35 x36) (output_Step_s.l8 (k + 1) x3 x34 x35 x36)) ∧ True
  | 0 => ⟨fun _ _ _ _ => by rw [output_Step_s.l3]; exact lo_none _, fun _ _ _ _ => by rw [output_Step_s.l8]; exact lo_none _, trivial⟩
  | k + 1 => by
    obtain ⟨h_l3, h_l8, _⟩ := output_Step_s.mono_c k
    exact ⟨fun _ _ _ _ => by rw [output_Step_s.l3, output_Step_s.l3]; repeat' first | (with_reducible exact lo_refl _) | (with_reducible exact h_l3 _ _ _ _) | (with_reducible exact h_l8 _ _ _ _) | (with_reducible refine lo_ite (fun _ => ?_) (fun _ => ?_)) | (with_reducible refine lo_bind2 ?_ (fun _ => ?_)) | (with_reducible exact lo_leo (events_Line.mono _ _ _ _)) | (with_reducible exact lo_leo (num_Tell.mono _ _)) | (with_reducible exact lo_of (output_group_s.mono _ _ _)), fun _ _ _ _ => by rw [output_Step_s.l8, output_Step_s.l8]; repeat' first | (with_reducible exact lo_refl _) | (with_reducible exact h_l3 _ _ _ _) | (with_reducible exact h_l8 _ _ _ _) | (with_reducible refine lo_ite (fun _ => ?_) (fun _ => ?_)) | (with_reducible refine lo_bind2 ?_ (fun _ => ?_)) | (with_reducible exact lo_leo (events_Line.mono _ _ _ _)) | (with_reducible exact lo_leo (num_Tell.mono _ _)) | (with_reducible exact lo_of (output_group_s.mono _ _ _)), trivial⟩
theorem output_Step_s.mono : ∀ k a0, Lo (output_Step_s.f k a0) (output_Step_s.f (k + 1) a0) := by
  intro k a0
  obtain ⟨h_l3, h_l8, _⟩ := output_Step_s.mono_c k
  unfold output_Step_s.f
  repeat' first | (with_reducible exact lo_refl _) | (with_reducible exact h_l3 _ _ _ _) | (with_reducible exact h_l8 _ _ _ _) | (with_reducible refine lo_ite (fun _ => ?_) (fun _ => ?_)) | (with_reducible refine lo_bind2 ?_ (fun _ => ?_)) | (with_reducible exact lo_leo (events_Line.mono _ _ _ _)) | (with_reducible exact lo_leo (num_Tell.mono _ _)) | (with_reducible exact lo_of (output_group_s.mono _ _ _))
def swa_Check.c : Sym.Callee := ⟨(.cons (.cons (.int .i64) (.cons (.sl (.int .i64)) .nil)) .nil), (.int .i64), false, Int, fun k x => swa_Check.f x.1.1 x.1.2.1, fun z => z, []⟩
def swa_Check.nf (k : Nat) (a0_0 : Int) (a0_1 : List Int) : Option (Int) := (if a0_0 < (0 : Int) then (some (1 : Int)) else (if a0_0 > (1048576 : Int) then (some (1 : Int)) else (if a0_0 = (0 : Int) then (if (a0_1.length : Int) > (0 : Int) then (some (1 : Int)) else (some (0 : Int))) else (some (0 : Int)))))
noncomputable def swa_Check.E : Env (Int) := envOf tab Try.f62 false (.int .i64) [] (fun y => y) [] [] []
theorem swa_Check.h1 : obls swa_Check.E Try.f62 = [] := by kernel_rfl
theorem swa_Check.h2 : (fun k (x : El (.cons (.cons (.int .i64) (.cons (.sl (.int .i64)) .nil)) .nil)) => swa_Check.nf k x.1.1 x.1.2.1) = fun k x => mainK swa_Check.E Try.f62 (.cons (.cons (.int .i64) (.cons (.sl (.int .i64)) .nil)) .nil) k x := by kernel_rfl
set_option maxHeartbeats 2000000 in
theorem swa_Check.bf (k : Nat) (a0_0 : Int) (a0_1 : List Int) : Lo (swa_Check.f a0_0 a0_1) (swa_Check.nf k a0_0 a0_1) := by
  unfold swa_Check.f swa_Check.nf
  try simp only [Bool.false_xor, Bool.true_xor, wu8_64, wu8_u64, byL_nums, btS_bt, nil_tl, beq_decL, beq_decI]
  repeat' first
    | (with_reducible exact lo_refl _)
    | exact lo_none _
    | (with_reducible refine lo_lpos (by first | assumption | decide) ?_)
    | (with_reducible refine lo_lneg (by first | assumption | decide) ?_)
    | (with_reducible refine lo_ite (fun _ => ?_) (fun _ => ?_))
    | (with_reducible refine lo_bind (fun _ => ?_))
    | (with_reducible refine lo_left ?_)
    | (refine lo_neg (by decide) ?_)
    | (refine lo_pos (by first | assumption | omega) ?_)
    | (refine lo_neg (by first | assumption | omega) ?_)
    | (with_reducible refine lo_test (fun _ => by first | assumption | omega | (simp only [List.length_cons, List.length_nil]; omega) | decide) (fun _ => ?_))
    | (with_reducible refine lo_testn (fun _ => by first | assumption | omega) (fun _ => ?_))
    | (with_reducible refine lo_and (fun z => by first | exact z.1 | omega) (fun z => by first | exact z.2 | omega) (fun _ => ?_))
    | exact lo_refl _
    | (with_reducible refine lo_iff (by first | exact Iff.rfl | omega | (simp; done) | decide) (fun _ => ?_) (fun _ => ?_))
    | (with_reducible refine lo_iffn (by first | exact Iff.rfl | omega | (simp; done) | decide) (fun _ => ?_) (fun _ => ?_))
    | refine lo_ite (fun _ => ?_) (fun _ => ?_)
    | refine lo_bind (fun _ => ?_)
    | (refine lo_some ?_; first | rfl | (rw [Bool.false_xor]; rfl) | (rw [Bool.true_xor]; rfl) | (simp only [Bool.and_true]; rfl) | (simp; done))
    | (simp only [Int.zero_sub]; exact lo_refl _)
    | (with_reducible refine lo_lpos (by omega) ?_)
    | (with_reducible refine lo_lneg (by omega) ?_)
    | (with_reducible refine lo_lite (fun _ => ?_) (fun _ => ?_))
    | (with_reducible refine lo_rite (fun _ => ?_) (fun _ => ?_))
  all_goals (exfalso; first | omega | (simp_all; done) | (simp_all; omega))
theorem swa_Check.al : AllLe (obls swa_Check.E Try.f62) := by
  rw [swa_Check.h1]
  exact .nil
theorem swa_Check.ok : CalleeOk Try.prog 62 swa_Check.c := fn_ok tabOk mixed (fun _ => rfl) Try.func62 rfl (by kernel_rfl) ok_nil swa_Check.al (fun k x r h => (congrFun (congrFun swa_Check.h2 k) x).symm.trans (swa_Check.bf k _ _ r h))
def fix_Signed.c : Sym.Callee := ⟨(.cons (.int .u64) (.cons .bool .nil)), (.cons (.int .i64) (.cons (.int .i64) .nil)), true, Int × Int, fun k x => fix_Signed.f k x.1 x.2.1, fun z => (z.1, z.2, ()), []⟩
def fix_Signed.nf (k : Nat) (a0 : Int) (a1 : Bool) : Option (Int × Int) := (if a1 = true then (if a0 ≤ (9223372036854775808 : Int) then (some ((wrap64 ((IntKind.wrap .u64 (-a0)))), (0 : Int))) else (if (!a1) = true then (if a0 < (9223372036854775808 : Int) then (some ((wrap64 (a0)), (0 : Int))) else (some ((0 : Int), (4 : Int)))) else (some ((0 : Int), (4 : Int))))) else (if (!a1) = true then (if a0 < (9223372036854775808 : Int) then (some ((wrap64 (a0)), (0 : Int))) else (some ((0 : Int), (4 : Int)))) else (some ((0 : Int), (4 : Int)))))
noncomputable def fix_Signed.E : Env (Int × Int) := envOf tab Try.f64 true (.cons (.int .i64) (.cons (.int .i64) .nil)) [] (fun y => (y.1, y.2.1)) [] [] []
theorem fix_Signed.h1 : obls fix_Signed.E Try.f64 = [] := by kernel_rfl
theorem fix_Signed.h2 : (fun k (x : El (.cons (.int .u64) (.cons .bool .nil))) => fix_Signed.nf k x.1 x.2.1) = fun k x => mainK fix_Signed.E Try.f64 (.cons (.int .u64) (.cons .bool .nil)) k x := by kernel_rfl
set_option maxHeartbeats 2000000 in
theorem fix_Signed.bf (k : Nat) (a0 : Int) (a1 : Bool) : Lo (fix_Signed.f k a0 a1) (fix_Signed.nf k a0 a1) := by
  unfold fix_Signed.f fix_Signed.nf
  try simp only [Bool.false_xor, Bool.true_xor, wu8_64, wu8_u64, byL_nums, btS_bt, nil_tl, beq_decL, beq_decI]
  repeat' first
    | (with_reducible exact lo_refl _)
    | exact lo_none _
    | (with_reducible refine lo_lpos (by first | assumption | decide) ?_)
    | (with_reducible refine lo_lneg (by first | assumption | decide) ?_)
    | (with_reducible refine lo_ite (fun _ => ?_) (fun _ => ?_))
    | (with_reducible refine lo_bind (fun _ => ?_))
    | (with_reducible refine lo_left ?_)
    | (refine lo_neg (by decide) ?_)
    | (refine lo_pos (by first | assumption | omega) ?_)
    | (refine lo_neg (by first | assumption | omega) ?_)
    | (refine lo_trans (fun r h => (fix_Signed.mono_l _) _ _ _ r h) ?_; rw [fix_Signed.j0]; try simp only [decide_eq_true_eq])
    | (with_reducible refine lo_test (fun _ => by first | assumption | omega | (simp only [List.length_cons, List.length_nil]; omega) | decide) (fun _ => ?_))
    | (with_reducible refine lo_testn (fun _ => by first | assumption | omega) (fun _ => ?_))
    | (with_reducible refine lo_and (fun z => by first | exact z.1 | omega) (fun z => by first | exact z.2 | omega) (fun _ => ?_))
    | exact lo_refl _
    | (with_reducible refine lo_iff (by first | exact Iff.rfl | omega | (simp; done) | decide) (fun _ => ?_) (fun _ => ?_))
    | (with_reducible refine lo_iffn (by first | exact Iff.rfl | omega | (simp; done) | decide) (fun _ => ?_) (fun _ => ?_))
    | refine lo_ite (fun _ => ?_) (fun _ => ?_)
    | refine lo_bind (fun _ => ?_)
    | (refine lo_some ?_; first | rfl | (rw [Bool.false_xor]; rfl) | (rw [Bool.true_xor]; rfl) | (simp only [Bool.and_true]; rfl) | (simp; done))
    | (simp only [Int.zero_sub]; exact lo_refl _)
    | (with_reducible refine lo_lpos (by omega) ?_)
    | (with_reducible refine lo_lneg (by omega) ?_)
    | (with_reducible refine lo_lite (fun _ => ?_) (fun _ => ?_))
    | (with_reducible refine lo_rite (fun _ => ?_) (fun _ => ?_))
  all_goals (exfalso; first | omega | (simp_all; done) | (simp_all; omega))
theorem fix_Signed.al : AllLe (obls fix_Signed.E Try.f64) := by
  rw [fix_Signed.h1]
  exact .nil
theorem fix_Signed.ok : CalleeOk Try.prog 64 fix_Signed.c := fn_ok tabOk mixed (fun _ => rfl) Try.func64 rfl (by kernel_rfl) ok_nil fix_Signed.al (fun k x r h => (congrFun (congrFun fix_Signed.h2 k) x).symm.trans (fix_Signed.bf k _ _ r h))
def swa_Mean.c : Sym.Callee := ⟨(.cons (.cons (.int .i64) (.cons (.sl (.int .i64)) .nil)) .nil), (.cons (.sl (.int .i64)) (.cons (.int .i64) .nil)), true, (List Int) × Int, fun k x => swa_Mean.f k x.1.1 x.1.2.1, fun z => (z.1, z.2, ()), []⟩
def swa_Mean.nl0 (k : Nat) (x5 : List Int) (x18 : List Int) (x19 : Int) (x20 : Int) (b1_0 : Int) (b1_1 : List Int) : Option ((List Int) × Int) := (if x20 < x19 then (if 0 ≤ x20 then (if x20 < (x18.length : Int) then ((fix_Size.f (x18.getD (x20).toNat 0)).bind fun t2 => ((half_Near.f k (0 : Int) t2 (IntKind.wrap .u64 (b1_0))).bind fun t3 => ((fix_Signed.f k t3.1 (xor false (decide ((x18.getD (x20).toNat 0) < (0 : Int))))).bind fun t4 => (if (x5.length + [t4.1].length) * 8 ≤ 140737488355328 then (swa_Mean.l0 k (x5 ++ [t4.1]) x18 x19 (wrap64 (x20 + (1 : Int))) b1_0 b1_1) else none)))) else none) else none) else (some (x5, (0 : Int))))
def swa_Mean.nf (k : Nat) (a0_0 : Int) (a0_1 : List Int) : Option ((List Int) × Int) := ((swa_Check.f a0_0 a0_1).bind fun t1 => (if t1 = (0 : Int) then (swa_Mean.l0 k ([] : List Int) a0_1 (a0_1.length : Int) (0 : Int) a0_0 a0_1) else (some (([] : List Int), t1))))
noncomputable def swa_Mean.E : Env ((List Int) × Int) := envOf tab Try.f44 true (.cons (.sl (.int .i64)) (.cons (.int .i64) .nil)) [] (fun y => (y.1, y.2.1)) [(62, swa_Check.c), (60, fix_Size.c), (63, half_Near.c), (64, fix_Signed.c)] [⟨6, ⟨47, [(5, (.sl (.int .i64)), [⟨0, 6, 3, 1⟩]), (18, (.sl (.int .i64)), []), (19, (.int .i64), []), (20, (.int .i64), [])], [(1, (.cons (.int .i64) (.cons (.sl (.int .i64)) .nil)), [])], []⟩, fun k y => swa_Mean.l0 k y.1.1 y.1.2.1 y.1.2.2.1 y.1.2.2.2.1 y.2.1.1.1 y.2.1.1.2.1⟩] []
theorem swa_Mean.h1 : obls swa_Mean.E Try.f44 = [⟨(.cons (.cons (.sl (.int .i64)) (.cons (.sl (.int .i64)) (.cons (.int .i64) (.cons (.int .i64) .nil)))) (.cons (.cons (.cons (.int .i64) (.cons (.sl (.int .i64)) .nil)) .nil) (.cons .nil .nil))), fun k y => swa_Mean.l0 (k + 1) y.1.1 y.1.2.1 y.1.2.2.1 y.1.2.2.2.1 y.2.1.1.1 y.2.1.1.2.1, fun k y => swa_Mean.nl0 k y.1.1 y.1.2.1 y.1.2.2.1 y.1.2.2.2.1 y.2.1.1.1 y.2.1.1.2.1⟩, ⟨(.cons (.cons (.sl (.int .i64)) (.cons (.sl (.int .i64)) (.cons (.int .i64) (.cons (.int .i64) .nil)))) (.cons (.cons (.cons (.int .i64) (.cons (.sl (.int .i64)) .nil)) .nil) (.cons .nil .nil))), fun _ y => swa_Mean.l0 0 y.1.1 y.1.2.1 y.1.2.2.1 y.1.2.2.2.1 y.2.1.1.1 y.2.1.1.2.1, fun _ _ => none⟩] := by kernel_rfl
theorem swa_Mean.h2 : (fun k (x : El (.cons (.cons (.int .i64) (.cons (.sl (.int .i64)) .nil)) .nil)) => swa_Mean.nf k x.1.1 x.1.2.1) = fun k x => mainK swa_Mean.E Try.f44 (.cons (.cons (.int .i64) (.cons (.sl (.int .i64)) .nil)) .nil) k x := by kernel_rfl
theorem swa_Mean.bl0 (k : Nat) (x5 : List Int) (x18 : List Int) (x19 : Int) (x20 : Int) (b1_0 : Int) (b1_1 : List Int) : Lo (swa_Mean.l0 (k + 1) x5 x18 x19 x20 b1_0 b1_1) (swa_Mean.nl0 k x5 x18 x19 x20 b1_0 b1_1) := by
  rw [swa_Mean.l0]
  unfold swa_Mean.nl0
  try simp only [Bool.false_xor, Bool.true_xor, wu8_64, wu8_u64, byL_nums, btS_bt, nil_tl, beq_decL, beq_decI]
  repeat' first
    | (with_reducible exact lo_refl _)
    | exact lo_none _
    | (with_reducible refine lo_lpos (by first | assumption | decide) ?_)
    | (with_reducible refine lo_lneg (by first | assumption | decide) ?_)
    | (with_reducible refine lo_ite (fun _ => ?_) (fun _ => ?_))
    | (with_reducible refine lo_bind (fun _ => ?_))
    | (with_reducible refine lo_left ?_)
    | (refine lo_neg (by decide) ?_)
    | (refine lo_pos (by first | assumption | omega) ?_)
    | (refine lo_neg (by first | assumption | omega) ?_)
    | (with_reducible refine lo_test (fun _ => by first | assumption | omega | (simp only [List.length_cons, List.length_nil]; omega) | decide) (fun _ => ?_))
    | (with_reducible refine lo_testn (fun _ => by first | assumption | omega) (fun _ => ?_))
    | (with_reducible refine lo_and (fun z => by first | exact z.1 | omega) (fun z => by first | exact z.2 | omega) (fun _ => ?_))
    | exact lo_refl _
    | (with_reducible refine lo_iff (by first | exact Iff.rfl | omega | (simp; done) | decide) (fun _ => ?_) (fun _ => ?_))
    | (with_reducible refine lo_iffn (by first | exact Iff.rfl | omega | (simp; done) | decide) (fun _ => ?_) (fun _ => ?_))
    | refine lo_ite (fun _ => ?_) (fun _ => ?_)
    | refine lo_bind (fun _ => ?_)
    | (refine lo_some ?_; first | rfl | (rw [Bool.false_xor]; rfl) | (rw [Bool.true_xor]; rfl) | (simp only [Bool.and_true]; rfl) | (simp; done))
    | (simp only [Int.zero_sub]; exact lo_refl _)
    | (with_reducible refine lo_lpos (by omega) ?_)
    | (with_reducible refine lo_lneg (by omega) ?_)
    | (with_reducible refine lo_lite (fun _ => ?_) (fun _ => ?_))
    | (with_reducible refine lo_rite (fun _ => ?_) (fun _ => ?_))
  all_goals (exfalso; first | omega | (simp_all; done) | (simp_all; omega))
set_option maxHeartbeats 2000000 in
theorem swa_Mean.bf (k : Nat) (a0_0 : Int) (a0_1 : List Int) : Lo (swa_Mean.f k a0_0 a0_1) (swa_Mean.nf k a0_0 a0_1) := by
  unfold swa_Mean.f swa_Mean.nf
  try simp only [Bool.false_xor, Bool.true_xor, wu8_64, wu8_u64, byL_nums, btS_bt, nil_tl, beq_decL, beq_decI]
  repeat' first
    | (with_reducible exact lo_refl _)
    | exact lo_none _
    | (with_reducible refine lo_lpos (by first | assumption | decide) ?_)
    | (with_reducible refine lo_lneg (by first | assumption | decide) ?_)
    | (with_reducible refine lo_ite (fun _ => ?_) (fun _ => ?_))
    | (with_reducible refine lo_bind (fun _ => ?_))
    | (with_reducible refine lo_left ?_)
    | (refine lo_neg (by decide) ?_)
    | (refine lo_pos (by first | assumption | omega) ?_)
    | (refine lo_neg (by first | assumption | omega) ?_)
    | (with_reducible refine lo_test (fun _ => by first | assumption | omega | (simp only [List.length_cons, List.length_nil]; omega) | decide) (fun _ => ?_))
    | (with_reducible refine lo_testn (fun _ => by first | assumption | omega) (fun _ => ?_))
    | (with_reducible refine lo_and (fun z => by first | exact z.1 | omega) (fun z => by first | exact z.2 | omega) (fun _ => ?_))
    | exact lo_refl _
    | (with_reducible refine lo_iff (by first | exact Iff.rfl | omega | (simp; done) | decide) (fun _ => ?_) (fun _ => ?_))
    | (with_reducible refine lo_iffn (by first | exact Iff.rfl | omega | (simp; done) | decide) (fun _ => ?_) (fun _ => ?_))
    | refine lo_ite (fun _ => ?_) (fun _ => ?_)
    | refine lo_bind (fun _ => ?_)
    | (refine lo_some ?_; first | rfl | (rw [Bool.false_xor]; rfl) | (rw [Bool.true_xor]; rfl) | (simp only [Bool.and_true]; rfl) | (simp; done))
    | (simp only [Int.zero_sub]; exact lo_refl _)
    | (with_reducible refine lo_lpos (by omega) ?_)
    | (with_reducible refine lo_lneg (by omega) ?_)
    | (with_reducible refine lo_lite (fun _ => ?_) (fun _ => ?_))
    | (with_reducible refine lo_rite (fun _ => ?_) (fun _ => ?_))
  all_goals (exfalso; first | omega | (simp_all; done) | (simp_all; omega))
theorem swa_Mean.al : AllLe (obls swa_Mean.E Try.f44) := by
  rw [swa_Mean.h1]
  exact (.cons (fun k y r h => swa_Mean.bl0 k y.1.1 y.1.2.1 y.1.2.2.1 y.1.2.2.2.1 y.2.1.1.1 y.2.1.1.2.1 r h) (.cons (fun _ y r h => by simp [swa_Mean.l0] at h) .nil))
theorem swa_Mean.ok : CalleeOk Try.prog 44 swa_Mean.c := fn_ok tabOk mixed (fun _ => rfl) Try.func44 rfl (by kernel_rfl) (ok_cons swa_Check.ok (ok_cons fix_Size.ok (ok_cons half_Near.ok (ok_cons fix_Signed.ok ok_nil)))) swa_Mean.al (fun k x r h => (congrFun (congrFun swa_Mean.h2 k) x).symm.trans (swa_Mean.bf k _ _ r h))
mutual
def output_State_s.l3 : Nat → (List ByteArray) → (List (Int × Int × Unit)) → Int → Int → (Int × Int × Int × (Bool × Int × Int × Unit) × ((Bool × Int × Int × Unit) × Int × Int × Unit) × (List (Int × Int × Unit)) × (List Int) × (Int × (List Int) × Unit) × Unit) → Option (List ByteArray)
  | 0, _, _, _, _, _ => none
  | k + 1, x3, x18, x19, x20, b1 => (if x20 < x19 then (if 0 ≤ x20 then (if x20 < (x18.length : Int) then ((num_Tell.f k ((x18.getD (x20).toNat (0, 0, ())).1)).bind fun t4 => ((dec_Put.f k ((x18.getD (x20).toNat (0, 0, ())).2.1)).bind fun t5 => ((output_line.f [(⟨#[107, 101, 112, 116]⟩ : ByteArray), t4, t5]).bind fun t6 => (if (x3.length + [t6].length) * 16 ≤ 140737488355328 then (output_State_s.l3 k (x3 ++ [t6]) x18 x19 (wrap64 (x20 + (1 : Int))) b1) else none)))) else none) else none) else (if (b1.2.2.2.2.2.2.1.length : Int) > (0 : Int) then ((output_decimals.f k b1.2.2.2.2.2.2.1).bind fun t7 => (if ([(⟨#[101, 109, 97]⟩ : ByteArray)].length + t7.length) * 16 ≤ 140737488355328 then ((output_line.f ([(⟨#[101, 109, 97]⟩ : ByteArray)] ++ t7)).bind fun t8 => (if (x3.length + [t8].length) * 16 ≤ 140737488355328 then (output_State_s.j9 k (x3 ++ [t8]) b1) else none)) else none)) else (output_State_s.j9 k x3 b1)))
def output_State_s.j9 : Nat → (List ByteArray) → (Int × Int × Int × (Bool × Int × Int × Unit) × ((Bool × Int × Int × Unit) × Int × Int × Unit) × (List (Int × Int × Unit)) × (List Int) × (Int × (List Int) × Unit) × Unit) → Option (List ByteArray)
  | 0, _, _ => none
  | k + 1, x3, b1 => ((swa_Mean.f k b1.2.2.2.2.2.2.2.1.1 b1.2.2.2.2.2.2.2.1.2.1).bind fun t9 => (if t9.2 = (0 : Int) then (if b1.2.2.2.2.2.2.2.1.1 > (0 : Int) then ((num_Tell.f k b1.2.2.2.2.2.2.2.1.1).bind fun t10 => ((output_decimals.f k t9.1).bind fun t11 => (if ([(⟨#[115, 119, 97]⟩ : ByteArray), t10].length + t11.length) * 16 ≤ 140737488355328 then ((output_line.f ([(⟨#[115, 119, 97]⟩ : ByteArray), t10] ++ t11)).bind fun t12 => (if (x3.length + [t12].length) * 16 ≤ 140737488355328 then (output_State_s.j12 k (x3 ++ [t12])) else none)) else none))) else (output_State_s.j12 k x3)) else (output_State_s.j12 k x3)))
def output_State_s.j12 : Nat → (List ByteArray) → Option (List ByteArray)
  | 0, _ => none
  | k + 1, x3 => (some x3)
end
def output_State_s.f (k : Nat) (a0 : Int × Int × Int × (Bool × Int × Int × Unit) × ((Bool × Int × Int × Unit) × Int × Int × Unit) × (List (Int × Int × Unit)) × (List Int) × (Int × (List Int) × Unit) × Unit) : Option (List ByteArray) := ((output_Word.f a0.2.1).bind fun t1 => ((num_Tell.f k a0.1).bind fun t2 => ((output_line.f [(⟨#[115, 116, 97, 116, 101]⟩ : ByteArray), t1, t2]).bind fun t3 => (output_State_s.l3 k [t3] a0.2.2.2.2.2.1 (a0.2.2.2.2.2.1.length : Int) (0 : Int) a0))))
def output_State_s.c : Sym.Callee := ⟨(.cons (.cons (.int .i64) (.cons (.int .i64) (.cons (.int .i64) (.cons (.cons .bool (.cons (.int .i64) (.cons (.int .i64) .nil))) (.cons (.cons (.cons .bool (.cons (.int .i64) (.cons (.int .i64) .nil))) (.cons (.int .i64) (.cons (.int .i64) .nil))) (.cons (.sl (.cons (.int .i64) (.cons (.int .i64) .nil))) (.cons (.sl (.int .i64)) (.cons (.cons (.int .i64) (.cons (.sl (.int .i64)) .nil)) .nil)))))))) .nil), (.sl .str), false, El (.sl .str), fun k x => output_State_s.f k x.1, fun y => y, []⟩
noncomputable def output_State_s.E : Env (El (.sl .str)) := envOf tab Try.f21 false (.sl .str) [] (fun y => y) [(23, output_Word.c), (34, num_Tell.c), (39, output_line.c), (42, dec_Put.c), (43, output_decimals.c), (44, swa_Mean.c)] [⟨3, ⟨76, [(3, (.sl .str), [⟨0, 4, 9, 1⟩]), (18, (.sl (.cons (.int .i64) (.cons (.int .i64) .nil))), []), (19, (.int .i64), []), (20, (.int .i64), [])], [(1, (.cons (.int .i64) (.cons (.int .i64) (.cons (.int .i64) (.cons (.cons .bool (.cons (.int .i64) (.cons (.int .i64) .nil))) (.cons (.cons (.cons .bool (.cons (.int .i64) (.cons (.int .i64) .nil))) (.cons (.int .i64) (.cons (.int .i64) .nil))) (.cons (.sl (.cons (.int .i64) (.cons (.int .i64) .nil))) (.cons (.sl (.int .i64)) (.cons (.cons (.int .i64) (.cons (.sl (.int .i64)) .nil)) .nil)))))))), [])], []⟩, fun k y => output_State_s.l3 k y.1.1 y.1.2.1 y.1.2.2.1 y.1.2.2.2.1 y.2.1.1⟩] [⟨9, ⟨76, [(3, (.sl .str), [⟨0, 4, 9, 1⟩])], [(1, (.cons (.int .i64) (.cons (.int .i64) (.cons (.int .i64) (.cons (.cons .bool (.cons (.int .i64) (.cons (.int .i64) .nil))) (.cons (.cons (.cons .bool (.cons (.int .i64) (.cons (.int .i64) .nil))) (.cons (.int .i64) (.cons (.int .i64) .nil))) (.cons (.sl (.cons (.int .i64) (.cons (.int .i64) .nil))) (.cons (.sl (.int .i64)) (.cons (.cons (.int .i64) (.cons (.sl (.int .i64)) .nil)) .nil)))))))), [])], []⟩, fun k y => output_State_s.j9 k y.1.1 y.2.1.1⟩, ⟨12, ⟨76, [(3, (.sl .str), [⟨0, 4, 9, 1⟩])], [], []⟩, fun k y => output_State_s.j12 k y.1.1⟩]
theorem output_State_s.h1 : (obls output_State_s.E Try.f21).map Ob.left = (obls output_State_s.E Try.f21).map Ob.right := by kernel_rfl
theorem output_State_s.h2 : (fun k x => output_State_s.c.fn k x) = fun k x => mainK output_State_s.E Try.f21 output_State_s.c.dom k x := by kernel_rfl
theorem output_State_s.ok : CalleeOk Try.prog 21 output_State_s.c := fn_ok tabOk mixed (fun _ => rfl) Try.func21 rfl (by kernel_rfl) (ok_cons output_Word.ok (ok_cons num_Tell.ok (ok_cons output_line.ok (ok_cons dec_Put.ok (ok_cons output_decimals.ok (ok_cons swa_Mean.ok ok_nil)))))) (.of_eq output_State_s.h1) (fun k x _ h => (congrFun (congrFun output_State_s.h2 k) x).symm.trans h)
theorem output_State_s.mono_c : ∀ k, (∀ x3 x18 x19 x20 b1, Lo (output_State_s.l3 k x3 x18 x19 x20 b1) (output_State_s.l3 (k + 1) x3 x18 x19 x20 b1)) ∧ (∀ x3 b1, Lo (output_State_s.j9 k x3 b1) (output_State_s.j9 (k + 1) x3 b1)) ∧ (∀ x3, Lo (output_State_s.j12 k x3) (output_State_s.j12 (k + 1) x3)) ∧ True
  | 0 => ⟨fun _ _ _ _ _ => by rw [output_State_s.l3]; exact lo_none _, fun _ _ => by rw [output_State_s.j9]; exact lo_none _, fun _ => by rw [output_State_s.j12]; exact lo_none _, trivial⟩
  | k + 1 => by
    obtain ⟨h_l3, h_j9, h_j12, _⟩ := output_State_s.mono_c k
    exact ⟨fun _ _ _ _ _ => by rw [output_State_s.l3, output_State_s.l3]; repeat' first | (with_reducible exact lo_refl _) | (with_reducible exact h_l3 _ _ _ _ _) | (with_reducible exact h_j9 _ _) | (with_reducible exact h_j12 _) | (with_reducible refine lo_ite (fun _ => ?_) (fun _ => ?_)) | (with_reducible refine lo_bind2 ?_ (fun _ => ?_)) | (with_reducible exact lo_leo (num_Tell.mono _ _)) | (with_reducible exact lo_leo (dec_Put.mono _ _)) | (with_reducible exact lo_leo (output_decimals.mono _ _)) | (with_reducible exact lo_leo (swa_Mean.mono _ _ _)), fun _ _ => by rw [output_State_s.j9, output_State_s.j9]; repeat' first | (with_reducible exact lo_refl _) | (with_reducible exact h_l3 _ _ _ _ _) | (with_reducible exact h_j9 _ _) | (with_reducible exact h_j12 _) | (with_reducible refine lo_ite (fun _ => ?_) (fun _ => ?_)) | (with_reducible refine lo_bind2 ?_ (fun _ => ?_)) | (with_reducible exact lo_leo (num_Tell.mono _ _)) | (with_reducible exact lo_leo (dec_Put.mono _ _)) | (with_reducible exact lo_leo (output_decimals.mono _ _)) | (with_reducible exact lo_leo (swa_Mean.mono _ _ _)), fun _ => by rw [output_State_s.j12, output_State_s.j12]; repeat' first | (with_reducible exact lo_refl _) | (with_reducible exact h_l3 _ _ _ _ _) | (with_reducible exact h_j9 _ _) | (with_reducible exact h_j12 _) | (with_reducible refine lo_ite (fun _ => ?_) (fun _ => ?_)) | (with_reducible refine lo_bind2 ?_ (fun _ => ?_)) | (with_reducible exact lo_leo (num_Tell.mono _ _)) | (with_reducible exact lo_leo (dec_Put.mono _ _)) | (with_reducible exact lo_leo (output_decimals.mono _ _)) | (with_reducible exact lo_leo (swa_Mean.mono _ _ _)), trivial⟩
theorem output_State_s.mono : ∀ k a0, Lo (output_State_s.f k a0) (output_State_s.f (k + 1) a0) := by
  intro k a0
  obtain ⟨h_l3, h_j9, h_j12, _⟩ := output_State_s.mono_c k
  unfold output_State_s.f
  repeat' first | (with_reducible exact lo_refl _) | (with_reducible exact h_l3 _ _ _ _ _) | (with_reducible exact h_j9 _ _) | (with_reducible exact h_j12 _) | (with_reducible refine lo_ite (fun _ => ?_) (fun _ => ?_)) | (with_reducible refine lo_bind2 ?_ (fun _ => ?_)) | (with_reducible exact lo_leo (num_Tell.mono _ _)) | (with_reducible exact lo_leo (dec_Put.mono _ _)) | (with_reducible exact lo_leo (output_decimals.mono _ _)) | (with_reducible exact lo_leo (swa_Mean.mono _ _ _))
def regimenlaw45_awake_s.f (k : Nat) : Option Bool := ((output_Step_s.f k ((3 : Int), 0, [(2147483648 : Int), (0 : Int), (0 : Int)], [true], [(0, (7 : Int), (3 : Int), ())], 0, ())).bind fun t1 => ((output_State_s.f k (0, 0, 0, (false, 0, 0, ()), ((false, 0, 0, ()), 0, 0, ()), ([] : List (Int × Int × Unit)), ([] : List Int), ((2 : Int), [(12884901888 : Int)], ()), ())).bind fun t2 => (if (t1.length : Int) = (3 : Int) then (if 0 ≤ (0 : Int) then (if (0 : Int) < (t1.length : Int) then (if (t1.getD ((0 : Int)).toNat (⟨#[]⟩ : ByteArray)).toList = (⟨#[115, 116, 101, 112, 32, 51, 32, 112, 104, 97, 115, 101, 32, 48, 32, 103, 111, 101, 115]⟩ : ByteArray).toList then (if 0 ≤ (1 : Int) then (if (1 : Int) < (t1.length : Int) then (if (t1.getD ((1 : Int)).toNat (⟨#[]⟩ : ByteArray)).toList = (⟨#[32, 32, 103, 114, 111, 117, 112, 32, 48, 32, 48, 46, 53, 32, 48, 32, 48, 32, 102, 114, 111, 122, 101, 110]⟩ : ByteArray).toList then (if 0 ≤ (2 : Int) then (if (2 : Int) < (t1.length : Int) then (if (t1.getD ((2 : Int)).toNat (⟨#[]⟩ : ByteArray)).toList = (⟨#[32, 32, 107, 101, 101, 112, 32, 51]⟩ : ByteArray).toList then (if (t2.length : Int) = (2 : Int) then (if 0 ≤ (1 : Int) then (if (1 : Int) < (t2.length : Int) then (some (xor false (decide ((t2.getD ((1 : Int)).toNat (⟨#[]⟩ : ByteArray)).toList = (⟨#[115, 119, 97, 32, 50, 32, 49, 46, 53]⟩ : ByteArray).toList)))) else none) else none) else (some false)) else (some false)) else none) else none) else (some false)) else none) else none) else (some false)) else none) else none) else (some false))))
def regimenlaw45_awake_s.c : Sym.Callee := ⟨.nil, .bool, false, El .bool, fun k x => regimenlaw45_awake_s.f k, fun y => y, []⟩
noncomputable def regimenlaw45_awake_s.E : Env (El .bool) := envOf tab Try.f17 false .bool [] (fun y => y) [(19, output_Step_s.c), (21, output_State_s.c)] [] []
theorem regimenlaw45_awake_s.h1 : (obls regimenlaw45_awake_s.E Try.f17).map Ob.left = (obls regimenlaw45_awake_s.E Try.f17).map Ob.right := by kernel_rfl
theorem regimenlaw45_awake_s.h2 : (fun k x => regimenlaw45_awake_s.c.fn k x) = fun k x => mainK regimenlaw45_awake_s.E Try.f17 regimenlaw45_awake_s.c.dom k x := by kernel_rfl
theorem regimenlaw45_awake_s.ok : CalleeOk Try.prog 17 regimenlaw45_awake_s.c := fn_ok tabOk mixed (fun _ => rfl) Try.func17 rfl (by kernel_rfl) (ok_cons output_Step_s.ok (ok_cons output_State_s.ok ok_nil)) (.of_eq regimenlaw45_awake_s.h1) (fun k x _ h => (congrFun (congrFun regimenlaw45_awake_s.h2 k) x).symm.trans h)
theorem regimenlaw45_awake_s.mono : ∀ k, Lo (regimenlaw45_awake_s.f k) (regimenlaw45_awake_s.f (k + 1)) := by
  intro k
  unfold regimenlaw45_awake_s.f
  repeat' first | (with_reducible exact lo_refl _) | (with_reducible refine lo_ite (fun _ => ?_) (fun _ => ?_)) | (with_reducible refine lo_bind2 ?_ (fun _ => ?_)) | (with_reducible exact lo_of (output_Step_s.mono _ _)) | (with_reducible exact lo_of (output_State_s.mono _ _))
def regimenlaw37_Light_s.f (k : Nat) (a0 : Int × Int × Int × (Bool × Int × Int × Unit) × ((Bool × Int × Int × Unit) × Int × Int × Unit) × (List (Int × Int × Unit)) × (List Int) × (Int × (List Int) × Unit) × Unit) : Option Bool := (if (a0.2.2.2.2.2.1.length : Int) ≤ (30 : Int) then (if (a0.2.2.2.2.2.2.1.length : Int) ≤ (30 : Int) then (some (xor false (decide ((a0.2.2.2.2.2.2.2.1.2.1.length : Int) ≤ (30 : Int))))) else (some false)) else (some false))
def regimenlaw37_Light_s.c : Sym.Callee := ⟨(.cons (.cons (.int .i64) (.cons (.int .i64) (.cons (.int .i64) (.cons (.cons .bool (.cons (.int .i64) (.cons (.int .i64) .nil))) (.cons (.cons (.cons .bool (.cons (.int .i64) (.cons (.int .i64) .nil))) (.cons (.int .i64) (.cons (.int .i64) .nil))) (.cons (.sl (.cons (.int .i64) (.cons (.int .i64) .nil))) (.cons (.sl (.int .i64)) (.cons (.cons (.int .i64) (.cons (.sl (.int .i64)) .nil)) .nil)))))))) .nil), .bool, false, El .bool, fun k x => regimenlaw37_Light_s.f k x.1, fun y => y, []⟩
noncomputable def regimenlaw37_Light_s.E : Env (El .bool) := envOf tab Try.f16 false .bool [] (fun y => y) [] [] []
theorem regimenlaw37_Light_s.h1 : (obls regimenlaw37_Light_s.E Try.f16).map Ob.left = (obls regimenlaw37_Light_s.E Try.f16).map Ob.right := by kernel_rfl
theorem regimenlaw37_Light_s.h2 : (fun k x => regimenlaw37_Light_s.c.fn k x) = fun k x => mainK regimenlaw37_Light_s.E Try.f16 regimenlaw37_Light_s.c.dom k x := by kernel_rfl
theorem regimenlaw37_Light_s.ok : CalleeOk Try.prog 16 regimenlaw37_Light_s.c := fn_ok tabOk mixed (fun _ => rfl) Try.func16 rfl (by kernel_rfl) ok_nil (.of_eq regimenlaw37_Light_s.h1) (fun k x _ h => (congrFun (congrFun regimenlaw37_Light_s.h2 k) x).symm.trans h)
def regimenlaw45_small_s.f (k : Nat) (a0 : Int × Int × (List Int) × (List Bool) × (List (Int × Int × Int × Unit)) × Int × Unit) : Option Bool := (if (a0.2.2.1.length : Int) ≤ (60 : Int) then (if (a0.2.2.2.1.length : Int) ≤ (60 : Int) then (some (xor false (decide ((a0.2.2.2.2.1.length : Int) ≤ (60 : Int))))) else (some false)) else (some false))
def regimenlaw45_small_s.c : Sym.Callee := ⟨(.cons (.cons (.int .i64) (.cons (.int .i64) (.cons (.sl (.int .i64)) (.cons (.sl .bool) (.cons (.sl (.cons (.int .i64) (.cons (.int .i64) (.cons (.int .i64) .nil)))) (.cons (.int .i64) .nil)))))) .nil), .bool, false, El .bool, fun k x => regimenlaw45_small_s.f k x.1, fun y => y, []⟩
noncomputable def regimenlaw45_small_s.E : Env (El .bool) := envOf tab Try.f15 false .bool [] (fun y => y) [] [] []
theorem regimenlaw45_small_s.h1 : (obls regimenlaw45_small_s.E Try.f15).map Ob.left = (obls regimenlaw45_small_s.E Try.f15).map Ob.right := by kernel_rfl
theorem regimenlaw45_small_s.h2 : (fun k x => regimenlaw45_small_s.c.fn k x) = fun k x => mainK regimenlaw45_small_s.E Try.f15 regimenlaw45_small_s.c.dom k x := by kernel_rfl
theorem regimenlaw45_small_s.ok : CalleeOk Try.prog 15 regimenlaw45_small_s.c := fn_ok tabOk mixed (fun _ => rfl) Try.func15 rfl (by kernel_rfl) ok_nil (.of_eq regimenlaw45_small_s.h1) (fun k x _ h => (congrFun (congrFun regimenlaw45_small_s.h2 k) x).symm.trans h)
section
open Go.Proofs.YtcgdhpnobgimfaaW.PrintMore Go.Proofs.YtcgdhpnobgimfaaW.PrintLast
set_option maxHeartbeats 1000000
theorem info_byte : (Try.prog.info? 5).map (fun i => (i.zero, i.size, i.bytes)) = some (some (.int .u8 0), 1, 1) := by kernel_rfl
/-- A builder at block b that holds bs, its row at v. -/
def BI (b : Nat) (bs : List Value) (v : Value) (W : World) : Prop := (∃ p, (p = .pointer none ∨ p = .pointer (some ⟨b, 0, none⟩)) ∧ W.heap[b]? = some (.cells #[p, v] 82 (0, 0))) ∧ W.ownsRowF b 5 1 v bs.length bs ∧ v.ownBlock ≠ some b
/-- What a writing call leaves alone. -/
def Wr (b : Nat) (v : Value) (W : World) (v' : Value) (W' : World) : Prop := Below b W W' ∧ ∀ k, k < W.heap.size → k ≠ b → v.ownBlock ≠ some k → W'.heap[k]? = W.heap[k]? ∧ v'.ownBlock ≠ some k
theorem Wr.refl (b : Nat) (v : Value) (W : World) : Wr b v W v W := ⟨Below.refl _ _, fun k _ _ h => ⟨rfl, h⟩⟩
theorem Wr.trans {b : Nat} {v v1 v2 : Value} {W W1 W2 : World} (h : Wr b v W v1 W1) (k : Wr b v1 W1 v2 W2) : Wr b v W v2 W2 :=
  ⟨h.1.trans k.1, fun i hi hb hv => by
    obtain ⟨h1, h2⟩ := h.2 i hi hb hv
    obtain ⟨k1, k2⟩ := k.2 i (Nat.lt_of_lt_of_le hi h.1.size) hb h2
    exact ⟨k1.trans h1, k2⟩⟩
theorem bcell {W : World} {b o : Nat} {cs : Array Value} {t : Nat} {fz : Nat × Nat} {v : Value} (h : W.heap[b]? = some (.cells cs t fz)) (hv : cs[o]? = some v) : W.cell? ⟨b, o, none⟩ = some v := by
  unfold World.cell?
  simp [h, hv]
theorem bfrz {W : World} {b o : Nat} {cs : Array Value} {t : Nat} (h : W.heap[b]? = some (.cells cs t (0, 0))) : W.frozen? ⟨b, o, none⟩ = false := by
  unfold World.frozen?
  simp [h]
theorem bset {W : World} {b t : Nat} {p v q : Value} (h : W.heap[b]? = some (.cells #[p, v] t (0, 0))) : (W.setCell ⟨b, 0, none⟩ q).heap[b]? = some (.cells #[q, v] t (0, 0)) ∧ (W.setCell ⟨b, 1, none⟩ q).heap[b]? = some (.cells #[p, q] t (0, 0)) := by
  have hb := (Array.getElem?_eq_some_iff.1 h).1
  unfold World.setCell
  simp [Array.getElem?_modify, h]
theorem own_set {W : World} {b o : Nat} {v q : Value} {n : Nat} {xs : List Value} (h : W.ownsRowF b 5 1 v n xs) (hne : v.ownBlock ≠ some b) : (W.setCell ⟨b, o, none⟩ q).ownsRowF b 5 1 v n xs :=
  h.kept (⟨rfl, rfl, rfl, by simp, fun k hk hkb => Below.heap_setCell W _ _ k (fun e => hkb (by rw [e]))⟩ : W.grownBy (W.setCell ⟨b, o, none⟩ q) (some b)) (.inr hne)
theorem wr_set {W : World} {b o : Nat} {v q : Value} : Wr b v W v (W.setCell ⟨b, o, none⟩ q) :=
  ⟨(Below.refl b W).setCell (p := ⟨b, o, none⟩) (Nat.le_refl _) _, fun k hk hb hv => ⟨Below.heap_setCell W _ _ k hb, hv⟩⟩
theorem check_calls (b : Nat) (bs : List Value) (v : Value) (w : World) (h : BI b bs v w) :
    Calls Try.prog 68 #[.pointer (some ⟨b, 0, none⟩)] w fun e w' => e = .returned (.tuple #[]) ∧ w'.heap[b]? = some (.cells #[.pointer (some ⟨b, 0, none⟩), v] 82 (0, 0)) ∧ w'.ownsRowF b 5 1 v bs.length bs ∧ Wr b v w v w' := by
  obtain ⟨⟨p, hp, hb⟩, hown, hne⟩ := h
  have ef : layJoin_ren.f 240 = 68 := by kernel_rfl
  have et : layJoin_ren.t 72 = 82 := by kernel_rfl
  rcases hp with rfl | rfl
  · have g := Go.Proofs.Any.Builder_copyCheck_fresh { layJoin with } layJoinX.toX72 b w (bcell (o := 0) hb rfl) (by rw [et]; unfold World.shape?; rw [hb]; rfl) (bfrz (o := 0) hb)
    rw [ef] at g
    refine g.mono ?_
    rintro e w' ⟨rfl, rfl⟩
    exact ⟨rfl, (bset hb).1, own_set hown hne, wr_set⟩
  · have g := Go.Proofs.Any.Builder_copyCheck_used { layJoin with } layJoinX.toX72 b w (bcell (o := 0) hb rfl)
    rw [ef] at g
    refine g.mono ?_
    rintro e w' ⟨rfl, rfl⟩
    exact ⟨rfl, hb, hown, Wr.refl _ _ _⟩
/-- An append to the builder's row lies in that row, or in a new block. -/
theorem app_str {w : World} {b : Nat} {v : Value} {n : Nat} {xs : List Value} (ty : Nat) (hown : w.ownsRowF b 5 1 v n xs) (s : ByteArray) (hs : n + s.size ≤ 1099511627776) (hb : b ≤ w.heap.size) :
    ∃ v' w', (Builtin.append_ #[80, 9] ty #[v, .string s]).run Try.prog w = .ok v' w' ∧ w'.ownsRowF b 5 1 v' (n + s.size) (xs ++ Lib.strCells s) ∧ w.grownBy w' v.ownBlock ∧ ∀ g, v'.ownBlock = some g → v.ownBlock = some g ∨ w.heap.size ≤ g := by
  obtain ⟨i0, hi, hz0, hz1, hz2⟩ := info_parts info_byte
  have hm : n + s.size ≤ maxLen := by unfold maxLen; omega
  have law : ∀ B, w.ownsRowF B 5 1 v n xs → B ≤ w.heap.size → _ := fun B ho hB => Lib.run_append_own_stringF (P := Try.prog) w B 80 9 ty 5 i0 Try.underlying80 Try.underlying9 hi hz0 hz1 hz2 v n xs ho s hm (by omega) hB
  obtain ⟨v', w', h1, h2, h3, _⟩ := law b hown hb
  refine ⟨v', w', h1, h2, h3, fun g hg => ?_⟩
  rcases hown.2 with ⟨rfl, rfl⟩ | ⟨g0, cap, cur, fz, rfl, hbg, hg0, hfz, hnc, hcm, hcs, htake⟩
  · obtain ⟨v2, w2, k1, k2, _, _⟩ := law w.heap.size ⟨hown.1, .inl ⟨rfl, rfl⟩⟩ (Nat.le_refl _)
    rw [h1] at k1
    obtain ⟨rfl, rfl⟩ : v' = v2 ∧ w' = w2 := by injection k1 with a b; exact ⟨a, b⟩
    exact .inr (k2.lt g hg).1
  · by_cases hr : n + s.size ≤ cap
    · have e := Lib.run_append_room_stringF (P := Try.prog) w 80 9 ty 5 i0 Try.underlying80 Try.underlying9 hi hz1 g0 n cap cur fz hg0 (by simpa using hfz) s hr (by rw [hcs]; omega)
      rw [h1] at e
      injection e with a _
      rw [a] at hg
      exact .inl hg
    · have e := Lib.run_append_grow_string (P := Try.prog) w 80 9 ty 5 i0 (.int .u8 0) Try.underlying80 Try.underlying9 hi hz0 ⟨g0, 0, none⟩ n cap xs (by rw [hz1]; exact hown.1) (hown.cells (g := g0) rfl) s (by omega) (by omega) (by rw [hz2]; exact growslice_fits (by omega) (by omega))
      rw [h1] at e
      injection e with a _
      rw [a] at hg
      simp [Value.ownBlock] at hg
      exact .inr (by omega)
theorem app_byte {w : World} {b : Nat} {v : Value} {n : Nat} {xs : List Value} (ty : Nat) (hown : w.ownsRowF b 5 1 v n xs) (ad : Addr) (c : Nat) (u : Value) (hu : w.cell? ad = some u) (h1u : u.oneCell' = true) (hs : n + 1 ≤ 1099511627776) (hb : b ≤ w.heap.size) :
    ∃ v' w', (Builtin.append_ #[80, 80] ty #[v, .slice (some ad) 1 c]).run Try.prog w = .ok v' w' ∧ w'.ownsRowF b 5 1 v' (n + 1) (xs ++ [u]) ∧ w.grownBy w' v.ownBlock ∧ ∀ g, v'.ownBlock = some g → v.ownBlock = some g ∨ w.heap.size ≤ g := by
  obtain ⟨i0, hi, hz0, hz1, hz2⟩ := info_parts info_byte
  have hm : n + 1 ≤ maxLen := by unfold maxLen; omega
  have hc : ∀ (j : Nat) (x : Value), [u][j]? = some x → w.cell? (ad.add j) = some x := fun j x hj => by
    cases j with
    | zero =>
      simp only [List.getElem?_cons_zero, Option.some.injEq] at hj
      subst hj
      rw [show ad.add 0 = ad from by unfold Addr.add; simp]
      exact hu
    | succ j => simp at hj
  have ho : ∀ x ∈ [u], x.oneCell' = true := fun x hx => by rw [List.mem_singleton.1 hx]; exact h1u
  have law : ∀ B, w.ownsRowF B 5 1 v n xs → B ≤ w.heap.size → _ := fun B hw hB => run_append_ownF (P := Try.prog) w B 80 ty 5 i0 (.int .u8 0) 1 1 Try.underlying80 hi hz0 hz1 hz2 rfl (by decide) v n xs hw ad 1 c [u] rfl hc ho hm (by omega) hB
  obtain ⟨v', w', h1, h2, h3, _⟩ := law b hown hb
  refine ⟨v', w', h1, h2, h3, fun g hg => ?_⟩
  rcases hown.2 with ⟨rfl, rfl⟩ | ⟨g0, cap, cur, fz, rfl, hbg, hg0, hfz, hnc, hcm, hcs, htake⟩
  · obtain ⟨v2, w2, k1, k2, _, _⟩ := law w.heap.size ⟨hown.1, .inl ⟨rfl, rfl⟩⟩ (Nat.le_refl _)
    rw [h1] at k1
    obtain ⟨rfl, rfl⟩ : v' = v2 ∧ w' = w2 := by injection k1 with a b; exact ⟨a, b⟩
    exact .inr (k2.lt g hg).1
  · by_cases hr : n + 1 ≤ cap
    · have e := run_append_roomF (P := Try.prog) w 80 ty 5 i0 Try.underlying80 hi g0 n cap cur fz hg0 (by rw [hz1]; exact hfz) ad 1 c [u] (by rw [hz1]; rfl) hc ho hr (by rw [hcs, hz1]; simp; omega)
      rw [h1] at e
      injection e with a _
      rw [a] at hg
      exact .inl hg
    · have e := run_append_grow (P := Try.prog) w 80 ty 5 i0 (.int .u8 0) Try.underlying80 hi hz0 ⟨g0, 0, none⟩ n cap xs (by rw [hz1]; exact hown.1) (hown.cells (g := g0) rfl) ad 1 c [u] (by rw [hz1]; rfl) hc (by omega) (by omega) (by rw [hz2]; exact growslice_fits (by omega) (by omega))
      rw [h1] at e
      injection e with a _
      rw [a] at hg
      simp [Value.ownBlock] at hg
      exact .inr (by omega)
theorem wp_app_str {w : World} {ops : Array Oper} {rest : List Oper} {o : Oper} {a : Act} {Q : Exit → Act → World → Prop} (hgd : o.guard = none) (sl x : Operand) (ho : o.op = .call { callee := .builtin .append, args := #[sl, x], argTypes := #[80, 9] })
    {b : Nat} {v : Value} {n : Nat} {xs : List Value} (hsl : a.eval sl = v) (hown : w.ownsRowF b 5 1 v n xs) (s : ByteArray) (hx : a.eval x = .string s) (hs : n + s.size ≤ 1099511627776) (hb : b ≤ w.heap.size)
    (h : ∀ v' w', w'.ownsRowF b 5 1 v' (n + s.size) (xs ++ Lib.strCells s) → w.grownBy w' v.ownBlock → (∀ g, v'.ownBlock = some g → v.ownBlock = some g ∨ w.heap.size ≤ g) → wpList Try.prog ops Q rest (a.put o.dst v') w') : wpList Try.prog ops Q (o :: rest) a w := by
  refine wpList_plain hgd fun K hK => ?_
  obtain ⟨v', w', hr, h2, h3, h4⟩ := app_str o.type hown s hs hb
  unfold Oper.wp execOp
  simp only [ho, resolve, invoke, builtin, Sem.run_bind, Sem.run_pure, Result.andThen_ok, List.map_toArray, List.map_cons, List.map_nil, hsl, hx, hr]
  exact hK _ _ (h v' w' h2 h3 h4)
theorem wp_app_byte {w : World} {ops : Array Oper} {rest : List Oper} {o : Oper} {a : Act} {Q : Exit → Act → World → Prop} (hgd : o.guard = none) (sl x : Operand) (ho : o.op = .call { callee := .builtin .append, args := #[sl, x], argTypes := #[80, 80] })
    {b : Nat} {v : Value} {n : Nat} {xs : List Value} (hsl : a.eval sl = v) (hown : w.ownsRowF b 5 1 v n xs) (ad : Addr) (c : Nat) (u : Value) (hx : a.eval x = .slice (some ad) 1 c) (hu : w.cell? ad = some u) (h1u : u.oneCell' = true) (hs : n + 1 ≤ 1099511627776) (hb : b ≤ w.heap.size)
    (h : ∀ v' w', w'.ownsRowF b 5 1 v' (n + 1) (xs ++ [u]) → w.grownBy w' v.ownBlock → (∀ g, v'.ownBlock = some g → v.ownBlock = some g ∨ w.heap.size ≤ g) → wpList Try.prog ops Q rest (a.put o.dst v') w') : wpList Try.prog ops Q (o :: rest) a w := by
  refine wpList_plain hgd fun K hK => ?_
  obtain ⟨v', w', hr, h2, h3, h4⟩ := app_byte o.type hown ad c u hu h1u hs hb
  unfold Oper.wp execOp
  simp only [ho, resolve, invoke, builtin, Sem.run_bind, Sem.run_pure, Result.andThen_ok, List.map_toArray, List.map_cons, List.map_nil, hsl, hx, hr]
  exact hK _ _ (h v' w' h2 h3 h4)
/-- Behind an append, its result being stored. -/
theorem after_app {w w2 : World} {b : Nat} {v v' : Value} {xs : List Value} (hb : w.heap[b]? = some (.cells #[.pointer (some ⟨b, 0, none⟩), v] 82 (0, 0))) (hne : v.ownBlock ≠ some b) (ho2 : w2.ownsRowF b 5 1 v' xs.length xs) (hg : w.grownBy w2 v.ownBlock) (hown : ∀ k, v.ownBlock = some k → b ≤ k) (hv : ∀ g, v'.ownBlock = some g → v.ownBlock = some g ∨ w.heap.size ≤ g) :
    w2.heap[b]? = some (.cells #[.pointer (some ⟨b, 0, none⟩), v] 82 (0, 0)) ∧ BI b xs v' (w2.setCell ⟨b, 1, none⟩ v') ∧ Wr b v w v' (w2.setCell ⟨b, 1, none⟩ v') := by
  have hlt := (Array.getElem?_eq_some_iff.1 hb).1
  have h2 : w2.heap[b]? = some (.cells #[.pointer (some ⟨b, 0, none⟩), v] 82 (0, 0)) := (hg.block b hlt (fun e => hne e.symm)).trans hb
  have hne2 : v'.ownBlock ≠ some b := fun e => by
    rcases hv b e with q | q
    · exact hne q
    · omega
  refine ⟨h2, ⟨⟨_, .inr rfl, (bset h2).2⟩, own_set ho2 hne2, hne2⟩, ((Below.refl b w).grown hg (Nat.le_of_lt hlt) hown).trans (wr_set (v := v')).1, fun k hk hkb hkv => ⟨((wr_set (v := v') (W := w2)).2 k (Nat.lt_of_lt_of_le hk hg.size) hkb (fun e => ?_)).1.trans (hg.block k hk (fun e => hkv e.symm)), fun e => ?_⟩⟩
  all_goals
    rcases hv k e with q | q
    · exact hkv q
    · omega
theorem own_slice {w : World} {b n : Nat} {v : Value} {xs : List Value} (h : w.ownsRowF b 5 1 v n xs) : ∃ ao m c, v = .slice ao m c := by
  rcases h.2 with ⟨h, _⟩ | ⟨g, cap, cur, fz, h, _⟩
  · exact ⟨_, _, _, h⟩
  · exact ⟨_, _, _, h⟩
theorem wrs_calls (b : Nat) (bs : List Value) (v : Value) (s : ByteArray) (w : World) (h : BI b bs v w) (hs : bs.length + s.size ≤ 1099511627776) :
    Calls Try.prog 48 #[.pointer (some ⟨b, 0, none⟩), .string s] w fun e w' => (∃ r, e = .returned r) ∧ ∃ v', BI b (bs ++ Lib.strCells s) v' w' ∧ Wr b v w v' w' := by
  have hne := h.2.2
  refine calls_of_wp Try.func48 rfl ?_
  simp only [Try.ntmps48, List.size_toArray, List.length_cons, List.length_nil, Nat.reduceAdd, Nat.reduceSub, Array.replicate_succ, Array.replicate_zero, List.push_toArray, List.append_toArray, List.nil_append, List.cons_append]
  go_wp2_with first
    | (go_at_call 68; refine (check_calls b bs v _ h).mono ?_; rintro e w1 ⟨rfl, hb1, hown, hwr⟩; have c0 := bcell (o := 1) hb1 rfl)
    | (at_builtin; refine wp_app_str rfl _ _ rfl rfl hown s rfl hs (Nat.le_of_lt (Array.getElem?_eq_some_iff.1 hb1).1) ?_; intro v' w2 ho2 hg2 hv2; obtain ⟨ao, m', c', rfl⟩ := own_slice ho2; have hA := after_app hb1 hne (xs := bs ++ Lib.strCells s) (by rw [List.length_append, Lib.strCells_length]; exact ho2) hg2 (fun k hk => (hown.lt k hk).1) hv2; have d1 := bcell (o := 1) hA.1 rfl; have f1 := bfrz (o := 1) hA.1)
  go_ret2
  exact ⟨⟨_, rfl⟩, _, hA.2.1, hwr.trans hA.2.2⟩
theorem wrb_calls (b : Nat) (bs : List Value) (v : Value) (w : World) (h : BI b bs v w) (hs : bs.length + 1 ≤ 1099511627776) :
    Calls Try.prog 49 #[.pointer (some ⟨b, 0, none⟩), .int .u8 10] w fun e w' => (∃ r, e = .returned r) ∧ ∃ v', BI b (bs ++ [.int .u8 10]) v' w' ∧ Wr b v w v' w' := by
  have hne := h.2.2
  refine calls_of_wp Try.func49 rfl ?_
  simp only [Try.ntmps49, List.size_toArray, List.length_cons, List.length_nil, Nat.reduceAdd, Nat.reduceSub, Array.replicate_succ, Array.replicate_zero, List.push_toArray, List.append_toArray, List.nil_append, List.cons_append]
  go_wp2_with first
    | (go_at_call 68; refine (check_calls b bs v _ h).mono ?_; rintro e w1 ⟨rfl, hb1, hown, hwr⟩; have c0 := bcell (o := 1) hb1 rfl; have hlt := (Array.getElem?_eq_some_iff.1 hb1).1; have hb3 : (w1.alloc (.cells #[.int .u8 10] 5)).heap[b]? = _ := (Below.heap_alloc w1 _ b hlt).trans hb1)
    | (at_builtin; refine wp_app_byte (w := w1.alloc (.cells #[.int .u8 10] 5)) rfl _ _ rfl rfl (hown.alloc _) ⟨w1.heap.size, 0, none⟩ 1 (.int .u8 10) rfl (bcell (o := 0) (heap_alloc_new w1 _) rfl) rfl hs (by rw [World.size_alloc]; omega) ?_; intro v' w2 ho2 hg2 hv2; obtain ⟨ao, m', c', rfl⟩ := own_slice ho2; have hA := after_app hb3 hne (xs := bs ++ [.int .u8 10]) (by rw [List.length_append]; exact ho2) hg2 (fun k hk => (hown.lt k hk).1) hv2; have d1 := bcell (o := 1) hA.1 rfl; have f1 := bfrz (o := 1) hA.1)
  go_ret
  have hal : Wr b v w1 v (w1.alloc (.cells #[.int .u8 10] 5)) := ⟨(Below.refl b w1).alloc (Nat.le_of_lt hlt) _, fun k hk _ hv => ⟨Below.heap_alloc w1 _ k hk, hv⟩⟩
  exact ⟨⟨_, rfl⟩, _, hA.2.1, (hwr.trans hal).trans hA.2.2⟩
/-- What lines come to: each with a line's end. -/
def endL : List ByteArray → List UInt8
  | [] => []
  | s :: r => s.data.toList ++ 10 :: endL r
theorem endL_app (a b : List ByteArray) : endL (a ++ b) = endL a ++ endL b := by
  induction a with
  | nil => rfl
  | cons s r ih => rw [List.cons_append, endL, endL, ih, List.append_assoc]; rfl
theorem endL_len (ls : List ByteArray) : ls.length ≤ (endL ls).length := by
  induction ls with
  | nil => exact Nat.le_refl _
  | cons s r ih => rw [endL, List.length_append, List.length_cons, List.length_cons]; omega
/-- All that is settled is safe from the builder. -/
def Safe (F : Nat → Nat) (b : Nat) (v : Value) (W : World) : Prop := ∀ k, 0 < F k → k < W.heap.size ∧ k ≠ b ∧ v.ownBlock ≠ some k
theorem Safe.wr {F : Nat → Nat} {b : Nat} {v v' : Value} {W W' : World} (h : Safe F b v W) (hw : Wr b v W v' W') : Safe F b v' W' ∧ Ext F W F W' :=
  ⟨fun k hk => by
    obtain ⟨h1, h2, h3⟩ := h k hk
    exact ⟨Nat.lt_of_lt_of_le h1 hw.1.size, h2, (hw.2 k h1 h2 h3).2⟩,
  ⟨fun _ => Nat.le_refl _, fun k o u ho hu => by
    obtain ⟨h1, h2, h3⟩ := h k (Nat.lt_of_le_of_lt (Nat.zero_le _) ho)
    exact (World.cell?_of_block (hw.2 k h1 h2 h3).1).trans hu⟩⟩
theorem put_calls (F : Nat → Nat) (b : Nat) (bs : List UInt8) (v lv : Value) (ls : List ByteArray) (w : World) (h : BI b (Lib.byteCells bs) v w) (hS : Safe F b v w) (hr : RepV F w (.sl .str) ls lv) (hs : bs.length + (endL ls).length ≤ 1099511627776) :
    Calls Try.prog 47 #[lv, .pointer (some ⟨b, 0, none⟩)] w fun e w' => (∃ r, e = .returned r) ∧ ∃ v', BI b (Lib.byteCells (bs ++ endL ls)) v' w' ∧ Wr b v w v' w' := by
  obtain ⟨A, c, rfl, hlc, hrow⟩ := rep_sl hr
  refine calls_of_wp Try.func47 rfl ?_
  simp only [Try.ntmps47, List.size_toArray, List.length_cons, List.length_nil, Nat.reduceAdd, Nat.reduceSub, Array.replicate_succ, Array.replicate_zero, List.push_toArray, List.append_toArray, List.nil_append, List.cons_append]
  go_wp2
  go_loopw [7] (fun p wr => ∃ (i : Nat) (v' : Value), p = .int .i64 i ∧ i ≤ ls.length ∧ BI b (Lib.byteCells (bs ++ endL (ls.take i))) v' wr ∧ Wr b v w v' wr) (fun p _ => ls.length - (intOf p).toNat)
  case atStart => exact ⟨0, v, rfl, Nat.zero_le _, by rw [List.take_zero]; simpa [endL] using h, Wr.refl _ _ _⟩
  case round =>
    obtain ⟨i, v', rfl, hi, hB, hW⟩ := hrel
    obtain ⟨hS2, hE⟩ := hS.wr hW
    rcases Nat.lt_or_ge i ls.length with hlt | hge
    · obtain ⟨blk, o, rfl, hF, hcell⟩ := hrow (Nat.lt_of_le_of_lt (Nat.zero_le _) hlt)
      obtain ⟨ds, hd, hd2⟩ := hcell i ls[i] (List.getElem?_eq_getElem hlt)
      obtain rfl : ds = [.string ls[i]] := hd
      have hc : wr.cell? ⟨blk, o + i, none⟩ = some (.string ls[i]) := by
        have := hd2 0 _ rfl
        rw [show o + i * Ty.str.size + 0 = o + i from by show o + i * 1 + 0 = o + i; omega] at this
        exact hE.same blk (o + i) _ (by have : ls.length * Ty.str.size = ls.length := Nat.mul_one _; omega) this
      have htk : ls.take (i + 1) = ls.take i ++ [ls[i]] := by rw [List.take_add_one, List.getElem?_eq_getElem hlt]; rfl
      have hle : bs.length + (endL (ls.take (i + 1))).length ≤ 1099511627776 := by
        have e : endL ls = endL (ls.take (i + 1)) ++ endL (ls.drop (i + 1)) := by rw [← endL_app, List.take_append_drop]
        rw [e, List.length_append] at hs
        omega
      have hone : endL (ls.take (i + 1)) = endL (ls.take i) ++ (ls[i].data.toList ++ [10]) := by rw [htk, endL_app]; rfl
      rw [hone, List.length_append, List.length_append, List.length_singleton] at hle
      have hsz : ls[i].data.toList.length = ls[i].size := rfl
      have hcond : (i : Int) < (ls.length : Int) := by omega
      go_wp2_with first
        | (go_at_call 48; refine (wrs_calls b _ v' ls[i] _ hB (by rw [Lib.byteCells_length, List.length_append]; omega)).mono ?_; rintro e w1 ⟨⟨r1, rfl⟩, v1, hB1, hW1⟩; rw [Lib.strCells_eq, ← Lib.byteCells_append, List.append_assoc] at hB1)
        | (go_at_call 49; refine (wrb_calls b _ v1 _ hB1 (by rw [Lib.byteCells_length, List.length_append, List.length_append]; omega)).mono ?_; rintro e w2 ⟨⟨r2, rfl⟩, v2, hB2, hW2⟩; rw [show [Value.int .u8 10] = Lib.byteCells [10] from rfl, ← Lib.byteCells_append] at hB2)
      have hll := endL_len ls
      have hw64 : wrap64 ((i : Int) + 1) = ((i + 1 : Nat) : Int) := by unfold Go.RowKit.wrap64; omega
      rw [hw64]
      refine ⟨⟨i + 1, v2, rfl, hlt, ?_, hW.trans (hW1.trans hW2)⟩, ?_⟩
      · rw [hone, ← List.append_assoc (endL (ls.take i)), ← List.append_assoc bs]
        exact hB2
      · show ls.length - (i + 1) < ls.length - i
        exact Nat.sub_lt_sub_left hlt (Nat.lt_succ_self i)
    · obtain rfl : i = ls.length := Nat.le_antisymm hi hge
      rw [List.take_length] at hB
      go_wp2
      go_end0
      exact ⟨⟨_, rfl⟩, v', hB, hW⟩
abbrev OutTy : Ty := (.cons (.int .i64) (.cons (.int .i64) (.cons (.sl (.int .i64)) (.cons (.sl .bool) (.cons (.sl (.cons (.int .i64) (.cons (.int .i64) (.cons (.int .i64) .nil)))) (.cons (.int .i64) .nil))))))
abbrev StTy : Ty := (.cons (.int .i64) (.cons (.int .i64) (.cons (.int .i64) (.cons (.cons .bool (.cons (.int .i64) (.cons (.int .i64) .nil))) (.cons (.cons (.cons .bool (.cons (.int .i64) (.cons (.int .i64) .nil))) (.cons (.int .i64) (.cons (.int .i64) .nil))) (.cons (.sl (.cons (.int .i64) (.cons (.int .i64) .nil))) (.cons (.sl (.int .i64)) (.cons (.cons (.int .i64) (.cons (.sl (.int .i64)) .nil)) .nil))))))))
def stepsO (k : Nat) : List (El OutTy) → Option (List ByteArray)
  | [] => some []
  | o :: r => (output_Step_s.f k o).bind fun x => (stepsO k r).bind fun y => some (x ++ y)
theorem stepsO_app {k : Nat} : ∀ {a b : List (El OutTy)} {r : List ByteArray}, stepsO k (a ++ b) = some r → ∃ x y, stepsO k a = some x ∧ stepsO k b = some y ∧ r = x ++ y
  | [], b, r, h => ⟨[], r, rfl, h, rfl⟩
  | o :: a, b, r, h => by
    rw [List.cons_append, stepsO] at h
    obtain ⟨x, h1, h2⟩ := Option.bind_eq_some_iff.1 h
    obtain ⟨y, h3, h4⟩ := Option.bind_eq_some_iff.1 h2
    obtain ⟨p, q, h5, h6, rfl⟩ := stepsO_app h3
    cases h4
    exact ⟨x ++ p, q, by rw [stepsO, h1]; show (stepsO k a).bind _ = _; rw [h5]; rfl, h6, by rw [List.append_assoc]⟩
def output_Text.f (k : Nat) (l : List (El OutTy)) (s : El StTy) : Option ByteArray := (stepsO k l).bind fun a => (output_State_s.f k s).bind fun b => if (endL (a ++ b)).length ≤ 1099511627776 ∧ l.length ≤ 1000000 then some ⟨(endL (a ++ b)).toArray⟩ else none
structure TS (k n0 : Nat) (F : Nat → Nat) (w : World) (cs : List Value) (a : List ByteArray) (wr : World) (F1 : Nat → Nat) (v : Value) : Prop where
  bi : BI (n0 + 1) (Lib.byteCells (endL a)) v wr
  safe : Safe F1 (n0 + 1) v wr
  below : Below n0 w wr
  fold : ∀ b, b < n0 → F1 b = F b
  box : wr.heap[n0]? = some (.cells cs.toArray 46 (0, 0))
theorem own_below {w w' : World} {b n : Nat} {v : Value} {xs : List Value} (h : w.ownsRowF b 5 1 v n xs) (hb : Below w.heap.size w w') : w'.ownsRowF b 5 1 v n xs := by
  refine ⟨h.1, ?_⟩
  rcases h.2 with h2 | ⟨g, cap, cur, fz, h1, h2, h3, h4⟩
  · exact .inl h2
  · exact .inr ⟨g, cap, cur, fz, h1, h2, (hb.block g (Array.getElem?_eq_some_iff.1 h3).1).trans h3, h4⟩
theorem TS.lt {k n0 : Nat} {F : Nat → Nat} {w : World} {cs : List Value} {a : List ByteArray} {wr : World} {F1 : Nat → Nat} {v : Value} (h : TS k n0 F w cs a wr F1 v) : n0 + 1 < wr.heap.size := by
  obtain ⟨⟨p, _, hb⟩, _⟩ := h.bi
  exact (Array.getElem?_eq_some_iff.1 hb).1
theorem TS.grow {k n0 : Nat} {F : Nat → Nat} {w : World} {cs : List Value} {a : List ByteArray} {wr w2 : World} {F1 F2 : Nat → Nat} {v : Value} (h : TS k n0 F w cs a wr F1 v) (hg : Grow F1 wr F2 w2) (hf : ∀ b, 0 < F2 b → b < w2.heap.size) : TS k n0 F w cs a w2 F2 v := by
  have hlt := h.lt
  obtain ⟨⟨⟨p, hp, hb⟩, hown, hne⟩, hS, hB, hF, hx⟩ := h
  refine ⟨⟨⟨p, hp, (hg.below.block _ hlt).trans hb⟩, own_below hown hg.below, hne⟩, fun q hq => ⟨hf q hq, ?_⟩, hB.trans (hg.below.mono (by omega)), fun b hb => (hg.fold b (by omega)).trans (hF b hb), (hg.below.block _ (by omega)).trans hx⟩
  rcases Nat.lt_or_ge q wr.heap.size with c | c
  · rw [hg.fold q c] at hq
    exact (hS q hq).2
  · refine ⟨by omega, fun e => ?_⟩
    have := (hown.lt q e).2
    omega
theorem TS.alloc {k n0 : Nat} {F : Nat → Nat} {w : World} {cs : List Value} {a : List ByteArray} {wr : World} {F1 : Nat → Nat} {v : Value} (h : TS k n0 F w cs a wr F1 v) (o : Obj) : TS k n0 F w cs a (wr.alloc o) F1 v :=
  h.grow ⟨(Below.refl _ wr).alloc (Nat.le_refl _) o, fun _ _ => rfl⟩ (fun b hb => by rw [World.size_alloc]; exact Nat.lt_succ_of_lt (h.safe b hb).1)
theorem TS.put {k n0 : Nat} {F : Nat → Nat} {w : World} {cs : List Value} {a ls : List ByteArray} {wr w2 : World} {F1 : Nat → Nat} {v v' : Value} (h : TS k n0 F w cs a wr F1 v) (hb : BI (n0 + 1) (Lib.byteCells (endL a ++ endL ls)) v' w2) (hw : Wr (n0 + 1) v wr v' w2) : TS k n0 F w cs (a ++ ls) w2 F1 v' := by
  have hlt := h.lt
  refine ⟨by rw [endL_app]; exact hb, (h.safe.wr hw).1, h.below.trans (hw.1.mono (Nat.le_succ _)), h.fold, (hw.1.block n0 (Nat.lt_succ_self _)).trans h.box⟩
theorem TS.ext {k n0 : Nat} {F : Nat → Nat} {w : World} {cs : List Value} {a : List ByteArray} {wr : World} {F1 : Nat → Nat} {v : Value} (h : TS k n0 F w cs a wr F1 v) (hfin : ∀ b, 0 < F b → b < n0) : Ext F w F1 wr :=
  ⟨fun b => by
    rcases Nat.eq_zero_or_pos (F b) with c | c
    · omega
    · rw [h.fold b (hfin b c)]; exact Nat.le_refl _,
  fun b o u ho hu => (World.cell?_of_block (h.below.block b (hfin b (Nat.lt_of_le_of_lt (Nat.zero_le _) ho)))).trans hu⟩
theorem out_cells {F : Nat → Nat} {w : World} {x : El OutTy} {ds : List Value} (h : RepC F w OutTy x ds) : ∃ A2 c2 A3 c3 A4 c4, ds = [.int .i64 x.1, .int .i64 x.2.1, .slice A2 (List.length x.2.2.1) c2, .slice A3 (List.length x.2.2.2.1) c3, .slice A4 (List.length x.2.2.2.2.1) c4, .int .i64 x.2.2.2.2.2.1] := by
  obtain ⟨a0, b0, rfl, h0, a1, b1, rfl, h1, a2, b2, rfl, h2, a3, b3, rfl, h3, a4, b4, rfl, h4, a5, b5, rfl, h5, h6⟩ := h
  obtain ⟨A2, c2, rfl, _⟩ := h2
  obtain ⟨A3, c3, rfl, _⟩ := h3
  obtain ⟨A4, c4, rfl, _⟩ := h4
  rw [show a0 = _ from h0, show a1 = _ from h1, show a5 = _ from h5, show b5 = _ from h6]
  exact ⟨A2, c2, A3, c3, A4, c4, rfl⟩
theorem stepsO_snoc {k : Nat} {o : El OutTy} {ln : List ByteArray} (ho : output_Step_s.f k o = some ln) : ∀ {a : List (El OutTy)} {x : List ByteArray}, stepsO k a = some x → stepsO k (a ++ [o]) = some (x ++ ln)
  | [], x, h => by
    cases h
    rw [List.nil_append, stepsO, ho]
    show some (ln ++ []) = _
    rw [List.append_nil]
    rfl
  | p :: a, x, h => by
    rw [stepsO] at h
    obtain ⟨y, h1, h2⟩ := Option.bind_eq_some_iff.1 h
    obtain ⟨z, h3, h4⟩ := Option.bind_eq_some_iff.1 h2
    cases h4
    rw [List.cons_append, stepsO, h1]
    show (stepsO k (a ++ [o])).bind _ = _
    rw [stepsO_snoc ho h3, List.append_assoc]
    rfl
theorem alloc_ext {F : Nat → Nat} {w : World} (hf : ∀ b, 0 < F b → b < w.heap.size) (o : Obj) : Ext F w F (w.alloc o) :=
  Grow.ext ⟨(Below.refl _ w).alloc (Nat.le_refl _) o, fun _ _ => rfl⟩ hf
theorem st_cells {F : Nat → Nat} {w : World} {x : El StTy} {ds : List Value} (h : RepC F w StTy x ds) : ∃ (z0 z1 z2 : Int) (z3 : Bool) (z4 z5 : Int) (z6 : Bool) (z7 z8 z9 z10 : Int) (B1 : Option Addr) (m1 e1 : Nat) (B2 : Option Addr) (m2 e2 : Nat) (z13 : Int) (B3 : Option Addr) (m3 e3 : Nat),
    ds = [.int .i64 z0, .int .i64 z1, .int .i64 z2, .bool z3, .int .i64 z4, .int .i64 z5, .bool z6, .int .i64 z7, .int .i64 z8, .int .i64 z9, .int .i64 z10, .slice B1 m1 e1, .slice B2 m2 e2, .int .i64 z13, .slice B3 m3 e3] := by
  obtain ⟨a0, b0, rfl, h0, a1, b1, rfl, h1, a2, b2, rfl, h2, a3, b3, rfl, ⟨p0, r0, rfl, k0, p1, r1, rfl, k1, p2, r2, rfl, k2, k3⟩, a4, b4, rfl, ⟨p3, r3, rfl, ⟨u0, v0, rfl, j0, u1, v1, rfl, j1, u2, v2, rfl, j2, j3⟩, p4, r4, rfl, k4, p5, r5, rfl, k5, k6⟩, a5, b5, rfl, h5, a6, b6, rfl, h6, a7, b7, rfl, ⟨p6, r6, rfl, k7, p7, r7, rfl, k8, k9⟩, h8⟩ := h
  obtain ⟨B1, e1, rfl, _⟩ := h5
  obtain ⟨B2, e2, rfl, _⟩ := h6
  obtain ⟨B3, e3, rfl, _⟩ := k8
  rw [show a0 = _ from h0, show a1 = _ from h1, show a2 = _ from h2, show p0 = _ from k0, show p1 = _ from k1, show p2 = _ from k2, show r2 = _ from k3, show u0 = _ from j0, show u1 = _ from j1, show u2 = _ from j2, show v2 = _ from j3, show p4 = _ from k4, show p5 = _ from k5, show r5 = _ from k6, show p6 = _ from k7, show r7 = _ from k9, show b7 = _ from h8]
  exact ⟨_, _, _, _, _, _, _, _, _, _, _, _, _, _, _, _, _, _, _, _, _, rfl⟩
theorem string_calls (b : Nat) (l : List UInt8) (v : Value) (w : World) (h : BI b (Lib.byteCells l) v w) : Calls Try.prog 50 #[.pointer (some ⟨b, 0, none⟩)] w fun e w' => e = .returned (.string ⟨l.toArray⟩) ∧ Below b w w' := by
  obtain ⟨⟨p, hp, hb⟩, hown, hne⟩ := h
  have hlt := (Array.getElem?_eq_some_iff.1 hb).1
  have e5 : layJoin_ren.t 5 = 5 := by kernel_rfl
  have e72 : layJoin_ren.t 72 = 82 := by kernel_rfl
  have ef : layJoin_ren.f 169 = 50 := by kernel_rfl
  have hI : Lib.IsBuilderF (layJoin_ren.t 72) (layJoin_ren.t 5) b b (Lib.byteCells l) w := by
    rw [e5, e72]
    rcases hp with rfl | rfl
    · exact .inl ⟨Nat.le_refl _, v, hb, hown, hne⟩
    · exact .inr ⟨Nat.le_refl _, v, hb, hown, hne⟩
  have g := Go.Proofs.Any.Builder_String_any_k { layJoin with } layJoinX b b l w hI (Nat.le_of_lt hlt)
  rw [ef] at g
  exact g.mono fun e w' q => ⟨q.1, q.2.2.1⟩
theorem text_calls (k : Nat) (F : Nat → Nat) (w : World) (lv sv : Value) (l : List (El OutTy)) (s : El StTy) (r : ByteArray) (hL : Laid Try.prog w) (hfin : ∀ b, 0 < F b → b < w.heap.size) (hl : RepV F w (.sl OutTy) l lv) (hs : RepV F w StTy s sv) (hy : output_Text.f k l s = some r) :
    Calls Try.prog 25 #[lv, sv] w fun e w' => e = .returned (.string r) ∧ ∃ F', Grow F w F' w' ∧ (∀ b, 0 < F' b → b < w'.heap.size) := by
  obtain ⟨A, c, rfl, hlc, hrow⟩ := rep_sl hl
  obtain ⟨cs, hcs, rfl⟩ := hs
  rw [show pack StTy cs = .agg cs.toArray from rfl]
  obtain ⟨n0, hn0⟩ : ∃ n, w.heap.size = n := ⟨_, rfl⟩
  unfold output_Text.f at hy
  obtain ⟨al, hy1, hy2⟩ := Option.bind_eq_some_iff.1 hy
  obtain ⟨bl, hy3, hy4⟩ := Option.bind_eq_some_iff.1 hy2
  split at hy4
  case isFalse => cases hy4
  rename_i hlim
  obtain rfl := Option.some.inj hy4
  refine calls_of_wp Try.func25 rfl ?_
  simp only [Try.ntmps25, List.size_toArray, List.length_cons, List.length_nil, Nat.reduceAdd, Nat.reduceSub, Array.replicate_succ, Array.replicate_zero, List.push_toArray, List.append_toArray, List.nil_append, List.cons_append]
  go_wp2
  generalize hW : World.alloc _ _ = W1
  have h0 : TS k n0 F w cs [] W1 F (.slice none 0 0) := by
    subst hn0
    rw [← hW]
    refine ⟨⟨⟨.pointer none, .inl rfl, ?_⟩, ?_, ?_⟩, fun k hk => ?_, ?_, fun _ _ => rfl, ?_⟩
    · exact heap_alloc_new (w.alloc (.cells cs.toArray 46)) _ |> fun e => by rwa [World.size_alloc] at e
    · exact World.ownsRowF_nil _ _ _ _
    · simp [Value.ownBlock]
    · have := hfin k hk
      exact ⟨by rw [World.size_alloc, World.size_alloc]; omega, by omega, by simp [Value.ownBlock]⟩
    · exact ((Below.refl _ w).alloc (Nat.le_refl _) _).alloc (by rw [World.size_alloc]; omega) _
    · rw [Below.heap_alloc _ _ _ (by rw [World.size_alloc]; omega)]
      exact heap_alloc_new w _
  clear hW
  go_loopw [12] (fun p wr => ∃ (i : Nat) (F1 : Nat → Nat) (v : Value) (a : List ByteArray), p = .int .i64 i ∧ i ≤ l.length ∧ stepsO k (l.take i) = some a ∧ TS k n0 F w cs a wr F1 v) (fun p _ => l.length - (intOf p).toNat)
  case atStart => exact ⟨0, F, _, [], rfl, Nat.zero_le _, rfl, h0⟩
  case round =>
    obtain ⟨i, F1, v, a, rfl, hi, ha, hT⟩ := hrel
    rcases Nat.lt_or_ge i l.length with hlt | hge
    · obtain ⟨blk, o, rfl, hF, hcell⟩ := hrow (Nat.lt_of_le_of_lt (Nat.zero_le _) hlt)
      obtain ⟨ds, hd, hd2⟩ := hcell i l[i] (List.getElem?_eq_getElem hlt)
      have hcond : (i : Int) < (l.length : Int) := by omega
      have hfin0 : ∀ b, 0 < F b → b < n0 := fun b hb => by have := hfin b hb; omega
      have hE := hT.ext hfin0
      obtain ⟨A2, c2, A3, c3, A4, c4, rfl⟩ := out_cells hd
      generalize List.length l[i].2.2.1 = m2, List.length l[i].2.2.2.1 = m3, List.length l[i].2.2.2.2.1 = m4, l[i].1 = x0, l[i].2.1 = x1, l[i].2.2.2.2.2.1 = x5 at hd2 hd
      have hcc0 := hd2
      have hcc : ∀ (j : Nat) (u : Value), [Value.int .i64 x0, .int .i64 x1, .slice A2 m2 c2, .slice A3 m3 c3, .slice A4 m4 c4, .int .i64 x5][j]? = some u → wr.cell? ⟨blk, o + i * 6 + j, none⟩ = some u := fun j u hj => by
        refine hE.same blk _ u ?_ (hd2 j u hj)
        have h1 := (List.getElem?_eq_some_iff.1 hj).1
        have h3 : i * 6 + 6 ≤ l.length * 6 := by rw [← Nat.succ_mul]; exact Nat.mul_le_mul_right _ hlt
        have h4 : o + l.length * 6 ≤ F blk := hF
        simp only [List.length_cons, List.length_nil] at h1
        omega
      have q0 : wr.cell? ⟨blk, o + i * 6, none⟩ = _ := hcc 0 _ rfl
      have q1 := hcc 1 _ rfl
      have q2 := hcc 2 _ rfl
      have q3 := hcc 3 _ rfl
      have q4 := hcc 4 _ rfl
      have q5 := hcc 5 _ rfl
      have hsp : l = l.take i ++ (l[i] :: l.drop (i + 1)) := by rw [← List.drop_eq_getElem_cons hlt, List.take_append_drop]
      obtain ⟨a', y, hs1, hs2, hs3⟩ := stepsO_app (hsp ▸ hy1)
      obtain rfl : a' = a := Option.some.inj (hs1.symm.trans ha)
      rw [stepsO] at hs2
      obtain ⟨ln, hln, hs4⟩ := Option.bind_eq_some_iff.1 hs2
      obtain ⟨rest, _, hs5⟩ := Option.bind_eq_some_iff.1 hs4
      cases hs5
      have hlen : (endL a').length + (endL ln).length ≤ 1099511627776 := by
        have h1 := hlim.1
        rw [hs3, endL_app, endL_app, endL_app, List.length_append, List.length_append, List.length_append] at h1
        omega
      have hT3 := hT.alloc (.cells #[.int .i64 x0, .int .i64 x1, .slice A2 m2 c2, .slice A3 m3 c3, .slice A4 m4 c4, .int .i64 x5] 37)
      have hrep : RepV F1 (wr.alloc (.cells #[.int .i64 x0, .int .i64 x1, .slice A2 m2 c2, .slice A3 m3 c3, .slice A4 m4 c4, .int .i64 x5] 37)) OutTy l[i] (.agg #[.int .i64 x0, .int .i64 x1, .slice A2 m2 c2, .slice A3 m3 c3, .slice A4 m4 c4, .int .i64 x5]) :=
        ⟨_, (hd.ext hE).ext (alloc_ext (fun b hb => (hT.safe b hb).1) _), rfl⟩
      have hbm : ∀ X, Below n0 w X → BelowM (fun _ => False) w X := fun X hb => ⟨hb.os, hb.tape, hb.output, hb.size, fun k hk _ => hb.block k (by omega)⟩
      have hL3 : ∀ X, Below n0 w X → Laid Try.prog X := fun X hb => hL.below (fun _ q => q.elim) (hbm X hb)
      clear hsp hs1 hs2 hs4
      clear hs3
      go_wp2_with first
        | (go_at_call 19; refine (output_Step_s.ok.calls k _ F1 [_] (l[i], ()) ln (hL3 _ hT3.below) (fun b hb => (hT3.safe b hb).1) ⟨_, _, rfl, hrep, rfl⟩ hln).mono ?_; rintro e w2 ⟨lv2, F2, rfl, hg, hf2, hr2⟩; have hT4 := hT3.grow hg hf2)
        | (go_at_call 47; refine (put_calls F2 (n0 + 1) (endL a') v lv2 ln _ hT4.bi hT4.safe hr2.1 hlen).mono ?_; rintro e w3 ⟨⟨r3, rfl⟩, v', hB', hW'⟩; have hT5 := hT4.put hB' hW')
      exact ⟨⟨i + 1, F2, v', a' ++ ln, rfl, hlt, by rw [List.take_add_one, List.getElem?_eq_getElem hlt]; exact stepsO_snoc hln ha, hT5⟩, Nat.sub_lt_sub_left hlt (Nat.lt_succ_self i)⟩
    · obtain rfl : i = l.length := Nat.le_antisymm hi hge
      rw [List.take_length] at ha
      obtain rfl : al = a := Option.some.inj (hy1.symm.trans ha)
      have hE := hT.ext (fun b hb => by have := hfin b hb; omega)
      have hbm : ∀ X, Below n0 w X → BelowM (fun _ => False) w X := fun X hb => ⟨hb.os, hb.tape, hb.output, hb.size, fun k hk _ => hb.block k (by omega)⟩
      have hL3 : ∀ X, Below n0 w X → Laid Try.prog X := fun X hb => hL.below (fun _ q => q.elim) (hbm X hb)
      obtain ⟨z0, z1, z2, z3, z4, z5, z6, z7, z8, z9, z10, B1, m1, e1, B2, m2, e2, z13, B3, m3, e3, rfl⟩ := st_cells hcs
      have hrep : RepV F1 wr StTy s (.agg #[.int .i64 z0, .int .i64 z1, .int .i64 z2, .bool z3, .int .i64 z4, .int .i64 z5, .bool z6, .int .i64 z7, .int .i64 z8, .int .i64 z9, .int .i64 z10, .slice B1 m1 e1, .slice B2 m2 e2, .int .i64 z13, .slice B3 m3 e3]) := ⟨_, hcs.ext hE, rfl⟩
      have hbx := hT.box
      have q0 := bcell (o := 0) hbx rfl
      have q1 := bcell (o := 1) hbx rfl
      have q2 := bcell (o := 2) hbx rfl
      have q3 := bcell (o := 3) hbx rfl
      have q4 := bcell (o := 4) hbx rfl
      have q5 := bcell (o := 5) hbx rfl
      have q6 := bcell (o := 6) hbx rfl
      have q7 := bcell (o := 7) hbx rfl
      have q8 := bcell (o := 8) hbx rfl
      have q9 := bcell (o := 9) hbx rfl
      have q10 := bcell (o := 10) hbx rfl
      have q11 := bcell (o := 11) hbx rfl
      have q12 := bcell (o := 12) hbx rfl
      have q13 := bcell (o := 13) hbx rfl
      have q14 := bcell (o := 14) hbx rfl
      clear hy1 hy ha hbx
      have hlen : (endL al).length + (endL bl).length ≤ 1099511627776 := by
        have h1 := hlim.1
        rw [endL_app, List.length_append] at h1
        exact h1
      go_wp2_with first
        | (go_at_call 21; refine (output_State_s.ok.calls k _ F1 [_] (s, ()) bl (hL3 _ hT.below) (fun b hb => (hT.safe b hb).1) ⟨_, _, rfl, hrep, rfl⟩ hy3).mono ?_; rintro e w2 ⟨lv2, F2, rfl, hg, hf2, hr2⟩; have hT4 := hT.grow hg hf2)
        | (go_at_call 47; refine (put_calls F2 (n0 + 1) (endL al) v lv2 bl _ hT4.bi hT4.safe hr2.1 hlen).mono ?_; rintro e w3 ⟨⟨r3, rfl⟩, v', hB', hW'⟩; have hT5 := hT4.put hB' hW')
        | (go_at_call 50; refine (string_calls (n0 + 1) (endL (al ++ bl)) v' _ hT5.bi).mono ?_; rintro e w4 ⟨rfl, hb4⟩)
      go_ret
      exact ⟨rfl, F, ⟨by rw [hn0]; exact hT5.below.trans (hb4.mono (Nat.le_succ _)), fun _ _ => rfl⟩, fun b hb => Nat.lt_of_lt_of_le (hfin b hb) (Nat.le_trans hT5.below.size hb4.size)⟩
def output_Text.c : Sym.Callee := ⟨(.cons (.sl OutTy) (.cons StTy .nil)), .str, false, El .str, fun k x => output_Text.f k x.1 x.2.1, fun y => y, []⟩
theorem output_Text.ok : CalleeOk Try.prog 25 output_Text.c where
  enter := enter_of Try.func25 rfl (by kernel_rfl)
  calls k w F vs x y hL hfin hx hy := by
    obtain ⟨v1, us, rfl, h1, v2, us2, rfl, h2, rfl⟩ := hx
    obtain ⟨l, s, _⟩ := x
    refine (text_calls k F w v1 v2 l s y hL hfin h1 h2 hy).mono ?_
    rintro e w' ⟨rfl, F', hg, hf⟩
    exact ⟨_, F', rfl, hg, hf, repR_one mk_str⟩
end
def regimenref01_Text.c : Sym.Callee := ⟨(.cons (.int .i64) .nil), .str, false, ByteArray, fun k x => regimenref01_Text.f k x.1, fun z => z, []⟩
def regimenref01_Text.nl0 (k : Nat) (x0 : Int) (x3 : ByteArray) (x4 : ByteArray) : Option (ByteArray) := (if x0 ≥ (10 : Int) then (if (10 : Int) = 0 then none else (if (10 : Int) = 0 then none else (if (10 : Int) = 0 then none else (if 0 ≤ (Int.tmod (wrap64 (Int.tdiv x0 (10 : Int))) (10 : Int)) then (if (Int.tmod (wrap64 (Int.tdiv x0 (10 : Int))) (10 : Int)) ≤ (wrap64 ((Int.tmod (wrap64 (Int.tdiv x0 (10 : Int))) (10 : Int)) + (1 : Int))) then (if (wrap64 ((Int.tmod (wrap64 (Int.tdiv x0 (10 : Int))) (10 : Int)) + (1 : Int))) ≤ (x3.size : Int) then (if (x3.extract ((Int.tmod (wrap64 (Int.tdiv x0 (10 : Int))) (10 : Int))).toNat ((wrap64 ((Int.tmod (wrap64 (Int.tdiv x0 (10 : Int))) (10 : Int)) + (1 : Int)))).toNat).size + x4.size ≤ 9223372036854775807 then (regimenref01_Text.l0 k (wrap64 (Int.tdiv x0 (10 : Int))) x3 ((x3.extract ((Int.tmod (wrap64 (Int.tdiv x0 (10 : Int))) (10 : Int))).toNat ((wrap64 ((Int.tmod (wrap64 (Int.tdiv x0 (10 : Int))) (10 : Int)) + (1 : Int)))).toNat) ++ x4)) else none) else none) else none) else none)))) else (some x4))
def regimenref01_Text.nf (k : Nat) (a0 : Int) : Option (ByteArray) := (if (10 : Int) = 0 then none else (if (10 : Int) = 0 then none else (if 0 ≤ (Int.tmod a0 (10 : Int)) then (if (Int.tmod a0 (10 : Int)) ≤ (wrap64 ((Int.tmod a0 (10 : Int)) + (1 : Int))) then (if (wrap64 ((Int.tmod a0 (10 : Int)) + (1 : Int))) ≤ ((⟨#[48, 49, 50, 51, 52, 53, 54, 55, 56, 57]⟩ : ByteArray).size : Int) then (regimenref01_Text.l0 k a0 (⟨#[48, 49, 50, 51, 52, 53, 54, 55, 56, 57]⟩ : ByteArray) ((⟨#[48, 49, 50, 51, 52, 53, 54, 55, 56, 57]⟩ : ByteArray).extract ((Int.tmod a0 (10 : Int))).toNat ((wrap64 ((Int.tmod a0 (10 : Int)) + (1 : Int)))).toNat)) else none) else none) else none)))
noncomputable def regimenref01_Text.E : Env (ByteArray) := envOf tab Try.f57 false .str [] (fun y => y) [] [⟨3, ⟨26, [(0, (.int .i64), []), (3, .str, []), (4, .str, [])], [], []⟩, fun k y => regimenref01_Text.l0 k y.1.1 y.1.2.1 y.1.2.2.1⟩] []
theorem regimenref01_Text.h1 : obls regimenref01_Text.E Try.f57 = [⟨(.cons (.cons (.int .i64) (.cons .str (.cons .str .nil))) (.cons .nil (.cons .nil .nil))), fun k y => regimenref01_Text.l0 (k + 1) y.1.1 y.1.2.1 y.1.2.2.1, fun k y => regimenref01_Text.nl0 k y.1.1 y.1.2.1 y.1.2.2.1⟩, ⟨(.cons (.cons (.int .i64) (.cons .str (.cons .str .nil))) (.cons .nil (.cons .nil .nil))), fun _ y => regimenref01_Text.l0 0 y.1.1 y.1.2.1 y.1.2.2.1, fun _ _ => none⟩] := by kernel_rfl
theorem regimenref01_Text.h2 : (fun k (x : El (.cons (.int .i64) .nil)) => regimenref01_Text.nf k x.1) = fun k x => mainK regimenref01_Text.E Try.f57 (.cons (.int .i64) .nil) k x := by kernel_rfl
theorem regimenref01_Text.bl0 (k : Nat) (x0 : Int) (x3 : ByteArray) (x4 : ByteArray) : Lo (regimenref01_Text.l0 (k + 1) x0 x3 x4) (regimenref01_Text.nl0 k x0 x3 x4) := by
  rw [regimenref01_Text.l0]
  unfold regimenref01_Text.nl0
  try simp only [Bool.false_xor, Bool.true_xor, wu8_64, wu8_u64, byL_nums, btS_bt, nil_tl, beq_decL, beq_decI]
  repeat' first
    | (with_reducible exact lo_refl _)
    | exact lo_none _
    | (with_reducible refine lo_lpos (by first | assumption | decide) ?_)
    | (with_reducible refine lo_lneg (by first | assumption | decide) ?_)
    | (with_reducible refine lo_ite (fun _ => ?_) (fun _ => ?_))
    | (with_reducible refine lo_bind (fun _ => ?_))
    | (with_reducible refine lo_left ?_)
    | (refine lo_neg (by decide) ?_)
    | (refine lo_pos (by first | assumption | omega) ?_)
    | (refine lo_neg (by first | assumption | omega) ?_)
    | (with_reducible refine lo_test (fun _ => by first | assumption | omega | (simp only [List.length_cons, List.length_nil]; omega) | decide) (fun _ => ?_))
    | (with_reducible refine lo_testn (fun _ => by first | assumption | omega) (fun _ => ?_))
    | (with_reducible refine lo_and (fun z => by first | exact z.1 | omega) (fun z => by first | exact z.2 | omega) (fun _ => ?_))
    | exact lo_refl _
    | (with_reducible refine lo_iff (by first | exact Iff.rfl | omega | (simp; done) | decide) (fun _ => ?_) (fun _ => ?_))
    | (with_reducible refine lo_iffn (by first | exact Iff.rfl | omega | (simp; done) | decide) (fun _ => ?_) (fun _ => ?_))
    | refine lo_ite (fun _ => ?_) (fun _ => ?_)
    | refine lo_bind (fun _ => ?_)
    | (refine lo_some ?_; first | rfl | (rw [Bool.false_xor]; rfl) | (rw [Bool.true_xor]; rfl) | (simp only [Bool.and_true]; rfl) | (simp; done))
    | (simp only [Int.zero_sub]; exact lo_refl _)
    | (with_reducible refine lo_lpos (by omega) ?_)
    | (with_reducible refine lo_lneg (by omega) ?_)
    | (with_reducible refine lo_lite (fun _ => ?_) (fun _ => ?_))
    | (with_reducible refine lo_rite (fun _ => ?_) (fun _ => ?_))
  all_goals (exfalso; first | omega | (simp_all; done) | (simp_all; omega))
set_option maxHeartbeats 2000000 in
theorem regimenref01_Text.bf (k : Nat) (a0 : Int) : Lo (regimenref01_Text.f k a0) (regimenref01_Text.nf k a0) := by
  unfold regimenref01_Text.f regimenref01_Text.nf
  try simp only [Bool.false_xor, Bool.true_xor, wu8_64, wu8_u64, byL_nums, btS_bt, nil_tl, beq_decL, beq_decI]
  repeat' first
    | (with_reducible exact lo_refl _)
    | exact lo_none _
    | (with_reducible refine lo_lpos (by first | assumption | decide) ?_)
    | (with_reducible refine lo_lneg (by first | assumption | decide) ?_)
    | (with_reducible refine lo_ite (fun _ => ?_) (fun _ => ?_))
    | (with_reducible refine lo_bind (fun _ => ?_))
    | (with_reducible refine lo_left ?_)
    | (refine lo_neg (by decide) ?_)
    | (refine lo_pos (by first | assumption | omega) ?_)
    | (refine lo_neg (by first | assumption | omega) ?_)
    | (with_reducible refine lo_test (fun _ => by first | assumption | omega | (simp only [List.length_cons, List.length_nil]; omega) | decide) (fun _ => ?_))
    | (with_reducible refine lo_testn (fun _ => by first | assumption | omega) (fun _ => ?_))
    | (with_reducible refine lo_and (fun z => by first | exact z.1 | omega) (fun z => by first | exact z.2 | omega) (fun _ => ?_))
    | exact lo_refl _
    | (with_reducible refine lo_iff (by first | exact Iff.rfl | omega | (simp; done) | decide) (fun _ => ?_) (fun _ => ?_))
    | (with_reducible refine lo_iffn (by first | exact Iff.rfl | omega | (simp; done) | decide) (fun _ => ?_) (fun _ => ?_))
    | refine lo_ite (fun _ => ?_) (fun _ => ?_)
    | refine lo_bind (fun _ => ?_)
    | (refine lo_some ?_; first | rfl | (rw [Bool.false_xor]; rfl) | (rw [Bool.true_xor]; rfl) | (simp only [Bool.and_true]; rfl) | (simp; done))
    | (simp only [Int.zero_sub]; exact lo_refl _)
    | (with_reducible refine lo_lpos (by omega) ?_)
    | (with_reducible refine lo_lneg (by omega) ?_)
    | (with_reducible refine lo_lite (fun _ => ?_) (fun _ => ?_))
    | (with_reducible refine lo_rite (fun _ => ?_) (fun _ => ?_))
  all_goals (exfalso; first | omega | (simp_all; done) | (simp_all; omega))
theorem regimenref01_Text.al : AllLe (obls regimenref01_Text.E Try.f57) := by
  rw [regimenref01_Text.h1]
  exact (.cons (fun k y r h => regimenref01_Text.bl0 k y.1.1 y.1.2.1 y.1.2.2.1 r h) (.cons (fun _ y r h => by simp [regimenref01_Text.l0] at h) .nil))
theorem regimenref01_Text.ok : CalleeOk Try.prog 57 regimenref01_Text.c := fn_ok tabOk mixed (fun _ => rfl) Try.func57 rfl (by kernel_rfl) ok_nil regimenref01_Text.al (fun k x r h => (congrFun (congrFun regimenref01_Text.h2 k) x).symm.trans (regimenref01_Text.bf k _ r h))
def regimenref01_Tell.c : Sym.Callee := ⟨(.cons (.int .i64) .nil), .str, false, ByteArray, fun k x => regimenref01_Tell.f k x.1, fun z => z, []⟩
def regimenref01_Tell.nf (k : Nat) (a0 : Int) : Option (ByteArray) := (if a0 ≥ (0 : Int) then ((regimenref01_Text.f k a0).bind fun t1 => (some t1)) else (if (10 : Int) = 0 then none else (if 0 ≤ (wrap64 ((0 : Int) - (Int.tmod a0 (10 : Int)))) then (if (wrap64 ((0 : Int) - (Int.tmod a0 (10 : Int)))) ≤ (wrap64 ((wrap64 ((0 : Int) - (Int.tmod a0 (10 : Int)))) + (1 : Int))) then (if (wrap64 ((wrap64 ((0 : Int) - (Int.tmod a0 (10 : Int)))) + (1 : Int))) ≤ ((⟨#[48, 49, 50, 51, 52, 53, 54, 55, 56, 57]⟩ : ByteArray).size : Int) then (if (10 : Int) = 0 then none else (if (wrap64 (Int.tdiv a0 (10 : Int))) = (0 : Int) then (if (⟨#[45]⟩ : ByteArray).size + ((⟨#[48, 49, 50, 51, 52, 53, 54, 55, 56, 57]⟩ : ByteArray).extract ((wrap64 ((0 : Int) - (Int.tmod a0 (10 : Int))))).toNat ((wrap64 ((wrap64 ((0 : Int) - (Int.tmod a0 (10 : Int)))) + (1 : Int)))).toNat).size ≤ 9223372036854775807 then (some ((⟨#[45]⟩ : ByteArray) ++ ((⟨#[48, 49, 50, 51, 52, 53, 54, 55, 56, 57]⟩ : ByteArray).extract ((wrap64 ((0 : Int) - (Int.tmod a0 (10 : Int))))).toNat ((wrap64 ((wrap64 ((0 : Int) - (Int.tmod a0 (10 : Int)))) + (1 : Int)))).toNat))) else none) else (if (10 : Int) = 0 then none else ((regimenref01_Text.f k (wrap64 ((0 : Int) - (wrap64 (Int.tdiv a0 (10 : Int)))))).bind fun t2 => (if t2.size + ((⟨#[48, 49, 50, 51, 52, 53, 54, 55, 56, 57]⟩ : ByteArray).extract ((wrap64 ((0 : Int) - (Int.tmod a0 (10 : Int))))).toNat ((wrap64 ((wrap64 ((0 : Int) - (Int.tmod a0 (10 : Int)))) + (1 : Int)))).toNat).size ≤ 9223372036854775807 then (if (⟨#[45]⟩ : ByteArray).size + (t2 ++ ((⟨#[48, 49, 50, 51, 52, 53, 54, 55, 56, 57]⟩ : ByteArray).extract ((wrap64 ((0 : Int) - (Int.tmod a0 (10 : Int))))).toNat ((wrap64 ((wrap64 ((0 : Int) - (Int.tmod a0 (10 : Int)))) + (1 : Int)))).toNat)).size ≤ 9223372036854775807 then (some ((⟨#[45]⟩ : ByteArray) ++ (t2 ++ ((⟨#[48, 49, 50, 51, 52, 53, 54, 55, 56, 57]⟩ : ByteArray).extract ((wrap64 ((0 : Int) - (Int.tmod a0 (10 : Int))))).toNat ((wrap64 ((wrap64 ((0 : Int) - (Int.tmod a0 (10 : Int)))) + (1 : Int)))).toNat)))) else none) else none))))) else none) else none) else none)))
noncomputable def regimenref01_Tell.E : Env (ByteArray) := envOf tab Try.f37 false .str [] (fun y => y) [(57, regimenref01_Text.c)] [] []
theorem regimenref01_Tell.h1 : obls regimenref01_Tell.E Try.f37 = [] := by kernel_rfl
theorem regimenref01_Tell.h2 : (fun k (x : El (.cons (.int .i64) .nil)) => regimenref01_Tell.nf k x.1) = fun k x => mainK regimenref01_Tell.E Try.f37 (.cons (.int .i64) .nil) k x := by kernel_rfl
set_option maxHeartbeats 2000000 in
theorem regimenref01_Tell.bf (k : Nat) (a0 : Int) : Lo (regimenref01_Tell.f k a0) (regimenref01_Tell.nf k a0) := by
  unfold regimenref01_Tell.f regimenref01_Tell.nf
  try simp only [Bool.false_xor, Bool.true_xor, wu8_64, wu8_u64, byL_nums, btS_bt, nil_tl, beq_decL, beq_decI]
  repeat' first
    | (with_reducible exact lo_refl _)
    | exact lo_none _
    | (with_reducible refine lo_lpos (by first | assumption | decide) ?_)
    | (with_reducible refine lo_lneg (by first | assumption | decide) ?_)
    | (with_reducible refine lo_ite (fun _ => ?_) (fun _ => ?_))
    | (with_reducible refine lo_bind (fun _ => ?_))
    | (with_reducible refine lo_left ?_)
    | (refine lo_neg (by decide) ?_)
    | (refine lo_pos (by first | assumption | omega) ?_)
    | (refine lo_neg (by first | assumption | omega) ?_)
    | (with_reducible refine lo_test (fun _ => by first | assumption | omega | (simp only [List.length_cons, List.length_nil]; omega) | decide) (fun _ => ?_))
    | (with_reducible refine lo_testn (fun _ => by first | assumption | omega) (fun _ => ?_))
    | (with_reducible refine lo_and (fun z => by first | exact z.1 | omega) (fun z => by first | exact z.2 | omega) (fun _ => ?_))
    | exact lo_refl _
    | (with_reducible refine lo_iff (by first | exact Iff.rfl | omega | (simp; done) | decide) (fun _ => ?_) (fun _ => ?_))
    | (with_reducible refine lo_iffn (by first | exact Iff.rfl | omega | (simp; done) | decide) (fun _ => ?_) (fun _ => ?_))
    | refine lo_ite (fun _ => ?_) (fun _ => ?_)
    | refine lo_bind (fun _ => ?_)
    | (refine lo_some ?_; first | rfl | (rw [Bool.false_xor]; rfl) | (rw [Bool.true_xor]; rfl) | (simp only [Bool.and_true]; rfl) | (simp; done))
    | (simp only [Int.zero_sub]; exact lo_refl _)
    | (with_reducible refine lo_lpos (by omega) ?_)
    | (with_reducible refine lo_lneg (by omega) ?_)
    | (with_reducible refine lo_lite (fun _ => ?_) (fun _ => ?_))
    | (with_reducible refine lo_rite (fun _ => ?_) (fun _ => ?_))
  all_goals (exfalso; first | omega | (simp_all; done) | (simp_all; omega))
theorem regimenref01_Tell.al : AllLe (obls regimenref01_Tell.E Try.f37) := by
  rw [regimenref01_Tell.h1]
  exact .nil
theorem regimenref01_Tell.ok : CalleeOk Try.prog 37 regimenref01_Tell.c := fn_ok tabOk mixed (fun _ => rfl) Try.func37 rfl (by kernel_rfl) (ok_cons regimenref01_Text.ok ok_nil) regimenref01_Tell.al (fun k x r h => (congrFun (congrFun regimenref01_Tell.h2 k) x).symm.trans (regimenref01_Tell.bf k _ r h))
def regimenref45_Word.c : Sym.Callee := ⟨(.cons (.int .i64) .nil), .str, false, ByteArray, fun k x => regimenref45_Word.f x.1, fun z => z, []⟩
def regimenref45_Word.nf (k : Nat) (a0 : Int) : Option (ByteArray) := (if a0 < (0 : Int) then (some (⟨#[63]⟩ : ByteArray)) else (if a0 > (3 : Int) then (some (⟨#[63]⟩ : ByteArray)) else (if 0 ≤ a0 then (if a0 < ([(⟨#[103, 111, 101, 115]⟩ : ByteArray), (⟨#[100, 111, 110, 101]⟩ : ByteArray), (⟨#[115, 116, 111, 112, 112, 101, 100]⟩ : ByteArray), (⟨#[102, 97, 105, 108, 101, 100]⟩ : ByteArray)].length : Int) then (some ([(⟨#[103, 111, 101, 115]⟩ : ByteArray), (⟨#[100, 111, 110, 101]⟩ : ByteArray), (⟨#[115, 116, 111, 112, 112, 101, 100]⟩ : ByteArray), (⟨#[102, 97, 105, 108, 101, 100]⟩ : ByteArray)].getD (a0).toNat (⟨#[]⟩ : ByteArray))) else none) else none)))
noncomputable def regimenref45_Word.E : Env (ByteArray) := envOf tab Try.f24 false .str [] (fun y => y) [] [] []
theorem regimenref45_Word.h1 : obls regimenref45_Word.E Try.f24 = [] := by kernel_rfl
theorem regimenref45_Word.h2 : (fun k (x : El (.cons (.int .i64) .nil)) => regimenref45_Word.nf k x.1) = fun k x => mainK regimenref45_Word.E Try.f24 (.cons (.int .i64) .nil) k x := by kernel_rfl
set_option maxHeartbeats 2000000 in
theorem regimenref45_Word.bf (k : Nat) (a0 : Int) : Lo (regimenref45_Word.f a0) (regimenref45_Word.nf k a0) := by
  unfold regimenref45_Word.f regimenref45_Word.nf
  try simp only [Bool.false_xor, Bool.true_xor, wu8_64, wu8_u64, byL_nums, btS_bt, nil_tl, beq_decL, beq_decI]
  repeat' first
    | (with_reducible exact lo_refl _)
    | exact lo_none _
    | (with_reducible refine lo_lpos (by first | assumption | decide) ?_)
    | (with_reducible refine lo_lneg (by first | assumption | decide) ?_)
    | (with_reducible refine lo_ite (fun _ => ?_) (fun _ => ?_))
    | (with_reducible refine lo_bind (fun _ => ?_))
    | (with_reducible refine lo_left ?_)
    | (refine lo_neg (by decide) ?_)
    | (refine lo_pos (by first | assumption | omega) ?_)
    | (refine lo_neg (by first | assumption | omega) ?_)
    | (with_reducible refine lo_test (fun _ => by first | assumption | omega | (simp only [List.length_cons, List.length_nil]; omega) | decide) (fun _ => ?_))
    | (with_reducible refine lo_testn (fun _ => by first | assumption | omega) (fun _ => ?_))
    | (with_reducible refine lo_and (fun z => by first | exact z.1 | omega) (fun z => by first | exact z.2 | omega) (fun _ => ?_))
    | exact lo_refl _
    | (with_reducible refine lo_iff (by first | exact Iff.rfl | omega | (simp; done) | decide) (fun _ => ?_) (fun _ => ?_))
    | (with_reducible refine lo_iffn (by first | exact Iff.rfl | omega | (simp; done) | decide) (fun _ => ?_) (fun _ => ?_))
    | refine lo_ite (fun _ => ?_) (fun _ => ?_)
    | refine lo_bind (fun _ => ?_)
    | (refine lo_some ?_; first | rfl | (rw [Bool.false_xor]; rfl) | (rw [Bool.true_xor]; rfl) | (simp only [Bool.and_true]; rfl) | (simp; done))
    | (simp only [Int.zero_sub]; exact lo_refl _)
    | (with_reducible refine lo_lpos (by omega) ?_)
    | (with_reducible refine lo_lneg (by omega) ?_)
    | (with_reducible refine lo_lite (fun _ => ?_) (fun _ => ?_))
    | (with_reducible refine lo_rite (fun _ => ?_) (fun _ => ?_))
  all_goals (exfalso; first | omega | (simp_all; done) | (simp_all; omega))
theorem regimenref45_Word.al : AllLe (obls regimenref45_Word.E Try.f24) := by
  rw [regimenref45_Word.h1]
  exact .nil
theorem regimenref45_Word.ok : CalleeOk Try.prog 24 regimenref45_Word.c := fn_ok tabOk mixed (fun _ => rfl) Try.func24 rfl (by kernel_rfl) ok_nil regimenref45_Word.al (fun k x r h => (congrFun (congrFun regimenref45_Word.h2 k) x).symm.trans (regimenref45_Word.bf k _ r h))
def regimenref02_Word.c : Sym.Callee := ⟨(.cons (.int .u64) .nil), (.sl (.int .u64)), false, List Int, fun k x => regimenref02_Word.f x.1, fun z => z, []⟩
def regimenref02_Word.nf (k : Nat) (a0 : Int) : Option (List Int) := (if (65536 : Int) = 0 then none else (if (65536 : Int) = 0 then none else (if (65536 : Int) = 0 then none else (if (4294967296 : Int) = 0 then none else (if (65536 : Int) = 0 then none else (if (281474976710656 : Int) = 0 then none else (some [(Int.tmod a0 (65536 : Int)), (Int.tmod (IntKind.wrap .u64 (Int.tdiv a0 (65536 : Int))) (65536 : Int)), (Int.tmod (IntKind.wrap .u64 (Int.tdiv a0 (4294967296 : Int))) (65536 : Int)), (IntKind.wrap .u64 (Int.tdiv a0 (281474976710656 : Int)))])))))))
noncomputable def regimenref02_Word.E : Env (List Int) := envOf tab Try.f92 false (.sl (.int .u64)) [] (fun y => y) [] [] []
theorem regimenref02_Word.h1 : obls regimenref02_Word.E Try.f92 = [] := by kernel_rfl
theorem regimenref02_Word.h2 : (fun k (x : El (.cons (.int .u64) .nil)) => regimenref02_Word.nf k x.1) = fun k x => mainK regimenref02_Word.E Try.f92 (.cons (.int .u64) .nil) k x := by kernel_rfl
set_option maxHeartbeats 2000000 in
theorem regimenref02_Word.bf (k : Nat) (a0 : Int) : Lo (regimenref02_Word.f a0) (regimenref02_Word.nf k a0) := by
  unfold regimenref02_Word.f regimenref02_Word.nf
  try simp only [Bool.false_xor, Bool.true_xor, wu8_64, wu8_u64, byL_nums, btS_bt, nil_tl, beq_decL, beq_decI]
  repeat' first
    | (with_reducible exact lo_refl _)
    | exact lo_none _
    | (with_reducible refine lo_lpos (by first | assumption | decide) ?_)
    | (with_reducible refine lo_lneg (by first | assumption | decide) ?_)
    | (with_reducible refine lo_ite (fun _ => ?_) (fun _ => ?_))
    | (with_reducible refine lo_bind (fun _ => ?_))
    | (with_reducible refine lo_left ?_)
    | (refine lo_neg (by decide) ?_)
    | (refine lo_pos (by first | assumption | omega) ?_)
    | (refine lo_neg (by first | assumption | omega) ?_)
    | (with_reducible refine lo_test (fun _ => by first | assumption | omega | (simp only [List.length_cons, List.length_nil]; omega) | decide) (fun _ => ?_))
    | (with_reducible refine lo_testn (fun _ => by first | assumption | omega) (fun _ => ?_))
    | (with_reducible refine lo_and (fun z => by first | exact z.1 | omega) (fun z => by first | exact z.2 | omega) (fun _ => ?_))
    | exact lo_refl _
    | (with_reducible refine lo_iff (by first | exact Iff.rfl | omega | (simp; done) | decide) (fun _ => ?_) (fun _ => ?_))
    | (with_reducible refine lo_iffn (by first | exact Iff.rfl | omega | (simp; done) | decide) (fun _ => ?_) (fun _ => ?_))
    | refine lo_ite (fun _ => ?_) (fun _ => ?_)
    | refine lo_bind (fun _ => ?_)
    | (refine lo_some ?_; first | rfl | (rw [Bool.false_xor]; rfl) | (rw [Bool.true_xor]; rfl) | (simp only [Bool.and_true]; rfl) | (simp; done))
    | (simp only [Int.zero_sub]; exact lo_refl _)
    | (with_reducible refine lo_lpos (by omega) ?_)
    | (with_reducible refine lo_lneg (by omega) ?_)
    | (with_reducible refine lo_lite (fun _ => ?_) (fun _ => ?_))
    | (with_reducible refine lo_rite (fun _ => ?_) (fun _ => ?_))
  all_goals (exfalso; first | omega | (simp_all; done) | (simp_all; omega))
theorem regimenref02_Word.al : AllLe (obls regimenref02_Word.E Try.f92) := by
  rw [regimenref02_Word.h1]
  exact .nil
theorem regimenref02_Word.ok : CalleeOk Try.prog 92 regimenref02_Word.c := fn_ok tabOk mixed (fun _ => rfl) Try.func92 rfl (by kernel_rfl) ok_nil regimenref02_Word.al (fun k x r h => (congrFun (congrFun regimenref02_Word.h2 k) x).symm.trans (regimenref02_Word.bf k _ r h))
def regimenref02_Size.c : Sym.Callee := ⟨(.cons (.int .i64) .nil), (.sl (.int .u64)), false, List Int, fun k x => regimenref02_Size.f x.1, fun z => z, []⟩
def regimenref02_Size.nf (k : Nat) (a0 : Int) : Option (List Int) := (if a0 < (0 : Int) then ((regimenref02_Word.f (IntKind.wrap .u64 ((0 : Int) - (IntKind.wrap .u64 (a0))))).bind fun t1 => (some t1)) else ((regimenref02_Word.f (IntKind.wrap .u64 (a0))).bind fun t2 => (some t2)))
noncomputable def regimenref02_Size.E : Env (List Int) := envOf tab Try.f66 false (.sl (.int .u64)) [] (fun y => y) [(92, regimenref02_Word.c)] [] []
theorem regimenref02_Size.h1 : obls regimenref02_Size.E Try.f66 = [] := by kernel_rfl
theorem regimenref02_Size.h2 : (fun k (x : El (.cons (.int .i64) .nil)) => regimenref02_Size.nf k x.1) = fun k x => mainK regimenref02_Size.E Try.f66 (.cons (.int .i64) .nil) k x := by kernel_rfl
set_option maxHeartbeats 2000000 in
theorem regimenref02_Size.bf (k : Nat) (a0 : Int) : Lo (regimenref02_Size.f a0) (regimenref02_Size.nf k a0) := by
  unfold regimenref02_Size.f regimenref02_Size.nf
  try simp only [Bool.false_xor, Bool.true_xor, wu8_64, wu8_u64, byL_nums, btS_bt, nil_tl, beq_decL, beq_decI]
  repeat' first
    | (with_reducible exact lo_refl _)
    | exact lo_none _
    | (with_reducible refine lo_lpos (by first | assumption | decide) ?_)
    | (with_reducible refine lo_lneg (by first | assumption | decide) ?_)
    | (with_reducible refine lo_ite (fun _ => ?_) (fun _ => ?_))
    | (with_reducible refine lo_bind (fun _ => ?_))
    | (with_reducible refine lo_left ?_)
    | (refine lo_neg (by decide) ?_)
    | (refine lo_pos (by first | assumption | omega) ?_)
    | (refine lo_neg (by first | assumption | omega) ?_)
    | (with_reducible refine lo_test (fun _ => by first | assumption | omega | (simp only [List.length_cons, List.length_nil]; omega) | decide) (fun _ => ?_))
    | (with_reducible refine lo_testn (fun _ => by first | assumption | omega) (fun _ => ?_))
    | (with_reducible refine lo_and (fun z => by first | exact z.1 | omega) (fun z => by first | exact z.2 | omega) (fun _ => ?_))
    | exact lo_refl _
    | (with_reducible refine lo_iff (by first | exact Iff.rfl | omega | (simp; done) | decide) (fun _ => ?_) (fun _ => ?_))
    | (with_reducible refine lo_iffn (by first | exact Iff.rfl | omega | (simp; done) | decide) (fun _ => ?_) (fun _ => ?_))
    | refine lo_ite (fun _ => ?_) (fun _ => ?_)
    | refine lo_bind (fun _ => ?_)
    | (refine lo_some ?_; first | rfl | (rw [Bool.false_xor]; rfl) | (rw [Bool.true_xor]; rfl) | (simp only [Bool.and_true]; rfl) | (simp; done))
    | (simp only [Int.zero_sub]; exact lo_refl _)
    | (with_reducible refine lo_lpos (by omega) ?_)
    | (with_reducible refine lo_lneg (by omega) ?_)
    | (with_reducible refine lo_lite (fun _ => ?_) (fun _ => ?_))
    | (with_reducible refine lo_rite (fun _ => ?_) (fun _ => ?_))
  all_goals (exfalso; first | omega | (simp_all; done) | (simp_all; omega))
theorem regimenref02_Size.al : AllLe (obls regimenref02_Size.E Try.f66) := by
  rw [regimenref02_Size.h1]
  exact .nil
theorem regimenref02_Size.ok : CalleeOk Try.prog 66 regimenref02_Size.c := fn_ok tabOk mixed (fun _ => rfl) Try.func66 rfl (by kernel_rfl) (ok_cons regimenref02_Word.ok ok_nil) regimenref02_Size.al (fun k x r h => (congrFun (congrFun regimenref02_Size.h2 k) x).symm.trans (regimenref02_Size.bf k _ r h))
def regimenref02_Times.c : Sym.Callee := ⟨(.cons (.sl (.int .u64)) (.cons (.sl (.int .u64)) .nil)), (.sl (.int .u64)), false, List Int, fun k x => regimenref02_Times.f k x.1 x.2.1, fun z => z, []⟩
def regimenref02_Times.nl0 (k : Nat) (x0 : List Int) (x1 : List Int) (r5 : List Int) (x6 : Int) : Option (List Int) := (if x6 < (x0.length : Int) then (regimenref02_Times.l1 k x0 x1 r5 x6 (0 : Int) (0 : Int)) else (some r5))
def regimenref02_Times.nl1 (k : Nat) (x0 : List Int) (x1 : List Int) (r5 : List Int) (x6 : Int) (x7 : Int) (x8 : Int) : Option (List Int) := (if x8 < (x1.length : Int) then (if 0 ≤ (wrap64 (x6 + x8)) then (if (wrap64 (x6 + x8)) < ((r5.length : Nat) : Int) then (if 0 ≤ x6 then (if x6 < (x0.length : Int) then (if 0 ≤ x8 then (if x8 < (x1.length : Int) then (if (65536 : Int) = 0 then none else (if 0 ≤ (wrap64 (x6 + x8)) then (if (wrap64 (x6 + x8)) < ((r5.length : Nat) : Int) then (if (65536 : Int) = 0 then none else (regimenref02_Times.l1 k x0 x1 (r5.set ((wrap64 (x6 + x8))).toNat (Int.tmod (IntKind.wrap .u64 ((IntKind.wrap .u64 ((r5.getD ((wrap64 (x6 + x8))).toNat 0) + (IntKind.wrap .u64 ((x0.getD (x6).toNat 0) * (x1.getD (x8).toNat 0))))) + x7)) (65536 : Int))) x6 (IntKind.wrap .u64 (Int.tdiv (IntKind.wrap .u64 ((IntKind.wrap .u64 ((r5.getD ((wrap64 (x6 + x8))).toNat 0) + (IntKind.wrap .u64 ((x0.getD (x6).toNat 0) * (x1.getD (x8).toNat 0))))) + x7)) (65536 : Int))) (wrap64 (x8 + (1 : Int))))) else none) else none)) else none) else none) else none) else none) else none) else none) else (if 0 ≤ (wrap64 (x6 + (x1.length : Int))) then (if (wrap64 (x6 + (x1.length : Int))) < ((r5.length : Nat) : Int) then (if 0 ≤ (wrap64 (x6 + (x1.length : Int))) then (if (wrap64 (x6 + (x1.length : Int))) < ((r5.length : Nat) : Int) then (regimenref02_Times.l0 k x0 x1 (r5.set ((wrap64 (x6 + (x1.length : Int)))).toNat (IntKind.wrap .u64 ((r5.getD ((wrap64 (x6 + (x1.length : Int)))).toNat 0) + x7))) (wrap64 (x6 + (1 : Int)))) else none) else none) else none) else none))
def regimenref02_Times.nf (k : Nat) (a0 : List Int) (a1 : List Int) : Option (List Int) := (if 0 ≤ (wrap64 ((a0.length : Int) + (a1.length : Int))) then (if (wrap64 ((a0.length : Int) + (a1.length : Int))) * ((8 : Nat) : Int) ≤ 281474976710656 then (regimenref02_Times.l0 k a0 a1 (List.replicate ((wrap64 ((a0.length : Int) + (a1.length : Int)))).toNat 0) (0 : Int)) else none) else none)
noncomputable def regimenref02_Times.E : Env (List Int) := envOf tab Try.f75 false (.sl (.int .u64)) [] (fun y => y) [] [⟨3, ⟨71, [(0, (.sl (.int .u64)), []), (1, (.sl (.int .u64)), []), (6, (.int .i64), [])], [], [(5, none, 93, (.int .u64))]⟩, fun k y => regimenref02_Times.l0 k y.1.1 y.1.2.1 y.2.2.1.1 y.1.2.2.1⟩, ⟨7, ⟨71, [(0, (.sl (.int .u64)), []), (1, (.sl (.int .u64)), []), (6, (.int .i64), []), (7, (.int .u64), []), (8, (.int .i64), [])], [], [(5, none, 93, (.int .u64))]⟩, fun k y => regimenref02_Times.l1 k y.1.1 y.1.2.1 y.2.2.1.1 y.1.2.2.1 y.1.2.2.2.1 y.1.2.2.2.2.1⟩] []
theorem regimenref02_Times.h1 : obls regimenref02_Times.E Try.f75 = [⟨(.cons (.cons (.sl (.int .u64)) (.cons (.sl (.int .u64)) (.cons (.int .i64) .nil))) (.cons .nil (.cons (.cons (.sl (.int .u64)) .nil) .nil))), fun k y => regimenref02_Times.l0 (k + 1) y.1.1 y.1.2.1 y.2.2.1.1 y.1.2.2.1, fun k y => regimenref02_Times.nl0 k y.1.1 y.1.2.1 y.2.2.1.1 y.1.2.2.1⟩, ⟨(.cons (.cons (.sl (.int .u64)) (.cons (.sl (.int .u64)) (.cons (.int .i64) .nil))) (.cons .nil (.cons (.cons (.sl (.int .u64)) .nil) .nil))), fun _ y => regimenref02_Times.l0 0 y.1.1 y.1.2.1 y.2.2.1.1 y.1.2.2.1, fun _ _ => none⟩, ⟨(.cons (.cons (.sl (.int .u64)) (.cons (.sl (.int .u64)) (.cons (.int .i64) (.cons (.int .u64) (.cons (.int .i64) .nil))))) (.cons .nil (.cons (.cons (.sl (.int .u64)) .nil) .nil))), fun k y => regimenref02_Times.l1 (k + 1) y.1.1 y.1.2.1 y.2.2.1.1 y.1.2.2.1 y.1.2.2.2.1 y.1.2.2.2.2.1, fun k y => regimenref02_Times.nl1 k y.1.1 y.1.2.1 y.2.2.1.1 y.1.2.2.1 y.1.2.2.2.1 y.1.2.2.2.2.1⟩, ⟨(.cons (.cons (.sl (.int .u64)) (.cons (.sl (.int .u64)) (.cons (.int .i64) (.cons (.int .u64) (.cons (.int .i64) .nil))))) (.cons .nil (.cons (.cons (.sl (.int .u64)) .nil) .nil))), fun _ y => regimenref02_Times.l1 0 y.1.1 y.1.2.1 y.2.2.1.1 y.1.2.2.1 y.1.2.2.2.1 y.1.2.2.2.2.1, fun _ _ => none⟩] := by kernel_rfl
theorem regimenref02_Times.h2 : (fun k (x : El (.cons (.sl (.int .u64)) (.cons (.sl (.int .u64)) .nil))) => regimenref02_Times.nf k x.1 x.2.1) = fun k x => mainK regimenref02_Times.E Try.f75 (.cons (.sl (.int .u64)) (.cons (.sl (.int .u64)) .nil)) k x := by kernel_rfl
theorem regimenref02_Times.bl0 (k : Nat) (x0 : List Int) (x1 : List Int) (r5 : List Int) (x6 : Int) : Lo (regimenref02_Times.l0 (k + 1) x0 x1 r5 x6) (regimenref02_Times.nl0 k x0 x1 r5 x6) := by
  rw [regimenref02_Times.l0]
  unfold regimenref02_Times.nl0
  try simp only [Bool.false_xor, Bool.true_xor, wu8_64, wu8_u64, byL_nums, btS_bt, nil_tl, beq_decL, beq_decI]
  repeat' first
    | (with_reducible exact lo_refl _)
    | exact lo_none _
    | (with_reducible refine lo_lpos (by first | assumption | decide) ?_)
    | (with_reducible refine lo_lneg (by first | assumption | decide) ?_)
    | (with_reducible refine lo_ite (fun _ => ?_) (fun _ => ?_))
    | (with_reducible refine lo_bind (fun _ => ?_))
    | (with_reducible refine lo_left ?_)
    | (refine lo_neg (by decide) ?_)
    | (refine lo_pos (by first | assumption | omega) ?_)
    | (refine lo_neg (by first | assumption | omega) ?_)
    | (with_reducible refine lo_test (fun _ => by first | assumption | omega | (simp only [List.length_cons, List.length_nil]; omega) | decide) (fun _ => ?_))
    | (with_reducible refine lo_testn (fun _ => by first | assumption | omega) (fun _ => ?_))
    | (with_reducible refine lo_and (fun z => by first | exact z.1 | omega) (fun z => by first | exact z.2 | omega) (fun _ => ?_))
    | exact lo_refl _
    | (with_reducible refine lo_iff (by first | exact Iff.rfl | omega | (simp; done) | decide) (fun _ => ?_) (fun _ => ?_))
    | (with_reducible refine lo_iffn (by first | exact Iff.rfl | omega | (simp; done) | decide) (fun _ => ?_) (fun _ => ?_))
    | refine lo_ite (fun _ => ?_) (fun _ => ?_)
    | refine lo_bind (fun _ => ?_)
    | (refine lo_some ?_; first | rfl | (rw [Bool.false_xor]; rfl) | (rw [Bool.true_xor]; rfl) | (simp only [Bool.and_true]; rfl) | (simp; done))
    | (simp only [Int.zero_sub]; exact lo_refl _)
    | (with_reducible refine lo_lpos (by omega) ?_)
    | (with_reducible refine lo_lneg (by omega) ?_)
    | (with_reducible refine lo_lite (fun _ => ?_) (fun _ => ?_))
    | (with_reducible refine lo_rite (fun _ => ?_) (fun _ => ?_))
  all_goals (exfalso; first | omega | (simp_all; done) | (simp_all; omega))
theorem regimenref02_Times.bl1 (k : Nat) (x0 : List Int) (x1 : List Int) (r5 : List Int) (x6 : Int) (x7 : Int) (x8 : Int) : Lo (regimenref02_Times.l1 (k + 1) x0 x1 r5 x6 x7 x8) (regimenref02_Times.nl1 k x0 x1 r5 x6 x7 x8) := by
  rw [regimenref02_Times.l1]
  unfold regimenref02_Times.nl1
  try simp only [Bool.false_xor, Bool.true_xor, wu8_64, wu8_u64, byL_nums, btS_bt, nil_tl, beq_decL, beq_decI]
  repeat' first
    | (with_reducible exact lo_refl _)
    | exact lo_none _
    | (with_reducible refine lo_lpos (by first | assumption | decide) ?_)
    | (with_reducible refine lo_lneg (by first | assumption | decide) ?_)
    | (with_reducible refine lo_ite (fun _ => ?_) (fun _ => ?_))
    | (with_reducible refine lo_bind (fun _ => ?_))
    | (with_reducible refine lo_left ?_)
    | (refine lo_neg (by decide) ?_)
    | (refine lo_pos (by first | assumption | omega) ?_)
    | (refine lo_neg (by first | assumption | omega) ?_)
    | (with_reducible refine lo_test (fun _ => by first | assumption | omega | (simp only [List.length_cons, List.length_nil]; omega) | decide) (fun _ => ?_))
    | (with_reducible refine lo_testn (fun _ => by first | assumption | omega) (fun _ => ?_))
    | (with_reducible refine lo_and (fun z => by first | exact z.1 | omega) (fun z => by first | exact z.2 | omega) (fun _ => ?_))
    | exact lo_refl _
    | (with_reducible refine lo_iff (by first | exact Iff.rfl | omega | (simp; done) | decide) (fun _ => ?_) (fun _ => ?_))
    | (with_reducible refine lo_iffn (by first | exact Iff.rfl | omega | (simp; done) | decide) (fun _ => ?_) (fun _ => ?_))
    | refine lo_ite (fun _ => ?_) (fun _ => ?_)
    | refine lo_bind (fun _ => ?_)
    | (refine lo_some ?_; first | rfl | (rw [Bool.false_xor]; rfl) | (rw [Bool.true_xor]; rfl) | (simp only [Bool.and_true]; rfl) | (simp; done))
    | (simp only [Int.zero_sub]; exact lo_refl _)
    | (with_reducible refine lo_lpos (by omega) ?_)
    | (with_reducible refine lo_lneg (by omega) ?_)
    | (with_reducible refine lo_lite (fun _ => ?_) (fun _ => ?_))
    | (with_reducible refine lo_rite (fun _ => ?_) (fun _ => ?_))
  all_goals (exfalso; first | omega | (simp_all; done) | (simp_all; omega))
set_option maxHeartbeats 2000000 in
theorem regimenref02_Times.bf (k : Nat) (a0 : List Int) (a1 : List Int) : Lo (regimenref02_Times.f k a0 a1) (regimenref02_Times.nf k a0 a1) := by
  unfold regimenref02_Times.f regimenref02_Times.nf
  try simp only [Bool.false_xor, Bool.true_xor, wu8_64, wu8_u64, byL_nums, btS_bt, nil_tl, beq_decL, beq_decI]
  repeat' first
    | (with_reducible exact lo_refl _)
    | exact lo_none _
    | (with_reducible refine lo_lpos (by first | assumption | decide) ?_)
    | (with_reducible refine lo_lneg (by first | assumption | decide) ?_)
    | (with_reducible refine lo_ite (fun _ => ?_) (fun _ => ?_))
    | (with_reducible refine lo_bind (fun _ => ?_))
    | (with_reducible refine lo_left ?_)
    | (refine lo_neg (by decide) ?_)
    | (refine lo_pos (by first | assumption | omega) ?_)
    | (refine lo_neg (by first | assumption | omega) ?_)
    | (with_reducible refine lo_test (fun _ => by first | assumption | omega | (simp only [List.length_cons, List.length_nil]; omega) | decide) (fun _ => ?_))
    | (with_reducible refine lo_testn (fun _ => by first | assumption | omega) (fun _ => ?_))
    | (with_reducible refine lo_and (fun z => by first | exact z.1 | omega) (fun z => by first | exact z.2 | omega) (fun _ => ?_))
    | exact lo_refl _
    | (with_reducible refine lo_iff (by first | exact Iff.rfl | omega | (simp; done) | decide) (fun _ => ?_) (fun _ => ?_))
    | (with_reducible refine lo_iffn (by first | exact Iff.rfl | omega | (simp; done) | decide) (fun _ => ?_) (fun _ => ?_))
    | refine lo_ite (fun _ => ?_) (fun _ => ?_)
    | refine lo_bind (fun _ => ?_)
    | (refine lo_some ?_; first | rfl | (rw [Bool.false_xor]; rfl) | (rw [Bool.true_xor]; rfl) | (simp only [Bool.and_true]; rfl) | (simp; done))
    | (simp only [Int.zero_sub]; exact lo_refl _)
    | (with_reducible refine lo_lpos (by omega) ?_)
    | (with_reducible refine lo_lneg (by omega) ?_)
    | (with_reducible refine lo_lite (fun _ => ?_) (fun _ => ?_))
    | (with_reducible refine lo_rite (fun _ => ?_) (fun _ => ?_))
  all_goals (exfalso; first | omega | (simp_all; done) | (simp_all; omega))
theorem regimenref02_Times.al : AllLe (obls regimenref02_Times.E Try.f75) := by
  rw [regimenref02_Times.h1]
  exact (.cons (fun k y r h => regimenref02_Times.bl0 k y.1.1 y.1.2.1 y.2.2.1.1 y.1.2.2.1 r h) (.cons (fun _ y r h => by simp [regimenref02_Times.l0] at h) (.cons (fun k y r h => regimenref02_Times.bl1 k y.1.1 y.1.2.1 y.2.2.1.1 y.1.2.2.1 y.1.2.2.2.1 y.1.2.2.2.2.1 r h) (.cons (fun _ y r h => by simp [regimenref02_Times.l1] at h) .nil))))
theorem regimenref02_Times.ok : CalleeOk Try.prog 75 regimenref02_Times.c := fn_ok tabOk mixed (fun _ => rfl) Try.func75 rfl (by kernel_rfl) ok_nil regimenref02_Times.al (fun k x r h => (congrFun (congrFun regimenref02_Times.h2 k) x).symm.trans (regimenref02_Times.bf k _ _ r h))
def regimenref05_Tens.c : Sym.Callee := ⟨(.cons (.int .i64) .nil), (.sl (.int .u64)), false, List Int, fun k x => regimenref05_Tens.f k x.1, fun z => z, []⟩
def regimenref05_Tens.nl0 (k : Nat) (x0 : Int) (x3 : List Int) (x4 : Int) : Option (List Int) := (if x4 < x0 then ((regimenref02_Times.f k x3 [(10 : Int)]).bind fun t1 => (regimenref05_Tens.l0 k x0 t1 (wrap64 (x4 + (1 : Int))))) else (some x3))
def regimenref05_Tens.nf (k : Nat) (a0 : Int) : Option (List Int) := (regimenref05_Tens.l0 k a0 [(1 : Int)] (0 : Int))
noncomputable def regimenref05_Tens.E : Env (List Int) := envOf tab Try.f76 false (.sl (.int .u64)) [] (fun y => y) [(75, regimenref02_Times.c)] [⟨3, ⟨15, [(0, (.int .i64), []), (3, (.sl (.int .u64)), []), (4, (.int .i64), [])], [], []⟩, fun k y => regimenref05_Tens.l0 k y.1.1 y.1.2.1 y.1.2.2.1⟩] []
theorem regimenref05_Tens.h1 : obls regimenref05_Tens.E Try.f76 = [⟨(.cons (.cons (.int .i64) (.cons (.sl (.int .u64)) (.cons (.int .i64) .nil))) (.cons .nil (.cons .nil .nil))), fun k y => regimenref05_Tens.l0 (k + 1) y.1.1 y.1.2.1 y.1.2.2.1, fun k y => regimenref05_Tens.nl0 k y.1.1 y.1.2.1 y.1.2.2.1⟩, ⟨(.cons (.cons (.int .i64) (.cons (.sl (.int .u64)) (.cons (.int .i64) .nil))) (.cons .nil (.cons .nil .nil))), fun _ y => regimenref05_Tens.l0 0 y.1.1 y.1.2.1 y.1.2.2.1, fun _ _ => none⟩] := by kernel_rfl
theorem regimenref05_Tens.h2 : (fun k (x : El (.cons (.int .i64) .nil)) => regimenref05_Tens.nf k x.1) = fun k x => mainK regimenref05_Tens.E Try.f76 (.cons (.int .i64) .nil) k x := by kernel_rfl
theorem regimenref05_Tens.bl0 (k : Nat) (x0 : Int) (x3 : List Int) (x4 : Int) : Lo (regimenref05_Tens.l0 (k + 1) x0 x3 x4) (regimenref05_Tens.nl0 k x0 x3 x4) := by
  rw [regimenref05_Tens.l0]
  unfold regimenref05_Tens.nl0
  try simp only [Bool.false_xor, Bool.true_xor, wu8_64, wu8_u64, byL_nums, btS_bt, nil_tl, beq_decL, beq_decI]
  repeat' first
    | (with_reducible exact lo_refl _)
    | exact lo_none _
    | (with_reducible refine lo_lpos (by first | assumption | decide) ?_)
    | (with_reducible refine lo_lneg (by first | assumption | decide) ?_)
    | (with_reducible refine lo_ite (fun _ => ?_) (fun _ => ?_))
    | (with_reducible refine lo_bind (fun _ => ?_))
    | (with_reducible refine lo_left ?_)
    | (refine lo_neg (by decide) ?_)
    | (refine lo_pos (by first | assumption | omega) ?_)
    | (refine lo_neg (by first | assumption | omega) ?_)
    | (with_reducible refine lo_test (fun _ => by first | assumption | omega | (simp only [List.length_cons, List.length_nil]; omega) | decide) (fun _ => ?_))
    | (with_reducible refine lo_testn (fun _ => by first | assumption | omega) (fun _ => ?_))
    | (with_reducible refine lo_and (fun z => by first | exact z.1 | omega) (fun z => by first | exact z.2 | omega) (fun _ => ?_))
    | exact lo_refl _
    | (with_reducible refine lo_iff (by first | exact Iff.rfl | omega | (simp; done) | decide) (fun _ => ?_) (fun _ => ?_))
    | (with_reducible refine lo_iffn (by first | exact Iff.rfl | omega | (simp; done) | decide) (fun _ => ?_) (fun _ => ?_))
    | refine lo_ite (fun _ => ?_) (fun _ => ?_)
    | refine lo_bind (fun _ => ?_)
    | (refine lo_some ?_; first | rfl | (rw [Bool.false_xor]; rfl) | (rw [Bool.true_xor]; rfl) | (simp only [Bool.and_true]; rfl) | (simp; done))
    | (simp only [Int.zero_sub]; exact lo_refl _)
    | (with_reducible refine lo_lpos (by omega) ?_)
    | (with_reducible refine lo_lneg (by omega) ?_)
    | (with_reducible refine lo_lite (fun _ => ?_) (fun _ => ?_))
    | (with_reducible refine lo_rite (fun _ => ?_) (fun _ => ?_))
  all_goals (exfalso; first | omega | (simp_all; done) | (simp_all; omega))
set_option maxHeartbeats 2000000 in
theorem regimenref05_Tens.bf (k : Nat) (a0 : Int) : Lo (regimenref05_Tens.f k a0) (regimenref05_Tens.nf k a0) := by
  unfold regimenref05_Tens.f regimenref05_Tens.nf
  try simp only [Bool.false_xor, Bool.true_xor, wu8_64, wu8_u64, byL_nums, btS_bt, nil_tl, beq_decL, beq_decI]
  repeat' first
    | (with_reducible exact lo_refl _)
    | exact lo_none _
    | (with_reducible refine lo_lpos (by first | assumption | decide) ?_)
    | (with_reducible refine lo_lneg (by first | assumption | decide) ?_)
    | (with_reducible refine lo_ite (fun _ => ?_) (fun _ => ?_))
    | (with_reducible refine lo_bind (fun _ => ?_))
    | (with_reducible refine lo_left ?_)
    | (refine lo_neg (by decide) ?_)
    | (refine lo_pos (by first | assumption | omega) ?_)
    | (refine lo_neg (by first | assumption | omega) ?_)
    | (with_reducible refine lo_test (fun _ => by first | assumption | omega | (simp only [List.length_cons, List.length_nil]; omega) | decide) (fun _ => ?_))
    | (with_reducible refine lo_testn (fun _ => by first | assumption | omega) (fun _ => ?_))
    | (with_reducible refine lo_and (fun z => by first | exact z.1 | omega) (fun z => by first | exact z.2 | omega) (fun _ => ?_))
    | exact lo_refl _
    | (with_reducible refine lo_iff (by first | exact Iff.rfl | omega | (simp; done) | decide) (fun _ => ?_) (fun _ => ?_))
    | (with_reducible refine lo_iffn (by first | exact Iff.rfl | omega | (simp; done) | decide) (fun _ => ?_) (fun _ => ?_))
    | refine lo_ite (fun _ => ?_) (fun _ => ?_)
    | refine lo_bind (fun _ => ?_)
    | (refine lo_some ?_; first | rfl | (rw [Bool.false_xor]; rfl) | (rw [Bool.true_xor]; rfl) | (simp only [Bool.and_true]; rfl) | (simp; done))
    | (simp only [Int.zero_sub]; exact lo_refl _)
    | (with_reducible refine lo_lpos (by omega) ?_)
    | (with_reducible refine lo_lneg (by omega) ?_)
    | (with_reducible refine lo_lite (fun _ => ?_) (fun _ => ?_))
    | (with_reducible refine lo_rite (fun _ => ?_) (fun _ => ?_))
  all_goals (exfalso; first | omega | (simp_all; done) | (simp_all; omega))
theorem regimenref05_Tens.al : AllLe (obls regimenref05_Tens.E Try.f76) := by
  rw [regimenref05_Tens.h1]
  exact (.cons (fun k y r h => regimenref05_Tens.bl0 k y.1.1 y.1.2.1 y.1.2.2.1 r h) (.cons (fun _ y r h => by simp [regimenref05_Tens.l0] at h) .nil))
theorem regimenref05_Tens.ok : CalleeOk Try.prog 76 regimenref05_Tens.c := fn_ok tabOk mixed (fun _ => rfl) Try.func76 rfl (by kernel_rfl) (ok_cons regimenref02_Times.ok ok_nil) regimenref05_Tens.al (fun k x r h => (congrFun (congrFun regimenref05_Tens.h2 k) x).symm.trans (regimenref05_Tens.bf k _ r h))
def regimenref02_digit.c : Sym.Callee := ⟨(.cons (.sl (.int .u64)) (.cons (.int .i64) .nil)), (.int .u64), false, Int, fun k x => regimenref02_digit.f x.1 x.2.1, fun z => z, []⟩
def regimenref02_digit.nf (k : Nat) (a0 : List Int) (a1 : Int) : Option (Int) := (if a1 < (a0.length : Int) then (if 0 ≤ a1 then (if a1 < (a0.length : Int) then (some (a0.getD (a1).toNat 0)) else none) else none) else (some (0 : Int)))
noncomputable def regimenref02_digit.E : Env (Int) := envOf tab Try.f111 false (.int .u64) [] (fun y => y) [] [] []
theorem regimenref02_digit.h1 : obls regimenref02_digit.E Try.f111 = [] := by kernel_rfl
theorem regimenref02_digit.h2 : (fun k (x : El (.cons (.sl (.int .u64)) (.cons (.int .i64) .nil))) => regimenref02_digit.nf k x.1 x.2.1) = fun k x => mainK regimenref02_digit.E Try.f111 (.cons (.sl (.int .u64)) (.cons (.int .i64) .nil)) k x := by kernel_rfl
set_option maxHeartbeats 2000000 in
theorem regimenref02_digit.bf (k : Nat) (a0 : List Int) (a1 : Int) : Lo (regimenref02_digit.f a0 a1) (regimenref02_digit.nf k a0 a1) := by
  unfold regimenref02_digit.f regimenref02_digit.nf
  try simp only [Bool.false_xor, Bool.true_xor, wu8_64, wu8_u64, byL_nums, btS_bt, nil_tl, beq_decL, beq_decI]
  repeat' first
    | (with_reducible exact lo_refl _)
    | exact lo_none _
    | (with_reducible refine lo_lpos (by first | assumption | decide) ?_)
    | (with_reducible refine lo_lneg (by first | assumption | decide) ?_)
    | (with_reducible refine lo_ite (fun _ => ?_) (fun _ => ?_))
    | (with_reducible refine lo_bind (fun _ => ?_))
    | (with_reducible refine lo_left ?_)
    | (refine lo_neg (by decide) ?_)
    | (refine lo_pos (by first | assumption | omega) ?_)
    | (refine lo_neg (by first | assumption | omega) ?_)
    | (with_reducible refine lo_test (fun _ => by first | assumption | omega | (simp only [List.length_cons, List.length_nil]; omega) | decide) (fun _ => ?_))
    | (with_reducible refine lo_testn (fun _ => by first | assumption | omega) (fun _ => ?_))
    | (with_reducible refine lo_and (fun z => by first | exact z.1 | omega) (fun z => by first | exact z.2 | omega) (fun _ => ?_))
    | exact lo_refl _
    | (with_reducible refine lo_iff (by first | exact Iff.rfl | omega | (simp; done) | decide) (fun _ => ?_) (fun _ => ?_))
    | (with_reducible refine lo_iffn (by first | exact Iff.rfl | omega | (simp; done) | decide) (fun _ => ?_) (fun _ => ?_))
    | refine lo_ite (fun _ => ?_) (fun _ => ?_)
    | refine lo_bind (fun _ => ?_)
    | (refine lo_some ?_; first | rfl | (rw [Bool.false_xor]; rfl) | (rw [Bool.true_xor]; rfl) | (simp only [Bool.and_true]; rfl) | (simp; done))
    | (simp only [Int.zero_sub]; exact lo_refl _)
    | (with_reducible refine lo_lpos (by omega) ?_)
    | (with_reducible refine lo_lneg (by omega) ?_)
    | (with_reducible refine lo_lite (fun _ => ?_) (fun _ => ?_))
    | (with_reducible refine lo_rite (fun _ => ?_) (fun _ => ?_))
  all_goals (exfalso; first | omega | (simp_all; done) | (simp_all; omega))
theorem regimenref02_digit.al : AllLe (obls regimenref02_digit.E Try.f111) := by
  rw [regimenref02_digit.h1]
  exact .nil
theorem regimenref02_digit.ok : CalleeOk Try.prog 111 regimenref02_digit.c := fn_ok tabOk mixed (fun _ => rfl) Try.func111 rfl (by kernel_rfl) ok_nil regimenref02_digit.al (fun k x r h => (congrFun (congrFun regimenref02_digit.h2 k) x).symm.trans (regimenref02_digit.bf k _ _ r h))
def regimenref02_Plus.c : Sym.Callee := ⟨(.cons (.sl (.int .u64)) (.cons (.sl (.int .u64)) .nil)), (.sl (.int .u64)), false, List Int, fun k x => regimenref02_Plus.f k x.1 x.2.1, fun z => z, []⟩
def regimenref02_Plus.nl0 (k : Nat) (x0 : List Int) (x1 : List Int) (x5 : List Int) (x6 : Int) (x7 : Int) : Option (List Int) := (if x7 < (x0.length : Int) then ((regimenref02_digit.f x0 x7).bind fun t1 => ((regimenref02_digit.f x1 x7).bind fun t2 => (if (65536 : Int) = 0 then none else (if (x5.length + [(Int.tmod (IntKind.wrap .u64 ((IntKind.wrap .u64 (t1 + t2)) + x6)) (65536 : Int))].length) * 8 ≤ 140737488355328 then (if (65536 : Int) = 0 then none else (regimenref02_Plus.l0 k x0 x1 (x5 ++ [(Int.tmod (IntKind.wrap .u64 ((IntKind.wrap .u64 (t1 + t2)) + x6)) (65536 : Int))]) (IntKind.wrap .u64 (Int.tdiv (IntKind.wrap .u64 ((IntKind.wrap .u64 (t1 + t2)) + x6)) (65536 : Int))) (wrap64 (x7 + (1 : Int))))) else none)))) else (if x7 < (x1.length : Int) then ((regimenref02_digit.f x0 x7).bind fun t3 => ((regimenref02_digit.f x1 x7).bind fun t4 => (if (65536 : Int) = 0 then none else (if (x5.length + [(Int.tmod (IntKind.wrap .u64 ((IntKind.wrap .u64 (t3 + t4)) + x6)) (65536 : Int))].length) * 8 ≤ 140737488355328 then (if (65536 : Int) = 0 then none else (regimenref02_Plus.l0 k x0 x1 (x5 ++ [(Int.tmod (IntKind.wrap .u64 ((IntKind.wrap .u64 (t3 + t4)) + x6)) (65536 : Int))]) (IntKind.wrap .u64 (Int.tdiv (IntKind.wrap .u64 ((IntKind.wrap .u64 (t3 + t4)) + x6)) (65536 : Int))) (wrap64 (x7 + (1 : Int))))) else none)))) else (if x6 > (0 : Int) then ((regimenref02_digit.f x0 x7).bind fun t5 => ((regimenref02_digit.f x1 x7).bind fun t6 => (if (65536 : Int) = 0 then none else (if (x5.length + [(Int.tmod (IntKind.wrap .u64 ((IntKind.wrap .u64 (t5 + t6)) + x6)) (65536 : Int))].length) * 8 ≤ 140737488355328 then (if (65536 : Int) = 0 then none else (regimenref02_Plus.l0 k x0 x1 (x5 ++ [(Int.tmod (IntKind.wrap .u64 ((IntKind.wrap .u64 (t5 + t6)) + x6)) (65536 : Int))]) (IntKind.wrap .u64 (Int.tdiv (IntKind.wrap .u64 ((IntKind.wrap .u64 (t5 + t6)) + x6)) (65536 : Int))) (wrap64 (x7 + (1 : Int))))) else none)))) else (some x5))))
def regimenref02_Plus.nf (k : Nat) (a0 : List Int) (a1 : List Int) : Option (List Int) := (regimenref02_Plus.l0 k a0 a1 ([] : List Int) (0 : Int) (0 : Int))
noncomputable def regimenref02_Plus.E : Env (List Int) := envOf tab Try.f90 false (.sl (.int .u64)) [] (fun y => y) [(111, regimenref02_digit.c)] [⟨4, ⟨43, [(0, (.sl (.int .u64)), []), (1, (.sl (.int .u64)), []), (5, (.sl (.int .u64)), [⟨0, 6, 93, 1⟩]), (6, (.int .u64), []), (7, (.int .i64), [])], [], []⟩, fun k y => regimenref02_Plus.l0 k y.1.1 y.1.2.1 y.1.2.2.1 y.1.2.2.2.1 y.1.2.2.2.2.1⟩] []
theorem regimenref02_Plus.h1 : obls regimenref02_Plus.E Try.f90 = [⟨(.cons (.cons (.sl (.int .u64)) (.cons (.sl (.int .u64)) (.cons (.sl (.int .u64)) (.cons (.int .u64) (.cons (.int .i64) .nil))))) (.cons .nil (.cons .nil .nil))), fun k y => regimenref02_Plus.l0 (k + 1) y.1.1 y.1.2.1 y.1.2.2.1 y.1.2.2.2.1 y.1.2.2.2.2.1, fun k y => regimenref02_Plus.nl0 k y.1.1 y.1.2.1 y.1.2.2.1 y.1.2.2.2.1 y.1.2.2.2.2.1⟩, ⟨(.cons (.cons (.sl (.int .u64)) (.cons (.sl (.int .u64)) (.cons (.sl (.int .u64)) (.cons (.int .u64) (.cons (.int .i64) .nil))))) (.cons .nil (.cons .nil .nil))), fun _ y => regimenref02_Plus.l0 0 y.1.1 y.1.2.1 y.1.2.2.1 y.1.2.2.2.1 y.1.2.2.2.2.1, fun _ _ => none⟩] := by kernel_rfl
theorem regimenref02_Plus.h2 : (fun k (x : El (.cons (.sl (.int .u64)) (.cons (.sl (.int .u64)) .nil))) => regimenref02_Plus.nf k x.1 x.2.1) = fun k x => mainK regimenref02_Plus.E Try.f90 (.cons (.sl (.int .u64)) (.cons (.sl (.int .u64)) .nil)) k x := by kernel_rfl
theorem regimenref02_Plus.bl0 (k : Nat) (x0 : List Int) (x1 : List Int) (x5 : List Int) (x6 : Int) (x7 : Int) : Lo (regimenref02_Plus.l0 (k + 1) x0 x1 x5 x6 x7) (regimenref02_Plus.nl0 k x0 x1 x5 x6 x7) := by
  rw [regimenref02_Plus.l0]
  unfold regimenref02_Plus.nl0
  try simp only [Bool.false_xor, Bool.true_xor, wu8_64, wu8_u64, byL_nums, btS_bt, nil_tl, beq_decL, beq_decI]
  repeat' first
    | (with_reducible exact lo_refl _)
    | exact lo_none _
    | (with_reducible refine lo_lpos (by first | assumption | decide) ?_)
    | (with_reducible refine lo_lneg (by first | assumption | decide) ?_)
    | (with_reducible refine lo_ite (fun _ => ?_) (fun _ => ?_))
    | (with_reducible refine lo_bind (fun _ => ?_))
    | (with_reducible refine lo_left ?_)
    | (refine lo_neg (by decide) ?_)
    | (refine lo_pos (by first | assumption | omega) ?_)
    | (refine lo_neg (by first | assumption | omega) ?_)
    | (refine lo_trans (fun r h => (regimenref02_Plus.mono_l _).2 _ _ _ _ _ _ r h) ?_; rw [regimenref02_Plus.j1]; try simp only [decide_eq_true_eq])
    | (with_reducible refine lo_test (fun _ => by first | assumption | omega | (simp only [List.length_cons, List.length_nil]; omega) | decide) (fun _ => ?_))
    | (with_reducible refine lo_testn (fun _ => by first | assumption | omega) (fun _ => ?_))
    | (with_reducible refine lo_and (fun z => by first | exact z.1 | omega) (fun z => by first | exact z.2 | omega) (fun _ => ?_))
    | exact lo_refl _
    | (with_reducible refine lo_iff (by first | exact Iff.rfl | omega | (simp; done) | decide) (fun _ => ?_) (fun _ => ?_))
    | (with_reducible refine lo_iffn (by first | exact Iff.rfl | omega | (simp; done) | decide) (fun _ => ?_) (fun _ => ?_))
    | refine lo_ite (fun _ => ?_) (fun _ => ?_)
    | refine lo_bind (fun _ => ?_)
    | (refine lo_some ?_; first | rfl | (rw [Bool.false_xor]; rfl) | (rw [Bool.true_xor]; rfl) | (simp only [Bool.and_true]; rfl) | (simp; done))
    | (simp only [Int.zero_sub]; exact lo_refl _)
    | (with_reducible refine lo_lpos (by omega) ?_)
    | (with_reducible refine lo_lneg (by omega) ?_)
    | (with_reducible refine lo_lite (fun _ => ?_) (fun _ => ?_))
    | (with_reducible refine lo_rite (fun _ => ?_) (fun _ => ?_))
  all_goals (exfalso; first | omega | (simp_all; done) | (simp_all; omega))
set_option maxHeartbeats 2000000 in
theorem regimenref02_Plus.bf (k : Nat) (a0 : List Int) (a1 : List Int) : Lo (regimenref02_Plus.f k a0 a1) (regimenref02_Plus.nf k a0 a1) := by
  unfold regimenref02_Plus.f regimenref02_Plus.nf
  try simp only [Bool.false_xor, Bool.true_xor, wu8_64, wu8_u64, byL_nums, btS_bt, nil_tl, beq_decL, beq_decI]
  repeat' first
    | (with_reducible exact lo_refl _)
    | exact lo_none _
    | (with_reducible refine lo_lpos (by first | assumption | decide) ?_)
    | (with_reducible refine lo_lneg (by first | assumption | decide) ?_)
    | (with_reducible refine lo_ite (fun _ => ?_) (fun _ => ?_))
    | (with_reducible refine lo_bind (fun _ => ?_))
    | (with_reducible refine lo_left ?_)
    | (refine lo_neg (by decide) ?_)
    | (refine lo_pos (by first | assumption | omega) ?_)
    | (refine lo_neg (by first | assumption | omega) ?_)
    | (refine lo_trans (fun r h => (regimenref02_Plus.mono_l _).2 _ _ _ _ _ _ r h) ?_; rw [regimenref02_Plus.j1]; try simp only [decide_eq_true_eq])
    | (with_reducible refine lo_test (fun _ => by first | assumption | omega | (simp only [List.length_cons, List.length_nil]; omega) | decide) (fun _ => ?_))
    | (with_reducible refine lo_testn (fun _ => by first | assumption | omega) (fun _ => ?_))
    | (with_reducible refine lo_and (fun z => by first | exact z.1 | omega) (fun z => by first | exact z.2 | omega) (fun _ => ?_))
    | exact lo_refl _
    | (with_reducible refine lo_iff (by first | exact Iff.rfl | omega | (simp; done) | decide) (fun _ => ?_) (fun _ => ?_))
    | (with_reducible refine lo_iffn (by first | exact Iff.rfl | omega | (simp; done) | decide) (fun _ => ?_) (fun _ => ?_))
    | refine lo_ite (fun _ => ?_) (fun _ => ?_)
    | refine lo_bind (fun _ => ?_)
    | (refine lo_some ?_; first | rfl | (rw [Bool.false_xor]; rfl) | (rw [Bool.true_xor]; rfl) | (simp only [Bool.and_true]; rfl) | (simp; done))
    | (simp only [Int.zero_sub]; exact lo_refl _)
    | (with_reducible refine lo_lpos (by omega) ?_)
    | (with_reducible refine lo_lneg (by omega) ?_)
    | (with_reducible refine lo_lite (fun _ => ?_) (fun _ => ?_))
    | (with_reducible refine lo_rite (fun _ => ?_) (fun _ => ?_))
  all_goals (exfalso; first | omega | (simp_all; done) | (simp_all; omega))
theorem regimenref02_Plus.al : AllLe (obls regimenref02_Plus.E Try.f90) := by
  rw [regimenref02_Plus.h1]
  exact (.cons (fun k y r h => regimenref02_Plus.bl0 k y.1.1 y.1.2.1 y.1.2.2.1 y.1.2.2.2.1 y.1.2.2.2.2.1 r h) (.cons (fun _ y r h => by simp [regimenref02_Plus.l0] at h) .nil))
theorem regimenref02_Plus.ok : CalleeOk Try.prog 90 regimenref02_Plus.c := fn_ok tabOk mixed (fun _ => rfl) Try.func90 rfl (by kernel_rfl) (ok_cons regimenref02_digit.ok ok_nil) regimenref02_Plus.al (fun k x r h => (congrFun (congrFun regimenref02_Plus.h2 k) x).symm.trans (regimenref02_Plus.bf k _ _ r h))
def regimenref02_Twos.c : Sym.Callee := ⟨(.cons (.int .i64) .nil), (.sl (.int .u64)), false, List Int, fun k x => regimenref02_Twos.f k x.1, fun z => z, []⟩
def regimenref02_Twos.nl0 (k : Nat) (x0 : Int) (x3 : List Int) (x4 : Int) : Option (List Int) := (if x4 < x0 then ((regimenref02_Plus.f k x3 x3).bind fun t1 => (regimenref02_Twos.l0 k x0 t1 (wrap64 (x4 + (1 : Int))))) else (some x3))
def regimenref02_Twos.nf (k : Nat) (a0 : Int) : Option (List Int) := (regimenref02_Twos.l0 k a0 [(1 : Int)] (0 : Int))
noncomputable def regimenref02_Twos.E : Env (List Int) := envOf tab Try.f77 false (.sl (.int .u64)) [] (fun y => y) [(90, regimenref02_Plus.c)] [⟨3, ⟨15, [(0, (.int .i64), []), (3, (.sl (.int .u64)), []), (4, (.int .i64), [])], [], []⟩, fun k y => regimenref02_Twos.l0 k y.1.1 y.1.2.1 y.1.2.2.1⟩] []
theorem regimenref02_Twos.h1 : obls regimenref02_Twos.E Try.f77 = [⟨(.cons (.cons (.int .i64) (.cons (.sl (.int .u64)) (.cons (.int .i64) .nil))) (.cons .nil (.cons .nil .nil))), fun k y => regimenref02_Twos.l0 (k + 1) y.1.1 y.1.2.1 y.1.2.2.1, fun k y => regimenref02_Twos.nl0 k y.1.1 y.1.2.1 y.1.2.2.1⟩, ⟨(.cons (.cons (.int .i64) (.cons (.sl (.int .u64)) (.cons (.int .i64) .nil))) (.cons .nil (.cons .nil .nil))), fun _ y => regimenref02_Twos.l0 0 y.1.1 y.1.2.1 y.1.2.2.1, fun _ _ => none⟩] := by kernel_rfl
theorem regimenref02_Twos.h2 : (fun k (x : El (.cons (.int .i64) .nil)) => regimenref02_Twos.nf k x.1) = fun k x => mainK regimenref02_Twos.E Try.f77 (.cons (.int .i64) .nil) k x := by kernel_rfl
theorem regimenref02_Twos.bl0 (k : Nat) (x0 : Int) (x3 : List Int) (x4 : Int) : Lo (regimenref02_Twos.l0 (k + 1) x0 x3 x4) (regimenref02_Twos.nl0 k x0 x3 x4) := by
  rw [regimenref02_Twos.l0]
  unfold regimenref02_Twos.nl0
  try simp only [Bool.false_xor, Bool.true_xor, wu8_64, wu8_u64, byL_nums, btS_bt, nil_tl, beq_decL, beq_decI]
  repeat' first
    | (with_reducible exact lo_refl _)
    | exact lo_none _
    | (with_reducible refine lo_lpos (by first | assumption | decide) ?_)
    | (with_reducible refine lo_lneg (by first | assumption | decide) ?_)
    | (with_reducible refine lo_ite (fun _ => ?_) (fun _ => ?_))
    | (with_reducible refine lo_bind (fun _ => ?_))
    | (with_reducible refine lo_left ?_)
    | (refine lo_neg (by decide) ?_)
    | (refine lo_pos (by first | assumption | omega) ?_)
    | (refine lo_neg (by first | assumption | omega) ?_)
    | (with_reducible refine lo_test (fun _ => by first | assumption | omega | (simp only [List.length_cons, List.length_nil]; omega) | decide) (fun _ => ?_))
    | (with_reducible refine lo_testn (fun _ => by first | assumption | omega) (fun _ => ?_))
    | (with_reducible refine lo_and (fun z => by first | exact z.1 | omega) (fun z => by first | exact z.2 | omega) (fun _ => ?_))
    | exact lo_refl _
    | (with_reducible refine lo_iff (by first | exact Iff.rfl | omega | (simp; done) | decide) (fun _ => ?_) (fun _ => ?_))
    | (with_reducible refine lo_iffn (by first | exact Iff.rfl | omega | (simp; done) | decide) (fun _ => ?_) (fun _ => ?_))
    | refine lo_ite (fun _ => ?_) (fun _ => ?_)
    | refine lo_bind (fun _ => ?_)
    | (refine lo_some ?_; first | rfl | (rw [Bool.false_xor]; rfl) | (rw [Bool.true_xor]; rfl) | (simp only [Bool.and_true]; rfl) | (simp; done))
    | (simp only [Int.zero_sub]; exact lo_refl _)
    | (with_reducible refine lo_lpos (by omega) ?_)
    | (with_reducible refine lo_lneg (by omega) ?_)
    | (with_reducible refine lo_lite (fun _ => ?_) (fun _ => ?_))
    | (with_reducible refine lo_rite (fun _ => ?_) (fun _ => ?_))
  all_goals (exfalso; first | omega | (simp_all; done) | (simp_all; omega))
set_option maxHeartbeats 2000000 in
theorem regimenref02_Twos.bf (k : Nat) (a0 : Int) : Lo (regimenref02_Twos.f k a0) (regimenref02_Twos.nf k a0) := by
  unfold regimenref02_Twos.f regimenref02_Twos.nf
  try simp only [Bool.false_xor, Bool.true_xor, wu8_64, wu8_u64, byL_nums, btS_bt, nil_tl, beq_decL, beq_decI]
  repeat' first
    | (with_reducible exact lo_refl _)
    | exact lo_none _
    | (with_reducible refine lo_lpos (by first | assumption | decide) ?_)
    | (with_reducible refine lo_lneg (by first | assumption | decide) ?_)
    | (with_reducible refine lo_ite (fun _ => ?_) (fun _ => ?_))
    | (with_reducible refine lo_bind (fun _ => ?_))
    | (with_reducible refine lo_left ?_)
    | (refine lo_neg (by decide) ?_)
    | (refine lo_pos (by first | assumption | omega) ?_)
    | (refine lo_neg (by first | assumption | omega) ?_)
    | (with_reducible refine lo_test (fun _ => by first | assumption | omega | (simp only [List.length_cons, List.length_nil]; omega) | decide) (fun _ => ?_))
    | (with_reducible refine lo_testn (fun _ => by first | assumption | omega) (fun _ => ?_))
    | (with_reducible refine lo_and (fun z => by first | exact z.1 | omega) (fun z => by first | exact z.2 | omega) (fun _ => ?_))
    | exact lo_refl _
    | (with_reducible refine lo_iff (by first | exact Iff.rfl | omega | (simp; done) | decide) (fun _ => ?_) (fun _ => ?_))
    | (with_reducible refine lo_iffn (by first | exact Iff.rfl | omega | (simp; done) | decide) (fun _ => ?_) (fun _ => ?_))
    | refine lo_ite (fun _ => ?_) (fun _ => ?_)
    | refine lo_bind (fun _ => ?_)
    | (refine lo_some ?_; first | rfl | (rw [Bool.false_xor]; rfl) | (rw [Bool.true_xor]; rfl) | (simp only [Bool.and_true]; rfl) | (simp; done))
    | (simp only [Int.zero_sub]; exact lo_refl _)
    | (with_reducible refine lo_lpos (by omega) ?_)
    | (with_reducible refine lo_lneg (by omega) ?_)
    | (with_reducible refine lo_lite (fun _ => ?_) (fun _ => ?_))
    | (with_reducible refine lo_rite (fun _ => ?_) (fun _ => ?_))
  all_goals (exfalso; first | omega | (simp_all; done) | (simp_all; omega))
theorem regimenref02_Twos.al : AllLe (obls regimenref02_Twos.E Try.f77) := by
  rw [regimenref02_Twos.h1]
  exact (.cons (fun k y r h => regimenref02_Twos.bl0 k y.1.1 y.1.2.1 y.1.2.2.1 r h) (.cons (fun _ y r h => by simp [regimenref02_Twos.l0] at h) .nil))
theorem regimenref02_Twos.ok : CalleeOk Try.prog 77 regimenref02_Twos.c := fn_ok tabOk mixed (fun _ => rfl) Try.func77 rfl (by kernel_rfl) (ok_cons regimenref02_Plus.ok ok_nil) regimenref02_Twos.al (fun k x r h => (congrFun (congrFun regimenref02_Twos.h2 k) x).symm.trans (regimenref02_Twos.bf k _ r h))
def regimenref02_Cmp.c : Sym.Callee := ⟨(.cons (.sl (.int .u64)) (.cons (.sl (.int .u64)) .nil)), (.int .i64), false, Int, fun k x => regimenref02_Cmp.f k x.1 x.2.1, fun z => z, []⟩
def regimenref02_Cmp.nj0 (k : Nat) (x0 : List Int) (x1 : List Int) (x5 : Int) : Option (Int) := (regimenref02_Cmp.l0 k x0 x1 (wrap64 (x5 - (1 : Int))))
def regimenref02_Cmp.nl0 (k : Nat) (x0 : List Int) (x1 : List Int) (x6 : Int) : Option (Int) := (if x6 ≥ (0 : Int) then ((regimenref02_digit.f x0 x6).bind fun t1 => ((regimenref02_digit.f x1 x6).bind fun t2 => (if t1 < t2 then (some (-1 : Int)) else ((regimenref02_digit.f x0 x6).bind fun t3 => ((regimenref02_digit.f x1 x6).bind fun t4 => (if t3 > t4 then (some (1 : Int)) else (regimenref02_Cmp.l0 k x0 x1 (wrap64 (x6 - (1 : Int)))))))))) else (some (0 : Int)))
def regimenref02_Cmp.nf (k : Nat) (a0 : List Int) (a1 : List Int) : Option (Int) := (if (a1.length : Int) > (a0.length : Int) then (regimenref02_Cmp.j0 k a0 a1 (a1.length : Int)) else (regimenref02_Cmp.j0 k a0 a1 (a0.length : Int)))
noncomputable def regimenref02_Cmp.E : Env (Int) := envOf tab Try.f78 false (.int .i64) [] (fun y => y) [(111, regimenref02_digit.c)] [⟨5, ⟨35, [(0, (.sl (.int .u64)), []), (1, (.sl (.int .u64)), []), (6, (.int .i64), [])], [], []⟩, fun k y => regimenref02_Cmp.l0 k y.1.1 y.1.2.1 y.1.2.2.1⟩] [⟨4, ⟨35, [(0, (.sl (.int .u64)), []), (1, (.sl (.int .u64)), []), (5, (.int .i64), [])], [], []⟩, fun k y => regimenref02_Cmp.j0 k y.1.1 y.1.2.1 y.1.2.2.1⟩]
theorem regimenref02_Cmp.h1 : obls regimenref02_Cmp.E Try.f78 = [⟨(.cons (.cons (.sl (.int .u64)) (.cons (.sl (.int .u64)) (.cons (.int .i64) .nil))) (.cons .nil (.cons .nil .nil))), fun k y => regimenref02_Cmp.j0 (k + 1) y.1.1 y.1.2.1 y.1.2.2.1, fun k y => regimenref02_Cmp.nj0 k y.1.1 y.1.2.1 y.1.2.2.1⟩, ⟨(.cons (.cons (.sl (.int .u64)) (.cons (.sl (.int .u64)) (.cons (.int .i64) .nil))) (.cons .nil (.cons .nil .nil))), fun _ y => regimenref02_Cmp.j0 0 y.1.1 y.1.2.1 y.1.2.2.1, fun _ _ => none⟩, ⟨(.cons (.cons (.sl (.int .u64)) (.cons (.sl (.int .u64)) (.cons (.int .i64) .nil))) (.cons .nil (.cons .nil .nil))), fun k y => regimenref02_Cmp.l0 (k + 1) y.1.1 y.1.2.1 y.1.2.2.1, fun k y => regimenref02_Cmp.nl0 k y.1.1 y.1.2.1 y.1.2.2.1⟩, ⟨(.cons (.cons (.sl (.int .u64)) (.cons (.sl (.int .u64)) (.cons (.int .i64) .nil))) (.cons .nil (.cons .nil .nil))), fun _ y => regimenref02_Cmp.l0 0 y.1.1 y.1.2.1 y.1.2.2.1, fun _ _ => none⟩] := by kernel_rfl
theorem regimenref02_Cmp.h2 : (fun k (x : El (.cons (.sl (.int .u64)) (.cons (.sl (.int .u64)) .nil))) => regimenref02_Cmp.nf k x.1 x.2.1) = fun k x => mainK regimenref02_Cmp.E Try.f78 (.cons (.sl (.int .u64)) (.cons (.sl (.int .u64)) .nil)) k x := by kernel_rfl
theorem regimenref02_Cmp.bj0 (k : Nat) (x0 : List Int) (x1 : List Int) (x5 : Int) : Lo (regimenref02_Cmp.j0 (k + 1) x0 x1 x5) (regimenref02_Cmp.nj0 k x0 x1 x5) := by
  rw [regimenref02_Cmp.j0]
  unfold regimenref02_Cmp.nj0
  try simp only [Bool.false_xor, Bool.true_xor, wu8_64, wu8_u64, byL_nums, btS_bt, nil_tl, beq_decL, beq_decI]
  repeat' first
    | (with_reducible exact lo_refl _)
    | exact lo_none _
    | (with_reducible refine lo_lpos (by first | assumption | decide) ?_)
    | (with_reducible refine lo_lneg (by first | assumption | decide) ?_)
    | (with_reducible refine lo_ite (fun _ => ?_) (fun _ => ?_))
    | (with_reducible refine lo_bind (fun _ => ?_))
    | (with_reducible refine lo_left ?_)
    | (refine lo_neg (by decide) ?_)
    | (refine lo_pos (by first | assumption | omega) ?_)
    | (refine lo_neg (by first | assumption | omega) ?_)
    | (refine lo_trans (fun r h => (regimenref02_Cmp.mono_l _).1 _ _ _ r h) ?_; rw [regimenref02_Cmp.j0]; try simp only [decide_eq_true_eq])
    | (with_reducible refine lo_test (fun _ => by first | assumption | omega | (simp only [List.length_cons, List.length_nil]; omega) | decide) (fun _ => ?_))
    | (with_reducible refine lo_testn (fun _ => by first | assumption | omega) (fun _ => ?_))
    | (with_reducible refine lo_and (fun z => by first | exact z.1 | omega) (fun z => by first | exact z.2 | omega) (fun _ => ?_))
    | exact lo_refl _
    | (with_reducible refine lo_iff (by first | exact Iff.rfl | omega | (simp; done) | decide) (fun _ => ?_) (fun _ => ?_))
    | (with_reducible refine lo_iffn (by first | exact Iff.rfl | omega | (simp; done) | decide) (fun _ => ?_) (fun _ => ?_))
    | refine lo_ite (fun _ => ?_) (fun _ => ?_)
    | refine lo_bind (fun _ => ?_)
    | (refine lo_some ?_; first | rfl | (rw [Bool.false_xor]; rfl) | (rw [Bool.true_xor]; rfl) | (simp only [Bool.and_true]; rfl) | (simp; done))
    | (simp only [Int.zero_sub]; exact lo_refl _)
    | (with_reducible refine lo_lpos (by omega) ?_)
    | (with_reducible refine lo_lneg (by omega) ?_)
    | (with_reducible refine lo_lite (fun _ => ?_) (fun _ => ?_))
    | (with_reducible refine lo_rite (fun _ => ?_) (fun _ => ?_))
  all_goals (exfalso; first | omega | (simp_all; done) | (simp_all; omega))
theorem regimenref02_Cmp.bl0 (k : Nat) (x0 : List Int) (x1 : List Int) (x6 : Int) : Lo (regimenref02_Cmp.l0 (k + 1) x0 x1 x6) (regimenref02_Cmp.nl0 k x0 x1 x6) := by
  rw [regimenref02_Cmp.l0]
  unfold regimenref02_Cmp.nl0
  try simp only [Bool.false_xor, Bool.true_xor, wu8_64, wu8_u64, byL_nums, btS_bt, nil_tl, beq_decL, beq_decI]
  repeat' first
    | (with_reducible exact lo_refl _)
    | exact lo_none _
    | (with_reducible refine lo_lpos (by first | assumption | decide) ?_)
    | (with_reducible refine lo_lneg (by first | assumption | decide) ?_)
    | (with_reducible refine lo_ite (fun _ => ?_) (fun _ => ?_))
    | (with_reducible refine lo_bind (fun _ => ?_))
    | (with_reducible refine lo_left ?_)
    | (refine lo_neg (by decide) ?_)
    | (refine lo_pos (by first | assumption | omega) ?_)
    | (refine lo_neg (by first | assumption | omega) ?_)
    | (refine lo_trans (fun r h => (regimenref02_Cmp.mono_l _).1 _ _ _ r h) ?_; rw [regimenref02_Cmp.j0]; try simp only [decide_eq_true_eq])
    | (with_reducible refine lo_test (fun _ => by first | assumption | omega | (simp only [List.length_cons, List.length_nil]; omega) | decide) (fun _ => ?_))
    | (with_reducible refine lo_testn (fun _ => by first | assumption | omega) (fun _ => ?_))
    | (with_reducible refine lo_and (fun z => by first | exact z.1 | omega) (fun z => by first | exact z.2 | omega) (fun _ => ?_))
    | exact lo_refl _
    | (with_reducible refine lo_iff (by first | exact Iff.rfl | omega | (simp; done) | decide) (fun _ => ?_) (fun _ => ?_))
    | (with_reducible refine lo_iffn (by first | exact Iff.rfl | omega | (simp; done) | decide) (fun _ => ?_) (fun _ => ?_))
    | refine lo_ite (fun _ => ?_) (fun _ => ?_)
    | refine lo_bind (fun _ => ?_)
    | (refine lo_some ?_; first | rfl | (rw [Bool.false_xor]; rfl) | (rw [Bool.true_xor]; rfl) | (simp only [Bool.and_true]; rfl) | (simp; done))
    | (simp only [Int.zero_sub]; exact lo_refl _)
    | (with_reducible refine lo_lpos (by omega) ?_)
    | (with_reducible refine lo_lneg (by omega) ?_)
    | (with_reducible refine lo_lite (fun _ => ?_) (fun _ => ?_))
    | (with_reducible refine lo_rite (fun _ => ?_) (fun _ => ?_))
  all_goals (exfalso; first | omega | (simp_all; done) | (simp_all; omega))
set_option maxHeartbeats 2000000 in
theorem regimenref02_Cmp.bf (k : Nat) (a0 : List Int) (a1 : List Int) : Lo (regimenref02_Cmp.f k a0 a1) (regimenref02_Cmp.nf k a0 a1) := by
  unfold regimenref02_Cmp.f regimenref02_Cmp.nf
  try simp only [Bool.false_xor, Bool.true_xor, wu8_64, wu8_u64, byL_nums, btS_bt, nil_tl, beq_decL, beq_decI]
  repeat' first
    | (with_reducible exact lo_refl _)
    | exact lo_none _
    | (with_reducible refine lo_lpos (by first | assumption | decide) ?_)
    | (with_reducible refine lo_lneg (by first | assumption | decide) ?_)
    | (with_reducible refine lo_ite (fun _ => ?_) (fun _ => ?_))
    | (with_reducible refine lo_bind (fun _ => ?_))
    | (with_reducible refine lo_left ?_)
    | (refine lo_neg (by decide) ?_)
    | (refine lo_pos (by first | assumption | omega) ?_)
    | (refine lo_neg (by first | assumption | omega) ?_)
    | (refine lo_trans (fun r h => (regimenref02_Cmp.mono_l _).1 _ _ _ r h) ?_; rw [regimenref02_Cmp.j0]; try simp only [decide_eq_true_eq])
    | (with_reducible refine lo_test (fun _ => by first | assumption | omega | (simp only [List.length_cons, List.length_nil]; omega) | decide) (fun _ => ?_))
    | (with_reducible refine lo_testn (fun _ => by first | assumption | omega) (fun _ => ?_))
    | (with_reducible refine lo_and (fun z => by first | exact z.1 | omega) (fun z => by first | exact z.2 | omega) (fun _ => ?_))
    | exact lo_refl _
    | (with_reducible refine lo_iff (by first | exact Iff.rfl | omega | (simp; done) | decide) (fun _ => ?_) (fun _ => ?_))
    | (with_reducible refine lo_iffn (by first | exact Iff.rfl | omega | (simp; done) | decide) (fun _ => ?_) (fun _ => ?_))
    | refine lo_ite (fun _ => ?_) (fun _ => ?_)
    | refine lo_bind (fun _ => ?_)
    | (refine lo_some ?_; first | rfl | (rw [Bool.false_xor]; rfl) | (rw [Bool.true_xor]; rfl) | (simp only [Bool.and_true]; rfl) | (simp; done))
    | (simp only [Int.zero_sub]; exact lo_refl _)
    | (with_reducible refine lo_lpos (by omega) ?_)
    | (with_reducible refine lo_lneg (by omega) ?_)
    | (with_reducible refine lo_lite (fun _ => ?_) (fun _ => ?_))
    | (with_reducible refine lo_rite (fun _ => ?_) (fun _ => ?_))
  all_goals (exfalso; first | omega | (simp_all; done) | (simp_all; omega))
theorem regimenref02_Cmp.al : AllLe (obls regimenref02_Cmp.E Try.f78) := by
  rw [regimenref02_Cmp.h1]
  exact (.cons (fun k y r h => regimenref02_Cmp.bj0 k y.1.1 y.1.2.1 y.1.2.2.1 r h) (.cons (fun _ y r h => by simp [regimenref02_Cmp.j0] at h) (.cons (fun k y r h => regimenref02_Cmp.bl0 k y.1.1 y.1.2.1 y.1.2.2.1 r h) (.cons (fun _ y r h => by simp [regimenref02_Cmp.l0] at h) .nil))))
theorem regimenref02_Cmp.ok : CalleeOk Try.prog 78 regimenref02_Cmp.c := fn_ok tabOk mixed (fun _ => rfl) Try.func78 rfl (by kernel_rfl) (ok_cons regimenref02_digit.ok ok_nil) regimenref02_Cmp.al (fun k x r h => (congrFun (congrFun regimenref02_Cmp.h2 k) x).symm.trans (regimenref02_Cmp.bf k _ _ r h))
end Go.Proofs.Ytcgdhpnobgimfaa.PT
end
