/- A text's parts, parted by a byte, and told again. A step's lines (layer 45), by value. Lines of a trace are read (layer 57): their words, heads, groups, events. A step's lines (layer 45), by value: the rounds. Lines of a trace are read (layer 57): a head, a group, an event, each told again. Lines of a trace: what the document's answer reads of a line is what is read of it (layer 57). A step that lines begin with (layer 57): what it is, that it may be told, and is told as these lines. All steps that lines begin with (layer 57); and what may be told is let pass. A step's lines (layer 45), by value: the reference's. Which step lines begin with, by the document's answer (layer 57). Inputs as lines (layer 44): which input a line is. Which input a line is, by the document's answer (layer 44); inputs that are the same. Which input any line is. -/
import Derived.Test.YtcgdhpnobgimfaaDoorMTG6
import Derived.Test.YtcgdhpnobgimfaaDoorMTG5
import Derived.Lib.SplitLaws
import Derived.Test.YtcgdhpnobgimfaaDoorMTG4
section
namespace Go.Proofs.YtcgdhpnobgimfaaDoor.Num
set_option linter.unusedVariables false
set_option linter.unusedSimpArgs false
open Go.RowKit Go.Proofs.YtcgdhpnobgimfaaDoor.PI Go.Proofs.YtcgdhpnobgimfaaDoorW.PrintWords Go.Proofs.YtcgdhpnobgimfaaDoorW.PrintMore

/-- A text's parts. -/
def pcs (c : Int) : List Int → List (List Int)
  | [] => [[]]
  | x :: l => if x = c then [] :: pcs c l else (x :: (pcs c l).headD []) :: (pcs c l).tail
theorem pcs_eq (c x : Int) (l : List Int) : pcs c (x :: l) = if x = c then [] :: pcs c l else (x :: (pcs c l).headD []) :: (pcs c l).tail := rfl
theorem pcs_ne (c : Int) (l : List Int) : pcs c l ≠ [] := by
  cases l with
  | nil => simp [pcs]
  | cons x l => unfold pcs; split <;> simp
theorem pcs_ht (c : Int) (l : List Int) : pcs c l = (pcs c l).headD [] :: (pcs c l).tail := by
  cases h : pcs c l with
  | nil => exact absurd h (pcs_ne c l)
  | cons w r => rfl
theorem pcs_none {c : Int} : ∀ {w : List Int}, c ∉ w → pcs c w = [w]
  | [], _ => rfl
  | x :: w, h => by
    rw [List.mem_cons, not_or] at h
    unfold pcs
    rw [if_neg (fun q => h.1 q.symm), pcs_none h.2]
    rfl
theorem pcs_cons {c : Int} {l : List Int} : ∀ {w : List Int}, c ∉ w → pcs c (w ++ c :: l) = w :: pcs c l
  | [], _ => by
    show pcs c (c :: l) = _
    rw [pcs_eq, if_pos rfl]
  | x :: w, h => by
    rw [List.mem_cons, not_or] at h
    show pcs c (x :: (w ++ c :: l)) = _
    rw [pcs_eq, if_neg (fun q => h.1 q.symm), pcs_cons h.2]
    rfl
theorem pcs_bef {c : Int} {l : List Int} (h : c ∈ l) : pcs c l = bef c l :: pcs c (l.drop ((bef c l).length + 1)) := by
  have := bef_some h
  conv => lhs; rw [this.1]
  rw [pcs_cons this.2]
theorem index_one (c : UInt8) : ∀ l : List UInt8, Lib.index l [c] = Lib.indexByte l c
  | [] => rfl
  | b :: l => by
    rw [Lib.index, Lib.indexByte, index_one c l]
    by_cases h : b = c
    · subst h
      rw [if_pos (by simp [List.isPrefixOf]), if_pos (by simp)]
    · rw [if_neg (by simp [List.isPrefixOf]; exact fun q => h q.symm)]
      have hb : ¬ (b == c) = true := by simpa using h
      rw [if_neg hb]
def partsB (c : UInt8) (s : ByteArray) : List ByteArray := (pcs (c.toNat : Int) (numsOf s)).map strOfNums
theorem split_loop (c : UInt8) : ∀ (k : Nat) (s : ByteArray), Lib.countB s ⟨#[c]⟩ = k → Lib.splitB ⟨#[c]⟩ 0 k s = partsB c s
  | k, s, hk => by
    have hz : (⟨#[c]⟩ : ByteArray).size = 1 := rfl
    have hix : Lib.indexB s ⟨#[c]⟩ = if (c.toNat : Int) ∈ numsOf s then ((bef (c.toNat : Int) (numsOf s)).length : Int) else -1 := by
      rw [← index_nums]
      exact index_one c _
    unfold partsB
    by_cases h : (c.toNat : Int) ∈ numsOf s
    · rw [if_pos h] at hix
      have hc := Lib.countB_hit s ⟨#[c]⟩ _ (by rw [hz]; exact Nat.le_refl _) hix
      rw [hz] at hc
      cases k with
      | zero => omega
      | succ k =>
        rw [Lib.splitB_hit ⟨#[c]⟩ 0 k s _ hix, hz, split_loop c k _ (by omega), pcs_bef h, List.map_cons]
        unfold partsB
        rw [nums_drop]
        congr 1
        rw [Nat.add_zero, ← str_nums (s.extract 0 _), nums_take, bef_take h]
    · rw [if_neg h] at hix
      rw [Lib.splitB_miss ⟨#[c]⟩ 0 k s hix, pcs_none h]
      simp only [List.map_cons, List.map_nil, str_nums]
theorem parts_size {c : UInt8} {s w : ByteArray} (h : w ∈ partsB c s) : w.size ≤ s.size := by
  obtain ⟨p, hp, rfl⟩ := List.mem_map.1 h
  have key : ∀ (l : List Int), ∀ p ∈ pcs (c.toNat : Int) l, p.length ≤ l.length := by
    intro l
    induction l with
    | nil => intro p hp; rw [pcs, List.mem_singleton] at hp; rw [hp]; exact Nat.le_refl _
    | cons x l ih =>
      intro p hp
      have ih2 := ih
      rw [pcs_ht] at ih2
      unfold pcs at hp
      split at hp
      · rcases List.mem_cons.1 hp with rfl | hp
        · simp
        · have := ih p hp
          rw [List.length_cons]
          omega
      · rcases List.mem_cons.1 hp with rfl | hp
        · have := ih2 _ List.mem_cons_self
          rw [List.length_cons, List.length_cons]
          omega
        · have := ih2 p (List.mem_cons_of_mem _ hp)
          rw [List.length_cons]
          omega
  have := key _ p hp
  rw [nums_len] at this
  have e : (strOfNums p).size = p.length := by
    unfold strOfNums
    show (Array.size _) = _
    simp
  omega
theorem parts_len {c : UInt8} {s : ByteArray} : (partsB c s).length ≤ s.size + 1 := by
  unfold partsB
  rw [List.length_map, ← nums_len]
  generalize numsOf s = l
  induction l with
  | nil => simp [pcs]
  | cons x l ih =>
    unfold pcs
    split
    · simp only [List.length_cons] at ih ⊢
      omega
    · rw [pcs_ht] at ih
      simp only [List.length_cons] at ih ⊢
      omega
theorem split_ok (k : Nat) (s : ByteArray) (hs : s.size < 4294967281) (c : UInt8) : strings_Split.f k s ⟨#[c]⟩ = some (partsB c s) := by
  unfold strings_Split.f
  rw [if_pos ⟨hs, Nat.le_refl _⟩, split_loop c _ s rfl]
end Go.Proofs.YtcgdhpnobgimfaaDoor.Num
end
section
namespace Go.Proofs.YtcgdhpnobgimfaaDoor.Num
set_option linter.unusedVariables false
set_option linter.unusedSimpArgs false
open Go.RowKit Go.Proofs.YtcgdhpnobgimfaaDoor.PI Go.Proofs.YtcgdhpnobgimfaaDoorW.PrintWords Go.Proofs.YtcgdhpnobgimfaaDoorW.PrintMore

abbrev EvT := Int × Int × Int × Unit
abbrev OutT := Int × Int × (List Int) × (List Bool) × (List EvT) × Int × Unit
/-- The words of a group's line behind its number. -/
noncomputable def grpW (o : OutT) (i : Nat) : List ByteArray := decL ((o.2.2.1.take (3 * i + 3)).drop (3 * i)) ++ (if i < o.2.2.2.1.length ∧ o.2.2.2.1.getD i false = true then [(⟨#[102, 114, 111, 122, 101, 110]⟩ : ByteArray)] else [])
noncomputable def grpS (o : OutT) (i : Nat) : ByteArray := (⟨#[32, 32, 103, 114, 111, 117, 112]⟩ : ByteArray) ++ tailS (tellv (i : Int) :: grpW o i)
def evS (e : EvT) : ByteArray := (⟨#[32, 32]⟩ : ByteArray) ++ lineV e.2.1 e.2.2.1
def headS (o : OutT) : ByteArray := (⟨#[115, 116, 101, 112]⟩ : ByteArray) ++ tailS [tellv o.1, (⟨#[112, 104, 97, 115, 101]⟩ : ByteArray), tellv o.2.1, wordS o.2.2.2.2.2.1]
/-- What a step is made of. -/
structure OutOk (o : OutT) : Prop where
  step : word' o.1
  phase : word' o.2.1
  vals : ∀ x, x ∈ o.2.2.1 → word' x
  nv : o.2.2.1.length ≤ 600
  nf : o.2.2.2.1.length ≤ 600
  ne : o.2.2.2.2.1.length ≤ 600
  evs : ∀ e, e ∈ o.2.2.2.2.1 → word' e.2.2.1
noncomputable def stepL (o : OutT) : List ByteArray := [headS o] ++ (List.range' 0 (o.2.2.1.length / 3)).map (grpS o) ++ (o.2.2.2.2.1.drop 0).map evS
section
variable {o : OutT} (ok : OutOk o)
include ok
end
end Go.Proofs.YtcgdhpnobgimfaaDoor.Num
end
section
namespace Go.Proofs.YtcgdhpnobgimfaaDoor.Num
set_option linter.unusedVariables false
set_option linter.unusedSimpArgs false
open Go.RowKit Go.Proofs.YtcgdhpnobgimfaaDoor.PI Go.Proofs.YtcgdhpnobgimfaaDoorW.PrintWords Go.Proofs.YtcgdhpnobgimfaaDoorW.PrintMore

/-! ### values and groups -/
end Go.Proofs.YtcgdhpnobgimfaaDoor.Num
end
section
namespace Go.Proofs.YtcgdhpnobgimfaaDoor.Num
set_option linter.unusedVariables false
set_option linter.unusedSimpArgs false
open Go.RowKit Go.Proofs.YtcgdhpnobgimfaaDoor.PI Go.Proofs.YtcgdhpnobgimfaaDoorW.PrintWords Go.Proofs.YtcgdhpnobgimfaaDoorW.PrintMore

section
variable {o : OutT} (ok : OutOk o)
include ok
end
end Go.Proofs.YtcgdhpnobgimfaaDoor.Num
end
section
namespace Go.Proofs.YtcgdhpnobgimfaaDoor.Num
set_option linter.unusedVariables false
set_option linter.unusedSimpArgs false
open Go.RowKit Go.Proofs.YtcgdhpnobgimfaaDoor.PI Go.Proofs.YtcgdhpnobgimfaaDoorW.PrintWords Go.Proofs.YtcgdhpnobgimfaaDoorW.PrintMore

/-! ### heads -/
open Classical in
/-! ### events -/
end Go.Proofs.YtcgdhpnobgimfaaDoor.Num
end
section
namespace Go.Proofs.YtcgdhpnobgimfaaDoor.Num
set_option linter.unusedVariables false
set_option linter.unusedSimpArgs false
open Go.RowKit Go.Proofs.YtcgdhpnobgimfaaDoor.PI Go.Proofs.YtcgdhpnobgimfaaDoorW.PrintWords Go.Proofs.YtcgdhpnobgimfaaDoorW.PrintMore

/-! ### groups -/
end Go.Proofs.YtcgdhpnobgimfaaDoor.Num
end
section
namespace Go.Proofs.YtcgdhpnobgimfaaDoor.Num
set_option linter.unusedVariables false
set_option linter.unusedSimpArgs false
open Go.RowKit Go.Proofs.YtcgdhpnobgimfaaDoor.PI Go.Proofs.YtcgdhpnobgimfaaDoorW.PrintWords Go.Proofs.YtcgdhpnobgimfaaDoorW.PrintMore

section
variable (L : List ByteArray) (hL : ∀ w ∈ L, w.size ≤ 1000) (hn : L.length ≤ 900) (b2 : OutT)
include hL hn
end
/-! ### what is read may be told, and is told as these lines -/
structure TellOk (o : OutT) : Prop where
  step : 0 ≤ o.1 ∧ o.1 ≤ 1099511627776
  phase : 0 ≤ o.2.1 ∧ o.2.1 ≤ 1099511627776
  vals : ∀ x ∈ o.2.2.1, word' x
  len : o.2.2.1.length = 3 * o.2.2.2.1.length
  evs : ∀ e ∈ o.2.2.2.2.1, e.1 = o.1 ∧ (1 ≤ e.2.1 ∧ e.2.1 ≤ 11) ∧ 0 ≤ e.2.2.1 ∧ e.2.2.1 ≤ 1099511627776
  status : 0 ≤ o.2.2.2.2.2.1 ∧ o.2.2.2.2.2.1 ≤ 3
end Go.Proofs.YtcgdhpnobgimfaaDoor.Num
end
section
namespace Go.Proofs.YtcgdhpnobgimfaaDoor.Num
set_option linter.unusedVariables false
set_option linter.unusedSimpArgs false
open Go.RowKit Go.Proofs.YtcgdhpnobgimfaaDoor.PI Go.Proofs.YtcgdhpnobgimfaaDoorW.PrintWords Go.Proofs.YtcgdhpnobgimfaaDoorW.PrintMore

theorem TellOk.out {o : OutT} (ok : TellOk o) (h : (stepL o).length ≤ 100) : OutOk o := by
  have h3 := ok.len
  have h1 := ok.step
  have h2 := ok.phase
  unfold stepL at h
  rw [h3, Nat.mul_div_cancel_left _ (by decide)] at h
  simp only [List.length_append, List.length_map, List.length_range', List.length_cons, List.length_nil, List.length_drop] at h
  refine ⟨by unfold word'; omega, by unfold word'; omega, ok.vals, by omega, by omega, by omega, fun e he => ?_⟩
  have := (ok.evs e he).2.2
  unfold word'
  omega
end Go.Proofs.YtcgdhpnobgimfaaDoor.Num
end
section
namespace Go.Proofs.YtcgdhpnobgimfaaDoor.Num
set_option linter.unusedVariables false
set_option linter.unusedSimpArgs false
open Go.RowKit Go.Proofs.YtcgdhpnobgimfaaDoor.PI Go.Proofs.YtcgdhpnobgimfaaDoorW.PrintWords Go.Proofs.YtcgdhpnobgimfaaDoorW.PrintMore

section
variable {o : OutT} (ok : OutOk o)
include ok
end
end Go.Proofs.YtcgdhpnobgimfaaDoor.Num
end
section
namespace Go.Proofs.YtcgdhpnobgimfaaDoor.Num
set_option linter.unusedVariables false
set_option linter.unusedSimpArgs false
open Go.RowKit Go.Proofs.YtcgdhpnobgimfaaDoor.PI Go.Proofs.YtcgdhpnobgimfaaDoorW.PrintWords Go.Proofs.YtcgdhpnobgimfaaDoorW.PrintMore

theorem nums_cut (s : ByteArray) (a b : Nat) : numsOf (s.extract a b) = ((numsOf s).drop a).take (b - a) := by
  unfold numsOf
  rw [← List.map_drop, ← List.map_take]
  congr 1
  rw [ByteArray.data_extract, Array.toList_extract, List.extract_eq_take_drop]
theorem rcut_l0 (s : ByteArray) (hs : s.size < 1000000) (d : Nat) : ∀ (i b : Nat) (acc : List ByteArray), i + d = s.size → b ≤ i → acc.length + d ≤ 2000000 →
    Ev (fun k => regimenref01_Cut.l0 k s 32 acc (b : Int) (i : Int)) (acc ++ (strOfNums (((numsOf s).drop b).take (i - b) ++ (pcs 32 ((numsOf s).drop i)).headD []) :: (pcs 32 ((numsOf s).drop i)).tail.map strOfNums)) := by
  have hl := nums_len s
  have piece : ∀ a b : Nat, s.extract a b = strOfNums (((numsOf s).drop a).take (b - a)) := fun a b => by rw [← nums_cut, str_nums]
  induction d with
  | zero =>
    intro i b acc h hb ha
    refine Ev.step (fun k => by rw [regimenref01_Cut.l0]) ?_
    refine evp (by omega) ?_
    refine evp (by omega) ?_
    refine evp (by omega) ?_
    refine evp (by omega) ?_
    refine evp (by omega) ?_
    rw [w64_succ (by omega)]
    refine Ev.step (fun k => by rw [regimenref01_Cut.l0]) ?_
    refine evn (by omega) ?_
    rw [show ((b : Int)).toNat = b from rfl, show ((i : Int)).toNat = i from rfl, piece, List.drop_eq_nil_of_le (by omega : (numsOf s).length ≤ i)]
    show Ev _ (acc ++ [strOfNums (((numsOf s).drop b).take (i - b) ++ [])])
    rw [List.append_nil]
    exact Ev.now _
  | succ d ih =>
    intro i b acc h hb ha
    have hi : i < (numsOf s).length := by omega
    have hd := drop_getD _ _ hi
    refine Ev.step (fun k => by rw [regimenref01_Cut.l0]) ?_
    refine evp (by omega) ?_
    refine evn (by omega) ?_
    refine evp (by omega) ?_
    refine evp (by omega) ?_
    rw [bt_nums, w64_succ (by omega), hd, pcs_eq]
    by_cases c : (numsOf s).getD i 0 = 32
    · rw [if_pos c]
      refine evp c ?_
      refine evp (by omega) ?_
      refine evp (by omega) ?_
      refine evp (by omega) ?_
      rw [show ((b : Int)).toNat = b from rfl, show ((i : Int)).toNat = i from rfl, piece]
      have := ih (i + 1) (i + 1) (acc ++ [strOfNums (((numsOf s).drop b).take (i - b))]) (by omega) (Nat.le_refl _) (by simp only [List.length_append, List.length_cons, List.length_nil]; omega)
      rw [Nat.sub_self, List.take_zero, List.nil_append, List.append_assoc] at this
      show Ev _ (acc ++ (strOfNums (((numsOf s).drop b).take (i - b) ++ []) :: (pcs 32 ((numsOf s).drop (i + 1))).map strOfNums))
      rw [List.append_nil]
      conv at this => rhs; rhs; rhs; rw [← List.map_cons, ← pcs_ht]
      exact this
    · rw [if_neg c]
      refine evn c ?_
      have := ih (i + 1) b acc (by omega) (by omega) (by omega)
      have e : ((numsOf s).drop b).take (i + 1 - b) = ((numsOf s).drop b).take (i - b) ++ [(numsOf s).getD i 0] := by
        rw [show i + 1 - b = (i - b) + 1 from by omega, List.take_add_one, List.getElem?_drop, show b + (i - b) = i from by omega, List.getElem?_eq_getElem hi, List.getD_eq_getElem?_getD, List.getElem?_eq_getElem hi]
        rfl
      rw [e, List.append_assoc] at this
      exact this
theorem rcut_ok (s : ByteArray) (hs : s.size < 1000000) : Ev (fun k => regimenref01_Cut.f k s 32) (partsB 32 s) := by
  unfold regimenref01_Cut.f
  have := rcut_l0 s hs s.size 0 0 [] (by omega) (Nat.le_refl _) (by simp only [List.length_nil]; omega)
  rw [List.drop_zero, Nat.sub_self, List.take_zero, List.nil_append, List.nil_append, ← List.map_cons, ← pcs_ht] at this
  exact this
/-! ### rounds of the document's answer -/
section
variable (L : List ByteArray) (hL : ∀ w ∈ L, w.size ≤ 200) (hn : L.length ≤ 90) (b2 : OutT)
include hL hn
end
end Go.Proofs.YtcgdhpnobgimfaaDoor.Num
end
section
namespace Go.Proofs.YtcgdhpnobgimfaaDoor.Num
set_option linter.unusedVariables false
set_option linter.unusedSimpArgs false
open Go.RowKit Go.Proofs.YtcgdhpnobgimfaaDoor.PI Go.Proofs.YtcgdhpnobgimfaaDoorW.PrintWords Go.Proofs.YtcgdhpnobgimfaaDoorW.PrintMore

abbrev RdT := Bool × Int × Unit
abbrev InT := (List RdT) × (List Int) × Unit
def barB : ByteArray := ⟨#[124]⟩
def dashB : ByteArray := ⟨#[45]⟩
/-- Words by bars, as the program counts them. -/
def pst : List ByteArray → List ByteArray → List ByteArray → Int → List ByteArray × List ByteArray × Bool × Unit
  | [], a, b, n => (a, b, decide (n = 1), ())
  | w :: r, a, b, n => if w = barB then pst r a b (n + 1) else if n = 0 then pst r (a ++ [w]) b n else pst r a (b ++ [w]) n
def nbar (W : List ByteArray) : Nat := (W.filter fun w => decide (w = barB)).length
theorem nbar_cons (w : ByteArray) (r : List ByteArray) : nbar (w :: r) = (if w = barB then 1 else 0) + nbar r := by
  unfold nbar
  rw [List.filter_cons]
  by_cases c : w = barB
  · rw [if_pos (by simpa using c), if_pos c, List.length_cons]; omega
  · rw [if_neg (by simpa using c), if_neg c]; omega
theorem bar_tl (w : ByteArray) : w.toList = (⟨#[124]⟩ : ByteArray).toList ↔ w = barB := tl_eq w barB
theorem dash_tl (w : ByteArray) : w.toList = (⟨#[45]⟩ : ByteArray).toList ↔ w = dashB := tl_eq w dashB
theorem dash_tl2 (w : ByteArray) : w.toList = ([45] : List UInt8) ↔ w = dashB := by
  rw [← dash_tl, show (⟨#[45]⟩ : ByteArray).toList = [45] from by decide +kernel]
theorem getD_n {W : List ByteArray} {i : Nat} (h : i < W.length) : W.getD i (⟨#[]⟩ : ByteArray) = W[i] := by rw [List.getD_eq_getElem?_getD, List.getElem?_eq_getElem h]; rfl
theorem parts_loop (W : List ByteArray) (hn : W.length < 1000000) (d : Nat) : ∀ (i : Nat) (a b : List ByteArray) (n : Nat), i + d = W.length → a.length + d ≤ 1000000 → b.length + d ≤ 1000000 → n + d ≤ 1000000 →
    Ev (fun k => input_parts.l3 k a b (n : Int) W (W.length : Int) (i : Int)) (pst (W.drop i) a b n) := by
  induction d with
  | zero =>
    intro i a b n h ha hb hc
    refine Ev.step (fun k => by rw [input_parts.l3]) ?_
    refine evn (by omega) ?_
    rw [List.drop_eq_nil_of_le (by omega : W.length ≤ i), pst, Bool.false_xor]
    exact Ev.now _
  | succ d ih =>
    intro i a b n h ha hb hc
    have hi : i < W.length := by omega
    refine Ev.step (fun k => by rw [input_parts.l3]) ?_
    refine evp (by omega) ?_
    refine evp (by omega) ?_
    refine evp (by omega) ?_
    rw [show ((i : Int)).toNat = i from rfl, getD_n hi, List.drop_eq_getElem_cons hi, pst, w64_succ (by omega)]
    by_cases c : W[i] = barB
    · rw [if_pos c]
      refine evp ((bar_tl _).2 c) ?_
      refine Ev.step (fun k => by rw [input_parts.j10]) ?_
      rw [w64_succ (by omega)]
      exact ih (i + 1) a b (n + 1) (by omega) (by omega) (by omega) (by omega)
    · rw [if_neg c]
      refine evn (fun q => c ((bar_tl _).1 q)) ?_
      by_cases c2 : (n : Int) = 0
      · rw [if_pos c2]
        refine evp c2 ?_
        refine evp (by simp only [List.length_cons, List.length_nil]; omega) ?_
        refine Ev.step (fun k => by rw [input_parts.j10]) ?_
        rw [w64_succ (by omega)]
        exact ih (i + 1) (a ++ [W[i]]) b n (by omega) (by simp only [List.length_append, List.length_cons, List.length_nil]; omega) (by omega) (by omega)
      · rw [if_neg c2]
        refine evn c2 ?_
        refine evp (by simp only [List.length_cons, List.length_nil]; omega) ?_
        refine Ev.step (fun k => by rw [input_parts.j10]) ?_
        rw [w64_succ (by omega)]
        exact ih (i + 1) a (b ++ [W[i]]) n (by omega) (by omega) (by simp only [List.length_append, List.length_cons, List.length_nil]; omega) (by omega)
theorem parts_ok (s : ByteArray) (hs : s.size < 100000) : Ev (fun k => input_parts.f k s) (pst (partsB 32 s) [] [] 0) := by
  have hl : (partsB 32 s).length ≤ s.size + 1 := parts_len
  unfold input_parts.f
  refine Ev.bind (g := fun k => strings_Split.f k s ⟨#[32]⟩) (a := partsB 32 s) ⟨0, fun k _ => split_ok k s (by omega) 32⟩ ?_
  exact parts_loop (partsB 32 s) (by omega) (partsB 32 s).length 0 [] [] 0 (Nat.zero_add _) (by simp only [List.length_nil]; omega) (by simp only [List.length_nil]; omega) (by omega)
/-- One bar: the words ahead of it and behind it. -/
theorem pst_free {B : List ByteArray} (h : barB ∉ B) : ∀ (a b : List ByteArray), pst B a b 1 = (a, b ++ B, true, ()) := by
  induction B with
  | nil => intro a b; rw [pst, List.append_nil]; rfl
  | cons w r ih =>
    intro a b
    rw [List.mem_cons, not_or] at h
    rw [pst, if_neg (fun q => h.1 q.symm), if_neg (by decide), ih h.2, List.append_assoc]
    rfl
theorem pst_one {A B : List ByteArray} (hA : barB ∉ A) (hB : barB ∉ B) : ∀ a : List ByteArray, pst (A ++ barB :: B) a [] 0 = (a ++ A, B, true, ()) := by
  induction A with
  | nil => intro a; rw [List.nil_append, pst, if_pos rfl, List.append_nil]; exact pst_free hB a []
  | cons w r ih =>
    intro a
    rw [List.mem_cons, not_or] at hA
    rw [List.cons_append, pst, if_neg (fun q => hA.1 q.symm), if_pos rfl, ih hA.2, List.append_assoc]
    rfl
theorem pst_n (W : List ByteArray) : ∀ (a b : List ByteArray) (n : Nat), (pst W a b n).2.2.1 = decide ((n : Int) + nbar W = 1) := by
  induction W with
  | nil => intro a b n; rw [pst]; show decide ((n : Int) = 1) = decide ((n : Int) + ((0 : Nat) : Int) = 1); rw [Int.natCast_zero, Int.add_zero]
  | cons w r ih =>
    intro a b n
    rw [pst, nbar_cons]
    by_cases c : w = barB
    · rw [if_pos c, if_pos c, show (n : Int) + 1 = ((n + 1 : Nat) : Int) from rfl, ih]; congr 1; rw [eq_iff_iff]; omega
    · rw [if_neg c, if_neg c]
      split
      · rw [ih]; congr 1; rw [eq_iff_iff]; omega
      · rw [ih]; congr 1; rw [eq_iff_iff]; omega
theorem nbar_free {W : List ByteArray} : nbar W = 0 ↔ barB ∉ W := by
  unfold nbar
  rw [List.length_eq_zero_iff, List.filter_eq_nil_iff]
  constructor
  · intro h q; exact h _ q (by simp)
  · intro h w hw q; rw [decide_eq_true_eq] at q; exact h (q ▸ hw)
theorem one_bar {W : List ByteArray} (h : nbar W = 1) : ∃ A B, W = A ++ barB :: B ∧ barB ∉ A ∧ barB ∉ B := by
  induction W with
  | nil => cases h
  | cons w r ih =>
    rw [nbar_cons] at h
    by_cases c : w = barB
    · rw [if_pos c] at h
      exact ⟨[], r, by rw [c]; rfl, by simp, nbar_free.1 (by omega)⟩
    · rw [if_neg c] at h
      obtain ⟨A, B, rfl, h1, h2⟩ := ih (by omega)
      exact ⟨w :: A, B, rfl, by rw [List.mem_cons, not_or]; exact ⟨fun q => c q.symm, h1⟩, h2⟩
/-! ### readings and weights -/
def readv (w : ByteArray) : Bool × Int × Int := if w = dashB then (false, 0, 0) else (true, (decv (numsOf w)).1, (decv (numsOf w)).2)
theorem reading_ok (w : ByteArray) (hw : w.size < 1000000) : Ev (fun k => input_reading.f k w) (readv w) := by
  unfold input_reading.f readv
  by_cases c : w = dashB
  · rw [if_pos c]
    exact evp ((dash_tl2 w).2 c) (Ev.now _)
  · rw [if_neg c]
    exact evn (fun q => c ((dash_tl2 w).1 q)) (Ev.bind (dec_get_ok w hw) (Ev.now _))
/-- Readings in their order, up to the first word that is none; what is told of it. -/
def getA : List ByteArray → List RdT → List RdT × Int
  | [], a => (a, 0)
  | w :: r, a => if (readv w).2.2 = 0 then getA r (a ++ [((readv w).1, (readv w).2.1, ())]) else (a, (readv w).2.2)
def getB : List ByteArray → List Int → List Int × Int
  | [], b => (b, 0)
  | w :: r, b => if (decv (numsOf w)).2 = 0 then getB r (b ++ [(decv (numsOf w)).1]) else (b, (decv (numsOf w)).2)
abbrev noIn (e : Int) : InT × Int × Unit := (([], [], ()), e, ())
def finB (a : List RdT) (p : List Int × Int) : InT × Int × Unit := if p.2 = 0 then ((a, p.1, ()), 0, ()) else noIn p.2
def finA (p : List RdT × Int) (B : List ByteArray) : InT × Int × Unit := if p.2 = 0 then finB p.1 (getB B []) else noIn p.2
def inputV (s : ByteArray) : InT × Int × Unit := match pst (partsB 32 s) [] [] 0 with
  | (A, B, true, _) => finA (getA A []) B
  | (_, _, false, _) => noIn 2
theorem get_l14 (x5 : List ByteArray) (hW : ∀ w ∈ x5, w.size < 1000000) (hn : x5.length < 1000000) (b2 : InT) (a : List RdT) (d : Nat) : ∀ (i : Nat) (b : List Int), i + d = x5.length → b.length + d ≤ 1000000 →
    Ev (fun k => input_Get.l14 k x5 (x5.length : Int) (i : Int) b2 (a, b, ())) (finB a (getB (x5.drop i) b)) := by
  induction d with
  | zero =>
    intro i b h hb
    refine Ev.step (fun k => by rw [input_Get.l14]) ?_
    refine evn (by omega) ?_
    rw [List.drop_eq_nil_of_le (by omega : x5.length ≤ i), getB, finB, if_pos rfl]
    exact Ev.now _
  | succ d ih =>
    intro i b h hb
    have hi : i < x5.length := by omega
    refine Ev.step (fun k => by rw [input_Get.l14]) ?_
    refine evp (by omega) ?_
    refine evp (by omega) ?_
    refine evp (by omega) ?_
    rw [show ((i : Int)).toNat = i from rfl, getD_n hi, List.drop_eq_getElem_cons hi, getB, w64_succ (by omega)]
    refine Ev.bind (dec_get_ok _ (hW _ (List.getElem_mem hi))) ?_
    by_cases c : (decv (numsOf x5[i])).2 = 0
    · rw [if_pos c]
      refine evp c ?_
      refine evp (by simp only [List.length_cons, List.length_nil]; omega) ?_
      exact ih (i + 1) _ (by omega) (by simp only [List.length_append, List.length_cons, List.length_nil]; omega)
    · rw [if_neg c, finB, if_neg c]
      exact evn c (Ev.now _)
theorem get_l6 (x5 x25 : List ByteArray) (hW : ∀ w ∈ x5, w.size < 1000000) (hn : x5.length < 1000000) (hV : ∀ w ∈ x25, w.size < 1000000) (hm : x25.length < 1000000) (b2 : InT) (d : Nat) : ∀ (i : Nat) (a : List RdT), i + d = x25.length → a.length + d ≤ 1000000 →
    Ev (fun k => input_Get.l6 k x5 x25 (x25.length : Int) (i : Int) b2 (a, [], ())) (finA (getA (x25.drop i) a) x5) := by
  induction d with
  | zero =>
    intro i a h ha
    refine Ev.step (fun k => by rw [input_Get.l6]) ?_
    refine evn (by omega) ?_
    rw [List.drop_eq_nil_of_le (by omega : x25.length ≤ i), getA, finA, if_pos rfl]
    exact get_l14 x5 hW hn b2 a x5.length 0 [] (Nat.zero_add _) (by simp only [List.length_nil]; omega)
  | succ d ih =>
    intro i a h ha
    have hi : i < x25.length := by omega
    refine Ev.step (fun k => by rw [input_Get.l6]) ?_
    refine evp (by omega) ?_
    refine evp (by omega) ?_
    refine evp (by omega) ?_
    rw [show ((i : Int)).toNat = i from rfl, getD_n hi, List.drop_eq_getElem_cons hi, getA, w64_succ (by omega)]
    refine Ev.bind (reading_ok _ (hV _ (List.getElem_mem hi))) ?_
    by_cases c : (readv x25[i]).2.2 = 0
    · rw [if_pos c]
      refine evp c ?_
      refine evp (by simp only [List.length_cons, List.length_nil]; omega) ?_
      exact ih (i + 1) _ (by omega) (by simp only [List.length_append, List.length_cons, List.length_nil]; omega)
    · rw [if_neg c, finA, if_neg c]
      exact evn c (Ev.now _)
theorem pst_mem (W : List ByteArray) : ∀ (a b : List ByteArray) (n : Int), (∀ w ∈ (pst W a b n).1, w ∈ a ∨ w ∈ W) ∧ (∀ w ∈ (pst W a b n).2.1, w ∈ b ∨ w ∈ W) ∧ (pst W a b n).1.length ≤ a.length + W.length ∧ (pst W a b n).2.1.length ≤ b.length + W.length := by
  induction W with
  | nil => intro a b n; rw [pst]; exact ⟨fun w h => .inl h, fun w h => .inl h, Nat.le_refl _, Nat.le_refl _⟩
  | cons x r ih =>
    intro a b n
    rw [pst]
    have up : ∀ {w : ByteArray} {l : List ByteArray}, w ∈ l ∨ w ∈ r → w ∈ l ∨ w ∈ x :: r := fun h => h.imp id (List.mem_cons_of_mem _)
    split
    · obtain ⟨h1, h2, h3, h4⟩ := ih a b (n + 1)
      exact ⟨fun w h => up (h1 w h), fun w h => up (h2 w h), by rw [List.length_cons]; omega, by rw [List.length_cons]; omega⟩
    · split
      · obtain ⟨h1, h2, h3, h4⟩ := ih (a ++ [x]) b n
        rw [List.length_append, List.length_singleton] at h3
        refine ⟨fun w h => ?_, fun w h => up (h2 w h), by rw [List.length_cons]; omega, by rw [List.length_cons]; omega⟩
        rcases h1 w h with q | q
        · rcases List.mem_append.1 q with q | q
          · exact .inl q
          · rw [List.mem_singleton.1 q]; exact .inr List.mem_cons_self
        · exact .inr (List.mem_cons_of_mem _ q)
      · obtain ⟨h1, h2, h3, h4⟩ := ih a (b ++ [x]) n
        rw [List.length_append, List.length_singleton] at h4
        refine ⟨fun w h => up (h1 w h), fun w h => ?_, by rw [List.length_cons]; omega, by rw [List.length_cons]; omega⟩
        rcases h2 w h with q | q
        · rcases List.mem_append.1 q with q | q
          · exact .inl q
          · rw [List.mem_singleton.1 q]; exact .inr List.mem_cons_self
        · exact .inr (List.mem_cons_of_mem _ q)
theorem input_get_ok (s : ByteArray) (hs : s.size < 100000) : Ev (fun k => input_Get.f k s) (inputV s) := by
  have hl : (partsB 32 s).length ≤ s.size + 1 := parts_len
  obtain ⟨h1, h2, h3, h4⟩ := pst_mem (partsB 32 s) [] [] 0
  have small : ∀ w : ByteArray, w ∈ ([] : List ByteArray) ∨ w ∈ partsB 32 s → w.size < 1000000 := fun w h => by
    rcases h with h | h
    · cases h
    · have := parts_size h; omega
  unfold input_Get.f
  refine Ev.bind (parts_ok s hs) ?_
  unfold inputV
  generalize hp : pst (partsB 32 s) [] [] 0 = p at h1 h2 h3 h4 ⊢
  obtain ⟨A, B, t, _⟩ := p
  cases t with
  | false => exact evp rfl (Ev.now _)
  | true =>
    refine evn (by simp) ?_
    exact get_l6 B A (fun w h => small w (h2 w h)) (by simp only [List.length_nil] at h4; omega) (fun w h => small w (h1 w h)) (by simp only [List.length_nil] at h3; omega) _ A.length 0 [] (Nat.zero_add _) (by simp only [List.length_nil] at h3 ⊢; omega)
end Go.Proofs.YtcgdhpnobgimfaaDoor.Num
end
section
namespace Go.Proofs.YtcgdhpnobgimfaaDoor.Num
set_option linter.unusedVariables false
set_option linter.unusedSimpArgs false
open Go.RowKit Go.Proofs.YtcgdhpnobgimfaaDoor.PI Go.Proofs.YtcgdhpnobgimfaaDoorW.PrintWords Go.Proofs.YtcgdhpnobgimfaaDoorW.PrintMore

/-- Where the last bar is, and how many there are. -/
def rst : List ByteArray → Nat → Nat → Nat → Nat × Nat
  | [], i, p, n => (p, n)
  | w :: r, i, p, n => if w = barB then rst r (i + 1) i (n + 1) else rst r (i + 1) p n
theorem rst_n (W : List ByteArray) : ∀ i p n : Nat, (rst W i p n).2 = n + nbar W := by
  induction W with
  | nil => intro i p n; rfl
  | cons w r ih =>
    intro i p n
    rw [rst, nbar_cons]
    split
    · rw [ih]; omega
    · rw [ih]; omega
theorem rst_free {B : List ByteArray} (h : barB ∉ B) : ∀ i p n : Nat, rst B i p n = (p, n) := by
  induction B with
  | nil => intro i p n; rfl
  | cons w r ih =>
    intro i p n
    rw [List.mem_cons, not_or] at h
    rw [rst, if_neg (fun q => h.1 q.symm), ih h.2]
theorem rst_one {A B : List ByteArray} (hA : barB ∉ A) (hB : barB ∉ B) : ∀ i p n : Nat, rst (A ++ barB :: B) i p n = (i + A.length, n + 1) := by
  induction A with
  | nil => intro i p n; rw [List.nil_append, rst, if_pos rfl, rst_free hB]; rfl
  | cons w r ih =>
    intro i p n
    rw [List.mem_cons, not_or] at hA
    rw [List.cons_append, rst, if_neg (fun q => hA.1 q.symm), ih hA.2, List.length_cons]
    congr 1
    omega
theorem rget_l4 (W : List ByteArray) (hn : W.length < 1000000) (b2 : InT) (R : InT × Int × Unit) (d : Nat) : ∀ (i p n : Nat), i + d = W.length → n + d ≤ 1000000 → p < 1000000 →
    ((rst (W.drop i) i p n).2 = 1 → Ev (fun k => regimenref44_Get_s.l13 k W ((rst (W.drop i) i p n).1 : Int) 0 b2 ([], [], ())) R) → ((rst (W.drop i) i p n).2 ≠ 1 → R = noIn 2) →
    Ev (fun k => regimenref44_Get_s.l4 k W (p : Int) (n : Int) (i : Int) b2) R := by
  induction d with
  | zero =>
    intro i p n h hc hp h1 h2
    rw [List.drop_eq_nil_of_le (by omega : W.length ≤ i), rst] at h1 h2
    refine Ev.step (fun k => by rw [regimenref44_Get_s.l4]) ?_
    refine evn (by omega) ?_
    by_cases c : n = 1
    · exact evp (by omega) (h1 c)
    · rw [h2 c]
      exact evn (by omega) (Ev.now _)
  | succ d ih =>
    intro i p n h hc hp h1 h2
    have hi : i < W.length := by omega
    rw [List.drop_eq_getElem_cons hi, rst] at h1 h2
    refine Ev.step (fun k => by rw [regimenref44_Get_s.l4]) ?_
    refine evp (by omega) ?_
    refine evp (by omega) ?_
    refine evp (by omega) ?_
    rw [show ((i : Int)).toNat = i from rfl, getD_n hi, w64_succ (by omega)]
    by_cases c : W[i] = barB
    · rw [if_pos c] at h1 h2
      refine evp ((bar_tl _).2 c) ?_
      refine Ev.step (fun k => by rw [regimenref44_Get_s.j5]) ?_
      rw [w64_succ (by omega)]
      exact ih (i + 1) i (n + 1) (by omega) (by omega) (by omega) h1 h2
    · rw [if_neg c] at h1 h2
      refine evn (fun q => c ((bar_tl _).1 q)) ?_
      refine Ev.step (fun k => by rw [regimenref44_Get_s.j5]) ?_
      rw [w64_succ (by omega)]
      exact ih (i + 1) p n (by omega) (by omega) hp h1 h2
section
set_option linter.unusedSectionVars false
variable {A B : List ByteArray} (hA : ∀ w ∈ A, w.size ≤ 310) (hB : ∀ w ∈ B, w.size ≤ 310) (hn : A.length + 1 + B.length < 1000000) (b2 : InT)
include hA hB hn
theorem rget_b (a : List RdT) (d : Nat) : ∀ (j : Nat) (b : List Int), j + d = B.length → b.length + d ≤ 1000000 →
    Ev (fun k => regimenref44_Get_s.l13 k (A ++ barB :: B) (A.length : Int) ((A.length + 1 + j : Nat) : Int) b2 (a, b, ())) (finB a (getB (B.drop j) b)) := by
  have hl : (A ++ barB :: B).length = A.length + 1 + B.length := by rw [List.length_append, List.length_cons]; omega
  induction d with
  | zero =>
    intro j b h hb
    refine Ev.step (fun k => by rw [regimenref44_Get_s.l13]) ?_
    refine evn (by rw [hl]; omega) ?_
    rw [List.drop_eq_nil_of_le (by omega : B.length ≤ j), getB, finB, if_pos rfl]
    exact Ev.now _
  | succ d ih =>
    intro j b h hb
    have hj : j < B.length := by omega
    have hg : (A ++ barB :: B).getD (A.length + 1 + j) (⟨#[]⟩ : ByteArray) = B[j] := by
      rw [List.getD_eq_getElem?_getD, List.getElem?_append_right (by omega), show A.length + 1 + j - A.length = j + 1 from by omega, List.getElem?_cons_succ, List.getElem?_eq_getElem hj]
      rfl
    refine Ev.step (fun k => by rw [regimenref44_Get_s.l13]) ?_
    refine evp (by rw [hl]; omega) ?_
    refine evn (by omega) ?_
    refine evn (by omega) ?_
    refine evp (by omega) ?_
    refine evp (by rw [hl]; omega) ?_
    rw [show (((A.length + 1 + j : Nat) : Int)).toNat = A.length + 1 + j from rfl, hg, List.drop_eq_getElem_cons hj, getB]
    refine Ev.bind (ref_dec_get_ok _ (hB _ (List.getElem_mem hj))) ?_
    by_cases c : (decv (numsOf B[j])).2 = 0
    · rw [if_pos c]
      refine evp c ?_
      refine evn (by omega) ?_
      refine evp (by simp only [List.length_cons, List.length_nil]; omega) ?_
      refine Ev.step (fun k => by rw [regimenref44_Get_s.j14]) ?_
      rw [w64_succ (by omega)]
      exact ih (j + 1) _ (by omega) (by simp only [List.length_append, List.length_cons, List.length_nil]; omega)
    · rw [if_neg c, finB, if_neg c]
      exact evn c (Ev.now _)
theorem rget_a (d : Nat) : ∀ (i : Nat) (a : List RdT), i + d = A.length → a.length + d ≤ 1000000 →
    Ev (fun k => regimenref44_Get_s.l13 k (A ++ barB :: B) (A.length : Int) (i : Int) b2 (a, [], ())) (finA (getA (A.drop i) a) B) := by
  have hl : (A ++ barB :: B).length = A.length + 1 + B.length := by rw [List.length_append, List.length_cons]; omega
  induction d with
  | zero =>
    intro i a h ha
    obtain rfl : i = A.length := by omega
    refine Ev.step (fun k => by rw [regimenref44_Get_s.l13]) ?_
    refine evp (by rw [hl]; omega) ?_
    refine evp rfl ?_
    refine Ev.step (fun k => by rw [regimenref44_Get_s.j14]) ?_
    rw [w64_succ (by omega), List.drop_length, getA, finA, if_pos rfl]
    exact rget_b hA hB hn b2 a B.length 0 [] (Nat.zero_add _) (by simp only [List.length_nil]; omega)
  | succ d ih =>
    intro i a h ha
    have hi : i < A.length := by omega
    have hg : (A ++ barB :: B).getD i (⟨#[]⟩ : ByteArray) = A[i] := by
      rw [List.getD_eq_getElem?_getD, List.getElem?_append_left hi, List.getElem?_eq_getElem hi]
      rfl
    refine Ev.step (fun k => by rw [regimenref44_Get_s.l13]) ?_
    refine evp (by rw [hl]; omega) ?_
    refine evn (by omega) ?_
    refine evp (by omega) ?_
    refine evp (by omega) ?_
    refine evp (by rw [hl]; omega) ?_
    rw [show ((i : Int)).toNat = i from rfl, hg, List.drop_eq_getElem_cons hi, getA]
    by_cases c : A[i] = dashB
    · refine evp ((dash_tl _).2 c) ?_
      have hr : readv A[i] = (false, 0, 0) := by unfold readv; rw [if_pos c]
      rw [hr, if_pos rfl]
      refine evp (by simp only [List.length_cons, List.length_nil]; omega) ?_
      refine Ev.step (fun k => by rw [regimenref44_Get_s.j14]) ?_
      rw [w64_succ (by omega)]
      exact ih (i + 1) _ (by omega) (by simp only [List.length_append, List.length_cons, List.length_nil]; omega)
    · refine evn (fun q => c ((dash_tl _).1 q)) ?_
      have hr : readv A[i] = (true, (decv (numsOf A[i])).1, (decv (numsOf A[i])).2) := by unfold readv; rw [if_neg c]
      rw [hr]
      refine evp (by omega) ?_
      refine evp (by rw [hl]; omega) ?_
      refine Ev.bind (ref_dec_get_ok _ (hA _ (List.getElem_mem hi))) ?_
      by_cases c2 : (decv (numsOf A[i])).2 = 0
      · rw [if_pos c2]
        refine evp c2 ?_
        refine evp (by omega) ?_
        refine evp (by simp only [List.length_cons, List.length_nil]; omega) ?_
        refine Ev.step (fun k => by rw [regimenref44_Get_s.j14]) ?_
        rw [w64_succ (by omega)]
        exact ih (i + 1) _ (by omega) (by simp only [List.length_append, List.length_cons, List.length_nil]; omega)
      · rw [if_neg c2, finA, if_neg c2]
        exact evn c2 (Ev.now _)
end
theorem ref_input_get_ok (s : ByteArray) (hs : s.size ≤ 300) : Ev (fun k => regimenref44_Get_s.f k s) (inputV s) := by
  have hl : (partsB 32 s).length ≤ s.size + 1 := parts_len
  unfold regimenref44_Get_s.f
  refine Ev.bind (rcut_ok s (by omega)) ?_
  refine rget_l4 (partsB 32 s) (by omega) _ _ (partsB 32 s).length 0 0 0 (Nat.zero_add _) (by omega) (by decide) ?_ ?_
  · intro h
    rw [List.drop_zero, rst_n, Nat.zero_add] at h
    obtain ⟨A, B, e, hA, hB⟩ := one_bar h
    have small : ∀ w : ByteArray, w ∈ A ++ barB :: B → w.size ≤ 310 := fun w hw => by
      rw [← e] at hw
      have := parts_size hw
      omega
    have hn : A.length + 1 + B.length < 1000000 := by
      have := congrArg List.length e
      rw [List.length_append, List.length_cons] at this
      omega
    unfold inputV
    rw [List.drop_zero, e, rst_one hA hB, pst_one hA hB, Nat.zero_add, List.nil_append]
    exact rget_a (fun w hw => small w (List.mem_append_left _ hw)) (fun w hw => small w (List.mem_append_right _ (List.mem_cons_of_mem _ hw))) hn _ A.length 0 [] (Nat.zero_add _) (by simp only [List.length_nil]; omega)
  · intro h
    rw [List.drop_zero, rst_n, Nat.zero_add] at h
    have := pst_n (partsB 32 s) [] [] 0
    unfold inputV
    rw [show ((0 : Nat) : Int) = 0 from rfl] at this
    generalize hp : pst (partsB 32 s) [] [] 0 = p at this ⊢
    obtain ⟨A, B, t, _⟩ := p
    have ht : t = false := by
      rw [show t = _ from this]
      exact decide_eq_false (by omega)
    subst ht
    rfl
/-! ### inputs that are the same -/
theorem same35_l4 (x : InT) (h1 : x.1.length < 1000000) (h2 : x.2.1.length ≤ 1000000) (d : Nat) : ∀ i : Nat, i + d = x.1.length → Ev (fun k => regimenref35_Same_s.l4 k (i : Int) x x) true := by
  induction d with
  | zero =>
    intro i h
    refine Ev.step (fun k => by rw [regimenref35_Same_s.l4]) ?_
    refine evn (by omega) ?_
    exact Ev.bind (same1_ok _ h2) (Ev.now _)
  | succ d ih =>
    intro i h
    refine Ev.step (fun k => by rw [regimenref35_Same_s.l4]) ?_
    refine evp (by omega) ?_
    refine evp (by omega) ?_
    refine evp (by omega) ?_
    refine evp (by omega) ?_
    refine evp (by omega) ?_
    refine evn (by simp) ?_
    rw [w64_succ (by omega)]
    exact ih (i + 1) (by omega)
theorem same35_ok (x : InT) (h1 : x.1.length < 1000000) (h2 : x.2.1.length ≤ 1000000) : Ev (fun k => regimenref35_Same_s.f k x x) true := by
  unfold regimenref35_Same_s.f
  refine evp rfl ?_
  exact same35_l4 x h1 h2 x.1.length 0 (Nat.zero_add _)
theorem getA_len (W : List ByteArray) : ∀ a : List RdT, (getA W a).1.length ≤ a.length + W.length := by
  induction W with
  | nil => intro a; exact Nat.le_refl _
  | cons w r ih =>
    intro a
    rw [getA]
    split
    · have := ih (a ++ [((readv w).1, (readv w).2.1, ())])
      rw [List.length_append, List.length_singleton] at this
      rw [List.length_cons]
      omega
    · exact Nat.le_add_right _ _
theorem getB_len (W : List ByteArray) : ∀ b : List Int, (getB W b).1.length ≤ b.length + W.length := by
  induction W with
  | nil => intro b; exact Nat.le_refl _
  | cons w r ih =>
    intro b
    rw [getB]
    split
    · have := ih (b ++ [(decv (numsOf w)).1])
      rw [List.length_append, List.length_singleton] at this
      rw [List.length_cons]
      omega
    · exact Nat.le_add_right _ _
theorem inputV_len (s : ByteArray) : (inputV s).1.1.length ≤ s.size + 1 ∧ (inputV s).1.2.1.length ≤ s.size + 1 := by
  have hl : (partsB 32 s).length ≤ s.size + 1 := parts_len
  obtain ⟨_, _, h3, h4⟩ := pst_mem (partsB 32 s) [] [] 0
  unfold inputV
  generalize hp : pst (partsB 32 s) [] [] 0 = p at h3 h4 ⊢
  obtain ⟨A, B, t, _⟩ := p
  simp only [List.length_nil] at h3 h4
  cases t with
  | false => exact ⟨Nat.zero_le _, Nat.zero_le _⟩
  | true =>
    have q1 := getA_len A []
    have q2 := getB_len B []
    rw [List.length_nil] at q1 q2
    show (finA (getA A []) B).1.1.length ≤ _ ∧ (finA (getA A []) B).1.2.1.length ≤ _
    unfold finA
    split
    · unfold finB
      split
      · exact ⟨by show (getA A []).1.length ≤ _; omega, by show (getB B []).1.length ≤ _; omega⟩
      · exact ⟨Nat.zero_le _, Nat.zero_le _⟩
    · exact ⟨Nat.zero_le _, Nat.zero_le _⟩
theorem awake44_ok : Ev (fun k => regimenlaw44_awake.f k) true := Ev.of (fun k => regimenlaw44_awake.mono k) (k := 200) (by decide +kernel)
end Go.Proofs.YtcgdhpnobgimfaaDoor.Num
end
section
namespace Go.Proofs.YtcgdhpnobgimfaaDoor.Num
set_option linter.unusedVariables false
open Go.RowKit Go.Proofs.YtcgdhpnobgimfaaDoor.PI Go.Proofs.YtcgdhpnobgimfaaDoorW.PrintWords Go.Proofs.YtcgdhpnobgimfaaDoorW.PrintMore Go.Sym

theorem input_gets_ok (s : ByteArray) : Ev (fun k => regimenlaw44_InputGets.f k s) true := by
  unfold regimenlaw44_InputGets.f
  by_cases c : s.size ≤ 300
  · refine evn (by omega) ?_
    refine Ev.bind (input_get_ok s (by omega)) ?_
    refine Ev.bind (ref_input_get_ok s c) ?_
    have hl := inputV_len s
    refine Ev.bind (same35_ok _ (by omega) (by omega)) ?_
    refine evp rfl ?_
    refine evp rfl ?_
    exact Ev.bind awake44_ok (Ev.now _)
  · refine evp (by omega) ?_
    exact Ev.bind awake44_ok (Ev.now _)
end Go.Proofs.YtcgdhpnobgimfaaDoor.Num
namespace Go.Proofs.YtcgdhpnobgimfaaDoor
set_option linter.unusedVariables false
open Go.Sym Go.Proofs.YtcgdhpnobgimfaaDoor.Num Go.Proofs.YtcgdhpnobgimfaaDoor.PI
theorem Pure.InputGets (y0 : El .str) (w0 : Wf .str y0) : ∃ k, regimenlaw44_InputGets.c.fn k (y0, ()) = some true := by
  obtain ⟨K, h⟩ := input_gets_ok y0
  exact ⟨K, h K (Nat.le_refl _)⟩
end Go.Proofs.YtcgdhpnobgimfaaDoor
end
