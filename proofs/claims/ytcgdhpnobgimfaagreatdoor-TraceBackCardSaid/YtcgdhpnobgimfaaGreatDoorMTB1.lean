/- A region's operations, in the order of the text. Operations that leave the state's memory alone, and how two of them change places. An append and an operation that looks at no row change places: for regions whose order is drawn. Regions whose order is drawn: whatever the order, the state is the one of the text's order. Drawn regions with stores that nothing else of the region depends on. Drawn regions with variables that are made in them. The regions that draw their order; and the places where a state is told anew by what lives there. A state told anew by a shape: what was told stays told. Code, told plainly: regions, branches, blocks, loops and joins by annotation; and that it is told rightly. A function: what it is called with, what it comes to. Lists of functions that are told already. -/
import Derived.Test.YtcgdhpnobgimfaaGreatDoorMTB0
section
namespace Go.Sym
open Go.RowKit
set_option linter.unusedVariables false
set_option linter.unusedSimpArgs false

def St.know (s : St) (d : Nat) (b : Bool) : St := { s with slots := s.slots.set d (.lit b) }
/-- A test of a slot: behind it the slot is known. -/
def guardK {R : Type} (s : St) (d : Nat) (K : St → Bool → Option R) : Option R := match s.slots.getD d .junk with
  | .lit b => K s b
  | .pr p dec neg => @_root_.ite _ p dec (K (s.know d (!neg)) (!neg)) (K (s.know d neg) neg)
  | .v .bool b _ => @_root_.ite _ (b = true) (instDecidableEqBool b true) (K (s.know d true) true) (K (s.know d false) false)
  | _ => none
def isUnd : AV → Bool
  | .und => true
  | _ => false
/-- An operation, with its guard. -/
def stepK {R : Type} (Y : Nat → Option Callee) (T : Tab) (k : Nat) (all : Array Oper) (o : Oper) (s : St) (K : St → Option R) : Option R := match o.guard with
  | none => opK Y T k o s K
  | some (g, want) => match (all[g]?).bind (·.dst) with
    | some d => match isUnd (s.slots.getD d .junk) with
      | true => K (s.put o.dst .und)
      | false => guardK s d fun s b => match b == want with
        | true => opK Y T k o s K
        | false => K (s.put o.dst .und)
    | none => none
/-- Operands whose values are wanted. -/
def opVals : Op → List Operand
  | .store t p x => [x]
  | .call c => match c.callee with
    | .builtin .len => []
    | .builtin .clear => []
    | _ => c.args.toList
  | .indexAddr _ _ _ => []
  | .slice _ _ _ _ _ => []
  | .index _ _ _ => []
  | .load _ _ => []
  | .fieldAddr _ _ _ => []
  | .nilCheck _ => []
  | .convert _ _ _ => []
  | .move _ => []
  | .assign _ => []
  | .makeFunc _ _ _ => []
  | op => op.operands.toList
def frz1 (s : St) (x : Operand) : St := match s.ev x with
  | .mw _ b _ => s.freeze b
  | .mr _ b _ _ => s.freeze b
  | _ => s
def frzL : List Operand → St → St
  | [], s => s
  | x :: r, s => frzL r (frz1 s x)
/-- An operation; rows whose values it wants are written no more. -/
def stepF {R : Type} (Y : Nat → Option Callee) (T : Tab) (k : Nat) (all : Array Oper) (o : Oper) (s : St) (K : St → Option R) : Option R := stepK Y T k all o (frzL (opVals o.op) s) K
def opsF {R : Type} (Y : Nat → Option Callee) (T : Tab) (k : Nat) (all : Array Oper) : List Oper → St → (St → Option R) → Option R
  | [], s, K => K s
  | o :: r, s, K => stepF Y T k all o s fun s => opsF Y T k all r s K
def frzAll : List Oper → St → St
  | [], s => s
  | o :: r, s => frzAll r (frzL (opVals o.op) s)
def opsK {R : Type} (Y : Nat → Option Callee) (T : Tab) (k : Nat) (all : Array Oper) : List Oper → St → (St → Option R) → Option R
  | [], s, K => K s
  | o :: r, s, K => stepK Y T k all o s fun s => opsK Y T k all r s K
section
variable {R : Type} {P : Program} {T : Tab} {M : Nat → Prop} {w0 w : World} {F0 F : Nat → Nat} {γ : Nat → Nat} {ρ : Nat → Option Nat} {s s1 : St} {a : Act} {B : Nat → Prop} {e : Ty} {Y : Nat → Option Callee} {k : Nat} {o : Oper} {r : R}
theorem RelG.know (h : RelG M w0 F0 F γ ρ s a w) {d : Nat} {b : Bool} (hd : a.tmps.getD d undef = .bool b) : RelG M w0 F0 F γ ρ (s.know d b) a w := by
  refine { h with len := by simp only [St.know, List.length_set]; exact h.len, slot := ?_, rowused := h.rowused, wf := ?_ }
  rotate_left 1
  · intro x hx
    rcases List.mem_or_eq_of_mem_set hx with q | rfl
    · exact h.wf x q
    · trivial
  intro i av hi
  simp only [St.know, List.getElem?_set] at hi
  split at hi
  · rename_i q
    subst q
    split at hi
    · cases hi
      exact hd
    · cases hi
  · exact h.slot i av hi
theorem guard_sound (h : RelG M w0 F0 F γ ρ s a w) {d : Nat} {K : St → Bool → Option R} (hk : guardK s d K = some r) : ∃ s1 b, K s1 b = some r ∧ a.tmps[d]? = some (.bool b) ∧ RelG M w0 F0 F γ ρ s1 a w := by
  have hev := h.ev (.tmp d)
  have get : ∀ b, a.tmps.getD d undef = .bool b → a.tmps[d]? = some (.bool b) := fun b hb => by
    rw [Array.getD_eq_getD_getElem?] at hb
    cases q : a.tmps[d]? with
    | none => rw [q] at hb; cases hb
    | some v => rw [q] at hb; rw [← hb]; rfl
  unfold guardK at hk
  split at hk
  · rename_i b q
    rw [show s.ev (.tmp d) = s.slots.getD d .junk from rfl, q] at hev
    exact ⟨s, b, hk, get b hev, h⟩
  · rename_i p dec neg q
    rw [show s.ev (.tmp d) = s.slots.getD d .junk from rfl, q] at hev
    have hv : a.tmps.getD d undef = .bool (xor neg (@decide p dec)) := hev
    split at hk
    · rename_i c
      rw [show xor neg (@decide p dec) = !neg from by simp [c]] at hv
      exact ⟨_, _, hk, get _ hv, h.know hv⟩
    · rename_i c
      rw [show xor neg (@decide p dec) = neg from by simp [c]] at hv
      exact ⟨_, _, hk, get _ hv, h.know hv⟩
  · rename_i b g q
    rw [show s.ev (.tmp d) = s.slots.getD d .junk from rfl, q] at hev
    have hv : a.tmps.getD d undef = .bool b := rep_bool hev.1
    split at hk
    · rename_i c
      rw [c] at hv
      exact ⟨_, _, hk, get _ hv, h.know hv⟩
    · rename_i c
      rw [show b = false from by simpa using c] at hv
      exact ⟨_, _, hk, get _ hv, h.know hv⟩
  · cases hk
theorem know_lit {d : Nat} {b : Bool} (h : s.slots.getD d .junk = .lit b) : s.know d b = s := by
  have : s.slots.set d (.lit b) = s.slots := by
    apply List.ext_getElem?
    intro i
    rw [List.getElem?_set]
    split
    · rename_i q
      subst q
      rw [List.getD_eq_getElem?_getD] at h
      split
      · rename_i hl
        rw [List.getElem?_eq_getElem hl] at h ⊢
        rw [← h]
        rfl
      · rename_i hl
        rw [List.getElem?_eq_none (by omega)]
    · rfl
  unfold St.know
  rw [this]
/-- What a test says of a slot. -/
def tr : AV → Option Bool
  | .lit b => some b
  | .pr p d neg => some (xor neg (@decide p d))
  | .v .bool b _ => some b
  | _ => none
theorem guard_val {d : Nat} {K : St → Bool → Option R} : guardK s d K = match tr (s.slots.getD d .junk) with
    | some b => K (s.know d b) b
    | none => none := by
  unfold guardK
  split
  · rename_i b q
    rw [q]
    simp only [tr]
    rw [know_lit q]
  · rename_i p dec neg q
    rw [q]
    simp only [tr]
    split
    · rename_i c
      rw [show xor neg (@decide p dec) = !neg from by simp [c]]
    · rename_i c
      rw [show xor neg (@decide p dec) = neg from by simp [c]]
  · rename_i b g q
    rw [q]
    simp only [tr]
    split
    · rename_i c
      rw [c]
    · rename_i c
      rw [show b = false from by simpa using c]
  · rename_i q1 q2 q3
    split
    · rename_i b hb
      exfalso
      unfold tr at hb
      split at hb
      · rename_i b0 e; exact q1 b0 e
      · rename_i p d neg e; exact q2 p d neg e
      · rename_i b0 g e; exact q3 b0 g e
      · cases hb
    · rfl
theorem step_val {all : Array Oper} {K : St → Option R} (h : stepK Y T k all o s K = some r) : ∃ s1, stepK Y T k all o s some = some s1 ∧ K s1 = some r := by
  unfold stepK at h ⊢
  cases hg : o.guard with
  | none =>
    rw [hg] at h
    exact opK_val h
  | some gw =>
    obtain ⟨g, want⟩ := gw
    rw [hg] at h
    simp only at h ⊢
    cases hd : (all[g]?).bind (·.dst) with
    | none => rw [hd] at h; cases h
    | some d =>
      rw [hd] at h
      simp only at h ⊢
      cases hu : isUnd (s.slots.getD d .junk) with
      | true =>
        rw [hu] at h
        exact ⟨_, rfl, h⟩
      | false =>
        rw [hu] at h
        simp only at h ⊢
        rw [guard_val] at h ⊢
        cases ht : tr (s.slots.getD d .junk) with
        | none => rw [ht] at h; cases h
        | some b =>
          rw [ht] at h
          simp only at h ⊢
          split at h
          · exact opK_val h
          · exact ⟨_, rfl, h⟩
theorem step_sound (hT : TabOk P T) (hY : ∀ f c, Y f = some c → CalleeOk P f c) (hL : Laid P w0) (hM : ∀ b, M b → startN P ≤ b) {all : Array Oper} (h : RelG M w0 F0 F γ ρ s a w) (ho : stepK Y T k all o s some = some s1) {next : Act → World → Prop} {Q : Exit → Act → World → Prop}
    (hn : ∀ a' w', Rel M w0 F0 s1 a' w' → next a' w') : if Region.wanted o (yielded all a.tmps) = true then o.wp P a w next Q ∨ (o.asks P a w ∧ LetsOut Q) else next (a.put o.dst undef) w := by
  unfold stepK at ho
  split at ho
  · rename_i hg
    have hw : Region.wanted o (yielded all a.tmps) = true := by unfold Region.wanted; rw [hg]
    rw [if_pos hw]
    exact .inl (op_sound hT hY hL hM h ho hn)
  · rename_i g want hg
    split at ho
    · rename_i d hd
      cases hu : isUnd (s.slots.getD d .junk) with
      | true =>
        rw [hu] at ho
        have hev := h.ev (.tmp d)
        rw [show s.ev (.tmp d) = s.slots.getD d .junk from rfl] at hev
        have hv : a.tmps.getD d undef = undef := by
          unfold isUnd at hu
          split at hu
          · rename_i q
            rw [q] at hev
            exact hev
          · cases hu
        have hy : yielded all a.tmps g = none := by
          unfold yielded
          rw [hd, Option.bind_some]
          rw [Array.getD_eq_getD_getElem?] at hv
          cases q : a.tmps[d]? with
          | none => rfl
          | some v =>
            rw [q] at hv
            have : v = undef := hv
            rw [this]
            rfl
        have hw : Region.wanted o (yielded all a.tmps) = false := by
          unfold Region.wanted
          rw [hg]
          simp only [hy]
          rfl
        rw [if_neg (by rw [hw]; simp)]
        cases ho
        exact hn _ _ ⟨F, γ, ρ, h.put o.dst (av := .und) (v := undef) rfl trivial⟩
      | false =>
        rw [hu] at ho
        obtain ⟨s2, b, h1, h2, h3⟩ := guard_sound h ho
        have hy : yielded all a.tmps g = some b := by
          unfold yielded
          rw [hd, Option.bind_some, h2]
        have hw : Region.wanted o (yielded all a.tmps) = (b == want) := by
          unfold Region.wanted
          rw [hg]
          simp only [hy]
          cases b <;> cases want <;> rfl
        split at h1
        · rename_i c
          rw [if_pos (by rw [hw]; exact c)]
          exact .inl (op_sound hT hY hL hM h3 h1 hn)
        · rename_i c
          rw [if_neg (by rw [hw, c]; decide)]
          cases h1
          exact hn _ _ ⟨F, γ, ρ, h3.put o.dst (av := .und) (v := undef) rfl trivial⟩
    · cases ho
theorem frz1_sound (h : Rel M w0 F0 s a w) (x : Operand) : Rel M w0 F0 (frz1 s x) a w := by
  unfold frz1
  split
  · exact freeze_sound h _
  · exact freeze_sound h _
  · exact h
theorem frzL_sound : ∀ (l : List Operand) {s : St}, Rel M w0 F0 s a w → Rel M w0 F0 (frzL l s) a w
  | [], s, h => h
  | x :: r, s, h => frzL_sound r (frz1_sound h x)
theorem frzAll_sound : ∀ (l : List Oper) {s : St}, Rel M w0 F0 s a w → Rel M w0 F0 (frzAll l s) a w
  | [], s, h => h
  | o :: r, s, h => frzAll_sound r (frzL_sound _ h)
theorem ops_sound (hT : TabOk P T) (hY : ∀ f c, Y f = some c → CalleeOk P f c) (hL : Laid P w0) (hM : ∀ b, M b → startN P ≤ b) {all : Array Oper} {K : St → Option R} {Q : Exit → Act → World → Prop}
    (hK : ∀ s1 a1 w1, K s1 = some r → Rel M w0 F0 s1 a1 w1 → Q .normal a1 w1) : ∀ (l : List Oper) (i : Nat) (s : St) (a : Act) (w : World), (∀ j, l[j]? = all[i + j]?) → Rel M w0 F0 s a w → opsF Y T k all l s K = some r →
      wpOps P all Q (List.range' i l.length) a w := by
  intro l
  induction l with
  | nil => intro i s a w _ h hk; exact hK s a w hk h
  | cons o l ih =>
    intro i s a w hl h hk
    have h := frzL_sound (opVals o.op) h
    obtain ⟨F, γ, ρ, h⟩ := h
    have ho : all[i]? = some o := by have := hl 0; simpa using this.symm
    have hl1 : ∀ j, l[j]? = all[i + 1 + j]? := fun j => by have := hl (j + 1); rw [List.getElem?_cons_succ] at this; rw [this]; congr 1; omega
    rw [List.length_cons, List.range'_succ]
    show (match all[i]? with | none => _ | some o => _)
    rw [ho]
    simp only
    obtain ⟨s1, h1, h2⟩ := step_val hk
    exact step_sound hT hY hL hM h h1 fun a' w' hr => ih (i + 1) s1 a' w' hl1 hr h2
theorem region_sound (hT : TabOk P T) (hY : ∀ f c, Y f = some c → CalleeOk P f c) (hL : Laid P w0) (hM : ∀ b, M b → startN P ≤ b) {id : Nat} {all : Array Oper} {K : St → Option R} {Q : Exit → Act → World → Prop}
    (hK : ∀ s1 a1 w1, K s1 = some r → Rel M w0 F0 s1 a1 w1 → Q .normal a1 w1) (h : Rel M w0 F0 s a w) (hk : opsF Y T k all all.toList s K = some r) : (Code.region id all false).wp P Q a w := by
  refine wp_region ?_
  have := ops_sound hT hY hL hM hK all.toList 0 s a w (fun j => by simp) h hk
  rw [List.range_eq_range']
  simpa using this
end
end Go.Sym
end
section
namespace Go.Sym
open Go.RowKit
set_option linter.unusedVariables false
set_option linter.unusedSimpArgs false

def Kind.quiet : Kind → Bool
  | .fn _ _ => true
  | .dyn _ _ => true
  | .bs _ _ _ => true
  | .plain => true
  | _ => false
/-- What a quiet operation yields: a slot's content, and the names it uses up. -/
def qv (Y : Nat → Option Callee) (T : Tab) (k : Nat) (o : Oper) (ev : Operand → AV) (bx : List (Nat × Bx)) (used : Nat) : Option (AV × Nat) := match kindOf T o.op with
  | .fn f args => match Y f with
    | some c => match argsA c.dom (args.toList.map ev) with
      | some x => (c.fn k x).map fun y => (if c.many = true then .tup c.cod (c.conv y) c.nz else .v c.cod (c.conv y) (nzG c.nz 0), 0)
      | none => none
    | none => none
  | .dyn x args => (dynK Y k (ev x) (args.toList.map ev) some).map fun av => (av, 0)
  | .bs t len parts => match o.dst with
    | some d => (bsA T t len (parts.toList.map fun p => (p.1, ev p.2)) d used).map fun av => (av, 1 <<< d)
    | none => none
  | .plain => (gop T o.op o.type ev bx).val.map fun av => (av, 0)
  | _ => none
def St.put2 (s : St) (d : Option Nat) (p : AV × Nat) : St := { s with used := s.used ||| p.2 }.put d p.1
section
variable {T : Tab} {s s1 s2 : St} {Y : Nat → Option Callee} {k : Nat} {o : Oper}
theorem opK_quiet (hq : (kindOf T o.op).quiet = true) : opK Y T k o s some = (qv Y T k o s.ev s.boxes s.used).map fun p => s.put2 o.dst p := by
  unfold opK qv
  cases hk : kindOf T o.op with
  | fn f args =>
    simp only
    cases Y f with
    | none => rfl
    | some c =>
      simp only [callK]
      cases argsA c.dom (args.toList.map s.ev) with
      | none => rfl
      | some x =>
        simp only
        cases c.fn k x with
        | none => rfl
        | some y => simp [St.put2]
  | dyn x args =>
    simp only
    rw [dynK_bind]
    cases dynK Y k (s.ev x) (args.toList.map s.ev) some with
    | none => rfl
    | some av => simp [St.put2]
  | bs t len parts =>
    simp only [bsT]
    cases o.dst with
    | none => rfl
    | some d =>
      simp only
      cases bsA T t len (parts.toList.map fun p => (p.1, s.ev p.2)) d s.used with
      | none => rfl
      | some av => rfl
  | plain =>
    simp only
    cases hv : (gop T o.op o.type s.ev s.boxes).val with
    | none =>
      simp only [Option.map_none]
      cases hr : (gop T o.op o.type s.ev s.boxes).run (fun av => some (s.put o.dst av)) with
      | none => rfl
      | some z =>
        obtain ⟨a, h1, _⟩ := Tree.run_val hr
        rw [hv] at h1
        cases h1
    | some av =>
      rw [Tree.val_run hv]
      simp [St.put2]
  | _ => rw [hk] at hq; cases hq
theorem map_congr_ev {ev ev' : Operand → AV} {l : List Operand} (h : ∀ x ∈ l, ev x = ev' x) : l.map ev = l.map ev' := List.map_congr_left h
theorem gop_congr {op : Op} {ty : Nat} {ev ev' : Operand → AV} {bx : List (Nat × Bx)} (h : ∀ x ∈ op.operands, ev x = ev' x) : gop T op ty ev bx = gop T op ty ev' bx := by
  cases op <;> simp only [Op.operands] at h
  case call c =>
    simp only [gop]
    have ha : ∀ x ∈ c.args.toList, ev x = ev' x := fun x hx => h x (by simp [Call.operands]; exact .inr (by simpa using hx))
    split
    · rename_i x t e1 e2 e3
      rw [ha x (by rw [e2]; simp)]
    · rename_i x y e1 e2
      rw [ha x (by rw [e2]; simp), ha y (by rw [e2]; simp)]
    · rename_i x y e1 e2
      rw [ha x (by rw [e2]; simp), ha y (by rw [e2]; simp)]
    · rfl
  case build t ps =>
    have : (ps.toList.map fun p => (p.1, ev p.2)) = ps.toList.map fun p => (p.1, ev' p.2) := List.map_congr_left fun p hp => by
      rw [h p.2 (by simp; exact ⟨p.1, by simpa using hp⟩)]
    simp only [gop]
    rw [this]
  case slice xt x lo hi mx =>
    have h1 : ev x = ev' x := h x (by simp)
    cases lo <;> cases hi <;> cases mx
    · simp only [gop, h1, Option.map_none]
    · rfl
    · rename_i b
      have h2 : ev b = ev' b := h b (by simp)
      simp only [gop, h1, h2, Option.map_none, Option.map_some]
    · rename_i b c
      have h2 : ev b = ev' b := h b (by simp)
      have h3 : ev c = ev' c := h c (by simp)
      simp only [gop, h1, h2, h3]
    · rename_i b
      have h2 : ev b = ev' b := h b (by simp)
      simp only [gop, h1, h2, Option.map_none, Option.map_some]
    · rfl
    · rename_i b c
      have h2 : ev b = ev' b := h b (by simp)
      have h3 : ev c = ev' c := h c (by simp)
      simp only [gop, h1, h2, h3, Option.map_none, Option.map_some]
    · rfl
  all_goals (first | rfl | (simp only [gop]; done) | (simp only [gop]; simp_all; done) | (simp_all [gop]; done))
theorem bsA_used {t len d u1 u2 : Nat} {ps : List (Nat × AV)} (h : u1.testBit d = u2.testBit d) : bsA T t len ps d u1 = bsA T t len ps d u2 := by
  unfold bsA
  rw [h]
theorem qv_congr {ev ev' : Operand → AV} {bx : List (Nat × Bx)} {u u' : Nat} (h : ∀ x ∈ o.op.operands, ev x = ev' x) (hu : ∀ d, o.dst = some d → u.testBit d = u'.testBit d) : qv Y T k o ev bx u = qv Y T k o ev' bx u' := by
  unfold qv
  cases hk : kindOf T o.op with
  | fn f args =>
    obtain ⟨c', hop, hf, hc⟩ := kind_fn hk
    have : args.toList.map ev = args.toList.map ev' := by
      refine map_congr_ev fun x hx => h x ?_
      rw [hop]
      simp only [Op.operands, Call.operands]
      simp
      exact .inr (by rw [hc]; simpa using hx)
    simp only [this]
  | dyn x args =>
    obtain ⟨c', hop, hf, hc⟩ := kind_dyn hk
    have : args.toList.map ev = args.toList.map ev' := by
      refine map_congr_ev fun x hx => h x ?_
      rw [hop]
      simp only [Op.operands, Call.operands]
      simp
      exact .inr (by rw [hc]; simpa using hx)
    have h2 : ev x = ev' x := h x (by
      rw [hop]
      simp only [Op.operands, Call.operands, hf]
      simp)
    simp only [this, h2]
  | bs t len parts =>
    have hop := kind_bs hk
    have : (parts.toList.map fun p => (p.1, ev p.2)) = parts.toList.map fun p => (p.1, ev' p.2) := by
      refine List.map_congr_left fun p hp => ?_
      rw [h p.2 ?_]
      rw [hop]
      simp only [Op.operands]
      simp
      exact ⟨p.1, by simpa using hp⟩
    simp only [this]
    cases hd : o.dst with
    | none => rfl
    | some d => simp only [bsA_used (hu d hd)]
  | plain => simp only [gop_congr h]
  | _ => rfl
theorem qv_mask {ev : Operand → AV} {bx : List (Nat × Bx)} {u : Nat} {p : AV × Nat} (h : qv Y T k o ev bx u = some p) : p.2 = 0 ∨ ∃ d, o.dst = some d ∧ p.2 = 1 <<< d := by
  unfold qv at h
  split at h
  · split at h
    · split at h
      · obtain ⟨y, _, rfl⟩ := Option.map_eq_some_iff.1 h
        exact .inl rfl
      · cases h
    · cases h
  · obtain ⟨y, _, rfl⟩ := Option.map_eq_some_iff.1 h
    exact .inl rfl
  · split at h
    · rename_i d hd
      obtain ⟨y, _, rfl⟩ := Option.map_eq_some_iff.1 h
      exact .inr ⟨d, hd, rfl⟩
    · cases h
  · obtain ⟨y, _, rfl⟩ := Option.map_eq_some_iff.1 h
    exact .inl rfl
  · cases h
theorem ev_put2 {d : Option Nat} {p : AV × Nat} {x : Operand} (h : ∀ t, d = some t → x ≠ .tmp t) : (s.put2 d p).ev x = s.ev x := by
  cases d with
  | none => rfl
  | some d =>
    cases x with
    | tmp t =>
      have hne : d ≠ t := fun e => h d rfl (e ▸ rfl)
      simp [St.ev, St.put2, St.put, List.getElem?_set, hne]
    | _ => rfl
theorem boxes_put2 {d : Option Nat} {p : AV × Nat} : (s.put2 d p).boxes = s.boxes := by cases d <;> rfl
theorem used_put2 {d : Option Nat} {p : AV × Nat} : (s.put2 d p).used = s.used ||| p.2 := by cases d <;> rfl
theorem put2_comm {d e : Option Nat} {p q : AV × Nat} (h : ∀ t, d = some t → e ≠ some t) : (s.put2 d p).put2 e q = (s.put2 e q).put2 d p := by
  have hu : s.used ||| p.2 ||| q.2 = s.used ||| q.2 ||| p.2 := by rw [Nat.or_assoc, Nat.or_comm p.2, ← Nat.or_assoc]
  cases d with
  | none => cases e <;> simp [St.put2, St.put, hu]
  | some d =>
    cases e with
    | none => simp [St.put2, St.put, hu]
    | some e =>
      have hne : d ≠ e := fun q => h d rfl (by rw [q])
      simp only [St.put2, St.put, hu]
      rw [List.set_comm _ _ hne]
theorem bit_other {p : Nat} {d e : Nat} {u : Nat} (h : p = 0 ∨ ∃ t, e = t ∧ p = 1 <<< t) (hne : d ≠ e) : (u ||| p).testBit d = u.testBit d := by
  rw [Nat.testBit_or]
  rcases h with rfl | ⟨t, rfl, rfl⟩
  · simp
  · rw [Nat.one_shiftLeft, Nat.testBit_two_pow_of_ne (Ne.symm hne)]
    simp
end
def gslot (all : Array Oper) (o : Oper) : Option Nat := match o.guard with
  | some (g, _) => (all[g]?).bind (·.dst)
  | none => none
def St.kn (s : St) (w : Option (Nat × Bool)) : St := match w with
  | some (d, b) => s.know d b
  | none => s
/-- What a quiet step does: what it learns of its guard, what it yields, the names it uses up. -/
def eff (Y : Nat → Option Callee) (T : Tab) (k : Nat) (all : Array Oper) (o : Oper) (s : St) : Option (Option (Nat × Bool) × (AV × Nat)) := match o.guard with
  | none => (qv Y T k o s.ev s.boxes s.used).map fun p => (none, p)
  | some (g, want) => match (all[g]?).bind (·.dst) with
    | some d => match isUnd (s.slots.getD d .junk) with
      | true => some (none, (.und, 0))
      | false => match tr (s.slots.getD d .junk) with
        | some b => if (b == want) = true then (qv Y T k o (s.know d b).ev s.boxes s.used).map fun p => (some (d, b), p) else some (some (d, b), (.und, 0))
        | none => none
    | none => none
section
variable {T : Tab} {s s1 s2 : St} {Y : Nat → Option Callee} {k : Nat} {o : Oper} {all : Array Oper}
theorem step_eff (hq : (kindOf T o.op).quiet = true) : stepK Y T k all o s some = (eff Y T k all o s).map fun q => (s.kn q.1).put2 o.dst q.2 := by
  unfold stepK eff
  cases hg : o.guard with
  | none =>
    simp only
    rw [opK_quiet hq]
    cases qv Y T k o s.ev s.boxes s.used <;> rfl
  | some gw =>
    obtain ⟨g, want⟩ := gw
    simp only
    cases hd : (all[g]?).bind (·.dst) with
    | none => rfl
    | some d =>
      simp only
      cases hu : isUnd (s.slots.getD d .junk) with
      | true => simp [St.put2, St.kn]
      | false =>
        simp only
        rw [guard_val]
        cases ht : tr (s.slots.getD d .junk) with
        | none => rfl
        | some b =>
          simp only
          cases c : (b == want) with
          | true =>
            rw [if_pos rfl]
            simp only
            rw [opK_quiet hq]
            show (qv Y T k o (s.know d b).ev s.boxes s.used).map _ = _
            cases qv Y T k o (s.know d b).ev s.boxes s.used <;> rfl
          | false =>
            rw [if_neg (by decide)]
            simp [St.put2, St.kn]
/-- What a step learns stands in the state. -/
theorem eff_learns {c : Nat} {b : Bool} {p : AV × Nat} (h : eff Y T k all o s = some (some (c, b), p)) : gslot all o = some c ∧ tr (s.slots.getD c .junk) = some b := by
  unfold eff at h
  unfold gslot
  cases hg : o.guard with
  | none =>
    rw [hg] at h
    obtain ⟨y, _, e⟩ := Option.map_eq_some_iff.1 h
    cases e
  | some gw =>
    obtain ⟨g, want⟩ := gw
    rw [hg] at h
    simp only at h ⊢
    cases hd : (all[g]?).bind (·.dst) with
    | none => rw [hd] at h; cases h
    | some d =>
      rw [hd] at h
      simp only at h
      cases hu : isUnd (s.slots.getD d .junk) with
      | true => rw [hu] at h; cases h
      | false =>
        rw [hu] at h
        simp only at h
        cases ht : tr (s.slots.getD d .junk) with
        | none => rw [ht] at h; cases h
        | some b1 =>
          rw [ht] at h
          simp only at h
          split at h
          · obtain ⟨y, _, e⟩ := Option.map_eq_some_iff.1 h
            cases e
            exact ⟨rfl, ht⟩
          · cases h
            exact ⟨rfl, ht⟩
theorem eff_mask {w : Option (Nat × Bool)} {p : AV × Nat} (h : eff Y T k all o s = some (w, p)) : p.2 = 0 ∨ ∃ d, o.dst = some d ∧ p.2 = 1 <<< d := by
  unfold eff at h
  split at h
  · obtain ⟨y, h1, e⟩ := Option.map_eq_some_iff.1 h
    cases e
    exact qv_mask h1
  · split at h
    · split at h
      · cases h
        exact .inl rfl
      · split at h
        · split at h
          · obtain ⟨y, h1, e⟩ := Option.map_eq_some_iff.1 h
            cases e
            exact qv_mask h1
          · cases h
            exact .inl rfl
        · cases h
    · cases h
theorem getD_set {S : List AV} {i j : Nat} {x : AV} (h : i ≠ j) : (S.set i x).getD j .junk = S.getD j .junk := by
  rw [List.getD_eq_getElem?_getD, List.getD_eq_getElem?_getD, List.getElem?_set, if_neg h]
theorem kn_slots {w : Option (Nat × Bool)} {j : Nat} (h : ∀ c b, w = some (c, b) → c ≠ j) : (s.kn w).slots.getD j .junk = s.slots.getD j .junk := by
  cases w with
  | none => rfl
  | some p =>
    obtain ⟨c, b⟩ := p
    exact getD_set (h c b rfl)
theorem put2_slots {e : Option Nat} {p : AV × Nat} {j : Nat} (h : e ≠ some j) : (s.put2 e p).slots.getD j .junk = s.slots.getD j .junk := by
  cases e with
  | none => rfl
  | some e => exact getD_set (fun q => h (by rw [q]))
theorem tr_lt {c : Nat} {b : Bool} (h : tr (s.slots.getD c .junk) = some b) : c < s.slots.length := by
  rcases Nat.lt_or_ge c s.slots.length with q | q
  · exact q
  · rw [List.getD_eq_getElem?_getD, List.getElem?_eq_none q] at h
    cases h
theorem know_at {c : Nat} {b : Bool} (h : c < s.slots.length) : (s.know c b).slots.getD c .junk = .lit b := by
  show (s.slots.set c (.lit b)).getD c .junk = _
  rw [List.getD_eq_getElem?_getD, List.getElem?_set, if_pos rfl, if_pos h]
  rfl
/-- A step stays what it was behind another one that has nothing to do with it. -/
theorem eff_stays {w : Option (Nat × Bool)} {e : Option Nat} {p : AV × Nat} (hw : ∀ c b, w = some (c, b) → tr (s.slots.getD c .junk) = some b ∧ (Operand.tmp c ∉ o.op.operands ∨ gslot all o = some c))
    (he : ∀ d, e = some d → Operand.tmp d ∉ o.op.operands ∧ gslot all o ≠ some d ∧ o.dst ≠ some d) (hp : p.2 = 0 ∨ ∃ d, e = some d ∧ p.2 = 1 <<< d) :
    eff Y T k all o ((s.kn w).put2 e p) = eff Y T k all o s := by
  have hlen : ((s.kn w).put2 e p).slots.length = s.slots.length := by
    cases w with
    | none => cases e <;> simp [St.kn, St.put2, St.put]
    | some q => obtain ⟨c, b⟩ := q; cases e <;> simp [St.kn, St.know, St.put2, St.put]
  have hbox : ((s.kn w).put2 e p).boxes = s.boxes := by rw [boxes_put2]; cases w <;> rfl
  have husd : ∀ d, o.dst = some d → ((s.kn w).put2 e p).used.testBit d = s.used.testBit d := fun d hd => by
    rw [used_put2, show (s.kn w).used = s.used from by cases w <;> rfl]
    rcases hp with q | ⟨d1, h1, q⟩
    · rw [q, Nat.or_zero]
    · exact bit_other (.inr ⟨d1, rfl, q⟩) (fun z => (he d1 h1).2.2 (by rw [hd, z]))
  have hslot : ∀ j, e ≠ some j → (∀ c b, w = some (c, b) → c ≠ j) → ((s.kn w).put2 e p).slots.getD j .junk = s.slots.getD j .junk := fun j h1 h2 => by rw [put2_slots h1, kn_slots h2]
  unfold eff
  cases hg : o.guard with
  | none =>
    have hgs : gslot all o = none := by unfold gslot; rw [hg]
    simp only
    rw [hbox]
    rw [qv_congr (ev' := s.ev) (u' := s.used) (fun x hx => ?_) husd]
    cases x with
    | tmp t =>
      refine hslot t (fun q => (he t q).1 hx) (fun c b hc q => ?_)
      subst q
      rcases (hw c b hc).2 with z | z
      · exact z hx
      · rw [hgs] at z; cases z
    | _ => rfl
  | some gw =>
    obtain ⟨g, want⟩ := gw
    have hgs : gslot all o = (all[g]?).bind (·.dst) := by unfold gslot; rw [hg]
    simp only
    cases hd : (all[g]?).bind (·.dst) with
    | none => rfl
    | some d =>
      rw [hd] at hgs
      simp only
      have hed : e ≠ some d := fun q => (he d q).2.1 hgs
      have hev : ∀ b, ∀ x ∈ o.op.operands, (((s.kn w).put2 e p).know d b).ev x = (s.know d b).ev x := fun b x hx => by
        cases x with
        | tmp t =>
          show (((s.kn w).put2 e p).slots.set d (.lit b)).getD t .junk = (s.slots.set d (.lit b)).getD t .junk
          by_cases z : d = t
          · subst z
            rw [List.getD_eq_getElem?_getD, List.getD_eq_getElem?_getD, List.getElem?_set, List.getElem?_set, if_pos rfl, if_pos rfl, hlen]
          · rw [getD_set z, getD_set z]
            refine hslot t (fun q => (he t q).1 hx) (fun c b hc q => ?_)
            subst q
            rcases (hw c b hc).2 with y | y
            · exact y hx
            · rw [hgs] at y
              cases y
              exact z rfl
        | _ => rfl
      by_cases hcd : ∃ b, w = some (d, b)
      · obtain ⟨b, rfl⟩ := hcd
        obtain ⟨htr, _⟩ := hw d b rfl
        have hsl : ((s.kn (some (d, b))).put2 e p).slots.getD d .junk = .lit b := by
          rw [put2_slots hed]
          exact know_at (tr_lt htr)
        have hund : isUnd (s.slots.getD d .junk) = false := by
          cases q : isUnd (s.slots.getD d .junk) with
          | false => rfl
          | true =>
            unfold isUnd at q
            split at q
            · rename_i z
              rw [z] at htr
              cases htr
            · cases q
        rw [hsl, hund, htr]
        simp only [isUnd, tr]
        split
        · rw [hbox, qv_congr (hev b) husd]
        · rfl
      · have hsl := hslot d hed (fun c b hc q => hcd ⟨b, by rw [hc, q]⟩)
        rw [hsl]
        cases isUnd (s.slots.getD d .junk) with
        | true => rfl
        | false =>
          simp only
          cases tr (s.slots.getD d .junk) with
          | none => rfl
          | some b =>
            simp only
            split
            · rw [hbox, qv_congr (hev b) husd]
            · rfl
theorem kn_put2 {w : Option (Nat × Bool)} {e : Option Nat} {p : AV × Nat} (h : ∀ c b, w = some (c, b) → e ≠ some c) : (s.put2 e p).kn w = (s.kn w).put2 e p := by
  cases w with
  | none => rfl
  | some q =>
    obtain ⟨c, b⟩ := q
    cases e with
    | none => rfl
    | some e =>
      have hne : e ≠ c := fun z => h c b rfl (by rw [z])
      simp only [St.kn, St.know, St.put2, St.put]
      rw [List.set_comm _ _ hne]
theorem kn_kn {w v : Option (Nat × Bool)} (h : ∀ c b b1, w = some (c, b) → v = some (c, b1) → b = b1) : (s.kn w).kn v = (s.kn v).kn w := by
  cases w with
  | none => rfl
  | some q =>
    obtain ⟨c, b⟩ := q
    cases v with
    | none => rfl
    | some q1 =>
      obtain ⟨d, b1⟩ := q1
      by_cases z : c = d
      · subst z
        rw [h c b b1 rfl rfl]
      · simp only [St.kn, St.know]
        rw [List.set_comm _ _ z]
def Op.names (op : Op) (d : Nat) : Bool := op.operands.toList.any fun x => match x with
  | .tmp t => t == d
  | _ => false
theorem names_false {op : Op} {d : Nat} (h : Op.names op d = false) : Operand.tmp d ∉ op.operands := fun hm => by
  have : Op.names op d = true := List.any_eq_true.2 ⟨.tmp d, by simpa using hm, by simp⟩
  rw [this] at h
  cases h
/-- One step's guard is nothing that the other names, or is the other's guard, too. -/
def gOk (all : Array Oper) (oi oj : Oper) : Bool := match gslot all oi with
  | some d => !Op.names oj.op d || gslot all oj == some d
  | none => true
theorem gOk_spec {oi oj : Oper} (h : gOk all oi oj = true) {c : Nat} (hc : gslot all oi = some c) : Operand.tmp c ∉ oj.op.operands ∨ gslot all oj = some c := by
  unfold gOk at h
  rw [hc] at h
  simp only [Bool.or_eq_true, Bool.not_eq_true', beq_iff_eq] at h
  rcases h with q | q
  · exact .inl (names_false q)
  · exact .inr q
/-- Two quiet steps that have nothing to do with each other change places. -/
theorem swap {oi oj : Oper} (hi : (kindOf T oi.op).quiet = true) (hj : (kindOf T oj.op).quiet = true) (hap : oi.apart all oj = true) (g1 : gOk all oi oj = true) (g2 : gOk all oj oi = true) (h1 : stepK Y T k all oj s some = some s1) (h2 : stepK Y T k all oi s1 some = some s2) :
    ∃ t, stepK Y T k all oi s some = some t ∧ stepK Y T k all oj t some = some s2 := by
  obtain ⟨a1, a2, a3⟩ := Oper.apart_spec hap
  rw [step_eff hj] at h1
  obtain ⟨⟨wj, pj⟩, q1, rfl⟩ := Option.map_eq_some_iff.1 h1
  rw [step_eff hi] at h2
  obtain ⟨⟨wi, pi⟩, q2, rfl⟩ := Option.map_eq_some_iff.1 h2
  have look : ∀ {o : Oper} {t : Nat}, t ∉ o.looksAt all → Operand.tmp t ∉ o.op.operands ∧ gslot all o ≠ some t := fun {o t} ht => by
    refine ⟨fun hx => ht (List.mem_append_left _ (List.mem_filterMap.2 ⟨.tmp t, by simpa using hx, rfl⟩)), fun hx => ht (List.mem_append_right _ ?_)⟩
    unfold gslot at hx
    split at hx
    · rename_i g w hg
      rw [hg]
      simp only [hx]
      simp
    · cases hx
  have lj : ∀ c b, wj = some (c, b) → gslot all oj = some c ∧ tr (s.slots.getD c .junk) = some b := fun c b hc => by subst hc; exact eff_learns q1
  have e1 : eff Y T k all oi ((s.kn wj).put2 oj.dst pj) = eff Y T k all oi s := by
    refine eff_stays (fun c b hc => ⟨(lj c b hc).2, gOk_spec g2 (lj c b hc).1⟩) (fun d hd => ?_) (eff_mask q1)
    obtain ⟨z1, z2⟩ := look (a3 d hd)
    exact ⟨z1, z2, fun hdi => a2 d hdi hd⟩
  simp only at q2 e1
  rw [e1] at q2
  have li : ∀ c b, wi = some (c, b) → gslot all oi = some c ∧ tr (s.slots.getD c .junk) = some b := fun c b hc => by subst hc; exact eff_learns q2
  refine ⟨(s.kn wi).put2 oi.dst pi, by rw [step_eff hi, q2]; rfl, ?_⟩
  have e2 : eff Y T k all oj ((s.kn wi).put2 oi.dst pi) = eff Y T k all oj s := by
    refine eff_stays (fun c b hc => ⟨(li c b hc).2, gOk_spec g1 (li c b hc).1⟩) (fun d hd => ?_) (eff_mask q2)
    obtain ⟨z1, z2⟩ := look (a1 d hd)
    exact ⟨z1, z2, a2 d hd⟩
  rw [step_eff hj, e2, q1]
  simp only [Option.map_some]
  have c1 : ∀ c b, wi = some (c, b) → oj.dst ≠ some c := fun c b hc hd => (look (a3 c hd)).2 (li c b hc).1
  have c2 : ∀ c b, wj = some (c, b) → oi.dst ≠ some c := fun c b hc hd => (look (a1 c hd)).2 (lj c b hc).1
  rw [kn_put2 c1, kn_put2 c2, put2_comm a2]
  rw [kn_kn (w := wj) (v := wi) (fun c b b1 h3 h4 => by
    have := (lj c b h3).2.symm.trans (li c b1 h4).2
    exact Option.some.inj this)]
end
end Go.Sym
end
section
namespace Go.Sym
open Go.RowKit
set_option linter.unusedVariables false
set_option linter.unusedSimpArgs false

def appOf (T : Tab) (o : Oper) : Option Call := match kindOf T o.op with
  | .app c => some c
  | _ => none
/-- Operations that an append leaves alone, but for the names of rows. -/
def easy (o : Oper) : Bool := match o.op with
  | .move _ => true
  | .assign _ => true
  | .fieldAddr _ _ _ => true
  | .load _ _ => true
  | .buildSlice _ _ _ => true
  | _ => false
section
variable {R : Type} {P : Program} {T : Tab} {s s1 s2 : St} {Y : Nat → Option Callee} {k : Nat} {o : Oper} {all : Array Oper}
theorem quiet_step (hq : (kindOf T o.op).quiet = true) (hg : o.guard = none) : stepK Y T k all o s some = (qv Y T k o s.ev s.boxes s.used).map fun p => s.put2 o.dst p := by
  unfold stepK
  rw [hg]
  exact opK_quiet hq
theorem mem_looks {o : Oper} {t : Nat} (h : Operand.tmp t ∈ o.op.operands) : t ∈ o.looksAt all := by
  exact List.mem_append_left _ (List.mem_filterMap.2 ⟨.tmp t, by simpa using h, rfl⟩)
theorem Tree.bind_run {α β : Type} {K : α → Tree β} {G : β → Option R} : ∀ {t : Tree α}, (t.bind K).run G = t.run fun a => (K a).run G
  | .ret a => rfl
  | .ite p d A B => by
    unfold Tree.bind Tree.run
    rw [Tree.bind_run, Tree.bind_run]
  | .fail => rfl
theorem app_step {c : Call} (ha : appOf T o = some c) (hg : o.guard = none) : stepK Y T k all o s some = (appT T c o.dst s).run some := by
  unfold stepK
  rw [hg]
  simp only
  unfold opK
  unfold appOf at ha
  split at ha
  · rename_i c1 e
    cases ha
    rw [e]
  · cases ha
theorem app_kind {c : Call} (ha : appOf T o = some c) : o.op = .call c ∧ (kindOf T o.op).quiet = false := by
  unfold appOf at ha
  split at ha
  · rename_i c1 hk
    cases ha
    refine ⟨?_, by rw [hk]; rfl⟩
    unfold kindOf at hk
    split at hk <;> try (first | (cases hk; done) | (split at hk <;> first | (cases hk; done) | (split at hk <;> cases hk; done)); done)
    rename_i c' hop
    split at hk <;> try (first | (cases hk; done) | (split at hk <;> cases hk; done))
    cases hk
    exact hop
  · cases ha
theorem app_form {c : Call} {dst : Option Nat} (h : (appT T c dst s).run some = some s1) : ∃ x y t d av n, c.args.toList = [x, y] ∧ c.argTypes.toList = [t, t] ∧ dst = some d ∧ (appendT T t d (s.ev x) (s.ev y) s.used).val = some (av, n) ∧ s1 = ((s.drop (n + 1)).use d).put (some d) av := by
  unfold appT at h
  split at h
  · rename_i x y t t2 d e1 e2
    split at h
    · rename_i e
      subst e
      obtain ⟨s', h1, h2⟩ := Tree.run_val h
      cases h2
      obtain ⟨⟨av, n⟩, h3, h4⟩ := Tree.val_bind h1
      cases h4
      exact ⟨x, y, t, d, av, n, e1, e2, rfl, h3, rfl⟩
    · cases h
  · cases h
theorem app_of {c : Call} {x y : Operand} {t d n : Nat} {av : AV} (e1 : c.args.toList = [x, y]) (e2 : c.argTypes.toList = [t, t]) (h : (appendT T t d (s.ev x) (s.ev y) s.used).val = some (av, n)) : (appT T c (some d) s).run some = some (((s.drop (n + 1)).use d).put (some d) av) := by
  unfold appT
  rw [e1, e2]
  simp only [if_true]
  rw [Tree.bind_run, Tree.val_run h]
  rfl
theorem append_used {t d n u u2 : Nat} {X Z av : AV} (h : (appendT T t d X Z u).val = some (av, n)) (hm : ∀ i, u.testBit i = true → u2.testBit i = true) (hd : u2.testBit d = false) : (n = d ∨ u.testBit n = true) ∧ u.testBit d = false ∧ (appendT T t d X Z u2).val = some (av, n) := by
  unfold appendT at h ⊢
  split at h
  · rename_i e0 hdd
    split at h
    · rename_i c
      rw [if_pos ⟨hd, c.2⟩]
      split at h
      · rename_i l m l2 g hx hy
        split at h
        · rename_i hq
          refine ⟨?_, c.1, ?_⟩
          · obtain ⟨_, h2⟩ := val_tst h
            have h2 := val_ret h2
            cases h2
            rcases hq with q | q
            · exact .inl (if_pos q)
            · by_cases z : m = 0
              · exact .inl (if_pos z)
              · exact .inr (by rw [if_neg z]; exact q)
          · rw [if_pos (hq.imp id (hm _))]
            exact h
        · exact (val_fail h).elim
      · exact (val_fail h).elim
    · exact (val_fail h).elim
  · exact (val_fail h).elim
theorem drop_ev {m : Nat} (x : Operand) : (s.drop m).ev x = dropAV m (s.ev x) := by
  cases x with
  | tmp t =>
    show (s.slots.map (dropAV m)).getD t .junk = dropAV m (s.slots.getD t .junk)
    rw [List.getD_eq_getElem?_getD, List.getD_eq_getElem?_getD, List.getElem?_map]
    cases s.slots[t]? <;> rfl
  | const v =>
    show constA v = dropAV m (constA v)
    unfold constA
    split <;> rfl
  | func f => rfl
  | _ => rfl
theorem drop_lookup {m b : Nat} : ∀ {bx : List (Nat × Bx)}, (bx.map fun p => (p.1, dropBx m p.2)).lookup b = (bx.lookup b).map (dropBx m)
  | [] => rfl
  | (c, X) :: r => by
    rw [List.map_cons]
    simp only [List.lookup_cons]
    cases b == c with
    | true => rfl
    | false => exact drop_lookup
theorem drop_rowOf {m b : Nat} {e : Ty} {bx : List (Nat × Bx)} : rowOf (bx.map fun p => (p.1, dropBx m p.2)) b e = rowOf bx b e := by
  unfold rowOf
  rw [drop_lookup]
  cases bx.lookup b with
  | none => rfl
  | some X => cases X <;> rfl
theorem drop_subG {m off n : Nat} : ∀ {g : List TE}, subG (g.filter fun te => te.tag != m) off n = (subG g off n).filter fun te => te.tag != m
  | [] => rfl
  | te :: g => by
    have ih := drop_subG (m := m) (off := off) (n := n) (g := g)
    unfold subG at ih ⊢
    by_cases c : (te.tag != m) = true
    · by_cases c2 : off ≤ te.off ∧ te.off < off + n
      · simp only [List.filter_cons, if_pos c, List.filterMap_cons, if_pos c2, ih]
      · simp only [List.filter_cons, if_pos c, List.filterMap_cons, if_neg c2, ih]
    · by_cases c2 : off ≤ te.off ∧ te.off < off + n
      · simp only [List.filter_cons, if_neg c, List.filterMap_cons, if_pos c2, ih, Bool.not_eq_true] at c ⊢
      · simp only [List.filter_cons, if_neg c, List.filterMap_cons, if_neg c2, ih]
theorem drop_as {m : Nat} {t : Ty} {av : AV} : (dropAV m av).as t = (av.as t).map fun p => (p.1, p.2.filter fun te => te.tag != m) := by
  cases av with
  | v u x g =>
    show (castEl u t x).map _ = ((castEl u t x).map _).map _
    cases castEl u t x <;> rfl
  | pr p d neg =>
    show (castEl .bool t _).map _ = ((castEl .bool t _).map _).map _
    cases castEl .bool t (xor neg (@decide p d)) <;> rfl
  | lit b =>
    show (castEl .bool t b).map _ = ((castEl .bool t b).map _).map _
    cases castEl .bool t b <;> rfl
  | nilS => cases t <;> rfl
  | nilP => cases t <;> rfl
  | elt e l i off =>
    cases t with
    | ref u =>
      show (if off = 0 then (castEl (.sl e) (.sl u) l).map _ else none) = (if off = 0 then (castEl (.sl e) (.sl u) l).map _ else none).map _
      split
      · cases castEl (.sl e) (.sl u) l <;> rfl
      · rfl
    | _ => rfl
  | _ => rfl
theorem drop_rowA {m : Nat} {e : Ty} : ∀ {ps : List (Nat × AV)} {l : List (El e)}, rowA e (ps.map fun p => (p.1, dropAV m p.2)) l = rowA e ps l
  | [], l => rfl
  | (j, av) :: r, l => by
    rw [List.map_cons]
    unfold rowA
    rw [drop_as]
    split
    · cases av.as e with
      | none => rfl
      | some p => exact drop_rowA
    · rfl
theorem drop_fix {m ty : Nat} (hm : m ≠ 0) (av : AV) : fixA T ty (dropAV m av) = dropAV m (fixA T ty av) := by
  cases av with
  | nilS =>
    show fixA T ty .nilS = dropAV m (fixA T ty .nilS)
    unfold fixA
    simp only
    split
    · unfold dropAV
      simp only [List.filter_cons, List.filter_nil]
      rw [if_pos (by simp; exact fun q => hm q.symm)]
    · rfl
  | _ => rfl
theorem val_optT {α : Type} (x : Option α) : (optT x).val = x := by cases x <;> rfl
theorem easy_drop {m u : Nat} (he : easy o = true) (hm : m ≠ 0) (hb : ∀ d, o.dst = some d → m ≠ d + 1 ∨ u.testBit d = true) :
    qv Y T k o (s.drop m).ev (s.drop m).boxes u = (qv Y T k o s.ev s.boxes u).map fun p => (dropAV m p.1, p.2) := by
  have hev : (s.drop m).ev = fun x => dropAV m (s.ev x) := funext drop_ev
  rw [hev]
  show qv Y T k o _ (s.boxes.map fun p => (p.1, dropBx m p.2)) u = _
  unfold easy at he
  split at he
  · rename_i x e
    unfold qv
    rw [show kindOf T o.op = .plain from by rw [e]; rfl]
    simp only [e, gop, drop_fix hm]
    rfl
  · rename_i x e
    unfold qv
    rw [show kindOf T o.op = .plain from by rw [e]; rfl]
    simp only [e, gop, drop_fix hm]
    rfl
  · rename_i st x f e
    unfold qv
    rw [show kindOf T o.op = .plain from by rw [e]; rfl]
    simp only [e, gop]
    cases T.fld st f with
    | none => rfl
    | some p =>
      obtain ⟨fty, off⟩ := p
      simp only
      split
      · rfl
      · cases s.ev x with
        | v t y g => cases t <;> rfl
        | _ => rfl
  · rename_i t x e
    unfold qv
    rw [show kindOf T o.op = .plain from by rw [e]; rfl]
    simp only [e, gop]
    split
    · rfl
    · cases s.ev x with
      | ptr b off =>
        show ((loadA T t (s.boxes.map fun p => (p.1, dropBx m p.2)) (.ptr b off)).val.map _) = ((loadA T t s.boxes (.ptr b off)).val.map _).map _
        simp only [loadA, drop_lookup]
        cases s.boxes.lookup b with
        | none => rfl
        | some X =>
          cases X with
          | row a1 a2 a3 a4 => rfl
          | var v y g =>
            simp only [Option.map_some, dropBx, val_optT, drop_subG]
            cases subEl v y off (T.ty t) <;> rfl
      | mel e1 b i off =>
        show ((loadA T t (s.boxes.map fun p => (p.1, dropBx m p.2)) (.mel e1 b i off)).val.map _) = ((loadA T t s.boxes (.mel e1 b i off)).val.map _).map _
        simp only [loadA, drop_rowOf]
        cases rowOf s.boxes b e1 with
        | none => rfl
        | some l =>
          simp only [val_optT]
          cases subEl e1 (l.getD i (dflt e1)) off (T.ty t) <;> rfl
      | elt e1 l i off =>
        show ((loadA T t (s.boxes.map fun p => (p.1, dropBx m p.2)) (.elt e1 l i off)).val.map _) = ((loadA T t s.boxes (.elt e1 l i off)).val.map _).map _
        simp only [loadA, val_optT]
        cases subEl e1 (l.getD i (dflt e1)) off (T.ty t) <;> rfl
      | v v1 y g =>
        cases v1 with
        | ref w1 =>
          show ((loadA T t (s.boxes.map fun p => (p.1, dropBx m p.2)) (.v (.ref w1) y (g.filter fun te => te.tag != m))).val.map _) = ((loadA T t s.boxes (.v (.ref w1) y g)).val.map _).map _
          simp only [loadA, val_optT]
          cases subEl w1 y 0 (T.ty t) <;> rfl
        | _ => rfl
      | _ => rfl
  · rename_i t len parts e
    unfold qv
    rw [show kindOf T o.op = .bs t len parts from by rw [e]; rfl]
    simp only
    cases hd : o.dst with
    | none => rfl
    | some d =>
      simp only
      unfold bsA
      split
      · rename_i e0 he0
        split
        · rename_i c
          have hne : m ≠ d + 1 := by
            rcases hb d hd with q | q
            · exact q
            · rw [c.2] at q; cases q
          have := drop_rowA (m := m) (e := T.ty e0) (ps := parts.toList.map fun p => (p.1, s.ev p.2)) (l := List.replicate len (dflt (T.ty e0)))
          rw [List.map_map] at this
          rw [show (parts.toList.map fun p => (p.1, dropAV m (s.ev p.2))) = parts.toList.map ((fun p => (p.1, dropAV m p.2)) ∘ fun p => (p.1, s.ev p.2)) from rfl, this]
          cases rowA (T.ty e0) (parts.toList.map fun p => (p.1, s.ev p.2)) (List.replicate len (dflt (T.ty e0))) with
          | none => rfl
          | some l =>
            simp only [Option.map_some, dropAV, List.filter_cons, List.filter_nil]
            rw [if_pos (by simp; exact fun q => hne q.symm)]
        · rfl
      · rfl
  · cases he
/-- An append and an operation that it leaves alone change places. -/
theorem swapA {oi oj : Oper} {c : Call} (hc : appOf T oj = some c) (hq : (kindOf T oi.op).quiet = true) (he : easy oi = true) (gi : oi.guard = none) (gj : oj.guard = none)
    (a1 : ∀ d, oi.dst = some d → d ∉ oj.looksAt all) (a2 : ∀ d, oi.dst = some d → oj.dst ≠ some d) (a3 : ∀ d, oj.dst = some d → d ∉ oi.looksAt all)
    (h1 : stepK Y T k all oj s some = some s1) (h2 : stepK Y T k all oi s1 some = some s2) : ∃ t, stepK Y T k all oi s some = some t ∧ stepK Y T k all oj t some = some s2 := by
  rw [app_step hc gj] at h1
  obtain ⟨x, y, t, d, av, n, e1, e2, e3, e4, rfl⟩ := app_form h1
  rw [quiet_step hq gi] at h2
  obtain ⟨p, hp, rfl⟩ := Option.map_eq_some_iff.1 h2
  have hop := (app_kind hc).1
  have hxy : ∀ z ∈ [x, y], z ∈ oj.op.operands := fun z hz => by
    rw [hop]
    simp only [Op.operands, Call.operands]
    simp
    refine .inr ?_
    have : z ∈ c.args.toList := by rw [e1]; exact hz
    simpa using this
  have hu0 := append_used (u2 := s.used) e4 (fun i h => h)
  have hdn : s.used.testBit d = false := by
    cases q : s.used.testBit d with
    | false => rfl
    | true =>
      exfalso
      unfold appendT Tree.val at e4
      split at e4
      · rw [if_neg (by rw [q]; simp)] at e4
        cases e4
      · cases e4
  obtain ⟨hn, _, _⟩ := hu0 hdn
  have hp2 : qv Y T k oi (s.drop (n + 1)).ev (s.drop (n + 1)).boxes s.used = some p := by
    rw [← hp]
    refine qv_congr (fun z hz => ?_) (fun e hde => ?_)
    · cases z with
      | tmp q =>
        show (s.drop (n + 1)).slots.getD q .junk = (((s.drop (n + 1)).slots).set d av).getD q .junk
        rw [getD_set (fun c => a3 d e3 (by rw [c]; exact mem_looks hz))]
      | _ => rfl
    · show s.used.testBit e = (s.used ||| 1 <<< d).testBit e
      rw [bit_other (.inr ⟨d, rfl, rfl⟩) (fun c => a2 e hde (by rw [e3, c]))]
  rw [easy_drop he (Nat.succ_ne_zero n) (fun e hde => ?_)] at hp2
  · obtain ⟨p0, hp0, rfl⟩ := Option.map_eq_some_iff.1 hp2
    refine ⟨s.put2 oi.dst p0, by rw [quiet_step hq gi, hp0]; rfl, ?_⟩
    have hmask := qv_mask hp0
    have hev : ∀ z ∈ [x, y], (s.put2 oi.dst p0).ev z = s.ev z := fun z hz => ev_put2 fun t ht c => a1 t ht (by
      have := hxy z hz
      rw [c] at this
      exact mem_looks this)
    have hd2 : (s.put2 oi.dst p0).used.testBit d = false := by
      rw [used_put2]
      rcases hmask with q | ⟨e, q1, q2⟩
      · rw [q, Nat.or_zero]; exact hdn
      · rw [bit_other (.inr ⟨e, rfl, q2⟩) (fun c => a2 e q1 (by rw [e3, c]))]; exact hdn
    obtain ⟨_, _, e5⟩ := append_used (u2 := (s.put2 oi.dst p0).used) e4 (fun i h => by rw [used_put2, Nat.testBit_or, h, Bool.true_or]) hd2
    rw [app_step hc gj, e3, app_of (x := x) (y := y) e1 e2 (by rw [hev x (by simp), hev y (by simp)]; exact e5)]
    congr 1
    have hus : ∀ {u a b : Nat}, u ||| a ||| b = u ||| b ||| a := fun {u a b} => by rw [Nat.or_assoc, Nat.or_comm a, ← Nat.or_assoc]
    cases hdi : oi.dst with
    | none => simp only [St.put2, St.drop, St.use, St.put]; rw [hus]
    | some e =>
      have hne : e ≠ d := fun c => a2 e hdi (by rw [e3, c])
      simp only [St.put2, St.drop, St.use, St.put, List.map_set]
      rw [hus, List.set_comm _ _ hne]
  · rcases hn with q | q
    · refine .inl fun c => a2 e hde ?_
      rw [e3]
      congr 1
      omega
    · by_cases z : n = e
      · exact .inr (z ▸ q)
      · exact .inl fun c => z (by omega)
end
end Go.Sym
end
section
namespace Go.Sym
open Go.RowKit
set_option linter.unusedVariables false
set_option linter.unusedSimpArgs false

def maskOf (acc : List Nat) (l : List Edge) : Nat := l.foldl (fun s e => if Region.binds .any e = true then s ||| (1 <<< e.on) ||| acc.getD e.on 0 else s) 0
/-- Which operations come before each one, whatever the order. -/
def masks : List Oper → List Nat → List Nat
  | [], acc => acc
  | o :: r, acc => masks r (acc ++ [maskOf acc o.after.toList])
def pairOk (T : Tab) (all : Array Oper) (m : Nat) (oi : Oper) (j : Nat) : Bool := m.testBit j || (match all[j]? with
  | some oj => ((kindOf T oi.op).quiet && (kindOf T oj.op).quiet && oi.apart all oj && gOk all oi oj && gOk all oj oi) || ((kindOf T oi.op).quiet && easy oi && (appOf T oj).isSome && oi.guard.isNone && oj.guard.isNone && oi.apart all oj)
  | none => false)
def drawOk (T : Tab) (all : Array Oper) : Bool := (List.range all.size).all fun i => match all[i]? with
  | some o => (o.after.toList.all fun e => !Region.binds .any e || decide (e.on < i)) && (List.range i).all (pairOk T all ((masks all.toList []).getD i 0) o)
  | none => false
def seqI (Y : Nat → Option Callee) (T : Tab) (k : Nat) (all : Array Oper) : List Nat → St → Option St
  | [], s => some s
  | i :: r, s => match all[i]? with
    | some o => (stepK Y T k all o s some).bind (seqI Y T k all r)
    | none => none
section
variable {R : Type} {P : Program} {T : Tab} {M : Nat → Prop} {w0 w : World} {F0 F : Nat → Nat} {s s1 sF : St} {a : Act} {Y : Nat → Option Callee} {k : Nat} {o : Oper} {r : R} {all : Array Oper}
theorem mask_bit {acc : List Nat} {j : Nat} : ∀ {l : List Edge} {s0 : Nat}, (l.foldl (fun s e => if Region.binds .any e = true then s ||| (1 <<< e.on) ||| acc.getD e.on 0 else s) s0).testBit j = true →
    s0.testBit j = true ∨ ∃ e ∈ l, Region.binds .any e = true ∧ (e.on = j ∨ (acc.getD e.on 0).testBit j = true)
  | [], s0, h => .inl h
  | e :: r, s0, h => by
    rw [List.foldl_cons] at h
    rcases mask_bit h with q | ⟨e1, h1, h2⟩
    · split at q
      · rename_i hb
        rw [Nat.testBit_or, Nat.testBit_or, Bool.or_eq_true, Bool.or_eq_true] at q
        rcases q with (q | q) | q
        · exact .inl q
        · rw [Nat.one_shiftLeft, Nat.testBit_two_pow] at q
          exact .inr ⟨e, List.mem_cons_self, hb, .inl (by simpa using q)⟩
        · exact .inr ⟨e, List.mem_cons_self, hb, .inr q⟩
      · exact .inl q
    · exact .inr ⟨e1, List.mem_cons_of_mem _ h1, h2⟩
/-- What a mask names is listed, if what binds is. -/
theorem masks_ok {L : Nat → Prop} (hc : ∀ i o, all[i]? = some o → L i → ∀ e ∈ o.after.toList, Region.binds .any e = true → L e.on) :
    ∀ (l : List Oper) (acc : List Nat), (∀ j, l[j]? = all[acc.length + j]?) → (∀ i o, i < acc.length → all[i]? = some o → (∀ e ∈ o.after.toList, Region.binds .any e = true → L e.on) → ∀ j, (acc.getD i 0).testBit j = true → L j) →
      ∀ i o, all[i]? = some o → i < acc.length + l.length → (∀ e ∈ o.after.toList, Region.binds .any e = true → L e.on) → ∀ j, ((masks l acc).getD i 0).testBit j = true → L j
  | [], acc, _, ha, i, o, ho, hi, he, j, hj => ha i o (by simpa using hi) ho he j hj
  | o1 :: r, acc, hl, ha, i, o, ho, hi, he, j, hj => by
    refine masks_ok hc r (acc ++ [maskOf acc o1.after.toList]) (fun j => ?_) ?_ i o ho (by rw [List.length_append, List.length_singleton]; rw [List.length_cons] at hi; omega) he j hj
    · have := hl (j + 1)
      rw [List.getElem?_cons_succ] at this
      rw [this, List.length_append, List.length_singleton]
      congr 1
      omega
    · intro i2 o2 hi2 ho2 he2 j2 hj2
      rw [List.length_append, List.length_singleton] at hi2
      rw [List.getD_eq_getElem?_getD, List.getElem?_append] at hj2
      split at hj2
      · rename_i c
        rw [← List.getD_eq_getElem?_getD] at hj2
        exact ha i2 o2 c ho2 he2 j2 hj2
      · rename_i c
        have e1 : i2 = acc.length := by omega
        subst e1
        have e2 : o2 = o1 := by have := hl 0; rw [Nat.add_zero, ho2] at this; simpa using this.symm
        subst e2
        rw [Nat.sub_self] at hj2
        rcases mask_bit (s0 := 0) hj2 with q | ⟨e, h1, h2, h3⟩
        · simp at q
        · have hL := he2 e h1 h2
          rcases h3 with rfl | h3
          · exact hL
          · rcases Nat.lt_or_ge e.on acc.length with c1 | c1
            · cases hoe : all[e.on]? with
              | none => 
                have := Array.getElem?_eq_none_iff.1 hoe
                have := (Array.getElem?_eq_some_iff.1 ho2).1
                omega
              | some oe => exact ha e.on oe c1 hoe (hc e.on oe hoe hL) j2 h3
            · rw [List.getD_eq_getElem?_getD, List.getElem?_eq_none c1] at h3
              simp at h3
theorem front {J : St → Prop} {i : Nat} {oi : Oper} (hi : all[i]? = some oi) {post : List Nat} : ∀ {pre : List Nat} {s : St}, J s → (∀ j ∈ pre, ∃ oj, all[j]? = some oj ∧ ∀ s s1, J s → stepK Y T k all oj s some = some s1 → J s1 ∧ ∀ s2, stepK Y T k all oi s1 some = some s2 → ∃ t, stepK Y T k all oi s some = some t ∧ stepK Y T k all oj t some = some s2) →
    seqI Y T k all (pre ++ i :: post) s = some sF → ∃ s1, stepK Y T k all oi s some = some s1 ∧ seqI Y T k all (pre ++ post) s1 = some sF
  | [], s, _, _, h => by
    rw [List.nil_append, seqI, hi] at h
    exact Option.bind_eq_some_iff.1 h
  | j :: pre, s, hs, hp, h => by
    obtain ⟨oj, h1, hsw⟩ := hp j List.mem_cons_self
    rw [List.cons_append, seqI, h1] at h
    obtain ⟨s', e1, e2⟩ := Option.bind_eq_some_iff.1 h
    obtain ⟨hs', hsw⟩ := hsw _ _ hs e1
    obtain ⟨s1, e3, e4⟩ := front hi hs' (fun j' hj' => hp j' (List.mem_cons_of_mem _ hj')) e2
    obtain ⟨t, e5, e6⟩ := hsw _ e3
    refine ⟨t, e5, ?_⟩
    rw [List.cons_append, seqI, h1]
    simp only [e6]
    exact e4
/-- What a region must be so that its order is of no matter: edges go back; what is not bound changes places (J: what stands along the way). -/
structure DrawJ (Y : Nat → Option Callee) (T : Tab) (k : Nat) (all : Array Oper) (J : Array Bool → St → Prop) : Prop where
  edge : ∀ i o, all[i]? = some o → ∀ e ∈ o.after.toList, Region.binds .any e = true → e.on < i
  step : ∀ listed i o s s1, all[i]? = some o → listed.getD i true = false → J listed s → stepK Y T k all o s some = some s1 → J (listed.setIfInBounds i true) s1
  pair : ∀ i o j, all[i]? = some o → j < i → ((masks all.toList []).getD i 0).testBit j = true ∨ ∃ oj, all[j]? = some oj ∧ ∀ listed, listed.getD i true = false → ∀ s s1, J listed s → stepK Y T k all oj s some = some s1 → J listed s1 ∧ ∀ s2, stepK Y T k all o s1 some = some s2 → ∃ t, stepK Y T k all o s some = some t ∧ stepK Y T k all oj t some = some s2
def unl (all : Array Oper) (listed : Array Bool) : List Nat := (List.range all.size).filter fun i => !listed.getD i true
theorem mem_unl {listed : Array Bool} {i : Nat} : i ∈ unl all listed ↔ i < all.size ∧ listed.getD i true = false := by
  unfold unl
  rw [List.mem_filter, List.mem_range, Bool.not_eq_true']
theorem unl_sorted {listed : Array Bool} : (unl all listed).Pairwise (· < ·) := List.Pairwise.filter _ List.pairwise_lt_range
theorem unl_set {listed : Array Bool} {i : Nat} {pre post : List Nat} (hs : listed.size = all.size) (h : unl all listed = pre ++ i :: post) : unl all (listed.setIfInBounds i true) = pre ++ post := by
  have hsorted := unl_sorted (all := all) (listed := listed)
  have hi : i < all.size := (mem_unl.1 (by rw [h]; simp : i ∈ unl all listed)).1
  have e1 : unl all (listed.setIfInBounds i true) = (unl all listed).filter fun j => j != i := by
    unfold unl
    rw [List.filter_filter]
    refine List.filter_congr fun j hj => ?_
    by_cases c : i = j
    · subst c
      have : (listed.setIfInBounds i true).getD i true = true := by
        rw [Array.getD_eq_getD_getElem?, Array.getElem?_setIfInBounds, if_pos rfl]
        split <;> rfl
      rw [this]
      simp
    · rw [getD_set_ne true c]
      have : (j != i) = true := by simpa using fun q => c q.symm
      rw [this, Bool.true_and]
  rw [e1, h]
  rw [h] at hsorted
  rw [List.filter_append, List.filter_cons_of_neg (by simp)]
  obtain ⟨p1, p2, p3⟩ := List.pairwise_append.1 hsorted
  rw [List.filter_eq_self.2, List.filter_eq_self.2]
  · intro j hj
    have := List.rel_of_pairwise_cons p2 hj
    simp
    omega
  · intro j hj
    have := p3 j hj i List.mem_cons_self
    simp
    omega
theorem drawOk_at (h : drawOk T all = true) {i : Nat} {o : Oper} (ho : all[i]? = some o) : (∀ e ∈ o.after.toList, Region.binds .any e = true → e.on < i) ∧ ∀ j, j < i → pairOk T all ((masks all.toList []).getD i 0) o j = true := by
  have hi := (Array.getElem?_eq_some_iff.1 ho).1
  have := List.all_eq_true.1 h i (List.mem_range.2 hi)
  simp only [ho, Bool.and_eq_true, List.all_eq_true, List.mem_range] at this
  obtain ⟨h2, h3⟩ := this
  refine ⟨fun e he hb => ?_, h3⟩
  have := h2 e he
  rw [hb] at this
  simpa using this
theorem any_gen {J : Array Bool → St → Prop} (hT : TabOk P T) (hY : ∀ f c, Y f = some c → CalleeOk P f c) (hL : Laid P w0) (hM : ∀ b, M b → startN P ≤ b) (hd : DrawJ Y T k all J) {Q : Exit → Act → World → Prop} (hK : ∀ a1 w1, Rel M w0 F0 sF a1 w1 → Q .normal a1 w1) :
    ∀ (fuel : Nat) (listed : Array Bool) (s : St) (a : Act) (w : World), listed.size = all.size → (∀ i o, all[i]? = some o → listed.getD i true = true → ∀ e ∈ o.after.toList, Region.binds .any e = true → listed.getD e.on true = true) →
      (unl all listed).length ≤ fuel → J listed s → seqI Y T k all (unl all listed) s = some sF → Rel M w0 F0 s a w → wpAny P .any all Q fuel listed a w := by
  intro fuel
  have done : ∀ (listed : Array Bool), listed.size = all.size → Region.ready .any all listed = [] → unl all listed = [] := by
    intro listed hs hr
    cases hu : unl all listed with
    | nil => rfl
    | cons i post =>
      exfalso
      have hi : i ∈ unl all listed := by rw [hu]; simp
      obtain ⟨h1, h2⟩ := mem_unl.1 hi
      have ho : all[i]? = some all[i] := Array.getElem?_eq_getElem h1
      have : i ∈ Region.ready .any all listed := by
        rw [mem_ready]
        refine ⟨h2, _, ho, fun e he hb => ?_⟩
        have hlt := hd.edge _ _ ho e (by simpa using he) hb
        have : listed.getD e.on true = true := by
          cases q : listed.getD e.on true with
          | true => rfl
          | false =>
            have hm : e.on ∈ unl all listed := mem_unl.2 ⟨by omega, q⟩
            have hs := unl_sorted (all := all) (listed := listed)
            rw [hu] at hm hs
            rcases List.mem_cons.1 hm with c | c
            · omega
            · have := List.rel_of_pairwise_cons hs c
              omega
        rw [Array.getD_eq_getD_getElem?] at this ⊢
        rw [Array.getElem?_eq_getElem (by omega)] at this ⊢
        exact this
      rw [hr] at this
      cases this
  induction fuel with
  | zero =>
    intro listed s a w hs hc hl hinv hq h
    have hu : unl all listed = [] := List.length_eq_zero_iff.1 (by omega)
    rw [hu] at hq
    cases hq
    refine ⟨?_, hK a w h⟩
    cases hr : Region.ready .any all listed with
    | nil => rfl
    | cons j t =>
      exfalso
      have : j ∈ Region.ready .any all listed := by rw [hr]; simp
      rw [mem_ready] at this
      obtain ⟨h1, o, h2, _⟩ := this
      have : j ∈ unl all listed := mem_unl.2 ⟨(Array.getElem?_eq_some_iff.1 h2).1, h1⟩
      rw [hu] at this
      cases this
  | succ fuel ih =>
    intro listed s a w hs hc hl hinv hq h
    refine ⟨fun hr => ?_, fun i hi => ?_⟩
    · rw [done listed hs hr] at hq
      cases hq
      exact hK a w h
    · rw [mem_ready] at hi
      obtain ⟨h1, o, ho, hbound⟩ := hi
      have hlt := (Array.getElem?_eq_some_iff.1 ho).1
      have hm : i ∈ unl all listed := mem_unl.2 ⟨hlt, h1⟩
      obtain ⟨pre, post, hu⟩ := List.append_of_mem hm
      have hsorted := unl_sorted (all := all) (listed := listed)
      have tr : ∀ {j : Nat}, listed.getD j false = true → listed.getD j true = true := fun {j} hj => by
        rw [Array.getD_eq_getD_getElem?] at hj ⊢
        cases q : listed[j]? with
        | none => rw [q] at hj; cases hj
        | some b => rw [q] at hj; exact hj
      rw [hu] at hsorted hq
      obtain ⟨p1, p2, p3⟩ := List.pairwise_append.1 hsorted
      have hbd : ∀ e ∈ o.after.toList, Region.binds .any e = true → listed.getD e.on true = true := fun e he hb => tr (hbound e (by simpa using he) hb)
      have hpre : ∀ j ∈ pre, ∃ oj, all[j]? = some oj ∧ ∀ s s1, J listed s → stepK Y T k all oj s some = some s1 → J listed s1 ∧ ∀ s2, stepK Y T k all o s1 some = some s2 → ∃ t, stepK Y T k all o s some = some t ∧ stepK Y T k all oj t some = some s2 := by
        intro j hj
        have hji := p3 j hj i List.mem_cons_self
        have hun : listed.getD j true = false := (mem_unl.1 (by rw [hu]; simp [hj] : j ∈ unl all listed)).2
        rcases hd.pair i o j ho hji with q | ⟨oj, hoj, q⟩
        · have := masks_ok (all := all) (L := fun j => listed.getD j true = true) (fun i o ho hL e he hb => hc i o ho hL e he hb) all.toList [] (fun j => by simp) (fun i o hi => absurd hi (by simp)) i o ho (by simpa using hlt) hbd j q
          rw [hun] at this
          cases this
        · exact ⟨oj, hoj, q listed h1⟩
      obtain ⟨s1, e1, e2⟩ := front ho hinv hpre hq
      have hset := unl_set hs hu
      unfold wpOp
      rw [ho]
      simp only
      obtain ⟨F, γ, ρ, hR⟩ := h
      refine step_sound hT hY hL hM hR e1 fun a' w' hr => ih (listed.setIfInBounds i true) s1 a' w' (by simpa using hs) ?_ ?_ (hd.step _ _ _ _ _ ho h1 hinv e1) (by rw [hset]; exact e2) hr
      · intro i2 o2 ho2 hl2 e he hb
        by_cases c : i = e.on
        · subst c
          simp [Array.getElem?_setIfInBounds]
          split <;> rfl
        · rw [getD_set_ne true c]
          by_cases c2 : i = i2
          · subst c2
            rw [ho] at ho2
            cases ho2
            exact hbd e he hb
          · rw [getD_set_ne true c2] at hl2
            exact hc i2 o2 ho2 hl2 e he hb
      · rw [hset]
        rw [hu] at hl
        rw [List.length_append] at hl ⊢
        rw [List.length_cons] at hl
        omega
theorem draw_of (hd : drawOk T all = true) : DrawJ Y T k all fun _ _ => True where
  edge i o ho := (drawOk_at hd ho).1
  step _ _ _ _ _ _ _ _ _ := trivial
  pair i o j ho hj := by
    have hp := (drawOk_at hd ho).2 j hj
    unfold pairOk at hp
    rw [Bool.or_eq_true] at hp
    refine hp.imp id fun q => ?_
    split at q
    · rename_i oj hoj
      refine ⟨oj, hoj, fun _ _ s s1 _ k1 => ⟨trivial, fun s2 k2 => ?_⟩⟩
      rw [Bool.or_eq_true] at q
      rcases q with q | q
      · simp only [Bool.and_eq_true] at q
        exact swap q.1.1.1.1 q.1.1.1.2 q.1.1.2 q.1.2 q.2 k1 k2
      · simp only [Bool.and_eq_true, Option.isNone_iff_eq_none] at q
        obtain ⟨⟨⟨⟨⟨q1, q2⟩, q3⟩, q4⟩, q5⟩, q6⟩ := q
        obtain ⟨c, hc⟩ := Option.isSome_iff_exists.1 q3
        obtain ⟨a1, a2, a3⟩ := Oper.apart_spec q6
        exact swapA hc q1 q2 q4 q5 a1 a2 a3 k1 k2
    · cases q
end
end Go.Sym
end
section
namespace Go.Sym
open Go.RowKit
set_option linter.unusedVariables false
set_option linter.unusedSimpArgs false

def stOf (o : Oper) : Option Nat := match o.op, o.dst with
  | .store _ (.tmp p) _, none => some p
  | _, _ => none
def ldOf (o : Oper) : Option Nat := match o.op with
  | .load _ (.tmp q) => some q
  | _ => none
/-- The places that a region's stores and loads go to. -/
def ptrs (all : Array Oper) : List Nat := all.toList.filterMap fun o => match o.op with
  | .store _ (.tmp p) _ => some p
  | .load _ (.tmp q) => some q
  | _ => none
/-- Operations that look at no variable in memory. -/
def blind (o : Oper) : Bool := match o.op with
  | .move _ => true
  | .assign _ => true
  | .pick _ _ _ => true
  | .unOp _ _ _ => true
  | .binOp _ _ _ _ _ => true
  | .extract _ _ => true
  | .build _ _ => true
  | .field _ _ _ => true
  | .call _ => true
  | _ => false
def mayWith (o : Oper) (p : Nat) : Bool := blind o || (match ldOf o with
  | some q => q != p
  | none => false)
def okOp2 (T : Tab) (all : Array Oper) (o : Oper) : Bool := o.guard.isNone && ((stOf o).isSome || ((kindOf T o.op).quiet && (match o.dst with
  | some d => !(ptrs all).contains d
  | none => true)))
def pair2 (T : Tab) (all : Array Oper) (oi oj : Oper) : Bool := oi.apart all oj && match stOf oi, stOf oj with
  | none, none => (kindOf T oi.op).quiet && (kindOf T oj.op).quiet
  | some p, none => mayWith oj p
  | none, some p => mayWith oi p
  | some _, some _ => false
def pairOk2 (T : Tab) (all : Array Oper) (m : Nat) (oi : Oper) (j : Nat) : Bool := m.testBit j || (match all[j]? with
  | some oj => pair2 T all oi oj
  | none => false)
def drawOk2 (T : Tab) (all : Array Oper) : Bool := (List.range all.size).all fun i => match all[i]? with
  | some o => okOp2 T all o && ((o.after.toList.all fun e => !Region.binds .any e || decide (e.on < i)) && (List.range i).all (pairOk2 T all ((masks all.toList []).getD i 0) o))
  | none => false
def ptrOk (all : Array Oper) (s : St) : Bool := (ptrs all).all fun q => match s.slots.getD q .junk with
  | .ptr b _ => b == q
  | _ => false
def Inv (all : Array Oper) (s : St) : Prop := ∀ q ∈ ptrs all, ∃ off, s.slots.getD q .junk = .ptr q off
section
variable {R : Type} {P : Program} {T : Tab} {M : Nat → Prop} {w0 w : World} {F0 F : Nat → Nat} {s s1 s2 sF : St} {a : Act} {Y : Nat → Option Callee} {k : Nat} {o : Oper} {r : R} {all : Array Oper}
theorem ptrOk_inv (h : ptrOk all s = true) : Inv all s := fun q hq => by
  have := List.all_eq_true.1 h q hq
  split at this
  · rename_i b off e
    rw [beq_iff_eq] at this
    rw [this] at e
    exact ⟨off, e⟩
  · cases this
theorem stOf_spec {o : Oper} {p : Nat} (h : stOf o = some p) : ∃ t x, o.op = .store t (.tmp p) x ∧ o.dst = none := by
  unfold stOf at h
  split at h
  · rename_i t q x e1 e2
    cases h
    exact ⟨t, x, e1, e2⟩
  · cases h
theorem ldOf_spec {o : Oper} {q : Nat} (h : ldOf o = some q) : ∃ t, o.op = .load t (.tmp q) := by
  unfold ldOf at h
  split at h
  · rename_i t q1 e1
    cases h
    exact ⟨t, e1⟩
  · cases h
theorem store_step {p t : Nat} {x : Operand} (hop : o.op = .store t (.tmp p) x) (hd : o.dst = none) (hg : o.guard = none) : stepK Y T k all o s some = (storeT T t (s.ev (.tmp p)) (s.ev x) s.boxes).map fun bx => { s with boxes := bx } := by
  unfold stepK
  rw [hg]
  simp only
  unfold opK
  rw [hop]
  simp only [kindOf, stT, hd]
  cases storeT T t (s.ev (.tmp p)) (s.ev x) s.boxes <;> rfl
theorem storeT_form {t b off : Nat} {x : AV} {bx bx1 : List (Nat × Bx)} (h : storeT T t (.ptr b off) x bx = some bx1) : ∃ X, bx1 = setBx b X bx := by
  unfold storeT at h
  split at h
  · cases h
  · simp only at h
    · split at h
      · split at h
        · obtain ⟨y, _, rfl⟩ := Option.map_eq_some_iff.1 h
          exact ⟨_, rfl⟩
        · cases h
      · split at h
        · split at h
          · split at h
            · cases h
              exact ⟨_, rfl⟩
            · cases h
          · cases h
        · cases h
      · cases h
theorem look_other {b c : Nat} {X : Bx} {bx : List (Nat × Bx)} (h : c ≠ b) : (setBx b X bx).lookup c = bx.lookup c := by rw [setBx_lookup, if_neg h]
theorem gop_blind {ev : Operand → AV} {bx bx1 : List (Nat × Bx)} (h : blind o = true) : gop T o.op o.type ev bx = gop T o.op o.type ev bx1 := by
  unfold blind at h
  split at h <;> first | (cases h; done) | (rename_i e; rw [e]; rfl)
theorem qv_may {ev : Operand → AV} {bx : List (Nat × Bx)} {u p : Nat} {X : Bx} (h : mayWith o p = true) (hev : ∀ q, ldOf o = some q → ∃ off, ev (.tmp q) = .ptr q off) : qv Y T k o ev (setBx p X bx) u = qv Y T k o ev bx u := by
  unfold mayWith at h
  rw [Bool.or_eq_true] at h
  rcases h with h | h
  · unfold qv
    rw [gop_blind (bx := setBx p X bx) (bx1 := bx) h]
  · split at h
    · rename_i q hq
      have hne : q ≠ p := by simpa using h
      obtain ⟨t, e⟩ := ldOf_spec hq
      obtain ⟨off, he⟩ := hev q hq
      have hk : kindOf T o.op = .plain := by rw [e]; rfl
      unfold qv
      rw [hk]
      simp only
      rw [e]
      simp only [gop, he, loadA, look_other hne]
    · cases h
theorem ev_boxes {bx : List (Nat × Bx)} (x : Operand) : ({ s with boxes := bx } : St).ev x = s.ev x := by cases x <;> rfl
theorem put2_boxes {bx : List (Nat × Bx)} {d : Option Nat} {p : AV × Nat} : ({ s with boxes := bx } : St).put2 d p = { s.put2 d p with boxes := bx } := by cases d <;> rfl
theorem inv_ev (h : Inv all s) {o : Oper} {i : Nat} (ho : all[i]? = some o) {q : Nat} (hq : ldOf o = some q ∨ stOf o = some q) : ∃ off, s.ev (.tmp q) = .ptr q off := by
  refine h q ?_
  unfold ptrs
  rw [List.mem_filterMap]
  refine ⟨o, by simpa using Array.mem_of_getElem? ho, ?_⟩
  rcases hq with hq | hq
  · obtain ⟨t, e⟩ := ldOf_spec hq
    rw [e]
  · obtain ⟨t, x, e, _⟩ := stOf_spec hq
    rw [e]
/-- A step of such a region keeps its places. -/
theorem inv_step (h : Inv all s) (ho : okOp2 T all o = true) (hs : stepK Y T k all o s some = some s1) : Inv all s1 := by
  unfold okOp2 at ho
  rw [Bool.and_eq_true, Option.isNone_iff_eq_none, Bool.or_eq_true] at ho
  obtain ⟨hg, ho⟩ := ho
  rcases ho with ho | ho
  · obtain ⟨p, hp⟩ := Option.isSome_iff_exists.1 ho
    obtain ⟨t, x, e1, e2⟩ := stOf_spec hp
    rw [store_step e1 e2 hg] at hs
    obtain ⟨bx, _, rfl⟩ := Option.map_eq_some_iff.1 hs
    exact h
  · rw [Bool.and_eq_true] at ho
    rw [quiet_step ho.1 hg] at hs
    obtain ⟨pv, _, rfl⟩ := Option.map_eq_some_iff.1 hs
    intro q hq
    obtain ⟨off, e⟩ := h q hq
    refine ⟨off, ?_⟩
    rw [put2_slots (fun c => ?_)]
    · exact e
    · have := ho.2
      rw [c] at this
      simp at this
      exact this hq
theorem swap2 (h : Inv all s) {oi oj : Oper} {i j : Nat} (hoi : all[i]? = some oi) (hoj : all[j]? = some oj) (ki : okOp2 T all oi = true) (kj : okOp2 T all oj = true) (hp : pair2 T all oi oj = true) (h1 : stepK Y T k all oj s some = some s1) (h2 : stepK Y T k all oi s1 some = some s2) :
    ∃ t, stepK Y T k all oi s some = some t ∧ stepK Y T k all oj t some = some s2 := by
  have gi : oi.guard = none := by unfold okOp2 at ki; rw [Bool.and_eq_true, Option.isNone_iff_eq_none] at ki; exact ki.1
  have gj : oj.guard = none := by unfold okOp2 at kj; rw [Bool.and_eq_true, Option.isNone_iff_eq_none] at kj; exact kj.1
  have qq : ∀ {o : Oper}, okOp2 T all o = true → stOf o = none → (kindOf T o.op).quiet = true := by
    intro o ho hn
    unfold okOp2 at ho
    rw [hn, Bool.and_eq_true, Bool.or_eq_true, Bool.and_eq_true] at ho
    rcases ho.2 with q | q
    · cases q
    · exact q.1
  unfold pair2 at hp
  rw [Bool.and_eq_true] at hp
  obtain ⟨hap, hp⟩ := hp
  obtain ⟨a1, a2, a3⟩ := Oper.apart_spec hap
  cases hsi : stOf oi with
  | none =>
    cases hsj : stOf oj with
    | none =>
      have g1 : gOk all oi oj = true := by unfold gOk gslot; rw [gi]
      have g2 : gOk all oj oi = true := by unfold gOk gslot; rw [gj]
      exact swap (qq ki hsi) (qq kj hsj) hap g1 g2 h1 h2
    | some p =>
      rw [hsi, hsj] at hp
      simp only at hp
      obtain ⟨t, x, e1, e2⟩ := stOf_spec hsj
      have hqi := qq ki hsi
      obtain ⟨off, hpe⟩ := inv_ev h hoj (.inr hsj)
      rw [store_step e1 e2 gj] at h1
      obtain ⟨bx, hb, rfl⟩ := Option.map_eq_some_iff.1 h1
      rw [hpe] at hb
      obtain ⟨X, rfl⟩ := storeT_form hb
      rw [quiet_step hqi gi] at h2
      obtain ⟨pv, hv, rfl⟩ := Option.map_eq_some_iff.1 h2
      have hv2 : qv Y T k oi s.ev s.boxes s.used = some pv := by
        rw [← hv]
        rw [← qv_may (X := X) hp (fun q hq => inv_ev h hoi (.inl hq))]
        exact (qv_congr (fun x _ => (ev_boxes x).symm) (fun _ _ => rfl))
      refine ⟨s.put2 oi.dst pv, by rw [quiet_step hqi gi, hv2]; rfl, ?_⟩
      have hops : ∀ d, oi.dst = some d → ∀ y ∈ oj.op.operands, y ≠ .tmp d := fun d hd y hy e => a1 d hd (mem_looks (by rw [← e]; exact hy))
      rw [store_step e1 e2 gj, boxes_put2, ev_put2 (fun d hd e => hops d hd (.tmp p) (by rw [e1]; simp [Op.operands]) e), ev_put2 (fun d hd e => hops d hd x (by rw [e1]; simp [Op.operands]) e), hpe, hb]
      simp only [Option.map_some, put2_boxes]
  | some p =>
    cases hsj : stOf oj with
    | some q =>
      rw [hsi, hsj] at hp
      cases hp
    | none =>
      rw [hsi, hsj] at hp
      simp only at hp
      obtain ⟨t, x, e1, e2⟩ := stOf_spec hsi
      have hqj := qq kj hsj
      obtain ⟨off, hpe⟩ := inv_ev h hoi (.inr hsi)
      rw [quiet_step hqj gj] at h1
      obtain ⟨pv, hv, rfl⟩ := Option.map_eq_some_iff.1 h1
      have hops : ∀ d, oj.dst = some d → ∀ y ∈ oi.op.operands, y ≠ .tmp d := fun d hd y hy e => a3 d hd (mem_looks (by rw [← e]; exact hy))
      rw [store_step e1 e2 gi, boxes_put2, ev_put2 (fun d hd e => hops d hd (.tmp p) (by rw [e1]; simp [Op.operands]) e), ev_put2 (fun d hd e => hops d hd x (by rw [e1]; simp [Op.operands]) e), hpe] at h2
      obtain ⟨bx, hb, rfl⟩ := Option.map_eq_some_iff.1 h2
      obtain ⟨X, rfl⟩ := storeT_form hb
      refine ⟨{ s with boxes := setBx p X s.boxes }, by rw [store_step e1 e2 gi, hpe, hb]; rfl, ?_⟩
      rw [quiet_step hqj gj]
      have hv2 : qv Y T k oj ({ s with boxes := setBx p X s.boxes } : St).ev (setBx p X s.boxes) s.used = some pv := by
        rw [← hv, ← qv_may (X := X) hp (fun q hq => inv_ev h hoj (.inl hq))]
        exact (qv_congr (fun x _ => ev_boxes x) (fun _ _ => rfl))
      show (qv Y T k oj ({ s with boxes := setBx p X s.boxes } : St).ev (setBx p X s.boxes) s.used).map _ = _
      rw [hv2]
      simp only [Option.map_some, put2_boxes]
theorem drawOk2_at (h : drawOk2 T all = true) {i : Nat} {o : Oper} (ho : all[i]? = some o) : okOp2 T all o = true ∧ (∀ e ∈ o.after.toList, Region.binds .any e = true → e.on < i) ∧ ∀ j, j < i → pairOk2 T all ((masks all.toList []).getD i 0) o j = true := by
  have hi := (Array.getElem?_eq_some_iff.1 ho).1
  have := List.all_eq_true.1 h i (List.mem_range.2 hi)
  simp only [ho, Bool.and_eq_true, List.all_eq_true, List.mem_range] at this
  obtain ⟨h1, h2, h3⟩ := this
  refine ⟨h1, fun e he hb => ?_, h3⟩
  have := h2 e he
  rw [hb] at this
  simpa using this
theorem draw2_of (hd : drawOk2 T all = true) : DrawJ Y T k all fun _ s => Inv all s where
  edge i o ho := (drawOk2_at hd ho).2.1
  step _ _ _ _ _ ho _ h hs := inv_step h (drawOk2_at hd ho).1 hs
  pair i o j ho hj := by
    have hp := (drawOk2_at hd ho).2.2 j hj
    unfold pairOk2 at hp
    rw [Bool.or_eq_true] at hp
    refine hp.imp id fun q => ?_
    split at q
    · rename_i oj hoj
      exact ⟨oj, hoj, fun _ _ s s1 h k1 => ⟨inv_step h (drawOk2_at hd hoj).1 k1, fun s2 k2 => swap2 h ho hoj (drawOk2_at hd ho).1 (drawOk2_at hd hoj).1 q k1 k2⟩⟩
    · cases q
end
end Go.Sym
end
section
namespace Go.Sym
open Go.RowKit
set_option linter.unusedVariables false
set_option linter.unusedSimpArgs false

def alOf (o : Oper) : Option (Nat × Nat) := match o.op, o.dst with
  | .alloc t, some d => some (t, d)
  | _, _ => none
def AV.names (d : Nat) : AV → Bool
  | .ptr b _ => b == d
  | .mw _ b _ => b == d
  | .mr _ b _ _ => b == d
  | .mel _ b _ _ => b == d
  | _ => false
/-- No variable has this name. -/
def fresh (d : Nat) (s : St) : Prop := (∀ av ∈ s.slots, av.names d = false) ∧ ∀ p ∈ s.boxes, p.1 ≠ d
def freshB (d : Nat) (s : St) : Bool := (s.slots.all fun av => !av.names d) && s.boxes.all fun p => p.1 != d
def freshOk (all : Array Oper) (s : St) : Bool := all.toList.all fun o => match alOf o with
  | some (_, d) => freshB d s
  | none => true
def tame (o : Oper) : Bool := match o.op with
  | .move _ => true
  | .assign _ => true
  | .extract _ _ => true
  | .load _ _ => true
  | .fieldAddr _ _ _ => true
  | .indexAddr _ _ _ => true
  | .slice _ _ _ _ none => true
  | .call c => match c.callee with
    | .value (.func _) => true
    | _ => false
  | _ => false
def okOp3 (T : Tab) (o : Oper) : Bool := o.guard.isNone && ((stOf o).isSome || (alOf o).isSome || ((kindOf T o.op).quiet && tame o))
def pair3 (all : Array Oper) (oi oj : Oper) : Bool := oi.apart all oj && match alOf oi, alOf oj, stOf oi, stOf oj with
  | none, none, none, none => true
  | some _, none, none, none => true
  | none, none, some _, none => blind oj
  | _, _, _, _ => false
def two (oi oj : Oper) : Bool := match alOf oi, alOf oj with
  | some p, some q => p.2 != q.2
  | _, _ => true
def pairOk3 (all : Array Oper) (m : Nat) (oi : Oper) (j : Nat) : Bool := match all[j]? with
  | some oj => two oi oj && (m.testBit j || pair3 all oi oj)
  | none => false
def drawOk3 (T : Tab) (all : Array Oper) : Bool := (List.range all.size).all fun i => match all[i]? with
  | some o => okOp3 T o && ((o.after.toList.all fun e => !Region.binds .any e || decide (e.on < i)) && (List.range i).all (pairOk3 all ((masks all.toList []).getD i 0) o))
  | none => false
def InvF (all : Array Oper) (listed : Array Bool) (s : St) : Prop := ∀ (i : Nat) (o : Oper) (t d : Nat), all[i]? = some o → alOf o = some (t, d) → listed.getD i true = false → fresh d s
section
variable {R : Type} {P : Program} {T : Tab} {s s1 s2 : St} {Y : Nat → Option Callee} {k : Nat} {o : Oper} {all : Array Oper} {d : Nat}
theorem freshB_ok (h : freshB d s = true) : fresh d s := by
  unfold freshB at h
  rw [Bool.and_eq_true, List.all_eq_true, List.all_eq_true] at h
  exact ⟨fun av hav => by simpa using h.1 av hav, fun p hp => by simpa using h.2 p hp⟩
theorem freshOk_inv (h : freshOk all s = true) (listed : Array Bool) : InvF all listed s := fun i o t d ho ha _ => by
  have := List.all_eq_true.1 h o (by simpa using Array.mem_of_getElem? ho)
  rw [ha] at this
  exact freshB_ok this
theorem fresh_slot (h : fresh d s) (t : Nat) : (s.slots.getD t .junk).names d = false := by
  rw [List.getD_eq_getElem?_getD]
  cases q : s.slots[t]? with
  | none => rfl
  | some av => exact h.1 av (List.mem_of_getElem? q)
theorem fresh_ev (h : fresh d s) (x : Operand) : (s.ev x).names d = false := by
  cases x with
  | tmp t => exact fresh_slot h t
  | const v =>
    show (constA v).names d = false
    unfold constA
    split <;> rfl
  | _ => rfl
theorem killAV_id {av : AV} (h : av.names d = false) : killAV d av = av := by
  cases av <;> simp [AV.names] at h <;> simp [killAV, h]
theorem kill_id (h : fresh d s) : s.kill d = s := by
  unfold St.kill
  have h1 : s.slots.map (killAV d) = s.slots := by
    rw [List.map_congr_left (fun av hav => killAV_id (h.1 av hav))]
    simp
  have h2 : (s.boxes.filter fun p => p.1 != d) = s.boxes := List.filter_eq_self.2 fun p hp => by simpa using h.2 p hp
  rw [h1, h2]
def alX (T : Tab) (t : Nat) : Option Bx := if (T.row t).d = .other then none else match isArr (T.row t).d with
  | some (n, e) => if 3 ≤ n ∧ n ≤ 4096 then some (.row 0 (T.ty e) n (arrL (T.ty e) n (dflt (rep (T.ty e) n)))) else some (.var (T.ty t) (dflt (T.ty t)) (zeroGT T t))
  | none => some (.var (T.ty t) (dflt (T.ty t)) (zeroGT T t))
theorem alOf_spec {t : Nat} (h : alOf o = some (t, d)) : o.op = .alloc t ∧ o.dst = some d := by
  unfold alOf at h
  split at h
  · rename_i e1 e2
    cases h
    exact ⟨e1, e2⟩
  · cases h
theorem al_step {t : Nat} (h : alOf o = some (t, d)) (hg : o.guard = none) : stepK Y T k all o s some = (alX T t).map fun X => (s.newBox d X).put (some d) (.ptr d 0) := by
  obtain ⟨e1, e2⟩ := alOf_spec h
  unfold stepK
  rw [hg]
  simp only
  unfold opK
  rw [e1]
  simp only [kindOf, e2, allocT, alX]
  split
  · rfl
  · cases isArr (T.row t).d with
    | none => rfl
    | some p =>
      obtain ⟨n, e⟩ := p
      simp only
      split <;> rfl
theorem storeT_keys {t : Nat} {p x : AV} {bx bx1 : List (Nat × Bx)} (h : storeT T t p x bx = some bx1) : ∃ b X, bx1 = setBx b X bx := by
  unfold storeT at h
  split at h
  · cases h
  · split at h
    · split at h
      · split at h
        · obtain ⟨y, _, rfl⟩ := Option.map_eq_some_iff.1 h
          exact ⟨_, _, rfl⟩
        · cases h
      · split at h
        · split at h
          · split at h
            · cases h
              exact ⟨_, _, rfl⟩
            · cases h
          · cases h
        · cases h
      · cases h
    · split at h
      · split at h
        · obtain ⟨y, _, rfl⟩ := Option.map_eq_some_iff.1 h
          exact ⟨_, _, rfl⟩
        · cases h
      · cases h
    · cases h
theorem setBx_keys {b : Nat} {X : Bx} : ∀ {bx : List (Nat × Bx)} {p : Nat × Bx}, p ∈ setBx b X bx → ∃ q ∈ bx, q.1 = p.1
  | (c, Z) :: r, p, h => by
    unfold setBx at h
    split at h
    · rename_i e
      rcases List.mem_cons.1 h with rfl | h
      · exact ⟨_, List.mem_cons_self, e⟩
      · exact ⟨p, List.mem_cons_of_mem _ h, rfl⟩
    · rcases List.mem_cons.1 h with rfl | h
      · exact ⟨_, List.mem_cons_self, rfl⟩
      · obtain ⟨q, h1, h2⟩ := setBx_keys h
        exact ⟨q, List.mem_cons_of_mem _ h1, h2⟩
theorem tupNth_names : ∀ {t : Ty} {x : El t} {n : Nat} {av : AV}, tupNth t x n = some av → av.names d = false := by
  intro t
  induction t with
  | cons a b _ ihb =>
    intro x n av h
    cases n with
    | zero => cases h; rfl
    | succ n => exact ihb h
  | _ => intro x n av h; unfold tupNth at h; cases h
theorem fix_names {ty : Nat} {av : AV} (h : av.names d = false) : (fixA T ty av).names d = false := by
  cases av with
  | nilS =>
    unfold fixA
    simp only
    split <;> rfl
  | _ => exact h
theorem val_withInt {α : Type} {a : AV} {K : Int → Tree α} {r : α} (h : (withInt a K).val = some r) : ∃ n, (K n).val = some r := by
  unfold withInt at h
  split at h
  · exact ⟨_, h⟩
  · exact (val_fail h).elim
theorem sliceR_names {e : Ty} {b lo0 n : Nat} {lo hi : Option AV} {r : AV} (h : (sliceR e b lo0 n lo hi).val = some r) : ∃ x y, r = .mr e b x y := by
  unfold sliceR at h
  split at h
  · cases h
    exact ⟨_, _, rfl⟩
  · obtain ⟨_, h⟩ := val_withInt h
    obtain ⟨_, h⟩ := val_tst h
    obtain ⟨_, h⟩ := val_tst h
    cases h
    exact ⟨_, _, rfl⟩
  · obtain ⟨_, h⟩ := val_withInt h
    obtain ⟨_, h⟩ := val_tst h
    obtain ⟨_, h⟩ := val_tst h
    cases h
    exact ⟨_, _, rfl⟩
  · obtain ⟨_, h⟩ := val_withInt h
    obtain ⟨_, h⟩ := val_withInt h
    obtain ⟨_, h⟩ := val_tst h
    obtain ⟨_, h⟩ := val_tst h
    obtain ⟨_, h⟩ := val_tst h
    cases h
    exact ⟨_, _, rfl⟩
theorem sliceS_names {s : ByteArray} {lo hi : Option AV} {r : AV} (h : (sliceS s lo hi).val = some r) : r.names d = false := by
  unfold sliceS at h
  split at h
  · cases h
    rfl
  · obtain ⟨_, h⟩ := val_withInt h
    obtain ⟨_, h⟩ := val_tst h
    obtain ⟨_, h⟩ := val_tst h
    cases h
    rfl
  · obtain ⟨_, h⟩ := val_withInt h
    obtain ⟨_, h⟩ := val_tst h
    obtain ⟨_, h⟩ := val_tst h
    cases h
    rfl
  · obtain ⟨_, h⟩ := val_withInt h
    obtain ⟨_, h⟩ := val_withInt h
    obtain ⟨_, h⟩ := val_tst h
    obtain ⟨_, h⟩ := val_tst h
    obtain ⟨_, h⟩ := val_tst h
    cases h
    rfl
theorem sliceL_names {e : Ty} {l : List (El e)} {lo hi : Option AV} {r : AV} (h : (sliceL e l lo hi).val = some r) : r.names d = false := by
  unfold sliceL at h
  split at h
  · cases h
    rfl
  · obtain ⟨_, h⟩ := val_withInt h
    obtain ⟨_, h⟩ := val_tst h
    obtain ⟨_, h⟩ := val_tst h
    cases h
    rfl
  · obtain ⟨_, h⟩ := val_withInt h
    obtain ⟨_, h⟩ := val_tst h
    obtain ⟨_, h⟩ := val_tst h
    cases h
    rfl
  · obtain ⟨_, h⟩ := val_withInt h
    obtain ⟨_, h⟩ := val_withInt h
    obtain ⟨_, h⟩ := val_tst h
    obtain ⟨_, h⟩ := val_tst h
    obtain ⟨_, h⟩ := val_tst h
    cases h
    rfl
theorem tame_names {ev : Operand → AV} {bx : List (Nat × Bx)} {u : Nat} {p : AV × Nat} (ht : tame o = true) (hq : (kindOf T o.op).quiet = true) (h : qv Y T k o ev bx u = some p) (he : ∀ x ∈ o.op.operands, (ev x).names d = false) : p.1.names d = false := by
  unfold tame at ht
  have pl : kindOf T o.op = .plain → ∃ av, (gop T o.op o.type ev bx).val = some av ∧ p = (av, 0) := fun e => by
    unfold qv at h
    rw [e] at h
    simp only at h
    obtain ⟨av, h1, h2⟩ := Option.map_eq_some_iff.1 h
    exact ⟨av, h1, h2.symm⟩
  split at ht
  · rename_i x e
    obtain ⟨av, h1, rfl⟩ := pl (by rw [e]; rfl)
    rw [e] at h1 he
    cases h1
    exact fix_names (he x (by simp [Op.operands]))
  · rename_i x e
    obtain ⟨av, h1, rfl⟩ := pl (by rw [e]; rfl)
    rw [e] at h1 he
    cases h1
    exact fix_names (he x (by simp [Op.operands]))
  · rename_i x n e
    obtain ⟨av, h1, rfl⟩ := pl (by rw [e]; rfl)
    rw [e] at h1
    simp only [gop] at h1
    split at h1
    · obtain ⟨a0, h2, rfl⟩ := Option.map_eq_some_iff.1 (val_opt h1)
      have := tupNth_names (d := d) h2
      cases a0 with
      | v t y g => rfl
      | _ => exact this
    · exact (val_fail h1).elim
  · rename_i t x e
    obtain ⟨av, h1, rfl⟩ := pl (by rw [e]; rfl)
    rw [e] at h1
    simp only [gop] at h1
    split at h1
    · exact (val_fail h1).elim
    · unfold loadA at h1
      split at h1
      · split at h1
        · obtain ⟨y, _, rfl⟩ := Option.map_eq_some_iff.1 (val_opt h1)
          rfl
        · exact (val_fail h1).elim
      · split at h1
        · obtain ⟨y, _, rfl⟩ := Option.map_eq_some_iff.1 (val_opt h1)
          rfl
        · exact (val_fail h1).elim
      · obtain ⟨y, _, rfl⟩ := Option.map_eq_some_iff.1 (val_opt h1)
        rfl
      · obtain ⟨y, _, rfl⟩ := Option.map_eq_some_iff.1 (val_opt h1)
        rfl
      · exact (val_fail h1).elim
  · rename_i st x f e
    obtain ⟨av, h1, rfl⟩ := pl (by rw [e]; rfl)
    rw [e] at h1 he
    have hx := he x (by simp [Op.operands])
    simp only [gop] at h1
    split at h1
    · split at h1
      · exact (val_fail h1).elim
      · split at h1
        · rename_i b o1 q
          rw [q] at hx
          cases h1
          exact hx
        · cases h1
          rfl
        · rename_i e1 b i o1 q
          rw [q] at hx
          cases h1
          exact hx
        · cases h1
          rfl
        · exact (val_fail h1).elim
    · exact (val_fail h1).elim
  · rename_i xt x i e
    obtain ⟨av, h1, rfl⟩ := pl (by rw [e]; rfl)
    rw [e] at h1 he
    have hx := he x (by simp [Op.operands])
    simp only [gop] at h1
    split at h1
    · split at h1
      · obtain ⟨n, h2⟩ := val_withInt h1
        obtain ⟨_, h2⟩ := val_tst h2
        obtain ⟨_, h2⟩ := val_tst h2
        cases h2
        rfl
      · exact (val_fail h1).elim
    · rename_i e1 b n q
      rw [q] at hx
      split at h1
      · obtain ⟨n, h2⟩ := val_withInt h1
        obtain ⟨_, h2⟩ := val_tst h2
        obtain ⟨_, h2⟩ := val_tst h2
        cases h2
        exact hx
      · exact (val_fail h1).elim
    · rename_i e1 b lo n q
      rw [q] at hx
      split at h1
      · obtain ⟨n, h2⟩ := val_withInt h1
        obtain ⟨_, h2⟩ := val_tst h2
        obtain ⟨_, h2⟩ := val_tst h2
        cases h2
        exact hx
      · exact (val_fail h1).elim
    · rename_i b o1 q
      rw [q] at hx
      split at h1
      · split at h1
        · split at h1
          · obtain ⟨n, h2⟩ := val_withInt h1
            obtain ⟨_, h2⟩ := val_tst h2
            obtain ⟨_, h2⟩ := val_tst h2
            cases h2
            exact hx
          · exact (val_fail h1).elim
        · obtain ⟨n, h2⟩ := val_withInt h1
          obtain ⟨_, h2⟩ := val_tst h2
          obtain ⟨_, h2⟩ := val_tst h2
          cases h2
          exact hx
      · exact (val_fail h1).elim
    · exact (val_fail h1).elim
  · rename_i xt x lo hi e
    obtain ⟨av, h1, rfl⟩ := pl (by rw [e]; rfl)
    rw [e] at h1 he
    have hx := he x (by simp [Op.operands])
    simp only [gop] at h1
    split at h1
    · split at h1
      · rename_i b q
        rw [q] at hx
        split at h1
        · split at h1
          · obtain ⟨_, _, rfl⟩ := sliceR_names h1
            exact hx
          · exact (val_fail h1).elim
        · exact (val_fail h1).elim
      · exact (val_fail h1).elim
    · split at h1
      · rename_i e1 b n q
        rw [q] at hx
        split at h1
        · obtain ⟨_, _, rfl⟩ := sliceR_names h1
          exact hx
        · exact (val_fail h1).elim
      · rename_i e1 b lo0 n q
        rw [q] at hx
        split at h1
        · obtain ⟨_, _, rfl⟩ := sliceR_names h1
          exact hx
        · exact (val_fail h1).elim
      · split at h1
        · exact sliceS_names h1
        · exact (val_fail h1).elim
      · split at h1
        · exact sliceL_names h1
        · exact (val_fail h1).elim
      · exact (val_fail h1).elim
  · rename_i c e
    split at ht
    · rename_i f hc
      have hk : kindOf T o.op = .fn f c.args := by rw [e]; simp only [kindOf, hc]
      unfold qv at h
      rw [hk] at h
      simp only at h
      split at h
      · split at h
        · obtain ⟨y, _, rfl⟩ := Option.map_eq_some_iff.1 h
          simp only
          split <;> rfl
        · cases h
      · cases h
    · cases ht
  · cases ht
theorem look_cons {b : Nat} {X : Bx} {bx : List (Nat × Bx)} (h : b ≠ d) : ((d, X) :: bx).lookup b = bx.lookup b := by
  rw [List.lookup_cons, beq_eq_false_iff_ne.2 h]
theorem tame_cons {ev : Operand → AV} {bx : List (Nat × Bx)} {u : Nat} {X : Bx} (ht : tame o = true) (he : ∀ x ∈ o.op.operands, (ev x).names d = false) : qv Y T k o ev ((d, X) :: bx) u = qv Y T k o ev bx u := by
  have hrow : ∀ {b : Nat} {e : Ty}, b ≠ d → rowOf ((d, X) :: bx) b e = rowOf bx b e := fun hb => by unfold rowOf; rw [look_cons hb]
  have pl : gop T o.op o.type ev ((d, X) :: bx) = gop T o.op o.type ev bx → qv Y T k o ev ((d, X) :: bx) u = qv Y T k o ev bx u := fun e => by
    unfold qv
    rw [e]
  unfold tame at ht
  split at ht
  · rename_i x e
    exact pl (by rw [e]; rfl)
  · rename_i x e
    exact pl (by rw [e]; rfl)
  · rename_i x n e
    exact pl (by rw [e]; rfl)
  · rename_i t x e
    refine pl ?_
    rw [e] at he ⊢
    have hx := he x (by simp [Op.operands])
    simp only [gop]
    split
    · rfl
    · cases hv : ev x with
      | ptr b off =>
        rw [hv] at hx
        simp only [loadA, look_cons (show b ≠ d from by simpa [AV.names] using hx)]
      | mel e1 b i off =>
        rw [hv] at hx
        simp only [loadA, hrow (show b ≠ d from by simpa [AV.names] using hx)]
      | v t1 y g => cases t1 <;> rfl
      | _ => rfl
  · rename_i st x f e
    exact pl (by rw [e]; rfl)
  · rename_i xt x i e
    refine pl ?_
    rw [e] at he ⊢
    have hx := he x (by simp [Op.operands])
    simp only [gop]
    cases hv : ev x with
    | ptr b off =>
      rw [hv] at hx
      simp only [look_cons (show b ≠ d from by simpa [AV.names] using hx)]
    | v t1 y g => cases t1 <;> rfl
    | _ => rfl
  · rename_i xt x lo hi e
    refine pl ?_
    rw [e] at he ⊢
    have hx := he x (by simp [Op.operands])
    simp only [gop]
    cases hv : ev x with
    | ptr b off =>
      rw [hv] at hx
      cases off with
      | zero => simp only [look_cons (show b ≠ d from by simpa [AV.names] using hx)]
      | succ n => rfl
    | v t1 y g => cases t1 <;> rfl
    | _ => rfl
  · rename_i c e
    exact pl (by rw [e]; rfl)
  · cases ht
theorem fresh_put2 {e : Option Nat} {p : AV × Nat} (h : fresh d s) (hp : p.1.names d = false) : fresh d (s.put2 e p) := by
  cases e with
  | none => exact h
  | some e =>
    refine ⟨fun av hav => ?_, h.2⟩
    rcases List.mem_or_eq_of_mem_set hav with q | rfl
    · exact h.1 av q
    · exact hp
theorem guard3 (h : okOp3 T o = true) : o.guard = none := by
  unfold okOp3 at h
  rw [Bool.and_eq_true, Option.isNone_iff_eq_none] at h
  exact h.1
theorem quiet3 (h : okOp3 T o = true) (h1 : stOf o = none) (h2 : alOf o = none) : (kindOf T o.op).quiet = true ∧ tame o = true := by
  unfold okOp3 at h
  rw [h1, h2, Bool.and_eq_true, Bool.or_eq_true, Bool.and_eq_true] at h
  rcases h.2 with q | q
  · cases q
  · exact q
theorem drawOk3_at (h : drawOk3 T all = true) {i : Nat} {o : Oper} (ho : all[i]? = some o) : okOp3 T o = true ∧ (∀ e ∈ o.after.toList, Region.binds .any e = true → e.on < i) ∧ ∀ j, j < i → pairOk3 all ((masks all.toList []).getD i 0) o j = true := by
  have hi := (Array.getElem?_eq_some_iff.1 ho).1
  have := List.all_eq_true.1 h i (List.mem_range.2 hi)
  simp only [ho, Bool.and_eq_true, List.all_eq_true, List.mem_range] at this
  obtain ⟨h1, h2, h3⟩ := this
  refine ⟨h1, fun e he hb => ?_, h3⟩
  have := h2 e he
  rw [hb] at this
  simpa using this
theorem quiet_fresh (h : okOp3 T o = true) (h1 : stOf o = none) (h2 : alOf o = none) (hf : fresh d s) (hs : stepK Y T k all o s some = some s1) : fresh d s1 := by
  obtain ⟨q1, q2⟩ := quiet3 h h1 h2
  rw [quiet_step q1 (guard3 h)] at hs
  obtain ⟨p, hp, rfl⟩ := Option.map_eq_some_iff.1 hs
  exact fresh_put2 hf (tame_names q2 q1 hp fun x _ => fresh_ev hf x)
theorem draw3_of (hd : drawOk3 T all = true) : DrawJ Y T k all (InvF all) where
  edge i o ho := (drawOk3_at hd ho).2.1
  step listed i o s s1 ho hl h hs := by
    intro i2 o2 t2 d2 ho2 ha2 hl2
    have hne : i ≠ i2 := fun c => by
      subst c
      rw [Array.getD_eq_getD_getElem?, Array.getElem?_setIfInBounds, if_pos rfl] at hl2
      split at hl2 <;> cases hl2
    rw [getD_set_ne true hne] at hl2
    have hf := h i2 o2 t2 d2 ho2 ha2 hl2
    obtain ⟨hok, _, hp⟩ := drawOk3_at hd ho
    cases hal : alOf o with
    | some td =>
      obtain ⟨t, d⟩ := td
      have hdd : d ≠ d2 := by
        have two_ne : ∀ {a b : Oper} {p q : Nat × Nat}, two a b = true → alOf a = some p → alOf b = some q → p.2 ≠ q.2 := fun h1 h2 h3 => by
          unfold two at h1
          rw [h2, h3] at h1
          simpa using h1
        rcases Nat.lt_or_gt_of_ne hne with c | c
        · have := (drawOk3_at hd ho2).2.2 i c
          unfold pairOk3 at this
          rw [ho] at this
          simp only [Bool.and_eq_true] at this
          exact fun e => two_ne this.1 ha2 hal e.symm
        · have := hp i2 c
          unfold pairOk3 at this
          rw [ho2] at this
          simp only [Bool.and_eq_true] at this
          exact two_ne this.1 hal ha2
      rw [al_step hal (guard3 hok)] at hs
      obtain ⟨X, _, rfl⟩ := Option.map_eq_some_iff.1 hs
      refine ⟨fun av hav => ?_, fun p hp => ?_⟩
      · rcases List.mem_or_eq_of_mem_set hav with q | rfl
        · obtain ⟨a0, h1, rfl⟩ := List.mem_map.1 q
          have := hf.1 a0 h1
          cases a0 <;> simp only [killAV] <;> first | exact this | (split <;> first | rfl | exact this)
        · simpa [AV.names] using hdd
      · rcases List.mem_cons.1 hp with rfl | q
        · exact hdd
        · exact hf.2 p (List.mem_filter.1 q).1
    | none =>
      cases hst : stOf o with
      | some p =>
        obtain ⟨t, x, e1, e2⟩ := stOf_spec hst
        rw [store_step e1 e2 (guard3 hok)] at hs
        obtain ⟨bx, hb, rfl⟩ := Option.map_eq_some_iff.1 hs
        obtain ⟨b, X, rfl⟩ := storeT_keys hb
        exact ⟨hf.1, fun p hp => by obtain ⟨q, h1, h2⟩ := setBx_keys hp; rw [← h2]; exact hf.2 q h1⟩
      | none => exact quiet_fresh hok hst hal hf hs
  pair i o j ho hj := by
    obtain ⟨hok, _, hp⟩ := drawOk3_at hd ho
    have hp := hp j hj
    unfold pairOk3 at hp
    split at hp
    case h_2 => cases hp
    rename_i oj hoj
    rw [Bool.and_eq_true, Bool.or_eq_true] at hp
    refine hp.2.imp id fun q => ⟨oj, hoj, fun listed hl s s1 h k1 => ?_⟩
    have hokj := (drawOk3_at hd hoj).1
    unfold pair3 at q
    rw [Bool.and_eq_true] at q
    obtain ⟨hap, q⟩ := q
    obtain ⟨a1, a2, a3⟩ := Oper.apart_spec hap
    have gi := guard3 hok
    have gj := guard3 hokj
    have keep : stOf oj = none → alOf oj = none → InvF all listed s1 := fun z1 z2 i2 o2 t2 d2 y1 y2 y3 => quiet_fresh hokj z1 z2 (h i2 o2 t2 d2 y1 y2 y3) k1
    cases hai : alOf o with
    | none =>
      cases haj : alOf oj with
      | some p => rw [hai, haj] at q; cases q
      | none =>
        cases hsj : stOf oj with
        | some p => rw [hai, haj, hsj] at q; cases z : stOf o <;> (rw [z] at q; cases q)
        | none =>
          obtain ⟨qj, tj⟩ := quiet3 hokj hsj haj
          refine ⟨keep hsj haj, fun s2 k2 => ?_⟩
          cases hsi : stOf o with
          | none =>
            have g1 : gOk all o oj = true := by unfold gOk gslot; rw [gi]
            have g2 : gOk all oj o = true := by unfold gOk gslot; rw [gj]
            exact swap (quiet3 hok hsi hai).1 qj hap g1 g2 k1 k2
          | some p =>
            rw [hai, haj, hsi, hsj] at q
            have hbl : blind oj = true := q
            obtain ⟨t, x, e1, e2⟩ := stOf_spec hsi
            rw [quiet_step qj gj] at k1
            obtain ⟨pv, hv, rfl⟩ := Option.map_eq_some_iff.1 k1
            have hops : ∀ e, oj.dst = some e → ∀ y ∈ o.op.operands, y ≠ .tmp e := fun e he y hy c => a3 e he (mem_looks (by rw [← c]; exact hy))
            rw [store_step e1 e2 gi, boxes_put2, ev_put2 (fun e he c => hops e he (.tmp p) (by rw [e1]; simp [Op.operands]) c), ev_put2 (fun e he c => hops e he x (by rw [e1]; simp [Op.operands]) c)] at k2
            obtain ⟨bx, hb, rfl⟩ := Option.map_eq_some_iff.1 k2
            refine ⟨{ s with boxes := bx }, by rw [store_step e1 e2 gi, hb]; rfl, ?_⟩
            rw [quiet_step qj gj]
            have hv2 : qv Y T k oj ({ s with boxes := bx } : St).ev bx s.used = some pv := by
              rw [← hv]
              refine (qv_congr (fun x _ => ev_boxes x) (fun _ _ => rfl)).trans ?_
              unfold qv
              rw [gop_blind (bx := bx) (bx1 := s.boxes) hbl]
            show (qv Y T k oj ({ s with boxes := bx } : St).ev bx s.used).map _ = _
            rw [hv2]
            simp only [Option.map_some, put2_boxes]
    | some td =>
      obtain ⟨t, d⟩ := td
      cases haj : alOf oj with
      | some p => rw [hai, haj] at q; cases q
      | none =>
        cases hsj : stOf oj with
        | some p => rw [hai, haj, hsj] at q; cases z : stOf o <;> (rw [z] at q; cases q)
        | none =>
          obtain ⟨qj, tj⟩ := quiet3 hokj hsj haj
          refine ⟨keep hsj haj, fun s2 k2 => ?_⟩
          have hf := h i o t d ho hai hl
          have hf1 := keep hsj haj i o t d ho hai hl
          have hdst := (alOf_spec hai).2
          rw [al_step hai gi] at k2
          obtain ⟨X, hX, rfl⟩ := Option.map_eq_some_iff.1 k2
          rw [quiet_step qj gj] at k1
          obtain ⟨pv, hv, rfl⟩ := Option.map_eq_some_iff.1 k1
          have e0 : s.newBox d X = { s with boxes := (d, X) :: s.boxes } := by unfold St.newBox; rw [kill_id hf]
          have e1 : (s.put2 oj.dst pv).newBox d X = { s.put2 oj.dst pv with boxes := (d, X) :: s.boxes } := by unfold St.newBox; rw [kill_id hf1, boxes_put2]
          refine ⟨(s.newBox d X).put (some d) (.ptr d 0), by rw [al_step hai gi, hX]; rfl, ?_⟩
          rw [quiet_step qj gj, e0, e1]
          have hv2 : qv Y T k oj (({ s with boxes := (d, X) :: s.boxes } : St).put (some d) (.ptr d 0)).ev ((d, X) :: s.boxes) s.used = some pv := by
            rw [← hv, ← tame_cons (X := X) (d := d) tj (fun x _ => fresh_ev hf x)]
            refine qv_congr (fun x hx => ?_) (fun _ _ => rfl)
            cases x with
            | tmp q =>
              show (s.slots.set d (.ptr d 0)).getD q .junk = s.slots.getD q .junk
              rw [getD_set (fun c => a1 d hdst (by rw [c]; exact mem_looks hx))]
            | _ => rfl
          show (qv Y T k oj (({ s with boxes := (d, X) :: s.boxes } : St).put (some d) (.ptr d 0)).ev ((d, X) :: s.boxes) s.used).map _ = _
          rw [hv2]
          simp only [Option.map_some]
          congr 1
          cases hdj : oj.dst with
          | none => rfl
          | some e =>
            have hne : d ≠ e := fun c => a2 d hdst (by rw [hdj, c])
            simp only [St.put2, St.put]
            rw [List.set_comm _ _ hne]
end
end Go.Sym
end
section
namespace Go.Sym
open Go.RowKit
set_option linter.unusedVariables false
set_option linter.unusedSimpArgs false

section
variable {R : Type} {P : Program} {T : Tab} {M : Nat → Prop} {w0 w : World} {F0 F : Nat → Nat} {s s1 sF : St} {a : Act} {Y : Nat → Option Callee} {k : Nat} {o : Oper} {r : R} {all : Array Oper}
theorem ops_seq {K : St → Option R} : ∀ {l : List Oper} {i : Nat} {s : St}, (∀ j, l[j]? = all[i + j]?) → opsK Y T k all l s K = some r → ∃ sF, seqI Y T k all (List.range' i l.length) s = some sF ∧ K sF = some r
  | [], i, s, _, h => ⟨s, rfl, h⟩
  | o :: l, i, s, hl, h => by
    have ho : all[i]? = some o := by have := hl 0; simpa using this.symm
    unfold opsK at h
    obtain ⟨s1, h1, h2⟩ := step_val h
    obtain ⟨sF, q1, q2⟩ := ops_seq (i := i + 1) (fun j => by have := hl (j + 1); rw [List.getElem?_cons_succ] at this; rw [this]; congr 1; omega) h2
    refine ⟨sF, ?_, q2⟩
    rw [List.length_cons, List.range'_succ, seqI, ho]
    simp only [h1]
    exact q1
theorem drawn_gen {J : Array Bool → St → Prop} (hT : TabOk P T) (hY : ∀ f c, Y f = some c → CalleeOk P f c) (hL : Laid P w0) (hM : ∀ b, M b → startN P ≤ b) (hm : P.follows .mixedOrders = true) (hd : DrawJ Y T k all J) {id : Nat} {K : St → Option R} {Q : Exit → Act → World → Prop}
    (hK : ∀ s1 a1 w1, K s1 = some r → Rel M w0 F0 s1 a1 w1 → Q .normal a1 w1) (h : Rel M w0 F0 s a w) (hi : ∀ listed, J listed s) (hk : opsK Y T k all all.toList s K = some r) : (Code.region id all true).wp P Q a w := by
  obtain ⟨sF, h1, h2⟩ := ops_seq (i := 0) (fun j => by simp) hk
  refine wp_region_any hm (any_gen (k := k) hT hY hL hM hd (fun a1 w1 hr => hK sF a1 w1 h2 hr) all.size _ s a _ (by simp) ?_ ?_ (hi _) ?_ ?_)
  · intro i o ho hl
    have hlt := (Array.getElem?_eq_some_iff.1 ho).1
    simp [hlt] at hl
  · unfold unl
    exact Nat.le_trans (List.length_filter_le _ _) (by simp)
  · have : unl all (Array.replicate all.size false) = List.range' 0 all.toList.length := by
      unfold unl
      rw [List.range_eq_range', List.filter_eq_self.2 (fun i hi => by
        have : i < all.size := by simpa using hi
        simp [this])]
      simp
    rw [this]
    exact h1
  · obtain ⟨F, γ, ρ, hR⟩ := h
    exact ⟨F, γ, ρ, hR.drew⟩
end
/-- What lives at a place: slots by number, type and rows' names; variables in memory; rows that are written still (slot; how many places, if it is an array's variable; the type of the elements: by number, if it may be appended to, and plainly). -/
abbrev Live := List (Nat × Ty × List TE)
abbrev RowsL := List (Nat × Option Nat × Nat × Ty)
structure Shape where
  n : Nat
  live : Live
  boxes : Live
  rows : RowsL
def tyOf : Live → Ty
  | [] => .nil
  | (_, t, _) :: r => .cons t (tyOf r)
def tyRows : RowsL → Ty
  | [] => .nil
  | (_, _, _, e) :: r => .cons (.sl e) (tyRows r)
def Shape.ty (sh : Shape) : Ty := .cons (tyOf sh.live) (.cons (tyOf sh.boxes) (.cons (tyRows sh.rows) .nil))
def mkSlots : (l : Live) → El (tyOf l) → List AV → List AV
  | [], _, S => S
  | (i, t, g) :: r, y, S => mkSlots r y.2 (S.set i (.v t y.1 g))
def mkPtrs : Live → List AV → List AV
  | [], S => S
  | (b, _, _) :: r, S => mkPtrs r (S.set b (.ptr b 0))
def mkRows : (l : RowsL) → El (tyRows l) → List AV → List AV
  | [], _, S => S
  | (b, some _, _, _) :: r, y, S => mkRows r y.2 (S.set b (.ptr b 0))
  | (b, none, _, e) :: r, y, S => mkRows r y.2 (S.set b (.mw e b y.1.length))
def mkBoxes : (l : Live) → El (tyOf l) → List (Nat × Bx)
  | [], _ => []
  | (b, t, g) :: r, y => (b, .var t y.1 g) :: mkBoxes r y.2
def mkRB : (l : RowsL) → El (tyRows l) → List (Nat × Bx)
  | [], _ => []
  | (b, some n, ety, e) :: r, y => (b, .row ety e n y.1) :: mkRB r y.2
  | (b, none, ety, e) :: r, y => (b, .row ety e y.1.length y.1) :: mkRB r y.2
def tagMask : List TE → Nat → Nat
  | [], u => u
  | te :: r, u => tagMask r (u ||| 1 <<< (te.tag - 1))
def liveMask : Live → Nat → Nat
  | [], u => u
  | (_, _, g) :: r, u => liveMask r (tagMask g u)
def Shape.mk' (sh : Shape) (y : El sh.ty) : St := ⟨mkRows sh.rows y.2.2.1 (mkPtrs sh.boxes (mkSlots sh.live y.1 (List.replicate sh.n .junk))), mkBoxes sh.boxes y.2.1 ++ mkRB sh.rows y.2.2.1, liveMask sh.boxes (liveMask sh.live 0)⟩
/-- The names at hand for the names wanted: (wanted, at hand). -/
def renG (g1 : List TE) : List TE → Option (List (Nat × Nat))
  | [] => some []
  | te :: r => match g1.find? fun t => t.off == te.off && t.ety == te.ety && t.esz == te.esz with
    | some t => if te.tag = 0 then none else (renG g1 r).map fun l => (te.tag, t.tag) :: l
    | none => none
def takeSlots (S : List AV) : (l : Live) → Option (El (tyOf l) × List (Nat × Nat))
  | [] => some ((), [])
  | (i, t, g) :: r => match (S.getD i .junk).as t with
    | some (x, g1) => match renG g1 g with
      | some l => match takeSlots S r with
        | some (y, m) => some ((x, y), l ++ m)
        | none => none
      | none => none
    | none => none
def ptrOf : AV → Option Nat
  | .ptr c 0 => some c
  | _ => none
def mwOf : AV → Option Nat
  | .mw _ b _ => some b
  | _ => none
/-- Variables: what they hold, their rows' names, and the blocks' names: (slot, name at hand). -/
def takeBoxes (s : St) : (l : Live) → Option (El (tyOf l) × List (Nat × Nat) × List (Nat × Nat))
  | [] => some ((), [], [])
  | (i, t, g) :: r => match ptrOf (s.slots.getD i .junk) with
    | some b => match s.boxes.lookup b with
      | some (.var u z gz) => match castEl u t z with
        | some x => match renG gz g with
          | some l => match takeBoxes s r with
            | some (y, m, nm) => some ((x, y), l ++ m, (i, b) :: nm)
            | none => none
          | none => none
        | none => none
      | _ => none
    | none => none
def takeRows (s : St) : (l : RowsL) → Option (El (tyRows l) × List (Nat × Nat))
  | [] => some ((), [])
  | (i, some n, ety, e) :: r => match ptrOf (s.slots.getD i .junk) with
    | some b => match s.boxes.lookup b with
      | some (.row ety1 e1 n1 z) => if ety1 = ety ∧ n1 = n then match castEl (.sl e1) (.sl e) z with
        | some x => match takeRows s r with
          | some (y, nm) => some ((x, y), (i, b) :: nm)
          | none => none
        | none => none else none
      | _ => none
    | none => none
  | (i, none, ety, e) :: r => match mwOf (s.slots.getD i .junk) with
    | some b => match s.boxes.lookup b with
      | some (.row ety1 e1 n1 z) => if ety1 = ety then match castEl (.sl e1) (.sl e) z with
        | some x => match takeRows s r with
          | some (y, nm) => some ((x, y), (i, b) :: nm)
          | none => none
        | none => none else none
      | _ => none
    | none => none
def nodup : List Nat → Bool
  | [] => true
  | a :: r => !r.contains a && nodup r
def renOk (l : List (Nat × Nat)) : Bool := nodup (l.map (·.1)) && nodup ((l.map (·.2)).filter (· != 0))
def nmOk (l : List (Nat × Nat)) : Bool := nodup (l.map (·.1)) && nodup (l.map (·.2))
/-- Rows that are to be told as values are written no more. -/
def frzLive : Live → St → St
  | [], s => s
  | (i, _, _) :: r, s => frzLive r (frz1 s (.tmp i))
def Shape.take (sh : Shape) (s0 : St) : Option (El sh.ty) := match frzLive sh.live s0 with
  | s => if s.slots.length = sh.n then match takeSlots s.slots sh.live, takeBoxes s sh.boxes, takeRows s sh.rows with
    | some (x, l), some (y, m, nm), some (z, nm2) => if renOk (l ++ m) = true ∧ nmOk (nm ++ nm2) = true then some (x, y, z, ()) else none
    | _, _, _ => none else none
end Go.Sym
end
section
namespace Go.Sym
open Go.RowKit
set_option linter.unusedVariables false
set_option linter.unusedSimpArgs false

def renρ (ren : List (Nat × Nat)) (ρ : Nat → Option Nat) : Nat → Option Nat := fun m => match ren.lookup (m + 1) with
  | some (t + 1) => ρ t
  | _ => none
theorem renρ_some {ren : List (Nat × Nat)} {ρ : Nat → Option Nat} {m g : Nat} (h : renρ ren ρ m = some g) : ∃ t, ren.lookup (m + 1) = some (t + 1) ∧ ρ t = some g := by
  unfold renρ at h
  split at h
  · rename_i t ht
    exact ⟨t, ht, h⟩
  · cases h
theorem look_mem {l : List (Nat × Nat)} {a b : Nat} (h : l.lookup a = some b) : (a, b) ∈ l := by
  induction l with
  | nil => cases h
  | cons p r ih =>
    rw [List.lookup_cons] at h
    split at h
    · rename_i q
      cases h
      rw [beq_iff_eq] at q
      rw [q]
      exact List.mem_cons_self
    · exact List.mem_cons_of_mem _ (ih h)
theorem nodup_look : ∀ {l : List (Nat × Nat)}, nodup (l.map (·.1)) = true → ∀ p ∈ l, l.lookup p.1 = some p.2
  | q :: r, h, p, hp => by
    rw [List.map_cons, nodup, Bool.and_eq_true] at h
    rw [List.lookup_cons]
    rcases List.mem_cons.1 hp with rfl | hp
    · simp
    · have hne : (p.1 == q.1) = false := by
        cases e : p.1 == q.1 with
        | false => rfl
        | true =>
          have hc := h.1
          rw [beq_iff_eq] at e
          have : (r.map (·.1)).contains q.1 = true := by rw [List.contains_iff_mem, ← e]; exact List.mem_map_of_mem hp
          rw [this] at hc
          cases hc
      rw [hne]
      exact nodup_look h.2 p hp
theorem nodup_vals : ∀ {l : List (Nat × Nat)}, nodup ((l.map (·.2)).filter (· != 0)) = true → ∀ p ∈ l, ∀ q ∈ l, p.2 = q.2 → p.2 ≠ 0 → p = q
  | x :: r, h, p, hp, q, hq, e, hn => by
    rw [List.map_cons] at h
    by_cases c : x.2 = 0
    · rw [List.filter_cons_of_neg (by simp [c])] at h
      rcases List.mem_cons.1 hp with rfl | hp
      · exact absurd c hn
      · rcases List.mem_cons.1 hq with rfl | hq
        · exact absurd (e.trans c) hn
        · exact nodup_vals h p hp q hq e hn
    · rw [List.filter_cons_of_pos (by simpa using c), nodup, Bool.and_eq_true] at h
      have key : ∀ y ∈ r, y.2 = x.2 → False := fun y hy ey => by
        have hc := h.1
        have : ((r.map (·.2)).filter (· != 0)).contains x.2 = true := by
          rw [List.contains_iff_mem, List.mem_filter]
          exact ⟨by rw [← ey]; exact List.mem_map_of_mem hy, by simpa using c⟩
        rw [this] at hc
        cases hc
      rcases List.mem_cons.1 hp with rfl | hp
      · rcases List.mem_cons.1 hq with rfl | hq
        · rfl
        · exact (key q hq e.symm).elim
      · rcases List.mem_cons.1 hq with rfl | hq
        · exact (key _ ‹p ∈ r› e).elim
        · exact nodup_vals h.2 p hp q hq e hn
theorem tagMask_mono {i : Nat} : ∀ {g : List TE} {u : Nat}, u.testBit i = true → (tagMask g u).testBit i = true
  | [], u, h => h
  | te :: r, u, h => by
    show (tagMask r (u ||| 1 <<< (te.tag - 1))).testBit i = true
    exact tagMask_mono (by rw [Nat.testBit_or, h]; rfl)
theorem tagMask_bit : ∀ {g : List TE} {u : Nat} {te : TE}, te ∈ g → (tagMask g u).testBit (te.tag - 1) = true
  | t :: r, u, te, h => by
    show (tagMask r (u ||| 1 <<< (t.tag - 1))).testBit (te.tag - 1) = true
    rcases List.mem_cons.1 h with rfl | h
    · exact tagMask_mono (by rw [Nat.testBit_or, Nat.one_shiftLeft]; simp [Nat.testBit_two_pow_self])
    · exact tagMask_bit h
theorem liveMask_mono {i : Nat} : ∀ {l : Live} {u : Nat}, u.testBit i = true → (liveMask l u).testBit i = true
  | [], u, h => h
  | (_, _, g) :: r, u, h => by
    show (liveMask r (tagMask g u)).testBit i = true
    exact liveMask_mono (tagMask_mono h)
theorem liveMask_bit : ∀ {l : Live} {u : Nat} {p : Nat × Ty × List TE} {te : TE}, p ∈ l → te ∈ p.2.2 → (liveMask l u).testBit (te.tag - 1) = true
  | (_, _, g) :: r, u, p, te, h, ht => by
    show (liveMask r (tagMask g u)).testBit (te.tag - 1) = true
    rcases List.mem_cons.1 h with rfl | h
    · exact liveMask_mono (tagMask_bit ht)
    · exact liveMask_bit h ht
theorem renG_mem : ∀ {g g1 : List TE} {l : List (Nat × Nat)}, renG g1 g = some l → ∀ p ∈ l, p.1 ≠ 0 ∧ ∃ te ∈ g, te.tag = p.1
  | [], g1, l, h, p, hp => by cases h; cases hp
  | te :: r, g1, l, h, p, hp => by
    unfold renG at h
    split at h
    · rename_i t ht
      split at h
      · cases h
      · rename_i hz
        obtain ⟨l1, h1, rfl⟩ := Option.map_eq_some_iff.1 h
        rcases List.mem_cons.1 hp with rfl | hp
        · exact ⟨hz, te, List.mem_cons_self, rfl⟩
        · obtain ⟨q1, te1, q2, q3⟩ := renG_mem h1 p hp
          exact ⟨q1, te1, List.mem_cons_of_mem _ q2, q3⟩
    · cases h
section
variable {M : Nat → Prop} {w0 w : World} {F0 F : Nat → Nat} {γ : Nat → Nat} {ρ : Nat → Option Nat} {s : St} {a : Act} {B : Nat → Prop} {ren : List (Nat × Nat)}
theorem renG_rep {cs : Array Value} : ∀ {g g1 : List TE} {l : List (Nat × Nat)}, renG g1 g = some l → (∀ p ∈ l, ren.lookup p.1 = some p.2) → TagsV F w B ρ g1 cs → TagsV F w B (renρ ren ρ) g cs
  | [], g1, l, h, hl, ht => fun te hte => by cases hte
  | te :: r, g1, l, h, hl, ht => by
    unfold renG at h
    split at h
    · rename_i t hf
      split at h
      · cases h
      · rename_i hz
        obtain ⟨l1, h1, rfl⟩ := Option.map_eq_some_iff.1 h
        have ih := renG_rep h1 (fun p hp => hl p (List.mem_cons_of_mem _ hp)) ht
        intro te1 hte
        rcases List.mem_cons.1 hte with rfl | hte
        · have hp := List.find?_some hf
          simp only [Bool.and_eq_true, beq_iff_eq] at hp
          obtain ⟨u, hu, hv⟩ := ht t (List.mem_of_find?_eq_some hf)
          refine ⟨u, by rw [← hp.1.1]; exact hu, ?_⟩
          rcases hv with hv | ⟨n, b, len, cap, cur, k1, rfl, k2, k3, k4, k5, k6, k7⟩
          · exact .inl hv
          · obtain ⟨m, hm⟩ : ∃ m, te1.tag = m + 1 := ⟨te1.tag - 1, by omega⟩
            have hlk := hl _ List.mem_cons_self
            simp only at hlk
            rw [hm, k1] at hlk
            rw [hp.2] at k4 k6
            rw [hp.1.2] at k5
            exact .inr ⟨m, b, len, cap, cur, hm, rfl, by unfold renρ; rw [hlk]; exact k2, k3, k4, k5, k6, k7⟩
        · exact ih te1 hte
    · cases h
/-- The blocks by the new names. -/
def nmγ (nm : List (Nat × Nat)) (γ : Nat → Nat) : Nat → Nat := fun i => match nm.lookup i with
  | some b => γ b
  | none => 0
/-- Every slot is told. -/
def Good (F : Nat → Nat) (w : World) (B : Nat → Prop) (γ : Nat → Nat) (ρ : Nat → Option Nat) (a : Act) (S : List AV) : Prop := ∀ i av, S[i]? = some av → RepA F w B γ ρ av (a.tmps.getD i undef)
theorem Good.set {S : List AV} (h : Good F w B γ ρ a S) {i : Nat} {av : AV} (hv : RepA F w B γ ρ av (a.tmps.getD i undef)) : Good F w B γ ρ a (S.set i av) := by
  intro j x hj
  rw [List.getElem?_set] at hj
  split at hj
  · rename_i q
    subst q
    split at hj
    · cases hj
      exact hv
    · cases hj
  · exact h j x hj
theorem slots_good {γ1 : Nat → Nat} (h : RelG M w0 F0 F γ ρ s a w) : ∀ {l : Live} {y : El (tyOf l)} {m : List (Nat × Nat)} {S : List AV}, takeSlots s.slots l = some (y, m) → (∀ p ∈ m, ren.lookup p.1 = some p.2) →
    Good F w (own M w0) γ1 (renρ ren ρ) a S → Good F w (own M w0) γ1 (renρ ren ρ) a (mkSlots l y S)
  | [], y, m, S, ht, hl, hS => hS
  | (i, t, g) :: r, y, m, S, ht, hl, hS => by
    unfold takeSlots at ht
    split at ht
    · rename_i x g1 hx
      split at ht
      · rename_i l1 h1
        split at ht
        · rename_i y1 m1 h2
          cases ht
          have hev := AV.as_rep (h.ev (.tmp i)) hx
          have hv : RepA F w (own M w0) γ1 (renρ ren ρ) (.v t x g) (a.tmps.getD i undef) := ⟨hev.1, renG_rep h1 (fun p hp => hl p (List.mem_append_left _ hp)) hev.2⟩
          show Good F w (own M w0) γ1 (renρ ren ρ) a (mkSlots r y1 (S.set i (.v t x g)))
          exact slots_good h h2 (fun p hp => hl p (List.mem_append_right _ hp)) (hS.set hv)
        · cases ht
      · cases ht
    · cases ht
theorem ptrOf_eq {b : Nat} {av : AV} (h : ptrOf av = some b) : av = .ptr b 0 := by
  unfold ptrOf at h
  split at h
  · cases h; rfl
  · cases h
theorem mwOf_eq {b : Nat} {av : AV} (h : mwOf av = some b) : ∃ e n, av = .mw e b n := by
  unfold mwOf at h
  split at h
  · cases h; exact ⟨_, _, rfl⟩
  · cases h
theorem ptrs_good {ρ1 : Nat → Option Nat} {nm0 : List (Nat × Nat)} (h : RelG M w0 F0 F γ ρ s a w) : ∀ {l : Live} {y : El (tyOf l)} {m nm : List (Nat × Nat)} {S : List AV}, takeBoxes s l = some (y, m, nm) → (∀ p ∈ nm, nm0.lookup p.1 = some p.2) →
    Good F w (own M w0) (nmγ nm0 γ) ρ1 a S → Good F w (own M w0) (nmγ nm0 γ) ρ1 a (mkPtrs l S)
  | [], y, m, nm, S, ht, hl, hS => hS
  | (i, t, g) :: r, y, m, nm, S, ht, hl, hS => by
    unfold takeBoxes at ht
    split at ht
    · rename_i b hp
      split at ht
      · split at ht
        · split at ht
          · split at ht
            · rename_i y1 m1 nm1 h2
              cases ht
              have hev := h.ev (.tmp i)
              rw [show s.ev (.tmp i) = s.slots.getD i .junk from rfl, ptrOf_eq hp] at hev
              have hv : RepA F w (own M w0) (nmγ nm0 γ) ρ1 (.ptr i 0) (a.tmps.getD i undef) := by
                show _ = Value.pointer (some ⟨nmγ nm0 γ i, 0, none⟩)
                unfold nmγ
                rw [hl (i, b) List.mem_cons_self]
                exact hev
              show Good F w (own M w0) (nmγ nm0 γ) ρ1 a (mkPtrs r (S.set i (.ptr i 0)))
              exact ptrs_good h h2 (fun p hp => hl p (List.mem_cons_of_mem _ hp)) (hS.set hv)
            · cases ht
          · cases ht
        · cases ht
      · cases ht
    · cases ht
theorem rows_good {ρ1 : Nat → Option Nat} {nm0 : List (Nat × Nat)} (h : RelG M w0 F0 F γ ρ s a w) : ∀ {l : RowsL} {y : El (tyRows l)} {nm : List (Nat × Nat)} {S : List AV}, takeRows s l = some (y, nm) → (∀ p ∈ nm, nm0.lookup p.1 = some p.2) →
    Good F w (own M w0) (nmγ nm0 γ) ρ1 a S → Good F w (own M w0) (nmγ nm0 γ) ρ1 a (mkRows l y S)
  | [], y, nm, S, ht, hl, hS => hS
  | (i, some n, ety, e) :: r, y, nm, S, ht, hl, hS => by
    unfold takeRows at ht
    split at ht
    · rename_i b hp
      split at ht
      · split at ht
        · split at ht
          · split at ht
            · rename_i y1 nm1 h2
              cases ht
              have hev := h.ev (.tmp i)
              rw [show s.ev (.tmp i) = s.slots.getD i .junk from rfl, ptrOf_eq hp] at hev
              have hv : RepA F w (own M w0) (nmγ nm0 γ) ρ1 (.ptr i 0) (a.tmps.getD i undef) := by
                show _ = Value.pointer (some ⟨nmγ nm0 γ i, 0, none⟩)
                unfold nmγ
                rw [hl (i, b) List.mem_cons_self]
                exact hev
              show Good F w (own M w0) (nmγ nm0 γ) ρ1 a (mkRows r y1 (S.set i (.ptr i 0)))
              exact rows_good h h2 (fun p hp => hl p (List.mem_cons_of_mem _ hp)) (hS.set hv)
            · cases ht
          · cases ht
        · cases ht
      · cases ht
    · cases ht
  | (i, none, ety, e) :: r, y, nm, S, ht, hl, hS => by
    unfold takeRows at ht
    split at ht
    · rename_i b hp
      split at ht
      · rename_i ety1 e1 n1 z hX
        split at ht
        · split at ht
          · rename_i x hx
            split at ht
            · rename_i y1 nm1 h2
              cases ht
              obtain ⟨e2, n2, e3⟩ := mwOf_eq hp
              have hev := h.ev (.tmp i)
              have hwf := h.evwf (.tmp i)
              rw [show s.ev (.tmp i) = s.slots.getD i .junk from rfl, e3] at hev hwf
              have hn : n2 = n1 := hwf n1 (by unfold rowN; rw [hX])
              obtain ⟨_, _, _, cs, tid, _, _, _, _, q8, _⟩ := h.box b _ (lookup_mem hX)
              obtain ⟨c1, c2⟩ := castEl_eq hx
              cases c1
              cases c2
              have hv : RepA F w (own M w0) (nmγ nm0 γ) ρ1 (.mw e i z.length) (a.tmps.getD i undef) := by
                show _ = Value.slice (some ⟨nmγ nm0 γ i, 0, none⟩) _ _
                unfold nmγ
                rw [hl (i, b) List.mem_cons_self]
                rw [q8, ← hn]
                exact hev
              show Good F w (own M w0) (nmγ nm0 γ) ρ1 a (mkRows r y1 (S.set i (.mw e i z.length)))
              exact rows_good h h2 (fun p hp => hl p (List.mem_cons_of_mem _ hp)) (hS.set hv)
            · cases ht
          · cases ht
        · cases ht
      · cases ht
    · cases ht
theorem boxes_ok {nm0 : List (Nat × Nat)} (h : RelG M w0 F0 F γ ρ s a w) : ∀ {l : Live} {y : El (tyOf l)} {m nm : List (Nat × Nat)}, takeBoxes s l = some (y, m, nm) → (∀ p ∈ m, ren.lookup p.1 = some p.2) → (∀ p ∈ nm, nm0.lookup p.1 = some p.2) →
    ∀ i bx, (i, bx) ∈ mkBoxes l y → BxOk F w (own M w0) (nmγ nm0 γ) (renρ ren ρ) i bx ∧ ∃ b X, nm0.lookup i = some b ∧ (b, X) ∈ s.boxes
  | [], y, m, nm, ht, hl, hn, i, bx, hb => by cases hb
  | (i0, t, g) :: r, y, m, nm, ht, hl, hn, i, bx, hb => by
    unfold takeBoxes at ht
    split at ht
    · rename_i b hp
      split at ht
      · rename_i u z gz hX
        split at ht
        · rename_i x hx
          split at ht
          · rename_i l1 h1
            split at ht
            · rename_i y1 m1 nm1 h2
              cases ht
              rcases List.mem_cons.1 hb with q | q
              · cases q
                have hmem := lookup_mem hX
                have hlk := hn (i0, b) List.mem_cons_self
                have e1 : nmγ nm0 γ i0 = γ b := by unfold nmγ; rw [hlk]
                obtain ⟨q1, q2, q3, cs, tid, q4, q5, q6⟩ := h.box b _ hmem
                refine ⟨?_, b, _, hlk, hmem⟩
                unfold BxOk
                rw [e1]
                refine ⟨q1, q2, fun n hn => ?_, cs, tid, q4, q5.cast hx, renG_rep h1 (fun p hp => hl p (List.mem_append_left _ hp)) q6⟩
                obtain ⟨t1, _, k2⟩ := renρ_some hn
                exact q3 t1 k2
              · exact boxes_ok h h2 (fun p hp => hl p (List.mem_append_right _ hp)) (fun p hp => hn p (List.mem_cons_of_mem _ hp)) i bx q
            · cases ht
          · cases ht
        · cases ht
      · cases ht
    · cases ht
theorem row_ok {nm0 : List (Nat × Nat)} {i b ety n : Nat} {e : Ty} {l : List (El e)} (h : RelG M w0 F0 F γ ρ s a w) (hX : s.boxes.lookup b = some (.row ety e n l)) (hlk : nm0.lookup i = some b) :
    BxOk F w (own M w0) (nmγ nm0 γ) (renρ ren ρ) i (.row ety e n l) ∧ l.length = n ∧ ∃ b X, nm0.lookup i = some b ∧ (b, X) ∈ s.boxes := by
  have hmem := lookup_mem hX
  have e1 : nmγ nm0 γ i = γ b := by unfold nmγ; rw [hlk]
  obtain ⟨q1, q2, q3, cs, tid, q4, q5⟩ := h.box b _ hmem
  refine ⟨?_, q5.2.2.2.1, b, _, hlk, hmem⟩
  unfold BxOk
  rw [e1]
  refine ⟨q1, q2, fun n hn => ?_, cs, tid, q4, q5⟩
  obtain ⟨t1, _, k2⟩ := renρ_some hn
  exact q3 t1 k2
theorem rbs_ok {nm0 : List (Nat × Nat)} (h : RelG M w0 F0 F γ ρ s a w) : ∀ {l : RowsL} {y : El (tyRows l)} {nm : List (Nat × Nat)}, takeRows s l = some (y, nm) → (∀ p ∈ nm, nm0.lookup p.1 = some p.2) →
    ∀ i bx, (i, bx) ∈ mkRB l y → BxOk F w (own M w0) (nmγ nm0 γ) (renρ ren ρ) i bx ∧ ∃ b X, nm0.lookup i = some b ∧ (b, X) ∈ s.boxes
  | [], y, nm, ht, hn, i, bx, hb => by cases hb
  | (i0, some n0, ety, e) :: r, y, nm, ht, hn, i, bx, hb => by
    unfold takeRows at ht
    split at ht
    · rename_i b hp
      split at ht
      · rename_i ety1 e1 n1 z hX
        split at ht
        · rename_i hc
          split at ht
          · rename_i x hx
            split at ht
            · rename_i y1 nm1 h2
              cases ht
              obtain ⟨c1, c2⟩ := castEl_eq hx
              cases c1
              cases c2
              obtain ⟨rfl, rfl⟩ := hc
              obtain ⟨k1, k2, k3⟩ := row_ok (ren := ren) (nm0 := nm0) h hX (hn (i0, b) List.mem_cons_self)
              rcases List.mem_cons.1 hb with q | q
              · cases q
                exact ⟨k1, k3⟩
              · exact rbs_ok h h2 (fun p hp => hn p (List.mem_cons_of_mem _ hp)) i bx q
            · cases ht
          · cases ht
        · cases ht
      · cases ht
    · cases ht
  | (i0, none, ety, e) :: r, y, nm, ht, hn, i, bx, hb => by
    unfold takeRows at ht
    split at ht
    · rename_i b hp
      split at ht
      · rename_i ety1 e1 n1 z hX
        split at ht
        · rename_i hc
          split at ht
          · rename_i x hx
            split at ht
            · rename_i y1 nm1 h2
              cases ht
              obtain ⟨c1, c2⟩ := castEl_eq hx
              cases c1
              cases c2
              subst hc
              obtain ⟨k1, k2, k3⟩ := row_ok (ren := ren) (nm0 := nm0) h hX (hn (i0, b) List.mem_cons_self)
              rcases List.mem_cons.1 hb with q | q
              · cases q
                simp only
                rw [k2]
                exact ⟨k1, k3⟩
              · exact rbs_ok h h2 (fun p hp => hn p (List.mem_cons_of_mem _ hp)) i bx q
            · cases ht
          · cases ht
        · cases ht
      · cases ht
    · cases ht
theorem takeSlots_mem {S : List AV} : ∀ {l : Live} {y : El (tyOf l)} {m : List (Nat × Nat)}, takeSlots S l = some (y, m) → ∀ p ∈ m, p.1 ≠ 0 ∧ ∃ q ∈ l, ∃ te ∈ q.2.2, te.tag = p.1
  | [], y, m, ht, p, hp => by cases ht; cases hp
  | (i, t, g) :: r, y, m, ht, p, hp => by
    unfold takeSlots at ht
    split at ht
    · split at ht
      · rename_i l1 h1
        split at ht
        · rename_i y1 m1 h2
          cases ht
          rcases List.mem_append.1 hp with c | c
          · obtain ⟨k1, te, k2, k3⟩ := renG_mem h1 p c
            exact ⟨k1, _, List.mem_cons_self, te, k2, k3⟩
          · obtain ⟨k1, q, k2, k3⟩ := takeSlots_mem h2 p c
            exact ⟨k1, q, List.mem_cons_of_mem _ k2, k3⟩
        · cases ht
      · cases ht
    · cases ht
theorem takeBoxes_mem : ∀ {l : Live} {y : El (tyOf l)} {m nm : List (Nat × Nat)}, takeBoxes s l = some (y, m, nm) → ∀ p ∈ m, p.1 ≠ 0 ∧ ∃ q ∈ l, ∃ te ∈ q.2.2, te.tag = p.1
  | [], y, m, nm, ht, p, hp => by cases ht; cases hp
  | (b, t, g) :: r, y, m, nm, ht, p, hp => by
    unfold takeBoxes at ht
    split at ht
    · split at ht
      · split at ht
        · split at ht
          · rename_i l1 h1
            split at ht
            · rename_i y1 m1 nm1 h2
              cases ht
              rcases List.mem_append.1 hp with c | c
              · obtain ⟨k1, te, k2, k3⟩ := renG_mem h1 p c
                exact ⟨k1, _, List.mem_cons_self, te, k2, k3⟩
              · obtain ⟨k1, q, k2, k3⟩ := takeBoxes_mem h2 p c
                exact ⟨k1, q, List.mem_cons_of_mem _ k2, k3⟩
            · cases ht
          · cases ht
        · cases ht
      · cases ht
    · cases ht
theorem mkSlots_len : ∀ {l : Live} {y : El (tyOf l)} {S : List AV}, (mkSlots l y S).length = S.length
  | [], _, _ => rfl
  | (i, t, g) :: r, y, S => by rw [mkSlots, mkSlots_len, List.length_set]
theorem mkPtrs_len : ∀ {l : Live} {S : List AV}, (mkPtrs l S).length = S.length
  | [], _ => rfl
  | (i, t, g) :: r, S => by rw [mkPtrs, mkPtrs_len, List.length_set]
theorem mkRows_len : ∀ {l : RowsL} {y : El (tyRows l)} {S : List AV}, (mkRows l y S).length = S.length
  | [], _, _ => rfl
  | (i, some n, ety, e) :: r, y, S => by rw [mkRows, mkRows_len, List.length_set]
  | (i, none, ety, e) :: r, y, S => by rw [mkRows, mkRows_len, List.length_set]
/-- What a shape lays is in order. -/
def Plain (av : AV) : Prop := ∀ bx, avWf bx av
theorem mkSlots_plain : ∀ {l : Live} {y : El (tyOf l)} {S : List AV}, (∀ av ∈ S, Plain av) → ∀ av ∈ mkSlots l y S, Plain av
  | [], _, _, h => h
  | (i, t, g) :: r, y, S, h => mkSlots_plain (l := r) (y := y.2) (S := S.set i (.v t y.1 g)) (fun av hav => by
    rcases List.mem_or_eq_of_mem_set hav with q | rfl
    · exact h av q
    · exact fun _ => trivial)
theorem mkPtrs_plain : ∀ {l : Live} {S : List AV}, (∀ av ∈ S, Plain av) → ∀ av ∈ mkPtrs l S, Plain av
  | [], _, h => h
  | (i, t, g) :: r, S, h => mkPtrs_plain (l := r) (S := S.set i (.ptr i 0)) (fun av hav => by
    rcases List.mem_or_eq_of_mem_set hav with q | rfl
    · exact h av q
    · exact fun _ => trivial)
/-- A slot of a state that a shape lays: plain, or a row with its length. -/
def RowIs (bx : List (Nat × Bx)) (av : AV) : Prop := Plain av ∨ ∃ e b l ety, av = .mw e b (List.length l) ∧ bx.lookup b = some (.row ety e l.length l)
theorem mkRows_wf {bx : List (Nat × Bx)} : ∀ {l : RowsL} {y : El (tyRows l)} {S : List AV}, (∀ i X, (i, X) ∈ mkRB l y → bx.lookup i = some X) → (∀ av ∈ S, RowIs bx av) → ∀ av ∈ mkRows l y S, RowIs bx av
  | [], _, _, _, h => h
  | (i, some n, ety, e) :: r, y, S, hb, h => mkRows_wf (l := r) (y := y.2) (S := S.set i (.ptr i 0)) (fun j X hj => hb j X (List.mem_cons_of_mem _ hj)) (fun av hav => by
    rcases List.mem_or_eq_of_mem_set hav with q | rfl
    · exact h av q
    · exact .inl fun _ => trivial)
  | (i, none, ety, e) :: r, y, S, hb, h => mkRows_wf (l := r) (y := y.2) (S := S.set i (.mw e i y.1.length)) (fun j X hj => hb j X (List.mem_cons_of_mem _ hj)) (fun av hav => by
    rcases List.mem_or_eq_of_mem_set hav with q | rfl
    · exact h av q
    · exact .inr ⟨e, i, y.1, ety, rfl, hb i _ List.mem_cons_self⟩)
theorem frzLive_sound : ∀ (l : Live) {s : St}, Rel M w0 F0 s a w → Rel M w0 F0 (frzLive l s) a w
  | [], s, h => h
  | (i, _, _) :: r, s, h => frzLive_sound r (frz1_sound h _)
theorem mkBoxes_names : ∀ {l : Live} {y : El (tyOf l)} {m nm : List (Nat × Nat)}, takeBoxes s l = some (y, m, nm) → (mkBoxes l y).map (·.1) = nm.map (·.1)
  | [], y, m, nm, ht => by cases ht; rfl
  | (i, t, g) :: r, y, m, nm, ht => by
    unfold takeBoxes at ht
    split at ht
    · split at ht
      · split at ht
        · split at ht
          · split at ht
            · rename_i y1 m1 nm1 h2
              cases ht
              show i :: (mkBoxes r y1).map (·.1) = i :: nm1.map (·.1)
              rw [mkBoxes_names h2]
            · cases ht
          · cases ht
        · cases ht
      · cases ht
    · cases ht
theorem mkRB_names : ∀ {l : RowsL} {y : El (tyRows l)} {nm : List (Nat × Nat)}, takeRows s l = some (y, nm) → (mkRB l y).map (·.1) = nm.map (·.1)
  | [], y, nm, ht => by cases ht; rfl
  | (i, some n, ety, e) :: r, y, nm, ht => by
    unfold takeRows at ht
    split at ht
    · split at ht
      · split at ht
        · split at ht
          · split at ht
            · rename_i y1 nm1 h2
              cases ht
              show i :: (mkRB r y1).map (·.1) = i :: nm1.map (·.1)
              rw [mkRB_names h2]
            · cases ht
          · cases ht
        · cases ht
      · cases ht
    · cases ht
  | (i, none, ety, e) :: r, y, nm, ht => by
    unfold takeRows at ht
    split at ht
    · split at ht
      · split at ht
        · split at ht
          · split at ht
            · rename_i y1 nm1 h2
              cases ht
              show i :: (mkRB r y1).map (·.1) = i :: nm1.map (·.1)
              rw [mkRB_names h2]
            · cases ht
          · cases ht
        · cases ht
      · cases ht
    · cases ht
theorem nodup_lookB : ∀ {l : List (Nat × Bx)}, nodup (l.map (·.1)) = true → ∀ p ∈ l, l.lookup p.1 = some p.2
  | q :: r, h, p, hp => by
    rw [List.map_cons, nodup, Bool.and_eq_true] at h
    rw [List.lookup_cons]
    rcases List.mem_cons.1 hp with rfl | hp
    · simp
    · have hne : (p.1 == q.1) = false := by
        cases e : p.1 == q.1 with
        | false => rfl
        | true =>
          have hc := h.1
          rw [beq_iff_eq] at e
          have : (r.map (·.1)).contains q.1 = true := by rw [List.contains_iff_mem, ← e]; exact List.mem_map_of_mem hp
          rw [this] at hc
          cases hc
      rw [hne]
      exact nodup_lookB h.2 p hp
theorem nodup_snd : ∀ {l : List (Nat × Nat)}, nodup (l.map (·.2)) = true → ∀ p ∈ l, ∀ q ∈ l, p.2 = q.2 → p = q
  | x :: r, h, p, hp, q, hq, e => by
    rw [List.map_cons, nodup, Bool.and_eq_true] at h
    have key : ∀ y ∈ r, y.2 = x.2 → False := fun y hy ey => by
      have hc := h.1
      have : (r.map (·.2)).contains x.2 = true := by
        rw [List.contains_iff_mem, ← ey]
        exact List.mem_map_of_mem hy
      rw [this] at hc
      cases hc
    rcases List.mem_cons.1 hp with rfl | hp
    · rcases List.mem_cons.1 hq with rfl | hq
      · rfl
      · exact (key q hq e.symm).elim
    · rcases List.mem_cons.1 hq with rfl | hq
      · exact (key _ ‹p ∈ r› e).elim
      · exact nodup_snd h.2 p hp q hq e
/-- THE LAW: what a state is told anew by a shape is told still. -/
theorem take_sound {sh : Shape} {y : El sh.ty} (h : Rel M w0 F0 s a w) (ht : sh.take s = some y) : Rel M w0 F0 (sh.mk' y) a w := by
  unfold Shape.take at ht
  have h := frzLive_sound sh.live h
  generalize frzLive sh.live s = s at *
  simp only at ht
  obtain ⟨F, γ, ρ, h⟩ := h
  split at ht
  · rename_i hlen
    split at ht
    · rename_i x l z m nm u nm2 hx hz hu
      split at ht
      · rename_i hc
        obtain ⟨hren, hnm⟩ := hc
        cases ht
        unfold renOk at hren
        unfold nmOk at hnm
        rw [Bool.and_eq_true] at hren hnm
        have hlk := nodup_look hren.1
        have hnlk := nodup_look hnm.1
        have hmem : ∀ p ∈ l ++ m, p.1 ≠ 0 ∧ ∃ q, (q ∈ sh.live ∨ q ∈ sh.boxes) ∧ ∃ te ∈ q.2.2, te.tag = p.1 := fun p hp => by
          rcases List.mem_append.1 hp with c | c
          · obtain ⟨k1, q, k2, k3⟩ := takeSlots_mem hx p c
            exact ⟨k1, q, .inl k2, k3⟩
          · obtain ⟨k1, q, k2, k3⟩ := takeBoxes_mem hz p c
            exact ⟨k1, q, .inr k2, k3⟩
        have hbx : ∀ i bx, (i, bx) ∈ mkBoxes sh.boxes z ++ mkRB sh.rows u → BxOk F w (own M w0) (nmγ (nm ++ nm2) γ) (renρ (l ++ m) ρ) i bx ∧ ∃ b X, (nm ++ nm2).lookup i = some b ∧ (b, X) ∈ s.boxes := fun i bx hb => by
          rcases List.mem_append.1 hb with c | c
          · exact boxes_ok h hz (fun p hp => hlk p (List.mem_append_right _ hp)) (fun p hp => hnlk p (List.mem_append_left _ hp)) i bx c
          · exact rbs_ok h hu (fun p hp => hnlk p (List.mem_append_right _ hp)) i bx c
        refine ⟨F, nmγ (nm ++ nm2) γ, renρ (l ++ m) ρ, { defers := h.defers, below := h.below, fold := h.fold, ext := h.ext, fin := h.fin, len := ?_, slot := ?_, box := ?_, boxinj := ?_, rowlt := ?_, rowinj := ?_, rowused := ?_, wf := ?_ }⟩
        · rw [← h.len, hlen]
          simp only [Shape.mk', mkRows_len, mkPtrs_len, mkSlots_len, List.length_replicate]
        · refine rows_good h hu (fun p hp => hnlk p (List.mem_append_right _ hp)) (ptrs_good h hz (fun p hp => hnlk p (List.mem_append_left _ hp)) (slots_good h hx (fun p hp => hlk p (List.mem_append_left _ hp)) ?_))
          intro i av hi
          rw [List.getElem?_replicate] at hi
          split at hi
          · cases hi
            trivial
          · cases hi
        · exact fun b bx hb => (hbx b bx hb).1
        · intro b b1 X X1 h1 h2 e
          obtain ⟨_, c, Z, e1, z1⟩ := hbx b X h1
          obtain ⟨_, c1, Z1, e2, z2⟩ := hbx b1 X1 h2
          have e : (match (nm ++ nm2).lookup b with | some b => γ b | none => 0) = (match (nm ++ nm2).lookup b1 with | some b => γ b | none => 0) := e
          rw [e1, e2] at e
          have ec := h.boxinj c c1 Z Z1 z1 z2 e
          have := nodup_snd hnm.2 _ (look_mem e1) _ (look_mem e2) ec
          exact congrArg Prod.fst this
        · intro n g hn
          obtain ⟨t, _, h2⟩ := renρ_some hn
          exact h.rowlt t g h2
        · intro n n1 g hn hn1
          obtain ⟨t, h1, h2⟩ := renρ_some hn
          obtain ⟨t1, h3, h4⟩ := renρ_some hn1
          have e := h.rowinj t t1 g h2 h4
          subst e
          have := nodup_vals hren.2 _ (look_mem h1) _ (look_mem h3) rfl (by simp)
          have := congrArg Prod.fst this
          simp only at this
          omega
        · intro n g hn
          obtain ⟨t, h1, _⟩ := renρ_some hn
          obtain ⟨_, q, hq, te, k1, k2⟩ := hmem _ (look_mem h1)
          have e : te.tag - 1 = n := by simp only at k2; omega
          rw [← e]
          rcases hq with hq | hq
          · exact liveMask_mono (liveMask_bit hq k1)
          · exact liveMask_bit hq k1
        · have hnames : nodup ((mkBoxes sh.boxes z ++ mkRB sh.rows u).map (·.1)) = true := by
            rw [List.map_append, mkBoxes_names hz, mkRB_names hu, ← List.map_append]
            exact hnm.1
          have hlkB := nodup_lookB hnames
          have hall := mkRows_wf (bx := mkBoxes sh.boxes z ++ mkRB sh.rows u) (l := sh.rows) (y := u) (S := mkPtrs sh.boxes (mkSlots sh.live x (List.replicate sh.n .junk))) (fun i X hi => hlkB (i, X) (List.mem_append_right _ hi)) (fun av hav => .inl (mkPtrs_plain (mkSlots_plain (fun av hav => by rw [List.eq_of_mem_replicate hav]; exact fun _ => trivial)) av hav))
          intro av hav
          rcases hall av hav with q | ⟨e, b, lst, ety, rfl, q⟩
          · exact q _
          · intro k hk
            have hk : rowN (mkBoxes sh.boxes z ++ mkRB sh.rows u) b = some k := hk
            unfold rowN at hk
            rw [q] at hk
            exact Option.some.inj hk
      · cases ht
    · cases ht
  · cases ht
end
end Go.Sym
end
section
namespace Go.Sym
open Go.RowKit
set_option linter.unusedVariables false
set_option linter.unusedSimpArgs false

/-- A place of the code (a region's number; for a loop: the first region of its round) where the state is told anew, and the function that says what comes behind it. -/
structure Cut (R : Type) where
  key : Nat
  shape : Shape
  fn : Nat → El shape.ty → Option R
structure Env (R : Type) where
  Y : Nat → Option Callee
  T : Tab
  loops : List (Cut R)
  joins : List (Cut R)
  ret : St → Option R
section
variable {R : Type}
def cutAt (n : Nat) : List (Cut R) → Option (Cut R)
  | [] => none
  | c :: r => if c.key = n then some c else cutAt n r
def Cut.enter (c : Cut R) (k : Nat) (s : St) : Option R := match c.shape.take s with
  | some y => c.fn k y
  | none => none
def headOf : Code → Option Nat
  | .region id _ _ => some id
  | .seq a _ => headOf a
  | .block _ a => headOf a
  | _ => none
def regK (E : Env R) (k : Nat) (ops : Array Oper) (draw : Bool) (s : St) (N : St → Option R) : Option R := match draw with
  | false => opsF E.Y E.T k ops ops.toList s N
  | true => match drawOk E.T ops with
    | true => opsK E.Y E.T k ops ops.toList (frzAll ops.toList s) N
    | false => match (drawOk2 E.T ops && ptrOk ops (frzAll ops.toList s)) || (drawOk3 E.T ops && freshOk ops (frzAll ops.toList s)) with
      | true => opsK E.Y E.T k ops ops.toList (frzAll ops.toList s) N
      | false => none
def codeK (E : Env R) (k : Nat) : Code → St → (Nat → St → Option R) → (St → Option R) → Option R
  | .skip, s, X, N => N s
  | .region id ops draw, s, X, N => match cutAt id E.joins with
    | some c => c.enter k s
    | none => regK E k ops draw s N
  | .seq a b, s, X, N => codeK E k a s X fun s => codeK E k b s X N
  | .cond (.tmp d) a b, s, X, N => guardK s d fun s t => match t with
    | true => codeK E k a s X N
    | false => codeK E k b s X N
  | .cond (.const (.bool t)) a b, s, X, N => match t with
    | true => codeK E k a s X N
    | false => codeK E k b s X N
  | .block id a, s, X, N => codeK E k a s (fun i s => match Nat.beq i id with
    | true => N s
    | false => X i s) N
  | .loop a, s, X, N => match headOf a with
    | some id => match cutAt id E.loops with
      | some c => c.enter k s
      | none => none
    | none => none
  | .exit id, s, X, N => X id s
  | .ret, s, X, N => E.ret s
  | _, _, _, _ => none
/-- What is owed: a cut's function, and what it must be. -/
structure Ob (R : Type) where
  ty : Ty
  l : Nat → El ty → Option R
  r : Nat → El ty → Option R
def oblig (E : Env R) : Code → (Nat → Nat → St → Option R) → (Nat → St → Option R) → List (Ob R)
  | .region id ops draw, X, N => match cutAt id E.joins with
    | some c => [⟨c.shape.ty, fun k y => c.fn (k + 1) y, fun k y => regK E k ops draw (c.shape.mk' y) (N k)⟩, ⟨c.shape.ty, fun _ y => c.fn 0 y, fun _ _ => none⟩]
    | none => []
  | .seq a b, X, N => oblig E a X (fun k s => codeK E k b s (X k) (N k)) ++ oblig E b X N
  | .cond _ a b, X, N => oblig E a X N ++ oblig E b X N
  | .block id a, X, N => oblig E a (fun k i s => match Nat.beq i id with
    | true => N k s
    | false => X k i s) N
  | .loop a, X, N => match headOf a with
    | some id => match cutAt id E.loops with
      | some c => ⟨c.shape.ty, fun k y => c.fn (k + 1) y, fun k y => codeK E k a (c.shape.mk' y) (X k) (c.enter k)⟩ :: ⟨c.shape.ty, fun _ y => c.fn 0 y, fun _ _ => none⟩ :: oblig E a X (fun k => c.enter k)
      | none => []
    | none => []
  | _, _, _ => []
def Ob.left (o : Ob R) : Σ t : Ty, Nat → El t → Option R := ⟨o.ty, o.l⟩
def Ob.right (o : Ob R) : Σ t : Ty, Nat → El t → Option R := ⟨o.ty, o.r⟩
/-- What is owed, as far as the cut's function says anything. -/
def Ob.Le (o : Ob R) : Prop := ∀ k y r, o.l k y = some r → o.r k y = some r
theorem obs_eq {l : List (Ob R)} (h : l.map Ob.left = l.map Ob.right) : ∀ o ∈ l, o.Le := by
  have key : ∀ (l : List (Ob R)), l.map Ob.left = l.map Ob.right → ∀ o ∈ l, o.l = o.r := by
    intro l h
    induction l with
    | nil => intro o ho; cases ho
    | cons p r ih =>
      rw [List.map_cons, List.map_cons, List.cons.injEq] at h
      intro o ho
      rcases List.mem_cons.1 ho with rfl | ho
      · have := h.1
        unfold Ob.left Ob.right at this
        exact eq_of_heq (Sigma.mk.inj this).2
      · exact ih h.2 o ho
  intro o ho k y r hr
  rw [← key l h o ho]
  exact hr
variable {P : Program} {M : Nat → Prop} {w0 : World} {F0 : Nat → Nat} {E : Env R} {r : R}
theorem reg_sound (hT : TabOk P E.T) (hY : ∀ f c, E.Y f = some c → CalleeOk P f c) (hL : Laid P w0) (hM : ∀ b, M b → startN P ≤ b) (hm : P.follows .mixedOrders = true) {k : Nat} {id : Nat} {ops : Array Oper} {draw : Bool} {s : St} {a : Act} {w : World} {N : St → Option R} {Q : Exit → Act → World → Prop}
    (hN : ∀ s1 a1 w1, N s1 = some r → Rel M w0 F0 s1 a1 w1 → Q .normal a1 w1) (h : Rel M w0 F0 s a w) (hk : regK E k ops draw s N = some r) : (Code.region id ops draw).wp P Q a w := by
  unfold regK at hk
  cases draw with
  | false => exact region_sound hT hY hL hM hN h hk
  | true =>
    simp only at hk
    split at hk
    · rename_i hd
      exact drawn_gen hT hY hL hM hm (draw_of hd) hN (frzAll_sound _ h) (fun _ => trivial) hk
    · split at hk
      · rename_i hd
        rw [Bool.or_eq_true, Bool.and_eq_true, Bool.and_eq_true] at hd
        rcases hd with hd | hd
        · exact drawn_gen hT hY hL hM hm (draw2_of hd.1) hN (frzAll_sound _ h) (fun _ => ptrOk_inv hd.2) hk
        · exact drawn_gen hT hY hL hM hm (draw3_of hd.1) hN (frzAll_sound _ h) (freshOk_inv hd.2) hk
      · cases hk
theorem least_ex {p : Nat → Prop} (h : ∃ n, p n) : ∃ n, p n ∧ ∀ m, p m → n ≤ m := by
  obtain ⟨n, hn⟩ := h
  induction n using Nat.strongRecOn with
  | _ n ih =>
    by_cases c : ∃ m, m < n ∧ p m
    · obtain ⟨m, h1, h2⟩ := c
      exact ih m h1 h2
    · exact ⟨n, hn, fun m hm => Nat.le_of_not_lt fun q => c ⟨m, q, hm⟩⟩
open Classical in
/-- How many rounds a loop may have, at least: for the measure. -/
noncomputable def least (p : Nat → Prop) : Nat := if h : ∃ n, p n then Classical.choose (least_ex h) else 0
theorem least_le {p : Nat → Prop} {n : Nat} (h : p n) : least p ≤ n := by
  unfold least
  rw [dif_pos ⟨n, h⟩]
  exact (Classical.choose_spec (least_ex ⟨n, h⟩)).2 n h
theorem least_at {p : Nat → Prop} (h : ∃ n, p n) : p (least p) := by
  unfold least
  rw [dif_pos h]
  exact (Classical.choose_spec (least_ex h)).1
def Cut.In (M : Nat → Prop) (w0 : World) (F0 : Nat → Nat) (c : Cut R) (r : R) (a : Act) (w : World) (k : Nat) : Prop := ∃ y, c.fn k y = some r ∧ Rel M w0 F0 (c.shape.mk' y) a w
theorem enter_in {c : Cut R} {k : Nat} {s : St} {a : Act} {w : World} (he : c.enter k s = some r) (h : Rel M w0 F0 s a w) : c.In M w0 F0 r a w k := by
  unfold Cut.enter at he
  split at he
  · rename_i y hy
    exact ⟨y, he, take_sound h hy⟩
  · cases he
theorem code_sound (hT : TabOk P E.T) (hY : ∀ f c, E.Y f = some c → CalleeOk P f c) (hL : Laid P w0) (hM : ∀ b, M b → startN P ≤ b) (hm : P.follows .mixedOrders = true) :
    ∀ (c : Code) (X : Nat → Nat → St → Option R) (N : Nat → St → Option R) (k : Nat) (Q : Exit → Act → World → Prop) (s : St) (a : Act) (w : World),
      (∀ o ∈ oblig E c X N, o.Le) →
      (∀ k1, k1 ≤ k → ∀ s1 a1 w1, N k1 s1 = some r → Rel M w0 F0 s1 a1 w1 → Q .normal a1 w1) →
      (∀ k1, k1 ≤ k → ∀ i s1 a1 w1, X k1 i s1 = some r → Rel M w0 F0 s1 a1 w1 → Q (.exit i) a1 w1) →
      (∀ s1 a1 w1, E.ret s1 = some r → Rel M w0 F0 s1 a1 w1 → Q .ret a1 w1) →
      Rel M w0 F0 s a w → codeK E k c s (X k) (N k) = some r → c.wp P Q a w := by
  intro c
  induction c with
  | skip => intro X N k Q s a w ho hN hX hR h hk; exact wp_skip (hN k (Nat.le_refl _) s a w hk h)
  | region id ops draw =>
    intro X N k Q s a w ho hN hX hR h hk
    unfold codeK at hk
    unfold oblig at ho
    split at hk
    · rename_i c hc
      rw [hc] at ho
      obtain ⟨y, hy, hr⟩ := enter_in hk h
      cases k with
      | zero =>
        have := ho _ (List.mem_cons_of_mem _ List.mem_cons_self) 0 y r hy
        cases this
      | succ k =>
        have hy := ho _ List.mem_cons_self k y r hy
        exact reg_sound hT hY hL hM hm (hN k (Nat.le_succ k)) hr hy
    · exact reg_sound hT hY hL hM hm (hN k (Nat.le_refl _)) h hk
  | seq x y ihx ihy =>
    intro X N k Q s a w ho hN hX hR h hk
    unfold codeK at hk
    unfold oblig at ho
    refine wp_seq (ihx X (fun k s => codeK E k y s (X k) (N k)) k _ s a w (fun o h1 => ho o (List.mem_append_left _ h1)) ?_ ?_ ?_ h hk)
    · intro k1 hk1 s1 a1 w1 h1 h2
      exact ihy X N k1 Q s1 a1 w1 (fun o h1 => ho o (List.mem_append_right _ h1)) (fun k2 hk2 => hN k2 (Nat.le_trans hk2 hk1)) (fun k2 hk2 => hX k2 (Nat.le_trans hk2 hk1)) hR h2 h1
    · exact hX
    · exact hR
  | cond c x y ihx ihy =>
    intro X N k Q s a w ho hN hX hR h hk
    cases c with
    | tmp d =>
      unfold codeK at hk
      unfold oblig at ho
      obtain ⟨F, γ, ρ, h⟩ := h
      obtain ⟨s1, b, h1, h2, h3⟩ := guard_sound h hk
      have he : a.eval (.tmp d) = .bool b := by
        show a.tmps.getD d undef = _
        rw [Array.getD_eq_getD_getElem?, h2]
        rfl
      cases b with
      | true => exact wp_cond_true he (ihx X N k Q s1 a w (fun o h1 => ho o (List.mem_append_left _ h1)) hN hX hR ⟨F, γ, ρ, h3⟩ h1)
      | false => exact wp_cond_false he (ihy X N k Q s1 a w (fun o h1 => ho o (List.mem_append_right _ h1)) hN hX hR ⟨F, γ, ρ, h3⟩ h1)
    | const v =>
      unfold oblig at ho
      cases v with
      | bool t =>
        unfold codeK at hk
        cases t with
        | true => exact wp_cond_true rfl (ihx X N k Q s a w (fun o h1 => ho o (List.mem_append_left _ h1)) hN hX hR h hk)
        | false => exact wp_cond_false rfl (ihy X N k Q s a w (fun o h1 => ho o (List.mem_append_right _ h1)) hN hX hR h hk)
      | _ => unfold codeK at hk; cases hk
    | _ => unfold codeK at hk; cases hk
  | block id x ih =>
    intro X N k Q s a w ho hN hX hR h hk
    unfold codeK at hk
    unfold oblig at ho
    refine wp_block (ih (fun k i s => match Nat.beq i id with
      | true => N k s
      | false => X k i s) N k _ s a w ho ?_ ?_ ?_ h hk)
    · exact hN
    · intro k1 hk1 i s1 a1 w1 h1 h2
      show (if i = id then _ else _)
      split at h1
      · rename_i q
        rw [if_pos (Nat.eq_of_beq_eq_true q)]
        exact hN k1 hk1 s1 a1 w1 h1 h2
      · rename_i q
        rw [if_neg (Nat.ne_of_beq_eq_false q)]
        exact hX k1 hk1 i s1 a1 w1 h1 h2
    · exact hR
  | loop x ih =>
    intro X N k Q s a w ho hN hX hR h hk
    unfold codeK at hk
    unfold oblig at ho
    split at hk
    · rename_i id hid
      rw [hid] at ho
      simp only at ho
      split at hk
      · rename_i c hc
        rw [hc] at ho
        simp only at ho
        have h0 := enter_in hk h
        refine wp_loop (fun a w => ∃ k1, k1 ≤ k ∧ c.In M w0 F0 r a w k1) (fun a w => least fun k1 => k1 ≤ k ∧ c.In M w0 F0 r a w k1) ⟨k, Nat.le_refl _, h0⟩ ?_
        intro a1 w1 hI
        obtain ⟨hle, y, hy, hr⟩ := least_at hI
        generalize hkk : (least fun k1 => k1 ≤ k ∧ c.In M w0 F0 r a1 w1 k1) = kk at *
        cases kk with
        | zero =>
          have := ho _ (List.mem_cons_of_mem _ List.mem_cons_self) 0 y r hy
          cases this
        | succ kk =>
          have hy := ho _ List.mem_cons_self kk y r hy
          refine ih X (fun k => c.enter k) kk _ _ a1 w1 (fun o h1 => ho o (List.mem_cons_of_mem _ (List.mem_cons_of_mem _ h1))) ?_ ?_ ?_ hr hy
          · intro k2 hk2 s2 a2 w2 h1 h2
            have hin := enter_in h1 h2
            exact ⟨⟨k2, by omega, hin⟩, Nat.lt_of_le_of_lt (least_le (p := fun k1 => k1 ≤ k ∧ c.In M w0 F0 r a2 w2 k1) ⟨by omega, hin⟩) (by omega)⟩
          · intro k2 hk2
            exact hX k2 (by omega)
          · exact hR
      · cases hk
    · cases hk
  | exit id => intro X N k Q s a w ho hN hX hR h hk; exact wp_exit (hX k (Nat.le_refl _) id s a w hk h)
  | ret => intro X N k Q s a w ho hN hX hR h hk; exact wp_ret (hR s a w hk h)
  | _ => intro X N k Q s a w ho hN hX hR h hk; unfold codeK at hk; cases hk
end
end Go.Sym
end
section
namespace Go.Sym
open Go.RowKit
set_option linter.unusedVariables false
set_option linter.unusedSimpArgs false

def ret1 (T : Tab) (s : St) (rv : ResultVar) (t : Ty) : Option (El t) := match rv with
  | .tmp i => match (s.slots.getD i .junk).as t with
    | some (y, _) => some y
    | none => none
  | .cell i ty => if (T.row ty).d = .other then none else match s.slots.getD i .junk with
    | .ptr b 0 => match s.boxes.lookup b with
      | some (.var u x _) => if T.ty ty = u then castEl u t x else none
      | _ => none
    | _ => none
def retL (T : Tab) (s : St) : List ResultVar → (t : Ty) → Option (El t)
  | [], .nil => some ()
  | rv :: r, .cons a b => match ret1 T s rv a with
    | some x => match retL T s r b with
      | some y => some (x, y)
      | none => none
    | none => none
  | _, _ => none
def frzRes : List ResultVar → St → St
  | [], s => s
  | .tmp i :: r, s => frzRes r (frz1 s (.tmp i))
  | _ :: r, s => frzRes r s
/-- A function's results, out of its last state. -/
def retS0 (T : Tab) (rs : List ResultVar) (many : Bool) (t : Ty) (s : St) : Option (El t) := match many with
  | false => match rs with
    | [rv] => ret1 T s rv t
    | _ => none
  | true => match rs with
    | [_] => none
    | rs => retL T s rs t
/-- Which results have a slice without room at a place. -/
def nzB1 (T : Tab) (s : St) (te : TE) : ResultVar → Bool
  | .tmp i => match s.slots.getD i .junk with
    | .v _ _ g => te.tag == 0 && g.any fun q => decide (q = te)
    | .nilS => te.off == 0
    | _ => false
  | .cell i ty => if (T.row ty).d = .other then false else match s.slots.getD i .junk with
    | .ptr b 0 => match s.boxes.lookup b with
      | some (.var u _ g) => decide (T.ty ty = u) && (te.tag == 0 && g.any fun q => decide (q = te))
      | _ => false
    | _ => false
def nzB (T : Tab) (s : St) (rs : List ResultVar) (z : List (Nat × TE)) : Bool := z.all fun p => match rs[p.1]? with
  | some rv => nzB1 T s p.2 rv
  | none => false
def retS1 (T : Tab) (rs : List ResultVar) (many : Bool) (z : List (Nat × TE)) (t : Ty) (s : St) : Option (El t) := match nzB T s rs z with
  | true => retS0 T rs many t s
  | false => none
def retS (T : Tab) (rs : List ResultVar) (many : Bool) (z : List (Nat × TE)) (t : Ty) (s : St) : Option (El t) := retS1 T rs many z t (frzRes rs s)
def initS (dom : Ty) (x : El dom) (n : Nat) : St := ⟨argSlots dom x ++ List.replicate (n - (argSlots dom x).length) .junk, [], 0⟩
def codeOf (fn : Func) : Code := fn.body.getD .skip
section
variable {P : Program} {T : Tab} {M : Nat → Prop} {w0 w : World} {F0 F : Nat → Nat} {γ : Nat → Nat} {ρ : Nat → Option Nat} {s : St} {a : Act}
def resSem (a : Act) : ResultVar → Sem Value
  | .tmp t => pure (a.tmps.getD t undef)
  | .cell b t => do loadVar t (← asAddr (a.tmps.getD b undef))
theorem results_eq (fn : Func) (a : Act) : results fn a.tmps = (do let vs ← fn.results.mapM (resSem a); pure (if h : vs.size = 1 then vs[0] else .tuple vs)) := by
  unfold results
  congr 1
theorem frzRes_sound : ∀ (l : List ResultVar) {s : St}, Rel M w0 F0 s a w → Rel M w0 F0 (frzRes l s) a w
  | [], s, h => h
  | .tmp i :: r, s, h => frzRes_sound r (frz1_sound h _)
  | .cell _ _ :: r, s, h => frzRes_sound r h
theorem ret1_sound (hT : TabOk P T) (h : RelG M w0 F0 F γ ρ s a w) {rv : ResultVar} {t : Ty} {y : El t} (hr : ret1 T s rv t = some y) :
    ∃ v, (resSem a rv).run P w = .ok v w ∧ RepV F w t y v := by
  unfold ret1 at hr
  split at hr
  · rename_i i
    split at hr
    · rename_i y1 g hy
      cases hr
      exact ⟨_, rfl, (AV.as_rep (h.ev (.tmp i)) hy).1⟩
    · cases hr
  · rename_i i ty
    split at hr
    · cases hr
    · rename_i hd
      split at hr
      · rename_i b hp
        split at hr
        · rename_i u x g hX
          split at hr
          · rename_i et
            obtain ⟨q1, q2, q3, cs, tid, q4, q5, q6⟩ := h.box b _ (lookup_mem hX)
            have hev := h.ev (.tmp i)
            rw [show s.ev (.tmp i) = s.slots.getD i .junk from rfl, hp] at hev
            have hv : a.tmps.getD i undef = .pointer (some ⟨γ b, 0, none⟩) := hev
            have hl := (hT.row hd).load (w := w) (b := γ b) (o := 0) (cs := cs) (fun j v hj => by rw [block_cell (off := 0) q4, Nat.zero_add]; exact hj) (by rw [q5.len, et])
            refine ⟨pack (T.ty ty) cs, ?_, ?_⟩
            · show (do loadVar ty (← asAddr (a.tmps.getD i undef)) : Sem Value).run P w = _
              rw [hv]
              simpa [Instr.loadAt, Instr.sureAddr, asAddr] using hl
            · rw [et]
              exact RepV.cast ⟨cs, q5, rfl⟩ hr
          · cases hr
        · cases hr
      · cases hr
theorem TagsV.nil0 {B : Nat → Prop} {g : List TE} {cs : Array Value} {te : TE} (h : TagsV F w B ρ g cs) (h0 : (te.tag == 0 && g.any fun q => decide (q = te)) = true) : ∃ ad, cs[te.off]? = some (.slice ad 0 0) := by
  rw [Bool.and_eq_true, List.any_eq_true] at h0
  obtain ⟨z, q, hq, e⟩ := h0
  obtain rfl := of_decide_eq_true e
  obtain ⟨u, hu, ht⟩ := h _ hq
  rcases ht with ⟨ad, rfl⟩ | ⟨n, g, len, cap, cur, h1, _⟩
  · exact ⟨ad, hu⟩
  · rw [h1] at z
    simp at z
theorem nz1_sound (hT : TabOk P T) (h : RelG M w0 F0 F γ ρ s a w) {rv : ResultVar} {te : TE} (hb : nzB1 T s te rv = true) {v : Value} (hv : (resSem a rv).run P w = .ok v w) : ∃ ad, v.cells[te.off]? = some (.slice ad 0 0) := by
  cases rv with
  | tmp i =>
    have hev := h.ev (.tmp i)
    rw [show s.ev (.tmp i) = s.slots.getD i .junk from rfl] at hev
    obtain rfl : a.tmps.getD i undef = v := by
      have : Result.ok (a.tmps.getD i undef) w = .ok v w := hv
      injection this
    rw [nzB1] at hb
    split at hb
    · rename_i t x g e
      rw [e] at hev
      exact hev.2.nil0 hb
    · rename_i e
      rw [e] at hev
      have e2 : a.tmps.getD i undef = .slice none 0 0 := hev
      rw [e2, beq_iff_eq.1 hb]
      exact ⟨none, rfl⟩
    · cases hb
  | cell i ty =>
    rw [nzB1] at hb
    split at hb
    · cases hb
    · rename_i hd
      split at hb
      · rename_i b hp
        split at hb
        · rename_i u x g hX
          rw [Bool.and_eq_true] at hb
          have et := of_decide_eq_true hb.1
          obtain ⟨q1, q2, q3, cs, tid, q4, q5, q6⟩ := h.box b _ (lookup_mem hX)
          have hev := h.ev (.tmp i)
          rw [show s.ev (.tmp i) = s.slots.getD i .junk from rfl, hp] at hev
          have hv2 : a.tmps.getD i undef = .pointer (some ⟨γ b, 0, none⟩) := hev
          have hl := (hT.row hd).load (w := w) (b := γ b) (o := 0) (cs := cs) (fun j v hj => by rw [block_cell (off := 0) q4, Nat.zero_add]; exact hj) (by rw [q5.len, et])
          have hl2 : (resSem a (.cell i ty)).run P w = .ok (pack (T.ty ty) cs) w := by
            show (do loadVar ty (← asAddr (a.tmps.getD i undef)) : Sem Value).run P w = _
            rw [hv2]
            simpa [Instr.loadAt, Instr.sureAddr, asAddr] using hl
          rw [hl2] at hv
          obtain rfl : pack (T.ty ty) cs = v := by injection hv
          subst et
          rw [pack_cells q5]
          exact q6.nil0 hb.2
        · cases hb
      · cases hb
theorem retL_sound (hT : TabOk P T) (h : RelG M w0 F0 F γ ρ s a w) : ∀ {rs : List ResultVar} {t : Ty} {y : El t}, retL T s rs t = some y →
    ∃ vs, (rs.mapM (resSem a)).run P w = .ok vs w ∧ RepT F w t y vs ∧ vs.length = rs.length ∧ ∀ (i : Nat) (rv : ResultVar), rs[i]? = some rv → ∃ v, vs[i]? = some v ∧ (resSem a rv).run P w = .ok v w
  | [], .nil, y, hr => ⟨[], rfl, rfl, rfl, fun i rv h => by simp at h⟩
  | rv :: r, .cons c d, y, hr => by
    unfold retL at hr
    split at hr
    · rename_i x hx
      split at hr
      · rename_i z hz
        cases hr
        obtain ⟨v, h1, h2⟩ := ret1_sound hT h hx
        obtain ⟨vs, h3, h4, h5, h6⟩ := retL_sound hT h hz
        refine ⟨v :: vs, ?_, ⟨v, vs, rfl, h2, h4⟩, by rw [List.length_cons, List.length_cons, h5], fun i rv1 hi => ?_⟩
        · rw [List.mapM_cons, Sem.run_bind, h1]
          simp only [Result.andThen_ok, Sem.run_bind, h3]
          rfl
        · cases i with
          | zero =>
            simp only [List.getElem?_cons_zero, Option.some.injEq] at hi
            subst hi
            exact ⟨v, rfl, h1⟩
          | succ i => simpa using h6 i rv1 (by simpa using hi)
      · cases hr
    · cases hr
theorem nzB_at {z : List (Nat × TE)} {rs : List ResultVar} (hT : TabOk P T) (h : RelG M w0 F0 F γ ρ s a w) (hz : nzB T s rs z = true) {vs : List Value} (hvs : ∀ (i : Nat) (rv : ResultVar), rs[i]? = some rv → ∃ v, vs[i]? = some v ∧ (resSem a rv).run P w = .ok v w) : NilAt vs z := by
  intro p hp
  have := List.all_eq_true.1 hz p hp
  split at this
  · rename_i rv hrv
    obtain ⟨v, h1, h2⟩ := hvs _ _ hrv
    obtain ⟨ad, h3⟩ := nz1_sound hT h this h2
    exact ⟨ad, by rw [List.getD_eq_getElem?_getD, h1]; exact h3⟩
  · cases this
theorem retS_sound (hT : TabOk P T) {fn : Func} {many : Bool} {nz : List (Nat × TE)} {t : Ty} {y : El t} (h : RelG M w0 F0 F γ ρ s a w) (hr : retS1 T fn.results.toList many nz t s = some y) : ∃ v, (results fn a.tmps).run P w = .ok v w ∧ RepR F w t many nz y v := by
  unfold retS1 at hr
  split at hr
  case h_2 => cases hr
  rename_i hz
  unfold retS0 at hr
  cases many with
  | false =>
    simp only at hr
    split at hr
    · rename_i rv e
      have a1 : fn.results = #[rv] := Array.toList_inj.1 (by rw [e])
      obtain ⟨v, h1, h2⟩ := ret1_sound hT h hr
      refine ⟨v, ?_, by
        unfold RepR
        rw [if_neg (by simp)]
        refine ⟨h2, nzB_at hT h (by rw [e] at hz; exact hz) fun i rv1 hi => ?_⟩
        cases i with
        | zero =>
          simp only [List.getElem?_cons_zero, Option.some.injEq] at hi
          subst hi
          exact ⟨v, rfl, h1⟩
        | succ i => simp at hi⟩
      rw [results_eq, a1]
      simp only [Array.mapM_eq_mapM_toList]
      have h3 : (([rv] : List ResultVar).mapM (resSem a)).run P w = .ok [v] w := by
        rw [List.mapM_cons, Sem.run_bind, h1]
        rfl
      rw [Sem.run_bind, map_eq_pure_bind, Sem.run_bind, h3]
      rfl
    · cases hr
  | true =>
    simp only at hr
    split at hr
    · cases hr
    · rename_i hne
      obtain ⟨vs, h1, h2, hl, h6⟩ := retL_sound hT h hr
      refine ⟨.tuple vs.toArray, ?_, by unfold RepR; rw [if_pos rfl]; exact ⟨vs, rfl, h2, nzB_at hT h hz h6⟩⟩
      rw [results_eq]
      simp only [Array.mapM_eq_mapM_toList]
      rw [Sem.run_bind, map_eq_pure_bind, Sem.run_bind, h1]
      simp only [Result.andThen_ok, Sem.run_pure]
      rw [dif_neg (by
        intro q
        have q1 : fn.results.toList.length = 1 := by rw [← hl]; simpa using q
        obtain ⟨x, hx⟩ := List.length_eq_one_iff.1 q1
        exact hne x hx)]
theorem argSlots_len {F : Nat → Nat} {w : World} : ∀ {t : Ty} {x : El t} {vs : List Value}, RepT F w t x vs → vs.length = (argSlots t x).length := by
  intro t
  induction t with
  | nil => intro x vs h; rw [show vs = _ from h]; rfl
  | cons c d _ ihd =>
    intro x vs h
    obtain ⟨v, us, rfl, h1, h2⟩ := h
    show us.length + 1 = (argSlots d x.2).length + 1
    rw [ihd h2]
  | _ => intro x vs h; cases h
theorem argSlots_rep {B : Nat → Prop} : ∀ {t : Ty} {x : El t} {vs : List Value}, RepT F w t x vs → ∀ (i : Nat) (av : AV), (argSlots t x)[i]? = some av → ∃ v, vs[i]? = some v ∧ RepA F w B γ ρ av v := by
  intro t
  induction t with
  | nil => intro x vs h i av hi; simp [argSlots] at hi
  | cons c d _ ihd =>
    intro x vs h i av hi
    obtain ⟨v, us, rfl, h1, h2⟩ := h
    cases i with
    | zero =>
      simp only [argSlots, List.getElem?_cons_zero, Option.some.injEq] at hi
      subst hi
      exact ⟨v, rfl, mk_a h1⟩
    | succ i =>
      simp only [argSlots, List.getElem?_cons_succ] at hi
      exact ihd h2 i av hi
  | _ => intro x vs h; cases h
theorem argSlots_wf : ∀ {t : Ty} {x : El t} {av : AV}, av ∈ argSlots t x → ∀ bx, avWf bx av := by
  intro t
  induction t with
  | cons c d _ ihd =>
    intro x av h bx
    rcases List.mem_cons.1 h with rfl | h
    · trivial
    · exact ihd h bx
  | _ => intro x av h; cases h
theorem init_rel {dom : Ty} {x : El dom} {vs : List Value} (hfin : ∀ b, 0 < F b → b < w.heap.size) (h : RepT F w dom x vs) (n : Nat) :
    RelG (fun _ => False) w F F (fun _ => 0) (fun _ => none) (initS dom x n) { tmps := vs.toArray ++ Array.replicate (n - vs.toArray.size) undef, defers := [] } w where
  defers := rfl
  below := .refl _ _
  fold _ _ _ := rfl
  ext := .refl _ _
  fin := hfin
  len := by simp [initS, argSlots_len h]
  slot i av hi := by
    simp only [initS] at hi
    rw [List.getElem?_append] at hi
    split at hi
    · rename_i c
      obtain ⟨v, h1, h2⟩ := argSlots_rep (B := own (fun _ => False) w) (γ := fun _ => 0) (ρ := fun _ => none) h i av hi
      have e : (vs.toArray ++ Array.replicate (n - vs.toArray.size) undef).getD i undef = v := by
        rw [Array.getD_eq_getD_getElem?, Array.getElem?_append_left (by rw [List.size_toArray, argSlots_len h]; exact c), List.getElem?_toArray, h1]
        rfl
      rw [e]
      exact h2
    · rw [List.getElem?_replicate] at hi
      split at hi
      · cases hi
        trivial
      · cases hi
  box b bx hb := by cases hb
  boxinj b b1 x x1 h1 h2 e := by cases h1
  rowlt n g h := by cases h
  rowinj n m g h1 h2 := by cases h1
  rowused n g h := by cases h
  wf av hi := by
    rcases List.mem_append.1 hi with q | q
    · exact argSlots_wf q _
    · rw [List.eq_of_mem_replicate q]; trivial
theorem enter_of {f : Nat} {fn : Func} (hf : P.funcs[f]? = some fn) (hn : (fn.name == "runtime.NumGoroutine") = false) (hb : fn.body.isNone = false) (args : Array Value) (w : World) : (callFunc f args).run P w = .ok (.enter f args) w := by
  unfold callFunc
  simp only [Sem.run_bind]
  have hp : (program).run P w = .ok P w := rfl
  rw [hp]
  simp only [Result.andThen_ok, hf, hn, hb]
  rfl
/-- THE LAW: a function comes to what its plain text says. -/
theorem fn_sound (hT : TabOk P T) (hm : P.follows .mixedOrders = true) {f : Nat} {fn : Func} {dom cod : Ty} {many : Bool} {raw : Type} {un : El cod → raw} {conv : raw → El cod} {nz : List (Nat × TE)} (huc : ∀ y, conv (un y) = y) {Y : Nat → Option Callee} {loops joins : List (Cut raw)} {g : Nat → El dom → Option raw}
    (hf : P.funcs[f]? = some fn) (hn : (fn.name == "runtime.NumGoroutine") = false) (hb : fn.body = some (codeOf fn)) (hY : ∀ f c, Y f = some c → CalleeOk P f c)
    (hobl : ∀ o ∈ oblig ⟨Y, T, loops, joins, fun s => (retS T fn.results.toList many nz cod s).map un⟩ (codeOf fn) (fun _ _ _ => none) (fun _ s => (retS T fn.results.toList many nz cod s).map un), o.Le)
    (hg : ∀ k x r, g k x = some r → codeK ⟨Y, T, loops, joins, fun s => (retS T fn.results.toList many nz cod s).map un⟩ k (codeOf fn) (initS dom x fn.ntmps) (fun _ _ => none) (fun s => (retS T fn.results.toList many nz cod s).map un) = some r) : CalleeOk P f ⟨dom, cod, many, raw, g, conv, nz⟩ where
  enter := enter_of hf hn (by rw [hb]; rfl)
  calls k w F vs x z hL hfin hx hy := by
    have hy : g k x = some z := hy
    have hy := hg k x z hy
    refine calls_of_wp hf hb ?_
    have fin : ∀ s1 a1 w1, (retS T fn.results.toList many nz cod s1).map un = some z → Rel (fun _ => False) w F s1 a1 w1 → a1.defers = [] ∧ ∃ v, (results fn a1.tmps).run P w1 = .ok v w1 ∧ Ends F w cod many nz (conv z) (.returned v) w1 := by
      intro s1 a1 w1 h1 h2
      obtain ⟨F1, γ, ρ, h2⟩ := frzRes_sound fn.results.toList h2
      obtain ⟨y, h5, rfl⟩ := Option.map_eq_some_iff.1 h1
      rw [huc]
      obtain ⟨v, h3, h4⟩ := retS_sound hT h2 h5
      exact ⟨h2.defers, v, h3, v, F1, rfl, ⟨⟨h2.below.os, h2.below.tape, h2.below.output, h2.below.size, fun k hk => h2.below.block k hk (fun q => q)⟩, fun b hb => h2.fold b hb (fun q => q)⟩, h2.fin, h4⟩
    exact code_sound (E := ⟨Y, T, loops, joins, fun s => (retS T fn.results.toList many nz cod s).map un⟩) hT hY hL (fun _ q => q.elim) hm (codeOf fn) (fun _ _ _ => none) (fun _ s => (retS T fn.results.toList many nz cod s).map un) k _ _ _ _ hobl (fun k1 _ s1 a1 w1 h1 h2 => fin s1 a1 w1 h1 h2) (fun _ _ _ _ _ _ h => by cases h) (fun s1 a1 w1 h1 h2 => fin s1 a1 w1 h1 h2) ⟨F, _, _, init_rel hfin hx fn.ntmps⟩ hy
end
end Go.Sym
end
section
namespace Go.Sym
set_option linter.unusedVariables false
def look : List (Nat × Callee) → Nat → Option Callee
  | [], _ => none
  | (f, c) :: r, n => if f = n then some c else look r n
section
variable {P : Program}
theorem ok_nil : ∀ f c, look [] f = some c → CalleeOk P f c := fun f c h => by cases h
theorem ok_cons {f : Nat} {c : Callee} {r : List (Nat × Callee)} (h : CalleeOk P f c) (hr : ∀ f c, look r f = some c → CalleeOk P f c) : ∀ g d, look ((f, c) :: r) g = some d → CalleeOk P g d := by
  intro g d hd
  unfold look at hd
  split at hd
  · rename_i e
    subst e
    cases hd
    exact h
  · exact hr g d hd
end
/-- What the evaluator wants of a function. -/
noncomputable def envOf (T : Tab) (fn : Func) (many : Bool) (cod : Ty) (nz : List (Nat × TE)) {raw : Type} (un : El cod → raw) (l : List (Nat × Callee)) (loops joins : List (Cut raw)) : Env raw := ⟨look l, T, loops, joins, fun s => (retS T fn.results.toList many nz cod s).map un⟩
def obls {R : Type} (E : Env R) (fn : Func) : List (Ob R) := oblig E (codeOf fn) (fun _ _ _ => none) (fun _ s => E.ret s)
def mainK {R : Type} (E : Env R) (fn : Func) (dom : Ty) (k : Nat) (x : El dom) : Option R := codeK E k (codeOf fn) (initS dom x fn.ntmps) (fun _ _ => none) E.ret
/-- All that is owed, one by one. -/
inductive AllLe {R : Type} : List (Ob R) → Prop where
  | nil : AllLe []
  | cons {o : Ob R} {l : List (Ob R)} (h : o.Le) (t : AllLe l) : AllLe (o :: l)
theorem AllLe.all {R : Type} {l : List (Ob R)} (h : AllLe l) : ∀ o ∈ l, o.Le := by
  induction h with
  | nil => intro o ho; cases ho
  | cons h t ih =>
    intro o ho
    rcases List.mem_cons.1 ho with rfl | ho
    · exact h
    · exact ih o ho
theorem AllLe.of_eq {R : Type} {l : List (Ob R)} (h : l.map Ob.left = l.map Ob.right) : AllLe l := by
  have := obs_eq h
  clear h
  induction l with
  | nil => exact .nil
  | cons o r ih => exact .cons (this o List.mem_cons_self) (ih fun o ho => this o (List.mem_cons_of_mem _ ho))
theorem fn_ok {P : Program} {T : Tab} (hT : TabOk P T) (hm : P.follows .mixedOrders = true) {f : Nat} {fn : Func} {dom cod : Ty} {many : Bool} {raw : Type} {un : El cod → raw} {conv : raw → El cod} {nz : List (Nat × TE)} (huc : ∀ y, conv (un y) = y) {l : List (Nat × Callee)} {loops joins : List (Cut raw)} {g : Nat → El dom → Option raw}
    (hf : P.funcs[f]? = some fn) (hn : (fn.name == "runtime.NumGoroutine") = false) (hb : fn.body = some (codeOf fn)) (hY : ∀ f c, look l f = some c → CalleeOk P f c)
    (hobl : AllLe (obls (envOf T fn many cod nz un l loops joins) fn)) (hg : ∀ k x r, g k x = some r → mainK (envOf T fn many cod nz un l loops joins) fn dom k x = some r) : CalleeOk P f ⟨dom, cod, many, raw, g, conv, nz⟩ :=
  fn_sound hT hm huc hf hn hb hY hobl.all hg
/-- What one says the other says, too. -/
def Lo {α : Type} (a b : Option α) : Prop := ∀ r, a = some r → b = some r
section
variable {α β : Type} {a b c d : Option α} {p : Prop} [Decidable p]
theorem lo_refl (a : Option α) : Lo a a := fun _ h => h
theorem lo_none (a : Option α) : Lo none a := fun _ h => by cases h
theorem lo_ite (h1 : p → Lo a c) (h2 : ¬ p → Lo b d) : Lo (if p then a else b) (if p then c else d) := by
  by_cases q : p
  · rw [if_pos q, if_pos q]; exact h1 q
  · rw [if_neg q, if_neg q]; exact h2 q
theorem lo_pos (q : p) (h : Lo a c) : Lo a (if p then c else d) := by rw [if_pos q]; exact h
theorem lo_neg (q : ¬ p) (h : Lo a d) : Lo a (if p then c else d) := by rw [if_neg q]; exact h
theorem lo_some {x y : α} (h : x = y) : Lo (some x) (some y) := by rw [h]; exact lo_refl _
theorem lo_left {x : β} {f : β → Option α} (h : Lo (f x) c) : Lo ((some x).bind f) c := h
theorem lo_bind {o : Option β} {f g : β → Option α} (h : ∀ x, Lo (f x) (g x)) : Lo (o.bind f) (o.bind g) := by
  cases o with
  | none => exact lo_refl _
  | some x => exact h x
theorem lo_bind2 {o q : Option β} {f g : β → Option α} (ho : Lo o q) (h : ∀ x, Lo (f x) (g x)) : Lo (o.bind f) (q.bind g) := by
  intro r hr
  obtain ⟨x, h1, h2⟩ := Option.bind_eq_some_iff.1 hr
  rw [ho x h1]
  exact h x r h2
theorem lo_of (h : Lo a b) : Lo a b := h
theorem lo_test {q : Prop} [Decidable q] (hq : p → q) (h : p → Lo a c) : Lo (if p then a else none) (if q then c else d) := by
  by_cases z : p
  · rw [if_pos z, if_pos (hq z)]; exact h z
  · rw [if_neg z]; exact lo_none _
theorem lo_trans {x y z : Option α} (h : Lo x y) (k : Lo y z) : Lo x z := fun r hr => k r (h r hr)
theorem lo_testn {q : Prop} [Decidable q] (hq : p → ¬ q) (h : p → Lo a d) : Lo (if p then a else none) (if q then c else d) := by
  by_cases z : p
  · rw [if_pos z, if_neg (hq z)]; exact h z
  · rw [if_neg z]; exact lo_none _
theorem lo_iff {q : Prop} [Decidable q] (e : p ↔ q) (h1 : p → Lo a c) (h2 : ¬ p → Lo b d) : Lo (if p then a else b) (if q then c else d) := by
  by_cases z : p
  · rw [if_pos z, if_pos (e.1 z)]; exact h1 z
  · rw [if_neg z, if_neg (fun y => z (e.2 y))]; exact h2 z
theorem lo_iffn {q : Prop} [Decidable q] (e : p ↔ ¬ q) (h1 : p → Lo a d) (h2 : ¬ p → Lo b c) : Lo (if p then a else b) (if q then c else d) := by
  by_cases z : p
  · rw [if_pos z, if_neg (e.1 z)]; exact h1 z
  · rw [if_neg z, if_pos (Decidable.not_not.1 (fun y => z (e.2 y)))]; exact h2 z
theorem lo_and {q s : Prop} [Decidable q] [Decidable s] (hq : p → q) (hs : p → s) (h : p → Lo a b) : Lo (if p then a else none) (if q then (if s then b else c) else d) := by
  by_cases z : p
  · rw [if_pos z, if_pos (hq z), if_pos (hs z)]; exact h z
  · rw [if_neg z]; exact lo_none _
theorem lo_lpos (q : p) (h : Lo a c) : Lo (if p then a else b) c := by rw [if_pos q]; exact h
theorem lo_lneg (q : ¬ p) (h : Lo b c) : Lo (if p then a else b) c := by rw [if_neg q]; exact h
theorem lo_lite (h1 : p → Lo a c) (h2 : ¬ p → Lo b c) : Lo (if p then a else b) c := by
  by_cases q : p
  · exact lo_lpos q (h1 q)
  · exact lo_lneg q (h2 q)
theorem lo_rite (h1 : p → Lo a c) (h2 : ¬ p → Lo a d) : Lo a (if p then c else d) := by
  by_cases q : p
  · exact lo_pos q (h1 q)
  · exact lo_neg q (h2 q)
theorem su64_id {x : Int} (h0 : 0 ≤ x) (h1 : x < 18446744073709551616) : IntKind.u64.wrap x = x := by
  unfold IntKind.wrap
  simp [IntKind.bits, IntKind.signed]
  omega
theorem sw64_id {x : Int} (h0 : -9223372036854775808 ≤ x) (h1 : x < 9223372036854775808) : Go.RowKit.wrap64 x = x := by
  unfold Go.RowKit.wrap64
  omega
/-- A text that says less. -/
theorem CalleeOk.weaken {P : Program} {f : Nat} {dom cod : Ty} {many : Bool} {raw : Type} {fn g : Nat → El dom → Option raw} {conv : raw → El cod} {nz : List (Nat × TE)} (h : CalleeOk P f ⟨dom, cod, many, raw, fn, conv, nz⟩) (hg : ∀ k x r, g k x = some r → fn k x = some r) : CalleeOk P f ⟨dom, cod, many, raw, g, conv, nz⟩ :=
  ⟨h.enter, fun k w F vs x y hL hf hx hy => h.calls k w F vs x y hL hf hx (hg k x y hy)⟩
end
end Go.Sym
end
