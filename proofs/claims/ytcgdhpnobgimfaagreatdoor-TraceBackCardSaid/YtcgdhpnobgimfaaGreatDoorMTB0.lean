/- A plain value domain for Go values: types as codes, values by type, what cells of memory say a value, and how that stays as memory grows. The plain state of a function's frame (slots and variables in memory), and what it is for a real frame and a real memory to be told by it. A program's table of types, checked; and what loads of variables come to, by it. Parts of values: a field, wherever it lies, read and set; and what a slot's content says of a value of a type. Operations that leave memory alone, told plainly: what they come to, as a tree of tests. The plain operations tell what the real ones do: arithmetic, tests, texts, parts, places. The plain operations tell what the real ones do: loads, fields, elements, cuts, structs. The plain operations tell what the real ones do: cuts, structs out of parts, and all of them together. Every plain operation tells what the real one does. Structs compared. All plain operations together. New blocks: a variable in memory, a row of the call's own. Slice literals. A block that is written no more: it is told as a value. Appends to a row of the call's own: what changes, and what stays told. Appends. Appends, sound. Blocks that are written: made, boxed, stored into. One operation, whatever it is; several in their order. -/
import Derived.Below
import Derived.Orders
import Derived.Tactics
import Derived.KernelRfl
import Derived.Laws.World
import Derived.Laws.Entries
import Derived.Deep.MidRow
import Derived.Laws.StructEq
import Derived.Laws.Unary
import Derived.Laws.Slices
import Derived.Laws.BytesArg
import Derived.Laws.Tables
import Derived.Laws.Strings
import Derived.ChangeKeysEq
import Derived.Laws.AppendOwn
import Derived.Great.BuildSlice
import Derived.Deep.Upon
import Derived.Laws.MakeOwn
import Derived.Lib.ConvBytes
section
namespace Go.Sym
open Go.RowKit
set_option linter.unusedVariables false
set_option linter.unusedSimpArgs false

/-- Types of values that are told by value; a struct (or an array) is a chain of its fields. -/
inductive Ty where
  | int (k : IntKind)
  | bool
  | str
  | sl (e : Ty)
  | nil
  | cons (a b : Ty)
  | ptr (t : Ty)
  | clo (g : Nat) (c : Ty)
  | ref (t : Ty)
  deriving DecidableEq, Inhabited

/-- The values of a type. -/
@[reducible] def El : Ty → Type
  | .int _ => Int
  | .bool => Bool
  | .str => ByteArray
  | .sl e => List (El e)
  | .nil => Unit
  | .cons a b => El a × El b
  | .ptr t => Option (El t)
  | .clo _ c => Option (El c)
  | .ref t => El t

/-- How many cells a value has. -/
def Ty.size : Ty → Nat
  | .nil => 0
  | .cons a b => a.size + b.size
  | _ => 1
def Ty.agg : Ty → Bool
  | .nil => true
  | .cons _ _ => true
  | _ => false
def dflt : (t : Ty) → El t
  | .int _ => (0 : Int)
  | .bool => false
  | .str => ⟨#[]⟩
  | .sl _ => []
  | .nil => ()
  | .cons a b => (dflt a, dflt b)
  | .ptr _ => none
  | .clo _ _ => none
  | .ref t => dflt t

/-- What cells say a value; F: how many cells of each block are settled for good. -/
def RepC (F : Nat → Nat) (w : World) : (t : Ty) → El t → List Value → Prop
  | .int k, x, cs => cs = [.int k x]
  | .bool, x, cs => cs = [.bool x]
  | .str, x, cs => cs = [.string x]
  | .sl e, l, cs => ∃ A c, cs = [.slice A l.length c] ∧ l.length ≤ c ∧ (0 < l.length → ∃ b o, A = some ⟨b, o, none⟩ ∧ o + l.length * e.size ≤ F b ∧
      ∀ j x, l[j]? = some x → ∃ ds, RepC F w e x ds ∧ ∀ i v, ds[i]? = some v → w.cell? ⟨b, o + j * e.size + i, none⟩ = some v)
  | .nil, _, cs => cs = []
  | .cons a b, x, cs => ∃ c1 c2, cs = c1 ++ c2 ∧ RepC F w a x.1 c1 ∧ RepC F w b x.2 c2
  | .ptr t, x, cs => (x = none ∧ cs = [.pointer none]) ∨ ∃ y b o ds, x = some y ∧ cs = [.pointer (some ⟨b, o, none⟩)] ∧ RepC F w t y ds ∧ o + t.size ≤ F b ∧ ∀ i v, ds[i]? = some v → w.cell? ⟨b, o + i, none⟩ = some v
  | .clo g c, x, cs => (x = none ∧ cs = [.nilFunc]) ∨ ∃ y ds, x = some y ∧ cs = [.func (.func g) #[] ds.toArray] ∧ RepC F w c y ds
  | .ref t, x, cs => ∃ b o ds, cs = [.pointer (some ⟨b, o, none⟩)] ∧ RepC F w t x ds ∧ o + t.size ≤ F b ∧ ∀ i v, ds[i]? = some v → w.cell? ⟨b, o + i, none⟩ = some v

theorem RepC.len {F : Nat → Nat} {w : World} : ∀ {t : Ty} {x : El t} {cs : List Value}, RepC F w t x cs → cs.length = t.size := by
  intro t
  induction t with
  | int k => intro x cs h; rw [show cs = _ from h]; rfl
  | bool => intro x cs h; rw [show cs = _ from h]; rfl
  | str => intro x cs h; rw [show cs = _ from h]; rfl
  | sl e _ => intro x cs h; obtain ⟨A, c, rfl, _⟩ := h; rfl
  | nil => intro x cs h; rw [show cs = _ from h]; rfl
  | cons a b iha ihb =>
    intro x cs h
    obtain ⟨c1, c2, rfl, h1, h2⟩ := h
    rw [List.length_append, iha h1, ihb h2]
    rfl
  | ptr t _ =>
    intro x cs h
    rcases h with ⟨_, rfl⟩ | ⟨y, b, o, ds, _, rfl, _⟩ <;> rfl
  | clo g c _ =>
    intro x cs h
    rcases h with ⟨_, rfl⟩ | ⟨y, ds, _, rfl, _⟩ <;> rfl
  | ref t _ =>
    intro x cs h
    obtain ⟨b, o, ds, rfl, _⟩ := h
    rfl

/-- A value of one cell. -/
def one (v : Value) : Bool := match v with
  | .agg _ => false
  | .tuple _ => false
  | _ => true
theorem RepC.one {F : Nat → Nat} {w : World} : ∀ {t : Ty} {x : El t} {cs : List Value}, RepC F w t x cs → ∀ v ∈ cs, Sym.one v = true := by
  intro t
  induction t with
  | int k => intro x cs h v hv; rw [show cs = _ from h] at hv; rw [List.mem_singleton.1 hv]; rfl
  | bool => intro x cs h v hv; rw [show cs = _ from h] at hv; rw [List.mem_singleton.1 hv]; rfl
  | str => intro x cs h v hv; rw [show cs = _ from h] at hv; rw [List.mem_singleton.1 hv]; rfl
  | sl e _ => intro x cs h v hv; obtain ⟨A, c, rfl, _⟩ := h; rw [List.mem_singleton.1 hv]; rfl
  | nil => intro x cs h v hv; rw [show cs = _ from h] at hv; cases hv
  | cons a b iha ihb =>
    intro x cs h v hv
    obtain ⟨c1, c2, rfl, h1, h2⟩ := h
    rcases List.mem_append.1 hv with q | q
    · exact iha h1 v q
    · exact ihb h2 v q
  | ptr t _ =>
    intro x cs h v hv
    rcases h with ⟨_, rfl⟩ | ⟨y, b, o, ds, _, rfl, _⟩ <;> (rw [List.mem_singleton.1 hv]; rfl)
  | clo g c _ =>
    intro x cs h v hv
    rcases h with ⟨_, rfl⟩ | ⟨y, ds, _, rfl, _⟩ <;> (rw [List.mem_singleton.1 hv]; rfl)
  | ref t _ =>
    intro x cs h v hv
    obtain ⟨b, o, ds, rfl, _⟩ := h
    rw [List.mem_singleton.1 hv]
    rfl

/-- What is settled stays: from one memory to a later one. -/
structure Ext (F : Nat → Nat) (w : World) (F1 : Nat → Nat) (w1 : World) : Prop where
  more : ∀ b, F b ≤ F1 b
  same : ∀ b o v, o < F b → w.cell? ⟨b, o, none⟩ = some v → w1.cell? ⟨b, o, none⟩ = some v
theorem Ext.refl (F : Nat → Nat) (w : World) : Ext F w F w := ⟨fun _ => Nat.le_refl _, fun _ _ _ _ h => h⟩
theorem Ext.trans {F F1 F2 : Nat → Nat} {w w1 w2 : World} (h : Ext F w F1 w1) (k : Ext F1 w1 F2 w2) : Ext F w F2 w2 :=
  ⟨fun b => Nat.le_trans (h.more b) (k.more b), fun b o v ho hv => k.same b o v (Nat.lt_of_lt_of_le ho (h.more b)) (h.same b o v ho hv)⟩
theorem RepC.ext {F F1 : Nat → Nat} {w w1 : World} (hx : Ext F w F1 w1) : ∀ {t : Ty} {x : El t} {cs : List Value}, RepC F w t x cs → RepC F1 w1 t x cs := by
  intro t
  induction t with
  | int k => exact fun h => h
  | bool => exact fun h => h
  | str => exact fun h => h
  | nil => exact fun h => h
  | sl e ih =>
    intro x cs h
    obtain ⟨A, c, rfl, hc, hr⟩ := h
    refine ⟨A, c, rfl, hc, fun hp => ?_⟩
    obtain ⟨b, o, rfl, hF, hj⟩ := hr hp
    refine ⟨b, o, rfl, Nat.le_trans hF (hx.more b), fun j y hy => ?_⟩
    obtain ⟨ds, hd, hcell⟩ := hj j y hy
    refine ⟨ds, ih hd, fun i v hv => hx.same b _ v ?_ (hcell i v hv)⟩
    have h1 := (List.getElem?_eq_some_iff.1 hy).1
    have h2 := (List.getElem?_eq_some_iff.1 hv).1
    rw [hd.len] at h2
    have h3 : j * e.size + e.size ≤ x.length * e.size := by rw [← Nat.succ_mul]; exact Nat.mul_le_mul_right _ h1
    omega
  | cons a b iha ihb =>
    intro x cs h
    obtain ⟨c1, c2, rfl, h1, h2⟩ := h
    exact ⟨c1, c2, rfl, iha h1, ihb h2⟩
  | ptr t ih =>
    intro x cs h
    rcases h with h | ⟨y, b, o, ds, h1, h2, h3, h4, h5⟩
    · exact .inl h
    · refine .inr ⟨y, b, o, ds, h1, h2, ih h3, Nat.le_trans h4 (hx.more b), fun i v hv => hx.same b _ v ?_ (h5 i v hv)⟩
      have := (List.getElem?_eq_some_iff.1 hv).1
      rw [h3.len] at this
      omega
  | clo g c ih =>
    intro x cs h
    rcases h with h | ⟨y, ds, h1, h2, h3⟩
    · exact .inl h
    · exact .inr ⟨y, ds, h1, h2, ih h3⟩
  | ref t ih =>
    intro x cs h
    obtain ⟨b, o, ds, h2, h3, h4, h5⟩ := h
    refine ⟨b, o, ds, h2, ih h3, Nat.le_trans h4 (hx.more b), fun i v hv => hx.same b _ v ?_ (h5 i v hv)⟩
    have := (List.getElem?_eq_some_iff.1 hv).1
    rw [h3.len] at this
    omega

/-- A value out of its cells. -/
def pack (t : Ty) (cs : List Value) : Value := if t.agg then .agg cs.toArray else cs.headD undef
theorem pack_cells {F : Nat → Nat} {w : World} {t : Ty} {x : El t} {cs : List Value} (h : RepC F w t x cs) : (pack t cs).cells = cs.toArray := by
  unfold pack
  cases t with
  | int k => rw [show cs = _ from h]; rfl
  | bool => rw [show cs = _ from h]; rfl
  | str => rw [show cs = _ from h]; rfl
  | sl e => obtain ⟨A, c, rfl, _⟩ := h; rfl
  | nil => rfl
  | cons a b => rfl
  | ptr t => rcases h with ⟨_, rfl⟩ | ⟨y, b, o, ds, _, rfl, _⟩ <;> rfl
  | clo g c => rcases h with ⟨_, rfl⟩ | ⟨y, ds, _, rfl, _⟩ <;> rfl
  | ref t =>
    obtain ⟨b, o, ds, rfl, _⟩ := h
    rfl
/-- A Go value says a value. -/
def RepV (F : Nat → Nat) (w : World) (t : Ty) (x : El t) (v : Value) : Prop := ∃ cs, RepC F w t x cs ∧ v = pack t cs
theorem RepV.ext {F F1 : Nat → Nat} {w w1 : World} (hx : Ext F w F1 w1) {t : Ty} {x : El t} {v : Value} (h : RepV F w t x v) : RepV F1 w1 t x v := by
  obtain ⟨cs, h1, h2⟩ := h
  exact ⟨cs, h1.ext hx, h2⟩
/-- Several values, as a tuple has them. -/
def RepT (F : Nat → Nat) (w : World) : (t : Ty) → El t → List Value → Prop
  | .nil, _, vs => vs = []
  | .cons a b, x, vs => ∃ v us, vs = v :: us ∧ RepV F w a x.1 v ∧ RepT F w b x.2 us
  | _, _, _ => False
theorem RepT.ext {F F1 : Nat → Nat} {w w1 : World} (hx : Ext F w F1 w1) : ∀ {t : Ty} {x : El t} {vs : List Value}, RepT F w t x vs → RepT F1 w1 t x vs := by
  intro t
  induction t with
  | nil => exact fun h => h
  | cons a b _ ihb =>
    intro x vs h
    obtain ⟨v, us, rfl, h1, h2⟩ := h
    exact ⟨v, us, rfl, h1.ext hx, ihb h2⟩
  | _ => exact fun h => h
end Go.Sym
end
section
namespace Go.Sym
open Go.RowKit
set_option linter.unusedVariables false
set_option linter.unusedSimpArgs false

/-- A cell that holds a slice of this call's own (tag n + 1: the row named n; tag 0: none) whose elements have the type ety and esz cells. -/
structure TE where
  off : Nat
  tag : Nat
  ety : Nat
  esz : Nat
  deriving DecidableEq
/-- What a slot holds: a value; a test; the place of a variable's cell; the place of an element's cell; several values; a row that is written still (all of it; a part); an element's place there; nothing that is told. -/
inductive AV where
  | v (t : Ty) (x : El t) (g : List TE)
  | pr (p : Prop) (d : Decidable p) (neg : Bool)
  | lit (b : Bool)
  | nilS
  | nilP
  | ptr (b off : Nat)
  | elt (t : Ty) (l : List (El t)) (i off : Nat)
  | tup (t : Ty) (x : El t) (z : List (Nat × TE))
  | mw (e : Ty) (b n : Nat)
  | mr (e : Ty) (b lo n : Nat)
  | mel (e : Ty) (b i off : Nat)
  | und
  | junk
/-- A block of the call's own that is written: a variable; a row of elements (ety: their type, 0: no row that may be appended to). -/
inductive Bx where
  | var (t : Ty) (x : El t) (g : List TE)
  | row (ety : Nat) (e : Ty) (n : Nat) (l : List (El e))
structure St where
  slots : List AV
  boxes : List (Nat × Bx)
  used : Nat

/-- A row's cells say a list. -/
def RowC (F : Nat → Nat) (w : World) (e : Ty) (l : List (El e)) (cs : List Value) : Prop :=
  cs.length = l.length * e.size ∧ ∀ j x, l[j]? = some x → ∃ ds, RepC F w e x ds ∧ ∀ i v, ds[i]? = some v → cs[j * e.size + i]? = some v
theorem RowC.ext {F : Nat → Nat} {w : World} {e : Ty} {F1 : Nat → Nat} {w1 : World} (hx : Ext F w F1 w1) {l : List (El e)} {cs : List Value} (h : RowC F w e l cs) : RowC F1 w1 e l cs :=
  ⟨h.1, fun j x hj => by obtain ⟨ds, r1, r2⟩ := h.2 j x hj; exact ⟨ds, r1.ext hx, r2⟩⟩
/-- The blocks that a call may write: new ones, and those it was given. -/
def own (M : Nat → Prop) (w0 : World) (g : Nat) : Prop := w0.heap.size ≤ g ∨ M g
/-- A row of the call's own, with room behind its end. -/
def TagV (F : Nat → Nat) (w : World) (B : Nat → Prop) (ρ : Nat → Option Nat) (te : TE) (u : Value) : Prop :=
  (∃ a, u = .slice a 0 0) ∨ ∃ n g len cap cur, te.tag = n + 1 ∧ u = .slice (some ⟨g, 0, none⟩) len cap ∧ ρ n = some g ∧ B g ∧ F g = len * te.esz ∧ w.heap[g]? = some (.cells cur te.ety (0, 0)) ∧ cur.size = cap * te.esz ∧ len ≤ cap ∧ cap ≤ maxLen
def TagsV (F : Nat → Nat) (w : World) (B : Nat → Prop) (ρ : Nat → Option Nat) (g : List TE) (cs : Array Value) : Prop := ∀ te ∈ g, ∃ u, cs[te.off]? = some u ∧ TagV F w B ρ te u
/-- Of several values: which cells of which hold a slice that has no room. -/
def NilAt (vs : List Value) (z : List (Nat × TE)) : Prop := ∀ p ∈ z, ∃ a, (vs.getD p.1 undef).cells[p.2.off]? = some (.slice a 0 0)
def nzG (z : List (Nat × TE)) (i : Nat) : List TE := z.filterMap fun p => if p.1 = i then some p.2 else none
theorem NilAt.nil (vs : List Value) : NilAt vs [] := fun p hp => by cases hp
theorem NilAt.tags {F : Nat → Nat} {w : World} {B : Nat → Prop} {ρ : Nat → Option Nat} {vs : List Value} {z : List (Nat × TE)} (h : NilAt vs z) {i : Nat} {v : Value} (hv : vs[i]? = some v) : TagsV F w B ρ (nzG z i) v.cells := by
  intro te hte
  obtain ⟨p, hp, he⟩ := List.mem_filterMap.1 hte
  split at he
  · rename_i c
    cases he
    obtain ⟨a, ha⟩ := h p hp
    rw [c, List.getD_eq_getElem?_getD, hv] at ha
    exact ⟨_, ha, .inl ⟨a, rfl⟩⟩
  · cases he
def RepA (F : Nat → Nat) (w : World) (B : Nat → Prop) (γ : Nat → Nat) (ρ : Nat → Option Nat) : AV → Value → Prop
  | .v t x g, v => RepV F w t x v ∧ TagsV F w B ρ g v.cells
  | .pr p d neg, v => v = .bool (xor neg (@decide p d))
  | .lit b, v => v = .bool b
  | .nilS, v => v = .slice none 0 0
  | .nilP, v => v = .pointer none
  | .ptr b off, v => v = .pointer (some ⟨γ b, off, none⟩)
  | .elt t l i off, v => ∃ b o x ds, v = .pointer (some ⟨b, o + i * t.size + off, none⟩) ∧ l[i]? = some x ∧ o + l.length * t.size ≤ F b ∧ RepC F w t x ds ∧ ∀ j u, ds[j]? = some u → w.cell? ⟨b, o + i * t.size + j, none⟩ = some u
  | .tup t x z, v => ∃ vs, v = .tuple vs.toArray ∧ RepT F w t x vs ∧ NilAt vs z
  | .mw e b n, v => v = .slice (some ⟨γ b, 0, none⟩) n n
  | .mr e b lo n, v => ∃ o c, v = .slice (some ⟨γ b, o, none⟩) n c ∧ n ≤ c ∧ (0 < n → o = lo * e.size)
  | .mel e b i off, v => v = .pointer (some ⟨γ b, i * e.size + off, none⟩)
  | .und, v => v = undef
  | .junk, _ => True
def Bx.Is (F : Nat → Nat) (w : World) (B : Nat → Prop) (ρ : Nat → Option Nat) : Bx → List Value → Nat → Prop
  | .var t x g, cs, _ => RepC F w t x cs ∧ TagsV F w B ρ g cs.toArray
  | .row ety e n l, cs, tid => RowC F w e l cs ∧ (ety ≠ 0 → tid = ety) ∧ 0 < e.size ∧ l.length = n ∧ n ≤ maxLen
def BxOk (F : Nat → Nat) (w : World) (B : Nat → Prop) (γ : Nat → Nat) (ρ : Nat → Option Nat) (b : Nat) (bx : Bx) : Prop :=
  B (γ b) ∧ F (γ b) = 0 ∧ (∀ n, ρ n ≠ some (γ b)) ∧ ∃ cs tid, w.heap[γ b]? = some (.cells cs.toArray tid (0, 0)) ∧ bx.Is F w B ρ cs tid
/-- How many places a row has. -/
def rowN (bx : List (Nat × Bx)) (b : Nat) : Option Nat := match bx.lookup b with
  | some (.row _ _ n _) => some n
  | _ => none
/-- What is told of a row's parts lies in it. -/
def avWf (bx : List (Nat × Bx)) : AV → Prop
  | .mw e b n => ∀ m, rowN bx b = some m → n = m
  | .mr e b lo n => ∀ m, rowN bx b = some m → lo + n ≤ m
  | .mel e b i off => ∀ m, rowN bx b = some m → i < m
  | _ => True
/-- Memory that was there stays, but for what was given. -/
structure BelowM (M : Nat → Prop) (w w1 : World) : Prop where
  os : w1.os = w.os
  tape : w1.tape = w.tape
  output : w1.output = w.output
  size : w.heap.size ≤ w1.heap.size
  block : ∀ k, k < w.heap.size → ¬ M k → w1.heap[k]? = w.heap[k]?
/-- The frame and the memory are told by the plain state. w0, F0: the memory when the call began; M: what it was given to write. -/
structure RelG (M : Nat → Prop) (w0 : World) (F0 F : Nat → Nat) (γ : Nat → Nat) (ρ : Nat → Option Nat) (s : St) (a : Act) (w : World) : Prop where
  defers : a.defers = []
  below : BelowM M w0 w
  fold : ∀ b, b < w0.heap.size → ¬ M b → F b = F0 b
  ext : Ext F0 w0 F w
  fin : ∀ b, 0 < F b → b < w.heap.size
  len : s.slots.length = a.tmps.size
  slot : ∀ i av, s.slots[i]? = some av → RepA F w (own M w0) γ ρ av (a.tmps.getD i undef)
  box : ∀ b bx, (b, bx) ∈ s.boxes → BxOk F w (own M w0) γ ρ b bx
  boxinj : ∀ b b1 x x1, (b, x) ∈ s.boxes → (b1, x1) ∈ s.boxes → γ b = γ b1 → b = b1
  rowlt : ∀ n g, ρ n = some g → g < w.heap.size
  rowinj : ∀ n m g, ρ n = some g → ρ m = some g → n = m
  rowused : ∀ n g, ρ n = some g → s.used.testBit n = true
  wf : ∀ av ∈ s.slots, avWf s.boxes av
def Rel (M : Nat → Prop) (w0 : World) (F0 : Nat → Nat) (s : St) (a : Act) (w : World) : Prop := ∃ F γ ρ, RelG M w0 F0 F γ ρ s a w
theorem BelowM.refl (M : Nat → Prop) (w : World) : BelowM M w w := ⟨rfl, rfl, rfl, Nat.le_refl _, fun _ _ _ => rfl⟩
/-- Two changes, one behind the other; the second one leaves alone what was there at first. -/
theorem BelowM.step {M : Nat → Prop} {w0 w w1 : World} (h : BelowM M w0 w) (os : w1.os = w.os) (tape : w1.tape = w.tape) (output : w1.output = w.output) (size : w.heap.size ≤ w1.heap.size) (block : ∀ k, k < w0.heap.size → ¬ M k → w1.heap[k]? = w.heap[k]?) : BelowM M w0 w1 :=
  ⟨os.trans h.os, tape.trans h.tape, output.trans h.output, Nat.le_trans h.size size, fun k hk hM => (block k hk hM).trans (h.block k hk hM)⟩

section
variable {M : Nat → Prop} {w0 w w1 : World} {F0 F F1 : Nat → Nat} {γ : Nat → Nat} {ρ : Nat → Option Nat} {s : St} {a : Act} {B : Nat → Prop}

theorem cell_lt {w : World} {a : Addr} {v : Value} (h : w.cell? a = some v) : a.block < w.heap.size := by
  unfold World.cell? at h
  split at h
  · rename_i hh
    exact (Array.getElem?_eq_some_iff.1 hh).1
  · cases h
/-- New blocks only. -/
structure Grow (F : Nat → Nat) (w : World) (F1 : Nat → Nat) (w1 : World) : Prop where
  below : Below w.heap.size w w1
  fold : ∀ b, b < w.heap.size → F1 b = F b
theorem Grow.refl (F : Nat → Nat) (w : World) : Grow F w F w := ⟨Below.refl _ _, fun _ _ => rfl⟩
theorem Grow.heap (g : Grow F w F1 w1) {b : Nat} {o : Obj} (h : w.heap[b]? = some o) : w1.heap[b]? = some o := by
  rw [g.below.block b (Array.getElem?_eq_some_iff.1 h).1]
  exact h
theorem Grow.fat (g : Grow F w F1 w1) {b : Nat} {o : Obj} (h : w.heap[b]? = some o) : F1 b = F b := g.fold b (Array.getElem?_eq_some_iff.1 h).1
theorem Grow.cell (g : Grow F w F1 w1) {x : Addr} {v : Value} (h : w.cell? x = some v) : w1.cell? x = some v := (g.below.cell (cell_lt h)).trans h
theorem Grow.ext (g : Grow F w F1 w1) (hf : ∀ b, 0 < F b → b < w.heap.size) : Ext F w F1 w1 :=
  ⟨fun b => by
    rcases Nat.eq_zero_or_pos (F b) with h | h
    · omega
    · rw [g.fold b (hf b h)]
      exact Nat.le_refl _, fun b o v _ h => g.cell h⟩
theorem TagV.grow (g : Grow F w F1 w1) {te : TE} {u : Value} (h : TagV F w B ρ te u) : TagV F1 w1 B ρ te u := by
  rcases h with h | ⟨n, b, len, cap, cur, h1, rfl, h2, h3, h4, h5, h6⟩
  · exact .inl h
  · exact .inr ⟨n, b, len, cap, cur, h1, rfl, h2, h3, by rw [g.fat h5]; exact h4, g.heap h5, h6⟩
theorem TagsV.grow (g : Grow F w F1 w1) {l : List TE} {cs : Array Value} (h : TagsV F w B ρ l cs) : TagsV F1 w1 B ρ l cs := fun te hte => by
  obtain ⟨u, h1, h2⟩ := h te hte
  exact ⟨u, h1, h2.grow g⟩
theorem RepA.grow (g : Grow F w F1 w1) (hf : ∀ b, 0 < F b → b < w.heap.size) {av : AV} {v : Value} (h : RepA F w B γ ρ av v) : RepA F1 w1 B γ ρ av v := by
  cases av with
  | v t x l => exact ⟨h.1.ext (g.ext hf), h.2.grow g⟩
  | pr p d neg => exact h
  | lit b => exact h
  | nilS => exact h
  | nilP => exact h
  | ptr b off => exact h
  | elt t l i off =>
    obtain ⟨b, o, x, ds, h1, h2, h3, h4, h5⟩ := h
    exact ⟨b, o, x, ds, h1, h2, Nat.le_trans h3 ((g.ext hf).more b), h4.ext (g.ext hf), fun j u hu => g.cell (h5 j u hu)⟩
  | tup t x z =>
    obtain ⟨vs, h1, h2, h3⟩ := h
    exact ⟨vs, h1, h2.ext (g.ext hf), h3⟩
  | mw e b n => exact h
  | mr e b lo n => exact h
  | mel e b i off => exact h
  | und => exact h
  | junk => trivial
theorem Bx.Is.grow (g : Grow F w F1 w1) (hf : ∀ b, 0 < F b → b < w.heap.size) {bx : Bx} {cs : List Value} {tid : Nat} (h : bx.Is F w B ρ cs tid) : bx.Is F1 w1 B ρ cs tid := by
  cases bx with
  | var t x l => exact ⟨h.1.ext (g.ext hf), h.2.grow g⟩
  | row ety e n l => exact ⟨h.1.ext (g.ext hf), h.2⟩
theorem BxOk.grow (g : Grow F w F1 w1) (hf : ∀ b, 0 < F b → b < w.heap.size) {b : Nat} {bx : Bx} (h : BxOk F w B γ ρ b bx) : BxOk F1 w1 B γ ρ b bx := by
  obtain ⟨h1, h2, h3, cs, tid, h4, h5⟩ := h
  exact ⟨h1, by rw [g.fat h4]; exact h2, h3, cs, tid, g.heap h4, h5.grow g hf⟩
/-- Memory that only grew: the state tells it still. -/
theorem RelG.grow (h : RelG M w0 F0 F γ ρ s a w) (g : Grow F w F1 w1) (hfin : ∀ b, 0 < F1 b → b < w1.heap.size) : RelG M w0 F0 F1 γ ρ s a w1 where
  defers := h.defers
  below := h.below.step g.below.os g.below.tape g.below.output g.below.size (fun k hk _ => g.below.block k (Nat.lt_of_lt_of_le hk h.below.size))
  fold b hb hM := by rw [g.fold b (Nat.lt_of_lt_of_le hb h.below.size)]; exact h.fold b hb hM
  ext := h.ext.trans (g.ext h.fin)
  fin := hfin
  len := h.len
  slot i av hi := (h.slot i av hi).grow g h.fin
  box b bx hb := (h.box b bx hb).grow g h.fin
  boxinj := h.boxinj
  rowlt n b hn := Nat.lt_of_lt_of_le (h.rowlt n b hn) g.below.size
  rowinj := h.rowinj
  rowused := h.rowused
  wf := h.wf
def St.put (s : St) (d : Option Nat) (av : AV) : St := match d with
  | some d => { s with slots := s.slots.set d av }
  | none => s
/-- A slot is written. -/
theorem RelG.put (h : RelG M w0 F0 F γ ρ s a w) (d : Option Nat) {av : AV} {v : Value} (hv : RepA F w (own M w0) γ ρ av v) (hw : avWf s.boxes av) : RelG M w0 F0 F γ ρ (s.put d av) (a.put d v) w := by
  cases d with
  | none => exact h
  | some d =>
    refine { h with defers := h.defers, len := ?_, slot := ?_, wf := ?_ }
    rotate_left 2
    · intro x hx
      rcases List.mem_or_eq_of_mem_set hx with q | rfl
      · exact h.wf x q
      · exact hw
    · simp only [St.put, Act.put, List.length_set, Array.size_setIfInBounds]
      exact h.len
    · intro i x hi
      simp only [St.put, List.getElem?_set] at hi
      simp only [Act.put]
      by_cases c : d = i
      · subst c
        rw [if_pos rfl] at hi
        split at hi
        · rename_i hl
          obtain rfl := Option.some.inj hi
          rw [Array.getD_eq_getD_getElem?, Array.getElem?_setIfInBounds, if_pos rfl, if_pos (by rw [← h.len]; exact hl)]
          exact hv
        · cases hi
      · rw [if_neg c] at hi
        rw [Array.getD_eq_getD_getElem?, Array.getElem?_setIfInBounds, if_neg c, ← Array.getD_eq_getD_getElem?]
        exact h.slot i x hi
theorem World.drew_grow (F : Nat → Nat) (w : World) : Grow F w F w.drew := ⟨(Below.refl _ _).drew, fun _ _ => rfl⟩
end
end Go.Sym
end
section
namespace Go.Sym
open Go.RowKit
set_option linter.unusedVariables false
set_option linter.unusedSimpArgs false

inductive TD where
  | int (k : IntKind)
  | bool
  | str
  | sl (e : Nat)
  | st (fs : List (Nat × Nat))
  | arr (n e : Nat)
  | ptr (e : Nat)
  | other
  deriving DecidableEq
structure TRow where
  d : TD
  t : Ty
  bytes : Nat
abbrev Tab := List TRow
def Tab.row (T : Tab) (i : Nat) : TRow := T.getD i ⟨.other, .nil, 0⟩
def Tab.ty (T : Tab) (i : Nat) : Ty := (T.row i).t
/-- The cells of a type's zero value. -/
def zeroOf : Ty → List Value
  | .int k => [.int k 0]
  | .bool => [.bool false]
  | .str => [.string ⟨#[]⟩]
  | .sl _ => [.slice none 0 0]
  | .nil => []
  | .cons a b => zeroOf a ++ zeroOf b
  | .ptr _ => [.pointer none]
  | .clo _ _ => [.nilFunc]
  | .ref _ => [.pointer none]
theorem zeroOf_len : ∀ t, (zeroOf t).length = t.size
  | .int _ => rfl
  | .bool => rfl
  | .str => rfl
  | .sl _ => rfl
  | .nil => rfl
  | .cons a b => by rw [zeroOf, List.length_append, zeroOf_len a, zeroOf_len b]; rfl
  | .ptr _ => rfl
  | .clo _ _ => rfl
  | .ref _ => rfl
/-- A type that has a zero value. -/
def Ty.zok : Ty → Bool
  | .cons a b => a.zok && b.zok
  | .ref _ => false
  | _ => true
theorem zeroOf_rep (F : Nat → Nat) (w : World) : ∀ t, t.zok = true → RepC F w t (dflt t) (zeroOf t)
  | .int _, _ => rfl
  | .bool, _ => rfl
  | .str, _ => rfl
  | .sl _, _ => ⟨none, 0, rfl, Nat.le_refl _, fun h => absurd h (by simp [dflt])⟩
  | .nil, _ => rfl
  | .cons a b, h => by
    rw [Ty.zok, Bool.and_eq_true] at h
    exact ⟨_, _, rfl, zeroOf_rep F w a h.1, zeroOf_rep F w b h.2⟩
  | .ptr _, _ => .inl ⟨rfl, rfl⟩
  | .clo _ _, _ => .inl ⟨rfl, rfl⟩
  | .ref _, h => by cases h
def vIs : Value → Value → Bool
  | .int k a, .int k' b => k == k' && a == b
  | .bool a, .bool b => a == b
  | .string a, .string b => a.size == 0 && b.size == 0
  | .slice none 0 0, .slice none 0 0 => true
  | .pointer none, .pointer none => true
  | _, _ => false
theorem ba_nil {a : ByteArray} (h : a.size = 0) : a = ⟨#[]⟩ := by
  obtain ⟨⟨l⟩⟩ := a
  have : l.length = 0 := h
  rw [List.length_eq_zero_iff.1 this]
theorem vIs_eq {a b : Value} (h : vIs a b = true) : a = b := by
  unfold vIs at h
  split at h
  · simp only [Bool.and_eq_true, beq_iff_eq] at h
    rw [h.1, h.2]
  · rw [beq_iff_eq.1 h]
  · simp only [Bool.and_eq_true, beq_iff_eq] at h
    rw [ba_nil h.1, ba_nil h.2]
  · rfl
  · rfl
  · cases h
def vsIs : List Value → List Value → Bool
  | [], [] => true
  | a :: as, b :: bs => vIs a b && vsIs as bs
  | _, _ => false
theorem vsIs_eq : ∀ {a b : List Value}, vsIs a b = true → a = b
  | [], [], _ => rfl
  | a :: as, b :: bs, h => by
    simp only [vsIs, Bool.and_eq_true] at h
    rw [vIs_eq h.1, vsIs_eq h.2]
def zIs (t : Ty) (z : Value) : Bool := if t.agg then (match z with | .agg cs => vsIs cs.toList (zeroOf t) | _ => false) else vIs z ((zeroOf t).headD undef)
theorem zIs_eq {t : Ty} {z : Value} (h : zIs t z = true) : z = pack t (zeroOf t) := by
  unfold zIs at h
  unfold pack
  split at h
  · rename_i ha
    rw [if_pos ha]
    split at h
    · rename_i cs
      rw [← vsIs_eq h]
    · cases h
  · rename_i ha
    rw [if_neg ha]
    exact vIs_eq h
/-- A struct's type as a chain of its fields' types. -/
def chain (T : Tab) : List (Nat × Nat) → Nat → Option Ty
  | [], _ => some .nil
  | (f, o) :: r, off => if o = off ∧ (T.row f).d ≠ .other then (chain T r (off + (T.ty f).size)).map (Ty.cons (T.ty f)) else none
def rep (t : Ty) : Nat → Ty
  | 0 => .nil
  | n + 1 => .cons t (rep t n)
def descIs (T : Tab) (r : TRow) (u : TypeDesc) : Bool := match r.d, u with
  | .int k, .int k' => k == k' && r.t == .int k
  | .bool, .bool => r.t == .bool
  | .str, .string => r.t == .str
  | .sl e, .slice e' => e == e' && r.t == .sl (T.ty e) && (T.row e).d != .other && 0 < (T.ty e).size
  | .st fs, .struct l => (l.toList.map fun f => (f.type, f.offset)) == fs && chain T fs 0 == some r.t && l.toList.all fun f => f.name != "_"
  | .arr n e, .array n' e' => n == n' && e == e' && r.t == rep (T.ty e) n && (T.row e).d != .other && 0 < (T.ty e).size
  | .ptr e, .pointer e' => e == e' && r.t == .ptr (T.ty e) && (T.row e).d != .other
  | _, _ => false
def rowIs (P : Program) (T : Tab) (i : Nat) : Bool := match (T.row i).d with
  | .other => true
  | _ => match P.info? i, P.underlying i with
    | some inf, some u => inf.size == (T.ty i).size && inf.bytes == (T.row i).bytes && (match inf.zero with | some z => zIs (T.ty i) z | none => false) && descIs T (T.row i) u && !P.stoodInHeld i && !P.eqGuardType P.depth i && (T.ty i).zok
    | _, _ => false
def tabIs (P : Program) (T : Tab) : Bool := (List.range T.length).all (rowIs P T)
/-- The table tells the program's types. -/
structure TabOk (P : Program) (T : Tab) : Prop where
  out : tabIs P T = true
structure RowOk (P : Program) (T : Tab) (i : Nat) : Prop where
  ex : ∃ inf u, P.info? i = some inf ∧ P.underlying i = some u ∧ inf.size = (T.ty i).size ∧ inf.bytes = (T.row i).bytes ∧ inf.zero = some (pack (T.ty i) (zeroOf (T.ty i))) ∧ descIs T (T.row i) u = true
  eqs : P.stoodInHeld i = false ∧ P.eqGuardType P.depth i = false
  zok : (T.ty i).zok = true
section
variable {P : Program} {T : Tab}
theorem TabOk.row (h : TabOk P T) {i : Nat} (hd : (T.row i).d ≠ .other) : RowOk P T i := by
  have hi : i < T.length := by
    rcases Nat.lt_or_ge i T.length with q | q
    · exact q
    · refine absurd ?_ hd
      unfold Tab.row
      rw [List.getD_eq_getElem?_getD, List.getElem?_eq_none q]
      rfl
  have hr := List.all_eq_true.1 h.out i (List.mem_range.2 hi)
  unfold rowIs at hr
  split at hr
  · rename_i q; exact absurd q hd
  · split at hr
    · rename_i inf u h1 h2
      simp only [Bool.and_eq_true, beq_iff_eq] at hr
      obtain ⟨⟨⟨⟨⟨⟨a, b⟩, c⟩, d⟩, e1⟩, e2⟩, e3⟩ := hr
      split at c
      · rename_i z hz
        exact ⟨⟨inf, u, h1, h2, a, b, by rw [hz, zIs_eq c], d⟩, ⟨by simpa using e1, by simpa using e2⟩, e3⟩
      · cases c
    · cases hr
variable {i : Nat}
theorem RowOk.sizeOf (h : RowOk P T i) (w : World) : (Go.sizeOf i).run P w = .ok (T.ty i).size w := by
  obtain ⟨inf, u, h1, h2, h3, h4, h5, h6⟩ := h.ex
  simp [Go.sizeOf, typeInfo, h1, h3]
theorem RowOk.zeroValue (h : RowOk P T i) (w : World) : (Go.zeroValue i).run P w = .ok (pack (T.ty i) (zeroOf (T.ty i))) w := by
  obtain ⟨inf, u, h1, h2, h3, h4, h5, h6⟩ := h.ex
  simp [Go.zeroValue, typeInfo, h1, h5]
theorem chain_agg {T : Tab} : ∀ {fs : List (Nat × Nat)} {off : Nat} {t : Ty}, chain T fs off = some t → t.agg = true
  | [], _, _, h => by cases h; rfl
  | (f, o) :: r, off, t, h => by
    unfold chain at h
    split at h
    · obtain ⟨u, _, rfl⟩ := Option.map_eq_some_iff.1 h
      rfl
    · cases h
theorem rep_agg (t : Ty) : ∀ n, (rep t n).agg = true
  | 0 => rfl
  | _ + 1 => rfl
theorem desc_agg {r : TRow} {u : TypeDesc} (h : descIs T r u = true) : r.t.agg = u.isRow := by
  unfold descIs at h
  split at h <;> simp only [Bool.and_eq_true, beq_iff_eq, Bool.false_eq_true] at h
  · rw [h.2]; rfl
  · rw [h]; rfl
  · rw [h]; rfl
  · rw [h.1.1.2]; rfl
  · exact chain_agg h.1.2
  · rw [h.1.1.2]; exact rep_agg _ _
  · rw [h.1.2]; rfl
theorem RowOk.isAgg (h : RowOk P T i) (w : World) : (Go.isAgg i).run P w = .ok (T.ty i).agg w := by
  obtain ⟨inf, u, h1, h2, h3, h4, h5, h6⟩ := h.ex
  have e : (T.ty i).agg = u.isRow := desc_agg h6
  unfold Go.isAgg
  rw [Sem.run_bind, run_underlying h2 w, e]
  cases u <;> rfl
theorem pack_one {t : Ty} (ha : t.agg = false) {v : Value} : pack t [v] = v := by unfold pack; rw [if_neg (by rw [ha]; simp)]; rfl
theorem size_one {t : Ty} (ha : t.agg = false) : t.size = 1 := by cases t <;> first | rfl | cases ha
/-- A variable is loaded. -/
theorem RowOk.load (h : RowOk P T i) {w : World} {b o : Nat} {cs : List Value} (hc : ∀ j v, cs[j]? = some v → w.cell? ⟨b, o + j, none⟩ = some v) (hl : cs.length = (T.ty i).size) :
    (Instr.loadAt i (.pointer (some ⟨b, o, none⟩))).run P w = .ok (pack (T.ty i) cs) w := by
  simp only [Instr.loadAt, Instr.sureAddr, Sem.run_bind, Sem.run_pure, Result.andThen_ok]
  obtain ⟨inf, u, h1, h2, h3, h4, h5, h6⟩ := h.ex
  cases ha : (T.ty i).agg with
  | true =>
    have e : u.isRow = true := (desc_agg h6).symm.trans ha
    rw [run_loadVar_mid w b o i cs u hc h2 e (by rw [h1]; simp [h3, hl])]
    unfold pack
    rw [if_pos ha]
  | false =>
    have hs := size_one ha
    rw [hs] at hl
    match cs, hl with
    | [v], _ =>
      have := hc 0 v rfl
      rw [pack_one ha]
      unfold loadVar
      rw [Sem.run_bind, h.isAgg w, ha]
      simp only [Result.andThen_ok]
      simp [Go.load, Sem.run, show w.cell? ⟨b, o, none⟩ = some v from this]
end
end Go.Sym
end
section
namespace Go.Sym
open Go.RowKit
set_option linter.unusedVariables false
set_option linter.unusedSimpArgs false

def castEl (t u : Ty) (x : El t) : Option (El u) := if h : t = u then some (h ▸ x) else none
theorem castEl_eq {t u : Ty} {x : El t} {y : El u} (h : castEl t u x = some y) : ∃ e : t = u, e ▸ x = y := by
  unfold castEl at h
  split at h
  · rename_i e
    exact ⟨e, Option.some.inj h⟩
  · cases h
/-- The part of type u that begins off cells behind the begin. -/
def subEl : (t : Ty) → El t → Nat → (u : Ty) → Option (El u)
  | .cons a b, x, off, u => if off = 0 ∧ Ty.cons a b = u then castEl (.cons a b) u x else if off < a.size then subEl a x.1 off u else subEl b x.2 (off - a.size) u
  | .int k, x, off, u => if off = 0 then castEl (.int k) u x else none
  | .bool, x, off, u => if off = 0 then castEl .bool u x else none
  | .str, x, off, u => if off = 0 then castEl .str u x else none
  | .sl e, x, off, u => if off = 0 then castEl (.sl e) u x else none
  | .nil, x, off, u => if off = 0 then castEl .nil u x else none
  | .ptr t, x, off, u => if off = 0 then castEl (.ptr t) u x else none
  | .clo g c, x, off, u => if off = 0 then castEl (.clo g c) u x else none
  | .ref t, x, off, u => if off = 0 then castEl (.ref t) u x else none
def setEl : (t : Ty) → El t → Nat → (u : Ty) → El u → Option (El t)
  | .cons a b, x, off, u, y => if off = 0 ∧ Ty.cons a b = u then castEl u (.cons a b) y else if off < a.size then (setEl a x.1 off u y).map fun z => (z, x.2) else (setEl b x.2 (off - a.size) u y).map fun z => (x.1, z)
  | .int k, x, off, u, y => if off = 0 then castEl u (.int k) y else none
  | .bool, x, off, u, y => if off = 0 then castEl u .bool y else none
  | .str, x, off, u, y => if off = 0 then castEl u .str y else none
  | .sl e, x, off, u, y => if off = 0 then castEl u (.sl e) y else none
  | .nil, x, off, u, y => if off = 0 then castEl u .nil y else none
  | .ptr t, x, off, u, y => if off = 0 then castEl u (.ptr t) y else none
  | .clo g c, x, off, u, y => if off = 0 then castEl u (.clo g c) y else none
  | .ref t, x, off, u, y => if off = 0 then castEl u (.ref t) y else none
section
variable {F : Nat → Nat} {w : World}
theorem RepC.cast {t u : Ty} {x : El t} {y : El u} {cs : List Value} (h : RepC F w t x cs) (hc : castEl t u x = some y) : RepC F w u y cs := by
  obtain ⟨e, rfl⟩ := castEl_eq hc
  subst e
  exact h
theorem part_whole {cs : List Value} {t u : Ty} (e : t = u) (hl : cs.length = t.size) : (cs.drop 0).take u.size = cs := by
  subst e
  rw [List.drop_zero, ← hl, List.take_length]
theorem sub_self {t u : Ty} {x : El t} {y : El u} {off : Nat} {cs : List Value} (h : RepC F w t x cs) (hs : (if off = 0 then castEl t u x else none) = some y) :
    RepC F w u y ((cs.drop off).take u.size) ∧ off + u.size ≤ t.size := by
  split at hs
  · rename_i h0
    subst h0
    obtain ⟨e, _⟩ := castEl_eq hs
    rw [part_whole e h.len]
    exact ⟨h.cast hs, by rw [e]; omega⟩
  · cases hs
theorem subEl_rep : ∀ {t : Ty} {x : El t} {off : Nat} {u : Ty} {y : El u} {cs : List Value}, RepC F w t x cs → subEl t x off u = some y → RepC F w u y ((cs.drop off).take u.size) ∧ off + u.size ≤ t.size := by
  intro t
  induction t with
  | int k => intro x off u y cs h hs; exact sub_self h hs
  | bool => intro x off u y cs h hs; exact sub_self h hs
  | str => intro x off u y cs h hs; exact sub_self h hs
  | sl e _ => intro x off u y cs h hs; exact sub_self h hs
  | nil => intro x off u y cs h hs; exact sub_self h hs
  | ptr t _ => intro x off u y cs h hs; exact sub_self h hs
  | clo g c _ => intro x off u y cs h hs; exact sub_self h hs
  | ref t _ => intro x off u y cs h hs; exact sub_self h hs
  | cons a b iha ihb =>
    intro x off u y cs h hs
    unfold subEl at hs
    split at hs
    · rename_i q
      obtain ⟨rfl, e⟩ := q
      rw [part_whole e h.len]
      exact ⟨h.cast hs, by rw [← e]; omega⟩
    · obtain ⟨c1, c2, rfl, h1, h2⟩ := h
      have hs1 : (Ty.cons a b).size = a.size + b.size := rfl
      split at hs
      · rename_i ho
        obtain ⟨r1, r2⟩ := iha h1 hs
        have l1 := h1.len
        rw [List.drop_append_of_le_length (by omega), List.take_append_of_le_length (by rw [List.length_drop]; omega)]
        exact ⟨r1, by omega⟩
      · rename_i ho
        obtain ⟨r1, r2⟩ := ihb h2 hs
        have l1 := h1.len
        rw [List.drop_append, List.drop_eq_nil_of_le (by omega), List.nil_append, l1]
        exact ⟨r1, by omega⟩
theorem set_self {t u : Ty} {x x1 : El t} {y : El u} {off : Nat} {cs ds : List Value} (h : RepC F w t x cs) (hd : RepC F w u y ds) (hs : (if off = 0 then castEl u t y else none) = some x1) :
    RepC F w t x1 (cs.take off ++ ds ++ cs.drop (off + u.size)) ∧ off + u.size ≤ t.size := by
  split at hs
  · rename_i h0
    subst h0
    obtain ⟨e, _⟩ := castEl_eq hs
    have l := h.len
    rw [List.take_zero, List.nil_append, List.drop_eq_nil_of_le (by rw [e]; omega), List.append_nil]
    exact ⟨hd.cast hs, by rw [e]; omega⟩
  · cases hs
theorem setEl_rep {u : Ty} {y : El u} {ds : List Value} (hd : RepC F w u y ds) : ∀ {t : Ty} {x x1 : El t} {off : Nat} {cs : List Value}, RepC F w t x cs → setEl t x off u y = some x1 → RepC F w t x1 (cs.take off ++ ds ++ cs.drop (off + u.size)) ∧ off + u.size ≤ t.size := by
  intro t
  induction t with
  | int k => intro x x1 off cs h hs; exact set_self h hd hs
  | bool => intro x x1 off cs h hs; exact set_self h hd hs
  | str => intro x x1 off cs h hs; exact set_self h hd hs
  | sl e _ => intro x x1 off cs h hs; exact set_self h hd hs
  | nil => intro x x1 off cs h hs; exact set_self h hd hs
  | ptr t _ => intro x x1 off cs h hs; exact set_self h hd hs
  | clo g c _ => intro x x1 off cs h hs; exact set_self h hd hs
  | ref t _ => intro x x1 off cs h hs; exact set_self h hd hs
  | cons a b iha ihb =>
    intro x x1 off cs h hs
    unfold setEl at hs
    split at hs
    · rename_i q
      obtain ⟨rfl, e⟩ := q
      exact set_self h hd (by rw [if_pos rfl]; exact hs)
    · obtain ⟨c1, c2, rfl, h1, h2⟩ := h
      have hs1 : (Ty.cons a b).size = a.size + b.size := rfl
      have l1 := h1.len
      split at hs
      · rename_i ho
        obtain ⟨z, hz, rfl⟩ := Option.map_eq_some_iff.1 hs
        obtain ⟨r1, r2⟩ := iha h1 hz
        rw [List.take_append_of_le_length (by omega), List.drop_append_of_le_length (by omega)]
        exact ⟨⟨_, _, by simp only [List.append_assoc], r1, h2⟩, by omega⟩
      · rename_i ho
        obtain ⟨z, hz, rfl⟩ := Option.map_eq_some_iff.1 hs
        obtain ⟨r1, r2⟩ := ihb h2 hz
        rw [List.take_append, List.drop_append, List.take_of_length_le (by omega), List.drop_eq_nil_of_le (by omega : c1.length ≤ off + u.size), List.nil_append, l1, show off + u.size - a.size = off - a.size + u.size from by omega]
        exact ⟨⟨_, _, by simp only [List.append_assoc], h1, r1⟩, by omega⟩
end
/-- Tags of a part, and of a whole whose part has others. -/
def subG (g : List TE) (off n : Nat) : List TE := g.filterMap fun te => if off ≤ te.off ∧ te.off < off + n then some { te with off := te.off - off } else none
def setG (g : List TE) (off n : Nat) (g1 : List TE) : List TE := (g.filter fun te => !(decide (off ≤ te.off ∧ te.off < off + n))) ++ g1.map fun te => { te with off := te.off + off }
section
variable {F : Nat → Nat} {w : World} {B : Nat → Prop} {ρ : Nat → Option Nat}
theorem TagV.off {te : TE} {u : Value} (n : Nat) (h : TagV F w B ρ te u) : TagV F w B ρ { te with off := n } u := h
theorem subG_ok {g : List TE} {cs : List Value} (h : TagsV F w B ρ g cs.toArray) (off n : Nat) : TagsV F w B ρ (subG g off n) ((cs.drop off).take n).toArray := by
  intro te hte
  obtain ⟨t0, ht0, h1⟩ := List.mem_filterMap.1 hte
  split at h1
  · rename_i c
    obtain rfl := Option.some.inj h1
    obtain ⟨u, hu, hv⟩ := h t0 ht0
    refine ⟨u, ?_, hv.off _⟩
    rw [List.getElem?_toArray] at hu ⊢
    rw [List.getElem?_take_of_lt (by simp only; omega), List.getElem?_drop, show off + (t0.off - off) = t0.off from by omega]
    exact hu
  · cases h1
theorem setG_ok {g g1 : List TE} {cs ds : List Value} (h : TagsV F w B ρ g cs.toArray) (h1 : TagsV F w B ρ g1 ds.toArray) (off n : Nat) (hn : ds.length = n) (ho : off + n ≤ cs.length) :
    TagsV F w B ρ (setG g off n g1) (cs.take off ++ ds ++ cs.drop (off + n)).toArray := by
  intro te hte
  rcases List.mem_append.1 hte with q | q
  · obtain ⟨q1, q2⟩ := List.mem_filter.1 q
    obtain ⟨u, hu, hv⟩ := h te q1
    refine ⟨u, ?_, hv⟩
    have q3 : ¬ (off ≤ te.off ∧ te.off < off + n) := by
      simp at q2
      omega
    rw [List.getElem?_toArray] at hu ⊢
    rcases Nat.lt_or_ge te.off off with c | c
    · rw [List.append_assoc, List.getElem?_append_left (by rw [List.length_take]; omega), List.getElem?_take_of_lt c]
      exact hu
    · rw [List.getElem?_append_right (by rw [List.length_append, List.length_take]; omega), List.getElem?_drop, List.length_append, List.length_take, hn, show off + n + (te.off - (min off cs.length + n)) = te.off from by omega]
      exact hu
  · obtain ⟨t0, ht0, rfl⟩ := List.mem_map.1 q
    obtain ⟨u, hu, hv⟩ := h1 t0 ht0
    refine ⟨u, ?_, hv.off _⟩
    rw [List.getElem?_toArray] at hu ⊢
    have hl := (List.getElem?_eq_some_iff.1 hu).1
    rw [List.getElem?_append_left (by rw [List.length_append, List.length_take]; simp only; omega), List.getElem?_append_right (by rw [List.length_take]; simp only; omega), List.length_take, show t0.off + off - min off cs.length = t0.off from by omega]
    exact hu
end
/-- A slot's content as a value of a type. -/
def AV.as (t : Ty) : AV → Option (El t × List TE)
  | .v u x g => (castEl u t x).map fun y => (y, g)
  | .pr p d neg => (castEl .bool t (xor neg (@decide p d))).map fun y => (y, [])
  | .lit b => (castEl .bool t b).map fun y => (y, [])
  | .nilS => match t with
    | .sl e => some ([], [])
    | _ => none
  | .nilP => match t with
    | .ptr u => some (none, [])
    | _ => none
  | .elt e l i off => match t with
    | .ref u => if off = 0 then (castEl (.sl e) (.sl u) l).map fun m => (m.getD i (dflt u), []) else none
    | _ => none
  | _ => none
section
variable {F : Nat → Nat} {w : World} {B : Nat → Prop} {γ : Nat → Nat} {ρ : Nat → Option Nat}
theorem RepV.cast {t u : Ty} {x : El t} {y : El u} {v : Value} (h : RepV F w t x v) (hc : castEl t u x = some y) : RepV F w u y v := by
  obtain ⟨e, rfl⟩ := castEl_eq hc
  subst e
  exact h
theorem AV.as_rep {t : Ty} {av : AV} {v : Value} {y : El t} {g : List TE} (h : RepA F w B γ ρ av v) (ha : av.as t = some (y, g)) : RepV F w t y v ∧ TagsV F w B ρ g v.cells := by
  unfold AV.as at ha
  split at ha
  · rename_i u x g1
    obtain ⟨z, hz, e⟩ := Option.map_eq_some_iff.1 ha
    cases e
    exact ⟨h.1.cast hz, h.2⟩
  · rename_i p d neg
    obtain ⟨z, hz, e⟩ := Option.map_eq_some_iff.1 ha
    cases e
    refine ⟨RepV.cast (t := .bool) ⟨_, rfl, ?_⟩ hz, fun te hte => by cases hte⟩
    exact h
  · rename_i b
    obtain ⟨z, hz, e⟩ := Option.map_eq_some_iff.1 ha
    cases e
    refine ⟨RepV.cast (t := .bool) ⟨_, rfl, ?_⟩ hz, fun te hte => by cases hte⟩
    exact h
  · split at ha
    · cases ha
      exact ⟨⟨_, ⟨none, 0, rfl, Nat.le_refl _, fun q => absurd q (by simp)⟩, h⟩, fun te hte => by cases hte⟩
    · cases ha
  · split at ha
    · cases ha
      exact ⟨⟨_, .inl ⟨rfl, rfl⟩, h⟩, fun te hte => by cases hte⟩
    · cases ha
  · rename_i e l i off
    split at ha
    · rename_i u
      split at ha
      · rename_i h0
        subst h0
        obtain ⟨m, hm, q⟩ := Option.map_eq_some_iff.1 ha
        cases q
        obtain ⟨e1, h1⟩ := castEl_eq hm
        cases e1
        subst h1
        obtain ⟨b, o, x, ds, rfl, h2, h3, h4, h5⟩ := h
        rw [show l.getD i (dflt e) = x from by rw [List.getD_eq_getElem?_getD, h2]; rfl]
        refine ⟨⟨_, ⟨b, o + i * e.size, ds, rfl, h4, ?_, h5⟩, rfl⟩, fun te hte => by cases hte⟩
        have hi := (List.getElem?_eq_some_iff.1 h2).1
        have : i * e.size + e.size ≤ l.length * e.size := by rw [← Nat.succ_mul]; exact Nat.mul_le_mul_right _ hi
        omega
      · cases ha
    · cases ha
  · cases ha
theorem rep_int {k : IntKind} {n : Int} {v : Value} (h : RepV F w (.int k) n v) : v = .int k n := by obtain ⟨cs, h1, rfl⟩ := h; rw [show cs = _ from h1]; rfl
theorem rep_bool {b : Bool} {v : Value} (h : RepV F w .bool b v) : v = .bool b := by obtain ⟨cs, h1, rfl⟩ := h; rw [show cs = _ from h1]; rfl
theorem rep_str {s : ByteArray} {v : Value} (h : RepV F w .str s v) : v = .string s := by obtain ⟨cs, h1, rfl⟩ := h; rw [show cs = _ from h1]; rfl
theorem rep_sl {e : Ty} {l : List (El e)} {v : Value} (h : RepV F w (.sl e) l v) : ∃ A c, v = .slice A l.length c ∧ l.length ≤ c ∧ (0 < l.length → ∃ b o, A = some ⟨b, o, none⟩ ∧ o + l.length * e.size ≤ F b ∧
      ∀ j x, l[j]? = some x → ∃ ds, RepC F w e x ds ∧ ∀ i v, ds[i]? = some v → w.cell? ⟨b, o + j * e.size + i, none⟩ = some v) := by
  obtain ⟨cs, ⟨A, c, rfl, h1, h2⟩, rfl⟩ := h
  exact ⟨A, c, rfl, h1, h2⟩
theorem mk_int {k : IntKind} {n : Int} : RepV F w (.int k) n (.int k n) := ⟨_, rfl, rfl⟩
theorem mk_bool {b : Bool} : RepV F w .bool b (.bool b) := ⟨_, rfl, rfl⟩
theorem mk_str {s : ByteArray} : RepV F w .str s (.string s) := ⟨_, rfl, rfl⟩
theorem mk_a {t : Ty} {x : El t} {v : Value} (h : RepV F w t x v) : RepA F w B γ ρ (.v t x []) v := ⟨h, fun te hte => by cases hte⟩
end
end Go.Sym
end
section
namespace Go.Sym
open Go.RowKit
set_option linter.unusedVariables false
set_option linter.unusedSimpArgs false

/-- What may come out, test by test. -/
inductive Tree (α : Type) where
  | ret (a : α)
  | ite (p : Prop) (d : Decidable p) (A B : Tree α)
  | fail
def Tree.run {α R : Type} : Tree α → (α → Option R) → Option R
  | .ret a, K => K a
  | .ite p d A B, K => @_root_.ite _ p d (A.run K) (B.run K)
  | .fail, _ => none
def Tree.val {α : Type} (t : Tree α) : Option α := t.run some
theorem Tree.run_val {α R : Type} {K : α → Option R} {r : R} : ∀ {t : Tree α}, t.run K = some r → ∃ a, t.val = some a ∧ K a = some r
  | .ret a, h => ⟨a, rfl, h⟩
  | .ite p d A B, h => by
    unfold Tree.run at h
    unfold Tree.val Tree.run
    split at h
    · rename_i hp
      rw [if_pos hp]
      exact Tree.run_val h
    · rename_i hp
      rw [if_neg hp]
      exact Tree.run_val h
  | .fail, h => by cases h
def Tree.bind {α β : Type} : Tree α → (α → Tree β) → Tree β
  | .ret a, K => K a
  | .ite p d A B, K => .ite p d (A.bind K) (B.bind K)
  | .fail, _ => .fail
/-- A test over a slot's content. -/
def brA {α : Type} (av : AV) (A B : Tree α) : Tree α := match av with
  | .pr p d false => .ite p d A B
  | .pr p d true => .ite p d B A
  | .lit true => A
  | .lit false => B
  | .v .bool b _ => .ite (b = true) (instDecidableEqBool b true) A B
  | _ => .fail
def tst (p : Prop) [d : Decidable p] {α : Type} (A : Tree α) : Tree α := .ite p d A .fail

def wrapK (k : IntKind) (x : Int) : Int := match k with
  | .i64 => wrap64 x
  | .i32 => wrap32 x
  | k => k.wrap x
theorem wrapK_eq (k : IntKind) (x : Int) : k.wrap x = wrapK k x := by
  cases k <;> first | rfl | (unfold wrapK wrap64; exact IntKind.wrap_i64 x) | (unfold wrapK wrap32; exact IntKind.wrap_i32 x)
def btS (s : ByteArray) (i : Int) : Int := if h : i.toNat < s.size then ((s[i.toNat]'h).toNat : Int) else 0

def slE (T : Tab) (ty : Nat) : Nat := match (T.row ty).d with
  | .sl e => e
  | _ => 0
/-- A nil slice takes its type from the operation. -/
def fixA (T : Tab) (ty : Nat) (av : AV) : AV := match av with
  | .nilS => match T.ty ty with
    | .sl e => .v (.sl e) [] [⟨0, 0, slE T ty, e.size⟩]
    | _ => .nilS
  | av => av
def binI (b : BinOp) (k : IntKind) (m n : Int) : Tree AV := match b with
  | .add => .ret (.v (.int k) (wrapK k (m + n)) [])
  | .sub => .ret (.v (.int k) (wrapK k (m - n)) [])
  | .mul => .ret (.v (.int k) (wrapK k (m * n)) [])
  | .quo => .ite (n = 0) inferInstance .fail (.ret (.v (.int k) (wrapK k (m.tdiv n)) []))
  | .rem => .ite (n = 0) inferInstance .fail (.ret (.v (.int k) (m.tmod n) []))
  | .and => .ret (.v (.int k) (Go.bits .and k m n) [])
  | .or => .ret (.v (.int k) (Go.bits .or k m n) [])
  | .xor => .ret (.v (.int k) (Go.bits .xor k m n) [])
  | .andNot => .ret (.v (.int k) (Go.bits .andNot k m n) [])
  | .eql => .ret (.pr (m = n) inferInstance false)
  | .neq => .ret (.pr (m = n) inferInstance true)
  | .lss => .ret (.pr (m < n) inferInstance false)
  | .leq => .ret (.pr (m ≤ n) inferInstance false)
  | .gtr => .ret (.pr (m > n) inferInstance false)
  | .geq => .ret (.pr (m ≥ n) inferInstance false)
  | _ => .fail
def binS (b : BinOp) (s t : ByteArray) : Tree AV := match b with
  | .add => tst (s.size + t.size ≤ 9223372036854775807) (.ret (.v .str (s ++ t) []))
  | .eql => .ret (.pr (s.toList = t.toList) inferInstance false)
  | .neq => .ret (.pr (s.toList = t.toList) inferInstance true)
  | .lss => .ret (.v .bool (Op.bytesLess s.toList t.toList) [])
  | _ => .fail
def binA (b : BinOp) (x y : AV) : Tree AV := match b, x, y with
  | .shl, .v (.int k) m _, .v (.int _) n _ => .ite (n < 0) inferInstance .fail (.ret (.v (.int k) (wrapK k (m * 2 ^ (min n.toNat k.bits))) []))
  | .shr, .v (.int k) m _, .v (.int _) n _ => .ite (n < 0) inferInstance .fail (.ret (.v (.int k) (m / 2 ^ (min n.toNat k.bits)) []))
  | b, .v (.int k) m _, .v (.int k') n _ => if k = k' then binI b k m n else .fail
  | b, .v .str s _, .v .str t _ => binS b s t
  | _, _, _ => .fail
def eqB (b : BinOp) (x y : AV) : Tree AV := match x.as .bool, y.as .bool with
  | some (m, _), some (n, _) => match b with
    | .eql => .ret (.pr (m = n) inferInstance false)
    | .neq => .ret (.pr (m = n) inferInstance true)
    | _ => .fail
  | _, _ => .fail
/-- Which types' values are compared part by part; and the test. -/
def cmpT (T : Tab) : Nat → Nat → Bool
  | 0, _ => false
  | d + 1, t => match (T.row t).d with
    | .int _ => true
    | .bool => true
    | .str => true
    | .st fs => fs.all fun f => cmpT T d f.1
    | .arr _ e => cmpT T d e
    | _ => false
def eqE : (t : Ty) → El t → El t → Bool
  | .int _, (x : Int), (y : Int) => decide (x = y)
  | .bool, (x : Bool), (y : Bool) => x == y
  | .str, (x : ByteArray), (y : ByteArray) => decide (x.toList = y.toList)
  | .nil, _, _ => true
  | .cons a b, x, y => eqE a x.1 y.1 && eqE b x.2 y.2
  | _, _, _ => false
def eqS (T : Tab) (b : BinOp) (xt : Nat) (t : Ty) (x y : AV) : Tree AV := if cmpT T 20 xt = false then .fail else match x.as t, y.as t with
  | some (m, _), some (n, _) => match b with
    | .eql => .ret (.v .bool (eqE t m n) [])
    | .neq => .ret (.v .bool (!eqE t m n) [])
    | _ => .fail
  | _, _ => .fail
/-- An array's elements. -/
def arrL (e : Ty) : (n : Nat) → El (rep e n) → List (El e)
  | 0, _ => []
  | n + 1, x => x.1 :: arrL e n x.2
def unA (u : UnOp) (x : AV) : Tree AV := match u, x with
  | .not, .pr p d neg => .ret (.pr p d (!neg))
  | .not, .lit b => .ret (.lit (!b))
  | .not, .v .bool b _ => .ret (.v .bool (!b) [])
  | .neg, .v (.int k) n _ => .ret (.v (.int k) (wrapK k (-n)) [])
  | _, _ => .fail
/-- A struct's field: its type and where it begins. -/
def Tab.fld (T : Tab) (st f : Nat) : Option (Nat × Nat) := match (T.row st).d with
  | .st fs => fs[f]?
  | _ => none
def nzAV (z : List (Nat × TE)) (i : Nat) : AV → AV
  | .v t x _ => .v t x (nzG z i)
  | av => av
def tupNth : (t : Ty) → El t → Nat → Option AV
  | .cons a b, x, 0 => some (.v a x.1 [])
  | .cons a b, x, n + 1 => tupNth b x.2 n
  | _, _, _ => none
def optT {α : Type} : Option α → Tree α
  | some a => .ret a
  | none => .fail
def TD.many : TD → Bool
  | .st _ => true
  | .arr _ _ => true
  | _ => false
/-- A row that is written still, as its elements. -/
def rowOf (bx : List (Nat × Bx)) (b : Nat) (e : Ty) : Option (List (El e)) := match bx.lookup b with
  | some (.row _ e1 _ l) => castEl (.sl e1) (.sl e) l
  | _ => none
def loadA (T : Tab) (t : Nat) (bx : List (Nat × Bx)) (a : AV) : Tree AV := match a with
  | .ptr b off => match bx.lookup b with
    | some (.var u x g) => optT ((subEl u x off (T.ty t)).map fun y => .v (T.ty t) y (subG g off (T.ty t).size))
    | _ => .fail
  | .mel e b i off => match rowOf bx b e with
    | some l => optT ((subEl e (l.getD i (dflt e)) off (T.ty t)).map fun y => .v (T.ty t) y [])
    | none => .fail
  | .v (.ref u) x _ => optT ((subEl u x 0 (T.ty t)).map fun y => .v (T.ty t) y [])
  | .elt e l i off => optT ((subEl e (l.getD i (dflt e)) off (T.ty t)).map fun y => .v (T.ty t) y [])
  | _ => .fail
def withInt {α : Type} (a : AV) (K : Int → Tree α) : Tree α := match a with
  | .v (.int _) n _ => K n
  | _ => .fail
def sliceS (s : ByteArray) (lo hi : Option AV) : Tree AV := match lo, hi with
  | none, none => .ret (.v .str s [])
  | some a, none => withInt a fun L => tst (0 ≤ L) (tst (L ≤ (s.size : Int)) (.ret (.v .str (s.extract L.toNat s.size) [])))
  | none, some b => withInt b fun H => tst (0 ≤ H) (tst (H ≤ (s.size : Int)) (.ret (.v .str (s.extract 0 H.toNat) [])))
  | some a, some b => withInt a fun L => withInt b fun H => tst (0 ≤ L) (tst (L ≤ H) (tst (H ≤ (s.size : Int)) (.ret (.v .str (s.extract L.toNat H.toNat) []))))
def sliceL (e : Ty) (l : List (El e)) (lo hi : Option AV) : Tree AV := match lo, hi with
  | none, none => .ret (.v (.sl e) l [])
  | some a, none => withInt a fun L => tst (0 ≤ L) (tst (L ≤ (l.length : Int)) (.ret (.v (.sl e) (l.drop L.toNat) [])))
  | none, some b => withInt b fun H => tst (0 ≤ H) (tst (H ≤ (l.length : Int)) (.ret (.v (.sl e) (l.take H.toNat) [])))
  | some a, some b => withInt a fun L => withInt b fun H => tst (0 ≤ L) (tst (L ≤ H) (tst (H ≤ (l.length : Int)) (.ret (.v (.sl e) ((l.take H.toNat).drop L.toNat) []))))
def zeroG : Ty → Nat → List TE
  | .sl _, off => [⟨off, 0, 0, 0⟩]
  | .cons a b, off => zeroG a off ++ zeroG b (off + a.size)
  | _, _ => []
/-- A zero value's slices, with the types that they have. -/
def candG (T : Tab) : Nat → Nat → Nat → List TE
  | 0, _, _ => []
  | d + 1, t, off => match (T.row t).d with
    | .sl e => [⟨off, 0, e, (T.ty e).size⟩]
    | .st fs => fs.flatMap fun f => candG T d f.1 (off + f.2)
    | _ => []
def zeroGT (T : Tab) (t : Nat) : List TE := (candG T 8 t 0).filter fun te => (zeroG (T.ty t) 0).any fun q => q.off == te.off
/-- A struct out of its parts. -/
def buildA (T : Tab) (place : Nat → Option (Nat × Nat)) (t : Ty) : List (Nat × AV) → El t → List TE → Option AV
  | [], x, g => some (.v t x g)
  | (j, av) :: r, x, g => match place j with
    | none => none
    | some (f, off) => match av.as (T.ty f) with
      | none => none
      | some (y, gy) => match setEl t x off (T.ty f) y with
        | none => none
        | some x1 => buildA T place t r x1 (setG g off (T.ty f).size gy)
def Tab.place (T : Tab) (t : Nat) (j : Nat) : Option (Nat × Nat) := match (T.row t).d with
  | .st fs => fs[j]?
  | .arr n e => if j < n then some (e, j * (T.ty e).size) else none
  | _ => none
/-- A part of a row that is written still, of n places, from the place lo on: cut. -/
def sliceR (e : Ty) (b lo0 n : Nat) (lo hi : Option AV) : Tree AV := match lo, hi with
  | none, none => .ret (.mr e b lo0 n)
  | some a, none => withInt a fun L => tst (0 ≤ L) (tst (L ≤ (n : Int)) (.ret (.mr e b (lo0 + L.toNat) (n - L.toNat))))
  | none, some c => withInt c fun H => tst (0 ≤ H) (tst (H ≤ (n : Int)) (.ret (.mr e b lo0 H.toNat)))
  | some a, some c => withInt a fun L => withInt c fun H => tst (0 ≤ L) (tst (L ≤ H) (tst (H ≤ (n : Int)) (.ret (.mr e b (lo0 + L.toNat) (H.toNat - L.toNat)))))
def isZero : Option AV → Bool
  | some (.v (.int _) (0 : Int) _) => true
  | _ => false
def isArr : TD → Option (Nat × Nat)
  | .arr n e => some (n, e)
  | _ => none
/-- What an operation comes to that leaves memory alone. -/
def gop (T : Tab) (op : Op) (ty : Nat) (ev : Operand → AV) (bx : List (Nat × Bx)) : Tree AV := match op with
  | .move x => .ret (fixA T ty (ev x))
  | .assign x => .ret (fixA T ty (ev x))
  | .pick c a b => brA (ev c) (.ret (fixA T ty (ev a))) (.ret (fixA T ty (ev b)))
  | .unOp u _ x => unA u (ev x)
  | .binOp b xt x y _ => if (T.row xt).d = .bool then eqB b (ev x) (ev y) else match (T.row xt).d.many with
    | true => eqS T b xt (T.ty xt) (ev x) (ev y)
    | false => binA b (ev x) (ev y)
  | .convert src dst x => match (T.row src).d, (T.row dst).d, ev x with
    | .int _, .int k, .v (.int _) n _ => .ret (.v (.int k) (wrapK k n) [])
    | .str, .str, .v .str s _ => .ret (.v .str s [])
    | .sl e, .str, .v (.sl (.int .u8)) l _ => if T.ty src = .sl (.int .u8) ∧ (T.row e).d = .int .u8 then .ret (.v .str (strOfNums l) []) else .fail
    | .sl e, .str, .mr (.int .u8) b lo n => if (T.row e).d = .int .u8 then match rowOf bx b (.int .u8) with
      | some l => .ret (.v .str (strOfNums ((l.drop lo).take n)) [])
      | none => .fail else .fail
    | .sl e, .str, .mw (.int .u8) b n => if (T.row e).d = .int .u8 then match rowOf bx b (.int .u8) with
      | some l => .ret (.v .str (strOfNums l) [])
      | none => .fail else .fail
    | _, _, _ => .fail
  | .load t a => if (T.row t).d = .other then .fail else loadA T t bx (ev a)
  | .fieldAddr st x f => match T.fld st f with
    | some (fty, off) => if (T.ty fty).size = 0 ∨ (T.row fty).d = .other then .fail else match ev x with
      | .ptr b o => .ret (.ptr b (o + off))
      | .elt t l i o => .ret (.elt t l i (o + off))
      | .mel e b i o => .ret (.mel e b i (o + off))
      | .v (.ref u) y _ => .ret (.elt u [y] 0 off)
      | _ => .fail
    | none => .fail
  | .field st x f => match T.fld st f with
    | some (fty, off) => if (T.row fty).d = .other then .fail else match (ev x).as (T.ty st) with
      | some (y, g) => optT ((subEl (T.ty st) y off (T.ty fty)).map fun z => .v (T.ty fty) z (subG g off (T.ty fty).size))
      | none => .fail
    | none => .fail
  | .indexAddr xt x i => match ev x with
    | .v (.sl e) l _ => if (T.row xt).d = .sl (slE T xt) ∧ T.ty xt = .sl e then withInt (ev i) fun n => tst (0 ≤ n) (tst (n < (l.length : Int)) (.ret (.elt e l n.toNat 0))) else .fail
    | .mw e b n => if (T.row xt).d = .sl (slE T xt) ∧ T.ty xt = .sl e then withInt (ev i) fun m => tst (0 ≤ m) (tst (m < (n : Int)) (.ret (.mel e b m.toNat 0))) else .fail
    | .mr e b lo n => if (T.row xt).d = .sl (slE T xt) ∧ T.ty xt = .sl e then withInt (ev i) fun m => tst (0 ≤ m) (tst (m < (n : Int)) (.ret (.mel e b (lo + m.toNat) 0))) else .fail
    | .ptr b o => match isArr (T.row xt).d with
      | some (n, e) => match bx.lookup b with
        | some (.row _ e1 n1 _) => if e1 = T.ty e ∧ n1 = n ∧ o = 0 then withInt (ev i) fun m => tst (0 ≤ m) (tst (m < (n : Int)) (.ret (.mel e1 b m.toNat 0))) else .fail
        | _ => withInt (ev i) fun m => tst (0 ≤ m) (tst (m < (n : Int)) (.ret (.ptr b (o + m.toNat * (T.ty e).size))))
      | none => .fail
    | _ => .fail
  | .index xt x i => match isArr (T.row xt).d with
    | some (n, e) => match (ev x).as (rep (T.ty e) n) with
      | some (y, _) => withInt (ev i) fun m => tst (0 ≤ m) (tst (m < (n : Int)) (.ret (.v (T.ty e) ((arrL (T.ty e) n y).getD m.toNat (dflt (T.ty e))) [])))
      | none => .fail
    | none => match ev x with
    | .v .str s _ => if (T.row xt).d = .str then withInt (ev i) fun n => tst (0 ≤ n) (tst (n < (s.size : Int)) (.ret (.v (.int .u8) (btS s n) []))) else .fail
    | _ => .fail
  | .slice xt x none (some h) (some m) => match isZero (some (ev h)) && isZero (some (ev m)), T.ty xt, ev x with
    | true, .sl e, .v (.sl e1) l _ => if (T.row xt).d = .sl (slE T xt) ∧ e = e1 then .ret (.v (.sl e) [] [⟨0, 0, slE T xt, e.size⟩]) else .fail
    | _, _, _ => .fail
  | .slice xt x lo hi none => match isArr (T.row xt).d with
    | some (n, e) => match ev x with
      | .ptr b 0 => match bx.lookup b with
        | some (.row _ e1 n1 _) => if e1 = T.ty e ∧ n1 = n then sliceR e1 b 0 n (lo.map ev) (hi.map ev) else .fail
        | _ => .fail
      | _ => .fail
    | none => match ev x with
    | .mw e b n => if (T.row xt).d = .sl (slE T xt) ∧ T.ty xt = .sl e then sliceR e b 0 n (lo.map ev) (hi.map ev) else .fail
    | .mr e b lo0 n => if (T.row xt).d = .sl (slE T xt) ∧ T.ty xt = .sl e then sliceR e b lo0 n (lo.map ev) (hi.map ev) else .fail
    | .v .str s _ => if (T.row xt).d = .str then sliceS s (lo.map ev) (hi.map ev) else .fail
    | .v (.sl e) l _ => if (T.row xt).d = .sl (slE T xt) ∧ T.ty xt = .sl e then sliceL e l (lo.map ev) (hi.map ev) else .fail
    | _ => .fail
  | .extract t ix => match ev t with
    | .tup u x z => optT ((tupNth u x ix).map (nzAV z ix))
    | _ => .fail
  | .build t parts => if (T.row t).d.many = false then .fail else optT (buildA T (T.place t) (T.ty t) (parts.toList.map fun p => (p.1, ev p.2)) (dflt (T.ty t)) (zeroGT T t))
  | .nilCheck x => match ev x with
    | .ptr b o => .ret (.ptr b o)
    | .v (.ref u) y g => .ret (.v (.ref u) y g)
    | _ => .fail
  | .call c => match c.callee, c.args.toList, c.argTypes.toList with
    | .builtin .len, [x], [t] => match ev x with
      | .v (.sl e) l _ => if (T.row t).d = .sl (slE T t) then .ret (.v (.int .i64) (l.length : Int) []) else .fail
      | .v .str s _ => if (T.row t).d = .str then .ret (.v (.int .i64) (s.size : Int) []) else .fail
      | .mw e b n => if (T.row t).d = .sl (slE T t) then .ret (.v (.int .i64) (n : Int) []) else .fail
      | .mr e b lo n => if (T.row t).d = .sl (slE T t) then .ret (.v (.int .i64) (n : Int) []) else .fail
      | _ => .fail
    | .builtin .max, [x, y], _ => match ev x, ev y with
      | .v (.int k) m _, .v (.int k') n _ => if k = k' then .ret (.v (.int k) (if m < n then n else m) []) else .fail
      | _, _ => .fail
    | .builtin .min, [x, y], _ => match ev x, ev y with
      | .v (.int k) m _, .v (.int k') n _ => if k = k' then .ret (.v (.int k) (if n < m then n else m) []) else .fail
      | _, _ => .fail
    | _, _, _ => .fail
  | _ => .fail
end Go.Sym
end
section
namespace Go.Sym
open Go.RowKit
set_option linter.unusedVariables false
set_option linter.unusedSimpArgs false

section
variable {P : Program} {T : Tab} {F : Nat → Nat} {w : World} {B : Nat → Prop} {γ : Nat → Nat} {ρ : Nat → Option Nat}
theorem val_ret {α : Type} {a b : α} (h : (Tree.ret a).val = some b) : a = b := Option.some.inj h
theorem val_ite {α : Type} {p : Prop} {d : Decidable p} {A C : Tree α} {r : α} (h : (Tree.ite p d A C).val = some r) : (p ∧ A.val = some r) ∨ (¬ p ∧ C.val = some r) := by
  unfold Tree.val Tree.run at h
  split at h
  · exact .inl ⟨by assumption, h⟩
  · exact .inr ⟨by assumption, h⟩
theorem val_fail {α : Type} {r : α} (h : (Tree.fail : Tree α).val = some r) : False := by cases h
theorem val_tst {α : Type} {p : Prop} [d : Decidable p] {A : Tree α} {r : α} (h : (tst p A).val = some r) : p ∧ A.val = some r := by
  rcases val_ite h with q | q
  · exact q
  · exact (val_fail q.2).elim
theorem val_opt {α : Type} {o : Option α} {r : α} (h : (optT o).val = some r) : o = some r := by
  cases o with
  | none => exact (val_fail h).elim
  | some a => exact congrArg some (val_ret h)
theorem brA_sound {α : Type} {av : AV} {v : Value} {A C : Tree α} {r : α} (h : RepA F w B γ ρ av v) (hb : (brA av A C).val = some r) : ∃ b, v = .bool b ∧ (if b = true then A else C).val = some r := by
  unfold brA at hb
  split at hb
  · rename_i p d
    rcases val_ite hb with ⟨q, h1⟩ | ⟨q, h1⟩
    · exact ⟨true, by rw [show v = _ from h]; simp [q], by simpa using h1⟩
    · exact ⟨false, by rw [show v = _ from h]; simp [q], by simpa using h1⟩
  · rename_i p d
    rcases val_ite hb with ⟨q, h1⟩ | ⟨q, h1⟩
    · exact ⟨false, by rw [show v = _ from h]; simp [q], by simpa using h1⟩
    · exact ⟨true, by rw [show v = _ from h]; simp [q], by simpa using h1⟩
  · exact ⟨true, h, by rw [if_pos rfl]; exact hb⟩
  · exact ⟨false, h, by rw [if_neg (by simp)]; exact hb⟩
  · rename_i b g
    refine ⟨b, rep_bool h.1, ?_⟩
    rcases val_ite hb with ⟨q, h1⟩ | ⟨q, h1⟩
    · rw [if_pos q]; exact h1
    · rw [if_neg q]; exact h1
  · exact (val_fail hb).elim
theorem fixA_sound {ty : Nat} {av : AV} {v : Value} (h : RepA F w B γ ρ av v) : RepA F w B γ ρ (fixA T ty av) v := by
  unfold fixA
  split
  · split
    · rename_i e he
      rw [show v = _ from h]
      refine ⟨⟨_, ⟨none, 0, rfl, Nat.le_refl _, fun q => absurd q (by simp)⟩, rfl⟩, fun te hte => ?_⟩
      rw [List.mem_singleton.1 hte]
      exact ⟨_, rfl, .inl ⟨_, rfl⟩⟩
    · exact h
  · exact h
theorem i_ret {k : IntKind} {n : Int} : RepA F w B γ ρ (.v (.int k) n []) (.int k n) := mk_a mk_int
theorem binI_sound {b : BinOp} {k : IntKind} {m n : Int} {av : AV} (xt : TypeId) (x y : Operand) (h : (binI b k m n).val = some av) :
    ∃ v, (do eqGuard b xt x y (.int k m) (.int k n); binOp b xt (.int k m) (.int k n)).run P w = .ok v w ∧ RepA F w B γ ρ av v := by
  cases b <;> simp only [binI] at h
  case add => cases val_ret h; exact ⟨_, by (simp [eqGuard, binOp, Op.intArith]) <;> rfl, by rw [wrapK_eq]; exact i_ret⟩
  case sub => cases val_ret h; exact ⟨_, by (simp [eqGuard, binOp, Op.intArith]) <;> rfl, by rw [wrapK_eq]; exact i_ret⟩
  case mul => cases val_ret h; exact ⟨_, by (simp [eqGuard, binOp, Op.intArith]) <;> rfl, by rw [wrapK_eq]; exact i_ret⟩
  case quo =>
    rcases val_ite h with ⟨q, h1⟩ | ⟨q, h1⟩
    · exact (val_fail h1).elim
    · cases val_ret h1; exact ⟨_, by (simp [eqGuard, binOp, Op.intDiv, q]) <;> rfl, by rw [wrapK_eq]; exact i_ret⟩
  case rem =>
    rcases val_ite h with ⟨q, h1⟩ | ⟨q, h1⟩
    · exact (val_fail h1).elim
    · cases val_ret h1; exact ⟨_, by (simp [eqGuard, binOp, Op.intDiv, q]) <;> rfl, i_ret⟩
  case and => cases val_ret h; exact ⟨_, by (simp [eqGuard, binOp, intBits_and]) <;> rfl, i_ret⟩
  case or => cases val_ret h; exact ⟨_, by (simp [eqGuard, binOp, intBits_or]) <;> rfl, i_ret⟩
  case xor => cases val_ret h; exact ⟨_, by (simp [eqGuard, binOp, intBits_xor]) <;> rfl, i_ret⟩
  case andNot => cases val_ret h; exact ⟨_, by (simp [eqGuard, binOp, intBits_andNot]) <;> rfl, i_ret⟩
  case eql => cases val_ret h; exact ⟨_, by (simp [eqGuard, binOp, Op.intCmp]) <;> rfl, by show Value.bool _ = _; rw [Bool.false_xor]; rfl⟩
  case neq => cases val_ret h; exact ⟨_, by (simp [eqGuard, binOp, Op.intCmp]) <;> rfl, by show Value.bool _ = _; rw [Bool.true_xor]; rfl⟩
  case lss => cases val_ret h; exact ⟨_, by (simp [eqGuard, binOp, Op.intCmp]) <;> rfl, by show Value.bool _ = _; rw [Bool.false_xor]⟩
  case leq => cases val_ret h; exact ⟨_, by (simp [eqGuard, binOp, Op.intCmp]) <;> rfl, by show Value.bool _ = _; rw [Bool.false_xor]⟩
  case gtr => cases val_ret h; exact ⟨_, by (simp [eqGuard, binOp, Op.intCmp]) <;> rfl, by show Value.bool _ = _; rw [Bool.false_xor]⟩
  case geq => cases val_ret h; exact ⟨_, by (simp [eqGuard, binOp, Op.intCmp]) <;> rfl, by show Value.bool _ = _; rw [Bool.false_xor]⟩
  all_goals exact (val_fail h).elim
theorem beq_dec (a b : List UInt8) : (a == b) = decide (a = b) := by rw [Bool.eq_iff_iff]; simp
theorem binS_sound {b : BinOp} {s t : ByteArray} {av : AV} (xt : TypeId) (x y : Operand) (h : (binS b s t).val = some av) :
    ∃ v, (do eqGuard b xt x y (.string s) (.string t); binOp b xt (.string s) (.string t)).run P w = .ok v w ∧ RepA F w B γ ρ av v := by
  cases b <;> simp only [binS] at h
  case add =>
    obtain ⟨q, h1⟩ := val_tst h
    cases val_ret h1
    have q1 : ¬ (((s.size + t.size : Nat) : Int) > IntKind.i64.max) := by
      have : IntKind.i64.max = 9223372036854775807 := rfl
      omega
    refine ⟨.string (s ++ t), ?_, mk_a mk_str⟩
    simp only [eqGuard, binOp, Op.stringOp]
    rw [if_neg q1]
    rfl
  case eql => cases val_ret h; exact ⟨_, by (simp [eqGuard, binOp, Op.stringOp]) <;> rfl, by show Value.bool _ = _; rw [Bool.false_xor, beq_dec]⟩
  case neq => cases val_ret h; exact ⟨_, by (simp [eqGuard, binOp, Op.stringOp]) <;> rfl, by show Value.bool _ = _; rw [Bool.true_xor, beq_dec]⟩
  case lss => cases val_ret h; exact ⟨_, by (simp [eqGuard, binOp, Op.stringOp]) <;> rfl, mk_a mk_bool⟩
  all_goals exact (val_fail h).elim
theorem fdiv_pow (x : Int) (n : Nat) : x.fdiv (2 ^ n) = x / 2 ^ n := Int.fdiv_eq_ediv_of_nonneg _ (Int.pow_nonneg (by decide))
theorem binA_sound {b : BinOp} {p q : AV} {u v : Value} {av : AV} (xt : TypeId) (x y : Operand) (hp : RepA F w B γ ρ p u) (hq : RepA F w B γ ρ q v) (h : (binA b p q).val = some av) :
    ∃ z, (do eqGuard b xt x y u v; binOp b xt u v).run P w = .ok z w ∧ RepA F w B γ ρ av z := by
  unfold binA at h
  split at h
  · rename_i k m g k' n g'
    obtain rfl := rep_int hp.1
    obtain rfl := rep_int hq.1
    rcases val_ite h with ⟨c, h1⟩ | ⟨c, h1⟩
    · exact (val_fail h1).elim
    · cases val_ret h1
      refine ⟨_, by (simp [eqGuard, binOp, Op.shift, c]) <;> rfl, by rw [wrapK_eq]; exact i_ret⟩
  · rename_i k m g k' n g'
    obtain rfl := rep_int hp.1
    obtain rfl := rep_int hq.1
    rcases val_ite h with ⟨c, h1⟩ | ⟨c, h1⟩
    · exact (val_fail h1).elim
    · cases val_ret h1
      refine ⟨_, by (simp [eqGuard, binOp, Op.shift, c]) <;> rfl, by rw [fdiv_pow]; exact i_ret⟩
  · rename_i k m g k' n g' _ _
    obtain rfl := rep_int hp.1
    obtain rfl := rep_int hq.1
    split at h
    · rename_i e
      subst e
      exact binI_sound xt x y h
    · exact (val_fail h).elim
  · rename_i s g t g'
    obtain rfl := rep_str hp.1
    obtain rfl := rep_str hq.1
    exact binS_sound xt x y h
  · exact (val_fail h).elim
theorem unA_sound {o : UnOp} {p : AV} {u : Value} {av : AV} (hp : RepA F w B γ ρ p u) (h : (unA o p).val = some av) : ∃ z, (Op.unary o u).run P w = .ok z w ∧ RepA F w B γ ρ av z := by
  unfold unA at h
  split at h
  · cases val_ret h
    rename_i p d neg
    rw [show u = _ from hp]
    refine ⟨_, rfl, ?_⟩
    show Value.bool _ = Value.bool _
    cases neg <;> simp
  · cases val_ret h
    rename_i b
    rw [show u = _ from hp]
    exact ⟨_, rfl, rfl⟩
  · cases val_ret h
    obtain rfl := rep_bool hp.1
    exact ⟨_, rfl, mk_a mk_bool⟩
  · cases val_ret h
    obtain rfl := rep_int hp.1
    exact ⟨_, rfl, by rw [← Int.zero_sub, wrapK_eq]; exact i_ret⟩
  · exact (val_fail h).elim
end
end Go.Sym
end
section
namespace Go.Sym
open Go.RowKit
set_option linter.unusedVariables false
set_option linter.unusedSimpArgs false

section
variable {P : Program} {T : Tab} {F : Nat → Nat} {w : World} {B : Nat → Prop} {γ : Nat → Nat} {ρ : Nat → Option Nat} {i : Nat}
theorem RowOk.sl (h : RowOk P T i) {e : Nat} (hd : (T.row i).d = .sl e) : P.underlying i = some (.slice e) ∧ T.ty i = .sl (T.ty e) ∧ (T.row e).d ≠ .other ∧ 0 < (T.ty e).size := by
  obtain ⟨inf, u, h1, h2, h3, h4, h5, h6⟩ := h.ex
  unfold descIs at h6
  rw [hd] at h6
  split at h6 <;> first | (rename_i q; cases q; done) | skip
  · rename_i e1 e2 q
    cases q
    simp only [Bool.and_eq_true, beq_iff_eq, bne_iff_ne, decide_eq_true_eq] at h6
    obtain ⟨⟨⟨q1, q2⟩, q3⟩, q4⟩ := h6
    subst q1
    exact ⟨h2, q2, q3, q4⟩
  · cases h6
theorem RowOk.str (h : RowOk P T i) (hd : (T.row i).d = .str) : P.underlying i = some .string ∧ T.ty i = .str := by
  obtain ⟨inf, u, h1, h2, h3, h4, h5, h6⟩ := h.ex
  unfold descIs at h6
  rw [hd] at h6
  split at h6 <;> first | (rename_i q; cases q; done) | skip
  · exact ⟨h2, beq_iff_eq.1 h6⟩
  · cases h6
theorem RowOk.int (h : RowOk P T i) {k : IntKind} (hd : (T.row i).d = .int k) : P.underlying i = some (.int k) ∧ T.ty i = .int k := by
  obtain ⟨inf, u, h1, h2, h3, h4, h5, h6⟩ := h.ex
  unfold descIs at h6
  rw [hd] at h6
  split at h6 <;> first | (rename_i q; cases q; done) | skip
  · rename_i q
    cases q
    simp only [Bool.and_eq_true, beq_iff_eq] at h6
    rw [← h6.1] at h2
    exact ⟨h2, h6.2⟩
  · cases h6
theorem RowOk.st (h : RowOk P T i) {fs : List (Nat × Nat)} (hd : (T.row i).d = .st fs) : ∃ l : Array Field, P.underlying i = some (.struct l) ∧ l.toList.map (fun f => (f.type, f.offset)) = fs ∧ chain T fs 0 = some (T.ty i) := by
  obtain ⟨inf, u, h1, h2, h3, h4, h5, h6⟩ := h.ex
  unfold descIs at h6
  rw [hd] at h6
  split at h6 <;> first | (rename_i q; cases q; done) | skip
  · rename_i q
    cases q
    simp only [Bool.and_eq_true, beq_iff_eq] at h6
    exact ⟨_, h2, h6.1.1, h6.1.2⟩
  · cases h6
theorem RowOk.arr (h : RowOk P T i) {n e : Nat} (hd : (T.row i).d = .arr n e) : P.underlying i = some (.array n e) ∧ T.ty i = rep (T.ty e) n ∧ (T.row e).d ≠ .other ∧ 0 < (T.ty e).size := by
  obtain ⟨inf, u, h1, h2, h3, h4, h5, h6⟩ := h.ex
  unfold descIs at h6
  rw [hd] at h6
  split at h6 <;> first | (rename_i q; cases q; done) | skip
  · rename_i q
    cases q
    simp only [Bool.and_eq_true, beq_iff_eq, bne_iff_ne, decide_eq_true_eq] at h6
    obtain ⟨⟨⟨⟨q1, q2⟩, q3⟩, q4⟩, q5⟩ := h6
    subst q1 q2
    exact ⟨h2, q3, q4, q5⟩
  · cases h6
theorem RowOk.ptr (h : RowOk P T i) {e : Nat} (hd : (T.row i).d = .ptr e) : P.underlying i = some (.pointer e) ∧ T.ty i = .ptr (T.ty e) ∧ (T.row e).d ≠ .other := by
  obtain ⟨inf, u, h1, h2, h3, h4, h5, h6⟩ := h.ex
  unfold descIs at h6
  rw [hd] at h6
  split at h6 <;> first | (rename_i q; cases q; done) | skip
  · rename_i e1 e2 q
    cases q
    simp only [Bool.and_eq_true, beq_iff_eq, bne_iff_ne] at h6
    obtain ⟨⟨q1, q2⟩, q3⟩ := h6
    subst q1
    exact ⟨h2, q2, q3⟩
  · cases h6
theorem isArr_eq {d : TD} {n e : Nat} (h : isArr d = some (n, e)) : d = .arr n e := by
  unfold isArr at h
  split at h
  · cases h; rfl
  · cases h
theorem fld_st {st f fty off : Nat} (h : T.fld st f = some (fty, off)) : ∃ fs, (T.row st).d = .st fs ∧ fs[f]? = some (fty, off) := by
  unfold Tab.fld at h
  split at h
  · rename_i fs hd
    exact ⟨fs, hd, h⟩
  · cases h
theorem RowOk.fld (h : RowOk P T i) {f fty off : Nat} (hf : T.fld i f = some (fty, off)) : ∃ (l : Array Field) (x : Field), P.underlying i = some (.struct l) ∧ l[f]? = some x ∧ x.type = fty ∧ x.offset = off ∧ (T.ty i).agg = true := by
  obtain ⟨fs, h1, h2⟩ := fld_st hf
  obtain ⟨l, h3, h4, h5⟩ := h.st h1
  rw [← h4, List.getElem?_map, Option.map_eq_some_iff] at h2
  obtain ⟨x, hx, e⟩ := h2
  cases e
  exact ⟨l, x, h3, by rw [← Array.getElem?_toList]; exact hx, rfl, rfl, chain_agg h5⟩
theorem fld_row {st f : Nat} {z : Nat × Nat} (h : T.fld st f = some z) : (T.row st).d ≠ .other := by
  obtain ⟨fs, h1, _⟩ := fld_st (fty := z.1) (off := z.2) h
  rw [h1]
  exact fun q => by cases q
/-- A part of a struct that is at hand. -/
theorem RowOk.part (h : RowOk P T i) {cs : List Value} {off : Nat} (hl : off + (T.ty i).size ≤ cs.length) : (Go.part i cs.toArray off).run P w = .ok (pack (T.ty i) ((cs.drop off).take (T.ty i).size)) w := by
  unfold Go.part
  rw [Sem.run_bind, h.isAgg w]
  simp only [Result.andThen_ok]
  cases ha : (T.ty i).agg with
  | true =>
    simp only [if_true, Sem.run_bind, h.sizeOf w, Result.andThen_ok]
    unfold pack
    rw [if_pos ha]
    simp only [Sem.run_pure]
    congr 2
    apply Array.ext'
    simp [List.extract_eq_take_drop]
  | false =>
    have h1 := size_one ha
    rw [h1] at hl ⊢
    have hlt : off < cs.length := by omega
    rw [show (cs.drop off).take 1 = [cs[off]] from by rw [List.drop_eq_getElem_cons hlt]; rfl, pack_one ha]
    simp [hlt]
theorem pack_agg {t : Ty} (ha : t.agg = true) (cs : List Value) : pack t cs = .agg cs.toArray := by unfold pack; rw [if_pos ha]
theorem lookup_mem {bx : List (Nat × Bx)} {b : Nat} {x : Bx} (h : bx.lookup b = some x) : (b, x) ∈ bx := by
  induction bx with
  | nil => cases h
  | cons p r ih =>
    rw [List.lookup_cons] at h
    split at h
    · rename_i q
      cases h
      rw [beq_iff_eq] at q
      rw [q]
      exact List.mem_cons_self
    · exact List.mem_cons_of_mem _ (ih h)
theorem block_cell {w : World} {b off : Nat} {cs : List Value} {tid : Nat} {fr : Nat × Nat} (h : w.heap[b]? = some (.cells cs.toArray tid fr)) (j : Nat) : w.cell? ⟨b, j, none⟩ = cs[j]? := by
  unfold World.cell?
  simp only [h]
  simp
theorem rowOf_ok {bx : List (Nat × Bx)} (hb : ∀ b x, (b, x) ∈ bx → BxOk F w B γ ρ b x) {b : Nat} {e : Ty} {l : List (El e)} (h : rowOf bx b e = some l) :
    ∃ ety n cs tid, (b, Bx.row ety e n l) ∈ bx ∧ rowN bx b = some n ∧ w.heap[γ b]? = some (.cells cs.toArray tid (0, 0)) ∧ RowC F w e l cs ∧ 0 < e.size ∧ l.length = n ∧ F (γ b) = 0 := by
  unfold rowOf at h
  split at h
  · rename_i ety e1 n l1 hl
    obtain ⟨q, h2⟩ := castEl_eq h
    cases q
    cases h2
    have hm := lookup_mem hl
    obtain ⟨h1, h3, h4, cs, tid, h5, h6, h7, h8, h9, _⟩ := hb b _ hm
    exact ⟨ety, n, cs, tid, hm, by unfold rowN; rw [hl], h5, h6, h8, h9, h3⟩
  · cases h
/-- A load. -/
theorem loadA_sound (hT : TabOk P T) {t : Nat} (hd : (T.row t).d ≠ .other) {bx : List (Nat × Bx)} (hb : ∀ b x, (b, x) ∈ bx → BxOk F w B γ ρ b x) {p : AV} {u : Value} {av : AV} (hp : RepA F w B γ ρ p u) (hwf : avWf bx p) (h : (loadA T t bx p).val = some av) :
    ∃ z, (Instr.loadAt t u).run P w = .ok z w ∧ RepA F w B γ ρ av z := by
  have hr := hT.row hd
  unfold loadA at h
  split at h
  · rename_i b off
    split at h
    · rename_i ty x g hX
      obtain ⟨y, hy, e⟩ := Option.map_eq_some_iff.1 (val_opt h)
      cases e
      obtain ⟨h1, h2, h3, cs, tid, h4, h5, h6⟩ := hb b _ (lookup_mem hX)
      obtain ⟨r1, r2⟩ := subEl_rep h5 hy
      have hl := h5.len
      rw [show u = _ from hp]
      refine ⟨_, hr.load (cs := (cs.drop off).take (T.ty t).size) (fun j v hj => ?_) r1.len, ⟨_, r1, rfl⟩, ?_⟩
      · rw [block_cell (off := 0) h4]
        rw [List.getElem?_take] at hj
        split at hj
        · rw [List.getElem?_drop] at hj
          exact hj
        · cases hj
      · rw [pack_cells r1]
        exact subG_ok h6 off _
    · exact (val_fail h).elim
  · rename_i e b i off
    split at h
    · rename_i l hl
      obtain ⟨y, hy, q⟩ := Option.map_eq_some_iff.1 (val_opt h)
      cases q
      obtain ⟨ety, n, cs, tid, _, hm, h4, h5, h6, h7, h8⟩ := rowOf_ok hb hl
      have hi : i < l.length := by rw [h7]; exact hwf _ hm
      obtain ⟨ds, h9, h10⟩ := h5.2 i _ (List.getElem?_eq_getElem hi)
      rw [show l.getD i (dflt e) = l[i] from by rw [List.getD_eq_getElem?_getD, List.getElem?_eq_getElem hi]; rfl] at hy
      obtain ⟨r1, r2⟩ := subEl_rep h9 hy
      rw [show u = _ from hp]
      refine ⟨_, hr.load (cs := (ds.drop off).take (T.ty t).size) (fun j v hj => ?_) r1.len, mk_a ⟨_, r1, rfl⟩⟩
      rw [List.getElem?_take] at hj
      split at hj
      · rw [List.getElem?_drop] at hj
        have := h10 _ v hj
        rw [block_cell (off := 0) h4, show i * e.size + off + j = i * e.size + (off + j) from by omega]
        exact this
      · cases hj
    · exact (val_fail h).elim
  · rename_i u x g
    obtain ⟨y, hy, q⟩ := Option.map_eq_some_iff.1 (val_opt h)
    cases q
    obtain ⟨⟨ds0, ⟨b, o, ds, rfl, h4, h3, h5⟩, rfl⟩, _⟩ := hp
    obtain ⟨r1, r2⟩ := subEl_rep h4 hy
    refine ⟨_, hr.load (b := b) (o := o) (cs := (ds.drop 0).take (T.ty t).size) (fun j v hj => ?_) r1.len, mk_a ⟨_, r1, rfl⟩⟩
    rw [List.getElem?_take] at hj
    split at hj
    · rw [List.drop_zero] at hj
      exact h5 _ v hj
    · cases hj
  · rename_i e l k off
    obtain ⟨y, hy, q⟩ := Option.map_eq_some_iff.1 (val_opt h)
    cases q
    obtain ⟨b, o, x, ds, rfl, h2, h3, h4, h5⟩ := hp
    have hx : l.getD k (dflt e) = x := by rw [List.getD_eq_getElem?_getD, h2]; rfl
    rw [hx] at hy
    obtain ⟨r1, r2⟩ := subEl_rep h4 hy
    refine ⟨_, hr.load (cs := (ds.drop off).take (T.ty t).size) (fun j v hj => ?_) r1.len, mk_a ⟨_, r1, rfl⟩⟩
    rw [List.getElem?_take] at hj
    split at hj
    · rw [List.getElem?_drop] at hj
      have := h5 _ v hj
      rw [show o + k * e.size + off + j = o + k * e.size + (off + j) from by omega]
      exact this
    · cases hj
  · exact (val_fail h).elim
theorem add_at (b o n : Nat) : (⟨b, o, none⟩ : Addr).add n = ⟨b, o + n, none⟩ := Addr.add_mid b o n
/-- The place of a field. -/
theorem fieldAt_run (hT : TabOk P T) {st f fty off : Nat} (hf : T.fld st f = some (fty, off)) (hz : (T.ty fty).size ≠ 0) (hd : (T.row fty).d ≠ .other) (b o : Nat) :
    (Instr.fieldAt st (.pointer (some ⟨b, o, none⟩)) f).run P w = .ok (.pointer (some ⟨b, o + off, none⟩)) w := by
  obtain ⟨l, x, h1, h2, h3, h4, _⟩ := (hT.row (fld_row hf)).fld hf
  subst h3 h4
  have hs := (hT.row hd).sizeOf w
  unfold Instr.fieldAt
  simp only [Sem.run_bind, run_underlying h1, Result.andThen_ok, h2, Instr.sureAddr, Sem.run_pure]
  unfold fieldPlace
  simp only [Sem.run_bind, hs, Result.andThen_ok, if_neg hz, Sem.run_pure, add_at]
theorem tupNth_sound : ∀ {t : Ty} {x : El t} {n : Nat} {vs : List Value} {av : AV}, RepT F w t x vs → tupNth t x n = some av → ∃ v, vs[n]? = some v ∧ RepA F w B γ ρ av v := by
  intro t
  induction t with
  | cons a b _ ihb =>
    intro x n vs av h ht
    obtain ⟨v, us, rfl, h1, h2⟩ := h
    cases n with
    | zero => cases ht; exact ⟨v, rfl, mk_a h1⟩
    | succ n =>
      obtain ⟨u, hu, hr⟩ := ihb h2 ht
      exact ⟨u, by simpa using hu, hr⟩
  | nil => intro x n vs av h ht; unfold tupNth at ht; cases ht
  | _ => intro x n vs av h ht; cases h
theorem nzAV_rep {z : List (Nat × TE)} {i : Nat} {av : AV} {v : Value} {vs : List Value} (hz : NilAt vs z) (hv : vs[i]? = some v) (h : RepA F w B γ ρ av v) : RepA F w B γ ρ (nzAV z i av) v := by
  cases av with
  | v t x g => exact ⟨h.1, hz.tags hv⟩
  | _ => exact h
/-- The place of an element. -/
theorem elt_at {e : Ty} {l : List (El e)} {v : Value} (h : RepV F w (.sl e) l v) (n : Nat) (hn : n < l.length) : ∃ b o c, v = .slice (some ⟨b, o, none⟩) l.length c ∧ RepA F w B γ ρ (.elt e l n 0) (.pointer (some ⟨b, o + n * e.size, none⟩)) := by
  obtain ⟨A, c, rfl, h1, h2⟩ := rep_sl h
  obtain ⟨b, o, rfl, h3, h4⟩ := h2 (by omega)
  have hx := List.getElem?_eq_getElem hn
  obtain ⟨ds, hd, hc⟩ := h4 n _ hx
  exact ⟨b, o, c, rfl, b, o, _, ds, rfl, hx, h3, hd, hc⟩
/-- A cut of a row. -/
theorem cut_rep {e : Ty} {l : List (El e)} {A : Option Addr} {c : Nat} (hc : l.length ≤ c) (h : 0 < l.length → ∃ b o, A = some ⟨b, o, none⟩ ∧ o + l.length * e.size ≤ F b ∧
      ∀ j x, l[j]? = some x → ∃ ds, RepC F w e x ds ∧ ∀ i v, ds[i]? = some v → w.cell? ⟨b, o + j * e.size + i, none⟩ = some v) (L H : Nat) (hL : L ≤ H) (hH : H ≤ l.length) :
    RepV F w (.sl e) ((l.take H).drop L) (.slice (if c = L then A else A.map (·.add (L * e.size))) (H - L) (c - L)) := by
  have hlen : ((l.take H).drop L).length = H - L := by rw [List.length_drop, List.length_take]; omega
  have hcl : H - L ≤ c - L := by clear h; omega
  refine ⟨[.slice (if c = L then A else A.map (·.add (L * e.size))) (H - L) (c - L)], ⟨_, c - L, by rw [hlen], by rw [hlen]; exact hcl, fun hp => ?_⟩, rfl⟩
  rw [hlen] at hp ⊢
  have hp1 : 0 < l.length := by clear h; omega
  obtain ⟨b, o, hA, h3, h4⟩ := h hp1
  clear h
  subst hA
  rw [if_neg (by omega)]
  refine ⟨b, o + L * e.size, by rw [Option.map_some, add_at], ?_, fun j x hj => ?_⟩
  · have h5 : L * e.size + (H - L) * e.size = H * e.size := by rw [← Nat.add_mul]; congr 1; omega
    have h6 : H * e.size ≤ l.length * e.size := Nat.mul_le_mul_right _ hH
    omega
  · rw [List.getElem?_drop, List.getElem?_take] at hj
    split at hj
    · obtain ⟨ds, hd, hcell⟩ := h4 (L + j) x hj
      refine ⟨ds, hd, fun i v hv => ?_⟩
      have := hcell i v hv
      rw [show o + L * e.size + j * e.size + i = o + (L + j) * e.size + i from by rw [Nat.add_mul]; omega]
      exact this
    · cases hj
end
end Go.Sym
end
section
namespace Go.Sym
open Go.RowKit
set_option linter.unusedVariables false
set_option linter.unusedSimpArgs false

section
variable {P : Program} {T : Tab} {F : Nat → Nat} {w : World} {B : Nat → Prop} {γ : Nat → Nat} {ρ : Nat → Option Nat} {i : Nat}
theorem withInt_sound {α : Type} {a : AV} {v : Value} {K : Int → Tree α} {r : α} (h : RepA F w B γ ρ a v) (hk : (withInt a K).val = some r) : ∃ (k : IntKind) (n : Int), v = .int k n ∧ (K n).val = some r := by
  unfold withInt at hk
  split at hk
  · rename_i k n g
    exact ⟨k, n, rep_int h.1, hk⟩
  · exact (val_fail hk).elim
theorem sliceS_sound {xt : Nat} (hu : P.underlying xt = some .string) {s : ByteArray} {ev : Operand → AV} {cv : Operand → Value} (he : ∀ x, RepA F w B γ ρ (ev x) (cv x)) {lo hi : Option Operand} {av : AV} (h : (sliceS s (lo.map ev) (hi.map ev)).val = some av) :
    ∃ z, (Instr.sliceAt xt (.string s) (lo.map cv) (hi.map cv) none).run P w = .ok z w ∧ RepA F w B γ ρ av z := by
  rw [run_sliceAt_string w xt _ _ _ _ hu]
  cases lo with
  | none =>
    cases hi with
    | none =>
      cases val_ret h
      exact ⟨.string s, by simp [Instr.slice, run_underlying hu, Instr.sliceBounds], mk_a mk_str⟩
    | some H =>
      obtain ⟨k, n, q, h1⟩ := withInt_sound (he H) h
      obtain ⟨c1, h1⟩ := val_tst h1
      obtain ⟨c2, h2⟩ := val_tst h1
      cases val_ret h2
      simp only [Option.map_none, Option.map_some, q]
      exact ⟨_, by (simp [Instr.slice, run_underlying hu, Instr.sliceBounds, run_sliceBound, c1, c2]) <;> rfl, mk_a mk_str⟩
  | some L =>
    cases hi with
    | none =>
      obtain ⟨k, n, q, h1⟩ := withInt_sound (he L) h
      obtain ⟨c1, h1⟩ := val_tst h1
      obtain ⟨c2, h2⟩ := val_tst h1
      cases val_ret h2
      simp only [Option.map_none, Option.map_some, q]
      exact ⟨_, by (simp [Instr.slice, run_underlying hu, Instr.sliceBounds, run_sliceBound, c1, c2]) <;> rfl, mk_a mk_str⟩
    | some H =>
      obtain ⟨k, n, q, h1⟩ := withInt_sound (he L) h
      obtain ⟨k', n', q', h1⟩ := withInt_sound (he H) h1
      obtain ⟨c1, h1⟩ := val_tst h1
      obtain ⟨c2, h2⟩ := val_tst h1
      obtain ⟨c3, h3⟩ := val_tst h2
      cases val_ret h3
      have c4 : n ≤ ((n'.toNat : Nat) : Int) := by omega
      have c5 : 0 ≤ n' := by omega
      simp only [Option.map_some, q, q']
      have b1 := run_sliceBound (P := P) w k n n'.toNat .sliceB c1 c4
      have b2 := run_sliceBound (P := P) w k' n' s.size .sliceAlen c5 c3
      exact ⟨_, by (simp [Instr.slice, run_underlying hu, Instr.sliceBounds, b1, b2]) <;> rfl, mk_a mk_str⟩
theorem elem_eq {xt e : Nat} (hu : P.underlying xt = some (.slice e)) : P.underlying xt = some (.slice (P.elem xt)) := by
  have : P.elem xt = e := by simp [Program.elem, hu]
  rw [this]
  exact hu
theorem sliceL_sound (hT : TabOk P T) {xt e0 : Nat} (hd : (T.row xt).d = .sl e0) {e : Ty} (het : T.ty xt = .sl e) {l : List (El e)} {u : Value} (hu : RepV F w (.sl e) l u) {ev : Operand → AV} {cv : Operand → Value} (he : ∀ x, RepA F w B γ ρ (ev x) (cv x)) {lo hi : Option Operand} {av : AV} (h : (sliceL e l (lo.map ev) (hi.map ev)).val = some av) :
    ∃ z, (Instr.sliceAt xt u (lo.map cv) (hi.map cv) none).run P w = .ok z w ∧ RepA F w B γ ρ av z := by
  obtain ⟨hx, h2, h3, h4⟩ := (hT.row (i := xt) (by rw [hd]; exact fun q => by cases q)).sl hd
  rw [het] at h2
  cases h2
  have hx1 := elem_eq hx
  have hel : P.elem xt = e0 := by simp [Program.elem, hx]
  have hs := (hT.row h3).sizeOf w
  rw [run_sliceAt_slice w xt _ _ _ _ hx1]
  obtain ⟨A, c, rfl, hc, hr⟩ := rep_sl hu
  have key : ∀ lov hiv, ∀ L H : Nat, L ≤ H → H ≤ l.length → (Instr.sliceBounds true l.length c lov hiv none).run P w = .ok (L, H, c) w →
      ∃ z, (Instr.slice xt (.slice A l.length c) lov hiv none).run P w = .ok z w ∧ RepA F w B γ ρ (.v (.sl (T.ty e0)) ((l.take H).drop L) []) z := by
    intro lov hiv L H hL hH hb
    refine ⟨_, ?_, mk_a (cut_rep hc hr L H hL hH)⟩
    rw [run_slice_any w xt A l.length c hx1, hb]
    simp only [Result.andThen_ok]
    rw [hel, hs]
    rfl
  cases lo with
  | none =>
    cases hi with
    | none =>
      cases val_ret h
      have k := key none none 0 l.length (Nat.zero_le _) (Nat.le_refl _) (by simp [Instr.sliceBounds])
      rw [List.take_length, List.drop_zero] at k
      exact k
    | some H =>
      obtain ⟨kk, n, q, h1⟩ := withInt_sound (he H) h
      obtain ⟨c1, h1⟩ := val_tst h1
      obtain ⟨c2, h2⟩ := val_tst h1
      cases val_ret h2
      have c3 : n ≤ (c : Int) := by clear hr key; omega
      have k := key none (some (.int kk n)) 0 n.toNat (Nat.zero_le _) (by clear hr key; omega) (by simp [Instr.sliceBounds, run_sliceBound, c1, c3])
      rw [List.drop_zero] at k
      simp only [Option.map_none, Option.map_some, q]
      exact k
  | some L =>
    cases hi with
    | none =>
      obtain ⟨kk, n, q, h1⟩ := withInt_sound (he L) h
      obtain ⟨c1, h1⟩ := val_tst h1
      obtain ⟨c2, h2⟩ := val_tst h1
      cases val_ret h2
      have k := key (some (.int kk n)) none n.toNat l.length (by clear hr key; omega) (Nat.le_refl _) (by simp [Instr.sliceBounds, run_sliceBound, c1, c2])
      rw [List.take_length] at k
      simp only [Option.map_none, Option.map_some, q]
      exact k
    | some H =>
      obtain ⟨kk, n, q, h1⟩ := withInt_sound (he L) h
      obtain ⟨kk', n', q', h1⟩ := withInt_sound (he H) h1
      obtain ⟨c1, h1⟩ := val_tst h1
      obtain ⟨c2, h2⟩ := val_tst h1
      obtain ⟨c3, h3⟩ := val_tst h2
      cases val_ret h3
      have c4 : n ≤ ((n'.toNat : Nat) : Int) := by clear hr key; omega
      have c5 : 0 ≤ n' := by clear hr key; omega
      have c6 : n' ≤ (c : Int) := by clear hr key; omega
      simp only [Option.map_some, q, q']
      have b1 := run_sliceBound (P := P) w kk n n'.toNat .sliceB c1 c4
      have b2 := run_sliceBound (P := P) w kk' n' c .sliceAcap c5 c6
      exact key (some (.int kk n)) (some (.int kk' n')) n.toNat n'.toNat (by clear hr key; omega) (by clear hr key; omega) (by simp [Instr.sliceBounds, b1, b2])
/-- A part's cells are laid into a whole's. -/
theorem fold_set (vs : List Value) : ∀ (k off : Nat) (cs : Array Value), off + k + vs.length ≤ cs.size →
    ((vs.zipIdx k).foldl (fun cs (p : Value × Nat) => cs.setIfInBounds (off + p.2) p.1) cs).toList = cs.toList.take (off + k) ++ vs ++ cs.toList.drop (off + k + vs.length) := by
  induction vs with
  | nil => intro k off cs h; simp
  | cons v r ih =>
    intro k off cs h
    rw [List.zipIdx_cons, List.foldl_cons]
    have hl : off + k < cs.size := by rw [List.length_cons] at h; omega
    rw [ih (k + 1) off _ (by rw [List.length_cons] at h; simp; omega)]
    simp only [Array.toList_setIfInBounds, List.length_cons]
    rw [List.take_set, List.drop_set]
    rw [if_pos (by omega), show off + (k + 1) + r.length = off + k + (r.length + 1) from by omega]
    rw [show off + (k + 1) = off + k + 1 from by omega, List.take_add_one, List.set_append]
    have hlen : (List.take (off + k) cs.toList).length = off + k := by rw [List.length_take]; simp; omega
    rw [if_neg (by omega), hlen, Nat.sub_self, List.getElem?_eq_getElem (by simpa using hl)]
    simp
theorem fill_part {place : Nat → Option (Nat × Nat)} {j off n : Nat} {v : Value} {r : List (Nat × Value)} {cs : Array Value} (hp : place j = some (off, n)) (hn : v.cells.size = n) (ho : off + n ≤ cs.size) :
    Instr.fill place cs ((j, v) :: r) = Instr.fill place (cs.toList.take off ++ v.cells.toList ++ cs.toList.drop (off + n)).toArray r := by
  rw [Instr.fill, hp]
  simp only
  rw [if_neg (by simp; omega)]
  congr 1
  apply Array.ext'
  have := fold_set v.cells.toList 0 off cs (by simpa [hn] using ho)
  rw [← Array.foldl_toList, Array.toList_zipIdx]
  simp only [Nat.add_zero] at this
  rw [this]
  simp [hn]
theorem build_fill {T : Tab} {pl : Nat → Option (Nat × Nat)} {place : Nat → Option (Nat × Nat)} (hpl : ∀ j f off, pl j = some (f, off) → place j = some (off, (T.ty f).size)) {t : Ty} {ev : Operand → AV} {cv : Operand → Value} (he : ∀ x, RepA F w B γ ρ (ev x) (cv x)) :
    ∀ {l : List (Nat × Operand)} {x : El t} {g : List TE} {av : AV} {cs : List Value},
      RepC F w t x cs → TagsV F w B ρ g cs.toArray → buildA T pl t (l.map fun p => (p.1, ev p.2)) x g = some av →
      ∃ ds y g1, Instr.fill place cs.toArray (l.map fun p => (p.1, cv p.2)) = some ds.toArray ∧ av = .v t y g1 ∧ RepC F w t y ds ∧ TagsV F w B ρ g1 ds.toArray := by
  intro l
  induction l with
  | nil =>
    intro x g av cs hx hg h
    cases h
    exact ⟨cs, x, g, rfl, rfl, hx, hg⟩
  | cons p r ih =>
    intro x g av cs hx hg h
    obtain ⟨j, a⟩ := p
    rw [List.map_cons] at h ⊢
    unfold buildA at h
    split at h
    · cases h
    · rename_i f off hplj
      split at h
      · cases h
      · rename_i y gy has
        split at h
        · cases h
        · rename_i x1 hset
          obtain ⟨⟨ds, hds, hcv⟩, htag⟩ := AV.as_rep (he a) has
          simp only [hcv] at htag ⊢
          rw [pack_cells hds] at htag
          obtain ⟨r1, r2⟩ := setEl_rep hds hx hset
          have hc := hx.len
          have hsz : (pack (T.ty f) ds).cells.size = (T.ty f).size := by rw [pack_cells hds]; exact hds.len
          obtain ⟨es, z, g1, e1, e2, e3, e4⟩ := ih r1 (setG_ok hg htag off _ hds.len (by omega)) h
          refine ⟨es, z, g1, ?_, e2, e3, e4⟩
          rw [fill_part (hpl _ _ _ hplj) hsz (by simp; omega), pack_cells hds]
          exact e1
theorem zeroG_at (t : Ty) : ∀ te ∈ zeroG t 0, (zeroOf t).toArray[te.off]? = some (.slice none 0 0) := by
  have key : ∀ (t : Ty) (off : Nat) (pre : List Value), pre.length = off → ∀ te ∈ zeroG t off, (pre ++ zeroOf t)[te.off]? = some (.slice none 0 0) := by
    intro t
    induction t with
    | sl e _ =>
      intro off pre hp te hte
      rw [show zeroG (.sl e) off = [⟨off, 0, 0, 0⟩] from rfl, List.mem_singleton] at hte
      subst hte
      rw [List.getElem?_append_right (by simp only; omega), hp]
      simp [zeroOf]
    | cons a b iha ihb =>
      intro off pre hp te hte
      rcases List.mem_append.1 hte with q | q
      · have := iha off pre hp te q
        show (pre ++ (zeroOf a ++ zeroOf b))[te.off]? = _
        rw [← List.append_assoc, List.getElem?_append_left (List.getElem?_eq_some_iff.1 this).1]
        exact this
      · have := ihb (off + a.size) (pre ++ zeroOf a) (by rw [List.length_append, hp, zeroOf_len]) te q
        show (pre ++ (zeroOf a ++ zeroOf b))[te.off]? = _
        rw [← List.append_assoc]
        exact this
    | _ => intro off pre hp te hte; cases hte
  intro te hte
  have := key t 0 [] rfl te hte
  rw [List.getElem?_toArray]
  exact this
theorem zeroGT_ok (T : Tab) (t : Nat) : TagsV F w B ρ (zeroGT T t) (zeroOf (T.ty t)).toArray := by
  intro te hte
  obtain ⟨q, hq, e⟩ := List.any_eq_true.1 (List.mem_filter.1 hte).2
  have := zeroG_at (T.ty t) q hq
  rw [beq_iff_eq.1 e] at this
  exact ⟨_, this, .inl ⟨_, rfl⟩⟩
/-- A part of a row that is written still: cut. -/
theorem sliceR_sound {run : Option Value → Option Value → Sem Value} {cap : Nat} {o : Nat} {e : Ty} {b lo0 n : Nat} {bx : List (Nat × Bx)} {isS : Bool} (hc : n ≤ cap) (ho : 0 < n → o = lo0 * e.size) (hwf : ∀ m, rowN bx b = some m → lo0 + n ≤ m) (hcap : isS = false → cap = n)
    (hrun : ∀ lov hiv L H c, (Instr.sliceBounds isS n cap lov hiv none).run P w = .ok (L, H, c) w → (run lov hiv).run P w = .ok (.slice (some (if c = L then ⟨γ b, o, none⟩ else ⟨γ b, o + L * e.size, none⟩)) (H - L) (c - L)) w)
    {ev : Operand → AV} {cv : Operand → Value} (he : ∀ x, RepA F w B γ ρ (ev x) (cv x)) {lo hi : Option Operand} {av : AV} (h : (sliceR e b lo0 n (lo.map ev) (hi.map ev)).val = some av) :
    ∃ z, (run (lo.map cv) (hi.map cv)).run P w = .ok z w ∧ RepA F w B γ ρ av z ∧ avWf bx av := by
  have key : ∀ lov hiv, ∀ L H : Nat, L ≤ H → H ≤ n → (Instr.sliceBounds isS n cap lov hiv none).run P w = .ok (L, H, cap) w →
      ∃ z, (run lov hiv).run P w = .ok z w ∧ RepA F w B γ ρ (.mr e b (lo0 + L) (H - L)) z ∧ avWf bx (.mr e b (lo0 + L) (H - L)) := by
    intro lov hiv L H hL hH hb
    refine ⟨_, hrun _ _ _ _ _ hb, ?_, fun m hm => by have := hwf m hm; omega⟩
    by_cases q : cap = L
    · simp only [if_pos q]
      exact ⟨o, cap - L, rfl, by omega, fun hp => by omega⟩
    · simp only [if_neg q]
      refine ⟨o + L * e.size, cap - L, rfl, by omega, fun hp => ?_⟩
      rw [ho (by omega), Nat.add_mul]
  cases lo with
  | none =>
    cases hi with
    | none =>
      cases val_ret h
      have k := key none none 0 n (Nat.zero_le _) (Nat.le_refl _) (by simp [Instr.sliceBounds])
      simpa using k
    | some H =>
      obtain ⟨kk, m, q, h1⟩ := withInt_sound (he H) h
      obtain ⟨c1, h1⟩ := val_tst h1
      obtain ⟨c2, h2⟩ := val_tst h1
      cases val_ret h2
      have c3 : m ≤ (cap : Int) := by omega
      have k := key none (some (.int kk m)) 0 m.toNat (Nat.zero_le _) (by omega) (by cases isS <;> simp [Instr.sliceBounds, run_sliceBound, c1, c3])
      simp only [Option.map_none, Option.map_some, q]
      simpa using k
  | some L =>
    cases hi with
    | none =>
      obtain ⟨kk, m, q, h1⟩ := withInt_sound (he L) h
      obtain ⟨c1, h1⟩ := val_tst h1
      obtain ⟨c2, h2⟩ := val_tst h1
      cases val_ret h2
      have k := key (some (.int kk m)) none m.toNat n (by omega) (Nat.le_refl _) (by simp [Instr.sliceBounds, run_sliceBound, c1, c2])
      simp only [Option.map_none, Option.map_some, q]
      exact k
    | some H =>
      obtain ⟨kk, m, q, h1⟩ := withInt_sound (he L) h
      obtain ⟨kk', m', q', h1⟩ := withInt_sound (he H) h1
      obtain ⟨c1, h1⟩ := val_tst h1
      obtain ⟨c2, h2⟩ := val_tst h1
      obtain ⟨c3, h3⟩ := val_tst h2
      cases val_ret h3
      have c4 : m ≤ ((m'.toNat : Nat) : Int) := by omega
      have c5 : 0 ≤ m' := by omega
      have c6 : m' ≤ (cap : Int) := by omega
      simp only [Option.map_some, q, q']
      have b1 := run_sliceBound (P := P) w kk m m'.toNat .sliceB c1 c4
      have b2 := fun code => run_sliceBound (P := P) w kk' m' cap code c5 c6
      exact key (some (.int kk m)) (some (.int kk' m')) m.toNat m'.toNat (by omega) (by omega) (by cases isS <;> simp [Instr.sliceBounds, b1, b2])
theorem run_sliceAt_arr (w : World) (arr n e : Nat) (ha : P.underlying arr = some (.array n e)) {sz : Nat} (hs : (Go.sizeOf e).run P w = .ok sz w) (b o : Nat) (lov hiv : Option Value) {L H c : Nat} (hb : (Instr.sliceBounds false n n lov hiv none).run P w = .ok (L, H, c) w) :
    (Instr.sliceAt arr (.pointer (some ⟨b, o, none⟩)) lov hiv none).run P w = .ok (.slice (some (if c = L then ⟨b, o, none⟩ else ⟨b, o + L * sz, none⟩)) (H - L) (c - L)) w := by
  unfold Instr.sliceAt
  simp only [Sem.run_bind, run_underlying ha, Result.andThen_ok, Instr.sureAddr, Sem.run_pure, hb, hs, Addr.add_mid]
end
end Go.Sym
end
section
namespace Go.Sym
open Go.RowKit
set_option linter.unusedVariables false
set_option linter.unusedSimpArgs false

section
variable {P : Program} {T : Tab} {F : Nat → Nat} {w : World} {B : Nat → Prop} {γ : Nat → Nat} {ρ : Nat → Option Nat} {i : Nat}
theorem chain_rows {T : Tab} : ∀ {fs : List (Nat × Nat)} {off : Nat} {t : Ty}, chain T fs off = some t → ∀ p ∈ fs, (T.row p.1).d ≠ .other
  | [], _, _, _, p, hp => by cases hp
  | (f, o) :: r, off, t, h, p, hp => by
    unfold chain at h
    split at h
    · rename_i c
      obtain ⟨u, hu, _⟩ := Option.map_eq_some_iff.1 h
      rcases List.mem_cons.1 hp with rfl | q
      · exact c.2
      · exact chain_rows hu p q
    · cases h
theorem RowOk.info (h : RowOk P T i) : ∃ inf, P.info? i = some inf ∧ inf.size = (T.ty i).size ∧ inf.zero = some (pack (T.ty i) (zeroOf (T.ty i))) := by
  obtain ⟨inf, u, h1, h2, h3, h4, h5, h6⟩ := h.ex
  exact ⟨inf, h1, h3, h5⟩
theorem places_run (hT : TabOk P T) : ∀ (fs : List Field), (∀ f ∈ fs, (T.row f.type).d ≠ .other) → fs.mapM (fun f => (P.info? f.type).map fun i => (f.offset, i.size)) = some (fs.map fun f => (f.offset, (T.ty f.type).size))
  | [], _ => rfl
  | f :: r, h => by
    obtain ⟨inf, h1, h2, _⟩ := (hT.row (h f (by simp))).info
    simp [List.mapM_cons, h1, h2, places_run hT r (fun g hg => h g (by simp [hg]))]
theorem build_sound (hT : TabOk P T) {t : Nat} (hm : (T.row t).d.many = true) {parts : Array (Nat × Operand)} {ev : Operand → AV} {cv : Operand → Value} (he : ∀ x, RepA F w B γ ρ (ev x) (cv x)) {av : AV}
    (h : buildA T (T.place t) (T.ty t) (parts.toList.map fun p => (p.1, ev p.2)) (dflt (T.ty t)) (zeroGT T t) = some av) :
    ∃ z, (Instr.build t (parts.map fun p => (p.1, cv p.2))).run P w = .ok z w ∧ RepA F w B γ ρ av z := by
  have hd : (T.row t).d ≠ .other := fun e => by rw [e] at hm; cases hm
  have hr := hT.row hd
  obtain ⟨inf, hi, hsz, hz⟩ := hr.info
  have fin : ∀ (place : Nat → Option (Nat × Nat)), (∀ j f off, T.place t j = some (f, off) → place j = some (off, (T.ty f).size)) → (T.ty t).agg = true →
      (∀ cells, Instr.fill place (zeroOf (T.ty t)).toArray (parts.toList.map fun p => (p.1, cv p.2)) = some cells → P.built t (parts.toList.map fun p => (p.1, cv p.2)) = some cells) →
      ∃ z, (Instr.build t (parts.map fun p => (p.1, cv p.2))).run P w = .ok z w ∧ RepA F w B γ ρ av z := by
    intro place hpl ha hb
    obtain ⟨ds, y, g1, e1, e2, e3, e4⟩ := build_fill (place := place) hpl he (zeroOf_rep F w (T.ty t) hr.zok) (zeroGT_ok T t) h
    refine ⟨_, run_build w t _ ds.toArray (by rw [Array.toList_map]; exact hb _ e1), ?_⟩
    rw [e2]
    refine ⟨⟨ds, e3, (pack_agg ha ds).symm⟩, ?_⟩
    exact e4
  cases hdd : (T.row t).d with
  | st fs =>
    obtain ⟨l, h1, h2, h3⟩ := hr.st hdd
    have ha := chain_agg h3
    have hrows : ∀ f ∈ l.toList, (T.row f.type).d ≠ .other := fun f hf => chain_rows h3 (f.type, f.offset) (by rw [← h2]; exact List.mem_map.2 ⟨f, hf, rfl⟩)
    refine fin (fun j => (l.toList.map fun f => (f.offset, (T.ty f.type).size))[j]?) ?_ ha ?_
    · intro j f off hp
      unfold Tab.place at hp
      rw [hdd] at hp
      simp only at hp
      rw [← h2, List.getElem?_map, Option.map_eq_some_iff] at hp
      obtain ⟨x, hx, e⟩ := hp
      cases e
      simp only [List.getElem?_map, hx]
      rfl
    · intro cells hc
      unfold Program.built
      rw [hi, h1]
      simp only [hz, places_run hT _ hrows]
      rw [pack_agg ha]
      show Instr.fill _ (zeroOf (T.ty t)).toArray _ = _
      simpa using hc
  | arr n e =>
    obtain ⟨h1, h2, h3, _⟩ := hr.arr hdd
    have ha : (T.ty t).agg = true := by rw [h2]; exact rep_agg _ _
    obtain ⟨ie, hie, hse, _⟩ := (hT.row h3).info
    refine fin (fun j => some (j * (T.ty e).size, (T.ty e).size)) ?_ ha ?_
    · intro j f off hp
      unfold Tab.place at hp
      rw [hdd] at hp
      simp only at hp
      split at hp
      · cases hp
        rfl
      · cases hp
    · intro cells hc
      unfold Program.built
      rw [hi, h1]
      simp only [hz, hie, hse]
      rw [pack_agg ha]
      exact hc
  | _ => rw [hdd] at hm; cases hm
end
end Go.Sym
end
section
namespace Go.Sym
open Go.RowKit
set_option linter.unusedVariables false
set_option linter.unusedSimpArgs false

section
variable {P : Program} {T : Tab} {F : Nat → Nat} {w : World} {B : Nat → Prop} {γ : Nat → Nat} {ρ : Nat → Option Nat}
theorem RowOk.boolu {i : Nat} (h : RowOk P T i) (hd : (T.row i).d = .bool) : P.underlying i = some .bool ∧ T.ty i = .bool := by
  obtain ⟨inf, u, h1, h2, h3, h4, h5, h6⟩ := h.ex
  unfold descIs at h6
  rw [hd] at h6
  split at h6 <;> first | (rename_i q; cases q; done) | skip
  · exact ⟨h2, beq_iff_eq.1 h6⟩
  · cases h6
theorem RowOk.names {i : Nat} (h : RowOk P T i) {fs : List (Nat × Nat)} (hd : (T.row i).d = .st fs) {l : Array Field} (hu : P.underlying i = some (.struct l)) : l.toList.all (fun f => f.name != "_") = true := by
  obtain ⟨inf, u, h1, h2, h3, h4, h5, h6⟩ := h.ex
  unfold descIs at h6
  rw [hd] at h6
  rw [hu] at h2
  cases h2
  simp only [Bool.and_eq_true] at h6
  exact h6.2
/-- The fields of two structs, one by one. -/
theorem eqFields_run (hT : TabOk P T) (d : Nat) (hd : ∀ f, cmpT T d f = true → ∀ (m n : El (T.ty f)) (u v : Value), RepV F w (T.ty f) m u → RepV F w (T.ty f) n v → ∀ k, (Op.equalIn (d + k) f u v).run P w = .ok (eqE (T.ty f) m n) w) (k : Nat) :
    ∀ (fs : List Field) (off : Nat) (t : Ty) (m n : El t) (p1 p2 c1 c2 : List Value), chain T (fs.map fun f => (f.type, f.offset)) off = some t → fs.all (fun f => f.name != "_") = true → (∀ f ∈ fs, cmpT T d f.type = true) →
      p1.length = off → p2.length = off → RepC F w t m c1 → RepC F w t n c2 → (Op.eqFields (d + k) (p1 ++ c1).toArray (p2 ++ c2).toArray fs).run P w = .ok (eqE t m n) w
  | [], off, t, m, n, p1, p2, c1, c2, hc, _, _, _, _, _, _ => by
    cases hc
    rfl
  | f :: r, off, t, m, n, p1, p2, c1, c2, hc, hn, hall, e1, e2, h1, h2 => by
    rw [List.map_cons] at hc
    unfold chain at hc
    split at hc
    · rename_i q
      obtain ⟨q1, q2⟩ := q
      obtain ⟨t2, ht2, rfl⟩ := Option.map_eq_some_iff.1 hc
      obtain ⟨a1, a2, rfl, ha1, ha2⟩ := h1
      obtain ⟨b1, b2, rfl, hb1, hb2⟩ := h2
      rw [List.all_cons, Bool.and_eq_true] at hn
      have l1 := ha1.len
      have l2 := hb1.len
      have hname : f.name ≠ "_" := by simpa using hn.1
      have pa := (hT.row q2).part (w := w) (cs := p1 ++ (a1 ++ a2)) (off := off) (by simp; omega)
      have pb := (hT.row q2).part (w := w) (cs := p2 ++ (b1 ++ b2)) (off := off) (by simp; omega)
      rw [show ((p1 ++ (a1 ++ a2)).drop off).take (T.ty f.type).size = a1 from by rw [List.drop_append, e1, Nat.sub_self, List.drop_eq_nil_of_le (by omega), List.nil_append, List.drop_zero, ← l1, List.take_left]] at pa
      rw [show ((p2 ++ (b1 ++ b2)).drop off).take (T.ty f.type).size = b1 from by rw [List.drop_append, e2, Nat.sub_self, List.drop_eq_nil_of_le (by omega), List.nil_append, List.drop_zero, ← l2, List.take_left]] at pb
      have he := hd f.type (hall f List.mem_cons_self) m.1 n.1 _ _ ⟨a1, ha1, rfl⟩ ⟨b1, hb1, rfl⟩ k
      unfold Op.eqFields
      rw [if_pos hname]
      simp only [← q1] at pa pb
      simp only [Sem.run_bind, pa, pb, Result.andThen_ok, he]
      show _ = Result.ok (eqE (T.ty f.type) m.1 n.1 && eqE t2 m.2 n.2) w
      cases hx : eqE (T.ty f.type) m.1 n.1 with
      | false => simp
      | true =>
        simp only [Bool.not_true, Bool.false_eq_true, if_false, Bool.true_and]
        have := eqFields_run hT d hd k r (off + (T.ty f.type).size) t2 m.2 n.2 (p1 ++ a1) (p2 ++ b1) a2 b2 ht2 hn.2 (fun g hg => hall g (List.mem_cons_of_mem _ hg)) (by simp; omega) (by simp; omega) ha2 hb2
        rw [List.append_assoc, List.append_assoc] at this
        exact this
    · cases hc
/-- The places of two arrays, one by one. -/
theorem eqItems_run (hT : TabOk P T) (d e : Nat) (he : (T.row e).d ≠ .other) (hd : ∀ (m n : El (T.ty e)) (u v : Value), RepV F w (T.ty e) m u → RepV F w (T.ty e) n v → ∀ k, (Op.equalIn (d + k) e u v).run P w = .ok (eqE (T.ty e) m n) w) (k : Nat) :
    ∀ (n j : Nat) (x y : El (rep (T.ty e) n)) (p1 p2 c1 c2 : List Value), p1.length = j * (T.ty e).size → p2.length = j * (T.ty e).size → RepC F w (rep (T.ty e) n) x c1 → RepC F w (rep (T.ty e) n) y c2 →
      (Op.eqItems (d + k) e (T.ty e).size (p1 ++ c1).toArray (p2 ++ c2).toArray (List.range' j n)).run P w = .ok (eqE (rep (T.ty e) n) x y) w
  | 0, j, x, y, p1, p2, c1, c2, _, _, _, _ => rfl
  | n + 1, j, x, y, p1, p2, c1, c2, e1, e2, h1, h2 => by
    obtain ⟨a1, a2, rfl, ha1, ha2⟩ := h1
    obtain ⟨b1, b2, rfl, hb1, hb2⟩ := h2
    have l1 := ha1.len
    have l2 := hb1.len
    have pa := (hT.row he).part (w := w) (cs := p1 ++ (a1 ++ a2)) (off := j * (T.ty e).size) (by simp; omega)
    have pb := (hT.row he).part (w := w) (cs := p2 ++ (b1 ++ b2)) (off := j * (T.ty e).size) (by simp; omega)
    rw [show ((p1 ++ (a1 ++ a2)).drop (j * (T.ty e).size)).take (T.ty e).size = a1 from by rw [List.drop_append, e1, Nat.sub_self, List.drop_eq_nil_of_le (by omega), List.nil_append, List.drop_zero, ← l1, List.take_left]] at pa
    rw [show ((p2 ++ (b1 ++ b2)).drop (j * (T.ty e).size)).take (T.ty e).size = b1 from by rw [List.drop_append, e2, Nat.sub_self, List.drop_eq_nil_of_le (by omega), List.nil_append, List.drop_zero, ← l2, List.take_left]] at pb
    have hq := hd x.1 y.1 _ _ ⟨a1, ha1, rfl⟩ ⟨b1, hb1, rfl⟩ k
    rw [List.range'_succ]
    unfold Op.eqItems
    simp only [Sem.run_bind, pa, pb, Result.andThen_ok, hq]
    show _ = Result.ok (eqE (T.ty e) x.1 y.1 && eqE (rep (T.ty e) n) x.2 y.2) w
    cases hx : eqE (T.ty e) x.1 y.1 with
    | false => simp
    | true =>
      simp only [Bool.not_true, Bool.false_eq_true, if_false, Bool.true_and]
      have := eqItems_run hT d e he hd k n (j + 1) x.2 y.2 (p1 ++ a1) (p2 ++ b1) a2 b2 (by rw [List.length_append, Nat.add_mul]; omega) (by rw [List.length_append, Nat.add_mul]; omega) ha2 hb2
      rw [List.append_assoc, List.append_assoc] at this
      exact this
theorem equalIn_run (hT : TabOk P T) : ∀ (d t : Nat), cmpT T d t = true → ∀ (m n : El (T.ty t)) (u v : Value), RepV F w (T.ty t) m u → RepV F w (T.ty t) n v → ∀ k, (Op.equalIn (d + k) t u v).run P w = .ok (eqE (T.ty t) m n) w
  | 0, t, h, m, n, u, v, hu, hv, k => by cases h
  | d + 1, t, h, m, n, u, v, hu, hv, k => by
    rw [show d + 1 + k = d + k + 1 from by omega]
    unfold cmpT at h
    split at h
    · rename_i kk hd
      obtain ⟨h1, h2⟩ := (hT.row (by rw [hd]; simp)).int hd
      generalize T.ty t = ty at *
      subst h2
      rw [rep_int hu, rep_int hv, run_equalIn_int w (d + k) t kk kk m n h1]
      show _ = Result.ok (decide (m = n)) w
      congr 1
    · rename_i hd
      obtain ⟨h1, h2⟩ := (hT.row (by rw [hd]; simp)).boolu hd
      generalize T.ty t = ty at *
      subst h2
      rw [rep_bool hu, rep_bool hv, run_equalIn_bool' w (d + k) t m n h1]
      rfl
    · rename_i hd
      obtain ⟨h1, h2⟩ := (hT.row (by rw [hd]; simp)).str hd
      generalize T.ty t = ty at *
      subst h2
      rw [rep_str hu, rep_str hv, run_equalIn_string w (d + k) t m n h1]
      show _ = Result.ok (decide (m.toList = n.toList)) w
      rw [beq_dec]
    · rename_i fs hd
      have hr := hT.row (i := t) (by rw [hd]; simp)
      obtain ⟨l, h1, h2, h3⟩ := hr.st hd
      have hf : P.fieldsOf t = l := by unfold Program.fieldsOf; rw [h1]
      obtain ⟨cs, hc, rfl⟩ := hu
      obtain ⟨ds, hds, rfl⟩ := hv
      have ha := chain_agg h3
      rw [pack_agg ha, pack_agg ha, run_equalIn_struct w (d + k) t cs.toArray ds.toArray (by rw [hf]; exact h1) hr.eqs.1, hf]
      have hall : ∀ f ∈ l.toList, cmpT T d f.type = true := fun f hf => by
        have := List.all_eq_true.1 h (f.type, f.offset) (by rw [← h2]; exact List.mem_map.2 ⟨f, hf, rfl⟩)
        exact this
      have := eqFields_run hT d (fun f hf => equalIn_run hT d f hf) k l.toList 0 (T.ty t) m n [] [] cs ds (by rw [h2]; exact h3) (hr.names hd h1) hall rfl rfl hc hds
      exact this
    · rename_i nn e hd
      have hr := hT.row (i := t) (by rw [hd]; simp)
      obtain ⟨h1, h2, h3, h4⟩ := hr.arr hd
      obtain ⟨inf, hi, hsz, _⟩ := (hT.row h3).info
      have hcell : P.cellsOf e = (T.ty e).size := by unfold Program.cellsOf; rw [hi]; exact hsz
      obtain ⟨cs, hc, rfl⟩ := hu
      obtain ⟨ds, hds, rfl⟩ := hv
      generalize T.ty t = ty at *
      subst h2
      rw [pack_agg (rep_agg _ _), pack_agg (rep_agg _ _), run_equalIn_array w (d + k) cs.toArray ds.toArray h1 hi, hcell, List.range_eq_range']
      exact eqItems_run hT d e h3 (fun m n u v hu hv k => equalIn_run hT d e h m n u v hu hv k) k nn 0 m n [] [] cs ds (by simp) (by simp) hc hds
    · cases h
theorem eqS_sound (hT : TabOk P T) {b : BinOp} {p q : AV} {u v : Value} {av : AV} {xt : TypeId} (hd : (T.row xt).d.many = true) (x y : Operand) (hp : RepA F w B γ ρ p u) (hq : RepA F w B γ ρ q v) (h : (eqS T b xt (T.ty xt) p q).val = some av) :
    ∃ z, (do eqGuard b xt x y u v; binOp b xt u v).run P w = .ok z w ∧ RepA F w B γ ρ av z ∧ ∃ c, av = .v .bool c [] := by
  unfold eqS at h
  split at h
  · exact (val_fail h).elim
  · rename_i hc
    have hc : cmpT T 20 xt = true := by simpa using hc
    split at h
    · rename_i m g n g' hm hn
      have hu := (AV.as_rep hp hm).1
      have hv := (AV.as_rep hq hn).1
      have hr := hT.row (i := xt) (fun e => by rw [e] at hd; cases hd)
      have ha : (T.ty xt).agg = true := by
        cases hdd : (T.row xt).d with
        | st fs => obtain ⟨_, _, _, h3⟩ := hr.st hdd; exact chain_agg h3
        | arr k e => rw [(hr.arr hdd).2.1]; exact rep_agg _ _
        | _ => rw [hdd] at hd; cases hd
      have he := equalIn_run hT 20 xt hc m n u v hu hv 9980
      obtain ⟨cs, h1, e1⟩ := hu
      obtain ⟨ds, h2, e2⟩ := hv
      rw [pack_agg ha] at e1 e2
      subst e1 e2
      split at h
      · cases val_ret h
        refine ⟨.bool (eqE (T.ty xt) m n), ?_, mk_a mk_bool, _, rfl⟩
        rw [Sem.run_bind, run_eqGuard_agg w .eql xt x y _ _ hr.eqs.2]
        simp only [Result.andThen_ok]
        rw [run_eql_struct, he]
        rfl
      · cases val_ret h
        refine ⟨.bool (!eqE (T.ty xt) m n), ?_, mk_a mk_bool, _, rfl⟩
        rw [Sem.run_bind, run_eqGuard_agg w .neq xt x y _ _ hr.eqs.2]
        simp only [Result.andThen_ok]
        rw [run_neq_struct, he]
        rfl
      · exact (val_fail h).elim
    · exact (val_fail h).elim
/-- An array's elements, as a list. -/
theorem arr_row {e : Ty} : ∀ {n : Nat} {x : El (rep e n)} {cs : List Value}, RepC F w (rep e n) x cs → RowC F w e (arrL e n x) cs ∧ (arrL e n x).length = n
  | 0, x, cs, h => by
    rw [show cs = [] from h]
    exact ⟨⟨by simp [arrL], fun j y hj => by simp [arrL] at hj⟩, rfl⟩
  | n + 1, x, cs, h => by
    obtain ⟨c1, c2, rfl, h1, h2⟩ := h
    obtain ⟨r1, r2⟩ := arr_row h2
    have l1 := h1.len
    refine ⟨⟨?_, fun j y hj => ?_⟩, by simp [arrL, r2]⟩
    · rw [List.length_append, l1, r1.1, arrL, List.length_cons, Nat.add_mul]
      omega
    · cases j with
      | zero =>
        simp only [arrL, List.getElem?_cons_zero, Option.some.injEq] at hj
        subst hj
        refine ⟨c1, h1, fun i v hv => ?_⟩
        rw [Nat.zero_mul, Nat.zero_add, List.getElem?_append_left (List.getElem?_eq_some_iff.1 hv).1]
        exact hv
      | succ j =>
        simp only [arrL, List.getElem?_cons_succ] at hj
        obtain ⟨ds, k1, k2⟩ := r1.2 j y hj
        refine ⟨ds, k1, fun i v hv => ?_⟩
        have := k2 i v hv
        rw [Nat.add_mul, Nat.one_mul, List.getElem?_append_right (by omega), show j * e.size + e.size + i - c1.length = j * e.size + i from by omega]
        exact this
end
end Go.Sym
end
section
namespace Go.Sym
open Go.RowKit
set_option linter.unusedVariables false
set_option linter.unusedSimpArgs false

section
variable {P : Program} {T : Tab} {F : Nat → Nat} {w : World} {B : Nat → Prop} {γ : Nat → Nat} {ρ : Nat → Option Nat}
theorem v_of {s : Sem Value} {z : Value} (h : s.run P w = .ok z w) : (do pure (Next.value (← s)) : Sem Next).run P w = .ok (.value z) w := by
  rw [Sem.run_bind, h]
  rfl
theorem row_ne {i : Nat} {d : TD} (h : (T.row i).d = d) (hd : d ≠ .other) : (T.row i).d ≠ .other := by rw [h]; exact hd
theorem RowOk.bool {i : Nat} (h : RowOk P T i) (hd : (T.row i).d = .bool) : P.underlying i = some .bool := by
  obtain ⟨inf, u, h1, h2, h3, h4, h5, h6⟩ := h.ex
  unfold descIs at h6
  rw [hd] at h6
  split at h6 <;> first | (rename_i q; cases q; done) | skip
  · exact h2
  · cases h6
theorem eqB_sound {b : BinOp} {p q : AV} {u v : Value} {av : AV} {xt : TypeId} (hx : P.underlying xt = some .bool) (x y : Operand) (hp : RepA F w B γ ρ p u) (hq : RepA F w B γ ρ q v) (h : (eqB b p q).val = some av) :
    ∃ z, (do eqGuard b xt x y u v; binOp b xt u v).run P w = .ok z w ∧ RepA F w B γ ρ av z := by
  unfold eqB at h
  split at h
  · rename_i m g n g' hm hn
    obtain rfl := rep_bool (AV.as_rep hp hm).1
    obtain rfl := rep_bool (AV.as_rep hq hn).1
    have he : (Op.equal xt (.bool m) (.bool n)).run P w = .ok (m == n) w := by
      unfold Op.equal Op.maxDepth Op.equalIn
      simp [run_underlying hx]
    split at h
    · cases val_ret h
      refine ⟨.bool (m == n), ?_, ?_⟩
      · simp [eqGuard, binOp, he]
      · show Value.bool _ = _
        cases m <;> cases n <;> rfl
    · cases val_ret h
      refine ⟨.bool (!(m == n)), ?_, ?_⟩
      · simp only [eqGuard, binOp, Sem.run_bind]
        simp [he]
      · show Value.bool _ = _
        cases m <;> cases n <;> rfl
    · exact (val_fail h).elim
  · exact (val_fail h).elim
theorem binI_wf {b : BinOp} {k : IntKind} {m n : Int} {av : AV} (h : (binI b k m n).val = some av) (bx : List (Nat × Bx)) : avWf bx av := by
  cases b <;> simp only [binI] at h <;> first | exact (val_fail h).elim | (cases val_ret h; trivial) | (rcases val_ite h with ⟨_, h1⟩ | ⟨_, h1⟩ <;> first | exact (val_fail h1).elim | (cases val_ret h1; trivial))
theorem binA_wf {b : BinOp} {p q : AV} {av : AV} (h : (binA b p q).val = some av) (bx : List (Nat × Bx)) : avWf bx av := by
  unfold binA at h
  split at h
  · rcases val_ite h with ⟨_, h1⟩ | ⟨_, h1⟩
    · exact (val_fail h1).elim
    · cases val_ret h1; trivial
  · rcases val_ite h with ⟨_, h1⟩ | ⟨_, h1⟩
    · exact (val_fail h1).elim
    · cases val_ret h1; trivial
  · split at h
    · exact binI_wf h bx
    · exact (val_fail h).elim
  · rename_i s g t g'
    cases b <;> simp only [binS] at h <;> first | exact (val_fail h).elim | (cases val_ret h; trivial) | (obtain ⟨_, h1⟩ := val_tst h; cases val_ret h1; trivial)
  · exact (val_fail h).elim
theorem eqB_wf {b : BinOp} {p q : AV} {av : AV} (h : (eqB b p q).val = some av) (bx : List (Nat × Bx)) : avWf bx av := by
  unfold eqB at h
  split at h
  · split at h
    · cases val_ret h; trivial
    · cases val_ret h; trivial
    · exact (val_fail h).elim
  · exact (val_fail h).elim
theorem unA_wf {o : UnOp} {p : AV} {av : AV} (h : (unA o p).val = some av) (bx : List (Nat × Bx)) : avWf bx av := by
  unfold unA at h
  split at h <;> first | exact (val_fail h).elim | (cases val_ret h; trivial)
theorem fixA_wf {ty : Nat} {av : AV} {bx : List (Nat × Bx)} (h : avWf bx av) : avWf bx (fixA T ty av) := by
  unfold fixA
  split
  · split <;> trivial
  · exact h
theorem sliceS_wf {s : ByteArray} {lo hi : Option AV} {av : AV} (h : (sliceS s lo hi).val = some av) (bx : List (Nat × Bx)) : avWf bx av := by
  have key : ∀ {a : AV} {K : Int → Tree AV}, (∀ n, (K n).val = some av → avWf bx av) → (withInt a K).val = some av → avWf bx av := by
    intro a K hK h
    unfold withInt at h
    split at h
    · exact hK _ h
    · exact (val_fail h).elim
  have fin : ∀ {x : AV}, (∀ y, x = y → avWf bx x) → (Tree.ret x).val = some av → avWf bx av := fun hx h => by cases val_ret h; exact hx _ rfl
  cases lo <;> cases hi <;> simp only [sliceS] at h
  · cases val_ret h; trivial
  · exact key (fun n h => by obtain ⟨_, h⟩ := val_tst h; obtain ⟨_, h⟩ := val_tst h; cases val_ret h; trivial) h
  · exact key (fun n h => by obtain ⟨_, h⟩ := val_tst h; obtain ⟨_, h⟩ := val_tst h; cases val_ret h; trivial) h
  · exact key (fun n h => key (fun n h => by obtain ⟨_, h⟩ := val_tst h; obtain ⟨_, h⟩ := val_tst h; obtain ⟨_, h⟩ := val_tst h; cases val_ret h; trivial) h) h
theorem sliceL_wf {e : Ty} {l : List (El e)} {lo hi : Option AV} {av : AV} (h : (sliceL e l lo hi).val = some av) (bx : List (Nat × Bx)) : avWf bx av := by
  have key : ∀ {a : AV} {K : Int → Tree AV}, (∀ n, (K n).val = some av → avWf bx av) → (withInt a K).val = some av → avWf bx av := by
    intro a K hK h
    unfold withInt at h
    split at h
    · exact hK _ h
    · exact (val_fail h).elim
  cases lo <;> cases hi <;> simp only [sliceL] at h
  · cases val_ret h; trivial
  · exact key (fun n h => by obtain ⟨_, h⟩ := val_tst h; obtain ⟨_, h⟩ := val_tst h; cases val_ret h; trivial) h
  · exact key (fun n h => by obtain ⟨_, h⟩ := val_tst h; obtain ⟨_, h⟩ := val_tst h; cases val_ret h; trivial) h
  · exact key (fun n h => key (fun n h => by obtain ⟨_, h⟩ := val_tst h; obtain ⟨_, h⟩ := val_tst h; obtain ⟨_, h⟩ := val_tst h; cases val_ret h; trivial) h) h
theorem loadA_wf {t : Nat} {bx : List (Nat × Bx)} {p av : AV} (h : (loadA T t bx p).val = some av) : avWf bx av := by
  unfold loadA at h
  split at h
  · split at h
    · obtain ⟨y, hy, e⟩ := Option.map_eq_some_iff.1 (val_opt h); cases e; trivial
    · exact (val_fail h).elim
  · split at h
    · obtain ⟨y, hy, e⟩ := Option.map_eq_some_iff.1 (val_opt h); cases e; trivial
    · exact (val_fail h).elim
  · obtain ⟨y, hy, e⟩ := Option.map_eq_some_iff.1 (val_opt h); cases e; trivial
  · obtain ⟨y, hy, e⟩ := Option.map_eq_some_iff.1 (val_opt h); cases e; trivial
  · exact (val_fail h).elim
theorem nzAV_wf {z : List (Nat × TE)} {i : Nat} {av : AV} {bx : List (Nat × Bx)} (h : avWf bx av) : avWf bx (nzAV z i av) := by
  cases av <;> exact h
theorem tupNth_wf : ∀ {t : Ty} {x : El t} {n : Nat} {av : AV} {bx : List (Nat × Bx)}, tupNth t x n = some av → avWf bx av := by
  intro t
  induction t with
  | cons a b _ ihb =>
    intro x n av bx h
    cases n with
    | zero => cases h; trivial
    | succ n => exact ihb h
  | _ => intro x n av bx h; unfold tupNth at h; cases h
theorem buildA_wf {pl : Nat → Option (Nat × Nat)} {t : Ty} : ∀ {l : List (Nat × AV)} {x : El t} {g : List TE} {av : AV} {bx : List (Nat × Bx)}, buildA T pl t l x g = some av → avWf bx av
  | [], x, g, av, bx, h => by cases h; trivial
  | (j, a) :: r, x, g, av, bx, h => by
    unfold buildA at h
    split at h
    · cases h
    · split at h
      · cases h
      · split at h
        · cases h
        · exact buildA_wf h
/-- A string out of bytes that lie in a row. -/
theorem bytes_run {src dst e : Nat} (hs : P.underlying src = some (.slice e)) (he : P.underlying e = some (.int .u8)) (hd : P.underlying dst = some .string) {b o n c : Nat} {xs : List Int} (hn : xs.length = n)
    (hc : ∀ j x, xs[j]? = some x → w.cell? ⟨b, o + j, none⟩ = some (.int .u8 x)) : (convert src dst (.slice (some ⟨b, o, none⟩) n c)).run P w = .ok (.string (strOfNums xs)) w :=
  run_convert_bytes_arg w src e hs he b o n c xs hn (fun i hi => by
    have := hc i _ (List.getElem?_eq_getElem (by omega))
    rw [this, List.getD_eq_getElem?_getD, List.getElem?_eq_getElem (by omega)]
    rfl) dst hd
theorem rep_u8 {x : Int} {ds : List Value} (h : RepC F w (.int .u8) x ds) : ds = [.int .u8 x] := h
theorem bytes_nil {src dst e : Nat} (hs : P.underlying src = some (.slice e)) (he : P.underlying e = some (.int .u8)) (hd : P.underlying dst = some .string) (A : Option Addr) (c : Nat) : (convert src dst (.slice A 0 c)).run P w = .ok (.string (strOfNums [])) w := by
  rw [run_convert_bytes_string w src dst e A 0 c hs he hd]
  cases A with
  | none => rfl
  | some a =>
    rw [run_bytesToString w a 0 c [] (run_loadCells_list (P := P) w a [] (fun j v hj => by simp at hj))]
    rfl
theorem gop_sound (hT : TabOk P T) {o : Oper} {ev : Operand → AV} {cv : Operand → Value} {bx : List (Nat × Bx)} (he : ∀ x, RepA F w B γ ρ (ev x) (cv x)) (hb : ∀ b x, (b, x) ∈ bx → BxOk F w B γ ρ b x) (hw : ∀ x, avWf bx (ev x)) {av : AV}
    (h : (gop T o.op o.type ev bx).val = some av) : ∃ z, (execOp cv o).run P w = .ok (.value z) w ∧ RepA F w B γ ρ av z ∧ avWf bx av := by
  obtain ⟨dst, op, ty, pos, after, guard⟩ := o
  simp only at h
  unfold gop at h
  split at h
  · rename_i x
    cases val_ret h
    exact ⟨cv x, rfl, fixA_sound (he x), fixA_wf (hw x)⟩
  · rename_i x
    cases val_ret h
    exact ⟨cv x, rfl, fixA_sound (he x), fixA_wf (hw x)⟩
  · rename_i c a b
    obtain ⟨q, hq, h1⟩ := brA_sound (he c) h
    cases q with
    | true =>
      rw [if_pos rfl] at h1
      cases val_ret h1
      exact ⟨cv a, by simp [execOp, hq, asBool], fixA_sound (he a), fixA_wf (hw a)⟩
    | false =>
      rw [if_neg (by simp)] at h1
      cases val_ret h1
      exact ⟨cv b, by simp [execOp, hq, asBool], fixA_sound (he b), fixA_wf (hw b)⟩
  · rename_i u _ x
    obtain ⟨z, h1, h2⟩ := unA_sound (P := P) (w := w) (he x) h
    exact ⟨z, v_of h1, h2, unA_wf h bx⟩
  · rename_i b xt x y _
    split at h
    · rename_i hd
      obtain ⟨z, h1, h2⟩ := eqB_sound (P := P) (w := w) ((hT.row (row_ne hd (by simp))).bool hd) x y (he x) (he y) h
      exact ⟨z, v_of h1, h2, eqB_wf h bx⟩
    · split at h
      · rename_i hm
        obtain ⟨z, h1, h2, c, hc⟩ := eqS_sound (P := P) (w := w) hT hm x y (he x) (he y) h
        exact ⟨z, v_of h1, h2, by rw [hc]; trivial⟩
      · obtain ⟨z, h1, h2⟩ := binA_sound (P := P) (w := w) xt x y (he x) (he y) h
        exact ⟨z, v_of h1, h2, binA_wf h bx⟩
  · rename_i src dst x
    split at h
    · rename_i k1 k2 k3 n g e1 e2 e3
      cases val_ret h
      have hx := he x
      rw [e3] at hx
      have := (hT.row (row_ne e1 (by simp))).int e1
      have h2 := (hT.row (row_ne e2 (by simp))).int e2
      refine ⟨.int k2 (k2.wrap n), ?_, by rw [wrapK_eq]; exact i_ret, trivial⟩
      refine v_of ?_
      rw [rep_int hx.1]
      unfold convert
      simp [run_underlying this.1, run_underlying h2.1, Conv.intToInt]
    · rename_i s g e1 e2 e3
      cases val_ret h
      have hx := he x
      rw [e3] at hx
      have := (hT.row (row_ne e1 (by simp))).str e1
      have h2 := (hT.row (row_ne e2 (by simp))).str e2
      refine ⟨.string s, ?_, mk_a mk_str, trivial⟩
      refine v_of ?_
      rw [rep_str hx.1]
      unfold convert
      simp [run_underlying this.1, run_underlying h2.1]
    · rename_i e l g e1 e2 e3
      split at h
      · rename_i hc
        cases val_ret h
        have hx := he x
        rw [e3] at hx
        obtain ⟨hu, q2, q3, q4⟩ := (hT.row (row_ne e1 (by simp))).sl e1
        have hd := ((hT.row (row_ne e2 (by simp))).str e2).1
        have hu8 := ((hT.row (row_ne hc.2 (by simp))).int hc.2).1
        obtain ⟨A, c, h1, h2, h3⟩ := rep_sl hx.1
        refine ⟨_, v_of ?_, mk_a mk_str, trivial⟩
        rw [h1]
        rcases Nat.eq_zero_or_pos l.length with q | q
        · have : l = [] := List.length_eq_zero_iff.1 q
          subst this
          exact bytes_nil hu hu8 hd A c
        · obtain ⟨b, o, rfl, _, h4⟩ := h3 q
          refine bytes_run hu hu8 hd rfl (fun j y hj => ?_)
          obtain ⟨ds, k1, k2⟩ := h4 j y hj
          have := k2 0 (.int .u8 y) (by rw [rep_u8 k1]; rfl)
          simpa [show (Ty.int IntKind.u8).size = 1 from rfl] using this
      · exact (val_fail h).elim
    · rename_i e b lo n e1 e2 e3
      split at h
      · rename_i hc
        split at h
        · rename_i l hl
          cases val_ret h
          have hx := he x
          rw [e3] at hx
          have hwx := hw x
          rw [e3] at hwx
          obtain ⟨hu, q2, q3, q4⟩ := (hT.row (row_ne e1 (by simp))).sl e1
          have hd := ((hT.row (row_ne e2 (by simp))).str e2).1
          have hu8 := ((hT.row (row_ne hc (by simp))).int hc).1
          obtain ⟨ety, m, cs, tid, _, hm, h4, h5, h6, h7, h8⟩ := rowOf_ok hb hl
          have hle := hwx _ hm
          obtain ⟨o, c, h1, h2, h3⟩ := hx
          have hlen : ((l.drop lo).take n).length = n := by rw [List.length_take, List.length_drop]; omega
          refine ⟨_, v_of ?_, mk_a mk_str, trivial⟩
          rw [h1]
          rcases Nat.eq_zero_or_pos n with q | q
          · subst q
            rw [List.take_zero]
            exact bytes_nil hu hu8 hd _ c
          · rw [h3 q]
            refine bytes_run hu hu8 hd hlen (fun j y hj => ?_)
            rw [List.getElem?_take] at hj
            split at hj
            · rw [List.getElem?_drop] at hj
              obtain ⟨ds, k1, k2⟩ := h5.2 _ y hj
              have := k2 0 (.int .u8 y) (by rw [rep_u8 k1]; rfl)
              rw [block_cell (off := 0) h4]
              simpa [Ty.size, Nat.add_mul] using this
            · cases hj
        · exact (val_fail h).elim
      · exact (val_fail h).elim
    · rename_i e b n e1 e2 e3
      split at h
      · rename_i hc
        split at h
        · rename_i l hl
          cases val_ret h
          have hx := he x
          rw [e3] at hx
          have hwx := hw x
          rw [e3] at hwx
          obtain ⟨hu, q2, q3, q4⟩ := (hT.row (row_ne e1 (by simp))).sl e1
          have hd := ((hT.row (row_ne e2 (by simp))).str e2).1
          have hu8 := ((hT.row (row_ne hc (by simp))).int hc).1
          obtain ⟨ety, m, cs, tid, _, hm, h4, h5, h6, h7, h8⟩ := rowOf_ok hb hl
          have hle := hwx _ hm
          refine ⟨_, v_of ?_, mk_a mk_str, trivial⟩
          rw [show cv x = _ from hx]
          refine bytes_run hu hu8 hd (by omega) (fun j y hj => ?_)
          obtain ⟨ds, k1, k2⟩ := h5.2 _ y hj
          have := k2 0 (.int .u8 y) (by rw [rep_u8 k1]; rfl)
          rw [block_cell (off := 0) h4]
          simpa [Ty.size] using this
        · exact (val_fail h).elim
      · exact (val_fail h).elim
    · exact (val_fail h).elim
  · rename_i t a
    split at h
    · exact (val_fail h).elim
    · rename_i hd
      obtain ⟨z, h1, h2⟩ := loadA_sound hT hd hb (he a) (hw a) h
      exact ⟨z, v_of h1, h2, loadA_wf h⟩
  · rename_i st x f
    split at h
    · rename_i fty off hf
      split at h
      · exact (val_fail h).elim
      · rename_i hd
        have hd1 : (T.ty fty).size ≠ 0 := fun q => hd (.inl q)
        have hd2 : (T.row fty).d ≠ .other := fun q => hd (.inr q)
        have hx := he x
        split at h
        · rename_i b o e
          cases val_ret h
          rw [e] at hx
          refine ⟨_, v_of ?_, rfl, trivial⟩
          rw [show cv x = _ from hx]
          exact fieldAt_run hT hf hd1 hd2 _ _
        · rename_i t l i o e
          cases val_ret h
          rw [e] at hx
          obtain ⟨b, q, y, ds, h1, h2, h3, h4, h5⟩ := hx
          refine ⟨_, v_of (by rw [h1]; exact fieldAt_run hT hf hd1 hd2 _ _), ⟨b, q, y, ds, ?_, h2, h3, h4, h5⟩, trivial⟩
          rw [Nat.add_assoc]
        · rename_i e2 b i o e
          cases val_ret h
          have hwx := hw x
          rw [e] at hx hwx
          refine ⟨.pointer (some ⟨γ b, i * e2.size + o + off, none⟩), v_of ?_, ?_, hwx⟩
          · rw [show cv x = _ from hx]
            exact fieldAt_run hT hf hd1 hd2 _ _
          · show Value.pointer _ = Value.pointer _
            rw [Nat.add_assoc]
        · rename_i u y g e
          cases val_ret h
          rw [e] at hx
          obtain ⟨⟨ds0, ⟨b, q, ds, rfl, h4, h3, h5⟩, hv⟩, _⟩ := hx
          refine ⟨_, v_of (by rw [hv]; exact fieldAt_run hT hf hd1 hd2 _ _), ⟨b, q, y, ds, ?_, rfl, ?_, h4, ?_⟩, trivial⟩
          · rw [Nat.zero_mul, Nat.add_zero]
          · simpa using h3
          · intro j z hz
            rw [Nat.zero_mul, Nat.add_zero]
            exact h5 j z hz
        · exact (val_fail h).elim
    · exact (val_fail h).elim
  · rename_i st x f
    split at h
    · rename_i fty off hf
      split at h
      · exact (val_fail h).elim
      · rename_i hd
        split at h
        · rename_i y g e
          obtain ⟨z, hz, q⟩ := Option.map_eq_some_iff.1 (val_opt h)
          cases q
          obtain ⟨hv, hg⟩ := AV.as_rep (he x) e
          obtain ⟨cs, h1, h2⟩ := hv
          obtain ⟨l, fd, q1, q2, q3, q4, q5⟩ := (hT.row (fld_row hf)).fld hf
          obtain ⟨r1, r2⟩ := subEl_rep h1 hz
          have hl := h1.len
          refine ⟨pack (T.ty fty) ((cs.drop off).take (T.ty fty).size), v_of ?_, ⟨⟨_, r1, rfl⟩, ?_⟩, trivial⟩
          · have := (hT.row hd).part (w := w) (cs := cs) (off := off) (by omega)
            unfold Instr.field
            rw [h2, pack_agg q5]
            simp only [Sem.run_bind, run_underlying q1, Result.andThen_ok, q2, asAgg, Sem.run_pure, q3, q4]
            exact this
          · rw [pack_cells r1]
            rw [h2, pack_cells h1] at hg
            exact subG_ok hg off _
        · exact (val_fail h).elim
    · exact (val_fail h).elim
  · rename_i xt x i
    split at h
    · rename_i e l g ex
      split at h
      · rename_i hd
        obtain ⟨hd, ht⟩ := hd
        obtain ⟨k, n, hi, h1⟩ := withInt_sound (he i) h
        obtain ⟨c1, h1⟩ := val_tst h1
        obtain ⟨c2, h2⟩ := val_tst h1
        cases val_ret h2
        have hx := he x
        rw [ex] at hx
        obtain ⟨hu, q2, q3, q4⟩ := (hT.row (row_ne hd (by simp))).sl hd
        rw [ht] at q2
        cases q2
        obtain ⟨b, o, c, h3, h4⟩ := elt_at (B := B) (γ := γ) (ρ := ρ) hx.1 n.toNat (by omega)
        refine ⟨_, v_of ?_, h4, trivial⟩
        rw [h3, hi, run_indexAt_slice _ _ _ _ _ _ _ (elem_eq hu)]
        have hel : P.elem xt = slE T xt := by simp [Program.elem, hu]
        rw [if_pos ⟨c1, c2⟩, hel, (hT.row q3).sizeOf w]
        simp [add_at]
      · exact (val_fail h).elim
    · rename_i e b n ex
      split at h
      · rename_i hd
        obtain ⟨hd, ht⟩ := hd
        obtain ⟨k, m, hi, h1⟩ := withInt_sound (he i) h
        obtain ⟨c1, h1⟩ := val_tst h1
        obtain ⟨c2, h2⟩ := val_tst h1
        cases val_ret h2
        have hx := he x
        have hwx := hw x
        rw [ex] at hx hwx
        obtain ⟨hu, q2, q3, q4⟩ := (hT.row (row_ne hd (by simp))).sl hd
        rw [ht] at q2
        cases q2
        refine ⟨_, v_of ?_, rfl, fun m1 hm => by have := hwx m1 hm; omega⟩
        rw [show cv x = _ from hx, hi, run_indexAt_slice _ _ _ _ _ _ _ (elem_eq hu)]
        have hel : P.elem xt = slE T xt := by simp [Program.elem, hu]
        rw [if_pos ⟨c1, c2⟩, hel, (hT.row q3).sizeOf w]
        simp [add_at]
      · exact (val_fail h).elim
    · rename_i e b lo n ex
      split at h
      · rename_i hd
        obtain ⟨hd, ht⟩ := hd
        obtain ⟨k, m, hi, h1⟩ := withInt_sound (he i) h
        obtain ⟨c1, h1⟩ := val_tst h1
        obtain ⟨c2, h2⟩ := val_tst h1
        cases val_ret h2
        have hx := he x
        have hwx := hw x
        rw [ex] at hx hwx
        obtain ⟨hu, q2, q3, q4⟩ := (hT.row (row_ne hd (by simp))).sl hd
        rw [ht] at q2
        cases q2
        obtain ⟨o, c, h3, h4, h5⟩ := hx
        refine ⟨_, v_of ?_, rfl, fun m1 hm => by have := hwx m1 hm; omega⟩
        rw [h3, hi, run_indexAt_slice _ _ _ _ _ _ _ (elem_eq hu)]
        have hel : P.elem xt = slE T xt := by simp [Program.elem, hu]
        rw [if_pos ⟨c1, c2⟩, hel, (hT.row q3).sizeOf w, h5 (by omega)]
        simp [add_at, Nat.add_mul]
      · exact (val_fail h).elim
    · rename_i b o ex
      split at h
      · rename_i n e hd
        have hd := isArr_eq hd
        have hx := he x
        rw [ex] at hx
        obtain ⟨hu, q2, q3, q4⟩ := (hT.row (row_ne hd (by simp))).arr hd
        have hel : P.elem xt = e := by simp [Program.elem, hu]
        have hal : P.arrayLen xt = n := by simp [Program.arrayLen, hu]
        split at h
        · rename_i ety e1 n1 l hl
          split at h
          · rename_i hc
            obtain ⟨hc1, hc2, hc3⟩ := hc
            subst hc1 hc2 hc3
            obtain ⟨k, m, hi, h1⟩ := withInt_sound (he i) h
            obtain ⟨c1, h1⟩ := val_tst h1
            obtain ⟨c2, h2⟩ := val_tst h1
            cases val_ret h2
            obtain ⟨_, _, _, cs0, tid0, k5, _⟩ := hb b _ (lookup_mem hl)
            refine ⟨_, v_of ?_, rfl, fun m2 hm => ?_⟩
            · rw [show cv x = _ from hx, hi, run_indexAt_array _ _ _ _ _ (by rw [hel, hal]; exact hu), hal, if_pos ⟨c1, c2⟩, hel, (hT.row q3).sizeOf w]
              simp [add_at]
            · unfold rowN at hm
              rw [hl] at hm
              cases hm
              omega
          · exact (val_fail h).elim
        · obtain ⟨k, m, hi, h1⟩ := withInt_sound (he i) h
          obtain ⟨c1, h1⟩ := val_tst h1
          obtain ⟨c2, h2⟩ := val_tst h1
          cases val_ret h2
          refine ⟨_, v_of ?_, rfl, trivial⟩
          rw [show cv x = _ from hx, hi, run_indexAt_array _ _ _ _ _ (by rw [hel, hal]; exact hu), hal, if_pos ⟨c1, c2⟩, hel, (hT.row q3).sizeOf w]
          simp [add_at]
      · exact (val_fail h).elim
    · exact (val_fail h).elim
  · rename_i xt x i
    split at h
    · rename_i n e hd
      have hd := isArr_eq hd
      obtain ⟨hu, q2, q3, q4⟩ := (hT.row (row_ne hd (by simp))).arr hd
      split at h
      · rename_i y g hy
        obtain ⟨k, m, hi, h1⟩ := withInt_sound (he i) h
        obtain ⟨c1, h1⟩ := val_tst h1
        obtain ⟨c2, h2⟩ := val_tst h1
        cases val_ret h2
        obtain ⟨⟨cs, r1, r2⟩, _⟩ := AV.as_rep (he x) hy
        obtain ⟨r3, r4⟩ := arr_row r1
        have hm : m.toNat < (arrL (T.ty e) n y).length := by rw [r4]; omega
        obtain ⟨ds, k1, k2⟩ := r3.2 m.toNat _ (List.getElem?_eq_getElem hm)
        have hle : m.toNat * (T.ty e).size + (T.ty e).size ≤ n * (T.ty e).size := by rw [← Nat.succ_mul]; exact Nat.mul_le_mul_right _ (by omega)
        have hlen : cs.length = n * (T.ty e).size := by rw [r3.1, r4]
        have hp := (hT.row q3).part (w := w) (cs := cs) (off := m.toNat * (T.ty e).size) (by omega)
        have hcut : (cs.drop (m.toNat * (T.ty e).size)).take (T.ty e).size = ds := by
          apply List.ext_getElem?
          intro z
          rw [List.getElem?_take]
          split
          · rename_i hz
            rw [List.getElem?_drop]
            have hz2 : z < ds.length := by rw [k1.len]; exact hz
            rw [k2 z _ (List.getElem?_eq_getElem hz2), List.getElem?_eq_getElem hz2]
          · rename_i hz
            rw [List.getElem?_eq_none (by rw [k1.len]; omega)]
        rw [hcut] at hp
        refine ⟨_, v_of ?_, mk_a ⟨ds, ?_, rfl⟩, trivial⟩
        · rw [r2, pack_agg (rep_agg _ _), hi]
          unfold Instr.index
          simp only [asIntOf, Sem.run_bind, Sem.run_pure, Result.andThen_ok, run_underlying hu]
          rw [if_pos ⟨c1, c2⟩]
          simp only [Sem.run_bind, (hT.row q3).sizeOf w, Result.andThen_ok]
          exact hp
        · rw [List.getD_eq_getElem?_getD, List.getElem?_eq_getElem hm]
          exact k1
      · exact (val_fail h).elim
    · split at h
      · rename_i s g ex
        split at h
        · rename_i hd
          obtain ⟨k, n, hi, h1⟩ := withInt_sound (he i) h
          obtain ⟨c1, h1⟩ := val_tst h1
          obtain ⟨c2, h2⟩ := val_tst h1
          cases val_ret h2
          have hx := he x
          rw [ex] at hx
          have hu := ((hT.row (row_ne hd (by simp))).str hd).1
          refine ⟨.int .u8 (btS s n), v_of ?_, i_ret, trivial⟩
          rw [rep_str hx.1, hi, run_index_string _ _ _ _ _ hu]
          have hlt : n.toNat < s.size := by omega
          unfold btS
          rw [dif_pos hlt, dif_pos ⟨c1, c2⟩]
        · exact (val_fail h).elim
      · exact (val_fail h).elim
  · rename_i xt x hh mm
    split at h
    · rename_i e e1 l g hz ht ex
      split at h
      · rename_i hd
        obtain ⟨hd, he1⟩ := hd
        subst he1
        cases val_ret h
        rw [Bool.and_eq_true] at hz
        have zero : ∀ y, isZero (some (ev y)) = true → ∃ k, cv y = .int k 0 := by
          intro y hy
          unfold isZero at hy
          split at hy
          · rename_i k gg e0
            have hy2 := he y
            rw [Option.some.inj e0] at hy2
            exact ⟨k, rep_int hy2.1⟩
          · cases hy
        obtain ⟨k1, z1⟩ := zero hh hz.1
        obtain ⟨k2, z2⟩ := zero mm hz.2
        have hx := he x
        rw [ex] at hx
        obtain ⟨hu, q2, q3, q4⟩ := (hT.row (row_ne hd (by simp))).sl hd
        obtain ⟨A, c, r1, r2, r3⟩ := rep_sl hx.1
        have hx1 := elem_eq hu
        refine ⟨.slice A 0 0, v_of ?_, ⟨⟨_, ⟨A, 0, rfl, Nat.le_refl _, fun q => absurd q (by simp)⟩, rfl⟩, fun te hte => ?_⟩, trivial⟩
        · rw [r1]
          simp only [Option.map_none, Option.map_some, z1, z2]
          rw [run_sliceAt_slice w xt _ _ _ _ hx1]
          have hs := (hT.row q3).sizeOf w
          unfold Instr.slice
          simp only [Sem.run_bind, run_underlying hu, Result.andThen_ok]
          have hb : (Instr.sliceBounds true l.length c none (some (.int k1 0)) (some (.int k2 0))).run P w = .ok (0, 0, 0) w := by
            have b1 := run_sliceBound (P := P) w k2 0 c .slice3Acap (by omega) (by omega)
            have b2 := run_sliceBound (P := P) w k1 0 0 .slice3B (by omega) (by omega)
            simp [Instr.sliceBounds, b1, b2]
          simp [hb, hs]
        · rw [List.mem_singleton.1 hte]
          exact ⟨_, rfl, .inl ⟨A, rfl⟩⟩
      · exact (val_fail h).elim
    · exact (val_fail h).elim
  · rename_i xt x lo hi
    split at h
    · rename_i n e ha
      have ha := isArr_eq ha
      split at h
      · rename_i b ex
        split at h
        · rename_i ety e1 n1 l hl
          split at h
          · rename_i hc
            obtain ⟨hc1, hc2⟩ := hc
            subst hc1 hc2
            have hx := he x
            rw [ex] at hx
            obtain ⟨ha1, q2, q3, q4⟩ := (hT.row (row_ne ha (by simp))).arr ha
            obtain ⟨z, k1, k2, k3⟩ := sliceR_sound (P := P) (run := fun lov hiv => Instr.sliceAt xt (.pointer (some ⟨γ b, 0, none⟩)) lov hiv none) (cap := n1) (o := 0) (isS := false) (bx := bx) (Nat.le_refl _) (fun _ => by rw [Nat.zero_mul]) (fun m hm => by unfold rowN at hm; rw [hl] at hm; cases hm; omega) (fun _ => rfl) (fun lov hiv L H c hb2 => run_sliceAt_arr w xt n1 e ha1 ((hT.row q3).sizeOf w) _ _ lov hiv hb2) he h
            refine ⟨z, v_of ?_, k2, k3⟩
            rw [show cv x = _ from hx]
            exact k1
          · exact (val_fail h).elim
        · exact (val_fail h).elim
      · exact (val_fail h).elim
    · split at h
      · rename_i e b n ex
        split at h
        · rename_i hd
          have hx := he x
          have hwx := hw x
          rw [ex] at hx hwx
          obtain ⟨hu, q2, q3, q4⟩ := (hT.row (row_ne hd.1 (by simp))).sl hd.1
          rw [hd.2] at q2
          cases q2
          have hx1 := elem_eq hu
          have hel : P.elem xt = slE T xt := by simp [Program.elem, hu]
          obtain ⟨z, k1, k2, k3⟩ := sliceR_sound (P := P) (run := fun lov hiv => Instr.slice xt (.slice (some ⟨γ b, 0, none⟩) n n) lov hiv none) (cap := n) (o := 0) (isS := true) (bx := bx) (γ := γ) (F := F) (B := B) (ρ := ρ) (Nat.le_refl _) (fun _ => by rw [Nat.zero_mul]) (fun m hm => by have := hwx m hm; omega) (fun _ => rfl) (fun lov hiv L H c hb2 => by
            rw [run_slice_any w xt _ n n hx1, hb2]
            simp only [Result.andThen_ok, hel, (hT.row q3).sizeOf w]
            by_cases q : c = L <;> simp [sliced, q, add_at]) he h
          refine ⟨z, v_of ?_, k2, k3⟩
          rw [show cv x = _ from hx, run_sliceAt_slice w xt _ _ _ _ hx1]
          exact k1
        · exact (val_fail h).elim
      · rename_i e b lo0 n ex
        split at h
        · rename_i hd
          have hx := he x
          have hwx := hw x
          rw [ex] at hx hwx
          obtain ⟨hu, q2, q3, q4⟩ := (hT.row (row_ne hd.1 (by simp))).sl hd.1
          rw [hd.2] at q2
          cases q2
          have hx1 := elem_eq hu
          have hel : P.elem xt = slE T xt := by simp [Program.elem, hu]
          obtain ⟨o, cc, r1, r2, r3⟩ := hx
          obtain ⟨z, k1, k2, k3⟩ := sliceR_sound (P := P) (run := fun lov hiv => Instr.slice xt (.slice (some ⟨γ b, o, none⟩) n cc) lov hiv none) (cap := cc) (o := o) (isS := true) (bx := bx) (γ := γ) (F := F) (B := B) (ρ := ρ) r2 r3 (fun m hm => by have := hwx m hm; omega) (fun q => by cases q) (fun lov hiv L H c hb2 => by
            rw [run_slice_any w xt _ n cc hx1, hb2]
            simp only [Result.andThen_ok, hel, (hT.row q3).sizeOf w]
            by_cases q : c = L <;> simp [sliced, q, add_at]) he h
          refine ⟨z, v_of ?_, k2, k3⟩
          rw [r1, run_sliceAt_slice w xt _ _ _ _ hx1]
          exact k1
        · exact (val_fail h).elim
      · rename_i s g ex
        split at h
        · rename_i hd
          have hx := he x
          rw [ex] at hx
          obtain ⟨z, h1, h2⟩ := sliceS_sound (P := P) ((hT.row (row_ne hd (by simp))).str hd).1 he h
          refine ⟨z, v_of ?_, h2, sliceS_wf h bx⟩
          rw [rep_str hx.1]
          exact h1
        · exact (val_fail h).elim
      · rename_i e l g ex
        split at h
        · rename_i hd
          have hx := he x
          rw [ex] at hx
          obtain ⟨z, h1, h2⟩ := sliceL_sound hT hd.1 hd.2 hx.1 he h
          exact ⟨z, v_of h1, h2, sliceL_wf h bx⟩
        · exact (val_fail h).elim
      · exact (val_fail h).elim
  · rename_i t ix
    split at h
    · rename_i u x ex
      have hx := he t
      rw [ex] at hx
      obtain ⟨vs, h1, h2⟩ := hx
      obtain ⟨av0, ht, rfl⟩ := Option.map_eq_some_iff.1 (val_opt h)
      obtain ⟨v, h3, h4⟩ := tupNth_sound (B := B) (γ := γ) (ρ := ρ) h2.1 ht
      refine ⟨v, v_of ?_, nzAV_rep h2.2 h3 h4, nzAV_wf (tupNth_wf ht)⟩
      rw [h1]
      unfold Instr.extract
      simp [h3]
    · exact (val_fail h).elim
  · rename_i t parts
    split at h
    · exact (val_fail h).elim
    · rename_i hd
      obtain ⟨z, h1, h2⟩ := build_sound hT (by simpa using hd) he (val_opt h)
      exact ⟨z, v_of h1, h2, buildA_wf (val_opt h)⟩
  · rename_i x
    split at h
    · rename_i b o ex
      cases val_ret h
      have hx := he x
      rw [ex] at hx
      refine ⟨_, ?_, rfl, trivial⟩
      simp only [execOp]
      rw [show cv x = _ from hx]
      rfl
    · rename_i u y g ex
      cases val_ret h
      have hx := he x
      rw [ex] at hx
      refine ⟨cv x, ?_, hx, trivial⟩
      obtain ⟨⟨ds0, ⟨b, q, ds, rfl, h4, h3, h5⟩, hv⟩, _⟩ := hx
      simp only [execOp]
      rw [hv]
      rfl
    · exact (val_fail h).elim
  · rename_i c
    split at h
    · rename_i x t e1 e2 e3
      have hx := he x
      have a1 : c.args = #[x] := Array.toList_inj.1 (by rw [e2])
      have a2 : c.argTypes = #[t] := Array.toList_inj.1 (by rw [e3])
      split at h
      · rename_i e l g ex
        split at h
        · rename_i hd
          cases val_ret h
          rw [ex] at hx
          obtain ⟨A, k, h1, h2, h3⟩ := rep_sl hx.1
          obtain ⟨hu, _⟩ := (hT.row (row_ne hd (by simp))).sl hd
          refine ⟨_, ?_, i_ret, trivial⟩
          simp [execOp, resolve, e1, invoke, builtin, a1, a2, h1, run_len_slice w _ _ _ _ _ (elem_eq hu), goInt]
        · exact (val_fail h).elim
      · rename_i s g ex
        split at h
        · rename_i hd
          cases val_ret h
          rw [ex] at hx
          have hu := ((hT.row (row_ne hd (by simp))).str hd).1
          refine ⟨_, ?_, i_ret, trivial⟩
          simp [execOp, resolve, e1, invoke, builtin, a1, a2, rep_str hx.1, run_len_string w _ _ _ hu, goInt]
        · exact (val_fail h).elim
      · rename_i e b n ex
        split at h
        · rename_i hd
          cases val_ret h
          rw [ex] at hx
          obtain ⟨hu, _⟩ := (hT.row (row_ne hd (by simp))).sl hd
          refine ⟨_, ?_, i_ret, trivial⟩
          simp [execOp, resolve, e1, invoke, builtin, a1, a2, show cv x = _ from hx, run_len_slice w _ _ _ _ _ (elem_eq hu), goInt]
        · exact (val_fail h).elim
      · rename_i e b lo n ex
        split at h
        · rename_i hd
          cases val_ret h
          rw [ex] at hx
          obtain ⟨o, c, h1, h2, h3⟩ := hx
          obtain ⟨hu, _⟩ := (hT.row (row_ne hd (by simp))).sl hd
          refine ⟨_, ?_, i_ret, trivial⟩
          simp [execOp, resolve, e1, invoke, builtin, a1, a2, h1, run_len_slice w _ _ _ _ _ (elem_eq hu), goInt]
        · exact (val_fail h).elim
      · exact (val_fail h).elim
    · rename_i x y e1 e2
      have a1 : c.args = #[x, y] := Array.toList_inj.1 (by rw [e2])
      split at h
      · rename_i k m g k' n g' ex ey
        split at h
        · cases val_ret h
          have hx := he x
          have hy := he y
          rw [ex] at hx
          rw [ey] at hy
          refine ⟨_, ?_, i_ret, trivial⟩
          simp [execOp, resolve, e1, invoke, builtin, a1, rep_int hx.1, rep_int hy.1, Builtin.max_, Builtin.max2]
        · exact (val_fail h).elim
      · exact (val_fail h).elim
    · rename_i x y e1 e2
      have a1 : c.args = #[x, y] := Array.toList_inj.1 (by rw [e2])
      split at h
      · rename_i k m g k' n g' ex ey
        split at h
        · cases val_ret h
          have hx := he x
          have hy := he y
          rw [ex] at hx
          rw [ey] at hy
          refine ⟨_, ?_, i_ret, trivial⟩
          simp [execOp, resolve, e1, invoke, builtin, a1, rep_int hx.1, rep_int hy.1, Builtin.min_, Builtin.min2]
        · exact (val_fail h).elim
      · exact (val_fail h).elim
    · exact (val_fail h).elim
  · exact (val_fail h).elim
end
end Go.Sym
end
section
namespace Go.Sym
open Go.RowKit
set_option linter.unusedVariables false
set_option linter.unusedSimpArgs false

def killAV (d : Nat) : AV → AV
  | .ptr b o => if b = d then .junk else .ptr b o
  | .mw e b n => if b = d then .junk else .mw e b n
  | .mr e b lo n => if b = d then .junk else .mr e b lo n
  | .mel e b i o => if b = d then .junk else .mel e b i o
  | av => av
/-- The variable of an elder round goes. -/
def St.kill (s : St) (d : Nat) : St := { s with slots := s.slots.map (killAV d), boxes := s.boxes.filter fun p => p.1 != d }
def St.newBox (s : St) (d : Nat) (bx : Bx) : St := { s.kill d with boxes := (d, bx) :: (s.kill d).boxes }
section
variable {M : Nat → Prop} {w0 w w1 : World} {F0 F F1 : Nat → Nat} {γ γ1 : Nat → Nat} {ρ ρ1 : Nat → Option Nat} {s : St} {a : Act} {B : Nat → Prop} {cs : List Value} {tid : Nat} {t : Ty} {x : El t}
theorem rowN_filter {bx : List (Nat × Bx)} {b d : Nat} (h : b ≠ d) : rowN (bx.filter fun p => p.1 != d) b = rowN bx b := by
  have : (bx.filter fun p => p.1 != d).lookup b = bx.lookup b := by
    induction bx with
    | nil => rfl
    | cons p r ih =>
      by_cases c : p.1 = d
      · rw [List.filter_cons_of_neg (by simpa using c), ih, List.lookup_cons]
        have : (b == p.1) = false := by rw [beq_eq_false_iff_ne, c]; exact h
        rw [this]
      · rw [List.filter_cons_of_pos (by simpa using c), List.lookup_cons, List.lookup_cons, ih]
  unfold rowN
  rw [this]
theorem killAV_wf {d : Nat} {bx : List (Nat × Bx)} {av : AV} (h : avWf bx av) : avWf (bx.filter fun p => p.1 != d) (killAV d av) := by
  cases av with
  | ptr b o =>
    show avWf _ (if b = d then AV.junk else AV.ptr b o)
    split <;> trivial
  | mw e b n =>
    show avWf _ (if b = d then AV.junk else AV.mw e b n)
    split
    · trivial
    · rename_i q
      intro m hm
      exact h m (by rw [← rowN_filter q]; exact hm)
  | mr e b lo n =>
    show avWf _ (if b = d then AV.junk else AV.mr e b lo n)
    split
    · trivial
    · rename_i q
      intro m hm
      exact h m (by rw [← rowN_filter q]; exact hm)
  | mel e b i o =>
    show avWf _ (if b = d then AV.junk else AV.mel e b i o)
    split
    · trivial
    · rename_i q
      intro m hm
      exact h m (by rw [← rowN_filter q]; exact hm)
  | _ => trivial
theorem killAV_rep {d : Nat} (hγ : ∀ b, b ≠ d → γ1 b = γ b) {av : AV} {v : Value} (h : RepA F w B γ ρ av v) : RepA F w B γ1 ρ (killAV d av) v := by
  cases av with
  | ptr b o =>
    by_cases q : b = d
    · rw [show killAV d (.ptr b o) = .junk from if_pos q]
      trivial
    · rw [show killAV d (.ptr b o) = .ptr b o from if_neg q]
      show v = _
      rw [hγ b q]
      exact h
  | mw e b n =>
    by_cases q : b = d
    · rw [show killAV d (.mw e b n) = .junk from if_pos q]
      trivial
    · rw [show killAV d (.mw e b n) = .mw e b n from if_neg q]
      show v = _
      rw [hγ b q]
      exact h
  | mr e b lo n =>
    by_cases q : b = d
    · rw [show killAV d (.mr e b lo n) = .junk from if_pos q]
      trivial
    · rw [show killAV d (.mr e b lo n) = .mr e b lo n from if_neg q]
      show ∃ o c, v = _ ∧ _
      rw [hγ b q]
      exact h
  | mel e b i o =>
    by_cases q : b = d
    · rw [show killAV d (.mel e b i o) = .junk from if_pos q]
      trivial
    · rw [show killAV d (.mel e b i o) = .mel e b i o from if_neg q]
      show v = _
      rw [hγ b q]
      exact h
  | _ => exact h
theorem BxOk.ga {b : Nat} {bx : Bx} (e : γ1 b = γ b) (h : BxOk F w B γ ρ b bx) : BxOk F w B γ1 ρ b bx := by
  unfold BxOk at h ⊢
  rw [e]
  exact h
theorem RelG.kill (h : RelG M w0 F0 F γ ρ s a w) (d : Nat) (hγ : ∀ b, b ≠ d → γ1 b = γ b) : RelG M w0 F0 F γ1 ρ (s.kill d) a w where
  defers := h.defers
  below := h.below
  fold := h.fold
  ext := h.ext
  fin := h.fin
  len := by simp only [St.kill, List.length_map]; exact h.len
  slot i av hi := by
    simp only [St.kill, List.getElem?_map, Option.map_eq_some_iff] at hi
    obtain ⟨av0, h1, rfl⟩ := hi
    exact killAV_rep hγ (h.slot i av0 h1)
  box b bx hb := by
    simp only [St.kill, List.mem_filter, bne_iff_ne] at hb
    exact (h.box b bx hb.1).ga (hγ b hb.2)
  boxinj b b1 y y1 h1 h2 e := by
    simp only [St.kill, List.mem_filter, bne_iff_ne] at h1 h2
    exact h.boxinj b b1 y y1 h1.1 h2.1 (by rw [← hγ b h1.2, ← hγ b1 h2.2]; exact e)
  rowlt := h.rowlt
  rowinj := h.rowinj
  rowused := h.rowused
  wf av hi := by
    simp only [St.kill, List.mem_map] at hi
    obtain ⟨av0, h1, rfl⟩ := hi
    exact killAV_wf (h.wf av0 h1)
theorem alloc_grow (hf : ∀ b, 0 < F b → b < w.heap.size) (o : Obj) (n : Nat) : Grow F w (fun b => if b = w.heap.size then n else F b) (w.alloc o) :=
  ⟨(Below.refl _ _).alloc (Nat.le_refl _) o, fun b hb => if_neg (by omega)⟩
theorem alloc_fin (hf : ∀ b, 0 < F b → b < w.heap.size) (o : Obj) (n : Nat) : ∀ b, 0 < (fun b => if b = w.heap.size then n else F b) b → b < (w.alloc o).heap.size := fun b hb => by
  simp only at hb
  rw [World.size_alloc]
  split at hb
  · omega
  · have := hf b hb
    omega
theorem F_new (hf : ∀ b, 0 < F b → b < w.heap.size) : F w.heap.size = 0 := by
  rcases Nat.eq_zero_or_pos (F w.heap.size) with h | h
  · exact h
  · exact absurd (hf _ h) (Nat.lt_irrefl _)
/-- Every slot of a state without the name d tells nothing of it. -/
theorem kill_wf {d : Nat} {X : Bx} (h : RelG M w0 F0 F γ ρ s a w) : ∀ av ∈ (s.kill d).slots, avWf ((d, X) :: (s.kill d).boxes) av := by
  intro av hi
  have h0 := hi
  simp only [St.kill, List.mem_map] at hi
  obtain ⟨av0, h1, rfl⟩ := hi
  have hw := killAV_wf (d := d) (h.wf av0 h1)
  have key : ∀ b, b ≠ d → rowN ((d, X) :: (s.kill d).boxes) b = rowN (s.kill d).boxes b := fun b hb => by
    unfold rowN
    rw [List.lookup_cons, show (b == d) = false from by rw [beq_eq_false_iff_ne]; exact hb]
  cases av0 with
  | mw e b n =>
    have hw : avWf _ (if b = d then AV.junk else AV.mw e b n) := hw
    show avWf _ (if b = d then AV.junk else AV.mw e b n)
    split
    · trivial
    · rename_i q
      rw [if_neg q] at hw
      intro m hm
      rw [key b q] at hm
      exact hw m hm
  | mr e b lo n =>
    have hw : avWf _ (if b = d then AV.junk else AV.mr e b lo n) := hw
    show avWf _ (if b = d then AV.junk else AV.mr e b lo n)
    split
    · trivial
    · rename_i q
      rw [if_neg q] at hw
      intro m hm
      rw [key b q] at hm
      exact hw m hm
  | mel e b i o =>
    have hw : avWf _ (if b = d then AV.junk else AV.mel e b i o) := hw
    show avWf _ (if b = d then AV.junk else AV.mel e b i o)
    split
    · trivial
    · rename_i q
      rw [if_neg q] at hw
      intro m hm
      rw [key b q] at hm
      exact hw m hm
  | ptr b o =>
    show avWf _ (if b = d then AV.junk else AV.ptr b o)
    split <;> trivial
  | _ => trivial
/-- A new block that is written. -/
theorem RelG.newBox0 (h : RelG M w0 F0 F γ ρ s a w) (d : Nat) {X : Bx} (hr : X.Is F w (own M w0) ρ cs tid) :
    RelG M w0 F0 F (fun b => if b = d then w.heap.size else γ b) ρ (s.newBox d X) a (w.alloc (.cells cs.toArray tid)) := by
  have hgr : Grow F w F (w.alloc (.cells cs.toArray tid)) := ⟨(Below.refl _ _).alloc (Nat.le_refl _) _, fun b hb => rfl⟩
  have hx := hgr.ext h.fin
  have h1 := (h.grow hgr (fun b hb => by rw [World.size_alloc]; have := h.fin b hb; omega)).kill (γ1 := fun b => if b = d then w.heap.size else γ b) d (fun b hb => if_neg hb)
  refine { h1 with len := h1.len, slot := h1.slot, box := ?_, boxinj := ?_, rowused := h1.rowused, wf := kill_wf h }
  · intro b bx hb
    rcases List.mem_cons.1 hb with q | q
    · cases q
      refine ⟨by simp only [if_pos]; exact .inl h.below.size, by simp only [if_pos]; exact F_new h.fin, fun n hn => ?_, cs, tid, by simp only [if_pos]; exact heap_alloc_new w _, hr.grow hgr h.fin⟩
      simp only [if_pos] at hn
      exact absurd (h.rowlt n _ hn) (Nat.lt_irrefl _)
    · exact h1.box b bx q
  · have key : ∀ b bx, (b, bx) ∈ (s.kill d).boxes → b ≠ d ∧ γ b < w.heap.size := by
      intro b bx hb
      simp only [St.kill, List.mem_filter, bne_iff_ne] at hb
      obtain ⟨_, _, _, cs1, tid1, q, _⟩ := h.box b bx hb.1
      exact ⟨hb.2, (Array.getElem?_eq_some_iff.1 q).1⟩
    intro b b1 y y1 q q1 e
    rcases List.mem_cons.1 q with c | c <;> rcases List.mem_cons.1 q1 with c1 | c1
    · cases c; cases c1; rfl
    · cases c
      obtain ⟨k1, k2⟩ := key b1 y1 c1
      simp only [if_pos, if_neg k1] at e
      omega
    · cases c1
      obtain ⟨k1, k2⟩ := key b y c
      simp only [if_pos, if_neg k1] at e
      omega
    · exact h1.boxinj b b1 y y1 c c1 e
/-- A new variable in memory. -/
theorem RelG.newBox (h : RelG M w0 F0 F γ ρ s a w) (d : Nat) {X : Bx} (hr : X.Is F w (own M w0) ρ cs tid) :
    RelG M w0 F0 F (fun b => if b = d then w.heap.size else γ b) ρ ((s.newBox d X).put (some d) (.ptr d 0)) (a.put (some d) (.pointer (some ⟨w.heap.size, 0, none⟩))) (w.alloc (.cells cs.toArray tid)) := by
  refine (h.newBox0 d hr).put (some d) ?_ trivial
  show _ = _
  simp only [if_pos]
/-- Rows get names. -/
theorem TagV.row (hρ : ∀ n g, ρ n = some g → ρ1 n = some g) {te : TE} {u : Value} (h : TagV F w B ρ te u) : TagV F w B ρ1 te u := by
  rcases h with h | ⟨n, b, len, cap, cur, h1, rfl, h2, h3⟩
  · exact .inl h
  · exact .inr ⟨n, b, len, cap, cur, h1, rfl, hρ _ _ h2, h3⟩
theorem TagsV.row (hρ : ∀ n g, ρ n = some g → ρ1 n = some g) {l : List TE} {cs : Array Value} (h : TagsV F w B ρ l cs) : TagsV F w B ρ1 l cs := fun te hte => by
  obtain ⟨u, h1, h2⟩ := h te hte
  exact ⟨u, h1, h2.row hρ⟩
theorem RepA.row (hρ : ∀ n g, ρ n = some g → ρ1 n = some g) {av : AV} {v : Value} (h : RepA F w B γ ρ av v) : RepA F w B γ ρ1 av v := by
  cases av with
  | v t x l => exact ⟨h.1, h.2.row hρ⟩
  | _ => exact h
theorem Bx.Is.row (hρ : ∀ n g, ρ n = some g → ρ1 n = some g) {X : Bx} {cs : List Value} {tid : Nat} (h : X.Is F w B ρ cs tid) : X.Is F w B ρ1 cs tid := by
  cases X with
  | var t x g => exact ⟨h.1, h.2.row hρ⟩
  | row ety e n l => exact h
def St.use (s : St) (d : Nat) : St := { s with used := s.used ||| 1 <<< d }
/-- A new row of the call's own. -/
theorem RelG.newRow (h : RelG M w0 F0 F γ ρ s a w) (d n : Nat) (hd : s.used.testBit d = false) (o : Obj) :
    RelG M w0 F0 (fun b => if b = w.heap.size then n else F b) γ (fun m => if m = d then some w.heap.size else ρ m) (s.use d) a (w.alloc o) := by
  have hgr := alloc_grow h.fin o n
  have h1 := h.grow hgr (alloc_fin h.fin o n)
  have hnone : ρ d = none := by
    cases q : ρ d with
    | none => rfl
    | some g => rw [h.rowused d g q] at hd; cases hd
  have hρ : ∀ m g, ρ m = some g → (fun m => if m = d then some w.heap.size else ρ m) m = some g := fun m g hm => by
    simp only
    rw [if_neg (fun e => by rw [e, hnone] at hm; cases hm)]
    exact hm
  refine { h1 with slot := ?_, box := ?_, rowlt := ?_, rowinj := ?_, rowused := ?_, len := h1.len }
  · exact fun i av hi => (h1.slot i av hi).row hρ
  · intro b bx hb
    obtain ⟨q1, q2, q3, cs, tid, q4, q5⟩ := h1.box b bx hb
    refine ⟨q1, q2, fun m hm => ?_, cs, tid, q4, q5.row hρ⟩
    simp only at hm
    split at hm
    · obtain ⟨_, _, _, cs1, tid1, e, _⟩ := h.box b bx hb
      have := (Array.getElem?_eq_some_iff.1 e).1
      have e2 := Option.some.inj hm
      omega
    · exact q3 m hm
  · intro m g hm
    rw [World.size_alloc]
    split at hm
    · have e2 := Option.some.inj hm; omega
    · have := h.rowlt m g hm
      omega
  · intro m k g hm hk
    split at hm <;> split at hk
    · omega
    · have e2 := Option.some.inj hm
      have := h.rowlt k _ hk
      omega
    · have e2 := Option.some.inj hk
      have := h.rowlt m _ hm
      omega
    · exact h.rowinj m k g hm hk
  · intro m g hm
    simp only [St.use, Nat.testBit_or]
    split at hm
    · rename_i e
      subst e
      rw [Nat.one_shiftLeft]
      simp [Nat.testBit_two_pow_self]
    · rw [h.rowused m g hm]
      rfl
end
end Go.Sym
end
section
namespace Go.Sym
open Go.RowKit
set_option linter.unusedVariables false
set_option linter.unusedSimpArgs false

def constA : Value → AV
  | .int k n => .v (.int k) n []
  | .bool b => .lit b
  | .string s => .v .str s []
  | .slice none 0 0 => .nilS
  | .pointer none => .nilP
  | _ => .junk
/-- What an operand is, by the state. -/
def St.ev (s : St) : Operand → AV
  | .tmp t => s.slots.getD t .junk
  | .const v => constA v
  | .func f => .v (.clo f .nil) (some ()) []
  | _ => .junk
def rowA (e : Ty) : List (Nat × AV) → List (El e) → Option (List (El e))
  | [], l => some l
  | (j, av) :: r, l => if j < l.length then match av.as e with
    | some (y, _) => rowA e r (l.set j y)
    | none => none else none
/-- A slice literal: a new row of the call's own. -/
def bsA (T : Tab) (t len : Nat) (parts : List (Nat × AV)) (d : Nat) (used : Nat) : Option AV := match (T.row t).d with
  | .sl e0 => if len * (T.ty e0).size ≤ 16777216 ∧ used.testBit d = false then (rowA (T.ty e0) parts (List.replicate len (dflt (T.ty e0)))).map fun l => .v (.sl (T.ty e0)) l [⟨0, d + 1, e0, (T.ty e0).size⟩] else none
  | _ => none
section
variable {P : Program} {T : Tab} {M : Nat → Prop} {w0 w : World} {F0 F : Nat → Nat} {γ : Nat → Nat} {ρ : Nat → Option Nat} {s : St} {a : Act} {B : Nat → Prop} {e : Ty}
theorem constA_rep (v : Value) : RepA F w B γ ρ (constA v) v := by
  unfold constA
  split
  · exact i_ret
  · rfl
  · exact mk_a mk_str
  · rfl
  · rfl
  · trivial
theorem RelG.ev (h : RelG M w0 F0 F γ ρ s a w) (x : Operand) : RepA F w (own M w0) γ ρ (s.ev x) (a.eval x) := by
  cases x with
  | tmp t =>
    show RepA F w (own M w0) γ ρ (s.slots.getD t .junk) (a.tmps.getD t undef)
    rw [List.getD_eq_getElem?_getD]
    cases q : s.slots[t]? with
    | none => trivial
    | some av => exact h.slot t av q
  | const v => exact constA_rep v
  | global g => trivial
  | func f => exact mk_a ⟨_, .inr ⟨(), [], rfl, rfl, rfl⟩, rfl⟩
theorem constA_wf (v : Value) (bx : List (Nat × Bx)) : avWf bx (constA v) := by
  unfold constA
  split <;> trivial
theorem RelG.evwf (h : RelG M w0 F0 F γ ρ s a w) (x : Operand) : avWf s.boxes (s.ev x) := by
  cases x with
  | tmp t =>
    show avWf s.boxes (s.slots.getD t .junk)
    rw [List.getD_eq_getElem?_getD]
    cases q : s.slots[t]? with
    | none => trivial
    | some av => exact h.wf av (List.mem_of_getElem? q)
  | const v => exact constA_wf v _
  | global g => trivial
  | func f => trivial
theorem RowC.set {l : List (El e)} {cs ds : List Value} {j : Nat} {y : El e} (h : RowC F w e l cs) (hd : RepC F w e y ds) (hj : j < l.length) :
    RowC F w e (l.set j y) (cs.take (j * e.size) ++ ds ++ cs.drop (j * e.size + e.size)) := by
  obtain ⟨h1, h2⟩ := h
  have hl := hd.len
  have hm : j * e.size + e.size ≤ l.length * e.size := by rw [← Nat.succ_mul]; exact Nat.mul_le_mul_right _ hj
  have ht : (cs.take (j * e.size)).length = j * e.size := by rw [List.length_take]; omega
  refine ⟨by rw [List.length_append, List.length_append, ht, hl, List.length_drop, List.length_set]; omega, fun k x hk => ?_⟩
  rw [List.getElem?_set] at hk
  by_cases c : j = k
  · subst c
    rw [if_pos rfl, if_pos hj] at hk
    cases hk
    refine ⟨ds, hd, fun i v hv => ?_⟩
    have hi := (List.getElem?_eq_some_iff.1 hv).1
    rw [List.append_assoc, List.getElem?_append_right (by omega), ht, show j * e.size + i - j * e.size = i from by omega, List.getElem?_append_left hi]
    exact hv
  · rw [if_neg c] at hk
    obtain ⟨es, r1, r2⟩ := h2 k x hk
    refine ⟨es, r1, fun i v hv => ?_⟩
    have hi := (List.getElem?_eq_some_iff.1 hv).1
    rw [r1.len] at hi
    have q := r2 i v hv
    rcases Nat.lt_or_ge k j with c1 | c1
    · have : k * e.size + e.size ≤ j * e.size := by rw [← Nat.succ_mul]; exact Nat.mul_le_mul_right _ c1
      rw [List.append_assoc, List.getElem?_append_left (by omega), List.getElem?_take_of_lt (by omega)]
      exact q
    · have : j * e.size + e.size ≤ k * e.size := by rw [← Nat.succ_mul]; exact Nat.mul_le_mul_right _ (by omega)
      rw [List.getElem?_append_right (by rw [List.length_append]; omega), List.getElem?_drop, List.length_append, ht, hl, show j * e.size + e.size + (k * e.size + i - (j * e.size + e.size)) = k * e.size + i from by omega]
      exact q
theorem RowC.one {l : List (El e)} {cs : List Value} (h : RowC F w e l cs) (hs : 0 < e.size) : ∀ v ∈ cs, Sym.one v = true := by
  intro v hv
  obtain ⟨k, hk, rfl⟩ := List.getElem_of_mem hv
  rw [h.1] at hk
  have hj : k / e.size < l.length := Nat.div_lt_of_lt_mul (by rw [Nat.mul_comm]; exact hk)
  obtain ⟨ds, r1, r2⟩ := h.2 _ _ (List.getElem?_eq_getElem hj)
  have hi : k % e.size < ds.length := by rw [r1.len]; exact Nat.mod_lt _ hs
  have := r2 _ _ (List.getElem?_eq_getElem hi)
  have e1 : k / e.size * e.size + k % e.size = k := by rw [Nat.mul_comm]; exact Nat.div_add_mod _ _
  rw [e1, List.getElem?_eq_getElem (by rw [h.1]; exact hk)] at this
  rw [Option.some.inj this]
  exact r1.one _ (List.getElem_mem hi)
theorem rowA_fill {ev : Operand → AV} {cv : Operand → Value} (he : ∀ x, RepA F w B γ ρ (ev x) (cv x)) : ∀ {l : List (Nat × Operand)} {xs ys : List (El e)} {cs : List Value},
    RowC F w e xs cs → rowA e (l.map fun p => (p.1, ev p.2)) xs = some ys →
    ∃ ds, Instr.fill (fun i => some (i * e.size, e.size)) cs.toArray (l.map fun p => (p.1, cv p.2)) = some ds.toArray ∧ RowC F w e ys ds ∧ ys.length = xs.length := by
  intro l
  induction l with
  | nil =>
    intro xs ys cs h hr
    cases hr
    exact ⟨cs, rfl, h, rfl⟩
  | cons p r ih =>
    intro xs ys cs h hr
    obtain ⟨j, x⟩ := p
    rw [List.map_cons] at hr ⊢
    unfold rowA at hr
    split at hr
    · rename_i hj
      split at hr
      · rename_i y g has
        obtain ⟨⟨ds, hds, hcv⟩, _⟩ := AV.as_rep (he x) has
        obtain ⟨es, q1, q2, q3⟩ := ih (h.set hds hj) hr
        refine ⟨es, ?_, q2, by rw [q3, List.length_set]⟩
        have hm : j * e.size + e.size ≤ xs.length * e.size := by rw [← Nat.succ_mul]; exact Nat.mul_le_mul_right _ hj
        have hsz : (cv x).cells.size = e.size := by rw [hcv, pack_cells hds]; exact hds.len
        rw [fill_part rfl hsz (by simp [h.1]; omega), hcv, pack_cells hds]
        exact q1
      · cases hr
    · cases hr
theorem RowC.zeros (n : Nat) (hs : 0 < e.size) (hzk : e.zok = true) : RowC F w e (List.replicate n (dflt e)) ((List.range (n * e.size)).map fun k => (zeroOf e).toArray[k % (zeroOf e).toArray.size]!) := by
  refine ⟨by simp, fun j x hj => ?_⟩
  rw [List.getElem?_replicate] at hj
  split at hj
  · rename_i hlt
    cases hj
    have hr := zeroOf_rep F w e hzk
    refine ⟨_, hr, fun i v hv => ?_⟩
    have hi := (List.getElem?_eq_some_iff.1 hv).1
    rw [hr.len] at hi
    have hm : j * e.size + e.size ≤ n * e.size := by rw [← Nat.succ_mul]; exact Nat.mul_le_mul_right _ hlt
    have e1 : (j * e.size + i) % (zeroOf e).length = i := by
      rw [hr.len, Nat.mul_comm, Nat.mul_add_mod]
      exact Nat.mod_eq_of_lt hi
    rw [List.getElem?_map, List.getElem?_range (by omega), Option.map_some, List.size_toArray, e1]
    simp only [List.getElem!_toArray]
    rw [List.getElem!_eq_getElem?_getD, hv]
    rfl
  · cases hj
/-- A slice whose elements lie at a block's begin. -/
theorem RowC.slice {l : List (El e)} {cs : List Value} {b c tid : Nat} {cur : List Value} (h : RowC F w e l cs) (hc : l.length ≤ c) (hb : w.heap[b]? = some (.cells cur.toArray tid (0, 0))) (hp : ∀ (j : Nat) (v : Value), cs[j]? = some v → cur[j]? = some v) (hF : l.length * e.size ≤ F b) :
    RepC F w (.sl e) l [.slice (some ⟨b, 0, none⟩) l.length c] := by
  refine ⟨_, c, rfl, hc, fun _ => ⟨b, 0, rfl, by omega, fun j x hj => ?_⟩⟩
  obtain ⟨ds, r1, r2⟩ := h.2 j x hj
  refine ⟨ds, r1, fun i v hv => ?_⟩
  rw [block_cell (off := 0) hb, Nat.zero_add]
  exact hp _ _ (r2 i v hv)
theorem run_buildSlice0 (w : World) (t e : TypeId) (len : Nat) (parts : Array (Nat × Value)) (cells : Array Value) (ie : TypeInfo) (z : Value)
    (hu : P.underlying t = some (.slice e)) (hie : P.info? e = some ie) (hz : ie.zero = some z) (hsmall : ¬ len * ie.size > 2 ^ 24)
    (h : Instr.fill (fun i => some (i * ie.size, ie.size)) ((Array.range (len * ie.size)).map (z.cells[· % z.cells.size]!)) parts.toList = some cells) :
    (Instr.buildSlice t len parts).run P w = .ok (.slice (some ⟨w.heap.size, 0, none⟩) len len) (w.alloc (.cells cells e)) := by
  by_cases hpos : len * ie.size = 0
  · have h2 : Instr.fill (fun i => some (i * ie.size, ie.size)) ((Array.range (len * ie.size)).map ((#[] : Array Value)[· % (#[] : Array Value).size]!)) parts.toList = some cells := by
      rw [hpos] at h ⊢
      rw [show ∀ f : Nat → Value, (Array.range 0).map f = #[] from fun f => by simp] at h ⊢
      exact h
    simp only [Instr.buildSlice, Sem.run_bind, run_underlying hu, Result.andThen_ok, sizeOf, typeInfo, hie]
    simp [hie, hsmall, hpos] at h2 ⊢
    simp [h2, newRow]
  · exact run_buildSlice w t e len parts cells ie z hu hie hz hsmall hpos h
theorem buildSlice_sound (hT : TabOk P T) (h : RelG M w0 F0 F γ ρ s a w) {t len d : Nat} {parts : Array (Nat × Operand)} {av : AV} (ha : bsA T t len (parts.toList.map fun p => (p.1, s.ev p.2)) d s.used = some av) :
    ∃ v w1 F1 ρ1, (Instr.buildSlice t len (parts.map fun p => (p.1, a.eval p.2))).run P w = .ok v w1 ∧ RelG M w0 F0 F1 γ ρ1 ((s.use d).put (some d) av) (a.put (some d) v) w1 := by
  unfold bsA at ha
  split at ha
  · rename_i e0 hd
    split at ha
    · rename_i c
      obtain ⟨l, hl, rfl⟩ := Option.map_eq_some_iff.1 ha
      obtain ⟨hu, ht, h3, h4⟩ := (hT.row (row_ne hd (by simp))).sl hd
      obtain ⟨inf, hi, hsz, hz⟩ := (hT.row h3).info
      have hzc : (pack (T.ty e0) (zeroOf (T.ty e0))).cells = (zeroOf (T.ty e0)).toArray := pack_cells (zeroOf_rep F w _ (hT.row h3).zok)
      obtain ⟨ds, q1, q2, q3⟩ := rowA_fill h.ev (RowC.zeros (F := F) (w := w) len h4 (hT.row h3).zok) hl
      rw [List.length_replicate] at q3
      refine ⟨_, _, (fun b => if b = w.heap.size then len * (T.ty e0).size else F b), (fun m => if m = d then some w.heap.size else ρ m), run_buildSlice0 w t e0 len _ ds.toArray inf _ hu hi hz (by rw [hsz]; omega) ?_, ?_⟩
      · rw [hsz, hzc, Array.toList_map]
        refine Eq.trans ?_ q1
        congr 1
        apply Array.ext'
        simp
      · have hN := h.newRow d (len * (T.ty e0).size) c.2 (.cells ds.toArray e0)
        have hgr := alloc_grow h.fin (.cells ds.toArray e0) (len * (T.ty e0).size)
        refine hN.put (some d) ?_ trivial
        refine ⟨⟨_, RowC.slice (b := w.heap.size) (c := len) (tid := e0) (cur := ds) (q2.ext (hgr.ext h.fin)) (by omega) (heap_alloc_new w _) (fun _ _ hv => hv) (by simp [q3]), by rw [← q3]; rfl⟩, fun te hte => ?_⟩
        rw [List.mem_singleton.1 hte]
        refine ⟨_, rfl, .inr ⟨d, w.heap.size, len, len, ds.toArray, rfl, rfl, by simp, .inl h.below.size, by simp, heap_alloc_new w _, by simp [q2.1, q3], Nat.le_refl _, ?_⟩⟩
        have : len ≤ len * (T.ty e0).size := Nat.le_mul_of_pos_right _ h4
        simp only [maxLen]
        omega
    · cases ha
  · cases ha
end
end Go.Sym
end
section
namespace Go.Sym
open Go.RowKit
set_option linter.unusedVariables false
set_option linter.unusedSimpArgs false

def frzRow (b : Nat) (e : Ty) (l : List (El e)) (g : List TE) : AV → AV
  | .mw e1 b1 n => if b1 = b then (if e1 = e then .v (.sl e) l g else .junk) else .mw e1 b1 n
  | .mr e1 b1 lo n => if b1 = b then (if e1 = e then .v (.sl e) ((l.drop lo).take n) [] else .junk) else .mr e1 b1 lo n
  | .mel e1 b1 i o => if b1 = b then (if e1 = e then .elt e l i o else .junk) else .mel e1 b1 i o
  | av => av
def frzVar (b : Nat) (t : Ty) (x : El t) : AV → AV
  | .ptr b1 o => if b1 = b then .elt t [x] 0 o else .ptr b1 o
  | .mw e1 b1 n => if b1 = b then .junk else .mw e1 b1 n
  | .mr e1 b1 lo n => if b1 = b then .junk else .mr e1 b1 lo n
  | .mel e1 b1 i o => if b1 = b then .junk else .mel e1 b1 i o
  | av => av
def St.freeze (s : St) (b : Nat) : St := match s.boxes.lookup b with
  | some (.var t x _) => { s with slots := s.slots.map (frzVar b t x), boxes := s.boxes.filter fun p => p.1 != b }
  | some (.row ety e n l) => match ety == 0 || s.used.testBit b with
    | true => { s with slots := s.slots.map (frzRow b e l []), boxes := s.boxes.filter fun p => p.1 != b }
    | false => { slots := s.slots.map (frzRow b e l [⟨0, b + 1, ety, e.size⟩]), boxes := s.boxes.filter (fun p => p.1 != b), used := s.used ||| 1 <<< b }
  | none => s
section
variable {P : Program} {T : Tab} {M : Nat → Prop} {w0 w : World} {F0 F F1 : Nat → Nat} {γ : Nat → Nat} {ρ ρ1 : Nat → Option Nat} {s : St} {a : Act} {B : Nat → Prop} {e : Ty} {k : Nat}
theorem TagV.settle (hF : ∀ b, b ≠ k → F1 b = F b) (hk : ∀ n, ρ n ≠ some k) (hρ : ∀ n g, ρ n = some g → ρ1 n = some g) {te : TE} {u : Value} (h : TagV F w B ρ te u) : TagV F1 w B ρ1 te u := by
  rcases h with h | ⟨n, b, len, cap, cur, h1, rfl, h2, h3, h4, h5⟩
  · exact .inl h
  · exact .inr ⟨n, b, len, cap, cur, h1, rfl, hρ _ _ h2, h3, by rw [hF b (fun q => hk n (by rw [← q]; exact h2))]; exact h4, h5⟩
theorem TagsV.settle (hF : ∀ b, b ≠ k → F1 b = F b) (hk : ∀ n, ρ n ≠ some k) (hρ : ∀ n g, ρ n = some g → ρ1 n = some g) {g : List TE} {cs : Array Value} (h : TagsV F w B ρ g cs) : TagsV F1 w B ρ1 g cs := fun te hte => by
  obtain ⟨u, h1, h2⟩ := h te hte
  exact ⟨u, h1, h2.settle hF hk hρ⟩
theorem elt_ext (hx : Ext F w F1 w) {t : Ty} {l : List (El t)} {i off : Nat} {v : Value} (h : RepA F w B γ ρ (.elt t l i off) v) : RepA F1 w B γ ρ1 (.elt t l i off) v := by
  obtain ⟨b, o, x, ds, h1, h2, h3, h4, h5⟩ := h
  exact ⟨b, o, x, ds, h1, h2, Nat.le_trans h3 (hx.more b), h4.ext hx, h5⟩
/-- The states behind: what is asked of the slots. -/
theorem RelG.settle (h : RelG M w0 F0 F γ ρ s a w) {b : Nat} {X : Bx} (hX : s.boxes.lookup b = some X) {cs : List Value} {tid : Nat} (hcs : w.heap[γ b]? = some (.cells cs.toArray tid (0, 0))) {f : AV → AV} {u : Nat} (hu : ∀ n, s.used.testBit n = true → u.testBit n = true)
    (hρ1 : ρ1 = ρ ∨ (ρ1 = fun m => if m = b then some (γ b) else ρ m) ∧ s.used.testBit b = false ∧ u.testBit b = true)
    (hf : ∀ av v, RepA F w (own M w0) γ ρ av v → avWf s.boxes av → RepA (fun k => if k = γ b then cs.length else F k) w (own M w0) γ ρ1 (f av) v ∧ avWf (s.boxes.filter fun p => p.1 != b) (f av)) :
    RelG M w0 F0 (fun k => if k = γ b then cs.length else F k) γ ρ1 ⟨s.slots.map f, s.boxes.filter fun p => p.1 != b, u⟩ a w := by
  have hm := lookup_mem hX
  obtain ⟨q1, q2, q3, cs1, tid1, q4, q5⟩ := h.box b X hm
  have hlt := (Array.getElem?_eq_some_iff.1 hcs).1
  have hF : ∀ c, c ≠ γ b → (fun k => if k = γ b then cs.length else F k) c = F c := fun c hc => if_neg hc
  have hle : ∀ c, F c ≤ (fun k => if k = γ b then cs.length else F k) c := fun c => by
    simp only
    split
    · rename_i e
      rw [e, q2]
      exact Nat.zero_le _
    · exact Nat.le_refl _
  have hx : Ext F w (fun k => if k = γ b then cs.length else F k) w := ⟨hle, fun _ _ _ _ hv => hv⟩
  have hsub : ∀ n g, ρ n = some g → ρ1 n = some g := by
    intro n g hn
    rcases hρ1 with e | ⟨e, hb, _⟩
    · rw [e]; exact hn
    · rw [e]
      simp only
      rw [if_neg (fun e2 => by rw [e2] at hn; rw [h.rowused b g hn] at hb; cases hb)]
      exact hn
  have hback : ∀ n g, ρ1 n = some g → ρ n = some g ∨ (n = b ∧ g = γ b) := by
    intro n g hn
    rcases hρ1 with e | ⟨e, _⟩
    · rw [e] at hn; exact .inl hn
    · rw [e] at hn
      simp only at hn
      split at hn
      · rename_i e2
        exact .inr ⟨e2, (Option.some.inj hn).symm⟩
      · exact .inl hn
  refine { defers := h.defers, below := h.below, fold := fun c hc hM => ?_, ext := h.ext.trans hx, fin := fun c hc => ?_, len := by simp only [List.length_map]; exact h.len, slot := ?_, box := ?_, boxinj := ?_, rowlt := ?_, rowinj := ?_, rowused := ?_, wf := ?_ }
  · show (if c = γ b then cs.length else F c) = F0 c
    rw [if_neg]
    · exact h.fold c hc hM
    · intro e
      rcases q1 with z | z
      · omega
      · exact hM (by rw [e]; exact z)
  · have hc : 0 < (if c = γ b then cs.length else F c) := hc
    split at hc
    · omega
    · exact h.fin c hc
  · intro i av hi
    simp only [List.getElem?_map, Option.map_eq_some_iff] at hi
    obtain ⟨av0, h1, rfl⟩ := hi
    exact (hf av0 _ (h.slot i av0 h1) (h.wf av0 (List.mem_of_getElem? h1))).1
  · intro c Y hc
    simp only [List.mem_filter, bne_iff_ne] at hc
    obtain ⟨r1, r2, r3, ds, t2, r4, r5⟩ := h.box c Y hc.1
    have hne : γ c ≠ γ b := fun e => hc.2 (h.boxinj c b Y X hc.1 hm e)
    refine ⟨r1, by rw [hF _ hne]; exact r2, fun n hn => ?_, ds, t2, r4, ?_⟩
    · rcases hback n _ hn with z | ⟨_, z⟩
      · exact r3 n z
      · exact hne z
    · cases Y with
      | var t x g => exact ⟨r5.1.ext hx, r5.2.settle hF q3 hsub⟩
      | row ety e n l => exact ⟨r5.1.ext hx, r5.2⟩
  · intro c c1 y y1 h1 h2 e
    simp only [List.mem_filter] at h1 h2
    exact h.boxinj c c1 y y1 h1.1 h2.1 e
  · intro n g hn
    rcases hback n g hn with z | ⟨_, z⟩
    · exact h.rowlt n g z
    · rw [z]; exact hlt
  · intro n m g hn hm2
    rcases hback n g hn with z | ⟨z1, z2⟩ <;> rcases hback m g hm2 with y | ⟨y1, y2⟩
    · exact h.rowinj n m g z y
    · exact absurd (by rw [y2] at z; exact z) (q3 n)
    · exact absurd (by rw [z2] at y; exact y) (q3 m)
    · omega
  · intro n g hn
    rcases hback n g hn with z | ⟨z1, z2⟩
    · exact hu n (h.rowused n g z)
    · rcases hρ1 with e | ⟨_, _, e⟩
      · rw [e] at hn
        exact hu n (h.rowused n g hn)
      · rw [z1]; exact e
  · intro av hi
    simp only [List.mem_map] at hi
    obtain ⟨av0, h1, rfl⟩ := hi
    obtain ⟨i, hi, e⟩ := List.getElem_of_mem h1
    exact (hf av0 _ (h.slot i av0 (by rw [List.getElem?_eq_getElem hi, e])) (h.wf av0 h1)).2
theorem wf_filter {bx : List (Nat × Bx)} {b : Nat} {av : AV} (h : avWf bx av) (hb : ∀ c, (∃ e n, av = .mw e c n) ∨ (∃ e lo n, av = .mr e c lo n) ∨ (∃ e i o, av = .mel e c i o) → c ≠ b) : avWf (bx.filter fun p => p.1 != b) av := by
  cases av with
  | mw e c n =>
    intro m hm
    rw [rowN_filter (hb c (.inl ⟨e, n, rfl⟩))] at hm
    exact h m hm
  | mr e c lo n =>
    intro m hm
    rw [rowN_filter (hb c (.inr (.inl ⟨e, lo, n, rfl⟩)))] at hm
    exact h m hm
  | mel e c i o =>
    intro m hm
    rw [rowN_filter (hb c (.inr (.inr ⟨e, i, o, rfl⟩)))] at hm
    exact h m hm
  | _ => trivial
theorem used_or (u b n : Nat) (h : u.testBit n = true) : (u ||| 1 <<< b).testBit n = true := by rw [Nat.testBit_or, h]; rfl
theorem used_self (u b : Nat) : (u ||| 1 <<< b).testBit b = true := by
  rw [Nat.testBit_or, Nat.one_shiftLeft]
  simp [Nat.testBit_two_pow_self]
theorem frzRow_ok {b n : Nat} {l : List (El e)} {g : List TE} {cs : List Value} {tid : Nat} {bx : List (Nat × Bx)} {cur : Nat → Nat} (hcur : ∀ c, F c ≤ cur c) (hk : cur (γ b) = cs.length) (hF : ∀ c, c ≠ γ b → cur c = F c) (hnk : ∀ m, ρ m ≠ some (γ b)) (hρ : ∀ m g, ρ m = some g → ρ1 m = some g)
    (hcs : w.heap[γ b]? = some (.cells cs.toArray tid (0, 0))) (hr : RowC F w e l cs) (hs : 0 < e.size) (hn : l.length = n) (hrow : rowN bx b = some n)
    (htag : ∀ te ∈ g, ∃ u, (#[Value.slice (some ⟨γ b, 0, none⟩) n n] : Array Value)[te.off]? = some u ∧ TagV cur w B ρ1 te u) {av : AV} {v : Value} (h : RepA F w B γ ρ av v) (hw : avWf bx av) :
    RepA cur w B γ ρ1 (frzRow b e l g av) v ∧ avWf (bx.filter fun p => p.1 != b) (frzRow b e l g av) := by
  have hx : Ext F w cur w := ⟨hcur, fun _ _ _ _ hv => hv⟩
  have hcell : ∀ j, w.cell? ⟨γ b, j, none⟩ = cs[j]? := fun j => block_cell (off := 0) hcs j
  cases av with
  | v t x g1 => exact ⟨⟨h.1.ext hx, h.2.settle hF hnk hρ⟩, trivial⟩
  | pr p d neg => exact ⟨h, trivial⟩
  | lit c => exact ⟨h, trivial⟩
  | nilS => exact ⟨h, trivial⟩
  | nilP => exact ⟨h, trivial⟩
  | ptr c o => exact ⟨h, trivial⟩
  | elt t l i off => exact ⟨elt_ext hx h, trivial⟩
  | tup t x z =>
    obtain ⟨vs, h1, h2, h3⟩ := h
    exact ⟨⟨vs, h1, h2.ext hx, h3⟩, trivial⟩
  | und => exact ⟨h, trivial⟩
  | junk => exact ⟨trivial, trivial⟩
  | mw e1 b1 m =>
    show RepA cur w B γ ρ1 (if b1 = b then (if e1 = e then .v (.sl e) l g else .junk) else .mw e1 b1 m) v ∧ avWf _ (if b1 = b then (if e1 = e then .v (.sl e) l g else .junk) else .mw e1 b1 m)
    split
    · rename_i q
      subst q
      split
      · have hm := hw n hrow
        rw [show v = _ from h, hm]
        refine ⟨⟨⟨_, ⟨_, n, by rw [hn], by omega, fun hp => ⟨γ b1, 0, rfl, ?_, fun j x hj => ?_⟩⟩, rfl⟩, htag⟩, trivial⟩
        · rw [hk, hr.1]; omega
        · obtain ⟨ds, r1, r2⟩ := hr.2 j x hj
          refine ⟨ds, r1.ext hx, fun i u hu => ?_⟩
          rw [hcell, Nat.zero_add]
          exact r2 i u hu
      · exact ⟨trivial, trivial⟩
    · rename_i q
      exact ⟨h, wf_filter hw (fun c hc => by rcases hc with ⟨_, _, z⟩ | ⟨_, _, _, z⟩ | ⟨_, _, _, z⟩ <;> cases z; exact q)⟩
  | mr e1 b1 lo m =>
    show RepA cur w B γ ρ1 (if b1 = b then (if e1 = e then .v (.sl e) ((l.drop lo).take m) [] else .junk) else .mr e1 b1 lo m) v ∧ avWf _ (if b1 = b then (if e1 = e then .v (.sl e) ((l.drop lo).take m) [] else .junk) else .mr e1 b1 lo m)
    split
    · rename_i q
      subst q
      split
      · rename_i q2
        subst q2
        have hm := hw n hrow
        obtain ⟨o, c, rfl, h2, h3⟩ := h
        have hlen : ((l.drop lo).take m).length = m := by rw [List.length_take, List.length_drop]; omega
        refine ⟨mk_a ⟨_, ⟨_, c, by rw [hlen], by rw [hlen]; exact h2, fun hp => ?_⟩, rfl⟩, trivial⟩
        rw [hlen] at hp
        rw [h3 hp]
        have hmul : (lo + m) * e1.size ≤ n * e1.size := Nat.mul_le_mul_right _ hm
        refine ⟨γ b1, lo * e1.size, rfl, ?_, fun j x hj => ?_⟩
        · rw [hlen, hk, hr.1, hn, ← Nat.add_mul]; exact hmul
        · rw [List.getElem?_take] at hj
          split at hj
          · rw [List.getElem?_drop] at hj
            obtain ⟨ds, r1, r2⟩ := hr.2 _ x hj
            refine ⟨ds, r1.ext hx, fun i u hu => ?_⟩
            rw [hcell, ← Nat.add_mul]
            exact r2 i u hu
          · cases hj
      · exact ⟨trivial, trivial⟩
    · rename_i q
      exact ⟨h, wf_filter hw (fun c hc => by rcases hc with ⟨_, _, z⟩ | ⟨_, _, _, z⟩ | ⟨_, _, _, z⟩ <;> cases z; exact q)⟩
  | mel e1 b1 i o =>
    show RepA cur w B γ ρ1 (if b1 = b then (if e1 = e then .elt e l i o else .junk) else .mel e1 b1 i o) v ∧ avWf _ (if b1 = b then (if e1 = e then .elt e l i o else .junk) else .mel e1 b1 i o)
    split
    · rename_i q
      subst q
      split
      · rename_i q2
        subst q2
        have hm := hw n hrow
        have hi : i < l.length := by omega
        obtain ⟨ds, r1, r2⟩ := hr.2 i _ (List.getElem?_eq_getElem hi)
        refine ⟨⟨γ b1, 0, l[i], ds, ?_, List.getElem?_eq_getElem hi, ?_, r1.ext hx, fun j u hu => ?_⟩, trivial⟩
        · rw [show v = _ from h, Nat.zero_add]
        · rw [hk, hr.1]; omega
        · rw [hcell, Nat.zero_add]
          exact r2 j u hu
      · exact ⟨trivial, trivial⟩
    · rename_i q
      exact ⟨h, wf_filter hw (fun c hc => by rcases hc with ⟨_, _, z⟩ | ⟨_, _, _, z⟩ | ⟨_, _, _, z⟩ <;> cases z; exact q)⟩
theorem frzVar_ok {b : Nat} {t : Ty} {x : El t} {cs : List Value} {tid : Nat} {bx : List (Nat × Bx)} {cur : Nat → Nat} (hcur : ∀ c, F c ≤ cur c) (hk : cur (γ b) = cs.length) (hF : ∀ c, c ≠ γ b → cur c = F c) (hnk : ∀ m, ρ m ≠ some (γ b))
    (hcs : w.heap[γ b]? = some (.cells cs.toArray tid (0, 0))) (hr : RepC F w t x cs) {av : AV} {v : Value} (h : RepA F w B γ ρ av v) (hw : avWf bx av) :
    RepA cur w B γ ρ (frzVar b t x av) v ∧ avWf (bx.filter fun p => p.1 != b) (frzVar b t x av) := by
  have hx : Ext F w cur w := ⟨hcur, fun _ _ _ _ hv => hv⟩
  have hcell : ∀ j, w.cell? ⟨γ b, j, none⟩ = cs[j]? := fun j => block_cell (off := 0) hcs j
  cases av with
  | v t x g1 => exact ⟨⟨h.1.ext hx, h.2.settle hF hnk (fun _ _ z => z)⟩, trivial⟩
  | pr p d neg => exact ⟨h, trivial⟩
  | lit c => exact ⟨h, trivial⟩
  | nilS => exact ⟨h, trivial⟩
  | nilP => exact ⟨h, trivial⟩
  | ptr c o =>
    show RepA cur w B γ ρ (if c = b then .elt t [x] 0 o else .ptr c o) v ∧ avWf _ (if c = b then .elt t [x] 0 o else .ptr c o)
    split
    · rename_i q
      subst q
      refine ⟨⟨γ c, 0, x, cs, ?_, rfl, ?_, hr.ext hx, fun j u hu => ?_⟩, trivial⟩
      · rw [show v = _ from h]; simp
      · rw [hk, hr.len]; simp
      · rw [hcell]
        simpa using hu
    · exact ⟨h, trivial⟩
  | elt t l i off => exact ⟨elt_ext hx h, trivial⟩
  | tup t x z =>
    obtain ⟨vs, h1, h2, h3⟩ := h
    exact ⟨⟨vs, h1, h2.ext hx, h3⟩, trivial⟩
  | und => exact ⟨h, trivial⟩
  | junk => exact ⟨trivial, trivial⟩
  | mw e1 b1 m =>
    show RepA cur w B γ ρ (if b1 = b then .junk else .mw e1 b1 m) v ∧ avWf _ (if b1 = b then .junk else .mw e1 b1 m)
    split
    · exact ⟨trivial, trivial⟩
    · rename_i q
      exact ⟨h, wf_filter hw (fun c hc => by rcases hc with ⟨_, _, z⟩ | ⟨_, _, _, z⟩ | ⟨_, _, _, z⟩ <;> cases z; exact q)⟩
  | mr e1 b1 lo m =>
    show RepA cur w B γ ρ (if b1 = b then .junk else .mr e1 b1 lo m) v ∧ avWf _ (if b1 = b then .junk else .mr e1 b1 lo m)
    split
    · exact ⟨trivial, trivial⟩
    · rename_i q
      exact ⟨h, wf_filter hw (fun c hc => by rcases hc with ⟨_, _, z⟩ | ⟨_, _, _, z⟩ | ⟨_, _, _, z⟩ <;> cases z; exact q)⟩
  | mel e1 b1 i o =>
    show RepA cur w B γ ρ (if b1 = b then .junk else .mel e1 b1 i o) v ∧ avWf _ (if b1 = b then .junk else .mel e1 b1 i o)
    split
    · exact ⟨trivial, trivial⟩
    · rename_i q
      exact ⟨h, wf_filter hw (fun c hc => by rcases hc with ⟨_, _, z⟩ | ⟨_, _, _, z⟩ | ⟨_, _, _, z⟩ <;> cases z; exact q)⟩
/-- A block that is written no more. -/
theorem freeze_sound (h : Rel M w0 F0 s a w) (b : Nat) : Rel M w0 F0 (s.freeze b) a w := by
  unfold St.freeze
  split
  · rename_i t x g hX
    obtain ⟨F, γ, ρ, h⟩ := h
    obtain ⟨q1, q2, q3, cs, tid, q4, q5, q6⟩ := h.box b _ (lookup_mem hX)
    have hle : ∀ c, F c ≤ (if c = γ b then cs.length else F c) := fun c => by
      split
      · rename_i e; rw [e, q2]; exact Nat.zero_le _
      · exact Nat.le_refl _
    refine ⟨_, γ, ρ, h.settle hX q4 (f := frzVar b t x) (u := s.used) (fun n hn => hn) (.inl rfl) (fun av v hv hw => frzVar_ok (cur := fun k => if k = γ b then cs.length else F k) hle (if_pos rfl) (fun c hc => if_neg hc) q3 q4 q5 hv hw)⟩
  · rename_i ety e n l hX
    obtain ⟨F, γ, ρ, h⟩ := h
    obtain ⟨q1, q2, q3, cs, tid, q4, q5, q6, q7, q8, q9⟩ := h.box b _ (lookup_mem hX)
    have hrow : rowN s.boxes b = some n := by unfold rowN; rw [hX]
    have hle : ∀ c, F c ≤ (if c = γ b then cs.length else F c) := fun c => by
      split
      · rename_i e; rw [e, q2]; exact Nat.zero_le _
      · exact Nat.le_refl _
    split
    · exact ⟨_, γ, ρ, h.settle hX q4 (f := frzRow b e l []) (u := s.used) (fun n hn => hn) (.inl rfl) (fun av v hv hw => frzRow_ok hle (if_pos rfl) (fun c hc => if_neg hc) q3 (fun _ _ z => z) q4 q5 q7 q8 hrow (fun te hte => by cases hte) hv hw)⟩
    · rename_i hc
      rw [Bool.or_eq_false_iff, beq_eq_false_iff_ne] at hc
      have hub : s.used.testBit b = false := hc.2
      have hsub : ∀ m g, ρ m = some g → (fun m => if m = b then some (γ b) else ρ m) m = some g := fun m g hm => by
        simp only
        rw [if_neg (fun e2 => by rw [e2] at hm; rw [h.rowused b g hm] at hub; cases hub)]
        exact hm
      refine ⟨_, γ, fun m => if m = b then some (γ b) else ρ m, h.settle hX q4 (f := frzRow b e l [⟨0, b + 1, ety, e.size⟩]) (u := s.used ||| 1 <<< b) (fun n hn => used_or _ _ _ hn) (.inr ⟨rfl, hub, used_self _ _⟩) (fun av v hv hw => frzRow_ok hle (if_pos rfl) (fun c hc => if_neg hc) q3 hsub q4 q5 q7 q8 hrow (fun te hte => ?_) hv hw)⟩
      rw [List.mem_singleton.1 hte]
      refine ⟨_, rfl, .inr ⟨b, γ b, n, n, cs.toArray, rfl, rfl, if_pos rfl, q1, ?_, ?_, ?_, Nat.le_refl _, q9⟩⟩
      · show (if γ b = γ b then cs.length else F (γ b)) = n * e.size
        rw [if_pos rfl, q5.1, q8]
      · rw [q4, q6 hc.1]
      · simp [q5.1, q8]
  · exact h
end
end Go.Sym
end
section
namespace Go.Sym
open Go.RowKit
set_option linter.unusedVariables false
set_option linter.unusedSimpArgs false

def dropAV (tag : Nat) : AV → AV
  | .v t x g => .v t x (g.filter fun te => te.tag != tag)
  | av => av
def dropBx (tag : Nat) : Bx → Bx
  | .var t x g => .var t x (g.filter fun te => te.tag != tag)
  | b => b
/-- A row's name goes. -/
def St.drop (s : St) (tag : Nat) : St := { s with slots := s.slots.map (dropAV tag), boxes := s.boxes.map fun p => (p.1, dropBx tag p.2) }
section
variable {M : Nat → Prop} {w0 w w1 : World} {F0 F F1 : Nat → Nat} {γ : Nat → Nat} {ρ ρ1 : Nat → Option Nat} {s : St} {a : Act} {B : Nat → Prop} {e : Ty} {n0 : Nat}
/-- What a change of the row that n0 names (and of new blocks) leaves. -/
structure Turn (M : Nat → Prop) (w0 : World) (n0 : Nat) (F : Nat → Nat) (w : World) (ρ : Nat → Option Nat) (F1 : Nat → Nat) (w1 : World) (ρ1 : Nat → Option Nat) : Prop where
  ext : Ext F w F1 w1
  rows : ∀ m g, m ≠ n0 → ρ m = some g → ρ1 m = some g ∧ w1.heap[g]? = w.heap[g]? ∧ F1 g = F g
  others : ∀ b, b < w.heap.size → ρ n0 ≠ some b → w1.heap[b]? = w.heap[b]? ∧ F1 b = F b
  os : w1.os = w.os
  tape : w1.tape = w.tape
  output : w1.output = w.output
  size : w.heap.size ≤ w1.heap.size
  block : ∀ k, k < w0.heap.size → ¬ M k → w1.heap[k]? = w.heap[k]?
  fold : ∀ b, b < w0.heap.size → ¬ M b → F1 b = F b
  fin : ∀ b, 0 < F1 b → b < w1.heap.size
theorem TagV.turn (h : Turn M w0 n0 F w ρ F1 w1 ρ1) {te : TE} (ht : te.tag ≠ n0 + 1) {u : Value} (hv : TagV F w B ρ te u) : TagV F1 w1 B ρ1 te u := by
  rcases hv with hv | ⟨n, b, len, cap, cur, h1, rfl, h2, h3, h4, h5, h6⟩
  · exact .inl hv
  · obtain ⟨q1, q2, q3⟩ := h.rows n b (fun q => ht (by rw [h1, q])) h2
    exact .inr ⟨n, b, len, cap, cur, h1, rfl, q1, h3, by rw [q3]; exact h4, by rw [q2]; exact h5, h6⟩
theorem TagsV.turn (h : Turn M w0 n0 F w ρ F1 w1 ρ1) {g : List TE} {cs : Array Value} (hv : TagsV F w B ρ g cs) : TagsV F1 w1 B ρ1 (g.filter fun te => te.tag != n0 + 1) cs := fun te hte => by
  obtain ⟨h1, h2⟩ := List.mem_filter.1 hte
  obtain ⟨u, h3, h4⟩ := hv te h1
  exact ⟨u, h3, h4.turn h (by simpa using h2)⟩
theorem RepA.turn (h : Turn M w0 n0 F w ρ F1 w1 ρ1) {av : AV} {v : Value} (hv : RepA F w B γ ρ av v) : RepA F1 w1 B γ ρ1 (dropAV (n0 + 1) av) v := by
  cases av with
  | v t x g => exact ⟨hv.1.ext h.ext, hv.2.turn h⟩
  | pr p d neg => exact hv
  | lit b => exact hv
  | nilS => exact hv
  | nilP => exact hv
  | ptr b off => exact hv
  | elt t l i off =>
    obtain ⟨b, o, x, ds, h1, h2, h3, h4, h5⟩ := hv
    refine ⟨b, o, x, ds, h1, h2, Nat.le_trans h3 (h.ext.more b), h4.ext h.ext, fun j u hu => ?_⟩
    by_cases c : o + i * t.size + j < F b
    · exact h.ext.same b _ u c (h5 j u hu)
    · have hi := (List.getElem?_eq_some_iff.1 h2).1
      have hj := (List.getElem?_eq_some_iff.1 hu).1
      rw [h4.len] at hj
      have : i * t.size + t.size ≤ l.length * t.size := by rw [← Nat.succ_mul]; exact Nat.mul_le_mul_right _ hi
      omega
  | tup t x z =>
    obtain ⟨vs, h1, h2, h3⟩ := hv
    exact ⟨vs, h1, h2.ext h.ext, h3⟩
  | mw e b n => exact hv
  | mr e b lo n => exact hv
  | mel e b i off => exact hv
  | und => exact hv
  | junk => trivial
theorem Bx.Is.turn (h : Turn M w0 n0 F w ρ F1 w1 ρ1) {X : Bx} {cs : List Value} {tid : Nat} (hv : X.Is F w B ρ cs tid) : (dropBx (n0 + 1) X).Is F1 w1 B ρ1 cs tid := by
  cases X with
  | var t x g => exact ⟨hv.1.ext h.ext, hv.2.turn h⟩
  | row ety e n l => exact ⟨hv.1.ext h.ext, hv.2⟩
theorem rowN_drop {tag : Nat} {bx : List (Nat × Bx)} {b : Nat} : rowN (bx.map fun p => (p.1, dropBx tag p.2)) b = rowN bx b := by
  have : (bx.map fun p => (p.1, dropBx tag p.2)).lookup b = (bx.lookup b).map (dropBx tag) := by
    induction bx with
    | nil => rfl
    | cons p r ih =>
      rw [List.map_cons, List.lookup_cons, List.lookup_cons, ih]
      cases b == p.1 <;> rfl
  unfold rowN
  rw [this]
  cases bx.lookup b with
  | none => rfl
  | some X => cases X <;> rfl
theorem drop_wf {tag : Nat} {bx : List (Nat × Bx)} {av : AV} (h : avWf bx av) : avWf (bx.map fun p => (p.1, dropBx tag p.2)) (dropAV tag av) := by
  cases av with
  | mw e b n => exact fun m hm => h m (by rw [← rowN_drop]; exact hm)
  | mr e b lo n => exact fun m hm => h m (by rw [← rowN_drop]; exact hm)
  | mel e b i off => exact fun m hm => h m (by rw [← rowN_drop]; exact hm)
  | _ => trivial
/-- The state behind such a change. -/
theorem RelG.turn (h : RelG M w0 F0 F γ ρ s a w) (ht : Turn M w0 n0 F w ρ F1 w1 ρ1) (d : Nat) (hd : s.used.testBit d = false) (hr : ∀ m g, ρ1 m = some g → m ≠ d → ρ m = some g)
    (hg : ∀ g, ρ1 d = some g → g < w1.heap.size ∧ (g < w.heap.size → ρ n0 = some g)) (hn : ∀ g, ρ1 d = some g → g < w.heap.size → ∀ m, m ≠ d → ρ1 m ≠ some g) :
    RelG M w0 F0 F1 γ ρ1 ((s.drop (n0 + 1)).use d) a w1 where
  defers := h.defers
  below := h.below.step ht.os ht.tape ht.output ht.size ht.block
  fold b hb hM := by rw [ht.fold b hb hM]; exact h.fold b hb hM
  ext := h.ext.trans ht.ext
  fin := ht.fin
  len := by simp only [St.use, St.drop, List.length_map]; exact h.len
  slot i av hi := by
    simp only [St.use, St.drop, List.getElem?_map, Option.map_eq_some_iff] at hi
    obtain ⟨av0, h1, rfl⟩ := hi
    exact (h.slot i av0 h1).turn ht
  box b bx hb := by
    simp only [St.use, St.drop, List.mem_map] at hb
    obtain ⟨⟨b0, x0⟩, h1, e⟩ := hb
    cases e
    obtain ⟨q1, q2, q3, cs, tid, q4, q5⟩ := h.box b0 x0 h1
    have hlt := (Array.getElem?_eq_some_iff.1 q4).1
    obtain ⟨o1, o2⟩ := ht.others (γ b0) hlt (q3 n0)
    refine ⟨q1, by rw [o2]; exact q2, fun m hm => ?_, cs, tid, by rw [o1]; exact q4, q5.turn ht⟩
    by_cases c : m = d
    · subst c
      exact q3 n0 ((hg _ hm).2 hlt)
    · exact q3 m (hr m _ hm c)
  boxinj b b1 x x1 h1 h2 e := by
    simp only [St.use, St.drop, List.mem_map] at h1 h2
    obtain ⟨⟨b0, x0⟩, q1, e1⟩ := h1
    obtain ⟨⟨b2, x2⟩, q2, e2⟩ := h2
    cases e1
    cases e2
    exact h.boxinj b0 b2 x0 x2 q1 q2 e
  rowlt m g hm := by
    by_cases c : m = d
    · subst c
      exact (hg g hm).1
    · exact Nat.lt_of_lt_of_le (h.rowlt m g (hr m g hm c)) ht.size
  rowinj m k g hm hk := by
    by_cases c : m = d <;> by_cases c1 : k = d
    · omega
    · subst c
      have := h.rowlt k g (hr k g hk c1)
      exact absurd hk (hn g hm this k c1)
    · subst c1
      have := h.rowlt m g (hr m g hm c)
      exact absurd hm (hn g hk this m c)
    · exact h.rowinj m k g (hr m g hm c) (hr k g hk c1)
  rowused m g hm := by
    simp only [St.use, St.drop, Nat.testBit_or]
    by_cases c : m = d
    · subst c
      rw [Nat.one_shiftLeft]
      simp [Nat.testBit_two_pow_self]
    · rw [h.rowused m g (hr m g hm c)]
      rfl
  wf av hi := by
    simp only [St.use, St.drop, List.mem_map] at hi
    obtain ⟨av0, h1, rfl⟩ := hi
    exact drop_wf (h.wf av0 h1)
end
end Go.Sym
end
section
namespace Go.Sym
open Go.RowKit
set_option linter.unusedVariables false
set_option linter.unusedSimpArgs false

def tagAt0 (e0 esz : Nat) : List TE → Option Nat
  | [] => none
  | te :: r => if te.off = 0 ∧ te.ety = e0 ∧ te.esz = esz then some te.tag else tagAt0 e0 esz r
/-- What is appended to: its elements, and the name of its row (0: it has none). -/
def ownA (e0 : Nat) (e : Ty) : AV → Option (List (El e) × Nat)
  | .nilS => some ([], 0)
  | .v (.sl e1) l g => match tagAt0 e0 e.size g with
    | some n => (castEl (.sl e1) (.sl e) l).map fun y => (y, n)
    | none => none
  | _ => none
section
variable {P : Program} {T : Tab} {M : Nat → Prop} {w0 w : World} {F0 F : Nat → Nat} {γ : Nat → Nat} {ρ : Nat → Option Nat} {s : St} {a : Act} {B : Nat → Prop} {e : Ty} {e0 : Nat}
theorem tagAt0_mem {e0 esz n : Nat} : ∀ {g : List TE}, tagAt0 e0 esz g = some n → ∃ te ∈ g, te.off = 0 ∧ te.ety = e0 ∧ te.esz = esz ∧ te.tag = n
  | te :: r, h => by
    unfold tagAt0 at h
    split at h
    · rename_i c
      exact ⟨te, List.mem_cons_self, c.1, c.2.1, c.2.2, Option.some.inj h⟩
    · obtain ⟨t, h1, h2⟩ := tagAt0_mem h
      exact ⟨t, List.mem_cons_of_mem _ h1, h2⟩
theorem ownA_rep {av : AV} {v : Value} {l : List (El e)} {n : Nat} (h : RepA F w B γ ρ av v) (ho : ownA e0 e av = some (l, n)) :
    RepV F w (.sl e) l v ∧ ∃ te, te.tag = n ∧ te.ety = e0 ∧ te.esz = e.size ∧ TagV F w B ρ te v := by
  unfold ownA at ho
  split at ho
  · cases ho
    rw [show v = _ from h]
    exact ⟨⟨_, ⟨none, 0, rfl, Nat.le_refl _, fun q => absurd q (by simp)⟩, rfl⟩, ⟨0, 0, e0, e.size⟩, rfl, rfl, rfl, .inl ⟨_, rfl⟩⟩
  · rename_i e1 l1 g
    split at ho
    · rename_i m hm
      obtain ⟨y, hy, q⟩ := Option.map_eq_some_iff.1 ho
      cases q
      have hv := h.1.cast hy
      obtain ⟨te, h1, h2, h3, h4, h5⟩ := tagAt0_mem hm
      obtain ⟨u, hu, ht⟩ := h.2 te h1
      refine ⟨hv, te, h5, h3, h4, ?_⟩
      obtain ⟨A, c, rfl, _⟩ := rep_sl hv
      rw [h2] at hu
      cases hu
      exact ht
    · cases ho
  · cases ho
theorem one_eq {v : Value} (h : one v = true) : v.oneCell' = true := by
  cases v <;> first | rfl | cases h
/-- The cells of a list that lies in a row. -/
theorem row_cells {l : List (El e)} {b o : Nat} (hs : 0 < e.size) (h : ∀ j x, l[j]? = some x → ∃ ds, RepC F w e x ds ∧ ∀ i v, ds[i]? = some v → w.cell? ⟨b, o + j * e.size + i, none⟩ = some v) :
    ∃ cs, RowC F w e l cs ∧ ∀ (k : Nat) (u : Value), cs[k]? = some u → w.cell? ⟨b, o + k, none⟩ = some u := by
  refine ⟨(List.range (l.length * e.size)).map fun k => (w.cell? ⟨b, o + k, none⟩).getD undef, ⟨by simp, fun j x hj => ?_⟩, fun k u hk => ?_⟩
  · obtain ⟨ds, r1, r2⟩ := h j x hj
    refine ⟨ds, r1, fun i v hv => ?_⟩
    have hi := (List.getElem?_eq_some_iff.1 hv).1
    rw [r1.len] at hi
    have hm : j * e.size + e.size ≤ l.length * e.size := by rw [← Nat.succ_mul]; exact Nat.mul_le_mul_right _ (List.getElem?_eq_some_iff.1 hj).1
    rw [List.getElem?_map, List.getElem?_range (by omega), Option.map_some, ← Nat.add_assoc, r2 i v hv]
    rfl
  · rw [List.getElem?_map, Option.map_eq_some_iff] at hk
    obtain ⟨k1, h1, h2⟩ := hk
    have hk2 := (List.getElem?_eq_some_iff.1 h1).1
    rw [List.length_range] at hk2
    rw [List.getElem?_range hk2] at h1
    cases h1
    have hj : k / e.size < l.length := Nat.div_lt_of_lt_mul (by rw [Nat.mul_comm]; exact hk2)
    obtain ⟨ds, r1, r2⟩ := h _ _ (List.getElem?_eq_getElem hj)
    have hi : k % e.size < ds.length := by rw [r1.len]; exact Nat.mod_lt _ hs
    have := r2 _ _ (List.getElem?_eq_getElem hi)
    have e1 : o + k / e.size * e.size + k % e.size = o + k := by rw [Nat.add_assoc, Nat.mul_comm, Nat.div_add_mod]
    rw [e1] at this
    rw [this] at h2 ⊢
    rw [← h2]
    rfl
theorem RowC.append {l m : List (El e)} {cs ds : List Value} (h : RowC F w e l cs) (k : RowC F w e m ds) : RowC F w e (l ++ m) (cs ++ ds) := by
  refine ⟨by rw [List.length_append, List.length_append, h.1, k.1, Nat.add_mul], fun j x hj => ?_⟩
  rw [List.getElem?_append] at hj
  split at hj
  · rename_i c
    obtain ⟨es, r1, r2⟩ := h.2 j x hj
    refine ⟨es, r1, fun i v hv => ?_⟩
    have := r2 i v hv
    rw [List.getElem?_append_left (List.getElem?_eq_some_iff.1 this).1]
    exact this
  · rename_i c
    obtain ⟨es, r1, r2⟩ := k.2 _ x hj
    refine ⟨es, r1, fun i v hv => ?_⟩
    have hm : l.length * e.size ≤ j * e.size := Nat.mul_le_mul_right _ (by omega)
    have e1 : j * e.size + i - l.length * e.size = (j - l.length) * e.size + i := by rw [Nat.sub_mul]; omega
    rw [List.getElem?_append_right (by rw [h.1]; omega), h.1, e1]
    exact r2 i v hv
/-- The row that an append ends in says the whole. -/
theorem whole_rep {F1 : Nat → Nat} {w1 : World} {ρ1 : Nat → Option Nat} {l : List (El e)} {cs cur : List Value} {g cap d : Nat} (h : RowC F w e l cs) (hx : Ext F w F1 w1) (hl : l.length ≤ cap) (hc : cap ≤ maxLen)
    (hg : w1.heap[g]? = some (.cells cur.toArray e0 (0, 0))) (hp : ∀ (j : Nat) (v : Value), cs[j]? = some v → cur[j]? = some v) (hF : F1 g = l.length * e.size) (hcur : cur.length = cap * e.size) (hB : B g) (hρ : ρ1 d = some g) :
    RepA F1 w1 B γ ρ1 (.v (.sl e) l [⟨0, d + 1, e0, e.size⟩]) (.slice (some ⟨g, 0, none⟩) l.length cap) := by
  refine ⟨⟨_, RowC.slice (h.ext hx) hl hg hp (by omega), rfl⟩, fun te hte => ?_⟩
  rw [List.mem_singleton.1 hte]
  exact ⟨_, rfl, .inr ⟨d, g, _, cap, cur.toArray, rfl, rfl, hρ, hB, hF, hg, by simpa using hcur, hl, hc⟩⟩
/-- Nothing turns: the names alone. -/
theorem Turn.names {M : Nat → Prop} {w0 w : World} {ρ ρ1 : Nat → Option Nat} {n0 : Nat} (hfin : ∀ b, 0 < F b → b < w.heap.size) (h : ∀ m g, m ≠ n0 → ρ m = some g → ρ1 m = some g) : Turn M w0 n0 F w ρ F w ρ1 :=
  ⟨.refl _ _, fun m g hm hg => ⟨h m g hm hg, rfl, rfl⟩, fun _ _ _ => ⟨rfl, rfl⟩, rfl, rfl, rfl, Nat.le_refl _, fun _ _ _ => rfl, fun _ _ _ => rfl, hfin⟩
end
end Go.Sym
end
section
namespace Go.Sym
open Go.RowKit
set_option linter.unusedVariables false
set_option linter.unusedSimpArgs false

/-- An append: what it comes to, and the row's name that goes. -/
def appendT (T : Tab) (t d : Nat) (x y : AV) (used : Nat) : Tree (AV × Nat) := match (T.row t).d with
  | .sl e0 => if used.testBit d = false ∧ 0 < (T.row e0).bytes then match ownA e0 (T.ty e0) x, y.as (.sl (T.ty e0)) with
    | some (l, n), some (m, _) => if n = 0 ∨ used.testBit (n - 1) = true then tst ((l.length + m.length) * (T.row e0).bytes ≤ 140737488355328) (.ret (.v (.sl (T.ty e0)) (l ++ m) [⟨0, d + 1, e0, (T.ty e0).size⟩], if n = 0 then d else n - 1)) else .fail
    | _, _ => .fail else .fail
  | _ => .fail
section
variable {P : Program} {T : Tab} {M : Nat → Prop} {w0 w : World} {F0 F : Nat → Nat} {γ : Nat → Nat} {ρ : Nat → Option Nat} {s : St} {a : Act} {B : Nat → Prop} {e : Ty} {e0 : Nat}
theorem RelG.dropT (h : RelG M w0 F0 F γ ρ s a w) (t : Nat) : RelG M w0 F0 F γ ρ (s.drop t) a w := by
  have keep : ∀ {g : List TE} {cs : Array Value}, TagsV F w (own M w0) ρ g cs → TagsV F w (own M w0) ρ (g.filter fun te => te.tag != t) cs := fun h te hte => h te (List.mem_filter.1 hte).1
  refine { h with len := by simp only [St.drop, List.length_map]; exact h.len, slot := ?_, box := ?_, boxinj := ?_, rowused := h.rowused, wf := ?_ }
  rotate_left 3
  · intro av hi
    simp only [St.drop, List.mem_map] at hi
    obtain ⟨av0, h1, rfl⟩ := hi
    exact drop_wf (h.wf av0 h1)
  · intro i av hi
    simp only [St.drop, List.getElem?_map, Option.map_eq_some_iff] at hi
    obtain ⟨av0, h1, rfl⟩ := hi
    have := h.slot i av0 h1
    cases av0 with
    | v ty x g => exact ⟨this.1, keep this.2⟩
    | _ => exact this
  · intro b bx hb
    simp only [St.drop, List.mem_map] at hb
    obtain ⟨⟨b0, x0⟩, h1, q⟩ := hb
    cases q
    obtain ⟨q1, q2, q3, cs, tid, q4, q5⟩ := h.box b0 x0 h1
    refine ⟨q1, q2, q3, cs, tid, q4, ?_⟩
    cases x0 with
    | var t x g => exact ⟨q5.1, keep q5.2⟩
    | row ety e n l => exact q5
  · intro b b1 x x1 h1 h2 q
    simp only [St.drop, List.mem_map] at h1 h2
    obtain ⟨⟨b0, x0⟩, q1, e1⟩ := h1
    obtain ⟨⟨b2, x2⟩, q2, e2⟩ := h2
    cases e1
    cases e2
    exact h.boxinj b0 b2 x0 x2 q1 q2 q
theorem RelG.drew (h : RelG M w0 F0 F γ ρ s a w) : RelG M w0 F0 F γ ρ s a w.drew := h.grow (World.drew_grow F w) h.fin
/-- The append took a new row. -/
theorem RelG.grown (h : RelG M w0 F0 F γ ρ s a w) {d t cap : Nat} (hd : s.used.testBit d = false) {l : List (El e)} {cs zs : List Value} (hr : RowC F w e l cs) (hl : l.length ≤ cap) (hc : cap ≤ maxLen) (hz : zs.length = (cap - l.length) * e.size) :
    ∃ F1 ρ1, RelG M w0 F0 F1 γ ρ1 (((s.drop t).use d).put (some d) (.v (.sl e) l [⟨0, d + 1, e0, e.size⟩])) (a.put (some d) (.slice (some ⟨w.heap.size, 0, none⟩) l.length cap)) (w.drew.alloc (.cells (cs ++ zs).toArray e0)) := by
  have h1 := (h.drew.dropT t).newRow d (l.length * e.size) hd (.cells (cs ++ zs).toArray e0)
  refine ⟨_, _, h1.put (some d) (av := .v (.sl e) l [⟨0, d + 1, e0, e.size⟩]) (whole_rep (w := w) (F := F) (cap := cap) (cur := cs ++ zs) hr ?_ hl hc (heap_alloc_new w.drew _) (fun j v hv => ?_) ?_ ?_ (.inl h.below.size) ?_) trivial⟩
  · exact (World.drew_grow F w).ext h.fin |>.trans ((alloc_grow (F := F) (w := w.drew) h.fin _ _).ext h.fin)
  · rw [List.getElem?_append_left (List.getElem?_eq_some_iff.1 hv).1]
    exact hv
  · exact if_pos rfl
  · rw [List.length_append, hr.1, hz, ← Nat.add_mul]
    congr 1
    omega
  · exact if_pos rfl
theorem append_sound (hT : TabOk P T) (h : RelG M w0 F0 F γ ρ s a w) {t d ty nm : Nat} {x y : Operand} {av : AV} (ha : (appendT T t d (s.ev x) (s.ev y) s.used).val = some (av, nm)) :
    ∃ v w1 F1 ρ1, (Builtin.append_ #[t, t] ty #[a.eval x, a.eval y]).run P w = .ok v w1 ∧ RelG M w0 F0 F1 γ ρ1 (((s.drop (nm + 1)).use d).put (some d) av) (a.put (some d) v) w1 := by
  unfold appendT at ha
  split at ha
  · rename_i e0 hdd
    split at ha
    · rename_i c
      obtain ⟨hd, hby⟩ := c
      split at ha
      · rename_i l n m g hx hy
        split at ha
        case isFalse => exact (val_fail ha).elim
        obtain ⟨hlim, ha⟩ := val_tst ha
        have ha := val_ret ha
        cases ha
        obtain ⟨hu, ht, h3, hsz0⟩ := (hT.row (row_ne hdd (by simp))).sl hdd
        obtain ⟨inf, u, hi, hu2, hsz, hbt, hz, _⟩ := (hT.row h3).ex
        have hzk := (hT.row h3).zok
        generalize T.ty e0 = E at *
        obtain ⟨hvx, te, te1, te2, te3, htag⟩ := ownA_rep (h.ev x) hx
        obtain ⟨hvy, _⟩ := AV.as_rep (h.ev y) hy
        have hnone : ρ d = none := by
          cases q : ρ d with
          | none => rfl
          | some g => rw [h.rowused d g q] at hd; cases hd
        have hmax : l.length + m.length ≤ maxLen := by
          have : l.length + m.length ≤ (l.length + m.length) * (T.row e0).bytes := Nat.le_mul_of_pos_right _ hby
          simp only [maxLen]
          omega
        have hz2 : (pack E (zeroOf E)).cells = (zeroOf E).toArray := pack_cells (zeroOf_rep F w _ hzk)
        have hzl : (pack E (zeroOf E)).cells.size = E.size := by rw [hz2]; simp [zeroOf_len]
        generalize a.eval x = vx at *
        generalize a.eval y = vy at *
        obtain ⟨A, c, rfl, hc1, hc2⟩ := rep_sl hvy
        by_cases hm : m.length = 0
        · -- nothing
          have hm0 : m = [] := List.length_eq_zero_iff.1 hm
          subst hm0
          have hsrc : Src P inf.size t (.slice A ([] : List (El E)).length c) 0 [] w := by
            refine ⟨.inl ⟨_, hu⟩, fun _ => rfl, ?_, ?_, by simp, fun u hu => by cases hu⟩
            · cases A with
              | none => rfl
              | some b => simp [Builtin.firstCells]; exact run_loadCells_list w b [] (fun _ _ hv => by simp at hv)
            · cases A with
              | none => rfl
              | some b => simp [Builtin.firstCells]; exact run_loadCells_list w.drew b [] (fun _ _ hv => by simp at hv)
          rw [List.append_nil]
          rcases htag with ⟨A0, rfl⟩ | ⟨k, g1, len, cap, cur, q1, rfl, q2, q3, q4, q5, q6, q7, q8⟩
          · refine ⟨_, _, F, ρ, run_append_nothing w t t ty e0 inf hu hi A0 0 0 (Nat.le_refl _) _ hsrc, ?_⟩
            refine (h.turn (Turn.names h.fin fun _ _ _ hg => hg) d hd (fun _ _ hg _ => hg) (fun g hg => by rw [hnone] at hg; cases hg) (fun g hg => by rw [hnone] at hg; cases hg)).put (some d) ⟨hvx, fun te hte => ?_⟩ trivial
            rw [List.mem_singleton.1 hte]
            exact ⟨_, rfl, .inl ⟨_, rfl⟩⟩
          · have hn : n = k + 1 := by omega
            subst hn
            rw [if_neg (by omega), show k + 1 - 1 = k from rfl]
            have hkd : k ≠ d := fun q => by rw [q, hnone] at q2; cases q2
            refine ⟨_, _, F, fun j => if j = d then some g1 else if j = k then none else ρ j, run_append_nothing w t t ty e0 inf hu hi _ _ _ q7 _ hsrc, ?_⟩
            refine (h.turn (Turn.names h.fin fun j g hj hg => ?_) d hd (fun j g hg hj => ?_) (fun g hg => ?_) (fun g hg hlt j hj hg2 => ?_)).put (some d) ⟨hvx, fun te hte => ?_⟩ trivial
            · rw [if_neg (fun q => by rw [q, hnone] at hg; cases hg), if_neg hj]
              exact hg
            · rw [if_neg hj] at hg
              split at hg
              · cases hg
              · exact hg
            · rw [if_pos rfl] at hg
              cases hg
              exact ⟨h.rowlt k _ q2, fun _ => q2⟩
            · rw [if_pos rfl] at hg
              cases hg
              rw [if_neg hj] at hg2
              split at hg2
              · cases hg2
              · rename_i hjk
                exact hjk (h.rowinj j k _ hg2 q2)
            · rw [List.mem_singleton.1 hte]
              rw [te2] at q5
              rw [te3] at q4 q6
              exact ⟨_, rfl, .inr ⟨d, g1, len, cap, cur, rfl, rfl, if_pos rfl, q3, q4, q5, q6, q7, q8⟩⟩
        · obtain ⟨b, o, rfl, hF, hcell⟩ := hc2 (by omega)
          obtain ⟨news, hnw, hnc⟩ := row_cells hsz0 hcell
          have hn1 : news.length = m.length * inf.size := by rw [hsz]; exact hnw.1
          have hnc1 : ∀ j v, news[j]? = some v → w.cell? ((⟨b, o, none⟩ : Addr).add j) = some v := fun j v hv => by rw [Addr.add_mid]; exact hnc j v hv
          rcases htag with ⟨A0, rfl⟩ | ⟨k, g1, len, cap, cur, q1, rfl, q2, q3, q4, q5, q6, q7, q8⟩
          · have hl0 : l = [] := by
              obtain ⟨A1, c1, e1, _⟩ := rep_sl hvx
              injection e1 with _ e2 _
              exact List.length_eq_zero_iff.1 e2.symm
            subst hl0
            simp only [List.length_nil, Nat.zero_add] at hlim hmax
            have hcm := grownCap_le_maxLen w m.length 0 e0 hmax
            have hcg := grownCap_ge w m.length 0 e0
            obtain ⟨F1, ρ1, hR⟩ := h.grown (e0 := e0) (t := (if n = 0 then d else n - 1) + 1) (cap := grownCap w m.length 0 e0) (zs := (Builtin.zeroCells (pack E (zeroOf E)).cells (grownCap w m.length 0 e0 - m.length)).toList) hd hnw hcg hcm (by rw [Array.length_toList, size_zeroCells, hzl])
            have hrun : (Builtin.append_ #[t, t] ty #[.slice A0 0 0, .slice (some ⟨b, o, none⟩) m.length c]).run P w = .ok (.slice (some ⟨w.heap.size, 0, none⟩) m.length (grownCap w m.length 0 e0)) (w.drew.alloc (.cells (news.toArray ++ Builtin.zeroCells (pack E (zeroOf E)).cells (grownCap w m.length 0 e0 - m.length)) e0)) := by
              cases A0 with
              | none => exact run_append_nil w t ty e0 inf _ hu hi hz _ m.length c news hn1 hnc1 (by omega) (by simp only [maxLen] at hmax; omega) (by rw [hbt]; omega)
              | some ad =>
                have := run_append_grow w t ty e0 inf _ hu hi hz ad 0 0 [] (by simp) (fun j v hv => by simp at hv) _ m.length c news hn1 hnc1 (by omega) (by simp only [maxLen] at hmax; omega) (growslice_fits (by omega) (by rw [hbt]; simpa using hlim))
                simpa using this
            refine ⟨_, _, F1, ρ1, hrun, ?_⟩
            have e1 : (news ++ (Builtin.zeroCells (pack E (zeroOf E)).cells (grownCap w m.length 0 e0 - m.length)).toList).toArray = news.toArray ++ Builtin.zeroCells (pack E (zeroOf E)).cells (grownCap w m.length 0 e0 - m.length) := by apply Array.ext'; simp
            rw [e1] at hR
            exact hR
          · have hn : n = k + 1 := by omega
            subst hn
            rw [if_neg (by omega), show k + 1 - 1 = k from rfl]
            have hkd : k ≠ d := fun q => by rw [q, hnone] at q2; cases q2
            rw [te2] at q5
            rw [te3] at q4 q6
            obtain ⟨A1, c1, e1, hcc, hold⟩ := rep_sl hvx
            injection e1 with eA el ec
            subst el ec
            have hpl : ∃ olds, RowC F w E l olds ∧ ∀ (k : Nat) (u : Value), olds[k]? = some u → w.cell? ⟨g1, 0 + k, none⟩ = some u := by
              rcases Nat.eq_zero_or_pos l.length with q | q
              · have : l = [] := List.length_eq_zero_iff.1 q
                subst this
                exact ⟨[], ⟨by simp, fun j x hj => by simp at hj⟩, fun k u hu => by simp at hu⟩
              · obtain ⟨b2, o2, eb, _, hcell2⟩ := hold q
                rw [← eA] at eb
                cases eb
                exact row_cells hsz0 hcell2
            obtain ⟨olds, ho, hoc⟩ := hpl
            have hoc1 : ∀ j v, olds[j]? = some v → w.cell? ((⟨g1, 0, none⟩ : Addr).add j) = some v := fun j v hv => by rw [Addr.add_mid]; exact hoc j v hv
            by_cases hroom : l.length + m.length ≤ cap
            · have hsum : l.length * E.size + m.length * E.size ≤ cap * E.size := by rw [← Nat.add_mul]; exact Nat.mul_le_mul_right _ hroom
              have hfit : l.length * inf.size + news.length ≤ cur.size := by rw [hsz, q6, hnw.1]; exact hsum
              have hrun := run_append_room (P := P) w t ty e0 inf hu hi g1 l.length cap cur q5 ⟨b, o, none⟩ m.length c news hn1 hnc1 (fun u hu => one_eq (hnw.one hsz0 u hu)) hroom hfit
              rw [hsz] at hrun
              have htake : cur.toList.take (l.length * E.size) = olds := by
                apply List.ext_getElem?
                intro k1
                rw [List.getElem?_take]
                split
                · rename_i hk1
                  have hk2 : k1 < olds.length := by rw [ho.1]; exact hk1
                  have := hoc k1 _ (List.getElem?_eq_getElem hk2)
                  rw [Nat.zero_add] at this
                  unfold World.cell? at this
                  simp only [q5] at this
                  rw [List.getElem?_eq_getElem hk2, ← this]
                  simp
                · rename_i hk1
                  rw [List.getElem?_eq_none (by rw [ho.1]; omega)]
              rw [htake] at hrun
              have hFle : ∀ b1, F b1 ≤ (fun b1 => if b1 = g1 then (l.length + m.length) * E.size else F b1) b1 := fun b1 => by
                simp only
                split
                · rename_i q; subst q; rw [q4, Nat.add_mul]; omega
                · exact Nat.le_refl _
              have hlt1 := h.rowlt k g1 q2
              have hheap := setRow_heap w g1 cur (olds ++ news ++ cur.toList.drop (l.length * E.size + news.length)).toArray e0 (0, 0) q5
              have htn : Turn M w0 k F w ρ (fun b1 => if b1 = g1 then (l.length + m.length) * E.size else F b1) (w.setRow g1 (olds ++ news ++ cur.toList.drop (l.length * E.size + news.length)).toArray) (fun j => if j = d then some g1 else if j = k then none else ρ j) := by
                refine ⟨⟨hFle, fun b1 o1 v1 ho1 hv1 => ?_⟩, fun j g hj hg => ?_, fun b1 hb1 hb2 => ?_, rfl, rfl, rfl, by simp, fun b1 hb1 hM => setRow_other w g1 b1 _ (fun q => by rcases q3 with z | z; (· omega); (· exact hM (by rw [q]; exact z))), fun b1 hb1 hM => if_neg (fun q => by rcases q3 with z | z; (· omega); (· exact hM (by rw [q]; exact z))), fun b1 hb1 => ?_⟩
                · by_cases c : b1 = g1
                  · subst c
                    rw [q4] at ho1
                    rw [cell_setRow_same w b1 o1 cur _ e0 (0, 0) q5]
                    have ho2 : o1 < olds.length := by rw [ho.1]; exact ho1
                    rw [List.getElem?_toArray, List.append_assoc, List.getElem?_append_left ho2, List.getElem?_eq_getElem ho2]
                    have := hoc o1 _ (List.getElem?_eq_getElem ho2)
                    rw [Nat.zero_add] at this
                    rw [← this]
                    exact hv1
                  · rw [cell_setRow_other w g1 _ _ c]
                    exact hv1
                · have hgg : g ≠ g1 := fun q => hj (h.rowinj j k g1 (by rw [← q]; exact hg) q2)
                  refine ⟨?_, setRow_other w g1 g _ hgg, if_neg hgg⟩
                  rw [if_neg (fun q => by rw [q, hnone] at hg; cases hg), if_neg hj]
                  exact hg
                · have hbg : b1 ≠ g1 := fun q => hb2 (by rw [q]; exact q2)
                  exact ⟨setRow_other w g1 b1 _ hbg, if_neg hbg⟩
                · rw [setRow_size]
                  split at hb1
                  · omega
                  · exact h.fin b1 hb1
              refine ⟨_, _, _, _, hrun, (h.turn htn d hd (fun j g hg hj => ?_) (fun g hg => ?_) (fun g hg hlt j hj hg2 => ?_)).put (some d) (av := .v (.sl E) (l ++ m) [⟨0, d + 1, e0, E.size⟩]) ?_ trivial⟩
              · rw [if_neg hj] at hg
                split at hg
                · cases hg
                · exact hg
              · rw [if_pos rfl] at hg
                cases hg
                exact ⟨by rw [setRow_size]; exact hlt1, fun _ => q2⟩
              · rw [if_pos rfl] at hg
                cases hg
                rw [if_neg hj] at hg2
                split at hg2
                · cases hg2
                · rename_i hjk
                  exact hjk (h.rowinj j k _ hg2 q2)
              · have := whole_rep (B := own M w0) (γ := γ) (e0 := e0) (cap := cap) (d := d) (ρ1 := fun j => if j = d then some g1 else if j = k then none else ρ j) (RowC.append ho hnw) htn.ext (by rw [List.length_append]; exact hroom) q8 hheap (fun j v hv => by rw [List.getElem?_append_left (List.getElem?_eq_some_iff.1 hv).1]; exact hv) (by rw [if_pos rfl, List.length_append]) (by
                  rw [List.length_append, List.length_append, ho.1, List.length_drop, hnw.1]
                  have : cur.toList.length = cap * E.size := by simpa using q6
                  omega) q3 (if_pos rfl)
                rw [List.length_append] at this
                exact this
            · have hcm := grownCap_le_maxLen w (l.length + m.length) cap e0 hmax
              have hcg := grownCap_ge w (l.length + m.length) cap e0
              obtain ⟨F1, ρ1, hR⟩ := h.grown (e0 := e0) (t := k + 1) (cap := grownCap w (l.length + m.length) cap e0) (zs := (Builtin.zeroCells (pack E (zeroOf E)).cells (grownCap w (l.length + m.length) cap e0 - (l.length + m.length))).toList) hd (RowC.append ho hnw) (by rw [List.length_append]; exact hcg) hcm (by rw [Array.length_toList, size_zeroCells, hzl, List.length_append])
              refine ⟨_, _, F1, ρ1, run_append_grow w t ty e0 inf _ hu hi hz ⟨g1, 0, none⟩ l.length cap olds (by rw [hsz]; exact ho.1) hoc1 _ m.length c news hn1 hnc1 (by omega) (by simp only [maxLen] at hmax; omega) (growslice_fits (by omega) (by rw [hbt]; exact hlim)), ?_⟩
              have e1 : (olds ++ news ++ (Builtin.zeroCells (pack E (zeroOf E)).cells (grownCap w (l.length + m.length) cap e0 - (l.length + m.length))).toList).toArray = olds.toArray ++ news.toArray ++ Builtin.zeroCells (pack E (zeroOf E)).cells (grownCap w (l.length + m.length) cap e0 - (l.length + m.length)) := by apply Array.ext'; simp
              rw [e1, List.length_append] at hR
              exact hR
      · exact (val_fail ha).elim
    · exact (val_fail ha).elim
  · exact (val_fail ha).elim
end
end Go.Sym
end
section
namespace Go.Sym
open Go.RowKit
set_option linter.unusedVariables false
set_option linter.unusedSimpArgs false

def setBx (b : Nat) (X : Bx) : List (Nat × Bx) → List (Nat × Bx)
  | [] => []
  | (b1, Y) :: r => if b1 = b then (b, X) :: r else (b1, Y) :: setBx b X r
def bxN : Bx → Option Nat
  | .row _ _ n _ => some n
  | _ => none
def single (bx : List (Nat × Bx)) (b : Nat) : Bool := (bx.filter fun q => q.1 == b).length == 1
/-- A store: into a variable, a place of a row, an array as a whole. -/
def storeT (T : Tab) (t : Nat) (p x : AV) (bx : List (Nat × Bx)) : Option (List (Nat × Bx)) := if (T.row t).d = .other then none else match p with
  | .ptr b off => match single bx b, bx.lookup b with
    | true, some (.var u y g) => match x.as (T.ty t) with
      | some (z, gz) => (setEl u y off (T.ty t) z).map fun y1 => setBx b (.var u y1 (setG g off (T.ty t).size gz)) bx
      | none => none
    | true, some (.row _ e n _) => match isArr (T.row t).d with
      | some (m, e0) => if m = n ∧ T.ty e0 = e ∧ off = 0 then match x.as (rep e n) with
        | some (z, _) => some (setBx b (.row 0 e n (arrL e n z)) bx)
        | none => none else none
      | none => none
    | _, _ => none
  | .mel e b i off => match single bx b, bx.lookup b with
    | true, some (.row ety e1 n l) => match castEl (.sl e1) (.sl e) l, x.as (T.ty t) with
      | some l, some (z, _) => (setEl e (l.getD i (dflt e)) off (T.ty t) z).map fun y1 => setBx b (.row ety e n (l.set i y1)) bx
      | _, _ => none
    | _, _ => none
  | _ => none
/-- A variable: an array of more than two places is a row. -/
def allocT (T : Tab) (t : Nat) (d : Option Nat) (s : St) : Tree St := match d with
  | some d => if (T.row t).d = .other then .fail else match isArr (T.row t).d with
    | some (n, e) => if 3 ≤ n ∧ n ≤ 4096 then .ret ((s.newBox d (.row 0 (T.ty e) n (arrL (T.ty e) n (dflt (rep (T.ty e) n))))).put (some d) (.ptr d 0)) else .ret ((s.newBox d (.var (T.ty t) (dflt (T.ty t)) (zeroGT T t))).put (some d) (.ptr d 0))
    | none => .ret ((s.newBox d (.var (T.ty t) (dflt (T.ty t)) (zeroGT T t))).put (some d) (.ptr d 0))
  | none => .fail
def boxT (T : Tab) (t : Nat) (x : Operand) (d : Option Nat) (s : St) : Tree St := match d with
  | some d => match isArr (T.row t).d with
    | some (n, e) => if 3 ≤ n ∧ n ≤ 4096 then optT (((s.ev x).as (rep (T.ty e) n)).map fun p => (s.newBox d (.row 0 (T.ty e) n (arrL (T.ty e) n p.1))).put (some d) (.ptr d 0)) else optT (((s.ev x).as (T.ty t)).map fun p => (s.newBox d (.var (T.ty t) p.1 p.2)).put (some d) (.ptr d 0))
    | none => optT (((s.ev x).as (T.ty t)).map fun p => (s.newBox d (.var (T.ty t) p.1 p.2)).put (some d) (.ptr d 0))
  | none => .fail
def stT (T : Tab) (t : Nat) (p x : Operand) (d : Option Nat) (s : St) : Tree St := optT ((storeT T t (s.ev p) (s.ev x) s.boxes).map fun bx => { s with boxes := bx }.put d .junk)
def sameOp : Operand → Operand → Bool
  | .tmp i, .tmp j => i == j
  | .const (.int _ a), .const (.int _ b) => a == b
  | _, _ => false
def zeroOp : Operand → Bool
  | .const (.int _ 0) => true
  | _ => false
/-- A slice made: to be written, or (if it has no elements yet) to be appended to. -/
def mkT (T : Tab) (t : Nat) (len cap : Operand) (d : Option Nat) (s : St) : Tree St := match d, (T.row t).d with
  | some d, .sl e0 => if (T.row e0).bytes = 0 then .fail else match sameOp len cap, zeroOp len && !s.used.testBit d with
    | true, _ => withInt (s.ev len) fun n => tst (0 ≤ n) (tst (n * (T.row e0).bytes ≤ 281474976710656) (.ret ((s.newBox d (.row e0 (T.ty e0) n.toNat (List.replicate n.toNat (dflt (T.ty e0))))).put (some d) (.mw (T.ty e0) d n.toNat))))
    | false, true => withInt (s.ev cap) fun n => tst (0 ≤ n) (tst (n * (T.row e0).bytes ≤ 281474976710656) (.ret ((s.use d).put (some d) (.v (.sl (T.ty e0)) [] [⟨0, d + 1, e0, (T.ty e0).size⟩]))))
    | false, false => .fail
  | _, _ => .fail
/-- The bytes of a string, as numbers. -/
def byL (s : ByteArray) : List Int := s.data.toList.map fun b => (b.toNat : Int)
def bytesT (T : Tab) (src dst : Nat) (x : Operand) (d : Option Nat) (s : St) : Tree St := match d, (T.row dst).d, s.ev x with
  | some d, .sl e, .v .str v _ => if (T.row e).d = .int .u8 ∧ (T.row src).d = .str then .ret (s.put (some d) (.v (.sl (.int .u8)) (byL v) [])) else .fail
  | _, _, _ => .fail
def clearT (T : Tab) (t : Nat) (x : AV) (bx : List (Nat × Bx)) : Option (List (Nat × Bx)) := match x with
  | .mr e b lo n => match single bx b, bx.lookup b with
    | true, some (.row ety e1 m l) => if (T.row t).d = .sl (slE T t) ∧ T.ty t = .sl e then (castEl (.sl e1) (.sl e) l).map fun l => setBx b (.row ety e m (l.take lo ++ List.replicate n (dflt e) ++ l.drop (lo + n))) bx else none
    | _, _ => none
  | _ => none
section
variable {P : Program} {T : Tab} {M : Nat → Prop} {w0 w : World} {F0 F : Nat → Nat} {γ : Nat → Nat} {ρ : Nat → Option Nat} {s : St} {a : Act} {B : Nat → Prop} {e : Ty}
theorem setBx_mem {b : Nat} {X : Bx} : ∀ {bx : List (Nat × Bx)} {b2 : Nat} {X2 : Bx}, single bx b = true → (b2, X2) ∈ setBx b X bx → (b2 = b ∧ X2 = X) ∨ ((b2, X2) ∈ bx ∧ b2 ≠ b)
  | (b1, Y) :: r, b2, X2, h1, h => by
    unfold setBx at h
    unfold single at h1
    split at h
    · rename_i c
      subst c
      rcases List.mem_cons.1 h with q | q
      · cases q
        exact .inl ⟨rfl, rfl⟩
      · refine .inr ⟨List.mem_cons_of_mem _ q, fun z => ?_⟩
        subst z
        rw [List.filter_cons_of_pos (by simp), List.length_cons, beq_iff_eq] at h1
        have : 0 < (r.filter fun q => q.1 == b2).length := List.length_pos_of_mem (List.mem_filter.2 ⟨q, by simp⟩)
        omega
    · rename_i c
      rw [List.filter_cons_of_neg (by simpa using c)] at h1
      rcases List.mem_cons.1 h with q | q
      · cases q
        exact .inr ⟨List.mem_cons_self, c⟩
      · rcases setBx_mem (bx := r) h1 q with k | k
        · exact .inl k
        · exact .inr ⟨List.mem_cons_of_mem _ k.1, k.2⟩
theorem setBx_lookup {b : Nat} {X : Bx} : ∀ {bx : List (Nat × Bx)} {c : Nat}, (setBx b X bx).lookup c = if c = b then (bx.lookup b).map fun _ => X else bx.lookup c
  | [], c => by
    rw [setBx]
    split <;> rfl
  | (b1, Y) :: r, c => by
    unfold setBx
    split
    · rename_i q
      subst q
      rw [List.lookup_cons, List.lookup_cons, List.lookup_cons]
      by_cases z : c = b1
      · subst z; simp
      · rw [if_neg z, show (c == b1) = false from by rw [beq_eq_false_iff_ne]; exact z]
    · rename_i q
      rw [List.lookup_cons, setBx_lookup, List.lookup_cons, List.lookup_cons, show (b == b1) = false from by rw [beq_eq_false_iff_ne]; exact fun z => q z.symm]
      by_cases z : c = b
      · subst z
        rw [show (c == b1) = false from by rw [beq_eq_false_iff_ne]; exact fun z => q z.symm]
      · rw [if_neg z, if_neg z]
/-- A block of the call's own is written. -/
theorem RelG.write (h : RelG M w0 F0 F γ ρ s a w) {b : Nat} {X X1 : Bx} {cs ds : List Value} {tid : Nat} (hX : s.boxes.lookup b = some X) (hone : single s.boxes b = true) (q4 : w.heap[γ b]? = some (.cells cs.toArray tid (0, 0)))
    (hN : bxN X1 = bxN X) (hIs : X1.Is F w (own M w0) ρ ds tid) : RelG M w0 F0 F γ ρ { s with boxes := setBx b X1 s.boxes } a (w.setRow (γ b) ds.toArray) := by
  have hm := lookup_mem hX
  obtain ⟨q1, q2, q3, _, _, _, _⟩ := h.box b X hm
  have hext : Ext F w F (w.setRow (γ b) ds.toArray) := ⟨fun _ => Nat.le_refl _, fun b1 o1 v1 ho hv1 => by
    rw [cell_setRow_other w (γ b) _ _ (fun q => by simp only at q; rw [q, q2] at ho; omega)]
    exact hv1⟩
  have hother : ∀ k, k ≠ γ b → (w.setRow (γ b) ds.toArray).heap[k]? = w.heap[k]? := fun k hk => setRow_other w (γ b) k _ hk
  have hsize : (w.setRow (γ b) ds.toArray).heap.size = w.heap.size := setRow_size w _ _
  have hheap := setRow_heap w (γ b) cs.toArray ds.toArray tid (0, 0) q4
  have hos : (w.setRow (γ b) ds.toArray).os = w.os := rfl
  have htape : (w.setRow (γ b) ds.toArray).tape = w.tape := rfl
  have hout : (w.setRow (γ b) ds.toArray).output = w.output := rfl
  generalize w.setRow (γ b) ds.toArray = w1 at *
  have htag : ∀ {te : TE} {u : Value}, TagV F w (own M w0) ρ te u → TagV F w1 (own M w0) ρ te u := by
    intro te u ht
    rcases ht with ht | ⟨n, b2, len, cap, cur, k1, rfl, k2, k3, k4, k5, k6⟩
    · exact .inl ht
    · exact .inr ⟨n, b2, len, cap, cur, k1, rfl, k2, k3, k4, by rw [hother b2 (fun q => q3 n (by rw [← q]; exact k2))]; exact k5, k6⟩
  have htags : ∀ {g : List TE} {cs : Array Value}, TagsV F w (own M w0) ρ g cs → TagsV F w1 (own M w0) ρ g cs := fun ht te hte => by
    obtain ⟨u, k1, k2⟩ := ht te hte
    exact ⟨u, k1, htag k2⟩
  have hIsW : ∀ {Y : Bx} {es : List Value} {t2 : Nat}, Y.Is F w (own M w0) ρ es t2 → Y.Is F w1 (own M w0) ρ es t2 := by
    intro Y es t2 hy
    cases Y with
    | var t x g => exact ⟨hy.1.ext hext, htags hy.2⟩
    | row ety e n l => exact ⟨hy.1.ext hext, hy.2⟩
  have hrowN : ∀ c, rowN (setBx b X1 s.boxes) c = rowN s.boxes c := by
    intro c
    unfold rowN
    rw [setBx_lookup]
    by_cases z : c = b
    · subst z
      rw [if_pos rfl, hX]
      rw [Option.map_some]
      cases X1 <;> cases X <;> first | rfl | exact hN | cases hN
    · rw [if_neg z]
  refine { h with below := h.below.step hos htape hout (by rw [hsize]; exact Nat.le_refl _) (fun k hk hM => hother k (fun q => by rcases q1 with z | z; (· omega); (· exact hM (by rw [q]; exact z)))), ext := h.ext.trans hext, fin := fun k hk => by rw [hsize]; exact h.fin k hk, slot := ?_, box := ?_, boxinj := ?_, rowlt := fun n g hn => by rw [hsize]; exact h.rowlt n g hn, rowused := h.rowused, len := h.len, wf := ?_ }
  · intro i av hi1
    have hav := h.slot i av hi1
    cases av with
    | v t x l => exact ⟨hav.1.ext hext, htags hav.2⟩
    | elt t l i off =>
      obtain ⟨b2, o, x, ds2, k1, k2, k3, k4, k5⟩ := hav
      refine ⟨b2, o, x, ds2, k1, k2, k3, k4.ext hext, fun j u hu => ?_⟩
      by_cases c : o + i * t.size + j < F b2
      · exact hext.same b2 _ u c (k5 j u hu)
      · have hi := (List.getElem?_eq_some_iff.1 k2).1
        have hj := (List.getElem?_eq_some_iff.1 hu).1
        rw [k4.len] at hj
        have : i * t.size + t.size ≤ l.length * t.size := by rw [← Nat.succ_mul]; exact Nat.mul_le_mul_right _ hi
        omega
    | tup t x z =>
      obtain ⟨vs, k1, k2, k3⟩ := hav
      exact ⟨vs, k1, k2.ext hext, k3⟩
    | _ => exact hav
  · intro b2 X2 hm2
    rcases setBx_mem hone hm2 with ⟨rfl, rfl⟩ | ⟨k1, k2⟩
    · exact ⟨q1, q2, q3, ds, tid, hheap, hIsW hIs⟩
    · obtain ⟨j1, j2, j3, cs2, tid2, j4, j5⟩ := h.box b2 X2 k1
      refine ⟨j1, j2, j3, cs2, tid2, ?_, hIsW j5⟩
      rw [hother _ (fun q => k2 (h.boxinj b2 b X2 X k1 hm q))]
      exact j4
  · intro b1 b2 y1 y2 m1 m2 ge
    have f1 : ∃ Z, (b1, Z) ∈ s.boxes := by
      rcases setBx_mem hone m1 with ⟨rfl, _⟩ | ⟨k, _⟩
      · exact ⟨_, hm⟩
      · exact ⟨_, k⟩
    have f2 : ∃ Z, (b2, Z) ∈ s.boxes := by
      rcases setBx_mem hone m2 with ⟨rfl, _⟩ | ⟨k, _⟩
      · exact ⟨_, hm⟩
      · exact ⟨_, k⟩
    obtain ⟨Z1, z1⟩ := f1
    obtain ⟨Z2, z2⟩ := f2
    exact h.boxinj b1 b2 Z1 Z2 z1 z2 ge
  · intro av hav
    have hw := h.wf av hav
    cases av with
    | mw e c n => exact fun m hm2 => hw m (by rw [← hrowN]; exact hm2)
    | mr e c lo n => exact fun m hm2 => hw m (by rw [← hrowN]; exact hm2)
    | mel e c i off => exact fun m hm2 => hw m (by rw [← hrowN]; exact hm2)
    | _ => trivial
theorem run_alloc (hT : TabOk P T) {t : Nat} (hd : (T.row t).d ≠ .other) (w : World) : (Instr.alloc t true (.tuple #[])).run P w = .ok (.pointer (some ⟨w.heap.size, 0, none⟩)) (w.alloc (.cells (zeroOf (T.ty t)).toArray t)) := by
  have hz := (hT.row hd).zeroValue w
  have hc : (pack (T.ty t) (zeroOf (T.ty t))).cells = (zeroOf (T.ty t)).toArray := pack_cells (zeroOf_rep (fun _ => 0) w _ (hT.row hd).zok)
  simp only [Instr.alloc, Sem.run_bind, hz, Result.andThen_ok]
  simp [newVar, newRow, hc]
theorem arr_is {F : Nat → Nat} {n : Nat} {x : El (rep e n)} {cs : List Value} {tid : Nat} (h : RepC F w (rep e n) x cs) (hs : 0 < e.size) (hn : n ≤ 4096) : (Bx.row 0 e n (arrL e n x)).Is F w B ρ cs tid := by
  obtain ⟨h1, h2⟩ := arr_row h
  exact ⟨h1, fun q => absurd rfl q, hs, h2, by simp only [maxLen]; omega⟩
theorem alloc_sound (hT : TabOk P T) (h : RelG M w0 F0 F γ ρ s a w) {t : Nat} {d : Option Nat} {s1 : St} (ha : (allocT T t d s).val = some s1) :
    ∃ v w1 γ1, (Instr.alloc t true (.tuple #[])).run P w = .ok v w1 ∧ RelG M w0 F0 F γ1 ρ s1 (a.put d v) w1 := by
  unfold allocT at ha
  split at ha
  · rename_i d
    split at ha
    · exact (val_fail ha).elim
    · rename_i hd
      have hz := zeroOf_rep F w (T.ty t) (hT.row hd).zok
      split at ha
      · rename_i n e harr
        have harr := isArr_eq harr
        obtain ⟨hu, ht, h3, hs⟩ := (hT.row hd).arr harr
        split at ha
        · rename_i hn
          cases val_ret ha
          refine ⟨_, _, _, run_alloc hT hd w, h.newBox d ?_⟩
          rw [ht] at hz ⊢
          exact arr_is hz hs hn.2
        · cases val_ret ha
          exact ⟨_, _, _, run_alloc hT hd w, h.newBox d ⟨hz, zeroGT_ok T t⟩⟩
      · cases val_ret ha
        exact ⟨_, _, _, run_alloc hT hd w, h.newBox d ⟨hz, zeroGT_ok T t⟩⟩
  · exact (val_fail ha).elim
theorem box_run {t : Nat} {v : Value} {cs : List Value} (hc : v.cells = cs.toArray) : (Instr.box t v).run P w = .ok (.pointer (some ⟨w.heap.size, 0, none⟩)) (w.alloc (.cells cs.toArray t)) := by
  simp [Instr.box, newVar, newRow, hc]
theorem box_sound (hT : TabOk P T) (h : RelG M w0 F0 F γ ρ s a w) {t : Nat} {d : Option Nat} {x : Operand} {s1 : St} (ha : (boxT T t x d s).val = some s1) :
    ∃ v w1 γ1, (Instr.box t (a.eval x)).run P w = .ok v w1 ∧ RelG M w0 F0 F γ1 ρ s1 (a.put d v) w1 := by
  have var : ∀ (d : Nat), (optT (((s.ev x).as (T.ty t)).map fun p => (s.newBox d (.var (T.ty t) p.1 p.2)).put (some d) (.ptr d 0))).val = some s1 → ∃ v w1 γ1, (Instr.box t (a.eval x)).run P w = .ok v w1 ∧ RelG M w0 F0 F γ1 ρ s1 (a.put (some d) v) w1 := by
    intro d ha
    obtain ⟨p, h1, rfl⟩ := Option.map_eq_some_iff.1 (val_opt ha)
    obtain ⟨⟨cs, k1, k2⟩, k3⟩ := AV.as_rep (h.ev x) h1
    have hc : (a.eval x).cells = cs.toArray := by rw [k2]; exact pack_cells k1
    rw [hc] at k3
    exact ⟨_, _, _, box_run hc, h.newBox d ⟨k1, k3⟩⟩
  unfold boxT at ha
  split at ha
  · rename_i d
    split at ha
    · rename_i n e harr
      have harr := isArr_eq harr
      obtain ⟨hu, ht, h3, hs⟩ := (hT.row (row_ne harr (by simp))).arr harr
      split at ha
      · rename_i hn
        obtain ⟨p, h1, rfl⟩ := Option.map_eq_some_iff.1 (val_opt ha)
        obtain ⟨⟨cs, k1, k2⟩, k3⟩ := AV.as_rep (h.ev x) h1
        have hc : (a.eval x).cells = cs.toArray := by rw [k2]; exact pack_cells k1
        exact ⟨_, _, _, box_run hc, h.newBox d (arr_is k1 hs hn.2)⟩
      · exact var d ha
    · exact var d ha
  · exact (val_fail ha).elim
/-- Where a place's part lies in a row's cells. -/
theorem cut_in {cs ds es : List Value} {A off n sz : Nat} (hes : es = (cs.drop A).take sz) (ho : off + n ≤ sz) (hA : A + sz ≤ cs.length) :
    cs.take (A + off) ++ ds ++ cs.drop (A + off + n) = cs.take A ++ (es.take off ++ ds ++ es.drop (off + n)) ++ cs.drop (A + sz) := by
  subst hes
  rw [List.take_take, Nat.min_eq_left (by omega), List.take_add, List.drop_take, List.drop_drop, ← Nat.add_assoc]
  have : cs.drop (A + off + n) = (cs.drop (A + off + n)).take (sz - (off + n)) ++ cs.drop (A + sz) := by
    rw [show cs.drop (A + sz) = (cs.drop (A + off + n)).drop (sz - (off + n)) from by rw [List.drop_drop]; congr 1; omega, List.take_append_drop]
  simp only [List.append_assoc]
  congr 3
theorem store_run (hT : TabOk P T) {t b o : Nat} (hd : (T.row t).d ≠ .other) {v : Value} {cs ds : List Value} {tid : Nat} (hc : v.cells = ds.toArray) (hl : ds.length = (T.ty t).size) (h1 : ∀ v ∈ ds, Sym.one v = true)
    (q4 : w.heap[b]? = some (.cells cs.toArray tid (0, 0))) (ho : o + ds.length ≤ cs.length) : (Instr.storeAt t (.pointer (some ⟨b, o, none⟩)) v).run P w = .ok () (w.setRow b (cs.take o ++ ds ++ cs.drop (o + ds.length)).toArray) := by
  obtain ⟨inf, u, hi, hu2, hsz, hbt, hz, _⟩ := (hT.row hd).ex
  have hst := run_storeCells_at P b o tid ds 0 cs.toArray w q4 (by simp; omega) (fun v hv => one_eq (h1 v hv))
  simp only [Nat.add_zero] at hst
  simp only [Instr.storeAt, Instr.sureAddr, Sem.run_bind, Sem.run_pure, Result.andThen_ok]
  simp [storeVar, sizeOf, typeInfo, hi, hc, hsz, hl] at hst ⊢
  exact hst
theorem store_sound (hT : TabOk P T) (h : RelG M w0 F0 F γ ρ s a w) {t : Nat} {p x : Operand} {bx1 : List (Nat × Bx)} (hs : storeT T t (s.ev p) (s.ev x) s.boxes = some bx1) :
    ∃ w1, (Instr.storeAt t (a.eval p) (a.eval x)).run P w = .ok () w1 ∧ RelG M w0 F0 F γ ρ { s with boxes := bx1 } a w1 := by
  have hpv := h.ev p
  have hwf := h.evwf p
  unfold storeT at hs
  split at hs
  · cases hs
  · rename_i hd
    split at hs
    · rename_i b off hp
      rw [hp] at hpv
      split at hs
      · rename_i u y g hone hX
        split at hs
        · rename_i z gz hx
          obtain ⟨y1, hset, rfl⟩ := Option.map_eq_some_iff.1 hs
          obtain ⟨q1, q2, q3, cs, tid, q4, q5, q6⟩ := h.box b _ (lookup_mem hX)
          obtain ⟨⟨ds, hds, hv⟩, hgy⟩ := AV.as_rep (h.ev x) hx
          have hc : (a.eval x).cells = ds.toArray := by rw [hv]; exact pack_cells hds
          rw [hc] at hgy
          obtain ⟨r1, r2⟩ := setEl_rep hds q5 hset
          have hl := q5.len
          have hdl := hds.len
          refine ⟨_, by rw [show a.eval p = _ from hpv]; exact store_run hT hd hc hdl hds.one q4 (by omega), h.write hX hone q4 rfl ⟨?_, ?_⟩⟩
          · rw [hdl]; exact r1
          · rw [hdl]; exact setG_ok q6 hgy off _ hdl (by omega)
        · cases hs
      · rename_i ety e n l hone hX
        split at hs
        · rename_i m e0 harr
          have harr := isArr_eq harr
          obtain ⟨hu, ht, h3, hsz⟩ := (hT.row hd).arr harr
          split at hs
          · rename_i hc0
            obtain ⟨hc1, hc2, hc3⟩ := hc0
            subst hc1 hc2 hc3
            split at hs
            · rename_i z gz hx
              cases hs
              obtain ⟨q1, q2, q3, cs, tid, q4, q5, q6, q7, q8, q9⟩ := h.box b _ (lookup_mem hX)
              obtain ⟨⟨ds, hds, hv⟩, hgy⟩ := AV.as_rep (h.ev x) hx
              have hc : (a.eval x).cells = ds.toArray := by rw [hv]; exact pack_cells hds
              have hdl := hds.len
              obtain ⟨r1, r2⟩ := arr_row hds
              have hlen : ds.length = cs.length := by rw [r1.1, q5.1, r2, q8]
              have hrun := store_run (P := P) hT hd hc (by rw [hdl, ht]) hds.one q4 (o := 0) (by omega)
              rw [List.take_zero, List.nil_append, List.drop_eq_nil_of_le (by omega), List.append_nil] at hrun
              refine ⟨_, by rw [show a.eval p = _ from hpv]; exact hrun, h.write hX hone q4 rfl ⟨r1, fun q => absurd rfl q, q7, r2, q9⟩⟩
            · cases hs
          · cases hs
        · cases hs
      · cases hs
    · rename_i e b i off hp
      rw [hp] at hpv hwf
      split at hs
      · rename_i ety e1 n l hone hX
        split at hs
        · rename_i l1 z gz hcast hx
          obtain ⟨y1, hset, rfl⟩ := Option.map_eq_some_iff.1 hs
          obtain ⟨q0, q01⟩ := castEl_eq hcast
          cases q0
          cases q01
          obtain ⟨q1, q2, q3, cs, tid, q4, q5, q6, q7, q8, q9⟩ := h.box b _ (lookup_mem hX)
          obtain ⟨⟨ds, hds, hv⟩, hgy⟩ := AV.as_rep (h.ev x) hx
          have hc : (a.eval x).cells = ds.toArray := by rw [hv]; exact pack_cells hds
          have hi : i < l.length := by rw [q8]; exact hwf n (by unfold rowN; rw [hX])
          obtain ⟨es, e1, e2⟩ := q5.2 i _ (List.getElem?_eq_getElem hi)
          rw [show l.getD i (dflt e) = l[i] from by rw [List.getD_eq_getElem?_getD, List.getElem?_eq_getElem hi]; rfl] at hset
          obtain ⟨r1, r2⟩ := setEl_rep hds e1 hset
          have hdl := hds.len
          have hle : i * e.size + e.size ≤ l.length * e.size := by rw [← Nat.succ_mul]; exact Nat.mul_le_mul_right _ hi
          have hcl := q5.1
          have hes : es = (cs.drop (i * e.size)).take e.size := by
            apply List.ext_getElem?
            intro z
            rw [List.getElem?_take]
            split
            · rename_i hz
              have hz2 : z < es.length := by rw [e1.len]; exact hz
              rw [List.getElem?_drop, e2 z _ (List.getElem?_eq_getElem hz2), List.getElem?_eq_getElem hz2]
            · rename_i hz
              rw [List.getElem?_eq_none (by rw [e1.len]; omega)]
          have hrow := q5.set r1 hi
          have hcut := cut_in (ds := ds) hes r2 (by omega)
          refine ⟨_, by rw [show a.eval p = _ from hpv]; exact store_run hT hd hc hdl hds.one q4 (by omega), h.write hX hone q4 rfl ⟨?_, q6, q7, by rw [List.length_set]; exact q8, q9⟩⟩
          rw [hdl, hcut]
          exact hrow
        · cases hs
      · cases hs
    · cases hs
theorem madeCells_eq (z : List Value) (n : Nat) : madeCells z.toArray n = ((List.range n).map fun k => z.toArray[k % z.toArray.size]!).toArray := by
  unfold madeCells
  apply Array.ext'
  simp
theorem mk_sound (hT : TabOk P T) (h : RelG M w0 F0 F γ ρ s a w) {t : Nat} {d : Option Nat} {len cap : Operand} {s1 : St} (ha : (mkT T t len cap d s).val = some s1) :
    ∃ v w1 F1 γ1 ρ1, (Instr.makeSlice t (a.eval len) (a.eval cap)).run P w = .ok v w1 ∧ RelG M w0 F0 F1 γ1 ρ1 s1 (a.put d v) w1 := by
  unfold mkT at ha
  split at ha
  · rename_i d e0 hdd
    split at ha
    · exact (val_fail ha).elim
    · rename_i hb0
      obtain ⟨hu, ht, h3, hs0⟩ := (hT.row (row_ne hdd (by simp))).sl hdd
      obtain ⟨inf, u, hi, hu2, hsz, hbt, hz, _⟩ := (hT.row h3).ex
      have hzk := (hT.row h3).zok
      have hz2 : (pack (T.ty e0) (zeroOf (T.ty e0))).cells = (zeroOf (T.ty e0)).toArray := pack_cells (zeroOf_rep F w _ hzk)
      split at ha
      · rename_i hsame
        obtain ⟨k, n, hl, h1⟩ := withInt_sound (h.ev len) ha
        obtain ⟨c1, h1⟩ := val_tst h1
        obtain ⟨c2, h2⟩ := val_tst h1
        cases val_ret h2
        have hcap : ∃ k2, a.eval cap = .int k2 n := by
          unfold sameOp at hsame
          split at hsame
          · rw [beq_iff_eq] at hsame
            subst hsame
            exact ⟨k, hl⟩
          · rename_i kk x kk2 y
            rw [beq_iff_eq] at hsame
            subst hsame
            have : Value.int kk x = Value.int k n := hl
            cases this
            exact ⟨kk2, rfl⟩
          · cases hsame
        obtain ⟨k2, hcap⟩ := hcap
        have hb1 : 1 ≤ (T.row e0).bytes := by omega
        have hnb : n ≤ n * (T.row e0).bytes := by
          have := Int.mul_le_mul_of_nonneg_left (show (1 : Int) ≤ ((T.row e0).bytes : Int) by omega) c1
          omega
        have hrun := run_make (P := P) w t e0 inf _ hu hi hz k k2 n n c1 (Int.le_refl _) (by rw [hbt, Int.mul_comm]; exact c2) (by omega)
        rw [hl, hcap, hrun, hz2, madeCells_eq, hsz]
        have hnew := h.newBox0 d (X := .row e0 (T.ty e0) n.toNat (List.replicate n.toNat (dflt (T.ty e0)))) (cs := (List.range (n.toNat * (T.ty e0).size)).map fun k => (zeroOf (T.ty e0)).toArray[k % (zeroOf (T.ty e0)).toArray.size]!) (tid := e0) ⟨RowC.zeros n.toNat hs0 hzk, fun _ => rfl, hs0, List.length_replicate, by simp only [maxLen]; omega⟩
        refine ⟨_, _, _, _, _, rfl, hnew.put (some d) ?_ (fun m hm => ?_)⟩
        · show Value.slice _ _ _ = Value.slice _ _ _
          simp only [if_pos]
        · unfold rowN at hm
          simp only [St.newBox, List.lookup_cons, beq_self_eq_true] at hm
          exact Option.some.inj hm
      · rename_i hz0
        rw [Bool.and_eq_true, Bool.not_eq_true'] at hz0
        obtain ⟨k, n, hl, h1⟩ := withInt_sound (h.ev cap) ha
        obtain ⟨c1, h1⟩ := val_tst h1
        obtain ⟨c2, h2⟩ := val_tst h1
        cases val_ret h2
        obtain ⟨k2, hlen⟩ : ∃ k2, a.eval len = .int k2 0 := by
          have := hz0.1
          unfold zeroOp at this
          split at this
          · exact ⟨_, rfl⟩
          · cases this
        have hb1 : 1 ≤ (T.row e0).bytes := by omega
        have hnb : n ≤ n * (T.row e0).bytes := by
          have := Int.mul_le_mul_of_nonneg_left (show (1 : Int) ≤ ((T.row e0).bytes : Int) by omega) c1
          omega
        have hrun := run_make (P := P) w t e0 inf _ hu hi hz k2 k 0 n (Int.le_refl _) c1 (by rw [hbt, Int.mul_comm]; exact c2) (by omega)
        rw [hl, hlen, hrun, hz2]
        have hN := h.newRow d 0 hz0.2 (.cells (madeCells (zeroOf (T.ty e0)).toArray (n.toNat * inf.size)) e0)
        refine ⟨_, _, _, _, _, rfl, hN.put (some d) ⟨⟨_, ⟨some ⟨w.heap.size, 0, none⟩, n.toNat, rfl, Nat.zero_le _, fun q => absurd q (by simp)⟩, rfl⟩, fun te hte => ?_⟩ trivial⟩
        rw [List.mem_singleton.1 hte]
        refine ⟨_, rfl, .inr ⟨d, w.heap.size, 0, n.toNat, _, rfl, rfl, if_pos rfl, .inl h.below.size, ?_, heap_alloc_new w _, by rw [size_madeCells, hsz], Nat.zero_le _, by simp only [maxLen]; omega⟩⟩
        simp
      · exact (val_fail ha).elim
  · exact (val_fail ha).elim
theorem byL_len (v : ByteArray) : (byL v).length = v.size := by
  unfold byL
  rw [List.length_map, Array.length_toList]
  rfl
theorem bytes_sound (hT : TabOk P T) (h : RelG M w0 F0 F γ ρ s a w) {src dst : Nat} {d : Option Nat} {x : Operand} {s1 : St} (ha : (bytesT T src dst x d s).val = some s1) :
    ∃ v w1 F1, (convert src dst (a.eval x)).run P w = .ok v w1 ∧ RelG M w0 F0 F1 γ ρ s1 (a.put d v) w1 := by
  unfold bytesT at ha
  split at ha
  · rename_i d e v g hdd hx
    split at ha
    · rename_i hc
      cases val_ret ha
      obtain ⟨hu, _, _, _⟩ := (hT.row (row_ne hdd (by simp))).sl hdd
      have hu8 := ((hT.row (row_ne hc.1 (by simp))).int hc.1).1
      have hus := ((hT.row (row_ne hc.2 (by simp))).str hc.2).1
      have hv := h.ev x
      rw [hx] at hv
      rw [rep_str hv.1]
      have hrun := Lib.run_convert_string_bytes (P := P) w src dst e v hus hu hu8
      have hb : Below w.heap.size w (Lib.bytesWorld w e v) := ⟨rfl, rfl, rfl, by rw [Lib.bytesWorld_size]; omega, fun k hk => Lib.bytesWorld_at_old w e v k hk⟩
      have hgr : Grow F w (fun b => if b = w.heap.size then v.size else F b) (Lib.bytesWorld w e v) := ⟨hb, fun b hb => if_neg (by omega)⟩
      have hG := h.grow hgr (fun b hb => by
        have hb : 0 < (if b = w.heap.size then v.size else F b) := hb
        rw [Lib.bytesWorld_size]
        split at hb
        · omega
        · have := h.fin b hb; omega)
      have hcap := grownCap_ge w v.size 0 e
      refine ⟨_, _, _, hrun, hG.put (some d) (mk_a ⟨_, ⟨_, grownCap w v.size 0 e, by rw [byL_len], by rw [byL_len]; exact hcap, fun hp => ⟨w.heap.size, 0, rfl, ?_, fun j y hj => ⟨[.int .u8 y], rfl, fun i u hu => ?_⟩⟩⟩, ?_⟩) trivial⟩
      · rw [byL_len, show (Ty.int IntKind.u8).size = 1 from rfl, Nat.mul_one, Nat.zero_add]
        show v.size ≤ if w.heap.size = w.heap.size then v.size else F w.heap.size
        rw [if_pos rfl]
        exact Nat.le_refl _
      · have hjl := (List.getElem?_eq_some_iff.1 hj).1
        rw [byL_len] at hjl
        have hi : i = 0 := by
          have := (List.getElem?_eq_some_iff.1 hu).1
          simp at this
          omega
        subst hi
        simp only [List.getElem?_cons_zero, Option.some.injEq] at hu
        subst hu
        rw [show (Ty.int IntKind.u8).size = 1 from rfl, Nat.mul_one, Nat.zero_add, Nat.add_zero, Lib.bytesWorld_cell w e v j hjl]
        congr 2
        simp only [byL, List.getElem?_map, Option.map_eq_some_iff] at hj
        obtain ⟨z, hz, rfl⟩ := hj
        rw [List.getD_eq_getElem?_getD, hz]
        rfl
      · rfl
    · exact (val_fail ha).elim
  · exact (val_fail ha).elim
theorem RowC.takeR {l : List (El e)} {cs : List Value} (h : RowC F w e l cs) (k : Nat) : RowC F w e (l.take k) (cs.take (k * e.size)) := by
  have key : k * e.size ≤ l.length * e.size ∨ l.length * e.size ≤ k * e.size := Nat.le_total _ _
  refine ⟨?_, fun j x hj => ?_⟩
  · rw [List.length_take, List.length_take, h.1]
    rcases Nat.le_total k l.length with q | q
    · rw [Nat.min_eq_left q, Nat.min_eq_left (Nat.mul_le_mul_right _ q)]
    · rw [Nat.min_eq_right q, Nat.min_eq_right (Nat.mul_le_mul_right _ q)]
  · rw [List.getElem?_take] at hj
    split at hj
    · rename_i hlt
      obtain ⟨ds, r1, r2⟩ := h.2 j x hj
      refine ⟨ds, r1, fun i v hv => ?_⟩
      have hi := (List.getElem?_eq_some_iff.1 hv).1
      rw [r1.len] at hi
      have : j * e.size + e.size ≤ k * e.size := by rw [← Nat.succ_mul]; exact Nat.mul_le_mul_right _ hlt
      rw [List.getElem?_take_of_lt (by omega)]
      exact r2 i v hv
    · cases hj
theorem RowC.dropR {l : List (El e)} {cs : List Value} (h : RowC F w e l cs) (k : Nat) : RowC F w e (l.drop k) (cs.drop (k * e.size)) := by
  refine ⟨by rw [List.length_drop, List.length_drop, h.1, Nat.sub_mul], fun j x hj => ?_⟩
  rw [List.getElem?_drop] at hj
  obtain ⟨ds, r1, r2⟩ := h.2 _ x hj
  refine ⟨ds, r1, fun i v hv => ?_⟩
  rw [List.getElem?_drop, ← Nat.add_assoc, ← Nat.add_mul]
  exact r2 i v hv
theorem clear_sound (hT : TabOk P T) (h : RelG M w0 F0 F γ ρ s a w) {t ty : Nat} {x : Operand} {bx1 : List (Nat × Bx)} (hs : clearT T t (s.ev x) s.boxes = some bx1) :
    ∃ w1, (Builtin.clear_ #[t] ty #[a.eval x]).run P w = .ok (.tuple #[]) w1 ∧ RelG M w0 F0 F γ ρ { s with boxes := bx1 } a w1 := by
  have hx := h.ev x
  have hwf := h.evwf x
  unfold clearT at hs
  split at hs
  · rename_i e b lo n hxv
    rw [hxv] at hx hwf
    split at hs
    · rename_i ety e1 m l hone hX
      split at hs
      · rename_i hd
        obtain ⟨l1, hc, rfl⟩ := Option.map_eq_some_iff.1 hs
        obtain ⟨q0, q01⟩ := castEl_eq hc
        cases q0
        cases q01
        obtain ⟨q1, q2, q3, cs, tid, q4, q5, q6, q7, q8, q9⟩ := h.box b _ (lookup_mem hX)
        obtain ⟨hu, ht, h3, hs0⟩ := (hT.row (row_ne hd.1 (by simp))).sl hd.1
        rw [hd.2] at ht
        cases ht
        have hzk := (hT.row h3).zok
        have hzv := (hT.row h3).zeroValue w
        have hzc : (pack (T.ty (slE T t)) (zeroOf (T.ty (slE T t)))).cells = (zeroOf (T.ty (slE T t))).toArray := pack_cells (zeroOf_rep (fun _ => 0) w _ hzk)
        generalize T.ty (slE T t) = E at *
        have hle := hwf m (by unfold rowN; rw [hX])
        obtain ⟨o, c, hv, h4, h5⟩ := hx
        rw [hv]
        rcases Nat.eq_zero_or_pos n with hn | hn
        · subst hn
          have hid : l.take lo ++ List.replicate 0 (dflt E) ++ l.drop (lo + 0) = l := by simp
          rw [hid]
          have hsame := h.write hX hone q4 (X1 := .row ety E m l) rfl (ds := cs) ⟨q5, q6, q7, q8, q9⟩
          rw [setRow_self w (γ b) cs.toArray tid (0, 0) q4] at hsame
          refine ⟨w, ?_, hsame⟩
          simp [Builtin.clear_, run_underlying hu]
        · have ho := h5 hn
          have hz := RowC.zeros (F := F) (w := w) n hs0 hzk
          have hmul : (lo + n) * E.size ≤ m * E.size := Nat.mul_le_mul_right _ hle
          rw [Nat.add_mul] at hmul
          have hcl := q5.1
          rw [q8] at hcl
          generalize hZ : (List.range (n * E.size)).map (fun k => (zeroOf E).toArray[k % (zeroOf E).toArray.size]!) = zs at hz
          have hzl : zs.length = n * E.size := by rw [← hZ]; simp
          have h1 := hz.one hs0
          have hst := run_storeCells_at P (γ b) o tid zs 0 cs.toArray w q4 (by simp; omega) (fun v hv => one_eq (h1 v hv))
          simp only [Nat.add_zero] at hst
          refine ⟨_, ?_, h.write hX hone q4 (X1 := .row ety E m (l.take lo ++ List.replicate n (dflt E) ++ l.drop (lo + n))) rfl (ds := cs.take o ++ zs ++ cs.drop (o + zs.length)) ⟨?_, q6, q7, ?_, q9⟩⟩
          · obtain ⟨n', rfl⟩ : ∃ n', n = n' + 1 := ⟨n - 1, by omega⟩
            have hzz : (Builtin.zeroCells (zeroOf E).toArray (n' + 1)).toList = zs := by
              rw [← hZ]
              unfold Builtin.zeroCells
              simp [zeroOf_len]
            simp only [Builtin.clear_, List.getElem?_toArray, Sem.run_bind]
            simp [run_underlying hu, hzv, hzc, hzz, hst]
          · rw [hzl, ho, ← Nat.add_mul]
            exact ((q5.takeR lo).append hz).append (q5.dropR (lo + n))
          · simp; omega
      · cases hs
    · cases hs
  · cases hs
end
end Go.Sym
end
section
namespace Go.Sym
open Go.RowKit
set_option linter.unusedVariables false
set_option linter.unusedSimpArgs false

/-- A function as it is called: its arguments' types, its result's (or its results'), and what it says. -/
structure Callee where
  dom : Ty
  cod : Ty
  many : Bool
  raw : Type
  fn : Nat → El dom → Option raw
  conv : raw → El cod
  nz : List (Nat × TE)
def RepR (F : Nat → Nat) (w : World) (t : Ty) (many : Bool) (z : List (Nat × TE)) (y : El t) (v : Value) : Prop := if many = true then ∃ vs, v = .tuple vs.toArray ∧ RepT F w t y vs ∧ NilAt vs z else RepV F w t y v ∧ NilAt [v] z
theorem repR_one {F : Nat → Nat} {w : World} {t : Ty} {y : El t} {v : Value} (h : RepV F w t y v) : RepR F w t false [] y v := by
  unfold RepR
  rw [if_neg (by decide)]
  exact ⟨h, NilAt.nil _⟩
/-- A call comes to what the function says, wherever it says anything. -/
def Ends (F : Nat → Nat) (w : World) (t : Ty) (many : Bool) (z : List (Nat × TE)) (y : El t) : Ending → World → Prop := fun e w' => ∃ v F', e = .returned v ∧ Grow F w F' w' ∧ (∀ b, 0 < F' b → b < w'.heap.size) ∧ RepR F' w' t many z y v
/-- How many blocks there are when a program begins; and that these are as the language lays them, as far as any contract of the library asks. -/
def startN (P : Program) : Nat := (begin P (fun _ _ => 0) default).world.heap.size
def Laid (P : Program) (w : World) : Prop := startN P ≤ w.heap.size ∧ ∃ g : World, g.ShapedOpen P ∧ ∀ k, k < startN P → w.heap[k]? = g.heap[k]?
theorem Laid.below {P : Program} {M : Nat → Prop} {w w1 : World} (h : Laid P w) (hM : ∀ b, M b → startN P ≤ b) (hb : BelowM M w w1) : Laid P w1 := by
  obtain ⟨h1, g, h2, h3⟩ := h
  exact ⟨Nat.le_trans h1 hb.size, g, h2, fun k hk => (hb.block k (by omega) (fun q => by have := hM k q; omega)).trans (h3 k hk)⟩
structure CalleeOk (P : Program) (f : Nat) (c : Callee) : Prop where
  enter : ∀ args w, (callFunc f args).run P w = .ok (.enter f args) w
  calls : ∀ k w F vs x y, Laid P w → (∀ b, 0 < F b → b < w.heap.size) → RepT F w c.dom x vs → c.fn k x = some y → Calls P f vs.toArray w (Ends F w c.cod c.many c.nz (c.conv y))
def argsA : (t : Ty) → List AV → Option (El t)
  | .nil, [] => some ()
  | .cons a b, av :: r => match av.as a with
    | some (y, _) => match argsA b r with
      | some z => some (y, z)
      | none => none
    | none => none
  | _, _ => none
def callK {R : Type} (c : Callee) (k : Nat) (avs : List AV) (K : AV → Option R) : Option R := match argsA c.dom avs with
  | some x => (c.fn k x).bind fun y => K (if c.many = true then .tup c.cod (c.conv y) c.nz else .v c.cod (c.conv y) (nzG c.nz 0))
  | none => none
/-- Types of one cell each. -/
def flat1 : Ty → Bool
  | .nil => true
  | .cons a b => !a.agg && flat1 b
  | _ => false
def argSlots : (t : Ty) → El t → List AV
  | .cons a b, x => .v a x.1 [] :: argSlots b x.2
  | _, _ => []
def appT (T : Tab) (c : Call) (d : Option Nat) (s : St) : Tree St := match c.args.toList, c.argTypes.toList, d with
  | [x, y], [t, t2], some d => if t = t2 then (appendT T t d (s.ev x) (s.ev y) s.used).bind fun p => .ret (((s.drop (p.2 + 1)).use d).put (some d) p.1) else .fail
  | _, _, _ => .fail
def bsT (T : Tab) (t len : Nat) (parts : Array (Nat × Operand)) (d : Option Nat) (s : St) : Tree St := match d with
  | some d => optT ((bsA T t len (parts.toList.map fun p => (p.1, s.ev p.2)) d s.used).map fun av => (s.use d).put (some d) av)
  | none => .fail
def clrT (T : Tab) (t : Nat) (x : Operand) (d : Option Nat) (s : St) : Tree St := optT ((clearT T t (s.ev x) s.boxes).map fun bx => { s with boxes := bx }.put d (.tup .nil () []))
/-- Variables that a function literal takes with it are written no more. -/
def frzCaps : List Operand → St → St
  | [], s => s
  | x :: r, s => frzCaps r (match s.ev x with
    | .ptr b 0 => s.freeze b
    | _ => s)
def capsA : List AV → Option (Σ c : Ty, El c)
  | [] => some ⟨.nil, ()⟩
  | av :: r => match capsA r with
    | some ⟨c, y⟩ => match av with
      | .elt t [x] 0 0 => some ⟨.cons (.ref t) c, (x, y)⟩
      | .v (.ref t) x _ => some ⟨.cons (.ref t) c, (x, y)⟩
      | _ => none
    | none => none
def mkfT (g : Nat) (caps : List Operand) (d : Option Nat) (s : St) : Tree St := optT ((capsA (caps.map (frzCaps caps s).ev)).map fun p => (frzCaps caps s).put d (.v (.clo g p.1) (some p.2) []))
/-- What an operation is to the state. -/
inductive Kind where
  | fn (f : Nat) (args : Array Operand)
  | dyn (x : Operand) (args : Array Operand)
  | app (c : Call)
  | clr (t : Nat) (x : Operand)
  | bs (t len : Nat) (parts : Array (Nat × Operand))
  | alloc (t : Nat)
  | box (t : Nat) (x : Operand)
  | store (t : Nat) (p x : Operand)
  | mk (t : Nat) (len cap : Operand)
  | mkf (g : Nat) (caps : List Operand)
  | bytes (src dst : Nat) (x : Operand)
  | plain
def isSl : TD → Bool
  | .sl _ => true
  | _ => false
def kindOf (T : Tab) : Op → Kind
  | .call c => match c.callee with
    | .value (.func f) => .fn f c.args
    | .value x => .dyn x c.args
    | .builtin .append => .app c
    | .builtin .clear => match c.args.toList, c.argTypes.toList with
      | [x], [t] => .clr t x
      | _, _ => .plain
    | _ => .plain
  | .buildSlice t len parts => .bs t len parts
  | .alloc t => .alloc t
  | .box t x => .box t x
  | .store t p x => .store t p x
  | .makeSlice t l c => .mk t l c
  | .makeFunc f first caps => match f, first.toList with
    | .func g, [] => .mkf g caps.toList
    | _, _ => .plain
  | .convert src dst x => match isSl (T.row dst).d with
    | true => .bytes src dst x
    | false => .plain
  | _ => .plain
def dynK {R : Type} (Y : Nat → Option Callee) (k : Nat) (f : AV) (args : List AV) (K : AV → Option R) : Option R := match f with
  | .v (.clo g c) y _ => match flat1 c with
    | true => y.bind fun y => match Y g with
      | some cl => callK cl k (args ++ argSlots c y) K
      | none => none
    | false => none
  | _ => none
def opK {R : Type} (Y : Nat → Option Callee) (T : Tab) (k : Nat) (o : Oper) (s : St) (K : St → Option R) : Option R := match kindOf T o.op with
  | .fn f args => match Y f with
    | some c => callK c k (args.toList.map s.ev) fun av => K (s.put o.dst av)
    | none => none
  | .dyn x args => dynK Y k (s.ev x) (args.toList.map s.ev) fun av => K (s.put o.dst av)
  | .app c => (appT T c o.dst s).run K
  | .clr t x => (clrT T t x o.dst s).run K
  | .bs t len parts => (bsT T t len parts o.dst s).run K
  | .alloc t => (allocT T t o.dst s).run K
  | .box t x => (boxT T t x o.dst s).run K
  | .store t p x => (stT T t p x o.dst s).run K
  | .mk t l c => (mkT T t l c o.dst s).run K
  | .mkf g caps => (mkfT g caps o.dst s).run K
  | .bytes src dst x => (bytesT T src dst x o.dst s).run K
  | .plain => (gop T o.op o.type s.ev s.boxes).run fun av => K (s.put o.dst av)
theorem Tree.val_run {α R : Type} {K : α → Option R} : ∀ {t : Tree α} {a : α}, t.val = some a → t.run K = K a
  | .ret b, a, h => by cases h; rfl
  | .ite p d A B, a, h => by
    rcases val_ite h with ⟨q, h1⟩ | ⟨q, h1⟩
    · unfold Tree.run
      rw [if_pos q]
      exact Tree.val_run h1
    · unfold Tree.run
      rw [if_neg q]
      exact Tree.val_run h1
  | .fail, a, h => by cases h
theorem Tree.val_bind {α β : Type} {K : α → Tree β} {r : β} : ∀ {t : Tree α}, (t.bind K).val = some r → ∃ a, t.val = some a ∧ (K a).val = some r
  | .ret b, h => ⟨b, rfl, h⟩
  | .ite p d A B, h => by
    rcases val_ite h with ⟨q, h1⟩ | ⟨q, h1⟩
    · obtain ⟨a, h2, h3⟩ := Tree.val_bind h1
      refine ⟨a, ?_, h3⟩
      unfold Tree.val Tree.run
      rw [if_pos q]
      exact h2
    · obtain ⟨a, h2, h3⟩ := Tree.val_bind h1
      refine ⟨a, ?_, h3⟩
      unfold Tree.val Tree.run
      rw [if_neg q]
      exact h2
  | .fail, h => by cases h
section
variable {R : Type} {P : Program} {T : Tab} {M : Nat → Prop} {w0 w : World} {F0 F : Nat → Nat} {γ : Nat → Nat} {ρ : Nat → Option Nat} {s s1 : St} {a : Act} {B : Nat → Prop} {e : Ty} {Y : Nat → Option Callee} {k : Nat} {o : Oper}
theorem callK_val {c : Callee} {avs : List AV} {K : AV → Option R} {r : R} (h : callK c k avs K = some r) : ∃ av, (∀ (R2 : Type) (K2 : AV → Option R2), callK c k avs K2 = K2 av) ∧ K av = some r := by
  unfold callK at h
  cases hA : argsA c.dom avs with
  | none => rw [hA] at h; cases h
  | some x =>
    rw [hA] at h
    obtain ⟨y, h1, h2⟩ := Option.bind_eq_some_iff.1 h
    exact ⟨_, fun R2 K2 => by unfold callK; rw [hA]; simp only [h1]; rfl, h2⟩
theorem dynK_val {f : AV} {avs : List AV} {K : AV → Option R} {r : R} (h : dynK Y k f avs K = some r) : ∃ av, (∀ (R2 : Type) (K2 : AV → Option R2), dynK Y k f avs K2 = K2 av) ∧ K av = some r := by
  unfold dynK at h
  split at h
  · rename_i g c y l
    split at h
    · rename_i hf
      obtain ⟨z, h1, h2⟩ := Option.bind_eq_some_iff.1 h
      split at h2
      · rename_i cl hcl
        obtain ⟨av, q1, q2⟩ := callK_val h2
        refine ⟨av, fun R2 K2 => ?_, q2⟩
        simp only [dynK, hf, h1, Option.bind_some, hcl]
        exact q1 R2 K2
      · cases h2
    · cases h
  · cases h
theorem opK_val {K : St → Option R} {r : R} (h : opK Y T k o s K = some r) : ∃ s1, opK Y T k o s some = some s1 ∧ K s1 = some r := by
  cases hk : kindOf T o.op with
  | fn f args =>
    simp only [opK, hk] at h ⊢
    cases hY : Y f with
    | none => rw [hY] at h; cases h
    | some c =>
      rw [hY] at h
      simp only at h ⊢
      obtain ⟨av, h1, h2⟩ := callK_val h
      exact ⟨_, h1 _ _, h2⟩
  | dyn x args =>
    simp only [opK, hk] at h ⊢
    obtain ⟨av, h1, h2⟩ := dynK_val h
    exact ⟨_, h1 _ _, h2⟩
  | plain =>
    simp only [opK, hk] at h ⊢
    obtain ⟨av, h1, h2⟩ := Tree.run_val h
    exact ⟨_, Tree.val_run h1, h2⟩
  | _ =>
    simp only [opK, hk] at h ⊢
    obtain ⟨s1, h1, h2⟩ := Tree.run_val h
    exact ⟨s1, h1, h2⟩
theorem kind_bs {op : Op} {t len : Nat} {parts : Array (Nat × Operand)} (hk : kindOf T op = .bs t len parts) : op = .buildSlice t len parts := by
  cases op <;> simp only [kindOf] at hk <;> first | (cases hk; done) | (cases hk; rfl) | (split at hk <;> first | (cases hk; done) | (cases hk; rfl) | (split at hk <;> first | (cases hk; done) | (cases hk; rfl) | (split at hk <;> first | (cases hk; done) | (cases hk; rfl))))
theorem kind_alloc {op : Op} {t : Nat} (hk : kindOf T op = .alloc t) : op = .alloc t := by
  cases op <;> simp only [kindOf] at hk <;> first | (cases hk; done) | (cases hk; rfl) | (split at hk <;> first | (cases hk; done) | (cases hk; rfl) | (split at hk <;> first | (cases hk; done) | (cases hk; rfl) | (split at hk <;> first | (cases hk; done) | (cases hk; rfl))))
theorem kind_box {op : Op} {t : Nat} {x : Operand} (hk : kindOf T op = .box t x) : op = .box t x := by
  cases op <;> simp only [kindOf] at hk <;> first | (cases hk; done) | (cases hk; rfl) | (split at hk <;> first | (cases hk; done) | (cases hk; rfl) | (split at hk <;> first | (cases hk; done) | (cases hk; rfl) | (split at hk <;> first | (cases hk; done) | (cases hk; rfl))))
theorem kind_mk {op : Op} {t : Nat} {l c : Operand} (hk : kindOf T op = .mk t l c) : op = .makeSlice t l c := by
  cases op <;> simp only [kindOf] at hk <;> first | (cases hk; done) | (cases hk; rfl) | (split at hk <;> first | (cases hk; done) | (cases hk; rfl) | (split at hk <;> first | (cases hk; done) | (cases hk; rfl) | (split at hk <;> first | (cases hk; done) | (cases hk; rfl))))
theorem kind_bytes {op : Op} {src dst : Nat} {x : Operand} (hk : kindOf T op = .bytes src dst x) : op = .convert src dst x := by
  cases op <;> simp only [kindOf] at hk <;> first | (cases hk; done) | (cases hk; rfl) | (split at hk <;> first | (cases hk; done) | (cases hk; rfl) | (split at hk <;> first | (cases hk; done) | (cases hk; rfl) | (split at hk <;> first | (cases hk; done) | (cases hk; rfl))))
theorem kind_store {op : Op} {t : Nat} {p x : Operand} (hk : kindOf T op = .store t p x) : op = .store t p x := by
  cases op <;> simp only [kindOf] at hk <;> first | (cases hk; done) | (cases hk; rfl) | (split at hk <;> first | (cases hk; done) | (cases hk; rfl) | (split at hk <;> first | (cases hk; done) | (cases hk; rfl) | (split at hk <;> first | (cases hk; done) | (cases hk; rfl))))
theorem kind_mkf {op : Op} {g : Nat} {caps : List Operand} (hk : kindOf T op = .mkf g caps) : ∃ first cs, op = .makeFunc (.func g) first cs ∧ first.toList = [] ∧ cs.toList = caps := by
  cases op
  case makeFunc f first cs =>
    simp only [kindOf] at hk
    split at hk
    · rename_i hf
      cases hk
      exact ⟨_, _, rfl, hf, rfl⟩
    · cases hk
  all_goals (simp only [kindOf] at hk; first | (cases hk; done) | (split at hk <;> first | (cases hk; done) | (split at hk <;> first | (cases hk; done) | (split at hk <;> cases hk))))
theorem kind_fn {op : Op} {f : Nat} {args : Array Operand} (hk : kindOf T op = .fn f args) : ∃ c', op = .call c' ∧ c'.callee = .value (.func f) ∧ c'.args = args := by
  unfold kindOf at hk
  split at hk <;> try (first | (cases hk; done) | (split at hk <;> first | (cases hk; done) | (split at hk <;> cases hk; done)); done)
  rename_i c'
  split at hk <;> try (first | (cases hk; done) | (split at hk <;> cases hk; done))
  rename_i f' hf
  cases hk
  exact ⟨c', rfl, hf, rfl⟩
theorem kind_dyn {op : Op} {x : Operand} {args : Array Operand} (hk : kindOf T op = .dyn x args) : ∃ c', op = .call c' ∧ c'.callee = .value x ∧ c'.args = args := by
  unfold kindOf at hk
  split at hk <;> try (first | (cases hk; done) | (split at hk <;> first | (cases hk; done) | (split at hk <;> cases hk; done)); done)
  rename_i c'
  split at hk <;> try (first | (cases hk; done) | (split at hk <;> cases hk; done))
  rename_i f' _ hf
  cases hk
  exact ⟨c', rfl, hf, rfl⟩
theorem callK_bind {c : Callee} {avs : List AV} {K : AV → Option R} : callK c k avs K = (callK c k avs some).bind K := by
  unfold callK
  cases argsA c.dom avs with
  | none => rfl
  | some x =>
    simp only
    cases c.fn k x <;> rfl
theorem dynK_bind {f : AV} {avs : List AV} {K : AV → Option R} : dynK Y k f avs K = (dynK Y k f avs some).bind K := by
  unfold dynK
  split
  · rename_i g c y l
    split
    · cases y with
      | none => rfl
      | some y =>
        simp only [Option.bind_some]
        split
        · exact callK_bind
        · rfl
    · rfl
  · rfl
/-- Values told one by one. -/
def All2 (F : Nat → Nat) (w : World) (B : Nat → Prop) (γ : Nat → Nat) (ρ : Nat → Option Nat) : List AV → List Value → Prop
  | [], vs => vs = []
  | av :: r, vs => ∃ v us, vs = v :: us ∧ RepA F w B γ ρ av v ∧ All2 F w B γ ρ r us
theorem All2.append : ∀ {l m : List AV} {vs us : List Value}, All2 F w B γ ρ l vs → All2 F w B γ ρ m us → All2 F w B γ ρ (l ++ m) (vs ++ us)
  | [], m, vs, us, h1, h2 => by rw [show vs = [] from h1]; exact h2
  | av :: r, m, vs, us, h1, h2 => by
    obtain ⟨v, vs1, rfl, h3, h4⟩ := h1
    exact ⟨v, vs1 ++ us, rfl, h3, All2.append h4 h2⟩
theorem all2_ev (h : RelG M w0 F0 F γ ρ s a w) : ∀ (l : List Operand), All2 F w (own M w0) γ ρ (l.map s.ev) (l.map a.eval)
  | [] => rfl
  | x :: r => ⟨_, _, rfl, h.ev x, all2_ev h r⟩
theorem argsA_rep : ∀ {t : Ty} {l : List AV} {vs : List Value} {x : El t}, All2 F w B γ ρ l vs → argsA t l = some x → RepT F w t x vs := by
  intro t
  induction t with
  | nil =>
    intro l vs x h hx
    cases l with
    | nil => rw [show vs = [] from h]; rfl
    | cons y r => cases hx
  | cons c d _ ihd =>
    intro l vs x h hx
    cases l with
    | nil => cases hx
    | cons z r =>
      obtain ⟨v, us, rfl, h1, h2⟩ := h
      unfold argsA at hx
      split at hx
      · rename_i y g hy
        split at hx
        · rename_i u hu
          cases hx
          exact ⟨_, _, rfl, (AV.as_rep h1 hy).1, ihd h2 hu⟩
        · cases hx
      · cases hx
  | _ =>
    intro l vs x h hx
    unfold argsA at hx
    cases hx
/-- What a function literal took with it. -/
theorem caps_all2 : ∀ {c : Ty} {y : El c} {ds : List Value}, flat1 c = true → RepC F w c y ds → All2 F w B γ ρ (argSlots c y) ds := by
  intro c
  induction c with
  | nil =>
    intro y ds _ h
    exact h
  | cons a b _ ihb =>
    intro y ds hf h
    rw [flat1, Bool.and_eq_true, Bool.not_eq_true'] at hf
    obtain ⟨c1, c2, rfl, h1, h2⟩ := h
    have hl := h1.len
    rw [size_one hf.1] at hl
    match c1, hl, h1 with
    | [v], _, h1 => exact ⟨v, c2, rfl, mk_a ⟨[v], h1, (pack_one hf.1).symm⟩, ihb hf.2 h2⟩
  | _ => intro y ds hf h; cases hf
theorem caps_rep : ∀ {l : List Operand} {c : Ty} {y : El c}, (∀ x, RepA F w B γ ρ (s.ev x) (a.eval x)) → capsA (l.map s.ev) = some ⟨c, y⟩ → RepC F w c y (l.map a.eval) ∧ flat1 c = true
  | [], c, y, _, h => by cases h; exact ⟨rfl, rfl⟩
  | x :: r, c, y, he, h => by
    rw [List.map_cons] at h
    unfold capsA at h
    split at h
    · rename_i c1 y1 hr
      obtain ⟨k1, k2⟩ := caps_rep he hr
      have hx := he x
      split at h
      · rename_i t z e
        cases h
        rw [e] at hx
        obtain ⟨b, o, x0, ds, h1, h2, h3, h4, h5⟩ := hx
        cases h2
        refine ⟨⟨[_], _, by rw [List.map_cons]; rfl, ⟨b, o + 0 * t.size + 0, ds, by rw [h1], h4, ?_, fun i v hv => ?_⟩, k1⟩, ?_⟩
        · simpa using h3
        · have := h5 i v hv
          simpa using this
        · exact k2
      · rename_i t z g e
        cases h
        rw [e] at hx
        obtain ⟨⟨cs, hc, hv⟩, _⟩ := hx
        have hl := hc.len
        obtain ⟨b, o, ds, h1, h2⟩ := hc
        refine ⟨⟨[_], _, by rw [List.map_cons]; rfl, ⟨b, o, ds, ?_, h2⟩, k1⟩, k2⟩
        rw [hv, h1]
        rfl
      · cases h
    · cases h
theorem frzCaps_sound : ∀ (l : List Operand) {s : St}, Rel M w0 F0 s a w → Rel M w0 F0 (frzCaps l s) a w
  | [], s, h => h
  | x :: r, s, h => by
    refine frzCaps_sound r ?_
    split
    · exact freeze_sound h _
    · exact h
theorem call_run {c : Call} {f : Nat} {args : Array Operand} (hcal : c.callee = .value (.func f)) (hargs : c.args = args) {w : World} (hent : ∀ as, (callFunc f as).run P w = .ok (.enter f as) w) (hop : o.op = .call c) :
    (execOp a.eval o).run P w = .ok (.enter f (args.map a.eval)) w := by
  unfold execOp
  rw [hop]
  simp only [resolve, hcal, hargs, Act.eval, Deferred.ofValue, Sem.run_bind, Sem.run_pure, Result.andThen_ok, invoke]
  have := hent (args.map a.eval)
  simpa using this
theorem dyn_run {c : Call} {x : Operand} {args : Array Operand} {g : Nat} {ds : Array Value} (hcal : c.callee = .value x) (hx : a.eval x = .func (.func g) #[] ds) (hargs : c.args = args) {w : World} (hent : ∀ as, (callFunc g as).run P w = .ok (.enter g as) w) (hop : o.op = .call c) :
    (execOp a.eval o).run P w = .ok (.enter g (args.map a.eval ++ ds)) w := by
  unfold execOp
  rw [hop]
  simp only [resolve, hcal, hargs, hx, Deferred.ofValue, Sem.run_bind, Sem.run_pure, Result.andThen_ok, invoke]
  have := hent (args.map a.eval ++ ds)
  simpa using this
theorem after_call (h : RelG M w0 F0 F γ ρ s a w) {f : Nat} {c : Callee} (hC : CalleeOk P f c) (hL : Laid P w) {avs : List AV} {vs : List Value} (hv : All2 F w (own M w0) γ ρ avs vs) (ho : (callK c k avs fun av => some (s.put o.dst av)) = some s1) {next : Act → World → Prop}
    (hn : ∀ a' w', Rel M w0 F0 s1 a' w' → next a' w') {Q : Exit → Act → World → Prop} (he : (execOp a.eval o).run P w = .ok (.enter f vs.toArray) w) : Oper.upon P o a next Q ((execOp a.eval o).run P w) := by
  rw [he, Oper.upon_enter]
  unfold callK at ho
  cases hA : argsA c.dom avs with
  | none => rw [hA] at ho; cases ho
  | some x =>
    rw [hA] at ho
    obtain ⟨y, h1, h2⟩ := Option.bind_eq_some_iff.1 ho
    have hcalls := hC.calls k w F _ x y hL h.fin (argsA_rep hv hA) h1
    refine Calls.mono hcalls fun e w' he => ?_
    obtain ⟨v, F', rfl, hg, hf, hr⟩ := he
    refine hn _ _ ?_
    cases h2
    refine ⟨F', γ, ρ, (h.grow hg hf).put o.dst ?_ ?_⟩
    · unfold RepR at hr
      split at hr
      · rename_i q
        rw [if_pos q]
        exact hr
      · rename_i q
        rw [if_neg q]
        exact ⟨hr.1, hr.2.tags rfl⟩
    · split <;> trivial
theorem op_sound (hT : TabOk P T) (hY : ∀ f c, Y f = some c → CalleeOk P f c) (hL : Laid P w0) (hM : ∀ b, M b → startN P ≤ b) (h : RelG M w0 F0 F γ ρ s a w) (ho : opK Y T k o s some = some s1) {next : Act → World → Prop} {Q : Exit → Act → World → Prop}
    (hn : ∀ a' w', Rel M w0 F0 s1 a' w' → next a' w') : o.wp P a w next Q := by
  have hLw := hL.below hM h.below
  unfold Oper.wp
  have vw : ∀ {m : Sem Value} {v : Value} {w1 : World}, (execOp a.eval o = (do pure (Next.value (← m)) : Sem Next)) → m.run P w = .ok v w1 → (execOp a.eval o).run P w = .ok (.value v) w1 := by
    intro m v w1 e hr
    rw [e, Sem.run_bind, hr]
    rfl
  cases hk : kindOf T o.op with
  | fn f args =>
    simp only [opK, hk] at ho
    cases hYf : Y f with
    | none => rw [hYf] at ho; cases ho
    | some c =>
      rw [hYf] at ho
      obtain ⟨c', hop, hcal, hargs⟩ : ∃ c', o.op = .call c' ∧ c'.callee = .value (.func f) ∧ c'.args = args := by
        unfold kindOf at hk
        split at hk <;> try (first | (cases hk; done) | (split at hk <;> first | (cases hk; done) | (split at hk <;> cases hk; done)); done)
        rename_i c' hop
        split at hk <;> try (first | (cases hk; done) | (split at hk <;> cases hk; done))
        rename_i f' hf
        cases hk
        exact ⟨c', hop, hf, rfl⟩
      have hC := hY f c hYf
      refine after_call (k := k) h hC hLw (all2_ev h args.toList) ho hn ?_
      rw [show (args.toList.map a.eval).toArray = args.map a.eval from by rw [← Array.toList_map]]
      exact call_run hcal hargs (fun as => hC.enter as w) hop
  | dyn x args =>
    simp only [opK, hk] at ho
    obtain ⟨c', hop, hcal, hargs⟩ : ∃ c', o.op = .call c' ∧ c'.callee = .value x ∧ c'.args = args := by
      unfold kindOf at hk
      split at hk <;> try (first | (cases hk; done) | (split at hk <;> first | (cases hk; done) | (split at hk <;> cases hk; done)); done)
      rename_i c' hop
      split at hk <;> try (first | (cases hk; done) | (split at hk <;> cases hk; done))
      rename_i f' _ hf
      cases hk
      exact ⟨c', hop, hf, rfl⟩
    unfold dynK at ho
    split at ho
    · rename_i g c y l hx
      split at ho
      · rename_i hf
        obtain ⟨z, h1, h2⟩ := Option.bind_eq_some_iff.1 ho
        split at h2
        · rename_i cl hcl
          have hC := hY g cl hcl
          have hev := h.ev x
          rw [hx] at hev
          obtain ⟨⟨cs, hcs, hv⟩, _⟩ := hev
          rcases hcs with ⟨q, _⟩ | ⟨y1, ds, q, rfl, hr⟩
          · rw [q] at h1; cases h1
          · rw [h1] at q
            cases q
            have hall := All2.append (all2_ev h args.toList) (caps_all2 (B := own M w0) (γ := γ) (ρ := ρ) hf hr)
            refine after_call (k := k) h hC hLw hall h2 hn ?_
            rw [show (args.toList.map a.eval ++ ds).toArray = args.map a.eval ++ ds.toArray from by apply Array.ext'; simp]
            exact dyn_run hcal hv hargs (fun as => hC.enter as w) hop
        · cases h2
      · cases ho
    · cases ho
  | plain =>
    simp only [opK, hk] at ho
    obtain ⟨av, h1, h2⟩ := Tree.run_val ho
    cases h2
    obtain ⟨z, q1, q2, q3⟩ := gop_sound (P := P) hT h.ev h.box h.evwf h1
    rw [q1, Oper.upon_value]
    exact hn _ _ ⟨F, γ, ρ, h.put o.dst q2 q3⟩
  | app c =>
    simp only [opK, hk] at ho
    have hop : o.op = .call c ∧ c.callee = .builtin .append := by
      unfold kindOf at hk
      split at hk <;> try (first | (cases hk; done) | (split at hk <;> first | (cases hk; done) | (split at hk <;> cases hk; done)); done)
      rename_i c' hop
      split at hk <;> try (first | (cases hk; done) | (split at hk <;> cases hk; done))
      rename_i hf
      cases hk
      exact ⟨hop, hf⟩
    have ho : (appT T c o.dst s).val = some s1 := ho
    unfold appT at ho
    split at ho
    · rename_i x y t t2 d e1 e2 e3
      split at ho
      · rename_i et
        subst et
        obtain ⟨p, h1, h2⟩ := Tree.val_bind ho
        have h2 := val_ret h2
        obtain ⟨av, nm⟩ := p
        obtain ⟨v, w1, F1, ρ1, q1, q2⟩ := append_sound (P := P) hT h (ty := o.type) h1
        have a1 : c.args = #[x, y] := Array.toList_inj.1 (by rw [e1])
        have a2 : c.argTypes = #[t, t] := Array.toList_inj.1 (by rw [e2])
        have hex : (execOp a.eval o).run P w = .ok (.value v) w1 := by
          unfold execOp
          rw [hop.1]
          simp [resolve, hop.2, a1, a2, invoke, builtin, q1]
        rw [hex, Oper.upon_value]
        refine hn _ _ ⟨F1, γ, ρ1, ?_⟩
        rw [← h2, e3]
        exact q2
      · exact (val_fail ho).elim
    · exact (val_fail ho).elim
  | clr t x =>
    simp only [opK, hk] at ho
    obtain ⟨c, hop, hcal, e1, e2⟩ : ∃ c, o.op = .call c ∧ c.callee = .builtin .clear ∧ c.args.toList = [x] ∧ c.argTypes.toList = [t] := by
      unfold kindOf at hk
      split at hk <;> try (first | (cases hk; done) | (split at hk <;> first | (cases hk; done) | (split at hk <;> cases hk; done)); done)
      rename_i c' hop
      split at hk <;> try (cases hk; done)
      rename_i hf
      split at hk
      · rename_i e1 e2
        cases hk
        exact ⟨c', hop, hf, e1, e2⟩
      · cases hk
    have ho : (clrT T t x o.dst s).val = some s1 := ho
    unfold clrT at ho
    obtain ⟨bx, h1, h2⟩ := Option.map_eq_some_iff.1 (val_opt ho)
    have a1 : c.args = #[x] := Array.toList_inj.1 (by rw [e1])
    have a2 : c.argTypes = #[t] := Array.toList_inj.1 (by rw [e2])
    obtain ⟨w1, q1, q2⟩ := clear_sound (P := P) hT h (ty := o.type) h1
    have hex : (execOp a.eval o).run P w = .ok (.value (.tuple #[])) w1 := by
      unfold execOp
      rw [hop]
      simp [resolve, hcal, a1, a2, invoke, builtin, q1]
    rw [hex, Oper.upon_value]
    refine hn _ _ ⟨F, γ, ρ, ?_⟩
    rw [← h2]
    exact q2.put o.dst ⟨[], rfl, rfl, NilAt.nil _⟩ trivial
  | bs t len parts =>
    simp only [opK, hk] at ho
    have hop : o.op = .buildSlice t len parts := kind_bs hk
    have ho : (bsT T t len parts o.dst s).val = some s1 := ho
    unfold bsT at ho
    split at ho
    · rename_i d e3
      obtain ⟨av, h1, h2⟩ := Option.map_eq_some_iff.1 (val_opt ho)
      obtain ⟨v, w1, F1, ρ1, q1, q2⟩ := buildSlice_sound (P := P) hT h h1
      rw [vw (by unfold execOp; rw [hop]) q1, Oper.upon_value]
      refine hn _ _ ⟨F1, γ, ρ1, ?_⟩
      rw [← h2, e3]
      exact q2
    · exact (val_fail ho).elim
  | alloc t =>
    simp only [opK, hk] at ho
    have hop : o.op = .alloc t := kind_alloc hk
    obtain ⟨v, w1, γ1, q1, q2⟩ := alloc_sound (P := P) hT h (t := t) (d := o.dst) ho
    rw [vw (by unfold execOp; rw [hop]) q1, Oper.upon_value]
    exact hn _ _ ⟨F, γ1, ρ, q2⟩
  | box t x =>
    simp only [opK, hk] at ho
    have hop : o.op = .box t x := kind_box hk
    obtain ⟨v, w1, γ1, q1, q2⟩ := box_sound (P := P) hT h (t := t) (d := o.dst) ho
    rw [vw (by unfold execOp; rw [hop]) q1, Oper.upon_value]
    exact hn _ _ ⟨F, γ1, ρ, q2⟩
  | mk t l c =>
    simp only [opK, hk] at ho
    have hop : o.op = .makeSlice t l c := kind_mk hk
    obtain ⟨v, w1, F1, γ1, ρ1, q1, q2⟩ := mk_sound (P := P) hT h (t := t) (d := o.dst) ho
    rw [vw (by unfold execOp; rw [hop]) q1, Oper.upon_value]
    exact hn _ _ ⟨F1, γ1, ρ1, q2⟩
  | mkf g caps =>
    simp only [opK, hk] at ho
    obtain ⟨first, cs, hop, hf, hc⟩ := kind_mkf hk
    have ho : (mkfT g caps o.dst s).val = some s1 := ho
    unfold mkfT at ho
    obtain ⟨p, h1, h2⟩ := Option.map_eq_some_iff.1 (val_opt ho)
    obtain ⟨c, y⟩ := p
    obtain ⟨F2, γ2, ρ2, h3⟩ := frzCaps_sound caps ⟨F, γ, ρ, h⟩
    obtain ⟨k1, k2⟩ := caps_rep h3.ev h1
    have hfirst : first = #[] := Array.toList_inj.1 (by rw [hf])
    have hex : (execOp a.eval o).run P w = .ok (.value (.func (.func g) #[] (caps.map a.eval).toArray)) w := by
      unfold execOp
      rw [hop]
      have hmap : cs.map a.eval = (caps.map a.eval).toArray := by
        rw [← hc]
        apply Array.ext'
        rw [Array.toList_map]
      simp only [Instr.makeFunc, Sem.run_bind, Sem.run_pure, Result.andThen_ok, hfirst, hmap]
      simp
    rw [hex, Oper.upon_value]
    refine hn _ _ ⟨F2, γ2, ρ2, ?_⟩
    rw [← h2]
    exact h3.put o.dst (mk_a ⟨_, .inr ⟨y, caps.map a.eval, rfl, rfl, k1⟩, rfl⟩) trivial
  | bytes src dst x =>
    simp only [opK, hk] at ho
    have hop : o.op = .convert src dst x := kind_bytes hk
    obtain ⟨v, w1, F1, q1, q2⟩ := bytes_sound (P := P) hT h (d := o.dst) ho
    rw [vw (by unfold execOp; rw [hop]) q1, Oper.upon_value]
    exact hn _ _ ⟨F1, γ, ρ, q2⟩
  | store t p x =>
    simp only [opK, hk] at ho
    have hop : o.op = .store t p x := kind_store hk
    have ho : (stT T t p x o.dst s).val = some s1 := ho
    unfold stT at ho
    obtain ⟨bx, h1, h2⟩ := Option.map_eq_some_iff.1 (val_opt ho)
    obtain ⟨w1, q1, q2⟩ := store_sound (P := P) hT h h1
    have hex : (execOp a.eval o).run P w = .ok .skip w1 := by
      unfold execOp
      rw [hop]
      simp only [Sem.run_bind]
      rw [q1]
      rfl
    rw [hex, Oper.upon_skip]
    refine hn _ _ ⟨F, γ, ρ, ?_⟩
    rw [← h2]
    exact q2.put o.dst trivial trivial
end
end Go.Sym
end
