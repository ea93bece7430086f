/- Go functions of this seat as plain Lean functions, each with a proof that its call comes to just what that function says, wherever that function says anything: written by a program of this session. The plain functions of this seat, without their walks: written by a program of this session. -/
import Derived.Test.YtcgdhpnobgimfaaProg
import Derived.Below
import Derived.Deep.Draws
import Derived.Deep.AppendLies
import Derived.Maps.AppendAt
import Derived.OwnWalk
import Derived.Laws.BytesArg
import Derived.Laws.MakeOwn
import Derived.Laws.OwnMore
import Derived.Deep.OwnRows
import Derived.Tactics
import Derived.Lib.ConvBytes
import Derived.Lib.Walk
import Derived.Lib.Bytealg
import Derived.Laws.AppendOwn
import Derived.Laws.Slices
import Derived.WalkKit
import Derived.KernelRfl
import Derived.RowKit3
import Derived.Deep.LoopGhost
import Derived.Deep.QuietTactic
import Derived.BigQuiet
import Derived.WideLaws
import Derived.Deep.DeepCutAuto
import Derived.Deep.CutBlock
import Derived.Deep.RegionHeld3
import Derived.Laws.Rows
import Derived.Lib.AppendStr
import Derived.ArgAppend
import Derived.Laws.IdiomCopy
import Derived.OrdersHeld
import Derived.Laws.BitsLemmas
import Derived.RowKit
import Derived.ChangeKeysEq
import Derived.Laws.RangeAny
import Derived.Laws.RangeString
import Derived.Lib.OthersKept
import Derived.LoopTactic
import Derived.WalkMore
import Derived.Shelf.Strings.OnBuilder
import Derived.Shelf.Strings.Repeat
import Derived.Test.YtcgdhpnobgimfaaMOL2
section
namespace Go.Proofs.Ytcgdhpnobgimfaa.PO
open Go.RowKit Go.Proofs.YtcgdhpnobgimfaaW.PrintWords Go.Proofs.YtcgdhpnobgimfaaW.PrintLast Go.Proofs.YtcgdhpnobgimfaaW.PrintMore
attribute [local go_sem] max2_int min2_int max_two min_two max_three min_three max_four min_four   -- for this text's walks alone
set_option linter.unusedVariables false
set_option linter.unusedSimpArgs false



def errW : Option Int → Value
  | none => .nilIface
  | some c => .iface 0 (.int .i64 c)
theorem errW_none : errW none = .nilIface := rfl
theorem errW_some (c : Int) : errW (some c) = .iface 0 (.int .i64 c) := rfl

section
variable {P : Program} {ops : Array Oper} {rest : List Oper} {o : Oper} {a : Act} {Q : Exit → Act → World → Prop} {W : World}
theorem gate_calleeT {q : Tmp} {os_ : Array Operand} {ts : Array TypeId} (_ho : o.op = .call { callee := .value (.tmp q), args := os_, argTypes := ts }) (h : wpList P ops Q (o :: rest) a W) : wpList P ops Q (o :: rest) a W := h
theorem goesT_ {w : World} (q : Tmp) (N : Option Tmp) (hd : o.dst = N) (hg : o.guard = none) {f : FuncId} {fn : Func} {os_ : Array Operand} {ts : Array TypeId} (hf : P.funcs[f]? = some fn) (hname : (fn.name == "runtime.NumGoroutine") = false) (hb : fn.body.isSome = true) (args : Array Value)
    (hop : o.op = .call { callee := .value (.tmp q), args := os_, argTypes := ts }) (hargs : os_.map a.eval = args)
    (h : Calls P f args w fun e w' => ∃ v, e = .returned v ∧ wpList P ops Q rest (a.put N v) w') (hq : a.eval (.tmp q) = .func (.func f) #[] #[] := by rfl) : wpList P ops Q (o :: rest) a w := by
  refine wpList_plain hg fun K hK => ?_
  have he := enters_ hf hname hb args w
  have hrun : (execOp a.eval o).run P w = .ok (.enter f args) w := by
    unfold execOp
    simp only [Act.eval] at hq hargs
    simp [hop, resolve, Deferred.ofValue, invoke, Act.eval, hargs, he, hq]
  unfold Oper.wp
  rw [hrun, Oper.upon_enter]
  refine h.mono fun e w'' hh => ?_
  obtain ⟨v, rfl, hk⟩ := hh
  subst hd
  exact hK _ _ hk
end
section
variable {P : Program} {ops : Array Oper} {Q : Exit → Act → World → Prop}
theorem val_ {oi : Oper} {N : Option Tmp} {a : Act} {w : World} {K : Act → World → Prop} {v : Value} (hw : Region.wanted oi (yielded ops a.tmps) = true) (hN : oi.dst = N) (hrun : (execOp a.eval oi).run P w = .ok (.value v) w)
    (h : K (a.put N v) w) : if Region.wanted oi (yielded ops a.tmps) = true then Oper.wp P oi a w K Q else K (a.put N undef) w := by
  rw [if_pos hw]
  subst hN
  unfold Oper.wp
  rw [hrun, Oper.upon_value]
  exact h
end
theorem u64_m256 (x : Int) : IntKind.u64.wrap (x % 256) = x % 256 := by
  have h : IntKind.u64.wrap (x % 256) = x % 256 % 18446744073709551616 := by simp [IntKind.wrap, IntKind.bits, IntKind.signed]
  omega
theorem u8_mod (x : Int) : IntKind.u8.wrap x = x % 256 := by
  simp [IntKind.wrap, IntKind.bits, IntKind.signed]
theorem isSome_setCell (w : World) (a : Addr) (v : Value) (b : Addr) : ((w.setCell a v).cell? b).isSome = (w.cell? b).isSome := by
  unfold World.cell? World.setCell
  simp only [Array.getElem?_modify]
  by_cases e : a.block = b.block
  · rw [if_pos e]
    cases h : w.heap[b.block]? with
    | none => rfl
    | some o =>
      cases o with
      | cells c el fr =>
        simp only [Option.map_some]
        by_cases s : b.spot.isSome = true
        · rw [if_pos s, if_pos s]
        · rw [if_neg s, if_neg s]
          by_cases s2 : a.spot.isSome = true
          · rw [if_pos s2]
          · rw [if_neg s2, Array.getElem?_setIfInBounds]
            by_cases o : a.off = b.off
            · rw [if_pos o]
              by_cases z : a.off < c.size
              · rw [if_pos z, Array.getElem?_eq_getElem (by omega)]
                rfl
              · rw [if_neg z, Array.getElem?_eq_none (by omega)]
            · rw [if_neg o]
      | _ => rfl
  · rw [if_neg e]

theorem frz_at {w w' : World} {m : Nat} {a : Addr} (hq : w.drewN m = w') (h : w.frozen? a = false) : w'.frozen? a = false := by subst hq; exact h
section
variable {P : Program} {d c : Nat} {e : TypeId} {xs ys : Array Value} {i : Nat} {is : List Nat} {a b : Value} {r s : Bool} {w : World}
theorem eqi_last (ha : (part e xs (i * c)).run P w = .ok a w) (hb : (part e ys (i * c)).run P w = .ok b w) (he : (Op.equalIn d e a b).run P w = .ok r w) : (Op.eqItems d e c xs ys [i]).run P w = .ok r w := by
  simp only [Op.eqItems, Sem.run_bind, ha, hb, he, Result.andThen_ok]
  cases r <;> simp
theorem eqi_cons (ha : (part e xs (i * c)).run P w = .ok a w) (hb : (part e ys (i * c)).run P w = .ok b w) (he : (Op.equalIn d e a b).run P w = .ok r w) (hr : (Op.eqItems d e c xs ys is).run P w = .ok s w) : (Op.eqItems d e c xs ys (i :: is)).run P w = .ok (r && s) w := by
  rw [Op.eqItems]
  simp only [Sem.run_bind, ha, hb, he, Result.andThen_ok]
  cases r
  · simp
  · simpa using hr
end

theorem idx102_1 (w : World) (x0 x1 : Value) : (Instr.index 102 (.agg #[x0, x1]) (.int .i64 1)).run Try.prog w = .ok x1 w := by kernel_rfl
theorem info3 : (Try.prog.info? 3).map (fun i => (i.zero, i.size, i.bytes)) = some (some (.int .i64 0), 1, 8) := by kernel_rfl
theorem info4 : (Try.prog.info? 4).map (fun i => (i.zero, i.size, i.bytes)) = some (some (.bool false), 1, 1) := by kernel_rfl
theorem info9 : (Try.prog.info? 9).map (fun i => (i.zero, i.size, i.bytes)) = some (some (.string ⟨#[]⟩), 1, 16) := by kernel_rfl
theorem info23 : (Try.prog.info? 23).map (fun i => (i.zero, i.size, i.bytes)) = some (some (.agg #[(.int .i64 0), (.int .i64 0), (.int .i64 0)]), 3, 24) := by kernel_rfl
theorem info93 : (Try.prog.info? 93).map (fun i => (i.zero, i.size, i.bytes)) = some (some (.int .u64 0), 1, 8) := by kernel_rfl
-- the values' own types
/-! #### struct type 23 -/
structure S23 where
  f0 : Int
  f1 : Int
  f2 : Int
def z23 : S23 := ⟨(0 : Int), (0 : Int), (0 : Int)⟩
def k23 : Kd S23 := Kd.iso (Kd.pair (Kd.int .i64) (Kd.pair (Kd.int .i64) (Kd.int .i64))) (fun x : S23 => (x.f0, x.f1, x.f2))
theorem k23_open {w : World} {x : S23} {cs : List Value} (h : k23.K w x cs) : cs = [.int .i64 x.f0, .int .i64 x.f1, .int .i64 x.f2] := by
  obtain ⟨_, _, rfl, rfl, ⟨_, _, rfl, rfl, rfl⟩⟩ := h
  exact rfl
theorem k23_openM {w : World} {base : Nat} {ok : Nat → Prop} {x : S23} {cs : List Value} (h : k23.M w base ok x cs) : cs = [.int .i64 x.f0, .int .i64 x.f1, .int .i64 x.f2] := by
  obtain ⟨_, _, rfl, rfl, ⟨_, _, rfl, rfl, rfl⟩⟩ := h
  exact rfl
theorem k23_mk (w : World) (x : S23)  : k23.K w x [.int .i64 x.f0, .int .i64 x.f1, .int .i64 x.f2] := ⟨[.int .i64 x.f0], [.int .i64 x.f1, .int .i64 x.f2], rfl, rfl, ⟨[.int .i64 x.f1], [.int .i64 x.f2], rfl, rfl, rfl⟩⟩
theorem k23_mkM (w : World) (base : Nat) (ok : Nat → Prop) (x : S23)  : k23.M w base ok x [.int .i64 x.f0, .int .i64 x.f1, .int .i64 x.f2] := ⟨[.int .i64 x.f0], [.int .i64 x.f1, .int .i64 x.f2], rfl, rfl, ⟨[.int .i64 x.f1], [.int .i64 x.f2], rfl, rfl, rfl⟩⟩
theorem k23_mkF (W : World) (ok : Nat → Prop) (x : S23) : Kd.FK k23 W ok x [.int .i64 x.f0, .int .i64 x.f1, .int .i64 x.f2] := fun W2 _ => k23_mk W2 x
def rd_T23 (xs : List S23) (i : Int) : S23 := xs.getD i.toNat z23
theorem at_T23 {w : World} {A : Option Addr} {n : Nat} {xs : List S23} (h : Kd.C k23 w A n xs) (i : Int) (h0 : 0 ≤ i) (h1 : i < n) : ∃ ad , A = some ad ∧ w.cell? (ad.add (i.toNat * 3)) = some (.int .i64 (rd_T23 xs i).f0) ∧ w.cell? ⟨(ad.add (i.toNat * 3)).block, (ad.add (i.toNat * 3)).off + 1, none⟩ = some (.int .i64 (rd_T23 xs i).f1) ∧ w.cell? ⟨(ad.add (i.toNat * 3)).block, (ad.add (i.toNat * 3)).off + 2, none⟩ = some (.int .i64 (rd_T23 xs i).f2) := by
  obtain ⟨ad, c, e, _, hK, hc0⟩ := Kd.C_get h z23 i h0 h1
  have hc : ∀ j u, c[j]? = some u → w.cell? (ad.add (i.toNat * 3 + j)) = some u := hc0
  obtain rfl := k23_open hK
  exact ⟨ad, e, hc 0 _ rfl, by rw [← add_field _ _ 1 (by omega)]; exact hc 1 _ rfl, by rw [← add_field _ _ 2 (by omega)]; exact hc 2 _ rfl⟩

/-! #### struct type 73 -/
structure S73 where
  f0 : Int
  f1 : Int
def z73 : S73 := ⟨(0 : Int), (0 : Int)⟩
def k73 : Kd S73 := Kd.iso (Kd.pair (Kd.int .i64) (Kd.int .i64)) (fun x : S73 => (x.f0, x.f1))
theorem k73_open {w : World} {x : S73} {cs : List Value} (h : k73.K w x cs) : cs = [.int .i64 x.f0, .int .i64 x.f1] := by
  obtain ⟨_, _, rfl, rfl, rfl⟩ := h
  exact rfl
theorem k73_openM {w : World} {base : Nat} {ok : Nat → Prop} {x : S73} {cs : List Value} (h : k73.M w base ok x cs) : cs = [.int .i64 x.f0, .int .i64 x.f1] := by
  obtain ⟨_, _, rfl, rfl, rfl⟩ := h
  exact rfl
theorem k73_mk (w : World) (x : S73)  : k73.K w x [.int .i64 x.f0, .int .i64 x.f1] := ⟨[.int .i64 x.f0], [.int .i64 x.f1], rfl, rfl, rfl⟩
theorem k73_mkM (w : World) (base : Nat) (ok : Nat → Prop) (x : S73)  : k73.M w base ok x [.int .i64 x.f0, .int .i64 x.f1] := ⟨[.int .i64 x.f0], [.int .i64 x.f1], rfl, rfl, rfl⟩
theorem k73_mkF (W : World) (ok : Nat → Prop) (x : S73) : Kd.FK k73 W ok x [.int .i64 x.f0, .int .i64 x.f1] := fun W2 _ => k73_mk W2 x
def rd_T73 (xs : List S73) (i : Int) : S73 := xs.getD i.toNat z73
theorem at_T73 {w : World} {A : Option Addr} {n : Nat} {xs : List S73} (h : Kd.C k73 w A n xs) (i : Int) (h0 : 0 ≤ i) (h1 : i < n) : ∃ ad , A = some ad ∧ w.cell? (ad.add (i.toNat * 2)) = some (.int .i64 (rd_T73 xs i).f0) ∧ w.cell? ⟨(ad.add (i.toNat * 2)).block, (ad.add (i.toNat * 2)).off + 1, none⟩ = some (.int .i64 (rd_T73 xs i).f1) := by
  obtain ⟨ad, c, e, _, hK, hc0⟩ := Kd.C_get h z73 i h0 h1
  have hc : ∀ j u, c[j]? = some u → w.cell? (ad.add (i.toNat * 2 + j)) = some u := hc0
  obtain rfl := k73_open hK
  exact ⟨ad, e, hc 0 _ rfl, by rw [← add_field _ _ 1 (by omega)]; exact hc 1 _ rfl⟩

def rd_L6 (xs : List (List Int)) (i : Int) : (List Int) := xs.getD i.toNat ([] : List Int)
theorem at_L6 {w : World} {A : Option Addr} {n : Nat} {xs : List (List Int)} (h : Kd.C (Kd.slice 3 (Kd.int .i64)) w A n xs) (i : Int) (h0 : 0 ≤ i) (h1 : i < n) : ∃ ad A0 c0, A = some ad ∧ w.cell? (ad.add i.toNat) = some (.slice A0 (rd_L6 xs i).length c0) ∧ (rd_L6 xs i).length ≤ c0 ∧ (Kd.int .i64).C w A0 (rd_L6 xs i).length (rd_L6 xs i) := by
  obtain ⟨ad, c, e, _, hK, hc0⟩ := Kd.C_get h ([] : List Int) i h0 h1
  have hc : ∀ j u, c[j]? = some u → w.cell? (ad.add (i.toNat * 1 + j)) = some u := hc0
  obtain ⟨A0, c0, rfl, l0, g0⟩ := hK
  exact ⟨ad, A0, c0, e, by have hq := hc 0 _ rfl; rwa [Nat.mul_one, Nat.add_zero] at hq, l0, g0⟩

def rd_L7 (xs : List (List Bool)) (i : Int) : (List Bool) := xs.getD i.toNat ([] : List Bool)
theorem at_L7 {w : World} {A : Option Addr} {n : Nat} {xs : List (List Bool)} (h : Kd.C (Kd.slice 4 Kd.bool) w A n xs) (i : Int) (h0 : 0 ≤ i) (h1 : i < n) : ∃ ad A0 c0, A = some ad ∧ w.cell? (ad.add i.toNat) = some (.slice A0 (rd_L7 xs i).length c0) ∧ (rd_L7 xs i).length ≤ c0 ∧ Kd.bool.C w A0 (rd_L7 xs i).length (rd_L7 xs i) := by
  obtain ⟨ad, c, e, _, hK, hc0⟩ := Kd.C_get h ([] : List Bool) i h0 h1
  have hc : ∀ j u, c[j]? = some u → w.cell? (ad.add (i.toNat * 1 + j)) = some u := hc0
  obtain ⟨A0, c0, rfl, l0, g0⟩ := hK
  exact ⟨ad, A0, c0, e, by have hq := hc 0 _ rfl; rwa [Nat.mul_one, Nat.add_zero] at hq, l0, g0⟩

def rd_L8 (xs : List (List S23)) (i : Int) : (List S23) := xs.getD i.toNat ([] : List S23)
theorem at_L8 {w : World} {A : Option Addr} {n : Nat} {xs : List (List S23)} (h : Kd.C (Kd.slice 23 k23) w A n xs) (i : Int) (h0 : 0 ≤ i) (h1 : i < n) : ∃ ad A0 c0, A = some ad ∧ w.cell? (ad.add i.toNat) = some (.slice A0 (rd_L8 xs i).length c0) ∧ (rd_L8 xs i).length ≤ c0 ∧ k23.C w A0 (rd_L8 xs i).length (rd_L8 xs i) := by
  obtain ⟨ad, c, e, _, hK, hc0⟩ := Kd.C_get h ([] : List S23) i h0 h1
  have hc : ∀ j u, c[j]? = some u → w.cell? (ad.add (i.toNat * 1 + j)) = some u := hc0
  obtain ⟨A0, c0, rfl, l0, g0⟩ := hK
  exact ⟨ad, A0, c0, e, by have hq := hc 0 _ rfl; rwa [Nat.mul_one, Nat.add_zero] at hq, l0, g0⟩

/-! #### struct type 37 -/
structure S37 where
  f0 : Int
  f1 : Int
  f2 : (List Int)
  f3 : (List Bool)
  f4 : (List S23)
  f5 : Int
def z37 : S37 := ⟨(0 : Int), (0 : Int), ([] : List Int), ([] : List Bool), ([] : List S23), (0 : Int)⟩
def k37 : Kd S37 := Kd.iso (Kd.pair (Kd.int .i64) (Kd.pair (Kd.int .i64) (Kd.pair (Kd.slice 3 (Kd.int .i64)) (Kd.pair (Kd.slice 4 Kd.bool) (Kd.pair (Kd.slice 23 k23) (Kd.int .i64)))))) (fun x : S37 => (x.f0, x.f1, x.f2, x.f3, x.f4, x.f5))
theorem k37_open {w : World} {x : S37} {cs : List Value} (h : k37.K w x cs) : ∃ A2 c2 A3 c3 A4 c4, cs = [.int .i64 x.f0, .int .i64 x.f1, .slice A2 x.f2.length c2, .slice A3 x.f3.length c3, .slice A4 x.f4.length c4, .int .i64 x.f5] ∧ x.f2.length ≤ c2 ∧ (Kd.int .i64).C w A2 x.f2.length x.f2 ∧ x.f3.length ≤ c3 ∧ Kd.bool.C w A3 x.f3.length x.f3 ∧ x.f4.length ≤ c4 ∧ k23.C w A4 x.f4.length x.f4 := by
  obtain ⟨_, _, rfl, rfl, ⟨_, _, rfl, rfl, ⟨_, _, rfl, ⟨A2, c2, rfl, l2, g2⟩, ⟨_, _, rfl, ⟨A3, c3, rfl, l3, g3⟩, ⟨_, _, rfl, ⟨A4, c4, rfl, l4, g4⟩, rfl⟩⟩⟩⟩⟩ := h
  exact ⟨A2, c2, A3, c3, A4, c4, rfl, l2, g2, l3, g3, l4, g4⟩
theorem k37_openM {w : World} {base : Nat} {ok : Nat → Prop} {x : S37} {cs : List Value} (h : k37.M w base ok x cs) : ∃ v2 v3 v4, cs = [.int .i64 x.f0, .int .i64 x.f1, v2, v3, v4, .int .i64 x.f5] ∧ (Kd.int .i64).R 3 w base ok v2 x.f2 ∧ Kd.bool.R 4 w base ok v3 x.f3 ∧ k23.R 23 w base ok v4 x.f4 := by
  obtain ⟨_, _, rfl, rfl, ⟨_, _, rfl, rfl, ⟨_, _, rfl, ⟨v2, rfl, g2⟩, ⟨_, _, rfl, ⟨v3, rfl, g3⟩, ⟨_, _, rfl, ⟨v4, rfl, g4⟩, rfl⟩⟩⟩⟩⟩ := h
  exact ⟨v2, v3, v4, rfl, g2, g3, g4⟩
theorem k37_mk (w : World) (x : S37) {A2 : Option Addr} {c2 : Nat} (l2 : x.f2.length ≤ c2) (g2 : (Kd.int .i64).C w A2 x.f2.length x.f2) {A3 : Option Addr} {c3 : Nat} (l3 : x.f3.length ≤ c3) (g3 : Kd.bool.C w A3 x.f3.length x.f3) {A4 : Option Addr} {c4 : Nat} (l4 : x.f4.length ≤ c4) (g4 : k23.C w A4 x.f4.length x.f4) : k37.K w x [.int .i64 x.f0, .int .i64 x.f1, .slice A2 x.f2.length c2, .slice A3 x.f3.length c3, .slice A4 x.f4.length c4, .int .i64 x.f5] := ⟨[.int .i64 x.f0], [.int .i64 x.f1, .slice A2 x.f2.length c2, .slice A3 x.f3.length c3, .slice A4 x.f4.length c4, .int .i64 x.f5], rfl, rfl, ⟨[.int .i64 x.f1], [.slice A2 x.f2.length c2, .slice A3 x.f3.length c3, .slice A4 x.f4.length c4, .int .i64 x.f5], rfl, rfl, ⟨[.slice A2 x.f2.length c2], [.slice A3 x.f3.length c3, .slice A4 x.f4.length c4, .int .i64 x.f5], rfl, ⟨A2, c2, rfl, l2, g2⟩, ⟨[.slice A3 x.f3.length c3], [.slice A4 x.f4.length c4, .int .i64 x.f5], rfl, ⟨A3, c3, rfl, l3, g3⟩, ⟨[.slice A4 x.f4.length c4], [.int .i64 x.f5], rfl, ⟨A4, c4, rfl, l4, g4⟩, rfl⟩⟩⟩⟩⟩
theorem k37_mkM (w : World) (base : Nat) (ok : Nat → Prop) (x : S37) {v2 : Value} (g2 : (Kd.int .i64).R 3 w base ok v2 x.f2) {v3 : Value} (g3 : Kd.bool.R 4 w base ok v3 x.f3) {v4 : Value} (g4 : k23.R 23 w base ok v4 x.f4) : k37.M w base ok x [.int .i64 x.f0, .int .i64 x.f1, v2, v3, v4, .int .i64 x.f5] := ⟨[.int .i64 x.f0], [.int .i64 x.f1, v2, v3, v4, .int .i64 x.f5], rfl, rfl, ⟨[.int .i64 x.f1], [v2, v3, v4, .int .i64 x.f5], rfl, rfl, ⟨[v2], [v3, v4, .int .i64 x.f5], rfl, ⟨v2, rfl, g2⟩, ⟨[v3], [v4, .int .i64 x.f5], rfl, ⟨v3, rfl, g3⟩, ⟨[v4], [.int .i64 x.f5], rfl, ⟨v4, rfl, g4⟩, rfl⟩⟩⟩⟩⟩
theorem k37_openF {W : World} {ok : Nat → Prop} {x : S37} {cs : List Value} (h : Kd.FK k37 W ok x cs) : ∃ A2 c2 A3 c3 A4 c4, cs = [.int .i64 x.f0, .int .i64 x.f1, .slice A2 x.f2.length c2, .slice A3 x.f3.length c3, .slice A4 x.f4.length c4, .int .i64 x.f5] ∧ x.f2.length ≤ c2 ∧ Kd.F (Kd.int .i64) W ok A2 x.f2.length x.f2 ∧ x.f3.length ≤ c3 ∧ Kd.F Kd.bool W ok A3 x.f3.length x.f3 ∧ x.f4.length ≤ c4 ∧ Kd.F k23 W ok A4 x.f4.length x.f4 := by
  obtain ⟨A2, c2, A3, c3, A4, c4, rfl, l2, _, l3, _, l4, _⟩ := k37_open (Kd.FK_now h)
  exact ⟨A2, c2, A3, c3, A4, c4, rfl, l2, (fun W' hW => by obtain ⟨A2_, c2_, A3_, c3_, A4_, c4_, he, l2_, g2_, l3_, g3_, l4_, g4_⟩ := k37_open (h W' hW); injection (Option.some.inj (show some (Value.slice A2 x.f2.length c2) = some (Value.slice A2_ x.f2.length c2_) from congrArg (fun l => l[2]?) he)) with ha_ _ _; rw [ha_]; exact g2_), l3, (fun W' hW => by obtain ⟨A2_, c2_, A3_, c3_, A4_, c4_, he, l2_, g2_, l3_, g3_, l4_, g4_⟩ := k37_open (h W' hW); injection (Option.some.inj (show some (Value.slice A3 x.f3.length c3) = some (Value.slice A3_ x.f3.length c3_) from congrArg (fun l => l[3]?) he)) with ha_ _ _; rw [ha_]; exact g3_), l4, (fun W' hW => by obtain ⟨A2_, c2_, A3_, c3_, A4_, c4_, he, l2_, g2_, l3_, g3_, l4_, g4_⟩ := k37_open (h W' hW); injection (Option.some.inj (show some (Value.slice A4 x.f4.length c4) = some (Value.slice A4_ x.f4.length c4_) from congrArg (fun l => l[4]?) he)) with ha_ _ _; rw [ha_]; exact g4_)⟩
theorem k37_mkF (W : World) (ok : Nat → Prop) (x : S37) {A2 : Option Addr} {c2 : Nat} (l2 : x.f2.length ≤ c2) (g2 : Kd.F (Kd.int .i64) W ok A2 x.f2.length x.f2) {A3 : Option Addr} {c3 : Nat} (l3 : x.f3.length ≤ c3) (g3 : Kd.F Kd.bool W ok A3 x.f3.length x.f3) {A4 : Option Addr} {c4 : Nat} (l4 : x.f4.length ≤ c4) (g4 : Kd.F k23 W ok A4 x.f4.length x.f4) : Kd.FK k37 W ok x [.int .i64 x.f0, .int .i64 x.f1, .slice A2 x.f2.length c2, .slice A3 x.f3.length c3, .slice A4 x.f4.length c4, .int .i64 x.f5] := fun W2 hW => k37_mk W2 x l2 (g2 W2 hW) l3 (g3 W2 hW) l4 (g4 W2 hW)
def rd_T37 (xs : List S37) (i : Int) : S37 := xs.getD i.toNat z37
theorem at_T37 {w : World} {A : Option Addr} {n : Nat} {xs : List S37} (h : Kd.C k37 w A n xs) (i : Int) (h0 : 0 ≤ i) (h1 : i < n) : ∃ ad A2 c2 A3 c3 A4 c4, A = some ad ∧ w.cell? (ad.add (i.toNat * 6)) = some (.int .i64 (rd_T37 xs i).f0) ∧ w.cell? ⟨(ad.add (i.toNat * 6)).block, (ad.add (i.toNat * 6)).off + 1, none⟩ = some (.int .i64 (rd_T37 xs i).f1) ∧ w.cell? ⟨(ad.add (i.toNat * 6)).block, (ad.add (i.toNat * 6)).off + 2, none⟩ = some (.slice A2 (rd_T37 xs i).f2.length c2) ∧ w.cell? ⟨(ad.add (i.toNat * 6)).block, (ad.add (i.toNat * 6)).off + 3, none⟩ = some (.slice A3 (rd_T37 xs i).f3.length c3) ∧ w.cell? ⟨(ad.add (i.toNat * 6)).block, (ad.add (i.toNat * 6)).off + 4, none⟩ = some (.slice A4 (rd_T37 xs i).f4.length c4) ∧ w.cell? ⟨(ad.add (i.toNat * 6)).block, (ad.add (i.toNat * 6)).off + 5, none⟩ = some (.int .i64 (rd_T37 xs i).f5) ∧ (rd_T37 xs i).f2.length ≤ c2 ∧ (Kd.int .i64).C w A2 (rd_T37 xs i).f2.length (rd_T37 xs i).f2 ∧ (rd_T37 xs i).f3.length ≤ c3 ∧ Kd.bool.C w A3 (rd_T37 xs i).f3.length (rd_T37 xs i).f3 ∧ (rd_T37 xs i).f4.length ≤ c4 ∧ k23.C w A4 (rd_T37 xs i).f4.length (rd_T37 xs i).f4 := by
  obtain ⟨ad, c, e, _, hK, hc0⟩ := Kd.C_get h z37 i h0 h1
  have hc : ∀ j u, c[j]? = some u → w.cell? (ad.add (i.toNat * 6 + j)) = some u := hc0
  obtain ⟨A2, c2, A3, c3, A4, c4, rfl, l2, g2, l3, g3, l4, g4⟩ := k37_open hK
  exact ⟨ad, A2, c2, A3, c3, A4, c4, e, hc 0 _ rfl, by rw [← add_field _ _ 1 (by omega)]; exact hc 1 _ rfl, by rw [← add_field _ _ 2 (by omega)]; exact hc 2 _ rfl, by rw [← add_field _ _ 3 (by omega)]; exact hc 3 _ rfl, by rw [← add_field _ _ 4 (by omega)]; exact hc 4 _ rfl, by rw [← add_field _ _ 5 (by omega)]; exact hc 5 _ rfl, l2, g2, l3, g3, l4, g4⟩

/-! #### struct type 39 -/
structure S39 where
  f0 : Bool
  f1 : Int
  f2 : Int
def z39 : S39 := ⟨false, (0 : Int), (0 : Int)⟩
def k39 : Kd S39 := Kd.iso (Kd.pair Kd.bool (Kd.pair (Kd.int .i64) (Kd.int .i64))) (fun x : S39 => (x.f0, x.f1, x.f2))
theorem k39_open {w : World} {x : S39} {cs : List Value} (h : k39.K w x cs) : cs = [.bool x.f0, .int .i64 x.f1, .int .i64 x.f2] := by
  obtain ⟨_, _, rfl, rfl, ⟨_, _, rfl, rfl, rfl⟩⟩ := h
  exact rfl
theorem k39_openM {w : World} {base : Nat} {ok : Nat → Prop} {x : S39} {cs : List Value} (h : k39.M w base ok x cs) : cs = [.bool x.f0, .int .i64 x.f1, .int .i64 x.f2] := by
  obtain ⟨_, _, rfl, rfl, ⟨_, _, rfl, rfl, rfl⟩⟩ := h
  exact rfl
theorem k39_mk (w : World) (x : S39)  : k39.K w x [.bool x.f0, .int .i64 x.f1, .int .i64 x.f2] := ⟨[.bool x.f0], [.int .i64 x.f1, .int .i64 x.f2], rfl, rfl, ⟨[.int .i64 x.f1], [.int .i64 x.f2], rfl, rfl, rfl⟩⟩
theorem k39_mkM (w : World) (base : Nat) (ok : Nat → Prop) (x : S39)  : k39.M w base ok x [.bool x.f0, .int .i64 x.f1, .int .i64 x.f2] := ⟨[.bool x.f0], [.int .i64 x.f1, .int .i64 x.f2], rfl, rfl, ⟨[.int .i64 x.f1], [.int .i64 x.f2], rfl, rfl, rfl⟩⟩
theorem k39_mkF (W : World) (ok : Nat → Prop) (x : S39) : Kd.FK k39 W ok x [.bool x.f0, .int .i64 x.f1, .int .i64 x.f2] := fun W2 _ => k39_mk W2 x
def rd_T39 (xs : List S39) (i : Int) : S39 := xs.getD i.toNat z39
theorem at_T39 {w : World} {A : Option Addr} {n : Nat} {xs : List S39} (h : Kd.C k39 w A n xs) (i : Int) (h0 : 0 ≤ i) (h1 : i < n) : ∃ ad , A = some ad ∧ w.cell? (ad.add (i.toNat * 3)) = some (.bool (rd_T39 xs i).f0) ∧ w.cell? ⟨(ad.add (i.toNat * 3)).block, (ad.add (i.toNat * 3)).off + 1, none⟩ = some (.int .i64 (rd_T39 xs i).f1) ∧ w.cell? ⟨(ad.add (i.toNat * 3)).block, (ad.add (i.toNat * 3)).off + 2, none⟩ = some (.int .i64 (rd_T39 xs i).f2) := by
  obtain ⟨ad, c, e, _, hK, hc0⟩ := Kd.C_get h z39 i h0 h1
  have hc : ∀ j u, c[j]? = some u → w.cell? (ad.add (i.toNat * 3 + j)) = some u := hc0
  obtain rfl := k39_open hK
  exact ⟨ad, e, hc 0 _ rfl, by rw [← add_field _ _ 1 (by omega)]; exact hc 1 _ rfl, by rw [← add_field _ _ 2 (by omega)]; exact hc 2 _ rfl⟩

/-! #### struct type 41 -/
structure S41 where
  f0 : S39
  f1 : Int
  f2 : Int
def z41 : S41 := ⟨z39, (0 : Int), (0 : Int)⟩
def k41 : Kd S41 := Kd.iso (Kd.pair k39 (Kd.pair (Kd.int .i64) (Kd.int .i64))) (fun x : S41 => (x.f0, x.f1, x.f2))
theorem k41_open {w : World} {x : S41} {cs : List Value} (h : k41.K w x cs) : cs = [.bool x.f0.f0, .int .i64 x.f0.f1, .int .i64 x.f0.f2, .int .i64 x.f1, .int .i64 x.f2] := by
  obtain ⟨_, _, rfl, s0, ⟨_, _, rfl, rfl, rfl⟩⟩ := h
  obtain rfl := k39_open s0
  exact rfl
theorem k41_openM {w : World} {base : Nat} {ok : Nat → Prop} {x : S41} {cs : List Value} (h : k41.M w base ok x cs) : cs = [.bool x.f0.f0, .int .i64 x.f0.f1, .int .i64 x.f0.f2, .int .i64 x.f1, .int .i64 x.f2] := by
  obtain ⟨_, _, rfl, s0, ⟨_, _, rfl, rfl, rfl⟩⟩ := h
  obtain rfl := k39_openM s0
  exact rfl
theorem k41_mk (w : World) (x : S41)  : k41.K w x [.bool x.f0.f0, .int .i64 x.f0.f1, .int .i64 x.f0.f2, .int .i64 x.f1, .int .i64 x.f2] := ⟨[.bool x.f0.f0, .int .i64 x.f0.f1, .int .i64 x.f0.f2], [.int .i64 x.f1, .int .i64 x.f2], rfl, (k39_mk w x.f0 ), ⟨[.int .i64 x.f1], [.int .i64 x.f2], rfl, rfl, rfl⟩⟩
theorem k41_mkM (w : World) (base : Nat) (ok : Nat → Prop) (x : S41)  : k41.M w base ok x [.bool x.f0.f0, .int .i64 x.f0.f1, .int .i64 x.f0.f2, .int .i64 x.f1, .int .i64 x.f2] := ⟨[.bool x.f0.f0, .int .i64 x.f0.f1, .int .i64 x.f0.f2], [.int .i64 x.f1, .int .i64 x.f2], rfl, (k39_mkM w base ok x.f0 ), ⟨[.int .i64 x.f1], [.int .i64 x.f2], rfl, rfl, rfl⟩⟩
theorem k41_mkF (W : World) (ok : Nat → Prop) (x : S41) : Kd.FK k41 W ok x [.bool x.f0.f0, .int .i64 x.f0.f1, .int .i64 x.f0.f2, .int .i64 x.f1, .int .i64 x.f2] := fun W2 _ => k41_mk W2 x
def rd_T41 (xs : List S41) (i : Int) : S41 := xs.getD i.toNat z41
theorem at_T41 {w : World} {A : Option Addr} {n : Nat} {xs : List S41} (h : Kd.C k41 w A n xs) (i : Int) (h0 : 0 ≤ i) (h1 : i < n) : ∃ ad , A = some ad ∧ w.cell? (ad.add (i.toNat * 5)) = some (.bool (rd_T41 xs i).f0.f0) ∧ w.cell? ⟨(ad.add (i.toNat * 5)).block, (ad.add (i.toNat * 5)).off + 1, none⟩ = some (.int .i64 (rd_T41 xs i).f0.f1) ∧ w.cell? ⟨(ad.add (i.toNat * 5)).block, (ad.add (i.toNat * 5)).off + 2, none⟩ = some (.int .i64 (rd_T41 xs i).f0.f2) ∧ w.cell? ⟨(ad.add (i.toNat * 5)).block, (ad.add (i.toNat * 5)).off + 3, none⟩ = some (.int .i64 (rd_T41 xs i).f1) ∧ w.cell? ⟨(ad.add (i.toNat * 5)).block, (ad.add (i.toNat * 5)).off + 4, none⟩ = some (.int .i64 (rd_T41 xs i).f2) := by
  obtain ⟨ad, c, e, _, hK, hc0⟩ := Kd.C_get h z41 i h0 h1
  have hc : ∀ j u, c[j]? = some u → w.cell? (ad.add (i.toNat * 5 + j)) = some u := hc0
  obtain rfl := k41_open hK
  exact ⟨ad, e, hc 0 _ rfl, by rw [← add_field _ _ 1 (by omega)]; exact hc 1 _ rfl, by rw [← add_field _ _ 2 (by omega)]; exact hc 2 _ rfl, by rw [← add_field _ _ 3 (by omega)]; exact hc 3 _ rfl, by rw [← add_field _ _ 4 (by omega)]; exact hc 4 _ rfl⟩

def rd_L12 (xs : List (List S73)) (i : Int) : (List S73) := xs.getD i.toNat ([] : List S73)
theorem at_L12 {w : World} {A : Option Addr} {n : Nat} {xs : List (List S73)} (h : Kd.C (Kd.slice 73 k73) w A n xs) (i : Int) (h0 : 0 ≤ i) (h1 : i < n) : ∃ ad A0 c0, A = some ad ∧ w.cell? (ad.add i.toNat) = some (.slice A0 (rd_L12 xs i).length c0) ∧ (rd_L12 xs i).length ≤ c0 ∧ k73.C w A0 (rd_L12 xs i).length (rd_L12 xs i) := by
  obtain ⟨ad, c, e, _, hK, hc0⟩ := Kd.C_get h ([] : List S73) i h0 h1
  have hc : ∀ j u, c[j]? = some u → w.cell? (ad.add (i.toNat * 1 + j)) = some u := hc0
  obtain ⟨A0, c0, rfl, l0, g0⟩ := hK
  exact ⟨ad, A0, c0, e, by have hq := hc 0 _ rfl; rwa [Nat.mul_one, Nat.add_zero] at hq, l0, g0⟩

/-! #### struct type 44 -/
structure S44 where
  f0 : Int
  f1 : (List Int)
def z44 : S44 := ⟨(0 : Int), ([] : List Int)⟩
def k44 : Kd S44 := Kd.iso (Kd.pair (Kd.int .i64) (Kd.slice 3 (Kd.int .i64))) (fun x : S44 => (x.f0, x.f1))
theorem k44_open {w : World} {x : S44} {cs : List Value} (h : k44.K w x cs) : ∃ A1 c1, cs = [.int .i64 x.f0, .slice A1 x.f1.length c1] ∧ x.f1.length ≤ c1 ∧ (Kd.int .i64).C w A1 x.f1.length x.f1 := by
  obtain ⟨_, _, rfl, rfl, ⟨A1, c1, rfl, l1, g1⟩⟩ := h
  exact ⟨A1, c1, rfl, l1, g1⟩
theorem k44_openM {w : World} {base : Nat} {ok : Nat → Prop} {x : S44} {cs : List Value} (h : k44.M w base ok x cs) : ∃ v1, cs = [.int .i64 x.f0, v1] ∧ (Kd.int .i64).R 3 w base ok v1 x.f1 := by
  obtain ⟨_, _, rfl, rfl, ⟨v1, rfl, g1⟩⟩ := h
  exact ⟨v1, rfl, g1⟩
theorem k44_mk (w : World) (x : S44) {A1 : Option Addr} {c1 : Nat} (l1 : x.f1.length ≤ c1) (g1 : (Kd.int .i64).C w A1 x.f1.length x.f1) : k44.K w x [.int .i64 x.f0, .slice A1 x.f1.length c1] := ⟨[.int .i64 x.f0], [.slice A1 x.f1.length c1], rfl, rfl, ⟨A1, c1, rfl, l1, g1⟩⟩
theorem k44_mkM (w : World) (base : Nat) (ok : Nat → Prop) (x : S44) {v1 : Value} (g1 : (Kd.int .i64).R 3 w base ok v1 x.f1) : k44.M w base ok x [.int .i64 x.f0, v1] := ⟨[.int .i64 x.f0], [v1], rfl, rfl, ⟨v1, rfl, g1⟩⟩
theorem k44_openF {W : World} {ok : Nat → Prop} {x : S44} {cs : List Value} (h : Kd.FK k44 W ok x cs) : ∃ A1 c1, cs = [.int .i64 x.f0, .slice A1 x.f1.length c1] ∧ x.f1.length ≤ c1 ∧ Kd.F (Kd.int .i64) W ok A1 x.f1.length x.f1 := by
  obtain ⟨A1, c1, rfl, l1, _⟩ := k44_open (Kd.FK_now h)
  exact ⟨A1, c1, rfl, l1, (fun W' hW => by obtain ⟨A1_, c1_, he, l1_, g1_⟩ := k44_open (h W' hW); injection (Option.some.inj (show some (Value.slice A1 x.f1.length c1) = some (Value.slice A1_ x.f1.length c1_) from congrArg (fun l => l[1]?) he)) with ha_ _ _; rw [ha_]; exact g1_)⟩
theorem k44_mkF (W : World) (ok : Nat → Prop) (x : S44) {A1 : Option Addr} {c1 : Nat} (l1 : x.f1.length ≤ c1) (g1 : Kd.F (Kd.int .i64) W ok A1 x.f1.length x.f1) : Kd.FK k44 W ok x [.int .i64 x.f0, .slice A1 x.f1.length c1] := fun W2 hW => k44_mk W2 x l1 (g1 W2 hW)
def rd_T44 (xs : List S44) (i : Int) : S44 := xs.getD i.toNat z44
theorem at_T44 {w : World} {A : Option Addr} {n : Nat} {xs : List S44} (h : Kd.C k44 w A n xs) (i : Int) (h0 : 0 ≤ i) (h1 : i < n) : ∃ ad A1 c1, A = some ad ∧ w.cell? (ad.add (i.toNat * 2)) = some (.int .i64 (rd_T44 xs i).f0) ∧ w.cell? ⟨(ad.add (i.toNat * 2)).block, (ad.add (i.toNat * 2)).off + 1, none⟩ = some (.slice A1 (rd_T44 xs i).f1.length c1) ∧ (rd_T44 xs i).f1.length ≤ c1 ∧ (Kd.int .i64).C w A1 (rd_T44 xs i).f1.length (rd_T44 xs i).f1 := by
  obtain ⟨ad, c, e, _, hK, hc0⟩ := Kd.C_get h z44 i h0 h1
  have hc : ∀ j u, c[j]? = some u → w.cell? (ad.add (i.toNat * 2 + j)) = some u := hc0
  obtain ⟨A1, c1, rfl, l1, g1⟩ := k44_open hK
  exact ⟨ad, A1, c1, e, hc 0 _ rfl, by rw [← add_field _ _ 1 (by omega)]; exact hc 1 _ rfl, l1, g1⟩

/-! #### struct type 46 -/
structure S46 where
  f0 : Int
  f1 : Int
  f2 : Int
  f3 : S39
  f4 : S41
  f5 : (List S73)
  f6 : (List Int)
  f7 : S44
def z46 : S46 := ⟨(0 : Int), (0 : Int), (0 : Int), z39, z41, ([] : List S73), ([] : List Int), z44⟩
def k46 : Kd S46 := Kd.iso (Kd.pair (Kd.int .i64) (Kd.pair (Kd.int .i64) (Kd.pair (Kd.int .i64) (Kd.pair k39 (Kd.pair k41 (Kd.pair (Kd.slice 73 k73) (Kd.pair (Kd.slice 3 (Kd.int .i64)) k44))))))) (fun x : S46 => (x.f0, x.f1, x.f2, x.f3, x.f4, x.f5, x.f6, x.f7))
theorem k46_open {w : World} {x : S46} {cs : List Value} (h : k46.K w x cs) : ∃ A11 c11 A12 c12 A14 c14, cs = [.int .i64 x.f0, .int .i64 x.f1, .int .i64 x.f2, .bool x.f3.f0, .int .i64 x.f3.f1, .int .i64 x.f3.f2, .bool x.f4.f0.f0, .int .i64 x.f4.f0.f1, .int .i64 x.f4.f0.f2, .int .i64 x.f4.f1, .int .i64 x.f4.f2, .slice A11 x.f5.length c11, .slice A12 x.f6.length c12, .int .i64 x.f7.f0, .slice A14 x.f7.f1.length c14] ∧ x.f5.length ≤ c11 ∧ k73.C w A11 x.f5.length x.f5 ∧ x.f6.length ≤ c12 ∧ (Kd.int .i64).C w A12 x.f6.length x.f6 ∧ x.f7.f1.length ≤ c14 ∧ (Kd.int .i64).C w A14 x.f7.f1.length x.f7.f1 := by
  obtain ⟨_, _, rfl, rfl, ⟨_, _, rfl, rfl, ⟨_, _, rfl, rfl, ⟨_, _, rfl, s3, ⟨_, _, rfl, s6, ⟨_, _, rfl, ⟨A11, c11, rfl, l11, g11⟩, ⟨_, _, rfl, ⟨A12, c12, rfl, l12, g12⟩, s13⟩⟩⟩⟩⟩⟩⟩ := h
  obtain rfl := k39_open s3
  obtain rfl := k41_open s6
  obtain ⟨A14, c14, rfl, l14, g14⟩ := k44_open s13
  exact ⟨A11, c11, A12, c12, A14, c14, rfl, l11, g11, l12, g12, l14, g14⟩
theorem k46_openM {w : World} {base : Nat} {ok : Nat → Prop} {x : S46} {cs : List Value} (h : k46.M w base ok x cs) : ∃ v11 v12 v14, cs = [.int .i64 x.f0, .int .i64 x.f1, .int .i64 x.f2, .bool x.f3.f0, .int .i64 x.f3.f1, .int .i64 x.f3.f2, .bool x.f4.f0.f0, .int .i64 x.f4.f0.f1, .int .i64 x.f4.f0.f2, .int .i64 x.f4.f1, .int .i64 x.f4.f2, v11, v12, .int .i64 x.f7.f0, v14] ∧ k73.R 73 w base ok v11 x.f5 ∧ (Kd.int .i64).R 3 w base ok v12 x.f6 ∧ (Kd.int .i64).R 3 w base ok v14 x.f7.f1 := by
  obtain ⟨_, _, rfl, rfl, ⟨_, _, rfl, rfl, ⟨_, _, rfl, rfl, ⟨_, _, rfl, s3, ⟨_, _, rfl, s6, ⟨_, _, rfl, ⟨v11, rfl, g11⟩, ⟨_, _, rfl, ⟨v12, rfl, g12⟩, s13⟩⟩⟩⟩⟩⟩⟩ := h
  obtain rfl := k39_openM s3
  obtain rfl := k41_openM s6
  obtain ⟨v14, rfl, g14⟩ := k44_openM s13
  exact ⟨v11, v12, v14, rfl, g11, g12, g14⟩
theorem k46_mk (w : World) (x : S46) {A11 : Option Addr} {c11 : Nat} (l11 : x.f5.length ≤ c11) (g11 : k73.C w A11 x.f5.length x.f5) {A12 : Option Addr} {c12 : Nat} (l12 : x.f6.length ≤ c12) (g12 : (Kd.int .i64).C w A12 x.f6.length x.f6) {A14 : Option Addr} {c14 : Nat} (l14 : x.f7.f1.length ≤ c14) (g14 : (Kd.int .i64).C w A14 x.f7.f1.length x.f7.f1) : k46.K w x [.int .i64 x.f0, .int .i64 x.f1, .int .i64 x.f2, .bool x.f3.f0, .int .i64 x.f3.f1, .int .i64 x.f3.f2, .bool x.f4.f0.f0, .int .i64 x.f4.f0.f1, .int .i64 x.f4.f0.f2, .int .i64 x.f4.f1, .int .i64 x.f4.f2, .slice A11 x.f5.length c11, .slice A12 x.f6.length c12, .int .i64 x.f7.f0, .slice A14 x.f7.f1.length c14] := ⟨[.int .i64 x.f0], [.int .i64 x.f1, .int .i64 x.f2, .bool x.f3.f0, .int .i64 x.f3.f1, .int .i64 x.f3.f2, .bool x.f4.f0.f0, .int .i64 x.f4.f0.f1, .int .i64 x.f4.f0.f2, .int .i64 x.f4.f1, .int .i64 x.f4.f2, .slice A11 x.f5.length c11, .slice A12 x.f6.length c12, .int .i64 x.f7.f0, .slice A14 x.f7.f1.length c14], rfl, rfl, ⟨[.int .i64 x.f1], [.int .i64 x.f2, .bool x.f3.f0, .int .i64 x.f3.f1, .int .i64 x.f3.f2, .bool x.f4.f0.f0, .int .i64 x.f4.f0.f1, .int .i64 x.f4.f0.f2, .int .i64 x.f4.f1, .int .i64 x.f4.f2, .slice A11 x.f5.length c11, .slice A12 x.f6.length c12, .int .i64 x.f7.f0, .slice A14 x.f7.f1.length c14], rfl, rfl, ⟨[.int .i64 x.f2], [.bool x.f3.f0, .int .i64 x.f3.f1, .int .i64 x.f3.f2, .bool x.f4.f0.f0, .int .i64 x.f4.f0.f1, .int .i64 x.f4.f0.f2, .int .i64 x.f4.f1, .int .i64 x.f4.f2, .slice A11 x.f5.length c11, .slice A12 x.f6.length c12, .int .i64 x.f7.f0, .slice A14 x.f7.f1.length c14], rfl, rfl, ⟨[.bool x.f3.f0, .int .i64 x.f3.f1, .int .i64 x.f3.f2], [.bool x.f4.f0.f0, .int .i64 x.f4.f0.f1, .int .i64 x.f4.f0.f2, .int .i64 x.f4.f1, .int .i64 x.f4.f2, .slice A11 x.f5.length c11, .slice A12 x.f6.length c12, .int .i64 x.f7.f0, .slice A14 x.f7.f1.length c14], rfl, (k39_mk w x.f3 ), ⟨[.bool x.f4.f0.f0, .int .i64 x.f4.f0.f1, .int .i64 x.f4.f0.f2, .int .i64 x.f4.f1, .int .i64 x.f4.f2], [.slice A11 x.f5.length c11, .slice A12 x.f6.length c12, .int .i64 x.f7.f0, .slice A14 x.f7.f1.length c14], rfl, (k41_mk w x.f4 ), ⟨[.slice A11 x.f5.length c11], [.slice A12 x.f6.length c12, .int .i64 x.f7.f0, .slice A14 x.f7.f1.length c14], rfl, ⟨A11, c11, rfl, l11, g11⟩, ⟨[.slice A12 x.f6.length c12], [.int .i64 x.f7.f0, .slice A14 x.f7.f1.length c14], rfl, ⟨A12, c12, rfl, l12, g12⟩, (k44_mk w x.f7 l14 g14)⟩⟩⟩⟩⟩⟩⟩
theorem k46_mkM (w : World) (base : Nat) (ok : Nat → Prop) (x : S46) {v11 : Value} (g11 : k73.R 73 w base ok v11 x.f5) {v12 : Value} (g12 : (Kd.int .i64).R 3 w base ok v12 x.f6) {v14 : Value} (g14 : (Kd.int .i64).R 3 w base ok v14 x.f7.f1) : k46.M w base ok x [.int .i64 x.f0, .int .i64 x.f1, .int .i64 x.f2, .bool x.f3.f0, .int .i64 x.f3.f1, .int .i64 x.f3.f2, .bool x.f4.f0.f0, .int .i64 x.f4.f0.f1, .int .i64 x.f4.f0.f2, .int .i64 x.f4.f1, .int .i64 x.f4.f2, v11, v12, .int .i64 x.f7.f0, v14] := ⟨[.int .i64 x.f0], [.int .i64 x.f1, .int .i64 x.f2, .bool x.f3.f0, .int .i64 x.f3.f1, .int .i64 x.f3.f2, .bool x.f4.f0.f0, .int .i64 x.f4.f0.f1, .int .i64 x.f4.f0.f2, .int .i64 x.f4.f1, .int .i64 x.f4.f2, v11, v12, .int .i64 x.f7.f0, v14], rfl, rfl, ⟨[.int .i64 x.f1], [.int .i64 x.f2, .bool x.f3.f0, .int .i64 x.f3.f1, .int .i64 x.f3.f2, .bool x.f4.f0.f0, .int .i64 x.f4.f0.f1, .int .i64 x.f4.f0.f2, .int .i64 x.f4.f1, .int .i64 x.f4.f2, v11, v12, .int .i64 x.f7.f0, v14], rfl, rfl, ⟨[.int .i64 x.f2], [.bool x.f3.f0, .int .i64 x.f3.f1, .int .i64 x.f3.f2, .bool x.f4.f0.f0, .int .i64 x.f4.f0.f1, .int .i64 x.f4.f0.f2, .int .i64 x.f4.f1, .int .i64 x.f4.f2, v11, v12, .int .i64 x.f7.f0, v14], rfl, rfl, ⟨[.bool x.f3.f0, .int .i64 x.f3.f1, .int .i64 x.f3.f2], [.bool x.f4.f0.f0, .int .i64 x.f4.f0.f1, .int .i64 x.f4.f0.f2, .int .i64 x.f4.f1, .int .i64 x.f4.f2, v11, v12, .int .i64 x.f7.f0, v14], rfl, (k39_mkM w base ok x.f3 ), ⟨[.bool x.f4.f0.f0, .int .i64 x.f4.f0.f1, .int .i64 x.f4.f0.f2, .int .i64 x.f4.f1, .int .i64 x.f4.f2], [v11, v12, .int .i64 x.f7.f0, v14], rfl, (k41_mkM w base ok x.f4 ), ⟨[v11], [v12, .int .i64 x.f7.f0, v14], rfl, ⟨v11, rfl, g11⟩, ⟨[v12], [.int .i64 x.f7.f0, v14], rfl, ⟨v12, rfl, g12⟩, (k44_mkM w base ok x.f7 g14)⟩⟩⟩⟩⟩⟩⟩
theorem k46_openF {W : World} {ok : Nat → Prop} {x : S46} {cs : List Value} (h : Kd.FK k46 W ok x cs) : ∃ A11 c11 A12 c12 A14 c14, cs = [.int .i64 x.f0, .int .i64 x.f1, .int .i64 x.f2, .bool x.f3.f0, .int .i64 x.f3.f1, .int .i64 x.f3.f2, .bool x.f4.f0.f0, .int .i64 x.f4.f0.f1, .int .i64 x.f4.f0.f2, .int .i64 x.f4.f1, .int .i64 x.f4.f2, .slice A11 x.f5.length c11, .slice A12 x.f6.length c12, .int .i64 x.f7.f0, .slice A14 x.f7.f1.length c14] ∧ x.f5.length ≤ c11 ∧ Kd.F k73 W ok A11 x.f5.length x.f5 ∧ x.f6.length ≤ c12 ∧ Kd.F (Kd.int .i64) W ok A12 x.f6.length x.f6 ∧ x.f7.f1.length ≤ c14 ∧ Kd.F (Kd.int .i64) W ok A14 x.f7.f1.length x.f7.f1 := by
  obtain ⟨A11, c11, A12, c12, A14, c14, rfl, l11, _, l12, _, l14, _⟩ := k46_open (Kd.FK_now h)
  exact ⟨A11, c11, A12, c12, A14, c14, rfl, l11, (fun W' hW => by obtain ⟨A11_, c11_, A12_, c12_, A14_, c14_, he, l11_, g11_, l12_, g12_, l14_, g14_⟩ := k46_open (h W' hW); injection (Option.some.inj (show some (Value.slice A11 x.f5.length c11) = some (Value.slice A11_ x.f5.length c11_) from congrArg (fun l => l[11]?) he)) with ha_ _ _; rw [ha_]; exact g11_), l12, (fun W' hW => by obtain ⟨A11_, c11_, A12_, c12_, A14_, c14_, he, l11_, g11_, l12_, g12_, l14_, g14_⟩ := k46_open (h W' hW); injection (Option.some.inj (show some (Value.slice A12 x.f6.length c12) = some (Value.slice A12_ x.f6.length c12_) from congrArg (fun l => l[12]?) he)) with ha_ _ _; rw [ha_]; exact g12_), l14, (fun W' hW => by obtain ⟨A11_, c11_, A12_, c12_, A14_, c14_, he, l11_, g11_, l12_, g12_, l14_, g14_⟩ := k46_open (h W' hW); injection (Option.some.inj (show some (Value.slice A14 x.f7.f1.length c14) = some (Value.slice A14_ x.f7.f1.length c14_) from congrArg (fun l => l[14]?) he)) with ha_ _ _; rw [ha_]; exact g14_)⟩
theorem k46_mkF (W : World) (ok : Nat → Prop) (x : S46) {A11 : Option Addr} {c11 : Nat} (l11 : x.f5.length ≤ c11) (g11 : Kd.F k73 W ok A11 x.f5.length x.f5) {A12 : Option Addr} {c12 : Nat} (l12 : x.f6.length ≤ c12) (g12 : Kd.F (Kd.int .i64) W ok A12 x.f6.length x.f6) {A14 : Option Addr} {c14 : Nat} (l14 : x.f7.f1.length ≤ c14) (g14 : Kd.F (Kd.int .i64) W ok A14 x.f7.f1.length x.f7.f1) : Kd.FK k46 W ok x [.int .i64 x.f0, .int .i64 x.f1, .int .i64 x.f2, .bool x.f3.f0, .int .i64 x.f3.f1, .int .i64 x.f3.f2, .bool x.f4.f0.f0, .int .i64 x.f4.f0.f1, .int .i64 x.f4.f0.f2, .int .i64 x.f4.f1, .int .i64 x.f4.f2, .slice A11 x.f5.length c11, .slice A12 x.f6.length c12, .int .i64 x.f7.f0, .slice A14 x.f7.f1.length c14] := fun W2 hW => k46_mk W2 x l11 (g11 W2 hW) l12 (g12 W2 hW) l14 (g14 W2 hW)
def rd_T46 (xs : List S46) (i : Int) : S46 := xs.getD i.toNat z46
theorem at_T46 {w : World} {A : Option Addr} {n : Nat} {xs : List S46} (h : Kd.C k46 w A n xs) (i : Int) (h0 : 0 ≤ i) (h1 : i < n) : ∃ ad A11 c11 A12 c12 A14 c14, A = some ad ∧ w.cell? (ad.add (i.toNat * 15)) = some (.int .i64 (rd_T46 xs i).f0) ∧ w.cell? ⟨(ad.add (i.toNat * 15)).block, (ad.add (i.toNat * 15)).off + 1, none⟩ = some (.int .i64 (rd_T46 xs i).f1) ∧ w.cell? ⟨(ad.add (i.toNat * 15)).block, (ad.add (i.toNat * 15)).off + 2, none⟩ = some (.int .i64 (rd_T46 xs i).f2) ∧ w.cell? ⟨(ad.add (i.toNat * 15)).block, (ad.add (i.toNat * 15)).off + 3, none⟩ = some (.bool (rd_T46 xs i).f3.f0) ∧ w.cell? ⟨(ad.add (i.toNat * 15)).block, (ad.add (i.toNat * 15)).off + 4, none⟩ = some (.int .i64 (rd_T46 xs i).f3.f1) ∧ w.cell? ⟨(ad.add (i.toNat * 15)).block, (ad.add (i.toNat * 15)).off + 5, none⟩ = some (.int .i64 (rd_T46 xs i).f3.f2) ∧ w.cell? ⟨(ad.add (i.toNat * 15)).block, (ad.add (i.toNat * 15)).off + 6, none⟩ = some (.bool (rd_T46 xs i).f4.f0.f0) ∧ w.cell? ⟨(ad.add (i.toNat * 15)).block, (ad.add (i.toNat * 15)).off + 7, none⟩ = some (.int .i64 (rd_T46 xs i).f4.f0.f1) ∧ w.cell? ⟨(ad.add (i.toNat * 15)).block, (ad.add (i.toNat * 15)).off + 8, none⟩ = some (.int .i64 (rd_T46 xs i).f4.f0.f2) ∧ w.cell? ⟨(ad.add (i.toNat * 15)).block, (ad.add (i.toNat * 15)).off + 9, none⟩ = some (.int .i64 (rd_T46 xs i).f4.f1) ∧ w.cell? ⟨(ad.add (i.toNat * 15)).block, (ad.add (i.toNat * 15)).off + 10, none⟩ = some (.int .i64 (rd_T46 xs i).f4.f2) ∧ w.cell? ⟨(ad.add (i.toNat * 15)).block, (ad.add (i.toNat * 15)).off + 11, none⟩ = some (.slice A11 (rd_T46 xs i).f5.length c11) ∧ w.cell? ⟨(ad.add (i.toNat * 15)).block, (ad.add (i.toNat * 15)).off + 12, none⟩ = some (.slice A12 (rd_T46 xs i).f6.length c12) ∧ w.cell? ⟨(ad.add (i.toNat * 15)).block, (ad.add (i.toNat * 15)).off + 13, none⟩ = some (.int .i64 (rd_T46 xs i).f7.f0) ∧ w.cell? ⟨(ad.add (i.toNat * 15)).block, (ad.add (i.toNat * 15)).off + 14, none⟩ = some (.slice A14 (rd_T46 xs i).f7.f1.length c14) ∧ (rd_T46 xs i).f5.length ≤ c11 ∧ k73.C w A11 (rd_T46 xs i).f5.length (rd_T46 xs i).f5 ∧ (rd_T46 xs i).f6.length ≤ c12 ∧ (Kd.int .i64).C w A12 (rd_T46 xs i).f6.length (rd_T46 xs i).f6 ∧ (rd_T46 xs i).f7.f1.length ≤ c14 ∧ (Kd.int .i64).C w A14 (rd_T46 xs i).f7.f1.length (rd_T46 xs i).f7.f1 := by
  obtain ⟨ad, c, e, _, hK, hc0⟩ := Kd.C_get h z46 i h0 h1
  have hc : ∀ j u, c[j]? = some u → w.cell? (ad.add (i.toNat * 15 + j)) = some u := hc0
  obtain ⟨A11, c11, A12, c12, A14, c14, rfl, l11, g11, l12, g12, l14, g14⟩ := k46_open hK
  exact ⟨ad, A11, c11, A12, c12, A14, c14, e, hc 0 _ rfl, by rw [← add_field _ _ 1 (by omega)]; exact hc 1 _ rfl, by rw [← add_field _ _ 2 (by omega)]; exact hc 2 _ rfl, by rw [← add_field _ _ 3 (by omega)]; exact hc 3 _ rfl, by rw [← add_field _ _ 4 (by omega)]; exact hc 4 _ rfl, by rw [← add_field _ _ 5 (by omega)]; exact hc 5 _ rfl, by rw [← add_field _ _ 6 (by omega)]; exact hc 6 _ rfl, by rw [← add_field _ _ 7 (by omega)]; exact hc 7 _ rfl, by rw [← add_field _ _ 8 (by omega)]; exact hc 8 _ rfl, by rw [← add_field _ _ 9 (by omega)]; exact hc 9 _ rfl, by rw [← add_field _ _ 10 (by omega)]; exact hc 10 _ rfl, by rw [← add_field _ _ 11 (by omega)]; exact hc 11 _ rfl, by rw [← add_field _ _ 12 (by omega)]; exact hc 12 _ rfl, by rw [← add_field _ _ 13 (by omega)]; exact hc 13 _ rfl, by rw [← add_field _ _ 14 (by omega)]; exact hc 14 _ rfl, l11, g11, l12, g12, l14, g14⟩

end Go.Proofs.Ytcgdhpnobgimfaa.PO
end
section
namespace Go.Proofs.Ytcgdhpnobgimfaa.PO
open Go.RowKit Go.Proofs.YtcgdhpnobgimfaaW.PrintWords Go.Proofs.YtcgdhpnobgimfaaW.PrintLast Go.Proofs.YtcgdhpnobgimfaaW.PrintMore
set_option linter.unusedVariables false
set_option linter.unusedSimpArgs false
def regimenlaw45_small.f (a0_0 : Int) (a0_1 : Int) (l0_2 : List Int) (l0_3 : List Bool) (l0_4 : List (S23)) (a0_5 : Int) : Option (Bool) := if (l0_2.length : Int) ≤ 60 then (if (l0_3.length : Int) ≤ 60 then (some (decide ((l0_4.length : Int) ≤ 60))) else (some false)) else (some false)
def regimenlaw37_Light.f (a0_0 : Int) (a0_1 : Int) (a0_2 : Int) (a0_3 : Bool) (a0_4 : Int) (a0_5 : Int) (a0_6 : Bool) (a0_7 : Int) (a0_8 : Int) (a0_9 : Int) (a0_10 : Int) (l0_11 : List (S73)) (l0_12 : List Int) (a0_13 : Int) (l0_14 : List Int) : Option (Bool) := if (l0_11.length : Int) ≤ 30 then (if (l0_12.length : Int) ≤ 30 then (some (decide ((l0_14.length : Int) ≤ 30))) else (some false)) else (some false)
def events_Word.f (a0 : Int) : Option ByteArray := if 0 ≤ a0 ∧ a0 < 12 then some (rdOf ByteArray.empty ([(⟨#[]⟩ : ByteArray), (⟨#[112, 104, 97, 115, 101]⟩ : ByteArray), (⟨#[116, 104, 97, 119]⟩ : ByteArray), (⟨#[102, 114, 101, 101, 122, 101]⟩ : ByteArray), (⟨#[115, 119, 97]⟩ : ByteArray), (⟨#[102, 97, 105, 108]⟩ : ByteArray), (⟨#[109, 105, 115, 115]⟩ : ByteArray), (⟨#[107, 101, 101, 112]⟩ : ByteArray), (⟨#[100, 114, 111, 112]⟩ : ByteArray), (⟨#[99, 117, 116]⟩ : ByteArray), (⟨#[115, 116, 111, 112]⟩ : ByteArray), (⟨#[101, 110, 100]⟩ : ByteArray)] : List ByteArray) a0) else some ⟨#[]⟩
def num_digits.l0 : Nat → Int → List Int → Option ByteArray
  | 0, _, _ => none
  | k + 1, u, l => if l.length < 20 then (if 0 ≤ u then (if u < 18446744073709551616 then (if u / 10 = 0 then some (strOfNums ((48 + u % 10) :: l)) else num_digits.l0 k (u / 10) ((48 + u % 10) :: l)) else none) else none) else none
def num_digits.f (k : Nat) (a0 : Int) : Option ByteArray := num_digits.l0 k a0 []
theorem num_digits.mono_l : ∀ k u l, LeO (num_digits.l0 k u l) (num_digits.l0 (k + 1) u l)
  | 0 => fun _ _ r h => by simp [num_digits.l0] at h
  | k + 1 => by
    intro u l
    unfold num_digits.l0
    exact LeO.ite (LeO.ite (LeO.ite (LeO.ite (LeO.refl _) (num_digits.mono_l k _ _)) (LeO.none _)) (LeO.none _)) (LeO.none _)
theorem num_digits.mono : ∀ a0 k, LeO (num_digits.f k a0) (num_digits.f (k + 1) a0) := fun a0 k => num_digits.mono_l k a0 []
def num_Tell.f (k : Nat) (a0 : Int) : Option (ByteArray) := if a0 < 0 then ((num_digits.f k (IntKind.u64.wrap (-(IntKind.u64.wrap (a0))))).bind fun t103 => (if 1 + t103.size ≤ 9223372036854775807 then (some ((⟨#[45]⟩ : ByteArray) ++ t103)) else (none))) else ((num_digits.f k (IntKind.u64.wrap (a0))).bind fun t104 => (some t104))
theorem num_Tell.mono : ∀ a0 k, LeO (num_Tell.f k a0) (num_Tell.f (k + 1) a0) := by
  intro a0 k
  unfold num_Tell.f
  repeat' first
      | (with_reducible exact num_digits.mono _ _)
      | (with_reducible exact LeO.refl _)
      | (with_reducible exact LeO.none _)
      | (with_reducible refine LeO.ite ?_ ?_)
      | (with_reducible refine LeO.bind ?_ (fun _ => ?_))
      | exact num_digits.mono _ _
      | exact LeO.none _
      | refine LeO.ite ?_ ?_
      | refine LeO.bind ?_ (fun _ => ?_)
def events_Line.f (k : Nat) (a0_0 : Int) (a0_1 : Int) (a0_2 : Int) : Option (ByteArray) := (events_Word.f a0_1).bind fun t106 => (if t106.toList = ([] : List UInt8) then (if 1 + 1 ≤ 9223372036854775807 then ((num_Tell.f k a0_2).bind fun t107 => (if ((⟨#[63]⟩ : ByteArray) ++ (⟨#[32]⟩ : ByteArray)).size + t107.size ≤ 9223372036854775807 then (some (((⟨#[63]⟩ : ByteArray) ++ (⟨#[32]⟩ : ByteArray)) ++ t107)) else (none))) else (none)) else (if t106.size + 1 ≤ 9223372036854775807 then ((num_Tell.f k a0_2).bind fun t108 => (if (t106 ++ (⟨#[32]⟩ : ByteArray)).size + t108.size ≤ 9223372036854775807 then (some ((t106 ++ (⟨#[32]⟩ : ByteArray)) ++ t108)) else (none))) else (none)))
theorem events_Line.mono : ∀ a0 a1 a2 k, LeO (events_Line.f k a0 a1 a2) (events_Line.f (k + 1) a0 a1 a2) := by
  intro a0 a1 a2 k
  unfold events_Line.f
  repeat' first
      | (with_reducible exact num_Tell.mono _ _)
      | (with_reducible exact LeO.refl _)
      | (with_reducible exact LeO.none _)
      | (with_reducible refine LeO.ite ?_ ?_)
      | (with_reducible refine LeO.bind ?_ (fun _ => ?_))
      | exact num_Tell.mono _ _
      | exact LeO.none _
      | refine LeO.ite ?_ ?_
      | refine LeO.bind ?_ (fun _ => ?_)
def output_Word.f (a0 : Int) : Option (ByteArray) := if a0 = 0 then (some (⟨#[103, 111, 101, 115]⟩ : ByteArray)) else (if a0 = 1 then (some (⟨#[100, 111, 110, 101]⟩ : ByteArray)) else (if a0 = 2 then (some (⟨#[115, 116, 111, 112, 112, 101, 100]⟩ : ByteArray)) else (if a0 = 3 then (some (⟨#[102, 97, 105, 108, 101, 100]⟩ : ByteArray)) else (some (⟨#[63]⟩ : ByteArray)))))
def strings_Join.f (l0 : List ByteArray) (a1 : ByteArray) : Option ByteArray := if l0.length ≤ 140737488355328 ∧ (Lib.join (l0.map (·.data.toList)) a1.data.toList).length ≤ 140737488355328 then some ⟨(Lib.join (l0.map (·.data.toList)) a1.data.toList).toArray⟩ else none
def output_line.f (l0 : List ByteArray) : Option (ByteArray) := (strings_Join.f l0 (⟨#[32]⟩ : ByteArray)).bind fun t109 => (some t109)
def fix_Size.f (a0 : Int) : Option (Int) := if a0 < 0 then (some (IntKind.u64.wrap (-(IntKind.u64.wrap (a0))))) else (some (IntKind.u64.wrap (a0)))
def bits_Len64.j0 : Nat → Int → Int → Option (Int)
  | 0, _, _ => none
  | k + 1, x0, x2 => if x0 ≥ 65536 then (if (x0 / 65536) ≥ 256 then (if 0 ≤ (((x0 / 65536) / 256) % 256) then (if (((x0 / 65536) / 256) % 256) < 256 then (some (wrap64 ((wrap64 ((wrap64 (x2 + 16)) + 8)) + (wrap64 (bt (⟨#[0, 1, 2, 2, 3, 3, 3, 3, 4, 4, 4, 4, 4, 4, 4, 4, 5, 5, 5, 5, 5, 5, 5, 5, 5, 5, 5, 5, 5, 5, 5, 5, 6, 6, 6, 6, 6, 6, 6, 6, 6, 6, 6, 6, 6, 6, 6, 6, 6, 6, 6, 6, 6, 6, 6, 6, 6, 6, 6, 6, 6, 6, 6, 6, 7, 7, 7, 7, 7, 7, 7, 7, 7, 7, 7, 7, 7, 7, 7, 7, 7, 7, 7, 7, 7, 7, 7, 7, 7, 7, 7, 7, 7, 7, 7, 7, 7, 7, 7, 7, 7, 7, 7, 7, 7, 7, 7, 7, 7, 7, 7, 7, 7, 7, 7, 7, 7, 7, 7, 7, 7, 7, 7, 7, 7, 7, 7, 7, 8, 8, 8, 8, 8, 8, 8, 8, 8, 8, 8, 8, 8, 8, 8, 8, 8, 8, 8, 8, 8, 8, 8, 8, 8, 8, 8, 8, 8, 8, 8, 8, 8, 8, 8, 8, 8, 8, 8, 8, 8, 8, 8, 8, 8, 8, 8, 8, 8, 8, 8, 8, 8, 8, 8, 8, 8, 8, 8, 8, 8, 8, 8, 8, 8, 8, 8, 8, 8, 8, 8, 8, 8, 8, 8, 8, 8, 8, 8, 8, 8, 8, 8, 8, 8, 8, 8, 8, 8, 8, 8, 8, 8, 8, 8, 8, 8, 8, 8, 8, 8, 8, 8, 8, 8, 8, 8, 8, 8, 8, 8, 8, 8, 8, 8, 8, 8, 8, 8, 8, 8, 8, 8, 8, 8, 8, 8, 8]⟩ : ByteArray) (((x0 / 65536) / 256) % 256)))))) else (none)) else (none)) else (if 0 ≤ ((x0 / 65536) % 256) then (if ((x0 / 65536) % 256) < 256 then (some (wrap64 ((wrap64 (x2 + 16)) + (wrap64 (bt (⟨#[0, 1, 2, 2, 3, 3, 3, 3, 4, 4, 4, 4, 4, 4, 4, 4, 5, 5, 5, 5, 5, 5, 5, 5, 5, 5, 5, 5, 5, 5, 5, 5, 6, 6, 6, 6, 6, 6, 6, 6, 6, 6, 6, 6, 6, 6, 6, 6, 6, 6, 6, 6, 6, 6, 6, 6, 6, 6, 6, 6, 6, 6, 6, 6, 7, 7, 7, 7, 7, 7, 7, 7, 7, 7, 7, 7, 7, 7, 7, 7, 7, 7, 7, 7, 7, 7, 7, 7, 7, 7, 7, 7, 7, 7, 7, 7, 7, 7, 7, 7, 7, 7, 7, 7, 7, 7, 7, 7, 7, 7, 7, 7, 7, 7, 7, 7, 7, 7, 7, 7, 7, 7, 7, 7, 7, 7, 7, 7, 8, 8, 8, 8, 8, 8, 8, 8, 8, 8, 8, 8, 8, 8, 8, 8, 8, 8, 8, 8, 8, 8, 8, 8, 8, 8, 8, 8, 8, 8, 8, 8, 8, 8, 8, 8, 8, 8, 8, 8, 8, 8, 8, 8, 8, 8, 8, 8, 8, 8, 8, 8, 8, 8, 8, 8, 8, 8, 8, 8, 8, 8, 8, 8, 8, 8, 8, 8, 8, 8, 8, 8, 8, 8, 8, 8, 8, 8, 8, 8, 8, 8, 8, 8, 8, 8, 8, 8, 8, 8, 8, 8, 8, 8, 8, 8, 8, 8, 8, 8, 8, 8, 8, 8, 8, 8, 8, 8, 8, 8, 8, 8, 8, 8, 8, 8, 8, 8, 8, 8, 8, 8, 8, 8, 8, 8, 8, 8]⟩ : ByteArray) ((x0 / 65536) % 256)))))) else (none)) else (none))) else (if x0 ≥ 256 then (if 0 ≤ ((x0 / 256) % 256) then (if ((x0 / 256) % 256) < 256 then (some (wrap64 ((wrap64 (x2 + 8)) + (wrap64 (bt (⟨#[0, 1, 2, 2, 3, 3, 3, 3, 4, 4, 4, 4, 4, 4, 4, 4, 5, 5, 5, 5, 5, 5, 5, 5, 5, 5, 5, 5, 5, 5, 5, 5, 6, 6, 6, 6, 6, 6, 6, 6, 6, 6, 6, 6, 6, 6, 6, 6, 6, 6, 6, 6, 6, 6, 6, 6, 6, 6, 6, 6, 6, 6, 6, 6, 7, 7, 7, 7, 7, 7, 7, 7, 7, 7, 7, 7, 7, 7, 7, 7, 7, 7, 7, 7, 7, 7, 7, 7, 7, 7, 7, 7, 7, 7, 7, 7, 7, 7, 7, 7, 7, 7, 7, 7, 7, 7, 7, 7, 7, 7, 7, 7, 7, 7, 7, 7, 7, 7, 7, 7, 7, 7, 7, 7, 7, 7, 7, 7, 8, 8, 8, 8, 8, 8, 8, 8, 8, 8, 8, 8, 8, 8, 8, 8, 8, 8, 8, 8, 8, 8, 8, 8, 8, 8, 8, 8, 8, 8, 8, 8, 8, 8, 8, 8, 8, 8, 8, 8, 8, 8, 8, 8, 8, 8, 8, 8, 8, 8, 8, 8, 8, 8, 8, 8, 8, 8, 8, 8, 8, 8, 8, 8, 8, 8, 8, 8, 8, 8, 8, 8, 8, 8, 8, 8, 8, 8, 8, 8, 8, 8, 8, 8, 8, 8, 8, 8, 8, 8, 8, 8, 8, 8, 8, 8, 8, 8, 8, 8, 8, 8, 8, 8, 8, 8, 8, 8, 8, 8, 8, 8, 8, 8, 8, 8, 8, 8, 8, 8, 8, 8, 8, 8, 8, 8, 8, 8]⟩ : ByteArray) ((x0 / 256) % 256)))))) else (none)) else (none)) else (if 0 ≤ ((x0) % 256) then (if ((x0) % 256) < 256 then (some (wrap64 (x2 + (wrap64 (bt (⟨#[0, 1, 2, 2, 3, 3, 3, 3, 4, 4, 4, 4, 4, 4, 4, 4, 5, 5, 5, 5, 5, 5, 5, 5, 5, 5, 5, 5, 5, 5, 5, 5, 6, 6, 6, 6, 6, 6, 6, 6, 6, 6, 6, 6, 6, 6, 6, 6, 6, 6, 6, 6, 6, 6, 6, 6, 6, 6, 6, 6, 6, 6, 6, 6, 7, 7, 7, 7, 7, 7, 7, 7, 7, 7, 7, 7, 7, 7, 7, 7, 7, 7, 7, 7, 7, 7, 7, 7, 7, 7, 7, 7, 7, 7, 7, 7, 7, 7, 7, 7, 7, 7, 7, 7, 7, 7, 7, 7, 7, 7, 7, 7, 7, 7, 7, 7, 7, 7, 7, 7, 7, 7, 7, 7, 7, 7, 7, 7, 8, 8, 8, 8, 8, 8, 8, 8, 8, 8, 8, 8, 8, 8, 8, 8, 8, 8, 8, 8, 8, 8, 8, 8, 8, 8, 8, 8, 8, 8, 8, 8, 8, 8, 8, 8, 8, 8, 8, 8, 8, 8, 8, 8, 8, 8, 8, 8, 8, 8, 8, 8, 8, 8, 8, 8, 8, 8, 8, 8, 8, 8, 8, 8, 8, 8, 8, 8, 8, 8, 8, 8, 8, 8, 8, 8, 8, 8, 8, 8, 8, 8, 8, 8, 8, 8, 8, 8, 8, 8, 8, 8, 8, 8, 8, 8, 8, 8, 8, 8, 8, 8, 8, 8, 8, 8, 8, 8, 8, 8, 8, 8, 8, 8, 8, 8, 8, 8, 8, 8, 8, 8, 8, 8, 8, 8, 8, 8]⟩ : ByteArray) ((x0) % 256)))))) else (none)) else (none)))
def bits_Len64.f (k : Nat) (a0 : Int) : Option (Int) := if a0 ≥ 4294967296 then (bits_Len64.j0 k (a0 / 4294967296) 32) else (bits_Len64.j0 k a0 0)
theorem bits_Len64.mono_l : ∀ k, (∀ y0 y1, LeO (bits_Len64.j0 k y0 y1) (bits_Len64.j0 (k + 1) y0 y1))
  | 0 => fun _ _ r h => by simp [bits_Len64.j0] at h
  | k + 1 => by
    have ih0 := bits_Len64.mono_l k
    · intro y0 y1
      unfold bits_Len64.j0
      repeat' first
      | (with_reducible exact ih0 _ _)
      | (with_reducible exact LeO.refl _)
      | (with_reducible exact LeO.none _)
      | (with_reducible refine LeO.ite ?_ ?_)
      | (with_reducible refine LeO.bind ?_ (fun _ => ?_))
      | exact ih0 _ _
      | exact LeO.none _
      | refine LeO.ite ?_ ?_
      | refine LeO.bind ?_ (fun _ => ?_)
theorem bits_Len64.mono : ∀ a0 k, LeO (bits_Len64.f k a0) (bits_Len64.f (k + 1) a0) := by
  intro a0 k
  have ih0 := bits_Len64.mono_l k
  unfold bits_Len64.f
  repeat' first
      | (with_reducible exact ih0 _ _)
      | (with_reducible exact LeO.refl _)
      | (with_reducible exact LeO.none _)
      | (with_reducible refine LeO.ite ?_ ?_)
      | (with_reducible refine LeO.bind ?_ (fun _ => ?_))
      | exact ih0 _ _
      | exact LeO.none _
      | refine LeO.ite ?_ ?_
      | refine LeO.bind ?_ (fun _ => ?_)
def bits_LeadingZeros64.f (k : Nat) (a0 : Int) : Option (Int) := (bits_Len64.f k a0).bind fun t110 => (some (wrap64 (64 - t110)))
theorem bits_LeadingZeros64.mono : ∀ a0 k, LeO (bits_LeadingZeros64.f k a0) (bits_LeadingZeros64.f (k + 1) a0) := by
  intro a0 k
  unfold bits_LeadingZeros64.f
  repeat' first
      | (with_reducible exact bits_Len64.mono _ _)
      | (with_reducible exact LeO.refl _)
      | (with_reducible exact LeO.none _)
      | (with_reducible refine LeO.ite ?_ ?_)
      | (with_reducible refine LeO.bind ?_ (fun _ => ?_))
      | exact bits_Len64.mono _ _
      | exact LeO.none _
      | refine LeO.ite ?_ ?_
      | refine LeO.bind ?_ (fun _ => ?_)
mutual
def bits_Div64.j2 : Nat → Int → Int → Int → Int → Int → Int → Int → Int → Option (Int × Int)
  | 0, _, _, _, _, _, _, _, _ => none
  | k + 1, x2, x8, x9, x10, x11, x13, x14, x15 => if x9 = 0 then (none) else (bits_Div64.l1 k x2 x8 x9 x10 x14 x15 (IntKind.u64.wrap ((IntKind.u64.wrap ((IntKind.u64.wrap ((IntKind.u64.wrap (x11 * 4294967296)) + x13)) - (IntKind.u64.wrap (x15 * x2)))) - (IntKind.u64.wrap ((IntKind.u64.wrap (Int.tdiv (IntKind.u64.wrap ((IntKind.u64.wrap ((IntKind.u64.wrap (x11 * 4294967296)) + x13)) - (IntKind.u64.wrap (x15 * x2)))) x9)) * x9)))) (IntKind.u64.wrap ((IntKind.u64.wrap ((IntKind.u64.wrap (x11 * 4294967296)) + x13)) - (IntKind.u64.wrap (x15 * x2)))) (IntKind.u64.wrap (Int.tdiv (IntKind.u64.wrap ((IntKind.u64.wrap ((IntKind.u64.wrap (x11 * 4294967296)) + x13)) - (IntKind.u64.wrap (x15 * x2)))) x9)))
def bits_Div64.l1 : Nat → Int → Int → Int → Int → Int → Int → Int → Int → Int → Option (Int × Int)
  | 0, _, _, _, _, _, _, _, _, _ => none
  | k + 1, x2, x8, x9, x10, x14, x15, x16, x17, x18 => if x18 ≥ 4294967296 then (bits_Div64.j4 k x2 x8 x9 x10 x14 x15 x16 x17 x18 true) else (bits_Div64.j4 k x2 x8 x9 x10 x14 x15 x16 x17 x18 (decide ((IntKind.u64.wrap (x18 * x10)) > (IntKind.u64.wrap ((IntKind.u64.wrap (4294967296 * x16)) + x14)))))
def bits_Div64.j4 : Nat → Int → Int → Int → Int → Int → Int → Int → Int → Int → Bool → Option (Int × Int)
  | 0, _, _, _, _, _, _, _, _, _, _ => none
  | k + 1, x2, x8, x9, x10, x14, x15, x16, x17, x18, x113 => if x113 = true then (if (IntKind.u64.wrap (x16 + x9)) ≥ 4294967296 then (if 0 ≤ x8 then (some (IntKind.u64.wrap ((IntKind.u64.wrap (x15 * 4294967296)) + (IntKind.u64.wrap (x18 - 1))), shr .u64 (IntKind.u64.wrap ((IntKind.u64.wrap ((IntKind.u64.wrap (x17 * 4294967296)) + x14)) - (IntKind.u64.wrap ((IntKind.u64.wrap (x18 - 1)) * x2)))) x8)) else (none)) else (bits_Div64.l1 k x2 x8 x9 x10 x14 x15 (IntKind.u64.wrap (x16 + x9)) x17 (IntKind.u64.wrap (x18 - 1)))) else (if 0 ≤ x8 then (some (IntKind.u64.wrap ((IntKind.u64.wrap (x15 * 4294967296)) + x18), shr .u64 (IntKind.u64.wrap ((IntKind.u64.wrap ((IntKind.u64.wrap (x17 * 4294967296)) + x14)) - (IntKind.u64.wrap (x18 * x2)))) x8)) else (none))
def bits_Div64.l0 : Nat → Int → Int → Int → Int → Int → Int → Int → Int → Int → Option (Int × Int)
  | 0, _, _, _, _, _, _, _, _, _ => none
  | k + 1, x2, x8, x9, x10, x11, x13, x14, x15, x16 => if x15 ≥ 4294967296 then (bits_Div64.j1 k x2 x8 x9 x10 x11 x13 x14 x15 x16 true) else (bits_Div64.j1 k x2 x8 x9 x10 x11 x13 x14 x15 x16 (decide ((IntKind.u64.wrap (x15 * x10)) > (IntKind.u64.wrap ((IntKind.u64.wrap (4294967296 * x16)) + x13)))))
def bits_Div64.j1 : Nat → Int → Int → Int → Int → Int → Int → Int → Int → Int → Bool → Option (Int × Int)
  | 0, _, _, _, _, _, _, _, _, _, _ => none
  | k + 1, x2, x8, x9, x10, x11, x13, x14, x15, x16, x78 => if x78 = true then (if (IntKind.u64.wrap (x16 + x9)) ≥ 4294967296 then (bits_Div64.j2 k x2 x8 x9 x10 x11 x13 x14 (IntKind.u64.wrap (x15 - 1))) else (bits_Div64.l0 k x2 x8 x9 x10 x11 x13 x14 (IntKind.u64.wrap (x15 - 1)) (IntKind.u64.wrap (x16 + x9)))) else (bits_Div64.j2 k x2 x8 x9 x10 x11 x13 x14 x15)
end
def bits_Div64.f (k : Nat) (a0 : Int) (a1 : Int) (a2 : Int) : Option (Int × Int) := if a2 = 0 then (none) else (if a2 ≤ a0 then (none) else (if a0 = 0 then (some (IntKind.u64.wrap (Int.tdiv a1 a2), Int.tmod a1 a2)) else ((bits_LeadingZeros64.f k a2).bind fun t111 => (if 0 ≤ (IntKind.u64.wrap (t111)) then (if 0 ≤ (IntKind.u64.wrap (64 - (IntKind.u64.wrap (t111)))) then (if ((shl .u64 a2 (IntKind.u64.wrap (t111))) / 4294967296) = 0 then (none) else (bits_Div64.l0 k (shl .u64 a2 (IntKind.u64.wrap (t111))) (IntKind.u64.wrap (t111)) ((shl .u64 a2 (IntKind.u64.wrap (t111))) / 4294967296) (Go.bits .and .u64 (shl .u64 a2 (IntKind.u64.wrap (t111))) 4294967295) (Go.bits .or .u64 (shl .u64 a0 (IntKind.u64.wrap (t111))) (shr .u64 a1 (IntKind.u64.wrap (64 - (IntKind.u64.wrap (t111)))))) ((shl .u64 a1 (IntKind.u64.wrap (t111))) / 4294967296) (Go.bits .and .u64 (shl .u64 a1 (IntKind.u64.wrap (t111))) 4294967295) (IntKind.u64.wrap (Int.tdiv (Go.bits .or .u64 (shl .u64 a0 (IntKind.u64.wrap (t111))) (shr .u64 a1 (IntKind.u64.wrap (64 - (IntKind.u64.wrap (t111)))))) ((shl .u64 a2 (IntKind.u64.wrap (t111))) / 4294967296))) (IntKind.u64.wrap ((Go.bits .or .u64 (shl .u64 a0 (IntKind.u64.wrap (t111))) (shr .u64 a1 (IntKind.u64.wrap (64 - (IntKind.u64.wrap (t111)))))) - (IntKind.u64.wrap ((IntKind.u64.wrap (Int.tdiv (Go.bits .or .u64 (shl .u64 a0 (IntKind.u64.wrap (t111))) (shr .u64 a1 (IntKind.u64.wrap (64 - (IntKind.u64.wrap (t111)))))) ((shl .u64 a2 (IntKind.u64.wrap (t111))) / 4294967296))) * ((shl .u64 a2 (IntKind.u64.wrap (t111))) / 4294967296))))))) else (none)) else (none)))))
theorem bits_Div64.mono_l : ∀ k, (∀ y0 y1 y2 y3 y4 y5 y6 y7, LeO (bits_Div64.j2 k y0 y1 y2 y3 y4 y5 y6 y7) (bits_Div64.j2 (k + 1) y0 y1 y2 y3 y4 y5 y6 y7)) ∧ (∀ y0 y1 y2 y3 y4 y5 y6 y7 y8, LeO (bits_Div64.l1 k y0 y1 y2 y3 y4 y5 y6 y7 y8) (bits_Div64.l1 (k + 1) y0 y1 y2 y3 y4 y5 y6 y7 y8)) ∧ (∀ y0 y1 y2 y3 y4 y5 y6 y7 y8 y9, LeO (bits_Div64.j4 k y0 y1 y2 y3 y4 y5 y6 y7 y8 y9) (bits_Div64.j4 (k + 1) y0 y1 y2 y3 y4 y5 y6 y7 y8 y9)) ∧ (∀ y0 y1 y2 y3 y4 y5 y6 y7 y8, LeO (bits_Div64.l0 k y0 y1 y2 y3 y4 y5 y6 y7 y8) (bits_Div64.l0 (k + 1) y0 y1 y2 y3 y4 y5 y6 y7 y8)) ∧ (∀ y0 y1 y2 y3 y4 y5 y6 y7 y8 y9, LeO (bits_Div64.j1 k y0 y1 y2 y3 y4 y5 y6 y7 y8 y9) (bits_Div64.j1 (k + 1) y0 y1 y2 y3 y4 y5 y6 y7 y8 y9))
  | 0 => ⟨fun _ _ _ _ _ _ _ _ r h => by simp [bits_Div64.j2] at h, fun _ _ _ _ _ _ _ _ _ r h => by simp [bits_Div64.l1] at h, fun _ _ _ _ _ _ _ _ _ _ r h => by simp [bits_Div64.j4] at h, fun _ _ _ _ _ _ _ _ _ r h => by simp [bits_Div64.l0] at h, fun _ _ _ _ _ _ _ _ _ _ r h => by simp [bits_Div64.j1] at h⟩
  | k + 1 => by
    obtain ⟨ih0, ih1, ih2, ih3, ih4⟩ := bits_Div64.mono_l k
    refine ⟨?_, ?_, ?_, ?_, ?_⟩
    · intro y0 y1 y2 y3 y4 y5 y6 y7
      unfold bits_Div64.j2
      repeat' first
      | (with_reducible exact ih0 _ _ _ _ _ _ _ _)
      | (with_reducible exact ih1 _ _ _ _ _ _ _ _ _)
      | (with_reducible exact ih2 _ _ _ _ _ _ _ _ _ _)
      | (with_reducible exact ih3 _ _ _ _ _ _ _ _ _)
      | (with_reducible exact ih4 _ _ _ _ _ _ _ _ _ _)
      | (with_reducible exact bits_LeadingZeros64.mono _ _)
      | (with_reducible exact LeO.refl _)
      | (with_reducible exact LeO.none _)
      | (with_reducible refine LeO.ite ?_ ?_)
      | (with_reducible refine LeO.bind ?_ (fun _ => ?_))
      | exact ih0 _ _ _ _ _ _ _ _
      | exact ih1 _ _ _ _ _ _ _ _ _
      | exact ih2 _ _ _ _ _ _ _ _ _ _
      | exact ih3 _ _ _ _ _ _ _ _ _
      | exact ih4 _ _ _ _ _ _ _ _ _ _
      | exact bits_LeadingZeros64.mono _ _
      | exact LeO.none _
      | refine LeO.ite ?_ ?_
      | refine LeO.bind ?_ (fun _ => ?_)
    · intro y0 y1 y2 y3 y4 y5 y6 y7 y8
      unfold bits_Div64.l1
      repeat' first
      | (with_reducible exact ih0 _ _ _ _ _ _ _ _)
      | (with_reducible exact ih1 _ _ _ _ _ _ _ _ _)
      | (with_reducible exact ih2 _ _ _ _ _ _ _ _ _ _)
      | (with_reducible exact ih3 _ _ _ _ _ _ _ _ _)
      | (with_reducible exact ih4 _ _ _ _ _ _ _ _ _ _)
      | (with_reducible exact bits_LeadingZeros64.mono _ _)
      | (with_reducible exact LeO.refl _)
      | (with_reducible exact LeO.none _)
      | (with_reducible refine LeO.ite ?_ ?_)
      | (with_reducible refine LeO.bind ?_ (fun _ => ?_))
      | exact ih0 _ _ _ _ _ _ _ _
      | exact ih1 _ _ _ _ _ _ _ _ _
      | exact ih2 _ _ _ _ _ _ _ _ _ _
      | exact ih3 _ _ _ _ _ _ _ _ _
      | exact ih4 _ _ _ _ _ _ _ _ _ _
      | exact bits_LeadingZeros64.mono _ _
      | exact LeO.none _
      | refine LeO.ite ?_ ?_
      | refine LeO.bind ?_ (fun _ => ?_)
    · intro y0 y1 y2 y3 y4 y5 y6 y7 y8 y9
      unfold bits_Div64.j4
      repeat' first
      | (with_reducible exact ih0 _ _ _ _ _ _ _ _)
      | (with_reducible exact ih1 _ _ _ _ _ _ _ _ _)
      | (with_reducible exact ih2 _ _ _ _ _ _ _ _ _ _)
      | (with_reducible exact ih3 _ _ _ _ _ _ _ _ _)
      | (with_reducible exact ih4 _ _ _ _ _ _ _ _ _ _)
      | (with_reducible exact bits_LeadingZeros64.mono _ _)
      | (with_reducible exact LeO.refl _)
      | (with_reducible exact LeO.none _)
      | (with_reducible refine LeO.ite ?_ ?_)
      | (with_reducible refine LeO.bind ?_ (fun _ => ?_))
      | exact ih0 _ _ _ _ _ _ _ _
      | exact ih1 _ _ _ _ _ _ _ _ _
      | exact ih2 _ _ _ _ _ _ _ _ _ _
      | exact ih3 _ _ _ _ _ _ _ _ _
      | exact ih4 _ _ _ _ _ _ _ _ _ _
      | exact bits_LeadingZeros64.mono _ _
      | exact LeO.none _
      | refine LeO.ite ?_ ?_
      | refine LeO.bind ?_ (fun _ => ?_)
    · intro y0 y1 y2 y3 y4 y5 y6 y7 y8
      unfold bits_Div64.l0
      repeat' first
      | (with_reducible exact ih0 _ _ _ _ _ _ _ _)
      | (with_reducible exact ih1 _ _ _ _ _ _ _ _ _)
      | (with_reducible exact ih2 _ _ _ _ _ _ _ _ _ _)
      | (with_reducible exact ih3 _ _ _ _ _ _ _ _ _)
      | (with_reducible exact ih4 _ _ _ _ _ _ _ _ _ _)
      | (with_reducible exact bits_LeadingZeros64.mono _ _)
      | (with_reducible exact LeO.refl _)
      | (with_reducible exact LeO.none _)
      | (with_reducible refine LeO.ite ?_ ?_)
      | (with_reducible refine LeO.bind ?_ (fun _ => ?_))
      | exact ih0 _ _ _ _ _ _ _ _
      | exact ih1 _ _ _ _ _ _ _ _ _
      | exact ih2 _ _ _ _ _ _ _ _ _ _
      | exact ih3 _ _ _ _ _ _ _ _ _
      | exact ih4 _ _ _ _ _ _ _ _ _ _
      | exact bits_LeadingZeros64.mono _ _
      | exact LeO.none _
      | refine LeO.ite ?_ ?_
      | refine LeO.bind ?_ (fun _ => ?_)
    · intro y0 y1 y2 y3 y4 y5 y6 y7 y8 y9
      unfold bits_Div64.j1
      repeat' first
      | (with_reducible exact ih0 _ _ _ _ _ _ _ _)
      | (with_reducible exact ih1 _ _ _ _ _ _ _ _ _)
      | (with_reducible exact ih2 _ _ _ _ _ _ _ _ _ _)
      | (with_reducible exact ih3 _ _ _ _ _ _ _ _ _)
      | (with_reducible exact ih4 _ _ _ _ _ _ _ _ _ _)
      | (with_reducible exact bits_LeadingZeros64.mono _ _)
      | (with_reducible exact LeO.refl _)
      | (with_reducible exact LeO.none _)
      | (with_reducible refine LeO.ite ?_ ?_)
      | (with_reducible refine LeO.bind ?_ (fun _ => ?_))
      | exact ih0 _ _ _ _ _ _ _ _
      | exact ih1 _ _ _ _ _ _ _ _ _
      | exact ih2 _ _ _ _ _ _ _ _ _ _
      | exact ih3 _ _ _ _ _ _ _ _ _
      | exact ih4 _ _ _ _ _ _ _ _ _ _
      | exact bits_LeadingZeros64.mono _ _
      | exact LeO.none _
      | refine LeO.ite ?_ ?_
      | refine LeO.bind ?_ (fun _ => ?_)
theorem bits_Div64.mono : ∀ a0 a1 a2 k, LeO (bits_Div64.f k a0 a1 a2) (bits_Div64.f (k + 1) a0 a1 a2) := by
  intro a0 a1 a2 k
  obtain ⟨ih0, ih1, ih2, ih3, ih4⟩ := bits_Div64.mono_l k
  unfold bits_Div64.f
  repeat' first
      | (with_reducible exact ih0 _ _ _ _ _ _ _ _)
      | (with_reducible exact ih1 _ _ _ _ _ _ _ _ _)
      | (with_reducible exact ih2 _ _ _ _ _ _ _ _ _ _)
      | (with_reducible exact ih3 _ _ _ _ _ _ _ _ _)
      | (with_reducible exact ih4 _ _ _ _ _ _ _ _ _ _)
      | (with_reducible exact bits_LeadingZeros64.mono _ _)
      | (with_reducible exact LeO.refl _)
      | (with_reducible exact LeO.none _)
      | (with_reducible refine LeO.ite ?_ ?_)
      | (with_reducible refine LeO.bind ?_ (fun _ => ?_))
      | exact ih0 _ _ _ _ _ _ _ _
      | exact ih1 _ _ _ _ _ _ _ _ _
      | exact ih2 _ _ _ _ _ _ _ _ _ _
      | exact ih3 _ _ _ _ _ _ _ _ _
      | exact ih4 _ _ _ _ _ _ _ _ _ _
      | exact bits_LeadingZeros64.mono _ _
      | exact LeO.none _
      | refine LeO.ite ?_ ?_
      | refine LeO.bind ?_ (fun _ => ?_)
def half_Over.f (k : Nat) (a0_0 : Int) (a0_1 : Int) (a1 : Int) : Option (Int × Int × Int) := if a1 = 0 then (some (0, 0, 5)) else (if a0_0 ≥ a1 then (some (0, 0, 4)) else ((bits_Div64.f k a0_0 a0_1 a1).bind fun bt113 => (some (bt113.1, bt113.2, 0))))
theorem half_Over.mono : ∀ a0 a1 a2 k, LeO (half_Over.f k a0 a1 a2) (half_Over.f (k + 1) a0 a1 a2) := by
  intro a0 a1 a2 k
  unfold half_Over.f
  repeat' first
      | (with_reducible exact bits_Div64.mono _ _ _ _)
      | (with_reducible exact LeO.refl _)
      | (with_reducible exact LeO.none _)
      | (with_reducible refine LeO.ite ?_ ?_)
      | (with_reducible refine LeO.bind ?_ (fun _ => ?_))
      | exact bits_Div64.mono _ _ _ _
      | exact LeO.none _
      | refine LeO.ite ?_ ?_
      | refine LeO.bind ?_ (fun _ => ?_)
def half_up.f (a0 : Int) (a1 : Int) (a2 : Int) : Option (Bool) := if a1 > (IntKind.u64.wrap (a2 - a1)) then (some true) else (if a1 = (IntKind.u64.wrap (a2 - a1)) then (some ((Int.tmod a0 2) == 1)) else (some false))
def half_Near.j0 : Nat → Int → Int → Bool → Option (Int × Int)
  | 0, _, _, _ => none
  | k + 1, x6, x8, x24 => if x24 = true then (some (x6, x8)) else (if (IntKind.u64.wrap (x6 + 1)) = 0 then (some (0, 4)) else (some (IntKind.u64.wrap (x6 + 1), 0)))
def half_Near.f (k : Nat) (a0_0 : Int) (a0_1 : Int) (a1 : Int) : Option (Int × Int) := (half_Over.f k a0_0 a0_1 a1).bind fun bt116 => (if bt116.2.2 = 0 then ((half_up.f bt116.1 bt116.2.1 a1).bind fun t119 => (half_Near.j0 k bt116.1 bt116.2.2 (!t119))) else (half_Near.j0 k bt116.1 bt116.2.2 true))
theorem half_Near.mono_l : ∀ k, (∀ y0 y1 y2, LeO (half_Near.j0 k y0 y1 y2) (half_Near.j0 (k + 1) y0 y1 y2))
  | 0 => fun _ _ _ r h => by simp [half_Near.j0] at h
  | k + 1 => by
    have ih0 := half_Near.mono_l k
    · intro y0 y1 y2
      unfold half_Near.j0
      repeat' first
      | (with_reducible exact ih0 _ _ _)
      | (with_reducible exact half_Over.mono _ _ _ _)
      | (with_reducible exact LeO.refl _)
      | (with_reducible exact LeO.none _)
      | (with_reducible refine LeO.ite ?_ ?_)
      | (with_reducible refine LeO.bind ?_ (fun _ => ?_))
      | exact ih0 _ _ _
      | exact half_Over.mono _ _ _ _
      | exact LeO.none _
      | refine LeO.ite ?_ ?_
      | refine LeO.bind ?_ (fun _ => ?_)
theorem half_Near.mono : ∀ a0 a1 a2 k, LeO (half_Near.f k a0 a1 a2) (half_Near.f (k + 1) a0 a1 a2) := by
  intro a0 a1 a2 k
  have ih0 := half_Near.mono_l k
  unfold half_Near.f
  repeat' first
      | (with_reducible exact ih0 _ _ _)
      | (with_reducible exact half_Over.mono _ _ _ _)
      | (with_reducible exact LeO.refl _)
      | (with_reducible exact LeO.none _)
      | (with_reducible refine LeO.ite ?_ ?_)
      | (with_reducible refine LeO.bind ?_ (fun _ => ?_))
      | exact ih0 _ _ _
      | exact half_Over.mono _ _ _ _
      | exact LeO.none _
      | refine LeO.ite ?_ ?_
      | refine LeO.bind ?_ (fun _ => ?_)
def pair_held.f (a0 : Int) : Option (Int) := some (mn (mx a0 0) 128)
def pair_Shr.f (a0_0 : Int) (a0_1 : Int) (a1 : Int) : Option (Int × Int) := (pair_held.f a1).bind fun t122 => (if (IntKind.u64.wrap (t122)) ≥ 64 then (if 0 ≤ (IntKind.u64.wrap ((IntKind.u64.wrap (t122)) - 64)) then (some (0, shr .u64 a0_0 (IntKind.u64.wrap ((IntKind.u64.wrap (t122)) - 64)))) else (none)) else (if 0 ≤ (IntKind.u64.wrap (t122)) then (if 0 ≤ (IntKind.u64.wrap (64 - (IntKind.u64.wrap (t122)))) then (some (shr .u64 a0_0 (IntKind.u64.wrap (t122)), Go.bits .or .u64 (shr .u64 a0_1 (IntKind.u64.wrap (t122))) (shl .u64 a0_0 (IntKind.u64.wrap (64 - (IntKind.u64.wrap (t122))))))) else (none)) else (none)))
def pair_Shl.f (a0_0 : Int) (a0_1 : Int) (a1 : Int) : Option (Int × Int × Bool) := (pair_held.f a1).bind fun t125 => (if 0 ≤ (IntKind.u64.wrap (t125)) then (if 0 ≤ (IntKind.u64.wrap (64 - (IntKind.u64.wrap (t125)))) then (if (IntKind.u64.wrap (t125)) ≥ 64 then (if 0 ≤ (IntKind.u64.wrap ((IntKind.u64.wrap (t125)) - 64)) then ((pair_Shr.f (shl .u64 a0_1 (IntKind.u64.wrap ((IntKind.u64.wrap (t125)) - 64))) 0 a1).bind fun bt127 => (some (shl .u64 a0_1 (IntKind.u64.wrap ((IntKind.u64.wrap (t125)) - 64)), 0, (bt127.1 == a0_0 && (bt127.2 == a0_1))))) else (none)) else ((pair_Shr.f (Go.bits .or .u64 (shl .u64 a0_0 (IntKind.u64.wrap (t125))) (shr .u64 a0_1 (IntKind.u64.wrap (64 - (IntKind.u64.wrap (t125)))))) (shl .u64 a0_1 (IntKind.u64.wrap (t125))) a1).bind fun bt129 => (some (Go.bits .or .u64 (shl .u64 a0_0 (IntKind.u64.wrap (t125))) (shr .u64 a0_1 (IntKind.u64.wrap (64 - (IntKind.u64.wrap (t125))))), shl .u64 a0_1 (IntKind.u64.wrap (t125)), (bt129.1 == a0_0 && (bt129.2 == a0_1)))))) else (none)) else (none))
def half_Shift.f (k : Nat) (a0_0 : Int) (a0_1 : Int) (a1 : Int) : Option (Int × Int) := (pair_Shl.f 0 1 (mn (mx a1 0) 63)).bind fun bt132 => ((half_Near.f k a0_0 a0_1 bt132.2.1).bind fun bt136 => (some (bt136.1, bt136.2)))
theorem half_Shift.mono : ∀ a0 a1 a2 k, LeO (half_Shift.f k a0 a1 a2) (half_Shift.f (k + 1) a0 a1 a2) := by
  intro a0 a1 a2 k
  unfold half_Shift.f
  repeat' first
      | (with_reducible exact half_Near.mono _ _ _ _)
      | (with_reducible exact LeO.refl _)
      | (with_reducible exact LeO.none _)
      | (with_reducible refine LeO.ite ?_ ?_)
      | (with_reducible refine LeO.bind ?_ (fun _ => ?_))
      | exact half_Near.mono _ _ _ _
      | exact LeO.none _
      | refine LeO.ite ?_ ?_
      | refine LeO.bind ?_ (fun _ => ?_)
def pair_Mul.f (a0 : Int) (a1 : Int) : Option (Int × Int) := some (IntKind.u64.wrap ((IntKind.u64.wrap ((IntKind.u64.wrap ((IntKind.u64.wrap ((a0 / 4294967296) * (a1 / 4294967296))) + ((IntKind.u64.wrap ((a0 / 4294967296) * (Go.bits .and .u64 a1 4294967295))) / 4294967296))) + ((IntKind.u64.wrap ((Go.bits .and .u64 a0 4294967295) * (a1 / 4294967296))) / 4294967296))) + ((IntKind.u64.wrap ((IntKind.u64.wrap (((IntKind.u64.wrap ((Go.bits .and .u64 a0 4294967295) * (Go.bits .and .u64 a1 4294967295))) / 4294967296) + (Go.bits .and .u64 (IntKind.u64.wrap ((a0 / 4294967296) * (Go.bits .and .u64 a1 4294967295))) 4294967295))) + (Go.bits .and .u64 (IntKind.u64.wrap ((Go.bits .and .u64 a0 4294967295) * (a1 / 4294967296))) 4294967295))) / 4294967296)), Go.bits .or .u64 (IntKind.u64.wrap ((IntKind.u64.wrap ((IntKind.u64.wrap (((IntKind.u64.wrap ((Go.bits .and .u64 a0 4294967295) * (Go.bits .and .u64 a1 4294967295))) / 4294967296) + (Go.bits .and .u64 (IntKind.u64.wrap ((a0 / 4294967296) * (Go.bits .and .u64 a1 4294967295))) 4294967295))) + (Go.bits .and .u64 (IntKind.u64.wrap ((Go.bits .and .u64 a0 4294967295) * (a1 / 4294967296))) 4294967295))) * 4294967296)) (Go.bits .and .u64 (IntKind.u64.wrap ((Go.bits .and .u64 a0 4294967295) * (Go.bits .and .u64 a1 4294967295))) 4294967295))
def dec_power.l0 : Nat → Int → Int → Int → Option (Int)
  | 0, _, _, _ => none
  | k + 1, x3, x4, x5 => if x5 < x4 then (dec_power.l0 k (IntKind.u64.wrap (x3 * 10)) x4 (wrap64 (x5 + 1))) else (some x3)
def dec_power.f (k : Nat) (a0 : Int) : Option (Int) := dec_power.l0 k 1 a0 0
theorem dec_power.mono_l : ∀ k, (∀ y0 y1 y2, LeO (dec_power.l0 k y0 y1 y2) (dec_power.l0 (k + 1) y0 y1 y2))
  | 0 => fun _ _ _ r h => by simp [dec_power.l0] at h
  | k + 1 => by
    have ih0 := dec_power.mono_l k
    · intro y0 y1 y2
      unfold dec_power.l0
      repeat' first
      | (with_reducible exact ih0 _ _ _)
      | (with_reducible exact LeO.refl _)
      | (with_reducible exact LeO.none _)
      | (with_reducible refine LeO.ite ?_ ?_)
      | (with_reducible refine LeO.bind ?_ (fun _ => ?_))
      | exact ih0 _ _ _
      | exact LeO.none _
      | refine LeO.ite ?_ ?_
      | refine LeO.bind ?_ (fun _ => ?_)
theorem dec_power.mono : ∀ a0 k, LeO (dec_power.f k a0) (dec_power.f (k + 1) a0) := by
  intro a0 k
  have ih0 := dec_power.mono_l k
  unfold dec_power.f
  repeat' first
      | (with_reducible exact ih0 _ _ _)
      | (with_reducible exact LeO.refl _)
      | (with_reducible exact LeO.none _)
      | (with_reducible refine LeO.ite ?_ ?_)
      | (with_reducible refine LeO.bind ?_ (fun _ => ?_))
      | exact ih0 _ _ _
      | exact LeO.none _
      | refine LeO.ite ?_ ?_
      | refine LeO.bind ?_ (fun _ => ?_)
def dec_fraction.f (k : Nat) (a0 : Int) (a1 : Int) : Option (Int) := (pair_Shl.f 0 a0 32).bind fun bt139 => ((dec_power.f k a1).bind fun t143 => ((half_Near.f k bt139.1 bt139.2.1 t143).bind fun bt144 => (some bt144.1)))
theorem dec_fraction.mono : ∀ a0 a1 k, LeO (dec_fraction.f k a0 a1) (dec_fraction.f (k + 1) a0 a1) := by
  intro a0 a1 k
  unfold dec_fraction.f
  repeat' first
      | (with_reducible exact dec_power.mono _ _)
      | (with_reducible exact half_Near.mono _ _ _ _)
      | (with_reducible exact LeO.refl _)
      | (with_reducible exact LeO.none _)
      | (with_reducible refine LeO.ite ?_ ?_)
      | (with_reducible refine LeO.bind ?_ (fun _ => ?_))
      | exact dec_power.mono _ _
      | exact half_Near.mono _ _ _ _
      | exact LeO.none _
      | refine LeO.ite ?_ ?_
      | refine LeO.bind ?_ (fun _ => ?_)
def strings_Repeat.f (a0 : ByteArray) (a1 : Int) : Option ByteArray := if 0 ≤ a1 ∧ a1 ≤ 9223372036854775807 ∧ a0.size * a1.toNat ≤ 140737488355328 then some ⟨(Lib.repeatL a0.data.toList a1.toNat).toArray⟩ else none
def dec_behind.l0 : Nat → Int → Int → Option (ByteArray)
  | 0, _, _ => none
  | k + 1, x0, x3 => if x3 ≤ 10 then ((dec_power.f k x3).bind fun t146 => ((pair_Mul.f x0 t146).bind fun bt147 => ((half_Shift.f k bt147.1 bt147.2 32).bind fun bt149 => ((dec_fraction.f k bt149.1 x3).bind fun t151 => (if t151 = x0 then ((num_Tell.f k (wrap64 (bt149.1))).bind fun t152 => ((strings_Repeat.f (⟨#[48]⟩ : ByteArray) (wrap64 (x3 - (t152.size : Int)))).bind fun t153 => (if t153.size + t152.size ≤ 9223372036854775807 then (some (t153 ++ t152)) else (none)))) else (dec_behind.l0 k x0 (wrap64 (x3 + 1)))))))) else (some (⟨#[]⟩ : ByteArray))
def dec_behind.f (k : Nat) (a0 : Int) : Option (ByteArray) := dec_behind.l0 k a0 1
theorem dec_behind.mono_l : ∀ k, (∀ y0 y1, LeO (dec_behind.l0 k y0 y1) (dec_behind.l0 (k + 1) y0 y1))
  | 0 => fun _ _ r h => by simp [dec_behind.l0] at h
  | k + 1 => by
    have ih0 := dec_behind.mono_l k
    · intro y0 y1
      unfold dec_behind.l0
      repeat' first
      | (with_reducible exact ih0 _ _)
      | (with_reducible exact dec_fraction.mono _ _ _)
      | (with_reducible exact dec_power.mono _ _)
      | (with_reducible exact half_Shift.mono _ _ _ _)
      | (with_reducible exact num_Tell.mono _ _)
      | (with_reducible exact LeO.refl _)
      | (with_reducible exact LeO.none _)
      | (with_reducible refine LeO.ite ?_ ?_)
      | (with_reducible refine LeO.bind ?_ (fun _ => ?_))
      | exact ih0 _ _
      | exact dec_fraction.mono _ _ _
      | exact dec_power.mono _ _
      | exact half_Shift.mono _ _ _ _
      | exact num_Tell.mono _ _
      | exact LeO.none _
      | refine LeO.ite ?_ ?_
      | refine LeO.bind ?_ (fun _ => ?_)
theorem dec_behind.mono : ∀ a0 k, LeO (dec_behind.f k a0) (dec_behind.f (k + 1) a0) := by
  intro a0 k
  have ih0 := dec_behind.mono_l k
  unfold dec_behind.f
  repeat' first
      | (with_reducible exact ih0 _ _)
      | (with_reducible exact dec_fraction.mono _ _ _)
      | (with_reducible exact dec_power.mono _ _)
      | (with_reducible exact half_Shift.mono _ _ _ _)
      | (with_reducible exact num_Tell.mono _ _)
      | (with_reducible exact LeO.refl _)
      | (with_reducible exact LeO.none _)
      | (with_reducible refine LeO.ite ?_ ?_)
      | (with_reducible refine LeO.bind ?_ (fun _ => ?_))
      | exact ih0 _ _
      | exact dec_fraction.mono _ _ _
      | exact dec_power.mono _ _
      | exact half_Shift.mono _ _ _ _
      | exact num_Tell.mono _ _
      | exact LeO.none _
      | refine LeO.ite ?_ ?_
      | refine LeO.bind ?_ (fun _ => ?_)
def dec_Put.f (k : Nat) (a0 : Int) : Option (ByteArray) := (fix_Size.f a0).bind fun t154 => ((num_Tell.f k (wrap64 (t154 / 4294967296))).bind fun t155 => (if a0 < 0 then (if 1 + t155.size ≤ 9223372036854775807 then (if (Go.bits .and .u64 t154 4294967295) = 0 then (some ((⟨#[45]⟩ : ByteArray) ++ t155)) else ((dec_behind.f k (Go.bits .and .u64 t154 4294967295)).bind fun t156 => (if 1 + t156.size ≤ 9223372036854775807 then (if ((⟨#[45]⟩ : ByteArray) ++ t155).size + ((⟨#[46]⟩ : ByteArray) ++ t156).size ≤ 9223372036854775807 then (some (((⟨#[45]⟩ : ByteArray) ++ t155) ++ ((⟨#[46]⟩ : ByteArray) ++ t156))) else (none)) else (none)))) else (none)) else (if (Go.bits .and .u64 t154 4294967295) = 0 then (some t155) else ((dec_behind.f k (Go.bits .and .u64 t154 4294967295)).bind fun t157 => (if 1 + t157.size ≤ 9223372036854775807 then (if t155.size + ((⟨#[46]⟩ : ByteArray) ++ t157).size ≤ 9223372036854775807 then (some (t155 ++ ((⟨#[46]⟩ : ByteArray) ++ t157))) else (none)) else (none))))))
theorem dec_Put.mono : ∀ a0 k, LeO (dec_Put.f k a0) (dec_Put.f (k + 1) a0) := by
  intro a0 k
  unfold dec_Put.f
  repeat' first
      | (with_reducible exact dec_behind.mono _ _)
      | (with_reducible exact num_Tell.mono _ _)
      | (with_reducible exact LeO.refl _)
      | (with_reducible exact LeO.none _)
      | (with_reducible refine LeO.ite ?_ ?_)
      | (with_reducible refine LeO.bind ?_ (fun _ => ?_))
      | exact dec_behind.mono _ _
      | exact num_Tell.mono _ _
      | exact LeO.none _
      | refine LeO.ite ?_ ?_
      | refine LeO.bind ?_ (fun _ => ?_)
def output_decimals.l0 : Nat → List ByteArray → List Int → Int → Int → Option (List ByteArray)
  | 0, _, _, _, _ => none
  | k + 1, x3, x6, x7, x8 => if x8 < x7 then (if 0 ≤ x8 then (if x8 < (x6.length : Int) then ((dec_Put.f k (rd x6 x8)).bind fun t159 => (if x3.length < 8796093022208 then (output_decimals.l0 k (x3 ++ [t159]) x6 x7 (wrap64 (x8 + 1))) else (none))) else (none)) else (none)) else (some x3)
def output_decimals.f (k : Nat) (l0 : List Int) : Option (List ByteArray) := output_decimals.l0 k ([] : List ByteArray) l0 (l0.length : Int) 0
theorem output_decimals.mono_l : ∀ k, (∀ y0 y1 y2 y3, LeO (output_decimals.l0 k y0 y1 y2 y3) (output_decimals.l0 (k + 1) y0 y1 y2 y3))
  | 0 => fun _ _ _ _ r h => by simp [output_decimals.l0] at h
  | k + 1 => by
    have ih0 := output_decimals.mono_l k
    · intro y0 y1 y2 y3
      unfold output_decimals.l0
      repeat' first
      | (with_reducible exact ih0 _ _ _ _)
      | (with_reducible exact dec_Put.mono _ _)
      | (with_reducible exact LeO.refl _)
      | (with_reducible exact LeO.none _)
      | (with_reducible refine LeO.ite ?_ ?_)
      | (with_reducible refine LeO.bind ?_ (fun _ => ?_))
      | exact ih0 _ _ _ _
      | exact dec_Put.mono _ _
      | exact LeO.none _
      | refine LeO.ite ?_ ?_
      | refine LeO.bind ?_ (fun _ => ?_)
theorem output_decimals.mono : ∀ a0 k, LeO (output_decimals.f k a0) (output_decimals.f (k + 1) a0) := by
  intro a0 k
  have ih0 := output_decimals.mono_l k
  unfold output_decimals.f
  repeat' first
      | (with_reducible exact ih0 _ _ _ _)
      | (with_reducible exact dec_Put.mono _ _)
      | (with_reducible exact LeO.refl _)
      | (with_reducible exact LeO.none _)
      | (with_reducible refine LeO.ite ?_ ?_)
      | (with_reducible refine LeO.bind ?_ (fun _ => ?_))
      | exact ih0 _ _ _ _
      | exact dec_Put.mono _ _
      | exact LeO.none _
      | refine LeO.ite ?_ ?_
      | refine LeO.bind ?_ (fun _ => ?_)
def output_group.f (k : Nat) (a0_0 : Int) (a0_1 : Int) (l0_2 : List Int) (l0_3 : List Bool) (l0_4 : List (S23)) (a0_5 : Int) (a1 : Int) : Option (ByteArray) := (num_Tell.f k a1).bind fun t164 => ((some (([(⟨#[32, 32, 103, 114, 111, 117, 112]⟩ : ByteArray), t164] : List ByteArray) : List ByteArray)).bind fun y165 => (if 0 ≤ (wrap64 (3 * a1)) then (if (wrap64 (3 * a1)) ≤ (wrap64 (3 * (wrap64 (a1 + 1)))) then (if (wrap64 (3 * (wrap64 (a1 + 1)))) ≤ (l0_2.length : Int) then ((output_decimals.f k ((l0_2.take ((wrap64 (3 * (wrap64 (a1 + 1)))) : Int).toNat).drop ((wrap64 (3 * a1)) : Int).toNat)).bind fun t169 => (if y165.length + t169.length < 8796093022208 then ((some (y165 ++ t169 : List ByteArray)).bind fun y172 => (if a1 < (l0_3.length : Int) then (if 0 ≤ a1 then (if rdOf false l0_3 a1 = true then (if y172.length < 8796093022208 then ((output_line.f (y172 ++ [(⟨#[102, 114, 111, 122, 101, 110]⟩ : ByteArray)])).bind fun t179 => (some t179)) else (none)) else ((output_line.f y172).bind fun t180 => (some t180))) else (none)) else ((output_line.f y172).bind fun t181 => (some t181)))) else (none))) else (none)) else (none)) else (none)))
theorem output_group.mono : ∀ a0 a1 a2 a3 a4 a5 a6 k, LeO (output_group.f k a0 a1 a2 a3 a4 a5 a6) (output_group.f (k + 1) a0 a1 a2 a3 a4 a5 a6) := by
  intro a0 a1 a2 a3 a4 a5 a6 k
  unfold output_group.f
  repeat' first
      | (with_reducible exact num_Tell.mono _ _)
      | (with_reducible exact output_decimals.mono _ _)
      | (with_reducible exact LeO.refl _)
      | (with_reducible exact LeO.none _)
      | (with_reducible refine LeO.ite ?_ ?_)
      | (with_reducible refine LeO.bind ?_ (fun _ => ?_))
      | exact num_Tell.mono _ _
      | exact output_decimals.mono _ _
      | exact LeO.none _
      | refine LeO.ite ?_ ?_
      | refine LeO.bind ?_ (fun _ => ?_)
mutual
def output_Step.l0 : Nat → List ByteArray → Int → Int → Int → Int → List Int → List Bool → List (S23) → Int → Option (List ByteArray)
  | 0, _, _, _, _, _, _, _, _, _ => none
  | k + 1, x3, x22, x23, x183000, x183001, x183002, x183003, x183004, x183005 => if x23 < x22 then ((output_group.f k x183000 x183001 x183002 x183003 x183004 x183005 x23).bind fun t193 => (if x3.length < 8796093022208 then (output_Step.l0 k (x3 ++ [t193]) x22 (wrap64 (x23 + 1)) x183000 x183001 x183002 x183003 x183004 x183005) else (none))) else (output_Step.l1 k x3 x183004 (x183004.length : Int) 0)
def output_Step.l1 : Nat → List ByteArray → List (S23) → Int → Int → Option (List ByteArray)
  | 0, _, _, _, _ => none
  | k + 1, x3, x34, x35, x36 => if x36 < x35 then (if 0 ≤ x36 then (if x36 < (x34.length : Int) then ((events_Line.f k ((rd_T23 x34 x36).f0) ((rd_T23 x34 x36).f1) ((rd_T23 x34 x36).f2)).bind fun t199 => (if 2 + t199.size ≤ 9223372036854775807 then (if x3.length < 8796093022208 then (output_Step.l1 k (x3 ++ [(⟨#[32, 32]⟩ : ByteArray) ++ t199]) x34 x35 (wrap64 (x36 + 1))) else (none)) else (none))) else (none)) else (none)) else (some x3)
end
def output_Step.f (k : Nat) (a0_0 : Int) (a0_1 : Int) (l0_2 : List Int) (l0_3 : List Bool) (l0_4 : List (S23)) (a0_5 : Int) : Option (List ByteArray) := (num_Tell.f k a0_0).bind fun t183 => ((num_Tell.f k a0_1).bind fun t184 => ((output_Word.f a0_5).bind fun t185 => ((output_line.f (([(⟨#[115, 116, 101, 112]⟩ : ByteArray), t183, (⟨#[112, 104, 97, 115, 101]⟩ : ByteArray), t184, t185] : List ByteArray))).bind fun t189 => (output_Step.l0 k (([t189] : List ByteArray)) (wrap64 ((l0_2.length : Int) / 3)) 0 a0_0 a0_1 l0_2 l0_3 l0_4 a0_5))))
theorem output_Step.mono_l : ∀ k, (∀ y0 y1 y2 y3 y4 y5 y6 y7 y8, LeO (output_Step.l0 k y0 y1 y2 y3 y4 y5 y6 y7 y8) (output_Step.l0 (k + 1) y0 y1 y2 y3 y4 y5 y6 y7 y8)) ∧ (∀ y0 y1 y2 y3, LeO (output_Step.l1 k y0 y1 y2 y3) (output_Step.l1 (k + 1) y0 y1 y2 y3))
  | 0 => ⟨fun _ _ _ _ _ _ _ _ _ r h => by simp [output_Step.l0] at h, fun _ _ _ _ r h => by simp [output_Step.l1] at h⟩
  | k + 1 => by
    obtain ⟨ih0, ih1⟩ := output_Step.mono_l k
    refine ⟨?_, ?_⟩
    · intro y0 y1 y2 y3 y4 y5 y6 y7 y8
      unfold output_Step.l0
      repeat' first
      | (with_reducible exact ih0 _ _ _ _ _ _ _ _ _)
      | (with_reducible exact ih1 _ _ _ _)
      | (with_reducible exact events_Line.mono _ _ _ _)
      | (with_reducible exact num_Tell.mono _ _)
      | (with_reducible exact output_group.mono _ _ _ _ _ _ _ _)
      | (with_reducible exact LeO.refl _)
      | (with_reducible exact LeO.none _)
      | (with_reducible refine LeO.ite ?_ ?_)
      | (with_reducible refine LeO.bind ?_ (fun _ => ?_))
      | exact ih0 _ _ _ _ _ _ _ _ _
      | exact ih1 _ _ _ _
      | exact events_Line.mono _ _ _ _
      | exact num_Tell.mono _ _
      | exact output_group.mono _ _ _ _ _ _ _ _
      | exact LeO.none _
      | refine LeO.ite ?_ ?_
      | refine LeO.bind ?_ (fun _ => ?_)
    · intro y0 y1 y2 y3
      unfold output_Step.l1
      repeat' first
      | (with_reducible exact ih0 _ _ _ _ _ _ _ _ _)
      | (with_reducible exact ih1 _ _ _ _)
      | (with_reducible exact events_Line.mono _ _ _ _)
      | (with_reducible exact num_Tell.mono _ _)
      | (with_reducible exact output_group.mono _ _ _ _ _ _ _ _)
      | (with_reducible exact LeO.refl _)
      | (with_reducible exact LeO.none _)
      | (with_reducible refine LeO.ite ?_ ?_)
      | (with_reducible refine LeO.bind ?_ (fun _ => ?_))
      | exact ih0 _ _ _ _ _ _ _ _ _
      | exact ih1 _ _ _ _
      | exact events_Line.mono _ _ _ _
      | exact num_Tell.mono _ _
      | exact output_group.mono _ _ _ _ _ _ _ _
      | exact LeO.none _
      | refine LeO.ite ?_ ?_
      | refine LeO.bind ?_ (fun _ => ?_)
theorem output_Step.mono : ∀ a0 a1 a2 a3 a4 a5 k, LeO (output_Step.f k a0 a1 a2 a3 a4 a5) (output_Step.f (k + 1) a0 a1 a2 a3 a4 a5) := by
  intro a0 a1 a2 a3 a4 a5 k
  obtain ⟨ih0, ih1⟩ := output_Step.mono_l k
  unfold output_Step.f
  repeat' first
      | (with_reducible exact ih0 _ _ _ _ _ _ _ _ _)
      | (with_reducible exact ih1 _ _ _ _)
      | (with_reducible exact events_Line.mono _ _ _ _)
      | (with_reducible exact num_Tell.mono _ _)
      | (with_reducible exact output_group.mono _ _ _ _ _ _ _ _)
      | (with_reducible exact LeO.refl _)
      | (with_reducible exact LeO.none _)
      | (with_reducible refine LeO.ite ?_ ?_)
      | (with_reducible refine LeO.bind ?_ (fun _ => ?_))
      | exact ih0 _ _ _ _ _ _ _ _ _
      | exact ih1 _ _ _ _
      | exact events_Line.mono _ _ _ _
      | exact num_Tell.mono _ _
      | exact output_group.mono _ _ _ _ _ _ _ _
      | exact LeO.none _
      | refine LeO.ite ?_ ?_
      | refine LeO.bind ?_ (fun _ => ?_)
def swa_Check.f (a0_0 : Int) (l0_1 : List Int) : Option (Int) := if a0_0 < 0 then (some 1) else (if a0_0 > 1048576 then (some 1) else (if a0_0 = 0 then (if (l0_1.length : Int) > 0 then (some 1) else (some 0)) else (some 0)))
def fix_Signed.j0 : Nat → Int → Bool → Bool → Option (Int × Int)
  | 0, _, _, _ => none
  | k + 1, x0, x1, x6 => if x6 = true then (some (wrap64 (IntKind.u64.wrap (-x0)), 0)) else (if x1 = true then (some (0, 4)) else (if x0 < 9223372036854775808 then (some (wrap64 (x0), 0)) else (some (0, 4))))
def fix_Signed.f (k : Nat) (a0 : Int) (a1 : Bool) : Option (Int × Int) := if a1 = true then (fix_Signed.j0 k a0 a1 (decide (a0 ≤ 9223372036854775808))) else (fix_Signed.j0 k a0 a1 false)
theorem fix_Signed.mono_l : ∀ k, (∀ y0 y1 y2, LeO (fix_Signed.j0 k y0 y1 y2) (fix_Signed.j0 (k + 1) y0 y1 y2))
  | 0 => fun _ _ _ r h => by simp [fix_Signed.j0] at h
  | k + 1 => by
    have ih0 := fix_Signed.mono_l k
    · intro y0 y1 y2
      unfold fix_Signed.j0
      repeat' first
      | (with_reducible exact ih0 _ _ _)
      | (with_reducible exact LeO.refl _)
      | (with_reducible exact LeO.none _)
      | (with_reducible refine LeO.ite ?_ ?_)
      | (with_reducible refine LeO.bind ?_ (fun _ => ?_))
      | exact ih0 _ _ _
      | exact LeO.none _
      | refine LeO.ite ?_ ?_
      | refine LeO.bind ?_ (fun _ => ?_)
theorem fix_Signed.mono : ∀ a0 a1 k, LeO (fix_Signed.f k a0 a1) (fix_Signed.f (k + 1) a0 a1) := by
  intro a0 a1 k
  have ih0 := fix_Signed.mono_l k
  unfold fix_Signed.f
  repeat' first
      | (with_reducible exact ih0 _ _ _)
      | (with_reducible exact LeO.refl _)
      | (with_reducible exact LeO.none _)
      | (with_reducible refine LeO.ite ?_ ?_)
      | (with_reducible refine LeO.bind ?_ (fun _ => ?_))
      | exact ih0 _ _ _
      | exact LeO.none _
      | refine LeO.ite ?_ ?_
      | refine LeO.bind ?_ (fun _ => ?_)
def swa_Mean.l0 : Nat → List Int → List Int → Int → Int → Int → List Int → Option (List Int × Int)
  | 0, _, _, _, _, _, _ => none
  | k + 1, x5, x18, x19, x20, x205000, x205001 => if x20 < x19 then (if 0 ≤ x20 then (if x20 < (x18.length : Int) then ((fix_Size.f (rd x18 x20)).bind fun t207 => ((half_Near.f k 0 t207 (IntKind.u64.wrap (x205000))).bind fun bt208 => ((fix_Signed.f k bt208.1 (decide ((rd x18 x20) < 0))).bind fun bt210 => (if x5.length < 17592186044416 then (swa_Mean.l0 k (x5 ++ [bt210.1]) x18 x19 (wrap64 (x20 + 1)) x205000 x205001) else (none))))) else (none)) else (none)) else (some (x5, 0))
def swa_Mean.f (k : Nat) (a0_0 : Int) (l0_1 : List Int) : Option (List Int × Int) := (swa_Check.f a0_0 l0_1).bind fun t205 => (if t205 = 0 then (swa_Mean.l0 k ([] : List Int) l0_1 (l0_1.length : Int) 0 a0_0 l0_1) else (some (([] : List Int), t205)))
theorem swa_Mean.mono_l : ∀ k, (∀ y0 y1 y2 y3 y4 y5, LeO (swa_Mean.l0 k y0 y1 y2 y3 y4 y5) (swa_Mean.l0 (k + 1) y0 y1 y2 y3 y4 y5))
  | 0 => fun _ _ _ _ _ _ r h => by simp [swa_Mean.l0] at h
  | k + 1 => by
    have ih0 := swa_Mean.mono_l k
    · intro y0 y1 y2 y3 y4 y5
      unfold swa_Mean.l0
      repeat' first
      | (with_reducible exact ih0 _ _ _ _ _ _)
      | (with_reducible exact fix_Signed.mono _ _ _)
      | (with_reducible exact half_Near.mono _ _ _ _)
      | (with_reducible exact LeO.refl _)
      | (with_reducible exact LeO.none _)
      | (with_reducible refine LeO.ite ?_ ?_)
      | (with_reducible refine LeO.bind ?_ (fun _ => ?_))
      | exact ih0 _ _ _ _ _ _
      | exact fix_Signed.mono _ _ _
      | exact half_Near.mono _ _ _ _
      | exact LeO.none _
      | refine LeO.ite ?_ ?_
      | refine LeO.bind ?_ (fun _ => ?_)
theorem swa_Mean.mono : ∀ a0 a1 k, LeO (swa_Mean.f k a0 a1) (swa_Mean.f (k + 1) a0 a1) := by
  intro a0 a1 k
  have ih0 := swa_Mean.mono_l k
  unfold swa_Mean.f
  repeat' first
      | (with_reducible exact ih0 _ _ _ _ _ _)
      | (with_reducible exact fix_Signed.mono _ _ _)
      | (with_reducible exact half_Near.mono _ _ _ _)
      | (with_reducible exact LeO.refl _)
      | (with_reducible exact LeO.none _)
      | (with_reducible refine LeO.ite ?_ ?_)
      | (with_reducible refine LeO.bind ?_ (fun _ => ?_))
      | exact ih0 _ _ _ _ _ _
      | exact fix_Signed.mono _ _ _
      | exact half_Near.mono _ _ _ _
      | exact LeO.none _
      | refine LeO.ite ?_ ?_
      | refine LeO.bind ?_ (fun _ => ?_)
mutual
def output_State.l0 : Nat → List ByteArray → List (S73) → Int → Int → Int → Int → Int → Bool → Int → Int → Bool → Int → Int → Int → Int → List (S73) → List Int → Int → List Int → Option (List ByteArray)
  | 0, _, _, _, _, _, _, _, _, _, _, _, _, _, _, _, _, _, _, _ => none
  | k + 1, x3, x18, x19, x20, x216000, x216001, x216002, x216003, x216004, x216005, x216006, x216007, x216008, x216009, x216010, x216011, x216012, x216013, x216014 => if x20 < x19 then (if 0 ≤ x20 then (if x20 < (x18.length : Int) then ((num_Tell.f k ((rd_T73 x18 x20).f0)).bind fun t227 => ((dec_Put.f k ((rd_T73 x18 x20).f1)).bind fun t228 => ((output_line.f (([(⟨#[107, 101, 112, 116]⟩ : ByteArray), t227, t228] : List ByteArray))).bind fun t232 => (if x3.length < 8796093022208 then (output_State.l0 k (x3 ++ [t232]) x18 x19 (wrap64 (x20 + 1)) x216000 x216001 x216002 x216003 x216004 x216005 x216006 x216007 x216008 x216009 x216010 x216011 x216012 x216013 x216014) else (none))))) else (none)) else (none)) else (if (x216012.length : Int) > 0 then ((some (([(⟨#[101, 109, 97]⟩ : ByteArray)] : List ByteArray) : List ByteArray)).bind fun y236 => ((output_decimals.f k x216012).bind fun t239 => (if y236.length + t239.length < 8796093022208 then ((output_line.f (y236 ++ t239)).bind fun t245 => (if x3.length < 8796093022208 then (output_State.j1 k (x3 ++ [t245]) x216000 x216001 x216002 x216003 x216004 x216005 x216006 x216007 x216008 x216009 x216010 x216011 x216012 x216013 x216014) else (none))) else (none)))) else (output_State.j1 k x3 x216000 x216001 x216002 x216003 x216004 x216005 x216006 x216007 x216008 x216009 x216010 x216011 x216012 x216013 x216014))
def output_State.j1 : Nat → List ByteArray → Int → Int → Int → Bool → Int → Int → Bool → Int → Int → Int → Int → List (S73) → List Int → Int → List Int → Option (List ByteArray)
  | 0, _, _, _, _, _, _, _, _, _, _, _, _, _, _, _, _ => none
  | k + 1, x3, x216000, x216001, x216002, x216003, x216004, x216005, x216006, x216007, x216008, x216009, x216010, x216011, x216012, x216013, x216014 => (swa_Mean.f k x216013 x216014).bind fun bt249 => (if bt249.2 = 0 then (output_State.j2 k x3 bt249.1 (decide (x216013 > 0)) x216000 x216001 x216002 x216003 x216004 x216005 x216006 x216007 x216008 x216009 x216010 x216011 x216012 x216013 x216014) else (output_State.j2 k x3 bt249.1 false x216000 x216001 x216002 x216003 x216004 x216005 x216006 x216007 x216008 x216009 x216010 x216011 x216012 x216013 x216014))
def output_State.j2 : Nat → List ByteArray → List Int → Bool → Int → Int → Int → Bool → Int → Int → Bool → Int → Int → Int → Int → List (S73) → List Int → Int → List Int → Option (List ByteArray)
  | 0, _, _, _, _, _, _, _, _, _, _, _, _, _, _, _, _, _, _ => none
  | k + 1, x3, x6, x62, x216000, x216001, x216002, x216003, x216004, x216005, x216006, x216007, x216008, x216009, x216010, x216011, x216012, x216013, x216014 => if x62 = true then ((num_Tell.f k x216013).bind fun t253 => ((some (([(⟨#[115, 119, 97]⟩ : ByteArray), t253] : List ByteArray) : List ByteArray)).bind fun y254 => ((output_decimals.f k x6).bind fun t257 => (if y254.length + t257.length < 8796093022208 then ((output_line.f (y254 ++ t257)).bind fun t263 => (if x3.length < 8796093022208 then (some (x3 ++ [t263])) else (none))) else (none))))) else (some x3)
end
def output_State.f (k : Nat) (a0_0 : Int) (a0_1 : Int) (a0_2 : Int) (a0_3 : Bool) (a0_4 : Int) (a0_5 : Int) (a0_6 : Bool) (a0_7 : Int) (a0_8 : Int) (a0_9 : Int) (a0_10 : Int) (l0_11 : List (S73)) (l0_12 : List Int) (a0_13 : Int) (l0_14 : List Int) : Option (List ByteArray) := (output_Word.f a0_1).bind fun t216 => ((num_Tell.f k a0_0).bind fun t217 => ((output_line.f (([(⟨#[115, 116, 97, 116, 101]⟩ : ByteArray), t216, t217] : List ByteArray))).bind fun t221 => (output_State.l0 k (([t221] : List ByteArray)) l0_11 (l0_11.length : Int) 0 a0_0 a0_1 a0_2 a0_3 a0_4 a0_5 a0_6 a0_7 a0_8 a0_9 a0_10 l0_11 l0_12 a0_13 l0_14)))
theorem output_State.mono_l : ∀ k, (∀ y0 y1 y2 y3 y4 y5 y6 y7 y8 y9 y10 y11 y12 y13 y14 y15 y16 y17 y18, LeO (output_State.l0 k y0 y1 y2 y3 y4 y5 y6 y7 y8 y9 y10 y11 y12 y13 y14 y15 y16 y17 y18) (output_State.l0 (k + 1) y0 y1 y2 y3 y4 y5 y6 y7 y8 y9 y10 y11 y12 y13 y14 y15 y16 y17 y18)) ∧ (∀ y0 y1 y2 y3 y4 y5 y6 y7 y8 y9 y10 y11 y12 y13 y14 y15, LeO (output_State.j1 k y0 y1 y2 y3 y4 y5 y6 y7 y8 y9 y10 y11 y12 y13 y14 y15) (output_State.j1 (k + 1) y0 y1 y2 y3 y4 y5 y6 y7 y8 y9 y10 y11 y12 y13 y14 y15)) ∧ (∀ y0 y1 y2 y3 y4 y5 y6 y7 y8 y9 y10 y11 y12 y13 y14 y15 y16 y17, LeO (output_State.j2 k y0 y1 y2 y3 y4 y5 y6 y7 y8 y9 y10 y11 y12 y13 y14 y15 y16 y17) (output_State.j2 (k + 1) y0 y1 y2 y3 y4 y5 y6 y7 y8 y9 y10 y11 y12 y13 y14 y15 y16 y17))
  | 0 => ⟨fun _ _ _ _ _ _ _ _ _ _ _ _ _ _ _ _ _ _ _ r h => by simp [output_State.l0] at h, fun _ _ _ _ _ _ _ _ _ _ _ _ _ _ _ _ r h => by simp [output_State.j1] at h, fun _ _ _ _ _ _ _ _ _ _ _ _ _ _ _ _ _ _ r h => by simp [output_State.j2] at h⟩
  | k + 1 => by
    obtain ⟨ih0, ih1, ih2⟩ := output_State.mono_l k
    refine ⟨?_, ?_, ?_⟩
    · intro y0 y1 y2 y3 y4 y5 y6 y7 y8 y9 y10 y11 y12 y13 y14 y15 y16 y17 y18
      unfold output_State.l0
      repeat' first
      | (with_reducible exact ih0 _ _ _ _ _ _ _ _ _ _ _ _ _ _ _ _ _ _ _)
      | (with_reducible exact ih1 _ _ _ _ _ _ _ _ _ _ _ _ _ _ _ _)
      | (with_reducible exact ih2 _ _ _ _ _ _ _ _ _ _ _ _ _ _ _ _ _ _)
      | (with_reducible exact dec_Put.mono _ _)
      | (with_reducible exact num_Tell.mono _ _)
      | (with_reducible exact output_decimals.mono _ _)
      | (with_reducible exact swa_Mean.mono _ _ _)
      | (with_reducible exact LeO.refl _)
      | (with_reducible exact LeO.none _)
      | (with_reducible refine LeO.ite ?_ ?_)
      | (with_reducible refine LeO.bind ?_ (fun _ => ?_))
      | exact ih0 _ _ _ _ _ _ _ _ _ _ _ _ _ _ _ _ _ _ _
      | exact ih1 _ _ _ _ _ _ _ _ _ _ _ _ _ _ _ _
      | exact ih2 _ _ _ _ _ _ _ _ _ _ _ _ _ _ _ _ _ _
      | exact dec_Put.mono _ _
      | exact num_Tell.mono _ _
      | exact output_decimals.mono _ _
      | exact swa_Mean.mono _ _ _
      | exact LeO.none _
      | refine LeO.ite ?_ ?_
      | refine LeO.bind ?_ (fun _ => ?_)
    · intro y0 y1 y2 y3 y4 y5 y6 y7 y8 y9 y10 y11 y12 y13 y14 y15
      unfold output_State.j1
      repeat' first
      | (with_reducible exact ih0 _ _ _ _ _ _ _ _ _ _ _ _ _ _ _ _ _ _ _)
      | (with_reducible exact ih1 _ _ _ _ _ _ _ _ _ _ _ _ _ _ _ _)
      | (with_reducible exact ih2 _ _ _ _ _ _ _ _ _ _ _ _ _ _ _ _ _ _)
      | (with_reducible exact dec_Put.mono _ _)
      | (with_reducible exact num_Tell.mono _ _)
      | (with_reducible exact output_decimals.mono _ _)
      | (with_reducible exact swa_Mean.mono _ _ _)
      | (with_reducible exact LeO.refl _)
      | (with_reducible exact LeO.none _)
      | (with_reducible refine LeO.ite ?_ ?_)
      | (with_reducible refine LeO.bind ?_ (fun _ => ?_))
      | exact ih0 _ _ _ _ _ _ _ _ _ _ _ _ _ _ _ _ _ _ _
      | exact ih1 _ _ _ _ _ _ _ _ _ _ _ _ _ _ _ _
      | exact ih2 _ _ _ _ _ _ _ _ _ _ _ _ _ _ _ _ _ _
      | exact dec_Put.mono _ _
      | exact num_Tell.mono _ _
      | exact output_decimals.mono _ _
      | exact swa_Mean.mono _ _ _
      | exact LeO.none _
      | refine LeO.ite ?_ ?_
      | refine LeO.bind ?_ (fun _ => ?_)
    · intro y0 y1 y2 y3 y4 y5 y6 y7 y8 y9 y10 y11 y12 y13 y14 y15 y16 y17
      unfold output_State.j2
      repeat' first
      | (with_reducible exact ih0 _ _ _ _ _ _ _ _ _ _ _ _ _ _ _ _ _ _ _)
      | (with_reducible exact ih1 _ _ _ _ _ _ _ _ _ _ _ _ _ _ _ _)
      | (with_reducible exact ih2 _ _ _ _ _ _ _ _ _ _ _ _ _ _ _ _ _ _)
      | (with_reducible exact dec_Put.mono _ _)
      | (with_reducible exact num_Tell.mono _ _)
      | (with_reducible exact output_decimals.mono _ _)
      | (with_reducible exact swa_Mean.mono _ _ _)
      | (with_reducible exact LeO.refl _)
      | (with_reducible exact LeO.none _)
      | (with_reducible refine LeO.ite ?_ ?_)
      | (with_reducible refine LeO.bind ?_ (fun _ => ?_))
      | exact ih0 _ _ _ _ _ _ _ _ _ _ _ _ _ _ _ _ _ _ _
      | exact ih1 _ _ _ _ _ _ _ _ _ _ _ _ _ _ _ _
      | exact ih2 _ _ _ _ _ _ _ _ _ _ _ _ _ _ _ _ _ _
      | exact dec_Put.mono _ _
      | exact num_Tell.mono _ _
      | exact output_decimals.mono _ _
      | exact swa_Mean.mono _ _ _
      | exact LeO.none _
      | refine LeO.ite ?_ ?_
      | refine LeO.bind ?_ (fun _ => ?_)
theorem output_State.mono : ∀ a0 a1 a2 a3 a4 a5 a6 a7 a8 a9 a10 a11 a12 a13 a14 k, LeO (output_State.f k a0 a1 a2 a3 a4 a5 a6 a7 a8 a9 a10 a11 a12 a13 a14) (output_State.f (k + 1) a0 a1 a2 a3 a4 a5 a6 a7 a8 a9 a10 a11 a12 a13 a14) := by
  intro a0 a1 a2 a3 a4 a5 a6 a7 a8 a9 a10 a11 a12 a13 a14 k
  obtain ⟨ih0, ih1, ih2⟩ := output_State.mono_l k
  unfold output_State.f
  repeat' first
      | (with_reducible exact ih0 _ _ _ _ _ _ _ _ _ _ _ _ _ _ _ _ _ _ _)
      | (with_reducible exact ih1 _ _ _ _ _ _ _ _ _ _ _ _ _ _ _ _)
      | (with_reducible exact ih2 _ _ _ _ _ _ _ _ _ _ _ _ _ _ _ _ _ _)
      | (with_reducible exact dec_Put.mono _ _)
      | (with_reducible exact num_Tell.mono _ _)
      | (with_reducible exact output_decimals.mono _ _)
      | (with_reducible exact swa_Mean.mono _ _ _)
      | (with_reducible exact LeO.refl _)
      | (with_reducible exact LeO.none _)
      | (with_reducible refine LeO.ite ?_ ?_)
      | (with_reducible refine LeO.bind ?_ (fun _ => ?_))
      | exact ih0 _ _ _ _ _ _ _ _ _ _ _ _ _ _ _ _ _ _ _
      | exact ih1 _ _ _ _ _ _ _ _ _ _ _ _ _ _ _ _
      | exact ih2 _ _ _ _ _ _ _ _ _ _ _ _ _ _ _ _ _ _
      | exact dec_Put.mono _ _
      | exact num_Tell.mono _ _
      | exact output_decimals.mono _ _
      | exact swa_Mean.mono _ _ _
      | exact LeO.none _
      | refine LeO.ite ?_ ?_
      | refine LeO.bind ?_ (fun _ => ?_)
def regimenlaw45_awake.f (k : Nat)  : Option (Bool) := (output_Step.f k 3 0 (([2147483648, 0, 0] : List Int)) (([true] : List Bool)) (([(⟨0, 7, 3⟩ : S23)] : List (S23))) 0).bind fun t276 => ((output_State.f k 0 0 0 false 0 0 false 0 0 0 0 ([] : List (S73)) ([] : List Int) 2 (([12884901888] : List Int))).bind fun t282 => (if (t276.length : Int) = 3 then (if 0 < (t276.length : Int) then (if (rdOf ByteArray.empty t276 0).toList = ([115, 116, 101, 112, 32, 51, 32, 112, 104, 97, 115, 101, 32, 48, 32, 103, 111, 101, 115] : List UInt8) then (if 1 < (t276.length : Int) then (if (rdOf ByteArray.empty t276 1).toList = ([32, 32, 103, 114, 111, 117, 112, 32, 48, 32, 48, 46, 53, 32, 48, 32, 48, 32, 102, 114, 111, 122, 101, 110] : List UInt8) then (if 2 < (t276.length : Int) then (if (rdOf ByteArray.empty t276 2).toList = ([32, 32, 107, 101, 101, 112, 32, 51] : List UInt8) then (if (t282.length : Int) = 2 then (if 1 < (t282.length : Int) then (some ((rdOf ByteArray.empty t282 1).toList == ([115, 119, 97, 32, 50, 32, 49, 46, 53] : List UInt8))) else (none)) else (none)) else (none)) else (none)) else (none)) else (none)) else (none)) else (none)) else (none)))
theorem regimenlaw45_awake.mono : ∀ k, LeO (regimenlaw45_awake.f k ) (regimenlaw45_awake.f (k + 1) ) := by
  intro  k
  unfold regimenlaw45_awake.f
  repeat' first
      | (with_reducible exact output_State.mono _ _ _ _ _ _ _ _ _ _ _ _ _ _ _ _)
      | (with_reducible exact output_Step.mono _ _ _ _ _ _ _)
      | (with_reducible exact LeO.refl _)
      | (with_reducible exact LeO.none _)
      | (with_reducible refine LeO.ite ?_ ?_)
      | (with_reducible refine LeO.bind ?_ (fun _ => ?_))
      | exact output_State.mono _ _ _ _ _ _ _ _ _ _ _ _ _ _ _ _
      | exact output_Step.mono _ _ _ _ _ _ _
      | exact LeO.none _
      | refine LeO.ite ?_ ?_
      | refine LeO.bind ?_ (fun _ => ?_)
def regimenref01_Texts.l0 : Nat → List ByteArray → List ByteArray → Int → Option (Bool)
  | 0, _, _, _ => none
  | k + 1, x0, x1, x5 => if x5 < (x0.length : Int) then (if 0 ≤ x5 then (if x5 < (x1.length : Int) then (if (rdOf ByteArray.empty x0 x5).toList = (rdOf ByteArray.empty x1 x5).toList then (regimenref01_Texts.l0 k x0 x1 (wrap64 (x5 + 1))) else (some false)) else (none)) else (none)) else (some true)
def regimenref01_Texts.f (k : Nat) (l0 : List ByteArray) (l1 : List ByteArray) : Option (Bool) := if (l0.length : Int) = (l1.length : Int) then (regimenref01_Texts.l0 k l0 l1 0) else (some false)
theorem regimenref01_Texts.mono_l : ∀ k, (∀ y0 y1 y2, LeO (regimenref01_Texts.l0 k y0 y1 y2) (regimenref01_Texts.l0 (k + 1) y0 y1 y2))
  | 0 => fun _ _ _ r h => by simp [regimenref01_Texts.l0] at h
  | k + 1 => by
    have ih0 := regimenref01_Texts.mono_l k
    · intro y0 y1 y2
      unfold regimenref01_Texts.l0
      repeat' first
      | (with_reducible exact ih0 _ _ _)
      | (with_reducible exact LeO.refl _)
      | (with_reducible exact LeO.none _)
      | (with_reducible refine LeO.ite ?_ ?_)
      | (with_reducible refine LeO.bind ?_ (fun _ => ?_))
      | exact ih0 _ _ _
      | exact LeO.none _
      | refine LeO.ite ?_ ?_
      | refine LeO.bind ?_ (fun _ => ?_)
theorem regimenref01_Texts.mono : ∀ a0 a1 k, LeO (regimenref01_Texts.f k a0 a1) (regimenref01_Texts.f (k + 1) a0 a1) := by
  intro a0 a1 k
  have ih0 := regimenref01_Texts.mono_l k
  unfold regimenref01_Texts.f
  repeat' first
      | (with_reducible exact ih0 _ _ _)
      | (with_reducible exact LeO.refl _)
      | (with_reducible exact LeO.none _)
      | (with_reducible refine LeO.ite ?_ ?_)
      | (with_reducible refine LeO.bind ?_ (fun _ => ?_))
      | exact ih0 _ _ _
      | exact LeO.none _
      | refine LeO.ite ?_ ?_
      | refine LeO.bind ?_ (fun _ => ?_)
def regimenref36_Words.f  : Option (List ByteArray) := some (([(⟨#[]⟩ : ByteArray), (⟨#[112, 104, 97, 115, 101]⟩ : ByteArray), (⟨#[116, 104, 97, 119]⟩ : ByteArray), (⟨#[102, 114, 101, 101, 122, 101]⟩ : ByteArray), (⟨#[115, 119, 97]⟩ : ByteArray), (⟨#[102, 97, 105, 108]⟩ : ByteArray), (⟨#[109, 105, 115, 115]⟩ : ByteArray), (⟨#[107, 101, 101, 112]⟩ : ByteArray), (⟨#[100, 114, 111, 112]⟩ : ByteArray), (⟨#[99, 117, 116]⟩ : ByteArray), (⟨#[115, 116, 111, 112]⟩ : ByteArray), (⟨#[101, 110, 100]⟩ : ByteArray)] : List ByteArray))
def regimenref01_Text.l0 : Nat → Int → ByteArray → ByteArray → Option (ByteArray)
  | 0, _, _, _ => none
  | k + 1, x0, x3, x4 => if x0 ≥ 10 then (if 0 ≤ (Int.tmod (wrap64 (Int.tdiv x0 10)) 10) then (if (Int.tmod (wrap64 (Int.tdiv x0 10)) 10) ≤ (wrap64 ((Int.tmod (wrap64 (Int.tdiv x0 10)) 10) + 1)) then (if (wrap64 ((Int.tmod (wrap64 (Int.tdiv x0 10)) 10) + 1)) ≤ (x3.size : Int) then (if (x3.extract ((Int.tmod (wrap64 (Int.tdiv x0 10)) 10) : Int).toNat ((wrap64 ((Int.tmod (wrap64 (Int.tdiv x0 10)) 10) + 1)) : Int).toNat).size + x4.size ≤ 9223372036854775807 then (regimenref01_Text.l0 k (wrap64 (Int.tdiv x0 10)) x3 ((x3.extract ((Int.tmod (wrap64 (Int.tdiv x0 10)) 10) : Int).toNat ((wrap64 ((Int.tmod (wrap64 (Int.tdiv x0 10)) 10) + 1)) : Int).toNat) ++ x4)) else (none)) else (none)) else (none)) else (none)) else (some x4)
def regimenref01_Text.f (k : Nat) (a0 : Int) : Option (ByteArray) := if 0 ≤ (Int.tmod a0 10) then (if (Int.tmod a0 10) ≤ (wrap64 ((Int.tmod a0 10) + 1)) then (if (wrap64 ((Int.tmod a0 10) + 1)) ≤ 10 then (regimenref01_Text.l0 k a0 (⟨#[48, 49, 50, 51, 52, 53, 54, 55, 56, 57]⟩ : ByteArray) ((⟨#[48, 49, 50, 51, 52, 53, 54, 55, 56, 57]⟩ : ByteArray).extract ((Int.tmod a0 10) : Int).toNat ((wrap64 ((Int.tmod a0 10) + 1)) : Int).toNat)) else (none)) else (none)) else (none)
theorem regimenref01_Text.mono_l : ∀ k, (∀ y0 y1 y2, LeO (regimenref01_Text.l0 k y0 y1 y2) (regimenref01_Text.l0 (k + 1) y0 y1 y2))
  | 0 => fun _ _ _ r h => by simp [regimenref01_Text.l0] at h
  | k + 1 => by
    have ih0 := regimenref01_Text.mono_l k
    · intro y0 y1 y2
      unfold regimenref01_Text.l0
      repeat' first
      | (with_reducible exact ih0 _ _ _)
      | (with_reducible exact LeO.refl _)
      | (with_reducible exact LeO.none _)
      | (with_reducible refine LeO.ite ?_ ?_)
      | (with_reducible refine LeO.bind ?_ (fun _ => ?_))
      | exact ih0 _ _ _
      | exact LeO.none _
      | refine LeO.ite ?_ ?_
      | refine LeO.bind ?_ (fun _ => ?_)
theorem regimenref01_Text.mono : ∀ a0 k, LeO (regimenref01_Text.f k a0) (regimenref01_Text.f (k + 1) a0) := by
  intro a0 k
  have ih0 := regimenref01_Text.mono_l k
  unfold regimenref01_Text.f
  repeat' first
      | (with_reducible exact ih0 _ _ _)
      | (with_reducible exact LeO.refl _)
      | (with_reducible exact LeO.none _)
      | (with_reducible refine LeO.ite ?_ ?_)
      | (with_reducible refine LeO.bind ?_ (fun _ => ?_))
      | exact ih0 _ _ _
      | exact LeO.none _
      | refine LeO.ite ?_ ?_
      | refine LeO.bind ?_ (fun _ => ?_)
def regimenref01_Tell.f (k : Nat) (a0 : Int) : Option (ByteArray) := if a0 ≥ 0 then ((regimenref01_Text.f k a0).bind fun t294 => (some t294)) else (if 0 ≤ (wrap64 (-(Int.tmod a0 10))) then (if (wrap64 (-(Int.tmod a0 10))) ≤ (wrap64 ((wrap64 (-(Int.tmod a0 10))) + 1)) then (if (wrap64 ((wrap64 (-(Int.tmod a0 10))) + 1)) ≤ 10 then (if (wrap64 (Int.tdiv a0 10)) = 0 then (if 1 + ((⟨#[48, 49, 50, 51, 52, 53, 54, 55, 56, 57]⟩ : ByteArray).extract ((wrap64 (-(Int.tmod a0 10))) : Int).toNat ((wrap64 ((wrap64 (-(Int.tmod a0 10))) + 1)) : Int).toNat).size ≤ 9223372036854775807 then (some ((⟨#[45]⟩ : ByteArray) ++ ((⟨#[48, 49, 50, 51, 52, 53, 54, 55, 56, 57]⟩ : ByteArray).extract ((wrap64 (-(Int.tmod a0 10))) : Int).toNat ((wrap64 ((wrap64 (-(Int.tmod a0 10))) + 1)) : Int).toNat))) else (none)) else ((regimenref01_Text.f k (wrap64 (-(wrap64 (Int.tdiv a0 10))))).bind fun t295 => (if t295.size + ((⟨#[48, 49, 50, 51, 52, 53, 54, 55, 56, 57]⟩ : ByteArray).extract ((wrap64 (-(Int.tmod a0 10))) : Int).toNat ((wrap64 ((wrap64 (-(Int.tmod a0 10))) + 1)) : Int).toNat).size ≤ 9223372036854775807 then (if 1 + (t295 ++ ((⟨#[48, 49, 50, 51, 52, 53, 54, 55, 56, 57]⟩ : ByteArray).extract ((wrap64 (-(Int.tmod a0 10))) : Int).toNat ((wrap64 ((wrap64 (-(Int.tmod a0 10))) + 1)) : Int).toNat)).size ≤ 9223372036854775807 then (some ((⟨#[45]⟩ : ByteArray) ++ (t295 ++ ((⟨#[48, 49, 50, 51, 52, 53, 54, 55, 56, 57]⟩ : ByteArray).extract ((wrap64 (-(Int.tmod a0 10))) : Int).toNat ((wrap64 ((wrap64 (-(Int.tmod a0 10))) + 1)) : Int).toNat)))) else (none)) else (none)))) else (none)) else (none)) else (none))
theorem regimenref01_Tell.mono : ∀ a0 k, LeO (regimenref01_Tell.f k a0) (regimenref01_Tell.f (k + 1) a0) := by
  intro a0 k
  unfold regimenref01_Tell.f
  repeat' first
      | (with_reducible exact regimenref01_Text.mono _ _)
      | (with_reducible exact LeO.refl _)
      | (with_reducible exact LeO.none _)
      | (with_reducible refine LeO.ite ?_ ?_)
      | (with_reducible refine LeO.bind ?_ (fun _ => ?_))
      | exact regimenref01_Text.mono _ _
      | exact LeO.none _
      | refine LeO.ite ?_ ?_
      | refine LeO.bind ?_ (fun _ => ?_)
def regimenref36_Line.j0 : Nat → ByteArray → Bool → Int → Int → Int → Option (ByteArray)
  | 0, _, _, _, _, _ => none
  | k + 1, x3, x11, x297000, x297001, x297002 => if x11 = true then ((regimenref36_Words.f).bind fun t297 => (if 0 ≤ x297001 then (if x297001 < (t297.length : Int) then (if (rdOf ByteArray.empty t297 x297001).size + 1 ≤ 9223372036854775807 then ((regimenref01_Tell.f k x297002).bind fun t301 => (if ((rdOf ByteArray.empty t297 x297001) ++ (⟨#[32]⟩ : ByteArray)).size + t301.size ≤ 9223372036854775807 then (some (((rdOf ByteArray.empty t297 x297001) ++ (⟨#[32]⟩ : ByteArray)) ++ t301)) else (none))) else (none)) else (none)) else (none))) else (if x3.size + 1 ≤ 9223372036854775807 then ((regimenref01_Tell.f k x297002).bind fun t302 => (if (x3 ++ (⟨#[32]⟩ : ByteArray)).size + t302.size ≤ 9223372036854775807 then (some ((x3 ++ (⟨#[32]⟩ : ByteArray)) ++ t302)) else (none))) else (none))
def regimenref36_Line.f (k : Nat) (a0_0 : Int) (a0_1 : Int) (a0_2 : Int) : Option (ByteArray) := if a0_1 ≥ 1 then (regimenref36_Line.j0 k (⟨#[63]⟩ : ByteArray) (decide (a0_1 ≤ 11)) a0_0 a0_1 a0_2) else (regimenref36_Line.j0 k (⟨#[63]⟩ : ByteArray) false a0_0 a0_1 a0_2)
theorem regimenref36_Line.mono_l : ∀ k, (∀ y0 y1 y2 y3 y4, LeO (regimenref36_Line.j0 k y0 y1 y2 y3 y4) (regimenref36_Line.j0 (k + 1) y0 y1 y2 y3 y4))
  | 0 => fun _ _ _ _ _ r h => by simp [regimenref36_Line.j0] at h
  | k + 1 => by
    have ih0 := regimenref36_Line.mono_l k
    · intro y0 y1 y2 y3 y4
      unfold regimenref36_Line.j0
      repeat' first
      | (with_reducible exact ih0 _ _ _ _ _)
      | (with_reducible exact regimenref01_Tell.mono _ _)
      | (with_reducible exact LeO.refl _)
      | (with_reducible exact LeO.none _)
      | (with_reducible refine LeO.ite ?_ ?_)
      | (with_reducible refine LeO.bind ?_ (fun _ => ?_))
      | exact ih0 _ _ _ _ _
      | exact regimenref01_Tell.mono _ _
      | exact LeO.none _
      | refine LeO.ite ?_ ?_
      | refine LeO.bind ?_ (fun _ => ?_)
theorem regimenref36_Line.mono : ∀ a0 a1 a2 k, LeO (regimenref36_Line.f k a0 a1 a2) (regimenref36_Line.f (k + 1) a0 a1 a2) := by
  intro a0 a1 a2 k
  have ih0 := regimenref36_Line.mono_l k
  unfold regimenref36_Line.f
  repeat' first
      | (with_reducible exact ih0 _ _ _ _ _)
      | (with_reducible exact regimenref01_Tell.mono _ _)
      | (with_reducible exact LeO.refl _)
      | (with_reducible exact LeO.none _)
      | (with_reducible refine LeO.ite ?_ ?_)
      | (with_reducible refine LeO.bind ?_ (fun _ => ?_))
      | exact ih0 _ _ _ _ _
      | exact regimenref01_Tell.mono _ _
      | exact LeO.none _
      | refine LeO.ite ?_ ?_
      | refine LeO.bind ?_ (fun _ => ?_)
def regimenref45_Word.f (a0 : Int) : Option (ByteArray) := if a0 < 0 then (some (⟨#[63]⟩ : ByteArray)) else (if a0 > 3 then (some (⟨#[63]⟩ : ByteArray)) else ((some (([(⟨#[103, 111, 101, 115]⟩ : ByteArray), (⟨#[100, 111, 110, 101]⟩ : ByteArray), (⟨#[115, 116, 111, 112, 112, 101, 100]⟩ : ByteArray), (⟨#[102, 97, 105, 108, 101, 100]⟩ : ByteArray)] : List ByteArray) : List ByteArray)).bind fun y303 => (if 0 ≤ a0 then (if a0 < (y303.length : Int) then (some (rdOf ByteArray.empty y303 a0)) else (none)) else (none))))
mutual
def regimenref02_Times.l0 : Nat → List Int → List Int → List Int → Int → Option (List Int)
  | 0, _, _, _, _ => none
  | k + 1, x0, x1, x5, x6 => if x6 < (x0.length : Int) then (regimenref02_Times.l1 k x0 x1 x5 x6 0 0) else (some x5)
def regimenref02_Times.l1 : Nat → List Int → List Int → List Int → Int → Int → Int → Option (List Int)
  | 0, _, _, _, _, _, _ => none
  | k + 1, x0, x1, x5, x6, x7, x8 => if x8 < (x1.length : Int) then (if 0 ≤ (wrap64 (x6 + x8)) then (if (wrap64 (x6 + x8)) < (x5.length : Int) then (if 0 ≤ x6 then (if x6 < (x0.length : Int) then (if 0 ≤ x8 then (regimenref02_Times.l1 k x0 x1 (x5.set ((wrap64 (x6 + x8)) : Int).toNat (Int.tmod (IntKind.u64.wrap ((IntKind.u64.wrap ((rd x5 (wrap64 (x6 + x8))) + (IntKind.u64.wrap ((rd x0 x6) * (rd x1 x8))))) + x7)) 65536)) x6 (IntKind.u64.wrap (Int.tdiv (IntKind.u64.wrap ((IntKind.u64.wrap ((rd x5 (wrap64 (x6 + x8))) + (IntKind.u64.wrap ((rd x0 x6) * (rd x1 x8))))) + x7)) 65536)) (wrap64 (x8 + 1))) else (none)) else (none)) else (none)) else (none)) else (none)) else (if 0 ≤ (wrap64 (x6 + (x1.length : Int))) then (if (wrap64 (x6 + (x1.length : Int))) < (x5.length : Int) then (regimenref02_Times.l0 k x0 x1 (x5.set ((wrap64 (x6 + (x1.length : Int))) : Int).toNat (IntKind.u64.wrap ((rd x5 (wrap64 (x6 + (x1.length : Int)))) + x7))) (wrap64 (x6 + 1))) else (none)) else (none))
end
def regimenref02_Times.f (k : Nat) (l0 : List Int) (l1 : List Int) : Option (List Int) := if 0 ≤ (wrap64 ((l0.length : Int) + (l1.length : Int))) then (if (wrap64 ((l0.length : Int) + (l1.length : Int)) : Int).toNat ≤ 35184372088832 then (regimenref02_Times.l0 k l0 l1 (List.replicate (wrap64 ((l0.length : Int) + (l1.length : Int)) : Int).toNat 0) 0) else (none)) else (none)
theorem regimenref02_Times.mono_l : ∀ k, (∀ y0 y1 y2 y3, LeO (regimenref02_Times.l0 k y0 y1 y2 y3) (regimenref02_Times.l0 (k + 1) y0 y1 y2 y3)) ∧ (∀ y0 y1 y2 y3 y4 y5, LeO (regimenref02_Times.l1 k y0 y1 y2 y3 y4 y5) (regimenref02_Times.l1 (k + 1) y0 y1 y2 y3 y4 y5))
  | 0 => ⟨fun _ _ _ _ r h => by simp [regimenref02_Times.l0] at h, fun _ _ _ _ _ _ r h => by simp [regimenref02_Times.l1] at h⟩
  | k + 1 => by
    obtain ⟨ih0, ih1⟩ := regimenref02_Times.mono_l k
    refine ⟨?_, ?_⟩
    · intro y0 y1 y2 y3
      unfold regimenref02_Times.l0
      repeat' first
      | (with_reducible exact ih0 _ _ _ _)
      | (with_reducible exact ih1 _ _ _ _ _ _)
      | (with_reducible exact LeO.refl _)
      | (with_reducible exact LeO.none _)
      | (with_reducible refine LeO.ite ?_ ?_)
      | (with_reducible refine LeO.bind ?_ (fun _ => ?_))
      | exact ih0 _ _ _ _
      | exact ih1 _ _ _ _ _ _
      | exact LeO.none _
      | refine LeO.ite ?_ ?_
      | refine LeO.bind ?_ (fun _ => ?_)
    · intro y0 y1 y2 y3 y4 y5
      unfold regimenref02_Times.l1
      repeat' first
      | (with_reducible exact ih0 _ _ _ _)
      | (with_reducible exact ih1 _ _ _ _ _ _)
      | (with_reducible exact LeO.refl _)
      | (with_reducible exact LeO.none _)
      | (with_reducible refine LeO.ite ?_ ?_)
      | (with_reducible refine LeO.bind ?_ (fun _ => ?_))
      | exact ih0 _ _ _ _
      | exact ih1 _ _ _ _ _ _
      | exact LeO.none _
      | refine LeO.ite ?_ ?_
      | refine LeO.bind ?_ (fun _ => ?_)
theorem regimenref02_Times.mono : ∀ a0 a1 k, LeO (regimenref02_Times.f k a0 a1) (regimenref02_Times.f (k + 1) a0 a1) := by
  intro a0 a1 k
  obtain ⟨ih0, ih1⟩ := regimenref02_Times.mono_l k
  unfold regimenref02_Times.f
  repeat' first
      | (with_reducible exact ih0 _ _ _ _)
      | (with_reducible exact ih1 _ _ _ _ _ _)
      | (with_reducible exact LeO.refl _)
      | (with_reducible exact LeO.none _)
      | (with_reducible refine LeO.ite ?_ ?_)
      | (with_reducible refine LeO.bind ?_ (fun _ => ?_))
      | exact ih0 _ _ _ _
      | exact ih1 _ _ _ _ _ _
      | exact LeO.none _
      | refine LeO.ite ?_ ?_
      | refine LeO.bind ?_ (fun _ => ?_)
def regimenref02_digit.f (l0 : List Int) (a1 : Int) : Option (Int) := if a1 < (l0.length : Int) then (if 0 ≤ a1 then (some (rd l0 a1)) else (none)) else (some 0)
mutual
def regimenref02_Cmp.j0 : Nat → List Int → List Int → Int → Option (Int)
  | 0, _, _, _ => none
  | k + 1, x0, x1, x5 => regimenref02_Cmp.l0 k x0 x1 (wrap64 (x5 - 1))
def regimenref02_Cmp.l0 : Nat → List Int → List Int → Int → Option (Int)
  | 0, _, _, _ => none
  | k + 1, x0, x1, x6 => if x6 ≥ 0 then ((regimenref02_digit.f x0 x6).bind fun t317 => ((regimenref02_digit.f x1 x6).bind fun t318 => (if t317 < t318 then (some (-1)) else ((regimenref02_digit.f x0 x6).bind fun t319 => ((regimenref02_digit.f x1 x6).bind fun t320 => (if t319 > t320 then (some 1) else (regimenref02_Cmp.l0 k x0 x1 (wrap64 (x6 - 1))))))))) else (some 0)
end
def regimenref02_Cmp.f (k : Nat) (l0 : List Int) (l1 : List Int) : Option (Int) := if (l1.length : Int) > (l0.length : Int) then (regimenref02_Cmp.j0 k l0 l1 (l1.length : Int)) else (regimenref02_Cmp.j0 k l0 l1 (l0.length : Int))
theorem regimenref02_Cmp.mono_l : ∀ k, (∀ y0 y1 y2, LeO (regimenref02_Cmp.j0 k y0 y1 y2) (regimenref02_Cmp.j0 (k + 1) y0 y1 y2)) ∧ (∀ y0 y1 y2, LeO (regimenref02_Cmp.l0 k y0 y1 y2) (regimenref02_Cmp.l0 (k + 1) y0 y1 y2))
  | 0 => ⟨fun _ _ _ r h => by simp [regimenref02_Cmp.j0] at h, fun _ _ _ r h => by simp [regimenref02_Cmp.l0] at h⟩
  | k + 1 => by
    obtain ⟨ih0, ih1⟩ := regimenref02_Cmp.mono_l k
    refine ⟨?_, ?_⟩
    · intro y0 y1 y2
      unfold regimenref02_Cmp.j0
      repeat' first
      | (with_reducible exact ih0 _ _ _)
      | (with_reducible exact ih1 _ _ _)
      | (with_reducible exact LeO.refl _)
      | (with_reducible exact LeO.none _)
      | (with_reducible refine LeO.ite ?_ ?_)
      | (with_reducible refine LeO.bind ?_ (fun _ => ?_))
      | exact ih0 _ _ _
      | exact ih1 _ _ _
      | exact LeO.none _
      | refine LeO.ite ?_ ?_
      | refine LeO.bind ?_ (fun _ => ?_)
    · intro y0 y1 y2
      unfold regimenref02_Cmp.l0
      repeat' first
      | (with_reducible exact ih0 _ _ _)
      | (with_reducible exact ih1 _ _ _)
      | (with_reducible exact LeO.refl _)
      | (with_reducible exact LeO.none _)
      | (with_reducible refine LeO.ite ?_ ?_)
      | (with_reducible refine LeO.bind ?_ (fun _ => ?_))
      | exact ih0 _ _ _
      | exact ih1 _ _ _
      | exact LeO.none _
      | refine LeO.ite ?_ ?_
      | refine LeO.bind ?_ (fun _ => ?_)
theorem regimenref02_Cmp.mono : ∀ a0 a1 k, LeO (regimenref02_Cmp.f k a0 a1) (regimenref02_Cmp.f (k + 1) a0 a1) := by
  intro a0 a1 k
  obtain ⟨ih0, ih1⟩ := regimenref02_Cmp.mono_l k
  unfold regimenref02_Cmp.f
  repeat' first
      | (with_reducible exact ih0 _ _ _)
      | (with_reducible exact ih1 _ _ _)
      | (with_reducible exact LeO.refl _)
      | (with_reducible exact LeO.none _)
      | (with_reducible refine LeO.ite ?_ ?_)
      | (with_reducible refine LeO.bind ?_ (fun _ => ?_))
      | exact ih0 _ _ _
      | exact ih1 _ _ _
      | exact LeO.none _
      | refine LeO.ite ?_ ?_
      | refine LeO.bind ?_ (fun _ => ?_)
def regimenref02_Less.l0 : Nat → List Int → List Int → List Int → Int → Int → Option (List Int)
  | 0, _, _, _, _, _ => none
  | k + 1, x0, x1, x5, x6, x7 => if x7 < (x0.length : Int) then (if 0 ≤ x7 then ((regimenref02_digit.f x1 x7).bind fun t325 => (if x5.length < 17592186044416 then (regimenref02_Less.l0 k x0 x1 (x5 ++ [Int.tmod (IntKind.u64.wrap ((IntKind.u64.wrap ((IntKind.u64.wrap (65536 + (rd x0 x7))) - t325)) - x6)) 65536]) (IntKind.u64.wrap (1 - (IntKind.u64.wrap (Int.tdiv (IntKind.u64.wrap ((IntKind.u64.wrap ((IntKind.u64.wrap (65536 + (rd x0 x7))) - t325)) - x6)) 65536)))) (wrap64 (x7 + 1))) else (none))) else (none)) else (some x5)
def regimenref02_Less.f (k : Nat) (l0 : List Int) (l1 : List Int) : Option (List Int) := regimenref02_Less.l0 k l0 l1 (([] : List Int)) 0 0
theorem regimenref02_Less.mono_l : ∀ k, (∀ y0 y1 y2 y3 y4, LeO (regimenref02_Less.l0 k y0 y1 y2 y3 y4) (regimenref02_Less.l0 (k + 1) y0 y1 y2 y3 y4))
  | 0 => fun _ _ _ _ _ r h => by simp [regimenref02_Less.l0] at h
  | k + 1 => by
    have ih0 := regimenref02_Less.mono_l k
    · intro y0 y1 y2 y3 y4
      unfold regimenref02_Less.l0
      repeat' first
      | (with_reducible exact ih0 _ _ _ _ _)
      | (with_reducible exact LeO.refl _)
      | (with_reducible exact LeO.none _)
      | (with_reducible refine LeO.ite ?_ ?_)
      | (with_reducible refine LeO.bind ?_ (fun _ => ?_))
      | exact ih0 _ _ _ _ _
      | exact LeO.none _
      | refine LeO.ite ?_ ?_
      | refine LeO.bind ?_ (fun _ => ?_)
theorem regimenref02_Less.mono : ∀ a0 a1 k, LeO (regimenref02_Less.f k a0 a1) (regimenref02_Less.f (k + 1) a0 a1) := by
  intro a0 a1 k
  have ih0 := regimenref02_Less.mono_l k
  unfold regimenref02_Less.f
  repeat' first
      | (with_reducible exact ih0 _ _ _ _ _)
      | (with_reducible exact LeO.refl _)
      | (with_reducible exact LeO.none _)
      | (with_reducible refine LeO.ite ?_ ?_)
      | (with_reducible refine LeO.bind ?_ (fun _ => ?_))
      | exact ih0 _ _ _ _ _
      | exact LeO.none _
      | refine LeO.ite ?_ ?_
      | refine LeO.bind ?_ (fun _ => ?_)
mutual
def regimenref02_Plus.l0 : Nat → List Int → List Int → List Int → Int → Int → Option (List Int)
  | 0, _, _, _, _, _ => none
  | k + 1, x0, x1, x5, x6, x7 => if x7 < (x0.length : Int) then (regimenref02_Plus.j1 k x0 x1 x5 x6 x7 true) else (if x7 < (x1.length : Int) then (regimenref02_Plus.j1 k x0 x1 x5 x6 x7 true) else (regimenref02_Plus.j1 k x0 x1 x5 x6 x7 (decide (x6 > 0))))
def regimenref02_Plus.j1 : Nat → List Int → List Int → List Int → Int → Int → Bool → Option (List Int)
  | 0, _, _, _, _, _, _ => none
  | k + 1, x0, x1, x5, x6, x7, x23 => if x23 = true then ((regimenref02_digit.f x0 x7).bind fun t332 => ((regimenref02_digit.f x1 x7).bind fun t333 => (if x5.length < 17592186044416 then (regimenref02_Plus.l0 k x0 x1 (x5 ++ [Int.tmod (IntKind.u64.wrap ((IntKind.u64.wrap (t332 + t333)) + x6)) 65536]) (IntKind.u64.wrap (Int.tdiv (IntKind.u64.wrap ((IntKind.u64.wrap (t332 + t333)) + x6)) 65536)) (wrap64 (x7 + 1))) else (none)))) else (some x5)
end
def regimenref02_Plus.f (k : Nat) (l0 : List Int) (l1 : List Int) : Option (List Int) := regimenref02_Plus.l0 k l0 l1 (([] : List Int)) 0 0
theorem regimenref02_Plus.mono_l : ∀ k, (∀ y0 y1 y2 y3 y4, LeO (regimenref02_Plus.l0 k y0 y1 y2 y3 y4) (regimenref02_Plus.l0 (k + 1) y0 y1 y2 y3 y4)) ∧ (∀ y0 y1 y2 y3 y4 y5, LeO (regimenref02_Plus.j1 k y0 y1 y2 y3 y4 y5) (regimenref02_Plus.j1 (k + 1) y0 y1 y2 y3 y4 y5))
  | 0 => ⟨fun _ _ _ _ _ r h => by simp [regimenref02_Plus.l0] at h, fun _ _ _ _ _ _ r h => by simp [regimenref02_Plus.j1] at h⟩
  | k + 1 => by
    obtain ⟨ih0, ih1⟩ := regimenref02_Plus.mono_l k
    refine ⟨?_, ?_⟩
    · intro y0 y1 y2 y3 y4
      unfold regimenref02_Plus.l0
      repeat' first
      | (with_reducible exact ih0 _ _ _ _ _)
      | (with_reducible exact ih1 _ _ _ _ _ _)
      | (with_reducible exact LeO.refl _)
      | (with_reducible exact LeO.none _)
      | (with_reducible refine LeO.ite ?_ ?_)
      | (with_reducible refine LeO.bind ?_ (fun _ => ?_))
      | exact ih0 _ _ _ _ _
      | exact ih1 _ _ _ _ _ _
      | exact LeO.none _
      | refine LeO.ite ?_ ?_
      | refine LeO.bind ?_ (fun _ => ?_)
    · intro y0 y1 y2 y3 y4 y5
      unfold regimenref02_Plus.j1
      repeat' first
      | (with_reducible exact ih0 _ _ _ _ _)
      | (with_reducible exact ih1 _ _ _ _ _ _)
      | (with_reducible exact LeO.refl _)
      | (with_reducible exact LeO.none _)
      | (with_reducible refine LeO.ite ?_ ?_)
      | (with_reducible refine LeO.bind ?_ (fun _ => ?_))
      | exact ih0 _ _ _ _ _
      | exact ih1 _ _ _ _ _ _
      | exact LeO.none _
      | refine LeO.ite ?_ ?_
      | refine LeO.bind ?_ (fun _ => ?_)
theorem regimenref02_Plus.mono : ∀ a0 a1 k, LeO (regimenref02_Plus.f k a0 a1) (regimenref02_Plus.f (k + 1) a0 a1) := by
  intro a0 a1 k
  obtain ⟨ih0, ih1⟩ := regimenref02_Plus.mono_l k
  unfold regimenref02_Plus.f
  repeat' first
      | (with_reducible exact ih0 _ _ _ _ _)
      | (with_reducible exact ih1 _ _ _ _ _ _)
      | (with_reducible exact LeO.refl _)
      | (with_reducible exact LeO.none _)
      | (with_reducible refine LeO.ite ?_ ?_)
      | (with_reducible refine LeO.bind ?_ (fun _ => ?_))
      | exact ih0 _ _ _ _ _
      | exact ih1 _ _ _ _ _ _
      | exact LeO.none _
      | refine LeO.ite ?_ ?_
      | refine LeO.bind ?_ (fun _ => ?_)
mutual
def regimenref03_Quotient.l0 : Nat → List Int → List Int → List Int → List Int → Int → Option (List Int)
  | 0, _, _, _, _, _ => none
  | k + 1, x0, x1, x5, x6, x7 => if x7 ≥ 0 then (regimenref03_Quotient.l1 k x0 x1 x5 x6 x7 0) else (some x5)
def regimenref03_Quotient.l1 : Nat → List Int → List Int → List Int → List Int → Int → Int → Option (List Int)
  | 0, _, _, _, _, _, _ => none
  | k + 1, x0, x1, x5, x6, x7, x8 => if x8 < 16 then (if 0 ≤ x7 then (if x7 < (x0.length : Int) then (regimenref03_Quotient.l2 k x0 x1 x5 x6 x7 x8 (rd x0 x7) x8) else (none)) else (none)) else (regimenref03_Quotient.l0 k x0 x1 x5 x6 (wrap64 (x7 - 1)))
def regimenref03_Quotient.l2 : Nat → List Int → List Int → List Int → List Int → Int → Int → Int → Int → Option (List Int)
  | 0, _, _, _, _, _, _, _, _ => none
  | k + 1, x0, x1, x5, x6, x7, x8, x9, x10 => if x10 < 15 then (regimenref03_Quotient.l2 k x0 x1 x5 x6 x7 x8 (IntKind.u64.wrap (Int.tdiv x9 2)) (wrap64 (x10 + 1))) else ((regimenref02_Plus.f k x6 x6).bind fun t344 => ((regimenref02_Plus.f k t344 (([Int.tmod x9 2] : List Int))).bind fun t350 => ((regimenref02_Plus.f k x5 x5).bind fun t353 => ((regimenref02_Cmp.f k t350 x1).bind fun t356 => (if t356 ≥ 0 then ((regimenref02_Less.f k t350 x1).bind fun t357 => ((regimenref02_Plus.f k t353 (([1] : List Int))).bind fun t363 => (regimenref03_Quotient.l1 k x0 x1 t363 t357 x7 (wrap64 (x8 + 1))))) else (regimenref03_Quotient.l1 k x0 x1 t353 t350 x7 (wrap64 (x8 + 1))))))))
end
def regimenref03_Quotient.f (k : Nat) (l0 : List Int) (l1 : List Int) : Option (List Int) := regimenref03_Quotient.l0 k l0 l1 (([] : List Int)) (([] : List Int)) (wrap64 ((l0.length : Int) - 1))
theorem regimenref03_Quotient.mono_l : ∀ k, (∀ y0 y1 y2 y3 y4, LeO (regimenref03_Quotient.l0 k y0 y1 y2 y3 y4) (regimenref03_Quotient.l0 (k + 1) y0 y1 y2 y3 y4)) ∧ (∀ y0 y1 y2 y3 y4 y5, LeO (regimenref03_Quotient.l1 k y0 y1 y2 y3 y4 y5) (regimenref03_Quotient.l1 (k + 1) y0 y1 y2 y3 y4 y5)) ∧ (∀ y0 y1 y2 y3 y4 y5 y6 y7, LeO (regimenref03_Quotient.l2 k y0 y1 y2 y3 y4 y5 y6 y7) (regimenref03_Quotient.l2 (k + 1) y0 y1 y2 y3 y4 y5 y6 y7))
  | 0 => ⟨fun _ _ _ _ _ r h => by simp [regimenref03_Quotient.l0] at h, fun _ _ _ _ _ _ r h => by simp [regimenref03_Quotient.l1] at h, fun _ _ _ _ _ _ _ _ r h => by simp [regimenref03_Quotient.l2] at h⟩
  | k + 1 => by
    obtain ⟨ih0, ih1, ih2⟩ := regimenref03_Quotient.mono_l k
    refine ⟨?_, ?_, ?_⟩
    · intro y0 y1 y2 y3 y4
      unfold regimenref03_Quotient.l0
      repeat' first
      | (with_reducible exact ih0 _ _ _ _ _)
      | (with_reducible exact ih1 _ _ _ _ _ _)
      | (with_reducible exact ih2 _ _ _ _ _ _ _ _)
      | (with_reducible exact regimenref02_Cmp.mono _ _ _)
      | (with_reducible exact regimenref02_Less.mono _ _ _)
      | (with_reducible exact regimenref02_Plus.mono _ _ _)
      | (with_reducible exact LeO.refl _)
      | (with_reducible exact LeO.none _)
      | (with_reducible refine LeO.ite ?_ ?_)
      | (with_reducible refine LeO.bind ?_ (fun _ => ?_))
      | exact ih0 _ _ _ _ _
      | exact ih1 _ _ _ _ _ _
      | exact ih2 _ _ _ _ _ _ _ _
      | exact regimenref02_Cmp.mono _ _ _
      | exact regimenref02_Less.mono _ _ _
      | exact regimenref02_Plus.mono _ _ _
      | exact LeO.none _
      | refine LeO.ite ?_ ?_
      | refine LeO.bind ?_ (fun _ => ?_)
    · intro y0 y1 y2 y3 y4 y5
      unfold regimenref03_Quotient.l1
      repeat' first
      | (with_reducible exact ih0 _ _ _ _ _)
      | (with_reducible exact ih1 _ _ _ _ _ _)
      | (with_reducible exact ih2 _ _ _ _ _ _ _ _)
      | (with_reducible exact regimenref02_Cmp.mono _ _ _)
      | (with_reducible exact regimenref02_Less.mono _ _ _)
      | (with_reducible exact regimenref02_Plus.mono _ _ _)
      | (with_reducible exact LeO.refl _)
      | (with_reducible exact LeO.none _)
      | (with_reducible refine LeO.ite ?_ ?_)
      | (with_reducible refine LeO.bind ?_ (fun _ => ?_))
      | exact ih0 _ _ _ _ _
      | exact ih1 _ _ _ _ _ _
      | exact ih2 _ _ _ _ _ _ _ _
      | exact regimenref02_Cmp.mono _ _ _
      | exact regimenref02_Less.mono _ _ _
      | exact regimenref02_Plus.mono _ _ _
      | exact LeO.none _
      | refine LeO.ite ?_ ?_
      | refine LeO.bind ?_ (fun _ => ?_)
    · intro y0 y1 y2 y3 y4 y5 y6 y7
      unfold regimenref03_Quotient.l2
      repeat' first
      | (with_reducible exact ih0 _ _ _ _ _)
      | (with_reducible exact ih1 _ _ _ _ _ _)
      | (with_reducible exact ih2 _ _ _ _ _ _ _ _)
      | (with_reducible exact regimenref02_Cmp.mono _ _ _)
      | (with_reducible exact regimenref02_Less.mono _ _ _)
      | (with_reducible exact regimenref02_Plus.mono _ _ _)
      | (with_reducible exact LeO.refl _)
      | (with_reducible exact LeO.none _)
      | (with_reducible refine LeO.ite ?_ ?_)
      | (with_reducible refine LeO.bind ?_ (fun _ => ?_))
      | exact ih0 _ _ _ _ _
      | exact ih1 _ _ _ _ _ _
      | exact ih2 _ _ _ _ _ _ _ _
      | exact regimenref02_Cmp.mono _ _ _
      | exact regimenref02_Less.mono _ _ _
      | exact regimenref02_Plus.mono _ _ _
      | exact LeO.none _
      | refine LeO.ite ?_ ?_
      | refine LeO.bind ?_ (fun _ => ?_)
theorem regimenref03_Quotient.mono : ∀ a0 a1 k, LeO (regimenref03_Quotient.f k a0 a1) (regimenref03_Quotient.f (k + 1) a0 a1) := by
  intro a0 a1 k
  obtain ⟨ih0, ih1, ih2⟩ := regimenref03_Quotient.mono_l k
  unfold regimenref03_Quotient.f
  repeat' first
      | (with_reducible exact ih0 _ _ _ _ _)
      | (with_reducible exact ih1 _ _ _ _ _ _)
      | (with_reducible exact ih2 _ _ _ _ _ _ _ _)
      | (with_reducible exact regimenref02_Cmp.mono _ _ _)
      | (with_reducible exact regimenref02_Less.mono _ _ _)
      | (with_reducible exact regimenref02_Plus.mono _ _ _)
      | (with_reducible exact LeO.refl _)
      | (with_reducible exact LeO.none _)
      | (with_reducible refine LeO.ite ?_ ?_)
      | (with_reducible refine LeO.bind ?_ (fun _ => ?_))
      | exact ih0 _ _ _ _ _
      | exact ih1 _ _ _ _ _ _
      | exact ih2 _ _ _ _ _ _ _ _
      | exact regimenref02_Cmp.mono _ _ _
      | exact regimenref02_Less.mono _ _ _
      | exact regimenref02_Plus.mono _ _ _
      | exact LeO.none _
      | refine LeO.ite ?_ ?_
      | refine LeO.bind ?_ (fun _ => ?_)
def regimenref03_Odd.f (l0 : List Int) : Option (Bool) := if (l0.length : Int) > 0 then (if 0 < (l0.length : Int) then (some ((Int.tmod (rd l0 0) 2) == 1)) else (none)) else (some false)
def regimenref03_Rounded.f (k : Nat) (l0 : List Int) (l1 : List Int) : Option (List Int) := (regimenref03_Quotient.f k l0 l1).bind fun t367 => ((some (([] : List Int) : List Int)).bind fun y370 => (if y370.length + l0.length < 17592186044416 then ((some (y370 ++ l0 : List Int)).bind fun y373 => (if y373.length < 17592186044416 then ((regimenref02_Times.f k t367 l1).bind fun t379 => ((regimenref02_Less.f k (y373 ++ [0]) t379).bind fun t382 => ((regimenref02_Plus.f k t382 t382).bind fun t385 => ((regimenref02_Cmp.f k t385 l1).bind fun t388 => (if t388 > 0 then ((regimenref02_Plus.f k t367 (([1] : List Int))).bind fun t392 => (some t392)) else (if t388 = 0 then ((regimenref03_Odd.f t367).bind fun t395 => (if t395 = true then ((regimenref02_Plus.f k t367 (([1] : List Int))).bind fun t399 => (some t399)) else (some t367))) else (some t367))))))) else (none))) else (none)))
theorem regimenref03_Rounded.mono : ∀ a0 a1 k, LeO (regimenref03_Rounded.f k a0 a1) (regimenref03_Rounded.f (k + 1) a0 a1) := by
  intro a0 a1 k
  unfold regimenref03_Rounded.f
  repeat' first
      | (with_reducible exact regimenref02_Cmp.mono _ _ _)
      | (with_reducible exact regimenref02_Less.mono _ _ _)
      | (with_reducible exact regimenref02_Plus.mono _ _ _)
      | (with_reducible exact regimenref02_Times.mono _ _ _)
      | (with_reducible exact regimenref03_Quotient.mono _ _ _)
      | (with_reducible exact LeO.refl _)
      | (with_reducible exact LeO.none _)
      | (with_reducible refine LeO.ite ?_ ?_)
      | (with_reducible refine LeO.bind ?_ (fun _ => ?_))
      | exact regimenref02_Cmp.mono _ _ _
      | exact regimenref02_Less.mono _ _ _
      | exact regimenref02_Plus.mono _ _ _
      | exact regimenref02_Times.mono _ _ _
      | exact regimenref03_Quotient.mono _ _ _
      | exact LeO.none _
      | refine LeO.ite ?_ ?_
      | refine LeO.bind ?_ (fun _ => ?_)
def regimenref02_Word.f (a0 : Int) : Option (List Int) := some (([Int.tmod a0 65536, Int.tmod (IntKind.u64.wrap (Int.tdiv a0 65536)) 65536, Int.tmod (IntKind.u64.wrap (Int.tdiv a0 4294967296)) 65536, IntKind.u64.wrap (Int.tdiv a0 281474976710656)] : List Int))
def regimenref02_Size.f (a0 : Int) : Option (List Int) := if a0 < 0 then ((regimenref02_Word.f (IntKind.u64.wrap (-(IntKind.u64.wrap (a0))))).bind fun t405 => (some t405)) else ((regimenref02_Word.f (IntKind.u64.wrap (a0))).bind fun t408 => (some t408))
def regimenref05_Tens.l0 : Nat → Int → List Int → Int → Option (List Int)
  | 0, _, _, _ => none
  | k + 1, x0, x3, x4 => if x4 < x0 then ((regimenref02_Times.f k x3 (([10] : List Int))).bind fun t417 => (regimenref05_Tens.l0 k x0 t417 (wrap64 (x4 + 1)))) else (some x3)
def regimenref05_Tens.f (k : Nat) (a0 : Int) : Option (List Int) := regimenref05_Tens.l0 k a0 (([1] : List Int)) 0
theorem regimenref05_Tens.mono_l : ∀ k, (∀ y0 y1 y2, LeO (regimenref05_Tens.l0 k y0 y1 y2) (regimenref05_Tens.l0 (k + 1) y0 y1 y2))
  | 0 => fun _ _ _ r h => by simp [regimenref05_Tens.l0] at h
  | k + 1 => by
    have ih0 := regimenref05_Tens.mono_l k
    · intro y0 y1 y2
      unfold regimenref05_Tens.l0
      repeat' first
      | (with_reducible exact ih0 _ _ _)
      | (with_reducible exact regimenref02_Times.mono _ _ _)
      | (with_reducible exact LeO.refl _)
      | (with_reducible exact LeO.none _)
      | (with_reducible refine LeO.ite ?_ ?_)
      | (with_reducible refine LeO.bind ?_ (fun _ => ?_))
      | exact ih0 _ _ _
      | exact regimenref02_Times.mono _ _ _
      | exact LeO.none _
      | refine LeO.ite ?_ ?_
      | refine LeO.bind ?_ (fun _ => ?_)
theorem regimenref05_Tens.mono : ∀ a0 k, LeO (regimenref05_Tens.f k a0) (regimenref05_Tens.f (k + 1) a0) := by
  intro a0 k
  have ih0 := regimenref05_Tens.mono_l k
  unfold regimenref05_Tens.f
  repeat' first
      | (with_reducible exact ih0 _ _ _)
      | (with_reducible exact regimenref02_Times.mono _ _ _)
      | (with_reducible exact LeO.refl _)
      | (with_reducible exact LeO.none _)
      | (with_reducible refine LeO.ite ?_ ?_)
      | (with_reducible refine LeO.bind ?_ (fun _ => ?_))
      | exact ih0 _ _ _
      | exact regimenref02_Times.mono _ _ _
      | exact LeO.none _
      | refine LeO.ite ?_ ?_
      | refine LeO.bind ?_ (fun _ => ?_)
def regimenref02_Twos.l0 : Nat → Int → List Int → Int → Option (List Int)
  | 0, _, _, _ => none
  | k + 1, x0, x3, x4 => if x4 < x0 then ((regimenref02_Plus.f k x3 x3).bind fun t423 => (regimenref02_Twos.l0 k x0 t423 (wrap64 (x4 + 1)))) else (some x3)
def regimenref02_Twos.f (k : Nat) (a0 : Int) : Option (List Int) := regimenref02_Twos.l0 k a0 (([1] : List Int)) 0
theorem regimenref02_Twos.mono_l : ∀ k, (∀ y0 y1 y2, LeO (regimenref02_Twos.l0 k y0 y1 y2) (regimenref02_Twos.l0 (k + 1) y0 y1 y2))
  | 0 => fun _ _ _ r h => by simp [regimenref02_Twos.l0] at h
  | k + 1 => by
    have ih0 := regimenref02_Twos.mono_l k
    · intro y0 y1 y2
      unfold regimenref02_Twos.l0
      repeat' first
      | (with_reducible exact ih0 _ _ _)
      | (with_reducible exact regimenref02_Plus.mono _ _ _)
      | (with_reducible exact LeO.refl _)
      | (with_reducible exact LeO.none _)
      | (with_reducible refine LeO.ite ?_ ?_)
      | (with_reducible refine LeO.bind ?_ (fun _ => ?_))
      | exact ih0 _ _ _
      | exact regimenref02_Plus.mono _ _ _
      | exact LeO.none _
      | refine LeO.ite ?_ ?_
      | refine LeO.bind ?_ (fun _ => ?_)
theorem regimenref02_Twos.mono : ∀ a0 k, LeO (regimenref02_Twos.f k a0) (regimenref02_Twos.f (k + 1) a0) := by
  intro a0 k
  have ih0 := regimenref02_Twos.mono_l k
  unfold regimenref02_Twos.f
  repeat' first
      | (with_reducible exact ih0 _ _ _)
      | (with_reducible exact regimenref02_Plus.mono _ _ _)
      | (with_reducible exact LeO.refl _)
      | (with_reducible exact LeO.none _)
      | (with_reducible refine LeO.ite ?_ ?_)
      | (with_reducible refine LeO.bind ?_ (fun _ => ?_))
      | exact ih0 _ _ _
      | exact regimenref02_Plus.mono _ _ _
      | exact LeO.none _
      | refine LeO.ite ?_ ?_
      | refine LeO.bind ?_ (fun _ => ?_)
def regimenref05_Read.f (k : Nat) (l0 : List Int) (a1 : Int) : Option (List Int) := (regimenref02_Twos.f k 32).bind fun t426 => ((regimenref02_Times.f k l0 t426).bind fun t429 => ((regimenref05_Tens.f k a1).bind fun t432 => ((regimenref03_Rounded.f k t429 t432).bind fun t435 => (some t435))))
theorem regimenref05_Read.mono : ∀ a0 a1 k, LeO (regimenref05_Read.f k a0 a1) (regimenref05_Read.f (k + 1) a0 a1) := by
  intro a0 a1 k
  unfold regimenref05_Read.f
  repeat' first
      | (with_reducible exact regimenref02_Times.mono _ _ _)
      | (with_reducible exact regimenref02_Twos.mono _ _)
      | (with_reducible exact regimenref03_Rounded.mono _ _ _)
      | (with_reducible exact regimenref05_Tens.mono _ _)
      | (with_reducible exact LeO.refl _)
      | (with_reducible exact LeO.none _)
      | (with_reducible refine LeO.ite ?_ ?_)
      | (with_reducible refine LeO.bind ?_ (fun _ => ?_))
      | exact regimenref02_Times.mono _ _ _
      | exact regimenref02_Twos.mono _ _
      | exact regimenref03_Rounded.mono _ _ _
      | exact regimenref05_Tens.mono _ _
      | exact LeO.none _
      | refine LeO.ite ?_ ?_
      | refine LeO.bind ?_ (fun _ => ?_)
mutual
def regimenref05_Text.l0 : Nat → List Int → ByteArray → ByteArray → Option (ByteArray)
  | 0, _, _, _ => none
  | k + 1, x0, x3, x4 => if (x4.size : Int) = 0 then (regimenref05_Text.j1 k x0 x3 x4 true) else ((regimenref02_Cmp.f k x0 ([] : List Int)).bind fun t438 => (regimenref05_Text.j1 k x0 x3 x4 (decide (t438 > 0))))
def regimenref05_Text.j1 : Nat → List Int → ByteArray → ByteArray → Bool → Option (ByteArray)
  | 0, _, _, _, _ => none
  | k + 1, x0, x3, x4, x14 => if x14 = true then ((regimenref03_Quotient.f k x0 (([10] : List Int))).bind fun t442 => ((some (([] : List Int) : List Int)).bind fun y445 => (if y445.length + x0.length < 17592186044416 then ((some (y445 ++ x0 : List Int)).bind fun y448 => (if y448.length < 17592186044416 then ((regimenref02_Times.f k t442 (([10] : List Int))).bind fun t457 => ((regimenref02_Less.f k (y448 ++ [0]) t457).bind fun t460 => (if 0 < (t460.length : Int) then (if 0 ≤ (rd t460 0) then (if (rd t460 0) ≤ (IntKind.u64.wrap ((rd t460 0) + 1)) then (if (IntKind.u64.wrap ((rd t460 0) + 1)) ≤ (x3.size : Int) then (if (x3.extract ((rd t460 0) : Int).toNat ((IntKind.u64.wrap ((rd t460 0) + 1)) : Int).toNat).size + x4.size ≤ 9223372036854775807 then (regimenref05_Text.l0 k t442 x3 ((x3.extract ((rd t460 0) : Int).toNat ((IntKind.u64.wrap ((rd t460 0) + 1)) : Int).toNat) ++ x4)) else (none)) else (none)) else (none)) else (none)) else (none)))) else (none))) else (none)))) else (some x4)
end
def regimenref05_Text.f (k : Nat) (l0 : List Int) : Option (ByteArray) := regimenref05_Text.l0 k l0 (⟨#[48, 49, 50, 51, 52, 53, 54, 55, 56, 57]⟩ : ByteArray) (⟨#[]⟩ : ByteArray)
theorem regimenref05_Text.mono_l : ∀ k, (∀ y0 y1 y2, LeO (regimenref05_Text.l0 k y0 y1 y2) (regimenref05_Text.l0 (k + 1) y0 y1 y2)) ∧ (∀ y0 y1 y2 y3, LeO (regimenref05_Text.j1 k y0 y1 y2 y3) (regimenref05_Text.j1 (k + 1) y0 y1 y2 y3))
  | 0 => ⟨fun _ _ _ r h => by simp [regimenref05_Text.l0] at h, fun _ _ _ _ r h => by simp [regimenref05_Text.j1] at h⟩
  | k + 1 => by
    obtain ⟨ih0, ih1⟩ := regimenref05_Text.mono_l k
    refine ⟨?_, ?_⟩
    · intro y0 y1 y2
      unfold regimenref05_Text.l0
      repeat' first
      | (with_reducible exact ih0 _ _ _)
      | (with_reducible exact ih1 _ _ _ _)
      | (with_reducible exact regimenref02_Cmp.mono _ _ _)
      | (with_reducible exact regimenref02_Less.mono _ _ _)
      | (with_reducible exact regimenref02_Times.mono _ _ _)
      | (with_reducible exact regimenref03_Quotient.mono _ _ _)
      | (with_reducible exact LeO.refl _)
      | (with_reducible exact LeO.none _)
      | (with_reducible refine LeO.ite ?_ ?_)
      | (with_reducible refine LeO.bind ?_ (fun _ => ?_))
      | exact ih0 _ _ _
      | exact ih1 _ _ _ _
      | exact regimenref02_Cmp.mono _ _ _
      | exact regimenref02_Less.mono _ _ _
      | exact regimenref02_Times.mono _ _ _
      | exact regimenref03_Quotient.mono _ _ _
      | exact LeO.none _
      | refine LeO.ite ?_ ?_
      | refine LeO.bind ?_ (fun _ => ?_)
    · intro y0 y1 y2 y3
      unfold regimenref05_Text.j1
      repeat' first
      | (with_reducible exact ih0 _ _ _)
      | (with_reducible exact ih1 _ _ _ _)
      | (with_reducible exact regimenref02_Cmp.mono _ _ _)
      | (with_reducible exact regimenref02_Less.mono _ _ _)
      | (with_reducible exact regimenref02_Times.mono _ _ _)
      | (with_reducible exact regimenref03_Quotient.mono _ _ _)
      | (with_reducible exact LeO.refl _)
      | (with_reducible exact LeO.none _)
      | (with_reducible refine LeO.ite ?_ ?_)
      | (with_reducible refine LeO.bind ?_ (fun _ => ?_))
      | exact ih0 _ _ _
      | exact ih1 _ _ _ _
      | exact regimenref02_Cmp.mono _ _ _
      | exact regimenref02_Less.mono _ _ _
      | exact regimenref02_Times.mono _ _ _
      | exact regimenref03_Quotient.mono _ _ _
      | exact LeO.none _
      | refine LeO.ite ?_ ?_
      | refine LeO.bind ?_ (fun _ => ?_)
theorem regimenref05_Text.mono : ∀ a0 k, LeO (regimenref05_Text.f k a0) (regimenref05_Text.f (k + 1) a0) := by
  intro a0 k
  obtain ⟨ih0, ih1⟩ := regimenref05_Text.mono_l k
  unfold regimenref05_Text.f
  repeat' first
      | (with_reducible exact ih0 _ _ _)
      | (with_reducible exact ih1 _ _ _ _)
      | (with_reducible exact regimenref02_Cmp.mono _ _ _)
      | (with_reducible exact regimenref02_Less.mono _ _ _)
      | (with_reducible exact regimenref02_Times.mono _ _ _)
      | (with_reducible exact regimenref03_Quotient.mono _ _ _)
      | (with_reducible exact LeO.refl _)
      | (with_reducible exact LeO.none _)
      | (with_reducible refine LeO.ite ?_ ?_)
      | (with_reducible refine LeO.bind ?_ (fun _ => ?_))
      | exact ih0 _ _ _
      | exact ih1 _ _ _ _
      | exact regimenref02_Cmp.mono _ _ _
      | exact regimenref02_Less.mono _ _ _
      | exact regimenref02_Times.mono _ _ _
      | exact regimenref03_Quotient.mono _ _ _
      | exact LeO.none _
      | refine LeO.ite ?_ ?_
      | refine LeO.bind ?_ (fun _ => ?_)
mutual
def regimenref05_Put.j0 : Nat → List Int → ByteArray → Option (ByteArray)
  | 0, _, _ => none
  | k + 1, x3, x4 => regimenref05_Put.l0 k x3 x4 0
def regimenref05_Put.l0 : Nat → List Int → ByteArray → Int → Option (ByteArray)
  | 0, _, _, _ => none
  | k + 1, x3, x4, x5 => if x5 ≤ 10 then ((regimenref05_Tens.f k x5).bind fun t468 => ((regimenref02_Times.f k x3 t468).bind fun t471 => ((regimenref02_Twos.f k 32).bind fun t474 => ((regimenref03_Rounded.f k t471 t474).bind fun t477 => ((regimenref05_Read.f k t477 x5).bind fun t480 => ((regimenref02_Cmp.f k t480 x3).bind fun t483 => (if t483 = 0 then ((regimenref05_Text.f k t477).bind fun t484 => (regimenref05_Put.l1 k x4 x5 t484)) else (regimenref05_Put.l0 k x3 x4 (wrap64 (x5 + 1)))))))))) else (some (⟨#[]⟩ : ByteArray))
def regimenref05_Put.l1 : Nat → ByteArray → Int → ByteArray → Option (ByteArray)
  | 0, _, _, _ => none
  | k + 1, x4, x5, x7 => if (x7.size : Int) ≤ x5 then (if 1 + x7.size ≤ 9223372036854775807 then (regimenref05_Put.l1 k x4 x5 ((⟨#[48]⟩ : ByteArray) ++ x7)) else (none)) else (if x5 = 0 then (if x4.size + x7.size ≤ 9223372036854775807 then (some (x4 ++ x7)) else (none)) else (if 0 ≤ (wrap64 ((x7.size : Int) - x5)) then (if (wrap64 ((x7.size : Int) - x5)) ≤ (x7.size : Int) then (if x4.size + (x7.extract 0 ((wrap64 ((x7.size : Int) - x5)) : Int).toNat).size ≤ 9223372036854775807 then (if (x4 ++ (x7.extract 0 ((wrap64 ((x7.size : Int) - x5)) : Int).toNat)).size + 1 ≤ 9223372036854775807 then (if ((x4 ++ (x7.extract 0 ((wrap64 ((x7.size : Int) - x5)) : Int).toNat)) ++ (⟨#[46]⟩ : ByteArray)).size + (x7.extract ((wrap64 ((x7.size : Int) - x5)) : Int).toNat x7.size).size ≤ 9223372036854775807 then (some (((x4 ++ (x7.extract 0 ((wrap64 ((x7.size : Int) - x5)) : Int).toNat)) ++ (⟨#[46]⟩ : ByteArray)) ++ (x7.extract ((wrap64 ((x7.size : Int) - x5)) : Int).toNat x7.size))) else (none)) else (none)) else (none)) else (none)) else (none)))
end
def regimenref05_Put.f (k : Nat) (a0 : Int) : Option (ByteArray) := (regimenref02_Size.f a0).bind fun t465 => (if a0 < 0 then (regimenref05_Put.j0 k t465 (⟨#[45]⟩ : ByteArray)) else (regimenref05_Put.j0 k t465 (⟨#[]⟩ : ByteArray)))
theorem regimenref05_Put.mono_l : ∀ k, (∀ y0 y1, LeO (regimenref05_Put.j0 k y0 y1) (regimenref05_Put.j0 (k + 1) y0 y1)) ∧ (∀ y0 y1 y2, LeO (regimenref05_Put.l0 k y0 y1 y2) (regimenref05_Put.l0 (k + 1) y0 y1 y2)) ∧ (∀ y0 y1 y2, LeO (regimenref05_Put.l1 k y0 y1 y2) (regimenref05_Put.l1 (k + 1) y0 y1 y2))
  | 0 => ⟨fun _ _ r h => by simp [regimenref05_Put.j0] at h, fun _ _ _ r h => by simp [regimenref05_Put.l0] at h, fun _ _ _ r h => by simp [regimenref05_Put.l1] at h⟩
  | k + 1 => by
    obtain ⟨ih0, ih1, ih2⟩ := regimenref05_Put.mono_l k
    refine ⟨?_, ?_, ?_⟩
    · intro y0 y1
      unfold regimenref05_Put.j0
      repeat' first
      | (with_reducible exact ih0 _ _)
      | (with_reducible exact ih1 _ _ _)
      | (with_reducible exact ih2 _ _ _)
      | (with_reducible exact regimenref02_Cmp.mono _ _ _)
      | (with_reducible exact regimenref02_Times.mono _ _ _)
      | (with_reducible exact regimenref02_Twos.mono _ _)
      | (with_reducible exact regimenref03_Rounded.mono _ _ _)
      | (with_reducible exact regimenref05_Read.mono _ _ _)
      | (with_reducible exact regimenref05_Tens.mono _ _)
      | (with_reducible exact regimenref05_Text.mono _ _)
      | (with_reducible exact LeO.refl _)
      | (with_reducible exact LeO.none _)
      | (with_reducible refine LeO.ite ?_ ?_)
      | (with_reducible refine LeO.bind ?_ (fun _ => ?_))
      | exact ih0 _ _
      | exact ih1 _ _ _
      | exact ih2 _ _ _
      | exact regimenref02_Cmp.mono _ _ _
      | exact regimenref02_Times.mono _ _ _
      | exact regimenref02_Twos.mono _ _
      | exact regimenref03_Rounded.mono _ _ _
      | exact regimenref05_Read.mono _ _ _
      | exact regimenref05_Tens.mono _ _
      | exact regimenref05_Text.mono _ _
      | exact LeO.none _
      | refine LeO.ite ?_ ?_
      | refine LeO.bind ?_ (fun _ => ?_)
    · intro y0 y1 y2
      unfold regimenref05_Put.l0
      repeat' first
      | (with_reducible exact ih0 _ _)
      | (with_reducible exact ih1 _ _ _)
      | (with_reducible exact ih2 _ _ _)
      | (with_reducible exact regimenref02_Cmp.mono _ _ _)
      | (with_reducible exact regimenref02_Times.mono _ _ _)
      | (with_reducible exact regimenref02_Twos.mono _ _)
      | (with_reducible exact regimenref03_Rounded.mono _ _ _)
      | (with_reducible exact regimenref05_Read.mono _ _ _)
      | (with_reducible exact regimenref05_Tens.mono _ _)
      | (with_reducible exact regimenref05_Text.mono _ _)
      | (with_reducible exact LeO.refl _)
      | (with_reducible exact LeO.none _)
      | (with_reducible refine LeO.ite ?_ ?_)
      | (with_reducible refine LeO.bind ?_ (fun _ => ?_))
      | exact ih0 _ _
      | exact ih1 _ _ _
      | exact ih2 _ _ _
      | exact regimenref02_Cmp.mono _ _ _
      | exact regimenref02_Times.mono _ _ _
      | exact regimenref02_Twos.mono _ _
      | exact regimenref03_Rounded.mono _ _ _
      | exact regimenref05_Read.mono _ _ _
      | exact regimenref05_Tens.mono _ _
      | exact regimenref05_Text.mono _ _
      | exact LeO.none _
      | refine LeO.ite ?_ ?_
      | refine LeO.bind ?_ (fun _ => ?_)
    · intro y0 y1 y2
      unfold regimenref05_Put.l1
      repeat' first
      | (with_reducible exact ih0 _ _)
      | (with_reducible exact ih1 _ _ _)
      | (with_reducible exact ih2 _ _ _)
      | (with_reducible exact regimenref02_Cmp.mono _ _ _)
      | (with_reducible exact regimenref02_Times.mono _ _ _)
      | (with_reducible exact regimenref02_Twos.mono _ _)
      | (with_reducible exact regimenref03_Rounded.mono _ _ _)
      | (with_reducible exact regimenref05_Read.mono _ _ _)
      | (with_reducible exact regimenref05_Tens.mono _ _)
      | (with_reducible exact regimenref05_Text.mono _ _)
      | (with_reducible exact LeO.refl _)
      | (with_reducible exact LeO.none _)
      | (with_reducible refine LeO.ite ?_ ?_)
      | (with_reducible refine LeO.bind ?_ (fun _ => ?_))
      | exact ih0 _ _
      | exact ih1 _ _ _
      | exact ih2 _ _ _
      | exact regimenref02_Cmp.mono _ _ _
      | exact regimenref02_Times.mono _ _ _
      | exact regimenref02_Twos.mono _ _
      | exact regimenref03_Rounded.mono _ _ _
      | exact regimenref05_Read.mono _ _ _
      | exact regimenref05_Tens.mono _ _
      | exact regimenref05_Text.mono _ _
      | exact LeO.none _
      | refine LeO.ite ?_ ?_
      | refine LeO.bind ?_ (fun _ => ?_)
theorem regimenref05_Put.mono : ∀ a0 k, LeO (regimenref05_Put.f k a0) (regimenref05_Put.f (k + 1) a0) := by
  intro a0 k
  obtain ⟨ih0, ih1, ih2⟩ := regimenref05_Put.mono_l k
  unfold regimenref05_Put.f
  repeat' first
      | (with_reducible exact ih0 _ _)
      | (with_reducible exact ih1 _ _ _)
      | (with_reducible exact ih2 _ _ _)
      | (with_reducible exact regimenref02_Cmp.mono _ _ _)
      | (with_reducible exact regimenref02_Times.mono _ _ _)
      | (with_reducible exact regimenref02_Twos.mono _ _)
      | (with_reducible exact regimenref03_Rounded.mono _ _ _)
      | (with_reducible exact regimenref05_Read.mono _ _ _)
      | (with_reducible exact regimenref05_Tens.mono _ _)
      | (with_reducible exact regimenref05_Text.mono _ _)
      | (with_reducible exact LeO.refl _)
      | (with_reducible exact LeO.none _)
      | (with_reducible refine LeO.ite ?_ ?_)
      | (with_reducible refine LeO.bind ?_ (fun _ => ?_))
      | exact ih0 _ _
      | exact ih1 _ _ _
      | exact ih2 _ _ _
      | exact regimenref02_Cmp.mono _ _ _
      | exact regimenref02_Times.mono _ _ _
      | exact regimenref02_Twos.mono _ _
      | exact regimenref03_Rounded.mono _ _ _
      | exact regimenref05_Read.mono _ _ _
      | exact regimenref05_Tens.mono _ _
      | exact regimenref05_Text.mono _ _
      | exact LeO.none _
      | refine LeO.ite ?_ ?_
      | refine LeO.bind ?_ (fun _ => ?_)
def regimenref45_tail.l0 : Nat → List Int → ByteArray → Int → Option (ByteArray)
  | 0, _, _, _ => none
  | k + 1, x0, x3, x4 => if x4 < (x0.length : Int) then (if x3.size + 1 ≤ 9223372036854775807 then (if 0 ≤ x4 then ((regimenref05_Put.f k (rd x0 x4)).bind fun t486 => (if (x3 ++ (⟨#[32]⟩ : ByteArray)).size + t486.size ≤ 9223372036854775807 then (regimenref45_tail.l0 k x0 ((x3 ++ (⟨#[32]⟩ : ByteArray)) ++ t486) (wrap64 (x4 + 1))) else (none))) else (none)) else (none)) else (some x3)
def regimenref45_tail.f (k : Nat) (l0 : List Int) : Option (ByteArray) := regimenref45_tail.l0 k l0 (⟨#[]⟩ : ByteArray) 0
theorem regimenref45_tail.mono_l : ∀ k, (∀ y0 y1 y2, LeO (regimenref45_tail.l0 k y0 y1 y2) (regimenref45_tail.l0 (k + 1) y0 y1 y2))
  | 0 => fun _ _ _ r h => by simp [regimenref45_tail.l0] at h
  | k + 1 => by
    have ih0 := regimenref45_tail.mono_l k
    · intro y0 y1 y2
      unfold regimenref45_tail.l0
      repeat' first
      | (with_reducible exact ih0 _ _ _)
      | (with_reducible exact regimenref05_Put.mono _ _)
      | (with_reducible exact LeO.refl _)
      | (with_reducible exact LeO.none _)
      | (with_reducible refine LeO.ite ?_ ?_)
      | (with_reducible refine LeO.bind ?_ (fun _ => ?_))
      | exact ih0 _ _ _
      | exact regimenref05_Put.mono _ _
      | exact LeO.none _
      | refine LeO.ite ?_ ?_
      | refine LeO.bind ?_ (fun _ => ?_)
theorem regimenref45_tail.mono : ∀ a0 k, LeO (regimenref45_tail.f k a0) (regimenref45_tail.f (k + 1) a0) := by
  intro a0 k
  have ih0 := regimenref45_tail.mono_l k
  unfold regimenref45_tail.f
  repeat' first
      | (with_reducible exact ih0 _ _ _)
      | (with_reducible exact regimenref05_Put.mono _ _)
      | (with_reducible exact LeO.refl _)
      | (with_reducible exact LeO.none _)
      | (with_reducible refine LeO.ite ?_ ?_)
      | (with_reducible refine LeO.bind ?_ (fun _ => ?_))
      | exact ih0 _ _ _
      | exact regimenref05_Put.mono _ _
      | exact LeO.none _
      | refine LeO.ite ?_ ?_
      | refine LeO.bind ?_ (fun _ => ?_)
mutual
def regimenref45_Step.l0 : Nat → List ByteArray → Int → Int → Int → List Int → List Bool → List (S23) → Int → Option (List ByteArray)
  | 0, _, _, _, _, _, _, _, _ => none
  | k + 1, x3, x4, x488000, x488001, x488002, x488003, x488004, x488005 => if (wrap64 ((wrap64 (3 * x4)) + 2)) < (x488002.length : Int) then ((regimenref01_Tell.f k x4).bind fun t494 => (if 8 + t494.size ≤ 9223372036854775807 then (if 0 ≤ (wrap64 (3 * x4)) then (if (wrap64 (3 * x4)) ≤ (wrap64 ((wrap64 (3 * x4)) + 3)) then (if (wrap64 ((wrap64 (3 * x4)) + 3)) ≤ (x488002.length : Int) then ((regimenref45_tail.f k ((x488002.take ((wrap64 ((wrap64 (3 * x4)) + 3)) : Int).toNat).drop ((wrap64 (3 * x4)) : Int).toNat)).bind fun t496 => (if ((⟨#[32, 32, 103, 114, 111, 117, 112, 32]⟩ : ByteArray) ++ t494).size + t496.size ≤ 9223372036854775807 then (if x4 < (x488003.length : Int) then (if 0 ≤ x4 then (if rdOf false x488003 x4 = true then (if (((⟨#[32, 32, 103, 114, 111, 117, 112, 32]⟩ : ByteArray) ++ t494) ++ t496).size + 7 ≤ 9223372036854775807 then (if x3.length < 8796093022208 then (regimenref45_Step.l0 k (x3 ++ [(((⟨#[32, 32, 103, 114, 111, 117, 112, 32]⟩ : ByteArray) ++ t494) ++ t496) ++ (⟨#[32, 102, 114, 111, 122, 101, 110]⟩ : ByteArray)]) (wrap64 (x4 + 1)) x488000 x488001 x488002 x488003 x488004 x488005) else (none)) else (none)) else (if x3.length < 8796093022208 then (regimenref45_Step.l0 k (x3 ++ [((⟨#[32, 32, 103, 114, 111, 117, 112, 32]⟩ : ByteArray) ++ t494) ++ t496]) (wrap64 (x4 + 1)) x488000 x488001 x488002 x488003 x488004 x488005) else (none))) else (none)) else (if x3.length < 8796093022208 then (regimenref45_Step.l0 k (x3 ++ [((⟨#[32, 32, 103, 114, 111, 117, 112, 32]⟩ : ByteArray) ++ t494) ++ t496]) (wrap64 (x4 + 1)) x488000 x488001 x488002 x488003 x488004 x488005) else (none))) else (none))) else (none)) else (none)) else (none)) else (none))) else (regimenref45_Step.l1 k x3 0 x488000 x488001 x488002 x488003 x488004 x488005)
def regimenref45_Step.l1 : Nat → List ByteArray → Int → Int → Int → List Int → List Bool → List (S23) → Int → Option (List ByteArray)
  | 0, _, _, _, _, _, _, _, _ => none
  | k + 1, x3, x6, x488000, x488001, x488002, x488003, x488004, x488005 => if x6 < (x488004.length : Int) then (if 0 ≤ x6 then ((regimenref36_Line.f k ((rd_T23 x488004 x6).f0) ((rd_T23 x488004 x6).f1) ((rd_T23 x488004 x6).f2)).bind fun t508 => (if 2 + t508.size ≤ 9223372036854775807 then (if x3.length < 8796093022208 then (regimenref45_Step.l1 k (x3 ++ [(⟨#[32, 32]⟩ : ByteArray) ++ t508]) (wrap64 (x6 + 1)) x488000 x488001 x488002 x488003 x488004 x488005) else (none)) else (none))) else (none)) else (some x3)
end
def regimenref45_Step.f (k : Nat) (a0_0 : Int) (a0_1 : Int) (l0_2 : List Int) (l0_3 : List Bool) (l0_4 : List (S23)) (a0_5 : Int) : Option (List ByteArray) := (regimenref01_Tell.f k a0_0).bind fun t488 => (if 5 + t488.size ≤ 9223372036854775807 then (if ((⟨#[115, 116, 101, 112, 32]⟩ : ByteArray) ++ t488).size + 7 ≤ 9223372036854775807 then ((regimenref01_Tell.f k a0_1).bind fun t489 => (if (((⟨#[115, 116, 101, 112, 32]⟩ : ByteArray) ++ t488) ++ (⟨#[32, 112, 104, 97, 115, 101, 32]⟩ : ByteArray)).size + t489.size ≤ 9223372036854775807 then (if ((((⟨#[115, 116, 101, 112, 32]⟩ : ByteArray) ++ t488) ++ (⟨#[32, 112, 104, 97, 115, 101, 32]⟩ : ByteArray)) ++ t489).size + 1 ≤ 9223372036854775807 then ((regimenref45_Word.f a0_5).bind fun t490 => (if (((((⟨#[115, 116, 101, 112, 32]⟩ : ByteArray) ++ t488) ++ (⟨#[32, 112, 104, 97, 115, 101, 32]⟩ : ByteArray)) ++ t489) ++ (⟨#[32]⟩ : ByteArray)).size + t490.size ≤ 9223372036854775807 then (regimenref45_Step.l0 k (([(((((⟨#[115, 116, 101, 112, 32]⟩ : ByteArray) ++ t488) ++ (⟨#[32, 112, 104, 97, 115, 101, 32]⟩ : ByteArray)) ++ t489) ++ (⟨#[32]⟩ : ByteArray)) ++ t490] : List ByteArray)) 0 a0_0 a0_1 l0_2 l0_3 l0_4 a0_5) else (none))) else (none)) else (none))) else (none)) else (none))
theorem regimenref45_Step.mono_l : ∀ k, (∀ y0 y1 y2 y3 y4 y5 y6 y7, LeO (regimenref45_Step.l0 k y0 y1 y2 y3 y4 y5 y6 y7) (regimenref45_Step.l0 (k + 1) y0 y1 y2 y3 y4 y5 y6 y7)) ∧ (∀ y0 y1 y2 y3 y4 y5 y6 y7, LeO (regimenref45_Step.l1 k y0 y1 y2 y3 y4 y5 y6 y7) (regimenref45_Step.l1 (k + 1) y0 y1 y2 y3 y4 y5 y6 y7))
  | 0 => ⟨fun _ _ _ _ _ _ _ _ r h => by simp [regimenref45_Step.l0] at h, fun _ _ _ _ _ _ _ _ r h => by simp [regimenref45_Step.l1] at h⟩
  | k + 1 => by
    obtain ⟨ih0, ih1⟩ := regimenref45_Step.mono_l k
    refine ⟨?_, ?_⟩
    · intro y0 y1 y2 y3 y4 y5 y6 y7
      unfold regimenref45_Step.l0
      repeat' first
      | (with_reducible exact ih0 _ _ _ _ _ _ _ _)
      | (with_reducible exact ih1 _ _ _ _ _ _ _ _)
      | (with_reducible exact regimenref01_Tell.mono _ _)
      | (with_reducible exact regimenref36_Line.mono _ _ _ _)
      | (with_reducible exact regimenref45_tail.mono _ _)
      | (with_reducible exact LeO.refl _)
      | (with_reducible exact LeO.none _)
      | (with_reducible refine LeO.ite ?_ ?_)
      | (with_reducible refine LeO.bind ?_ (fun _ => ?_))
      | exact ih0 _ _ _ _ _ _ _ _
      | exact ih1 _ _ _ _ _ _ _ _
      | exact regimenref01_Tell.mono _ _
      | exact regimenref36_Line.mono _ _ _ _
      | exact regimenref45_tail.mono _ _
      | exact LeO.none _
      | refine LeO.ite ?_ ?_
      | refine LeO.bind ?_ (fun _ => ?_)
    · intro y0 y1 y2 y3 y4 y5 y6 y7
      unfold regimenref45_Step.l1
      repeat' first
      | (with_reducible exact ih0 _ _ _ _ _ _ _ _)
      | (with_reducible exact ih1 _ _ _ _ _ _ _ _)
      | (with_reducible exact regimenref01_Tell.mono _ _)
      | (with_reducible exact regimenref36_Line.mono _ _ _ _)
      | (with_reducible exact regimenref45_tail.mono _ _)
      | (with_reducible exact LeO.refl _)
      | (with_reducible exact LeO.none _)
      | (with_reducible refine LeO.ite ?_ ?_)
      | (with_reducible refine LeO.bind ?_ (fun _ => ?_))
      | exact ih0 _ _ _ _ _ _ _ _
      | exact ih1 _ _ _ _ _ _ _ _
      | exact regimenref01_Tell.mono _ _
      | exact regimenref36_Line.mono _ _ _ _
      | exact regimenref45_tail.mono _ _
      | exact LeO.none _
      | refine LeO.ite ?_ ?_
      | refine LeO.bind ?_ (fun _ => ?_)
theorem regimenref45_Step.mono : ∀ a0 a1 a2 a3 a4 a5 k, LeO (regimenref45_Step.f k a0 a1 a2 a3 a4 a5) (regimenref45_Step.f (k + 1) a0 a1 a2 a3 a4 a5) := by
  intro a0 a1 a2 a3 a4 a5 k
  obtain ⟨ih0, ih1⟩ := regimenref45_Step.mono_l k
  unfold regimenref45_Step.f
  repeat' first
      | (with_reducible exact ih0 _ _ _ _ _ _ _ _)
      | (with_reducible exact ih1 _ _ _ _ _ _ _ _)
      | (with_reducible exact regimenref01_Tell.mono _ _)
      | (with_reducible exact regimenref36_Line.mono _ _ _ _)
      | (with_reducible exact regimenref45_tail.mono _ _)
      | (with_reducible exact LeO.refl _)
      | (with_reducible exact LeO.none _)
      | (with_reducible refine LeO.ite ?_ ?_)
      | (with_reducible refine LeO.bind ?_ (fun _ => ?_))
      | exact ih0 _ _ _ _ _ _ _ _
      | exact ih1 _ _ _ _ _ _ _ _
      | exact regimenref01_Tell.mono _ _
      | exact regimenref36_Line.mono _ _ _ _
      | exact regimenref45_tail.mono _ _
      | exact LeO.none _
      | refine LeO.ite ?_ ?_
      | refine LeO.bind ?_ (fun _ => ?_)
def regimenref34_May.f (a0_0 : Int) (l0_1 : List Int) : Option (Bool) := if a0_0 ≥ 0 then (if a0_0 ≤ 1048576 then (if a0_0 > 0 then (some true) else (some ((l0_1.length : Int) == 0))) else (some false)) else (some false)
def regimenref02_Mod.l0 : Nat → List Int → Int → Int → Int → Option (Int × Int)
  | 0, _, _, _, _ => none
  | k + 1, x0, x4, x515000, x515001 => if x4 ≥ 0 then (if x4 ≥ 4 then ((regimenref02_digit.f x0 x4).bind fun t515 => (regimenref02_Mod.l0 k x0 (wrap64 (x4 - 1)) (IntKind.u64.wrap ((IntKind.u64.wrap (x515000 * 65536)) + t515)) x515001)) else ((regimenref02_digit.f x0 x4).bind fun t516 => (regimenref02_Mod.l0 k x0 (wrap64 (x4 - 1)) x515000 (IntKind.u64.wrap ((IntKind.u64.wrap (x515001 * 65536)) + t516))))) else (some (x515000, x515001))
def regimenref02_Mod.f (k : Nat) (l0 : List Int) : Option (Int × Int) := regimenref02_Mod.l0 k l0 7 0 0
theorem regimenref02_Mod.mono_l : ∀ k, (∀ y0 y1 y2 y3, LeO (regimenref02_Mod.l0 k y0 y1 y2 y3) (regimenref02_Mod.l0 (k + 1) y0 y1 y2 y3))
  | 0 => fun _ _ _ _ r h => by simp [regimenref02_Mod.l0] at h
  | k + 1 => by
    have ih0 := regimenref02_Mod.mono_l k
    · intro y0 y1 y2 y3
      unfold regimenref02_Mod.l0
      repeat' first
      | (with_reducible exact ih0 _ _ _ _)
      | (with_reducible exact LeO.refl _)
      | (with_reducible exact LeO.none _)
      | (with_reducible refine LeO.ite ?_ ?_)
      | (with_reducible refine LeO.bind ?_ (fun _ => ?_))
      | exact ih0 _ _ _ _
      | exact LeO.none _
      | refine LeO.ite ?_ ?_
      | refine LeO.bind ?_ (fun _ => ?_)
theorem regimenref02_Mod.mono : ∀ a0 k, LeO (regimenref02_Mod.f k a0) (regimenref02_Mod.f (k + 1) a0) := by
  intro a0 k
  have ih0 := regimenref02_Mod.mono_l k
  unfold regimenref02_Mod.f
  repeat' first
      | (with_reducible exact ih0 _ _ _ _)
      | (with_reducible exact LeO.refl _)
      | (with_reducible exact LeO.none _)
      | (with_reducible refine LeO.ite ?_ ?_)
      | (with_reducible refine LeO.bind ?_ (fun _ => ?_))
      | exact ih0 _ _ _ _
      | exact LeO.none _
      | refine LeO.ite ?_ ?_
      | refine LeO.bind ?_ (fun _ => ?_)
def regimenref04_Signed.j0 : Nat → List Int → Bool → Bool → Option (Int × Int)
  | 0, _, _, _ => none
  | k + 1, x0, x1, x20 => if x20 = true then (some (0, 4)) else ((regimenref02_Mod.f k x0).bind fun bt521 => (if x1 = true then (some (wrap64 (IntKind.u64.wrap (-bt521.2)), 0)) else (some (wrap64 (bt521.2), 0))))
def regimenref04_Signed.f (k : Nat) (l0 : List Int) (a1 : Bool) : Option (Int × Int) := (regimenref02_Twos.f k 63).bind fun t517 => ((regimenref02_Cmp.f k l0 t517).bind fun t520 => (if t520 > 0 then (regimenref04_Signed.j0 k l0 a1 true) else (if t520 = 0 then (regimenref04_Signed.j0 k l0 a1 (!a1)) else (regimenref04_Signed.j0 k l0 a1 false))))
theorem regimenref04_Signed.mono_l : ∀ k, (∀ y0 y1 y2, LeO (regimenref04_Signed.j0 k y0 y1 y2) (regimenref04_Signed.j0 (k + 1) y0 y1 y2))
  | 0 => fun _ _ _ r h => by simp [regimenref04_Signed.j0] at h
  | k + 1 => by
    have ih0 := regimenref04_Signed.mono_l k
    · intro y0 y1 y2
      unfold regimenref04_Signed.j0
      repeat' first
      | (with_reducible exact ih0 _ _ _)
      | (with_reducible exact regimenref02_Cmp.mono _ _ _)
      | (with_reducible exact regimenref02_Mod.mono _ _)
      | (with_reducible exact regimenref02_Twos.mono _ _)
      | (with_reducible exact LeO.refl _)
      | (with_reducible exact LeO.none _)
      | (with_reducible refine LeO.ite ?_ ?_)
      | (with_reducible refine LeO.bind ?_ (fun _ => ?_))
      | exact ih0 _ _ _
      | exact regimenref02_Cmp.mono _ _ _
      | exact regimenref02_Mod.mono _ _
      | exact regimenref02_Twos.mono _ _
      | exact LeO.none _
      | refine LeO.ite ?_ ?_
      | refine LeO.bind ?_ (fun _ => ?_)
theorem regimenref04_Signed.mono : ∀ a0 a1 k, LeO (regimenref04_Signed.f k a0 a1) (regimenref04_Signed.f (k + 1) a0 a1) := by
  intro a0 a1 k
  have ih0 := regimenref04_Signed.mono_l k
  unfold regimenref04_Signed.f
  repeat' first
      | (with_reducible exact ih0 _ _ _)
      | (with_reducible exact regimenref02_Cmp.mono _ _ _)
      | (with_reducible exact regimenref02_Mod.mono _ _)
      | (with_reducible exact regimenref02_Twos.mono _ _)
      | (with_reducible exact LeO.refl _)
      | (with_reducible exact LeO.none _)
      | (with_reducible refine LeO.ite ?_ ?_)
      | (with_reducible refine LeO.bind ?_ (fun _ => ?_))
      | exact ih0 _ _ _
      | exact regimenref02_Cmp.mono _ _ _
      | exact regimenref02_Mod.mono _ _
      | exact regimenref02_Twos.mono _ _
      | exact LeO.none _
      | refine LeO.ite ?_ ?_
      | refine LeO.bind ?_ (fun _ => ?_)
def regimenref34_Mean.l0 : Nat → List Int → Int → Int → List Int → Option (List Int)
  | 0, _, _, _, _ => none
  | k + 1, x3, x4, x524000, x524001 => if x4 < (x524001.length : Int) then (if 0 ≤ x4 then ((regimenref02_Size.f (rd x524001 x4)).bind fun t528 => ((regimenref02_Size.f x524000).bind fun t531 => ((regimenref03_Rounded.f k t528 t531).bind fun t534 => ((regimenref04_Signed.f k t534 (decide ((rd x524001 x4) < 0))).bind fun bt538 => (if x3.length < 17592186044416 then (regimenref34_Mean.l0 k (x3 ++ [bt538.1]) (wrap64 (x4 + 1)) x524000 x524001) else (none)))))) else (none)) else (some x3)
def regimenref34_Mean.f (k : Nat) (a0_0 : Int) (l0_1 : List Int) : Option (List Int) := regimenref34_Mean.l0 k (([] : List Int)) 0 a0_0 l0_1
theorem regimenref34_Mean.mono_l : ∀ k, (∀ y0 y1 y2 y3, LeO (regimenref34_Mean.l0 k y0 y1 y2 y3) (regimenref34_Mean.l0 (k + 1) y0 y1 y2 y3))
  | 0 => fun _ _ _ _ r h => by simp [regimenref34_Mean.l0] at h
  | k + 1 => by
    have ih0 := regimenref34_Mean.mono_l k
    · intro y0 y1 y2 y3
      unfold regimenref34_Mean.l0
      repeat' first
      | (with_reducible exact ih0 _ _ _ _)
      | (with_reducible exact regimenref03_Rounded.mono _ _ _)
      | (with_reducible exact regimenref04_Signed.mono _ _ _)
      | (with_reducible exact LeO.refl _)
      | (with_reducible exact LeO.none _)
      | (with_reducible refine LeO.ite ?_ ?_)
      | (with_reducible refine LeO.bind ?_ (fun _ => ?_))
      | exact ih0 _ _ _ _
      | exact regimenref03_Rounded.mono _ _ _
      | exact regimenref04_Signed.mono _ _ _
      | exact LeO.none _
      | refine LeO.ite ?_ ?_
      | refine LeO.bind ?_ (fun _ => ?_)
theorem regimenref34_Mean.mono : ∀ a0 a1 k, LeO (regimenref34_Mean.f k a0 a1) (regimenref34_Mean.f (k + 1) a0 a1) := by
  intro a0 a1 k
  have ih0 := regimenref34_Mean.mono_l k
  unfold regimenref34_Mean.f
  repeat' first
      | (with_reducible exact ih0 _ _ _ _)
      | (with_reducible exact regimenref03_Rounded.mono _ _ _)
      | (with_reducible exact regimenref04_Signed.mono _ _ _)
      | (with_reducible exact LeO.refl _)
      | (with_reducible exact LeO.none _)
      | (with_reducible refine LeO.ite ?_ ?_)
      | (with_reducible refine LeO.bind ?_ (fun _ => ?_))
      | exact ih0 _ _ _ _
      | exact regimenref03_Rounded.mono _ _ _
      | exact regimenref04_Signed.mono _ _ _
      | exact LeO.none _
      | refine LeO.ite ?_ ?_
      | refine LeO.bind ?_ (fun _ => ?_)
mutual
def regimenref45_State.l0 : Nat → List ByteArray → Int → Int → Int → Int → Bool → Int → Int → Bool → Int → Int → Int → Int → List (S73) → List Int → Int → List Int → Option (List ByteArray)
  | 0, _, _, _, _, _, _, _, _, _, _, _, _, _, _, _, _, _ => none
  | k + 1, x3, x4, x544000, x544001, x544002, x544003, x544004, x544005, x544006, x544007, x544008, x544009, x544010, x544011, x544012, x544013, x544014 => if x4 < (x544011.length : Int) then (if 0 ≤ x4 then ((regimenref01_Tell.f k ((rd_T73 x544011 x4).f0)).bind fun t550 => (if 5 + t550.size ≤ 9223372036854775807 then ((regimenref45_tail.f k (([(rd_T73 x544011 x4).f1] : List Int))).bind fun t555 => (if ((⟨#[107, 101, 112, 116, 32]⟩ : ByteArray) ++ t550).size + t555.size ≤ 9223372036854775807 then (if x3.length < 8796093022208 then (regimenref45_State.l0 k (x3 ++ [((⟨#[107, 101, 112, 116, 32]⟩ : ByteArray) ++ t550) ++ t555]) (wrap64 (x4 + 1)) x544000 x544001 x544002 x544003 x544004 x544005 x544006 x544007 x544008 x544009 x544010 x544011 x544012 x544013 x544014) else (none)) else (none))) else (none))) else (none)) else (if (x544012.length : Int) > 0 then ((regimenref45_tail.f k x544012).bind fun t559 => (if 3 + t559.size ≤ 9223372036854775807 then (if x3.length < 8796093022208 then (regimenref45_State.j1 k (x3 ++ [(⟨#[101, 109, 97]⟩ : ByteArray) ++ t559]) x544000 x544001 x544002 x544003 x544004 x544005 x544006 x544007 x544008 x544009 x544010 x544011 x544012 x544013 x544014) else (none)) else (none))) else (regimenref45_State.j1 k x3 x544000 x544001 x544002 x544003 x544004 x544005 x544006 x544007 x544008 x544009 x544010 x544011 x544012 x544013 x544014))
def regimenref45_State.j1 : Nat → List ByteArray → Int → Int → Int → Bool → Int → Int → Bool → Int → Int → Int → Int → List (S73) → List Int → Int → List Int → Option (List ByteArray)
  | 0, _, _, _, _, _, _, _, _, _, _, _, _, _, _, _, _ => none
  | k + 1, x3, x544000, x544001, x544002, x544003, x544004, x544005, x544006, x544007, x544008, x544009, x544010, x544011, x544012, x544013, x544014 => (regimenref34_May.f x544013 x544014).bind fun t563 => (if t563 = true then (regimenref45_State.j2 k x3 (decide (x544013 > 0)) x544000 x544001 x544002 x544003 x544004 x544005 x544006 x544007 x544008 x544009 x544010 x544011 x544012 x544013 x544014) else (regimenref45_State.j2 k x3 false x544000 x544001 x544002 x544003 x544004 x544005 x544006 x544007 x544008 x544009 x544010 x544011 x544012 x544013 x544014))
def regimenref45_State.j2 : Nat → List ByteArray → Bool → Int → Int → Int → Bool → Int → Int → Bool → Int → Int → Int → Int → List (S73) → List Int → Int → List Int → Option (List ByteArray)
  | 0, _, _, _, _, _, _, _, _, _, _, _, _, _, _, _, _, _ => none
  | k + 1, x3, x61, x544000, x544001, x544002, x544003, x544004, x544005, x544006, x544007, x544008, x544009, x544010, x544011, x544012, x544013, x544014 => if x61 = true then ((regimenref01_Tell.f k x544013).bind fun t564 => (if 4 + t564.size ≤ 9223372036854775807 then ((regimenref34_Mean.f k x544013 x544014).bind fun t565 => ((regimenref45_tail.f k t565).bind fun t568 => (if ((⟨#[115, 119, 97, 32]⟩ : ByteArray) ++ t564).size + t568.size ≤ 9223372036854775807 then (if x3.length < 8796093022208 then (some (x3 ++ [((⟨#[115, 119, 97, 32]⟩ : ByteArray) ++ t564) ++ t568])) else (none)) else (none)))) else (none))) else (some x3)
end
def regimenref45_State.f (k : Nat) (a0_0 : Int) (a0_1 : Int) (a0_2 : Int) (a0_3 : Bool) (a0_4 : Int) (a0_5 : Int) (a0_6 : Bool) (a0_7 : Int) (a0_8 : Int) (a0_9 : Int) (a0_10 : Int) (l0_11 : List (S73)) (l0_12 : List Int) (a0_13 : Int) (l0_14 : List Int) : Option (List ByteArray) := (regimenref45_Word.f a0_1).bind fun t544 => (if 6 + t544.size ≤ 9223372036854775807 then (if ((⟨#[115, 116, 97, 116, 101, 32]⟩ : ByteArray) ++ t544).size + 1 ≤ 9223372036854775807 then ((regimenref01_Tell.f k a0_0).bind fun t545 => (if (((⟨#[115, 116, 97, 116, 101, 32]⟩ : ByteArray) ++ t544) ++ (⟨#[32]⟩ : ByteArray)).size + t545.size ≤ 9223372036854775807 then (regimenref45_State.l0 k (([(((⟨#[115, 116, 97, 116, 101, 32]⟩ : ByteArray) ++ t544) ++ (⟨#[32]⟩ : ByteArray)) ++ t545] : List ByteArray)) 0 a0_0 a0_1 a0_2 a0_3 a0_4 a0_5 a0_6 a0_7 a0_8 a0_9 a0_10 l0_11 l0_12 a0_13 l0_14) else (none))) else (none)) else (none))
theorem regimenref45_State.mono_l : ∀ k, (∀ y0 y1 y2 y3 y4 y5 y6 y7 y8 y9 y10 y11 y12 y13 y14 y15 y16, LeO (regimenref45_State.l0 k y0 y1 y2 y3 y4 y5 y6 y7 y8 y9 y10 y11 y12 y13 y14 y15 y16) (regimenref45_State.l0 (k + 1) y0 y1 y2 y3 y4 y5 y6 y7 y8 y9 y10 y11 y12 y13 y14 y15 y16)) ∧ (∀ y0 y1 y2 y3 y4 y5 y6 y7 y8 y9 y10 y11 y12 y13 y14 y15, LeO (regimenref45_State.j1 k y0 y1 y2 y3 y4 y5 y6 y7 y8 y9 y10 y11 y12 y13 y14 y15) (regimenref45_State.j1 (k + 1) y0 y1 y2 y3 y4 y5 y6 y7 y8 y9 y10 y11 y12 y13 y14 y15)) ∧ (∀ y0 y1 y2 y3 y4 y5 y6 y7 y8 y9 y10 y11 y12 y13 y14 y15 y16, LeO (regimenref45_State.j2 k y0 y1 y2 y3 y4 y5 y6 y7 y8 y9 y10 y11 y12 y13 y14 y15 y16) (regimenref45_State.j2 (k + 1) y0 y1 y2 y3 y4 y5 y6 y7 y8 y9 y10 y11 y12 y13 y14 y15 y16))
  | 0 => ⟨fun _ _ _ _ _ _ _ _ _ _ _ _ _ _ _ _ _ r h => by simp [regimenref45_State.l0] at h, fun _ _ _ _ _ _ _ _ _ _ _ _ _ _ _ _ r h => by simp [regimenref45_State.j1] at h, fun _ _ _ _ _ _ _ _ _ _ _ _ _ _ _ _ _ r h => by simp [regimenref45_State.j2] at h⟩
  | k + 1 => by
    obtain ⟨ih0, ih1, ih2⟩ := regimenref45_State.mono_l k
    refine ⟨?_, ?_, ?_⟩
    · intro y0 y1 y2 y3 y4 y5 y6 y7 y8 y9 y10 y11 y12 y13 y14 y15 y16
      unfold regimenref45_State.l0
      repeat' first
      | (with_reducible exact ih0 _ _ _ _ _ _ _ _ _ _ _ _ _ _ _ _ _)
      | (with_reducible exact ih1 _ _ _ _ _ _ _ _ _ _ _ _ _ _ _ _)
      | (with_reducible exact ih2 _ _ _ _ _ _ _ _ _ _ _ _ _ _ _ _ _)
      | (with_reducible exact regimenref01_Tell.mono _ _)
      | (with_reducible exact regimenref34_Mean.mono _ _ _)
      | (with_reducible exact regimenref45_tail.mono _ _)
      | (with_reducible exact LeO.refl _)
      | (with_reducible exact LeO.none _)
      | (with_reducible refine LeO.ite ?_ ?_)
      | (with_reducible refine LeO.bind ?_ (fun _ => ?_))
      | exact ih0 _ _ _ _ _ _ _ _ _ _ _ _ _ _ _ _ _
      | exact ih1 _ _ _ _ _ _ _ _ _ _ _ _ _ _ _ _
      | exact ih2 _ _ _ _ _ _ _ _ _ _ _ _ _ _ _ _ _
      | exact regimenref01_Tell.mono _ _
      | exact regimenref34_Mean.mono _ _ _
      | exact regimenref45_tail.mono _ _
      | exact LeO.none _
      | refine LeO.ite ?_ ?_
      | refine LeO.bind ?_ (fun _ => ?_)
    · intro y0 y1 y2 y3 y4 y5 y6 y7 y8 y9 y10 y11 y12 y13 y14 y15
      unfold regimenref45_State.j1
      repeat' first
      | (with_reducible exact ih0 _ _ _ _ _ _ _ _ _ _ _ _ _ _ _ _ _)
      | (with_reducible exact ih1 _ _ _ _ _ _ _ _ _ _ _ _ _ _ _ _)
      | (with_reducible exact ih2 _ _ _ _ _ _ _ _ _ _ _ _ _ _ _ _ _)
      | (with_reducible exact regimenref01_Tell.mono _ _)
      | (with_reducible exact regimenref34_Mean.mono _ _ _)
      | (with_reducible exact regimenref45_tail.mono _ _)
      | (with_reducible exact LeO.refl _)
      | (with_reducible exact LeO.none _)
      | (with_reducible refine LeO.ite ?_ ?_)
      | (with_reducible refine LeO.bind ?_ (fun _ => ?_))
      | exact ih0 _ _ _ _ _ _ _ _ _ _ _ _ _ _ _ _ _
      | exact ih1 _ _ _ _ _ _ _ _ _ _ _ _ _ _ _ _
      | exact ih2 _ _ _ _ _ _ _ _ _ _ _ _ _ _ _ _ _
      | exact regimenref01_Tell.mono _ _
      | exact regimenref34_Mean.mono _ _ _
      | exact regimenref45_tail.mono _ _
      | exact LeO.none _
      | refine LeO.ite ?_ ?_
      | refine LeO.bind ?_ (fun _ => ?_)
    · intro y0 y1 y2 y3 y4 y5 y6 y7 y8 y9 y10 y11 y12 y13 y14 y15 y16
      unfold regimenref45_State.j2
      repeat' first
      | (with_reducible exact ih0 _ _ _ _ _ _ _ _ _ _ _ _ _ _ _ _ _)
      | (with_reducible exact ih1 _ _ _ _ _ _ _ _ _ _ _ _ _ _ _ _)
      | (with_reducible exact ih2 _ _ _ _ _ _ _ _ _ _ _ _ _ _ _ _ _)
      | (with_reducible exact regimenref01_Tell.mono _ _)
      | (with_reducible exact regimenref34_Mean.mono _ _ _)
      | (with_reducible exact regimenref45_tail.mono _ _)
      | (with_reducible exact LeO.refl _)
      | (with_reducible exact LeO.none _)
      | (with_reducible refine LeO.ite ?_ ?_)
      | (with_reducible refine LeO.bind ?_ (fun _ => ?_))
      | exact ih0 _ _ _ _ _ _ _ _ _ _ _ _ _ _ _ _ _
      | exact ih1 _ _ _ _ _ _ _ _ _ _ _ _ _ _ _ _
      | exact ih2 _ _ _ _ _ _ _ _ _ _ _ _ _ _ _ _ _
      | exact regimenref01_Tell.mono _ _
      | exact regimenref34_Mean.mono _ _ _
      | exact regimenref45_tail.mono _ _
      | exact LeO.none _
      | refine LeO.ite ?_ ?_
      | refine LeO.bind ?_ (fun _ => ?_)
theorem regimenref45_State.mono : ∀ a0 a1 a2 a3 a4 a5 a6 a7 a8 a9 a10 a11 a12 a13 a14 k, LeO (regimenref45_State.f k a0 a1 a2 a3 a4 a5 a6 a7 a8 a9 a10 a11 a12 a13 a14) (regimenref45_State.f (k + 1) a0 a1 a2 a3 a4 a5 a6 a7 a8 a9 a10 a11 a12 a13 a14) := by
  intro a0 a1 a2 a3 a4 a5 a6 a7 a8 a9 a10 a11 a12 a13 a14 k
  obtain ⟨ih0, ih1, ih2⟩ := regimenref45_State.mono_l k
  unfold regimenref45_State.f
  repeat' first
      | (with_reducible exact ih0 _ _ _ _ _ _ _ _ _ _ _ _ _ _ _ _ _)
      | (with_reducible exact ih1 _ _ _ _ _ _ _ _ _ _ _ _ _ _ _ _)
      | (with_reducible exact ih2 _ _ _ _ _ _ _ _ _ _ _ _ _ _ _ _ _)
      | (with_reducible exact regimenref01_Tell.mono _ _)
      | (with_reducible exact regimenref34_Mean.mono _ _ _)
      | (with_reducible exact regimenref45_tail.mono _ _)
      | (with_reducible exact LeO.refl _)
      | (with_reducible exact LeO.none _)
      | (with_reducible refine LeO.ite ?_ ?_)
      | (with_reducible refine LeO.bind ?_ (fun _ => ?_))
      | exact ih0 _ _ _ _ _ _ _ _ _ _ _ _ _ _ _ _ _
      | exact ih1 _ _ _ _ _ _ _ _ _ _ _ _ _ _ _ _
      | exact ih2 _ _ _ _ _ _ _ _ _ _ _ _ _ _ _ _ _
      | exact regimenref01_Tell.mono _ _
      | exact regimenref34_Mean.mono _ _ _
      | exact regimenref45_tail.mono _ _
      | exact LeO.none _
      | refine LeO.ite ?_ ?_
      | refine LeO.bind ?_ (fun _ => ?_)
def regimenlaw45_OutputLines.j0 : Nat → Bool → Int → Int → List Int → List Bool → List (S23) → Int → Int → Int → Int → Bool → Int → Int → Bool → Int → Int → Int → Int → List (S73) → List Int → Int → List Int → Option (Bool)
  | 0, _, _, _, _, _, _, _, _, _, _, _, _, _, _, _, _, _, _, _, _, _, _ => none
  | k + 1, x12, x573000, x573001, x573002, x573003, x573004, x573005, x574000, x574001, x574002, x574003, x574004, x574005, x574006, x574007, x574008, x574009, x574010, x574011, x574012, x574013, x574014 => if x12 = true then ((regimenlaw45_awake.f k).bind fun t576 => (some t576)) else ((output_Step.f k x573000 x573001 x573002 x573003 x573004 x573005).bind fun t577 => ((regimenref45_Step.f k x573000 x573001 x573002 x573003 x573004 x573005).bind fun t580 => ((regimenref01_Texts.f k t577 t580).bind fun t583 => (if t583 = true then ((output_State.f k x574000 x574001 x574002 x574003 x574004 x574005 x574006 x574007 x574008 x574009 x574010 x574011 x574012 x574013 x574014).bind fun t584 => ((regimenref45_State.f k x574000 x574001 x574002 x574003 x574004 x574005 x574006 x574007 x574008 x574009 x574010 x574011 x574012 x574013 x574014).bind fun t587 => ((regimenref01_Texts.f k t584 t587).bind fun t590 => (if t590 = true then ((output_Word.f x573005).bind fun t591 => ((regimenref45_Word.f x573005).bind fun t592 => (if t591.toList = t592.toList then ((regimenlaw45_awake.f k).bind fun t593 => (some t593)) else (none)))) else (none))))) else (none)))))
def regimenlaw45_OutputLines.f (k : Nat) (a0_0 : Int) (a0_1 : Int) (l0_2 : List Int) (l0_3 : List Bool) (l0_4 : List (S23)) (a0_5 : Int) (a1_0 : Int) (a1_1 : Int) (a1_2 : Int) (a1_3 : Bool) (a1_4 : Int) (a1_5 : Int) (a1_6 : Bool) (a1_7 : Int) (a1_8 : Int) (a1_9 : Int) (a1_10 : Int) (l1_11 : List (S73)) (l1_12 : List Int) (a1_13 : Int) (l1_14 : List Int) : Option (Bool) := (regimenlaw45_small.f a0_0 a0_1 l0_2 l0_3 l0_4 a0_5).bind fun t574 => (if t574 = true then ((regimenlaw37_Light.f a1_0 a1_1 a1_2 a1_3 a1_4 a1_5 a1_6 a1_7 a1_8 a1_9 a1_10 l1_11 l1_12 a1_13 l1_14).bind fun t575 => (regimenlaw45_OutputLines.j0 k (!t575) a0_0 a0_1 l0_2 l0_3 l0_4 a0_5 a1_0 a1_1 a1_2 a1_3 a1_4 a1_5 a1_6 a1_7 a1_8 a1_9 a1_10 l1_11 l1_12 a1_13 l1_14)) else (regimenlaw45_OutputLines.j0 k true a0_0 a0_1 l0_2 l0_3 l0_4 a0_5 a1_0 a1_1 a1_2 a1_3 a1_4 a1_5 a1_6 a1_7 a1_8 a1_9 a1_10 l1_11 l1_12 a1_13 l1_14))
theorem regimenlaw45_OutputLines.mono_l : ∀ k, (∀ y0 y1 y2 y3 y4 y5 y6 y7 y8 y9 y10 y11 y12 y13 y14 y15 y16 y17 y18 y19 y20 y21, LeO (regimenlaw45_OutputLines.j0 k y0 y1 y2 y3 y4 y5 y6 y7 y8 y9 y10 y11 y12 y13 y14 y15 y16 y17 y18 y19 y20 y21) (regimenlaw45_OutputLines.j0 (k + 1) y0 y1 y2 y3 y4 y5 y6 y7 y8 y9 y10 y11 y12 y13 y14 y15 y16 y17 y18 y19 y20 y21))
  | 0 => fun _ _ _ _ _ _ _ _ _ _ _ _ _ _ _ _ _ _ _ _ _ _ r h => by simp [regimenlaw45_OutputLines.j0] at h
  | k + 1 => by
    have ih0 := regimenlaw45_OutputLines.mono_l k
    · intro y0 y1 y2 y3 y4 y5 y6 y7 y8 y9 y10 y11 y12 y13 y14 y15 y16 y17 y18 y19 y20 y21
      unfold regimenlaw45_OutputLines.j0
      repeat' first
      | (with_reducible exact ih0 _ _ _ _ _ _ _ _ _ _ _ _ _ _ _ _ _ _ _ _ _ _)
      | (with_reducible exact output_State.mono _ _ _ _ _ _ _ _ _ _ _ _ _ _ _ _)
      | (with_reducible exact output_Step.mono _ _ _ _ _ _ _)
      | (with_reducible exact regimenlaw45_awake.mono _)
      | (with_reducible exact regimenref01_Texts.mono _ _ _)
      | (with_reducible exact regimenref45_State.mono _ _ _ _ _ _ _ _ _ _ _ _ _ _ _ _)
      | (with_reducible exact regimenref45_Step.mono _ _ _ _ _ _ _)
      | (with_reducible exact LeO.refl _)
      | (with_reducible exact LeO.none _)
      | (with_reducible refine LeO.ite ?_ ?_)
      | (with_reducible refine LeO.bind ?_ (fun _ => ?_))
      | exact ih0 _ _ _ _ _ _ _ _ _ _ _ _ _ _ _ _ _ _ _ _ _ _
      | exact output_State.mono _ _ _ _ _ _ _ _ _ _ _ _ _ _ _ _
      | exact output_Step.mono _ _ _ _ _ _ _
      | exact regimenlaw45_awake.mono _
      | exact regimenref01_Texts.mono _ _ _
      | exact regimenref45_State.mono _ _ _ _ _ _ _ _ _ _ _ _ _ _ _ _
      | exact regimenref45_Step.mono _ _ _ _ _ _ _
      | exact LeO.none _
      | refine LeO.ite ?_ ?_
      | refine LeO.bind ?_ (fun _ => ?_)
theorem regimenlaw45_OutputLines.mono : ∀ a0 a1 a2 a3 a4 a5 a6 a7 a8 a9 a10 a11 a12 a13 a14 a15 a16 a17 a18 a19 a20 k, LeO (regimenlaw45_OutputLines.f k a0 a1 a2 a3 a4 a5 a6 a7 a8 a9 a10 a11 a12 a13 a14 a15 a16 a17 a18 a19 a20) (regimenlaw45_OutputLines.f (k + 1) a0 a1 a2 a3 a4 a5 a6 a7 a8 a9 a10 a11 a12 a13 a14 a15 a16 a17 a18 a19 a20) := by
  intro a0 a1 a2 a3 a4 a5 a6 a7 a8 a9 a10 a11 a12 a13 a14 a15 a16 a17 a18 a19 a20 k
  have ih0 := regimenlaw45_OutputLines.mono_l k
  unfold regimenlaw45_OutputLines.f
  repeat' first
      | (with_reducible exact ih0 _ _ _ _ _ _ _ _ _ _ _ _ _ _ _ _ _ _ _ _ _ _)
      | (with_reducible exact output_State.mono _ _ _ _ _ _ _ _ _ _ _ _ _ _ _ _)
      | (with_reducible exact output_Step.mono _ _ _ _ _ _ _)
      | (with_reducible exact regimenlaw45_awake.mono _)
      | (with_reducible exact regimenref01_Texts.mono _ _ _)
      | (with_reducible exact regimenref45_State.mono _ _ _ _ _ _ _ _ _ _ _ _ _ _ _ _)
      | (with_reducible exact regimenref45_Step.mono _ _ _ _ _ _ _)
      | (with_reducible exact LeO.refl _)
      | (with_reducible exact LeO.none _)
      | (with_reducible refine LeO.ite ?_ ?_)
      | (with_reducible refine LeO.bind ?_ (fun _ => ?_))
      | exact ih0 _ _ _ _ _ _ _ _ _ _ _ _ _ _ _ _ _ _ _ _ _ _
      | exact output_State.mono _ _ _ _ _ _ _ _ _ _ _ _ _ _ _ _
      | exact output_Step.mono _ _ _ _ _ _ _
      | exact regimenlaw45_awake.mono _
      | exact regimenref01_Texts.mono _ _ _
      | exact regimenref45_State.mono _ _ _ _ _ _ _ _ _ _ _ _ _ _ _ _
      | exact regimenref45_Step.mono _ _ _ _ _ _ _
      | exact LeO.none _
      | refine LeO.ite ?_ ?_
      | refine LeO.bind ?_ (fun _ => ?_)
end Go.Proofs.Ytcgdhpnobgimfaa.PO
end
