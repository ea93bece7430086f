/- Go functions of this seat as plain Lean functions, each with a proof that its call comes to just what that function says, wherever that function says anything: written by a program of this session. -/
import Derived.Test.YtcgdhpnobgimfaaPZx0
import Derived.Test.YtcgdhpnobgimfaaPZx3
import Derived.Test.YtcgdhpnobgimfaaPZx4
namespace Go.Proofs.Ytcgdhpnobgimfaa.PZ
open Go.RowKit Go.Proofs.YtcgdhpnobgimfaaW.PrintWords Go.Proofs.YtcgdhpnobgimfaaW.PrintLast Go.Proofs.YtcgdhpnobgimfaaW.PrintMore
attribute [local go_sem] max2_int min2_int max_two min_two max_three min_three max_four min_four   -- for this text's walks alone
set_option linter.unusedVariables false
set_option linter.unusedSimpArgs false

attribute [local go_sem] isSome_setCell
/-! ### events_Sort: function 27 -/
def layEv_ren : Go.Shelf.Ren := ⟨fun | 6 => 52 | 15 => 70 | 14 => 69 | 28 => 103 | 29 => 104 | 20 => 95 | 21 => 96 | 22 => 97 | 23 => 98 | 24 => 99 | 25 => 100 | 26 => 101 | 27 => 102 | 46 => 117 | 47 => 118 | 48 => 119 | 49 => 120 | 50 => 121 | 57 => 131 | n => n, fun | 22 => 35 | 24 => 23 | 25 => 91 | 3 => 3 | 39 => 97 | 0 => 0 | 53 => 140 | 55 => 93 | 4 => 4 | 46 => 133 | 45 => 132 | 50 => 137 | 5 => 5 | 9 => 9 | 66 => 154 | 70 => 158 | 76 => 166 | 77 => 167 | n => n, fun | n => n⟩
theorem layEv : Go.Proofs.SlLaysF0.n6 Try.prog layEv_ren := {
  mixed := by kernel_rfl
  f6 := ⟨Try.f52.name, by decide, Try.func52.trans (congrArg some (by kernel_rfl))⟩
  f14 := ⟨Try.f69.name, by decide, Try.func69.trans (congrArg some (by kernel_rfl))⟩
  f15 := Try.func70.trans (congrArg some (by kernel_rfl))
  f20 := ⟨Try.f95.name, by decide, Try.func95.trans (congrArg some (by kernel_rfl))⟩
  f21 := ⟨Try.f96.name, by decide, Try.func96.trans (congrArg some (by kernel_rfl))⟩
  f22 := ⟨Try.f97.name, by decide, Try.func97.trans (congrArg some (by kernel_rfl))⟩
  f23 := ⟨Try.f98.name, by decide, Try.func98.trans (congrArg some (by kernel_rfl))⟩
  f24 := ⟨Try.f99.name, by decide, Try.func99.trans (congrArg some (by kernel_rfl))⟩
  f25 := ⟨Try.f100.name, by decide, Try.func100.trans (congrArg some (by kernel_rfl))⟩
  f26 := ⟨Try.f101.name, by decide, Try.func101.trans (congrArg some (by kernel_rfl))⟩
  f27 := ⟨Try.f102.name, by decide, Try.func102.trans (congrArg some (by kernel_rfl))⟩
  f28 := Try.func103.trans (congrArg some (by kernel_rfl))
  f29 := Try.func104.trans (congrArg some (by kernel_rfl))
  f46 := ⟨Try.f117.name, by decide, Try.func117.trans (congrArg some (by kernel_rfl))⟩
  f47 := Try.func118.trans (congrArg some (by kernel_rfl))
  f48 := Try.func119.trans (congrArg some (by kernel_rfl))
  f49 := ⟨Try.f120.name, by decide, Try.func120.trans (congrArg some (by kernel_rfl))⟩
  f50 := ⟨Try.f121.name, by decide, Try.func121.trans (congrArg some (by kernel_rfl))⟩
  f57 := ⟨Try.f131.name, by decide, Try.func131.trans (congrArg some (by kernel_rfl))⟩
  t0 := Try.underlying0
  a0 := Try.isAgg0
  z0 := Try.sizeOf0
  v0 := Try.zeroValue0
  t3 := Try.underlying3
  a3 := Try.isAgg3
  z3 := Try.sizeOf3
  v3 := Try.zeroValue3
  t4 := Try.underlying4
  a4 := Try.isAgg4
  z4 := Try.sizeOf4
  v4 := Try.zeroValue4
  t5 := Try.underlying5
  a5 := Try.isAgg5
  z5 := Try.sizeOf5
  v5 := Try.zeroValue5
  t9 := Try.underlying9
  a9 := Try.isAgg9
  z9 := Try.sizeOf9
  v9 := Try.zeroValue9
  t22 := Try.underlying35
  a22 := Try.isAgg35
  z22 := Try.sizeOf35
  v22 := Try.zeroValue35
  t25 := Try.underlying91
  a25 := Try.isAgg91
  z25 := Try.sizeOf91
  v25 := Try.zeroValue91
  t39 := Try.underlying97
  a39 := Try.isAgg97
  z39 := Try.sizeOf97
  v39 := Try.zeroValue97
  t45 := Try.underlying132
  a45 := Try.isAgg132
  z45 := Try.sizeOf132
  v45 := Try.zeroValue132
  t46 := Try.underlying133
  a46 := Try.isAgg133
  z46 := Try.sizeOf133
  v46 := Try.zeroValue133
  t50 := Try.underlying137
  a50 := Try.isAgg137
  z50 := Try.sizeOf137
  v50 := Try.zeroValue137
  t53 := Try.underlying140
  a53 := Try.isAgg140
  z53 := Try.sizeOf140
  v53 := Try.zeroValue140
  t55 := Try.underlying93
  a55 := Try.isAgg93
  z55 := Try.sizeOf93
  v55 := Try.zeroValue93
  t66 := Try.underlying154
  a66 := Try.isAgg154
  z66 := Try.sizeOf154
  v66 := Try.zeroValue154
  t70 := Try.underlying158
  a70 := Try.isAgg158
  z70 := Try.sizeOf158
  v70 := Try.zeroValue158
  t76 := Try.underlying166
  a76 := Try.isAgg166
  z76 := Try.sizeOf166
  v76 := Try.zeroValue166
  t77 := Try.underlying167
  a77 := Try.isAgg167
  z77 := Try.sizeOf167
  v77 := Try.zeroValue167 }
/-- An event's three cells. -/
def events_Sort.enc (x : S23) : List Value := [.int .i64 x.f0, .int .i64 x.f1, .int .i64 x.f2]
/-- How two events compare: by their steps, then by their kinds, then by their items. -/
def events_Sort.cf (x y : S23) : Int := if x.f0 < y.f0 then -1 else if x.f0 > y.f0 then 1 else if x.f1 < y.f1 then -1 else if x.f1 > y.f1 then 1 else if x.f2 < y.f2 then -1 else if x.f2 > y.f2 then 1 else 0
def events_Sort.le (x y : S23) : Bool := !(decide (events_Sort.cf y x < 0))
def events_Sort.f (l0 : List S23) : Option (List S23) := if l0.length < 1000000 then some (l0.mergeSort events_Sort.le) else none
/-- Blocks of its own are all that a call leaves, and draws. -/
theorem events_Sort.or_f (a b c : Int) : cmp_Or_int.f 9 [a, b, c] = some (if a ≠ 0 then a else if b ≠ 0 then b else c) := by
  have w0 : wrap64 1 = 1 := by decide +kernel
  have w1 : wrap64 2 = 2 := by decide +kernel
  have w2 : wrap64 3 = 3 := by decide +kernel
  have r0 : ∀ a b c : Int, rd [a, b, c] 0 = a := fun _ _ _ => rfl
  have r1 : ∀ a b c : Int, rd [a, b, c] 1 = b := fun _ _ _ => rfl
  have r2 : ∀ a b c : Int, rd [a, b, c] 2 = c := fun _ _ _ => rfl
  by_cases ha : a = 0
  · by_cases hb : b = 0
    · by_cases hc : c = 0
      · simp [cmp_Or_int.f, cmp_Or_int.l0, w0, w1, w2, r0, r1, r2, ha, hb, hc]
      · simp [cmp_Or_int.f, cmp_Or_int.l0, w0, w1, w2, r0, r1, r2, ha, hb, hc]
    · simp [cmp_Or_int.f, cmp_Or_int.l0, w0, w1, w2, r0, r1, r2, ha, hb]
  · simp [cmp_Or_int.f, cmp_Or_int.l0, w0, w1, w2, r0, r1, r2, ha]
theorem events_Sort.cmp_f (a b : Int) : cmp_Compare_int.f a b = some (if a < b then -1 else if a > b then 1 else 0) := by
  unfold cmp_Compare_int.f cmp_isNaN_int.f
  simp only [Option.bind_some, bne_self_eq_false, Bool.false_eq_true, if_false]
  split <;> (try rfl)
  split <;> rfl
theorem events_Sort.three (x y : S23) : (if (if x.f0 < y.f0 then (-1 : Int) else if x.f0 > y.f0 then 1 else 0) ≠ 0 then (if x.f0 < y.f0 then (-1 : Int) else if x.f0 > y.f0 then 1 else 0) else if (if x.f1 < y.f1 then (-1 : Int) else if x.f1 > y.f1 then 1 else 0) ≠ 0 then (if x.f1 < y.f1 then (-1 : Int) else if x.f1 > y.f1 then 1 else 0) else (if x.f2 < y.f2 then (-1 : Int) else if x.f2 > y.f2 then 1 else 0)) = events_Sort.cf x y := by
  unfold events_Sort.cf
  by_cases a : x.f0 < y.f0
  · simp [a]
  · by_cases b : x.f0 > y.f0
    · simp [a, b]
    · simp only [a, b, if_false, ne_eq, not_true_eq_false]
      by_cases c : x.f1 < y.f1
      · simp [c]
      · by_cases d : x.f1 > y.f1
        · simp [c, d]
        · simp only [c, d, if_false, ne_eq, not_true_eq_false]
set_option maxHeartbeats 4000000 in
set_option maxRecDepth 100000 in
theorem events_Sort.cmp1 (a b : Int) (W : World) : Calls Try.prog 72 #[.int .i64 a, .int .i64 b] W fun e w' => e = .returned (.int .i64 (if a < b then -1 else if a > b then 1 else 0)) ∧ w' = W := by
  by_cases c : a < b
  · rw [if_pos c]
    go_enter Try.func72, Try.ntmps72
    go_wp2
    go_ret
    exact ⟨rfl, rfl⟩
  · rw [if_neg c]
    by_cases d : a > b
    · rw [if_pos d]
      have d' : b < a := d
      go_enter Try.func72, Try.ntmps72
      go_wp2
      go_ret
      exact ⟨rfl, rfl⟩
    · rw [if_neg d]
      have d' : ¬ b < a := d
      go_enter Try.func72, Try.ntmps72
      go_wp2
      go_ret
      exact ⟨rfl, rfl⟩
theorem events_Sort.reads (W : World) (t : TypeId) (a b c : Int) : Kd.C (Kd.int .i64) (W.alloc (.cells #[.int .i64 a, .int .i64 b, .int .i64 c] t)) (some ⟨W.heap.size, 0, none⟩) ([a, b, c] : List Int).length [a, b, c] := by
  refine ⟨rfl, (by show 3 ≤ _; decide), fun _ => ⟨_, rfl, fun j p hp => ⟨[.int .i64 p], rfl, rfl, fun i u hu => ?_⟩⟩⟩
  cases i with
  | succ i => simp at hu
  | zero =>
    simp only [List.getElem?_cons_zero, Option.some.injEq] at hu
    subst hu
    match j, hp with
    | 0, hp => simp at hp; subst hp; simp [Addr.add]
    | 1, hp => simp at hp; subst hp; show World.cell? _ ⟨W.heap.size, 1, none⟩ = _; simp
    | 2, hp => simp at hp; subst hp; show World.cell? _ ⟨W.heap.size, 2, none⟩ = _; simp
    | j + 3, hp => simp at hp
set_option maxHeartbeats 4000000 in
set_option maxRecDepth 100000 in
theorem events_Sort.cmp (x y : S23) (W : World) : Calls Try.prog 53 #[.agg #[.int .i64 x.f0, .int .i64 x.f1, .int .i64 x.f2], .agg #[.int .i64 y.f0, .int .i64 y.f1, .int .i64 y.f2]] W fun e w' => e = .returned (.int .i64 (events_Sort.cf x y)) ∧ ∃ q os, w' = Sort.grow (W.drewN q) os := by
  have h0 := fun W => events_Sort.cmp1 x.f0 y.f0 W
  have h1 := fun W => events_Sort.cmp1 x.f1 y.f1 W
  have h2 := fun W => events_Sort.cmp1 x.f2 y.f2 W
  have h3 := events_Sort.or_f (if x.f0 < y.f0 then (-1 : Int) else if x.f0 > y.f0 then 1 else 0) (if x.f1 < y.f1 then (-1 : Int) else if x.f1 > y.f1 then 1 else 0) (if x.f2 < y.f2 then (-1 : Int) else if x.f2 > y.f2 then 1 else 0)
  rw [events_Sort.three x y] at h3
  generalize events_Sort.cf x y = r at h3 ⊢
  generalize (if x.f0 < y.f0 then (-1 : Int) else if x.f0 > y.f0 then 1 else 0) = r0 at h0 h3
  generalize (if x.f1 < y.f1 then (-1 : Int) else if x.f1 > y.f1 then 1 else 0) = r1 at h1 h3
  generalize (if x.f2 < y.f2 then (-1 : Int) else if x.f2 > y.f2 then 1 else 0) = r2 at h2 h3
  obtain ⟨x0, x1, x2⟩ := x
  obtain ⟨y0, y1, y2⟩ := y
  dsimp only at h0 h1 h2 ⊢
  have hor := fun W t => cmp_Or_int.calls 9 (some ⟨W.heap.size, 0, none⟩) 3 [r0, r1, r2] r _ (events_Sort.reads W t r0 r1 r2) (Nat.le_refl _) h3
  clear h3
  go_enter Try.func53, Try.ntmps53
  go_wp2_with (fail)
  refine wp_region_still_tail 15 (by kernel_rfl) (by kernel_rfl) ?_
  simp only [List.take_succ_cons, List.take_zero, List.drop_succ_cons, List.drop_zero]
  change wpStill _ _ (((W.alloc (.cells #[.int .i64 x0, .int .i64 x1, .int .i64 x2] 23)).alloc (.cells #[.int .i64 y0, .int .i64 y1, .int .i64 y2] 23)).drew) _ _ _
  iterate 4 still_step
  still_call (h0 _)
  iterate 4 still_step
  still_call (h1 _)
  iterate 4 still_step
  still_call (h2 _)
  refine wpStill_nil ?_
  clear h0 h1 h2
  obtain ⟨w2, hw2⟩ : ∃ w2 : World, w2 = (((W.alloc (.cells #[.int .i64 x0, .int .i64 x1, .int .i64 x2] 23)).alloc (.cells #[.int .i64 y0, .int .i64 y1, .int .i64 y2] 23)).drew) := ⟨_, rfl⟩
  change wpList _ _ _ _ _ (((W.alloc (.cells #[.int .i64 x0, .int .i64 x1, .int .i64 x2] 23)).alloc (.cells #[.int .i64 y0, .int .i64 y1, .int .i64 y2] 23)).drew)
  rw [← hw2]
  have HW := Aside0.mk hw2
  clear hw2
  have hor3 : Calls Try.prog 71 #[.slice (some ⟨w2.heap.size, 0, none⟩) 3 3] (w2.alloc (.cells #[.int .i64 r0, .int .i64 r1, .int .i64 r2] 3)) fun e w' => e = .returned (.int .i64 r) ∧ Drawn0 (w2.alloc (.cells #[.int .i64 r0, .int .i64 r1, .int .i64 r2] 3)) w' := hor w2 3
  clear hor
  go_wp2_with (go_at_call 71; refine hor3.mono ?_; rintro e w' ⟨rfl, ⟨q, rfl⟩⟩)
  go_ret
  refine ⟨rfl, q + 1, #[.cells #[.int .i64 x0, .int .i64 x1, .int .i64 x2] 23, .cells #[.int .i64 y0, .int .i64 y1, .int .i64 y2] 23, .cells #[.int .i64 r0, .int .i64 r1, .int .i64 r2] 3], ?_⟩
  rw [HW.out]
  have e : W.drawn + 1 + q = W.drawn + (q + 1) := by omega
  have e2 : ((W.heap.push (.cells #[.int .i64 x0, .int .i64 x1, .int .i64 x2] 23)).push (.cells #[.int .i64 y0, .int .i64 y1, .int .i64 y2] 23)).push (.cells #[.int .i64 r0, .int .i64 r1, .int .i64 r2] 3) = W.heap ++ #[.cells #[.int .i64 x0, .int .i64 x1, .int .i64 x2] 23, .cells #[.int .i64 y0, .int .i64 y1, .int .i64 y2] 23, .cells #[.int .i64 r0, .int .i64 r1, .int .i64 r2] 3] := by
    apply Array.toList_inj.1
    rw [Array.toList_push, Array.toList_push, Array.toList_push, Array.toList_append]
    simp only [List.append_assoc, List.singleton_append]
    rfl
  show World.mk _ _ _ _ _ = World.mk _ _ _ _ _
  congr 1
/-- One event ahead of another one. -/
def events_Sort.lt (x y : S23) : Prop := x.f0 < y.f0 ∨ (x.f0 = y.f0 ∧ (x.f1 < y.f1 ∨ (x.f1 = y.f1 ∧ x.f2 < y.f2)))
instance (x y : S23) : Decidable (events_Sort.lt x y) := by unfold events_Sort.lt; infer_instance
instance : Inhabited S23 := ⟨z23⟩
theorem events_Sort.cf_lt (x y : S23) : decide (events_Sort.cf x y < 0) = decide (events_Sort.lt x y) := by
  refine decide_eq_decide.2 ?_
  unfold events_Sort.cf events_Sort.lt
  by_cases a : x.f0 < y.f0
  · simp [a]
  · by_cases b : x.f0 > y.f0
    · rw [if_neg a, if_pos b]
      omega
    · rw [if_neg a, if_neg b]
      by_cases c : x.f1 < y.f1
      · rw [if_pos c]
        omega
      · by_cases d : x.f1 > y.f1
        · rw [if_neg c, if_pos d]
          omega
        · rw [if_neg c, if_neg d]
          by_cases e : x.f2 < y.f2
          · rw [if_pos e]
            omega
          · rw [if_neg e]
            split <;> omega
theorem events_Sort.ltOf_lt (x y : S23) : ltOf events_Sort.cf x y = decide (events_Sort.lt x y) := events_Sort.cf_lt x y
theorem events_Sort.swo : Sort.SWO (ltOf events_Sort.cf) where
  irrefl x := by
    rw [events_Sort.ltOf_lt]
    unfold events_Sort.lt
    exact decide_eq_false (by omega)
  trans x y z h1 h2 := by
    rw [events_Sort.ltOf_lt] at *
    have h1 := of_decide_eq_true h1
    have h2 := of_decide_eq_true h2
    unfold events_Sort.lt at *
    exact decide_eq_true (by omega)
  ntrans x y z h1 h2 := by
    rw [events_Sort.ltOf_lt] at *
    have h1 := of_decide_eq_false h1
    have h2 := of_decide_eq_false h2
    unfold events_Sort.lt at *
    exact decide_eq_false (by omega)
theorem events_Sort.tot (x y : S23) (h1 : ltOf events_Sort.cf x y = false) (h2 : ltOf events_Sort.cf y x = false) : x = y := by
  rw [events_Sort.ltOf_lt] at *
  have h1 := of_decide_eq_false h1
  have h2 := of_decide_eq_false h2
  unfold events_Sort.lt at *
  obtain ⟨x0, x1, x2⟩ := x
  obtain ⟨y0, y1, y2⟩ := y
  dsimp only at h1 h2
  obtain rfl : x0 = y0 := by omega
  obtain rfl : x1 = y1 := by omega
  obtain rfl : x2 = y2 := by omega
  rfl
theorem events_Sort.flat (l : List S23) (inner : List Value) (h : inner.length = l.length * 3) (hc : ∀ j p, l[j]? = some p → (inner.drop (j * 3)).take 3 = events_Sort.enc p) : inner = (Sort.flatK events_Sort.enc 3 l.toArray).toList := by
  have hs : (Sort.flatK events_Sort.enc 3 l.toArray).toList.length = l.length * 3 := by simp
  refine List.ext_getElem (by rw [h, hs]) fun t h1 h2 => ?_
  have ht : t < l.length * 3 := by omega
  have hd : t / 3 < l.length := by omega
  have g := Sort.get_flatK events_Sort.enc 3 l.toArray t (by simpa using ht)
  rw [getElem!_pos _ t (by simpa using ht)] at g
  have q := hc (t / 3) _ (List.getElem?_eq_getElem hd)
  have e : l.toArray[t / 3]! = l[t / 3] := by rw [getElem!_pos _ _ (by simpa using hd)]; rfl
  rw [e, ← q] at g
  have e2 : (Sort.flatK events_Sort.enc 3 l.toArray).toList[t] = (Sort.flatK events_Sort.enc 3 l.toArray)[t]'(by simpa using ht) := Array.getElem_toList _
  rw [e2, g]
  have hl : ((inner.drop (t / 3 * 3)).take 3).length = 3 := by rw [q]; rfl
  rw [getElem!_pos _ _ (by omega), List.getElem_take, List.getElem_drop]
  congr 1
  omega
theorem events_Sort.unflat (l : List S23) : ∀ j p, l[j]? = some p → ((Sort.flatK events_Sort.enc 3 l.toArray).toList.drop (j * 3)).take 3 = events_Sort.enc p := by
  intro j p hj
  obtain ⟨hj1, hj2⟩ := List.getElem?_eq_some_iff.1 hj
  have hs : (Sort.flatK events_Sort.enc 3 l.toArray).toList.length = l.length * 3 := by simp
  refine List.ext_getElem (by rw [List.length_take, List.length_drop, hs]; show _ = 3; omega) fun t h1 h2 => ?_
  have h3 : t < 3 := h2
  rw [List.getElem_take, List.getElem_drop, Array.getElem_toList]
  have g := Sort.get_flatK events_Sort.enc 3 l.toArray (j * 3 + t) (by simp; omega)
  rw [getElem!_pos _ _ (by simp; omega), show (j * 3 + t) / 3 = j from by omega, show (j * 3 + t) % 3 = t from by omega, show l.toArray[j]! = p from by rw [getElem!_pos _ _ (by simpa using hj1)]; exact hj2] at g
  rw [g, getElem!_pos (events_Sort.enc p) t h2]
theorem events_Sort.row (w : World) (base : Nat) (ok : Nat → Prop) (v : Value) (l : List S23) (h : Kd.R k23 23 w base ok v l) (hn : l.length < 1000000) :
    Calls Try.prog 52 #[v, .func (.func 53) #[] #[]] w fun e w' => e = .returned (.tuple #[]) ∧ Kd.R k23 23 w' base ok v (l.mergeSort events_Sort.le) ∧ Below base w w' := by
  obtain ⟨hok, inner, ⟨hlen, hv⟩, hr⟩ := h
  rcases hv with ⟨rfl, hz⟩ | ⟨g, cap, cur, rfl, hg, hh, hc1, hc2, hc3, hc4⟩
  · obtain rfl := List.length_eq_zero_iff.1 hz
    have q := AnyF.slices_SortFunc_none layEv none 0 (.func (.func 53) #[] #[]) w
    refine q.mono ?_
    rintro e w' ⟨rfl, rfl⟩
    exact ⟨rfl, by rw [List.mergeSort_nil]; exact Kd.R_nil _ _ _ _ _, Below.refl _ _⟩
  · change inner.length = l.length * 3 at hlen
    change cur.size = cap * 3 at hc3
    change cur.toList.take (l.length * 3) = inner at hc4
    have hin := events_Sort.flat l inner hlen (fun j p hj => k23_openM (hr.2 j p hj))
    have hgs : g < w.heap.size := (Array.getElem?_eq_some_iff.1 hh).1
    have hcells : ∀ j, j < l.length * 3 → cur[j]? = some ((Sort.flatK events_Sort.enc 3 l.toArray)[j]!) := by
      intro j hj
      have h1 : inner[j]? = cur[j]? := by rw [← hc4, List.getElem?_take_of_lt hj, Array.getElem?_toList]
      rw [← h1, hin, Array.getElem?_toList, getElem!_pos _ j (by simpa using hj), Array.getElem?_eq_getElem (by simpa using hj)]
    have hH : Sort.HoldsK events_Sort.enc 3 w g 0 l.toArray := by
      intro j hj
      have hj' : j < l.length * 3 := by simpa using hj
      constructor
      · unfold World.cell?
        simp only [hh, Nat.zero_add]
        exact hcells j hj'
      · unfold World.frozen?
        simp only [hh]
        simp
    have hcmp : CmpLays Try.prog 53 #[] events_Sort.enc 3 events_Sort.cf g 0 l.toArray.size w := fun m os dk hs x y => events_Sort.cmp x y _
    have q := AnyQ.slices_SortFunc_total layEv 3 Try.isAgg23 Try.sizeOf23 events_Sort.enc (fun _ => rfl) (by intro x v hv; simp [events_Sort.enc] at hv; rcases hv with rfl | rfl | rfl <;> rfl) events_Sort.cf events_Sort.swo 53 #[] g 0 cap l.toArray w (enters_of Try.func53 (by kernel_rfl) rfl) hcmp hH hgs (by simp; omega) events_Sort.tot
    rw [show l.toArray.size = l.length from rfl] at q
    refine q.mono ?_
    rintro e w' ⟨rfl, n, os, rfl⟩
    have hle : (fun x y : S23 => !ltOf events_Sort.cf y x) = events_Sort.le := rfl
    rw [show l.toArray.toList = l from rfl, hle]
    have hsl : (l.mergeSort events_Sort.le).length = l.length := List.length_mergeSort _
    generalize l.mergeSort events_Sort.le = s at hsl ⊢
    have hworld : ∀ k, k < w.heap.size → (sortWorldK events_Sort.enc 3 w g 0 n s.toArray os).heap[k]? = if g = k then (w.heap[k]?).map (Sort.onCells (Sort.putCells id 0 (Sort.flatK events_Sort.enc 3 s.toArray))) else w.heap[k]? := by
      intro k hk
      unfold sortWorldK Sort.grow Sort.putRowK Sort.putRow Sort.mapBlock Sort.ahead
      simp only
      rw [Array.getElem?_append_left (by simpa using hk), Array.getElem?_modify]
    refine ⟨rfl, ⟨hok, (Sort.flatK events_Sort.enc 3 s.toArray).toList, ⟨(by show _ = s.length * 3; simp), .inr ⟨g, cap, Sort.putCells id 0 (Sort.flatK events_Sort.enc 3 s.toArray) cur, by rw [hsl], hg, ?_, by omega, hc2, ?_, ?_⟩⟩, ?_⟩, ?_⟩
    · rw [hworld g hgs, if_pos rfl, hh]
      rfl
    · show (Sort.putCells id 0 (Sort.flatK events_Sort.enc 3 s.toArray) cur).size = cap * 3
      unfold Sort.putCells
      simpa using hc3
    · show (Sort.putCells id 0 (Sort.flatK events_Sort.enc 3 s.toArray) cur).toList.take (s.length * 3) = _
      have hp : ∀ t, t < s.length * 3 → (Sort.putCells id 0 (Sort.flatK events_Sort.enc 3 s.toArray) cur)[t]? = some ((Sort.flatK events_Sort.enc 3 s.toArray)[t]!) := by
        intro t ht
        have hc : t < cur.size := by omega
        unfold Sort.putCells
        rw [Array.getElem?_mapIdx, Array.getElem?_eq_getElem hc, Option.map_some, if_pos ⟨Nat.zero_le _, by simpa using ht⟩]
        rfl
      refine List.ext_getElem? fun t => ?_
      by_cases ht : t < s.length * 3
      · rw [List.getElem?_take_of_lt ht, Array.getElem?_toList, hp t ht, Array.getElem?_toList, Array.getElem?_eq_getElem (by simpa using ht), getElem!_pos _ t (by simpa using ht)]
      · rw [List.getElem?_eq_none (by rw [List.length_take]; omega), List.getElem?_eq_none (by simp; omega)]
    · refine ⟨(by show _ = s.length * 3; simp), fun j p hj => ?_⟩
      show k23.M _ _ _ _ ((List.drop (j * 3) _).take 3)
      rw [events_Sort.unflat s j p hj]
      exact k23_mkM _ _ _ p
    · refine ⟨rfl, rfl, rfl, ?_, fun k hk => ?_⟩
      · unfold sortWorldK Sort.grow Sort.putRowK Sort.putRow Sort.mapBlock Sort.ahead
        simp
      · rw [hworld k (by omega), if_neg (by omega)]
set_option maxHeartbeats 4000000 in
set_option maxRecDepth 100000 in
theorem events_Sort.calls (A0 : Option Addr) (c0 : Nat) (l0 : List S23) (r : List S23) (w : World) (hr0 : Kd.C k23 w A0 l0.length l0) (hc0 : l0.length ≤ c0) (h : events_Sort.f l0 = some r) :
    Calls Try.prog 27 #[.slice A0 l0.length c0] w fun e w' => ∃ v0_ : Value, e = .returned (v0_) ∧ Kd.R k23 23 w' w.heap.size (fun _ => True) v0_ r ∧ Below w.heap.size w w' := by
  unfold events_Sort.f at h
  split at h
  case isFalse => cases h
  case isTrue hn =>
  obtain rfl := Option.some.inj h
  clear h
  have hcl := api_Event.calls A0 c0 l0 l0 w hr0 hc0 (by
    unfold api_Event.f
    rw [Option.bind_some, if_pos (by simp; omega)]
    rfl)
  have HN := Aside0.mk hn
  clear hn hr0 hc0
  go_enter Try.func27, Try.ntmps27
  go_wp2_with (first | (go_at_call 51; refine hcl.mono ?_; rintro e w1 ⟨v1, rfl, hR, hb⟩; have HR := Aside0.mk hR; have HB := Aside0.mk hb; clear hR hb) | (go_at_call 52; refine (events_Sort.row _ _ _ _ _ HR.out HN.out).mono ?_; rintro e w2 ⟨rfl, hR2, hb2⟩; have HR2 := Aside0.mk hR2; have HB2 := Aside0.mk hb2; clear hR2 hb2))
  go_ret
  exact ⟨_, rfl, HR2.out, HB.out.trans HB2.out⟩

/-! ### regimenref36_Ahead: function 30 -/
def regimenref36_Ahead.f (a0_0 : Int) (a0_1 : Int) (a0_2 : Int) (a1_0 : Int) (a1_1 : Int) (a1_2 : Int) : Option (Bool) := if a0_0 = a1_0 then (if a0_1 = a1_1 then (some (decide (a0_2 < a1_2))) else (some (decide (a0_1 < a1_1)))) else (some (decide (a0_0 < a1_0)))
set_option maxHeartbeats 8000000 in
set_option maxRecDepth 100000 in
theorem regimenref36_Ahead.calls (a0_0 : Int) (a0_1 : Int) (a0_2 : Int) (a1_0 : Int) (a1_1 : Int) (a1_2 : Int) (r : Bool) (w : World) (h : regimenref36_Ahead.f a0_0 a0_1 a0_2 a1_0 a1_1 a1_2 = some r) :
    Calls Try.prog 30 #[.agg #[.int .i64 a0_0, .int .i64 a0_1, .int .i64 a0_2], .agg #[.int .i64 a1_0, .int .i64 a1_1, .int .i64 a1_2]] w fun e w' => e = .returned (.bool r) ∧ Below w.heap.size w w' := by
  have hu23 := Try.underlying23
  have HB := Aside0.mk (Below.refl w.heap.size w)
  have H : (if a0_0 = a1_0 then (if a0_1 = a1_1 then (some (decide (a0_2 < a1_2))) else (some (decide (a0_1 < a1_1)))) else (some (decide (a0_0 < a1_0)))) = some r := h
  clear h
  by_cases c3 : a0_0 = a1_0
  · rw [if_pos c3] at H
    have c3b0 : (a0_0 == a1_0) = true := beq_iff_eq.mpr c3
    have c3b1 : (a0_0 != a1_0) = false := bne_eq_false_iff_eq.mpr c3
    clear c3
    by_cases c4 : a0_1 = a1_1
    · rw [if_pos c4] at H
      have c4b0 : (a0_1 == a1_1) = true := beq_iff_eq.mpr c4
      have c4b1 : (a0_1 != a1_1) = false := bne_eq_false_iff_eq.mpr c4
      clear c4
      obtain rfl := Option.some.inj H
      go_enter Try.func30, Try.ntmps30
      go_wp2_with (first | ((with_reducible refine gate_dst (N := 2) rfl ?_); refine box_event ?hg (N := 2) ?hd (cs := #[.int .i64 a0_0, .int .i64 a0_1, .int .i64 a0_2]) (t := 23) ?hr ?_; (case hd => rfl); (case hg => rfl); (case hr => first | (go_simp; done) | (go_simp; rfl)); intro gb157 hg w5 hbox hb; have n0_ := Aside0.mk (below_step (by repeat (first | (with_reducible first | exact HB.out | apply below_alloc | apply pw_below_drewN | apply below_drew1) | exact HB.out)) hb); have n1_ := Aside0.mk (hbox); have n2_ := Aside0.mk ((by rw [hg]; exact (below_size (by repeat (first | (with_reducible first | exact HB.out | apply below_alloc | apply pw_below_drewN | apply below_drew1) | exact HB.out))) : w.heap.size ≤ gb157)); have n3_ := Aside0.mk ((by rw [hg]; exact (below_size (by repeat (first | (with_reducible first | exact HB.out | apply below_alloc | apply pw_below_drewN | apply below_drew1) | exact HB.out))) : w.heap.size ≤ gb157)); clear HB; have HB := n0_; have BK157 := n1_; have GW157 := n2_; have GE157 := n3_; clear n0_ n1_ n2_ n3_; clear hb hbox hg) | ((with_reducible refine gate_dst (N := 3) rfl ?_); refine box_event ?hg (N := 3) ?hd (cs := #[.int .i64 a1_0, .int .i64 a1_1, .int .i64 a1_2]) (t := 23) ?hr ?_; (case hd => rfl); (case hg => rfl); (case hr => first | (go_simp; done) | (go_simp; rfl)); intro gb158 hg w6 hbox hb; have n0_ := Aside0.mk (blk_below (g := gb157) (o := .cells #[.int .i64 a0_0, .int .i64 a0_1, .int .i64 a0_2] 23 (0, 0)) (by (with_reducible repeat (first | refine blk_drewN ?_ _ | refine blk_drew ?_ | refine blk_alloc ?_ _)); exact BK157.out) hb); have n1_ := Aside0.mk (below_step (by repeat (first | (with_reducible first | exact HB.out | apply below_alloc | apply pw_below_drewN | apply below_drew1 | refine below_set ?_ GE157.out) | exact HB.out)) hb); have n2_ := Aside0.mk (hbox); have n3_ := Aside0.mk ((by rw [hg]; exact (below_size (by repeat (first | (with_reducible first | exact HB.out | apply below_alloc | apply pw_below_drewN | apply below_drew1 | refine below_set ?_ GE157.out) | exact HB.out))) : w.heap.size ≤ gb158)); have n4_ := Aside0.mk ((by rw [hg]; exact (below_size (by repeat (first | (with_reducible first | exact HB.out | apply below_alloc | apply pw_below_drewN | apply below_drew1 | refine below_set ?_ GE157.out) | exact HB.out))) : w.heap.size ≤ gb158)); have n5_ := Aside0.mk ((by rw [hg]; exact Nat.ne_of_lt (blk_lt (g := gb157) (o := .cells #[.int .i64 a0_0, .int .i64 a0_1, .int .i64 a0_2] 23 (0, 0)) (by (with_reducible repeat (first | refine blk_drewN ?_ _ | refine blk_drew ?_ | refine blk_alloc ?_ _)); exact BK157.out)) : gb157 ≠ gb158)); have n6_ := Aside0.mk ((by rw [hg]; exact Nat.ne_of_gt (blk_lt (g := gb157) (o := .cells #[.int .i64 a0_0, .int .i64 a0_1, .int .i64 a0_2] 23 (0, 0)) (by (with_reducible repeat (first | refine blk_drewN ?_ _ | refine blk_drew ?_ | refine blk_alloc ?_ _)); exact BK157.out)) : gb158 ≠ gb157)); clear BK157; clear HB; have BK157 := n0_; have HB := n1_; have BK158 := n2_; have GW158 := n3_; have GE158 := n4_; have NB157_158 := n5_; have NB158_157 := n6_; clear n0_ n1_ n2_ n3_ n4_ n5_ n6_; clear hb hbox hg; have hnb7 := NB157_158.out; have hnc7 := NB158_157.out; have hcz8_0 : w6.cell? ⟨gb157, 0, none⟩ = some (.int .i64 a0_0) := (blk_cell BK157.out 0).trans rfl; have hcz8_1 : w6.cell? ⟨gb157, 1, none⟩ = some (.int .i64 a0_1) := (blk_cell BK157.out 1).trans rfl; have hcz8_2 : w6.cell? ⟨gb157, 2, none⟩ = some (.int .i64 a0_2) := (blk_cell BK157.out 2).trans rfl; have hfz8_0 := blk_frozen BK157.out 0; have hfz8_1 := blk_frozen BK157.out 1; have hfz8_2 := blk_frozen BK157.out 2; have hcz9_0 : w6.cell? ⟨gb158, 0, none⟩ = some (.int .i64 a1_0) := (blk_cell BK158.out 0).trans rfl; have hcz9_1 : w6.cell? ⟨gb158, 1, none⟩ = some (.int .i64 a1_1) := (blk_cell BK158.out 1).trans rfl; have hcz9_2 : w6.cell? ⟨gb158, 2, none⟩ = some (.int .i64 a1_2) := (blk_cell BK158.out 2).trans rfl; have hfz9_0 := blk_frozen BK158.out 0; have hfz9_1 := blk_frozen BK158.out 1; have hfz9_2 := blk_frozen BK158.out 2))
      go_ret
      exact ⟨by first | rfl | (simp [errW_none, errW_some] <;> rfl) | (simp [*, errW_none, errW_some] <;> rfl), by repeat (first | (with_reducible first | exact HB.out | apply below_alloc | apply pw_below_drewN | apply below_drew1 | refine below_set ?_ GE157.out | refine below_set ?_ GE158.out) | exact HB.out)⟩
    · rw [if_neg c4] at H
      have c4b0 : (a0_1 == a1_1) = false := beq_eq_false_iff_ne.mpr c4
      have c4b1 : (a0_1 != a1_1) = true := bne_iff_ne.mpr c4
      obtain rfl := Option.some.inj H
      go_enter Try.func30, Try.ntmps30
      go_wp2_with (first | ((with_reducible refine gate_dst (N := 2) rfl ?_); refine box_event ?hg (N := 2) ?hd (cs := #[.int .i64 a0_0, .int .i64 a0_1, .int .i64 a0_2]) (t := 23) ?hr ?_; (case hd => rfl); (case hg => rfl); (case hr => first | (go_simp; done) | (go_simp; rfl)); intro gb157 hg w10 hbox hb; have n0_ := Aside0.mk (below_step (by repeat (first | (with_reducible first | exact HB.out | apply below_alloc | apply pw_below_drewN | apply below_drew1) | exact HB.out)) hb); have n1_ := Aside0.mk (hbox); have n2_ := Aside0.mk ((by rw [hg]; exact (below_size (by repeat (first | (with_reducible first | exact HB.out | apply below_alloc | apply pw_below_drewN | apply below_drew1) | exact HB.out))) : w.heap.size ≤ gb157)); have n3_ := Aside0.mk ((by rw [hg]; exact (below_size (by repeat (first | (with_reducible first | exact HB.out | apply below_alloc | apply pw_below_drewN | apply below_drew1) | exact HB.out))) : w.heap.size ≤ gb157)); clear HB; have HB := n0_; have BK157 := n1_; have GW157 := n2_; have GE157 := n3_; clear n0_ n1_ n2_ n3_; clear hb hbox hg) | ((with_reducible refine gate_dst (N := 3) rfl ?_); refine box_event ?hg (N := 3) ?hd (cs := #[.int .i64 a1_0, .int .i64 a1_1, .int .i64 a1_2]) (t := 23) ?hr ?_; (case hd => rfl); (case hg => rfl); (case hr => first | (go_simp; done) | (go_simp; rfl)); intro gb158 hg w11 hbox hb; have n0_ := Aside0.mk (blk_below (g := gb157) (o := .cells #[.int .i64 a0_0, .int .i64 a0_1, .int .i64 a0_2] 23 (0, 0)) (by (with_reducible repeat (first | refine blk_drewN ?_ _ | refine blk_drew ?_ | refine blk_alloc ?_ _)); exact BK157.out) hb); have n1_ := Aside0.mk (below_step (by repeat (first | (with_reducible first | exact HB.out | apply below_alloc | apply pw_below_drewN | apply below_drew1 | refine below_set ?_ GE157.out) | exact HB.out)) hb); have n2_ := Aside0.mk (hbox); have n3_ := Aside0.mk ((by rw [hg]; exact (below_size (by repeat (first | (with_reducible first | exact HB.out | apply below_alloc | apply pw_below_drewN | apply below_drew1 | refine below_set ?_ GE157.out) | exact HB.out))) : w.heap.size ≤ gb158)); have n4_ := Aside0.mk ((by rw [hg]; exact (below_size (by repeat (first | (with_reducible first | exact HB.out | apply below_alloc | apply pw_below_drewN | apply below_drew1 | refine below_set ?_ GE157.out) | exact HB.out))) : w.heap.size ≤ gb158)); have n5_ := Aside0.mk ((by rw [hg]; exact Nat.ne_of_lt (blk_lt (g := gb157) (o := .cells #[.int .i64 a0_0, .int .i64 a0_1, .int .i64 a0_2] 23 (0, 0)) (by (with_reducible repeat (first | refine blk_drewN ?_ _ | refine blk_drew ?_ | refine blk_alloc ?_ _)); exact BK157.out)) : gb157 ≠ gb158)); have n6_ := Aside0.mk ((by rw [hg]; exact Nat.ne_of_gt (blk_lt (g := gb157) (o := .cells #[.int .i64 a0_0, .int .i64 a0_1, .int .i64 a0_2] 23 (0, 0)) (by (with_reducible repeat (first | refine blk_drewN ?_ _ | refine blk_drew ?_ | refine blk_alloc ?_ _)); exact BK157.out)) : gb158 ≠ gb157)); clear BK157; clear HB; have BK157 := n0_; have HB := n1_; have BK158 := n2_; have GW158 := n3_; have GE158 := n4_; have NB157_158 := n5_; have NB158_157 := n6_; clear n0_ n1_ n2_ n3_ n4_ n5_ n6_; clear hb hbox hg; have hnb12 := NB157_158.out; have hnc12 := NB158_157.out; have hcz13_0 : w11.cell? ⟨gb157, 0, none⟩ = some (.int .i64 a0_0) := (blk_cell BK157.out 0).trans rfl; have hcz13_1 : w11.cell? ⟨gb157, 1, none⟩ = some (.int .i64 a0_1) := (blk_cell BK157.out 1).trans rfl; have hcz13_2 : w11.cell? ⟨gb157, 2, none⟩ = some (.int .i64 a0_2) := (blk_cell BK157.out 2).trans rfl; have hfz13_0 := blk_frozen BK157.out 0; have hfz13_1 := blk_frozen BK157.out 1; have hfz13_2 := blk_frozen BK157.out 2; have hcz14_0 : w11.cell? ⟨gb158, 0, none⟩ = some (.int .i64 a1_0) := (blk_cell BK158.out 0).trans rfl; have hcz14_1 : w11.cell? ⟨gb158, 1, none⟩ = some (.int .i64 a1_1) := (blk_cell BK158.out 1).trans rfl; have hcz14_2 : w11.cell? ⟨gb158, 2, none⟩ = some (.int .i64 a1_2) := (blk_cell BK158.out 2).trans rfl; have hfz14_0 := blk_frozen BK158.out 0; have hfz14_1 := blk_frozen BK158.out 1; have hfz14_2 := blk_frozen BK158.out 2))
      go_ret
      exact ⟨by first | rfl | (simp [errW_none, errW_some] <;> rfl) | (simp [*, errW_none, errW_some] <;> rfl), by repeat (first | (with_reducible first | exact HB.out | apply below_alloc | apply pw_below_drewN | apply below_drew1 | refine below_set ?_ GE157.out | refine below_set ?_ GE158.out) | exact HB.out)⟩
  · rw [if_neg c3] at H
    have c3b0 : (a0_0 == a1_0) = false := beq_eq_false_iff_ne.mpr c3
    have c3b1 : (a0_0 != a1_0) = true := bne_iff_ne.mpr c3
    obtain rfl := Option.some.inj H
    go_enter Try.func30, Try.ntmps30
    go_wp2_with (first | ((with_reducible refine gate_dst (N := 2) rfl ?_); refine box_event ?hg (N := 2) ?hd (cs := #[.int .i64 a0_0, .int .i64 a0_1, .int .i64 a0_2]) (t := 23) ?hr ?_; (case hd => rfl); (case hg => rfl); (case hr => first | (go_simp; done) | (go_simp; rfl)); intro gb157 hg w15 hbox hb; have n0_ := Aside0.mk (below_step (by repeat (first | (with_reducible first | exact HB.out | apply below_alloc | apply pw_below_drewN | apply below_drew1) | exact HB.out)) hb); have n1_ := Aside0.mk (hbox); have n2_ := Aside0.mk ((by rw [hg]; exact (below_size (by repeat (first | (with_reducible first | exact HB.out | apply below_alloc | apply pw_below_drewN | apply below_drew1) | exact HB.out))) : w.heap.size ≤ gb157)); have n3_ := Aside0.mk ((by rw [hg]; exact (below_size (by repeat (first | (with_reducible first | exact HB.out | apply below_alloc | apply pw_below_drewN | apply below_drew1) | exact HB.out))) : w.heap.size ≤ gb157)); clear HB; have HB := n0_; have BK157 := n1_; have GW157 := n2_; have GE157 := n3_; clear n0_ n1_ n2_ n3_; clear hb hbox hg) | ((with_reducible refine gate_dst (N := 3) rfl ?_); refine box_event ?hg (N := 3) ?hd (cs := #[.int .i64 a1_0, .int .i64 a1_1, .int .i64 a1_2]) (t := 23) ?hr ?_; (case hd => rfl); (case hg => rfl); (case hr => first | (go_simp; done) | (go_simp; rfl)); intro gb158 hg w16 hbox hb; have n0_ := Aside0.mk (blk_below (g := gb157) (o := .cells #[.int .i64 a0_0, .int .i64 a0_1, .int .i64 a0_2] 23 (0, 0)) (by (with_reducible repeat (first | refine blk_drewN ?_ _ | refine blk_drew ?_ | refine blk_alloc ?_ _)); exact BK157.out) hb); have n1_ := Aside0.mk (below_step (by repeat (first | (with_reducible first | exact HB.out | apply below_alloc | apply pw_below_drewN | apply below_drew1 | refine below_set ?_ GE157.out) | exact HB.out)) hb); have n2_ := Aside0.mk (hbox); have n3_ := Aside0.mk ((by rw [hg]; exact (below_size (by repeat (first | (with_reducible first | exact HB.out | apply below_alloc | apply pw_below_drewN | apply below_drew1 | refine below_set ?_ GE157.out) | exact HB.out))) : w.heap.size ≤ gb158)); have n4_ := Aside0.mk ((by rw [hg]; exact (below_size (by repeat (first | (with_reducible first | exact HB.out | apply below_alloc | apply pw_below_drewN | apply below_drew1 | refine below_set ?_ GE157.out) | exact HB.out))) : w.heap.size ≤ gb158)); have n5_ := Aside0.mk ((by rw [hg]; exact Nat.ne_of_lt (blk_lt (g := gb157) (o := .cells #[.int .i64 a0_0, .int .i64 a0_1, .int .i64 a0_2] 23 (0, 0)) (by (with_reducible repeat (first | refine blk_drewN ?_ _ | refine blk_drew ?_ | refine blk_alloc ?_ _)); exact BK157.out)) : gb157 ≠ gb158)); have n6_ := Aside0.mk ((by rw [hg]; exact Nat.ne_of_gt (blk_lt (g := gb157) (o := .cells #[.int .i64 a0_0, .int .i64 a0_1, .int .i64 a0_2] 23 (0, 0)) (by (with_reducible repeat (first | refine blk_drewN ?_ _ | refine blk_drew ?_ | refine blk_alloc ?_ _)); exact BK157.out)) : gb158 ≠ gb157)); clear BK157; clear HB; have BK157 := n0_; have HB := n1_; have BK158 := n2_; have GW158 := n3_; have GE158 := n4_; have NB157_158 := n5_; have NB158_157 := n6_; clear n0_ n1_ n2_ n3_ n4_ n5_ n6_; clear hb hbox hg; have hnb17 := NB157_158.out; have hnc17 := NB158_157.out; have hcz18_0 : w16.cell? ⟨gb157, 0, none⟩ = some (.int .i64 a0_0) := (blk_cell BK157.out 0).trans rfl; have hcz18_1 : w16.cell? ⟨gb157, 1, none⟩ = some (.int .i64 a0_1) := (blk_cell BK157.out 1).trans rfl; have hcz18_2 : w16.cell? ⟨gb157, 2, none⟩ = some (.int .i64 a0_2) := (blk_cell BK157.out 2).trans rfl; have hfz18_0 := blk_frozen BK157.out 0; have hfz18_1 := blk_frozen BK157.out 1; have hfz18_2 := blk_frozen BK157.out 2; have hcz19_0 : w16.cell? ⟨gb158, 0, none⟩ = some (.int .i64 a1_0) := (blk_cell BK158.out 0).trans rfl; have hcz19_1 : w16.cell? ⟨gb158, 1, none⟩ = some (.int .i64 a1_1) := (blk_cell BK158.out 1).trans rfl; have hcz19_2 : w16.cell? ⟨gb158, 2, none⟩ = some (.int .i64 a1_2) := (blk_cell BK158.out 2).trans rfl; have hfz19_0 := blk_frozen BK158.out 0; have hfz19_1 := blk_frozen BK158.out 1; have hfz19_2 := blk_frozen BK158.out 2))
    go_ret
    exact ⟨by first | rfl | (simp [errW_none, errW_some] <;> rfl) | (simp [*, errW_none, errW_some] <;> rfl), by repeat (first | (with_reducible first | exact HB.out | apply below_alloc | apply pw_below_drewN | apply below_drew1 | refine below_set ?_ GE157.out | refine below_set ?_ GE158.out) | exact HB.out)⟩

end Go.Proofs.Ytcgdhpnobgimfaa.PZ
